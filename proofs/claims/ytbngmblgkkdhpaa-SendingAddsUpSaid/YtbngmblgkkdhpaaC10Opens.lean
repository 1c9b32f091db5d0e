/- Data that came in, told as the values of the print's kinds: a type's reading gives a value of its kind, well formed and no larger than the reach allows. -/
-- Made by wip/tools/claimp.py of this session's texts; Lean checks it.
import Derived.Test.YtbngmblgkkdhpaaC10WWords
import Derived.Deep.Slices
import Derived.SizedLaws
import Derived.ChangeArms
set_option linter.unusedVariables false
set_option linter.unusedSimpArgs false
namespace Go.Proofs.Ytbngmblgkkdhpaa.Opens
open Go.Proofs.YtbngmblgkkdhpaaW.PrintWords Go.Deep Go.ChangeShapes Go.WideShapes
def Small {H : Type} (P : Program) (t : TypeId) (d : DataW H) : Prop := ∀ n ∈ d.weights P t, n ≤ 140737488351232
/-- Whatever reads as a datum of type t holds a value of kind d, of which Q is so. -/
def Opens {α : Type} (P : Program) (t : TypeId) (d : Kd α) (Q : α → Prop) : Prop :=
  P.cellsOf t = d.sz ∧ ∀ (H : Type) (enc : TypeId × Value → H) (w : World) (base : Nat) (spare : Nat → Bool) (held : Bool) (fuel : Nat) (cs : List Value) (x : DataW H × List MemPlace),
    DataW.trod enc P w base spare held fuel t cs = some x → Small P t x.1 → ∃ a, d.K w a cs ∧ Q a
section
variable {α : Type} {P : Program} {d : Kd α} {Q : α → Prop} {t e : TypeId}
theorem Opens.imp {Q' : α → Prop} (h : Opens P t d Q) (hq : ∀ a, Q a → Q' a) : Opens P t d Q' :=
  ⟨h.1, fun H enc w base spare held fuel cs x hx hs => by
    obtain ⟨a, hk, ha⟩ := h.2 H enc w base spare held fuel cs x hx hs
    exact ⟨a, hk, hq a ha⟩⟩
theorem opens_int {k : IntKind} (ht : P.underlying t = some (.int k)) (hc : P.cellsOf t = 1) : Opens P t (Kd.int k) (fun a => (Lit.int k a).wf = true) :=
  ⟨hc, fun H enc w base spare held fuel cs x h _ => by
    obtain ⟨n, rfl, _, hw⟩ := DataW.trod_int ht h
    exact ⟨n, rfl, hw⟩⟩
theorem opens_str (ht : P.underlying t = some .string) (hc : P.cellsOf t = 1) : Opens P t Kd.string (fun s => s.size ≤ 140737488351232) :=
  ⟨hc, fun H enc w base spare held fuel cs x h hs => by
    obtain ⟨s, rfl, hx, _⟩ := DataW.trod_string ht h
    refine ⟨s, rfl, ?_⟩
    have := hs s.data.toList.length (by rw [hx]; simp [DataW.weights])
    simpa using this⟩
theorem list_of_lt {β : Type} {p : Nat → β → Prop} : ∀ {n : Nat}, (∀ i, i < n → ∃ x, p i x) → ∃ xs : List β, xs.length = n ∧ ∀ i x, xs[i]? = some x → p i x
  | 0, _ => ⟨[], rfl, fun i x h => by simp at h⟩
  | n + 1, h => by
    obtain ⟨xs, hl, hx⟩ := list_of_lt (n := n) (fun i hi => h i (Nat.lt_succ_of_lt hi))
    obtain ⟨y, hy⟩ := h n (Nat.lt_succ_self n)
    refine ⟨xs ++ [y], by simp [hl], fun i x hi => ?_⟩
    by_cases hlt : i < n
    · rw [List.getElem?_append_left (by omega)] at hi
      exact hx i x hi
    · have hlen : i < (xs ++ [y]).length := (List.getElem?_eq_some_iff.1 hi).1
      have : i = n := by simp [hl] at hlen; omega
      subst this
      rw [List.getElem?_append_right (by omega), hl] at hi
      simp at hi
      subst hi
      exact hy
theorem weightsAll_mem {H : Type} {dd : DataW H} {n : Nat} : ∀ {l : List (DataW H)}, dd ∈ l → n ∈ dd.weights P e → n ∈ DataW.weightsAll P e l
  | y :: l, hm, hn => by
    simp only [DataW.weightsAll, List.mem_append]
    rcases List.mem_cons.1 hm with rfl | hm
    · exact .inl hn
    · exact .inr (weightsAll_mem hm hn)
theorem opens_slice {B : Nat} (ht : P.underlying t = some (.slice e)) (hc : P.cellsOf t = 1) (hB : P.bytesOf e = B) (he : Opens P e d Q) :
    Opens P t (Kd.slice e d) (fun xs => xs.length * B ≤ 140737488351232 ∧ ∀ x ∈ xs, Q x) := by
  refine ⟨hc, fun H enc w base spare held fuel cs x h hs => ?_⟩
  rcases open_slice ht h with ⟨rfl, _⟩ | ⟨a, len, cap, m, n, D, Pl, rfl, hb, hl, hm, hmm, rfl, hx⟩
  · exact ⟨[], ⟨none, 0, rfl, Nat.le_refl _, ⟨rfl, by simp, fun h => absurd h (by simp)⟩⟩, by simp, fun _ h => by cases h⟩
  · have hle : len ≤ m := by rw [hmm]; split <;> omega
    have hw : len * B ≤ 140737488351232 := by
      have h1 := hs (((List.range len).map D).length * B + ((List.range (m - len)).map fun j => D (len + j)).length * B) (by simp [DataW.weights, ht, hB, Nat.add_mul])
      simp only [List.length_map, List.length_range] at h1
      exact Nat.le_trans (Nat.le_add_right _ _) h1
    have key : ∀ i, i < len → ∃ a1 : α, (∃ cs', w.cells? base (a.add (i * P.cellsOf e)) (P.cellsOf e) = some cs' ∧ d.K w a1 cs') ∧ Q a1 := by
      intro i hi
      obtain ⟨cs', h1, h2⟩ := hx i (by omega)
      obtain ⟨a1, hk, hq⟩ := he.2 H enc w base spare held n cs' _ h2 (fun n' hn' => hs n' (by
        simp only [DataW.weights, ht]
        exact List.mem_cons_of_mem _ (List.mem_append_left _ (weightsAll_mem (List.mem_map.2 ⟨i, List.mem_range.2 hi, rfl⟩) hn'))))
      exact ⟨a1, ⟨cs', h1, hk⟩, hq⟩
    obtain ⟨xs, hlen, hxs⟩ := list_of_lt key
    subst hlen
    unfold maxLen at hm
    refine ⟨xs, ⟨some a, cap, rfl, hl, ⟨rfl, by omega, fun _ => ⟨a, rfl, fun j p hj => ?_⟩⟩⟩, hw, fun x hx => ?_⟩
    · obtain ⟨⟨cs', h1, h2⟩, _⟩ := hxs j p hj
      obtain ⟨_, h3, h4⟩ := World.cells?_some h1
      refine ⟨cs', by rw [h3, he.1], h2, fun i u hu => ?_⟩
      have hi : i < P.cellsOf e := by rw [← h3]; exact (List.getElem?_eq_some_iff.1 hu).1
      rw [← he.1, ← Go.Deep.add_add, h4 i hi, hu]
    · obtain ⟨i, hi, rfl⟩ := List.mem_iff_getElem.1 hx
      exact (hxs i _ (List.getElem?_eq_getElem hi)).2
end
/-- The same of a struct's fields, from cell o on. -/
def OpensF {α : Type} (P : Program) (fs : List Field) (o : Nat) (d : Kd α) (Q : α → Prop) : Prop :=
  ∀ (H : Type) (enc : TypeId × Value → H) (w : World) (base : Nat) (spare : Nat → Bool) (held : Bool) (fuel : Nat) (cs : List Value), o + d.sz ≤ cs.length →
    (∀ f ∈ fs, ∃ y, DataW.trod enc P w base spare held fuel f.type ((cs.drop f.offset).take (P.cellsOf f.type)) = some y ∧ Small P f.type y.1) →
    ∃ a, d.K w a ((cs.drop o).take d.sz) ∧ Q a
section
variable {α β γ : Type} {P : Program} {d : Kd α} {Q : α → Prop} {d2 : Kd β} {Q2 : β → Prop} {t : TypeId} {f : Field} {fs : List Field} {o : Nat}
theorem opensF_one (ho : f.offset = o) (h : Opens P f.type d Q) : OpensF P [f] o d Q := by
  intro H enc w base spare held fuel cs hl hf
  obtain ⟨y, hy, hs⟩ := hf f (List.mem_singleton.2 rfl)
  rw [ho, h.1] at hy
  exact h.2 H enc w base spare held fuel _ y hy hs
theorem opensF_cons (ho : f.offset = o) (h : Opens P f.type d Q) (hf : OpensF P fs (o + d.sz) d2 Q2) : OpensF P (f :: fs) o (Kd.pair d d2) (fun x => Q x.1 ∧ Q2 x.2) := by
  intro H enc w base spare held fuel cs hl hg
  have hsz : (Kd.pair d d2).sz = d.sz + d2.sz := rfl
  rw [hsz] at hl
  obtain ⟨y, hy, hs⟩ := hg f List.mem_cons_self
  rw [ho, h.1] at hy
  obtain ⟨a, ha, hqa⟩ := h.2 H enc w base spare held fuel _ y hy hs
  obtain ⟨b, hb, hqb⟩ := hf H enc w base spare held fuel cs (by omega) (fun f' hf' => hg f' (List.mem_cons_of_mem _ hf'))
  refine ⟨(a, b), ⟨_, _, ?_, ha, hb⟩, hqa, hqb⟩
  rw [hsz, List.take_add, List.drop_drop]
theorem opens_struct {fs : Array Field} (ht : P.underlying t = some (.struct fs)) (hc : P.cellsOf t = d.sz) (hf : OpensF P fs.toList 0 d Q) (g : γ → α) (mk : α → γ) (hg : ∀ a, g (mk a) = a) : Opens P t (Kd.iso d g) (fun x => Q (g x)) := by
  refine ⟨hc, fun H enc w base spare held fuel cs x h hs => ?_⟩
  obtain ⟨xs, n, rfl, rfl, hl, hxl, hx⟩ := DataW.trod_struct ht h
  obtain ⟨a, ha, hq⟩ := hf H enc w base spare held n cs (by omega) (fun f hm => by
    obtain ⟨i, hi, rfl⟩ := List.mem_iff_getElem.1 hm
    have hi' : i < fs.size := by simpa using hi
    have h1 := hx i fs[i] (Array.getElem?_eq_getElem hi')
    have hix : i < xs.length := by omega
    rw [List.getElem?_eq_getElem hix] at h1
    refine ⟨_, by simpa using h1, fun n' hn' => hs n' ?_⟩
    simp only [DataW.weights, ht]
    refine DataW.weights_mem_each (j := i) (t := fs[i].type) (d := xs[i].1) (by simp [hi']) (by simp [hix]) n' (by simpa using hn'))
  refine ⟨mk a, ?_, by show Q (g (mk a)); rw [hg]; exact hq⟩
  show d.K w (g (mk a)) cs
  rw [hg]
  have he : (cs.drop 0).take d.sz = cs := by rw [List.drop_zero, ← hc, ← hl, List.take_length]
  rwa [he] at ha
end
section
variable {H : Type} {enc : TypeId × Value → H} {P : Program} {W : World} {base : Nat} {spare : Nat → Bool} {held : Bool} {α : Type} {d : Kd α} {t e : TypeId}
theorem small_each {ts : List TypeId} {ds : List (DataW H)} {j : Nat} {dd : DataW H} (hsz : (DataW.weightsEach P ts ds).all (· ≤ reachBytes) = true) (ht : ts[j]? = some t) (hd : ds[j]? = some dd) : Small P t dd := by
  intro n hn
  have := List.all_eq_true.1 hsz _ (DataW.weights_mem_each ht hd n hn)
  exact of_decide_eq_true this
/-- A slice that came in. -/
theorem slice_arg {Q : List α → Prop} {a : Option Addr} {len cap : Nat} {dd : DataW H} {ps : List MemPlace} (ho : Opens P t (Kd.slice e d) Q) (h : DataW.Trod enc P W base spare held t (.slice a len cap) dd ps) (hs : Small P t dd) :
    ∃ l : List α, len = l.length ∧ l.length ≤ cap ∧ Kd.C d W a l.length l ∧ Q l := by
  obtain ⟨fuel, hf⟩ := h
  obtain ⟨l, ⟨A, c, hcs, hl, hC⟩, hq⟩ := ho.2 H enc W base spare held fuel _ _ hf hs
  simp only [Value.cells, List.cons.injEq, Value.slice.injEq, and_true] at hcs
  obtain ⟨rfl, rfl, rfl⟩ := hcs
  exact ⟨l, rfl, hl, hC, hq⟩
end
end Go.Proofs.Ytbngmblgkkdhpaa.Opens
