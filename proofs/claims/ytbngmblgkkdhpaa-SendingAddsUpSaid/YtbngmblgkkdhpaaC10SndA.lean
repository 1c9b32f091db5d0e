/- Sending, in plain Lean: what is told of parts, the simulation by milliseconds, the stretches, which item goes. -/
-- Made by wip/tools/claimp.py of this session's texts; Lean checks it.
import Derived.Test.YtbngmblgkkdhpaaC10Gs5
import Derived.Test.YtbngmblgkkdhpaaC10PassA
set_option linter.unusedVariables false
set_option linter.unusedSimpArgs false
namespace Go.Proofs.Ytbngmblgkkdhpaa.Q
open Go.RowKit Go.Proofs.YtbngmblgkkdhpaaW.PrintWords Go.Proofs.YtbngmblgkkdhpaaW.PrintLast Go.Proofs.YtbngmblgkkdhpaaW.PrintMore Go.Proofs.Ytbngmblgkkdhpaa.Base
namespace Snd
/-- The last part of an item in a pass. -/
def lastIx (P : List S61) (nm : ByteArray) (k : Int) : Option Nat :=
  match P with
  | [] => none
  | p :: r => match lastIx r nm k with
    | some n => some (n + 1)
    | none => if p.f0 = nm ∧ p.f1 = k then some 0 else none
def upd (p : S61) (to_ size : Int) : S61 := ⟨p.f0, p.f1, p.f2, to_, p.f4 + size⟩
/-- Bytes of an item in a pass are told. -/
def tell (P : List S61) (nm : ByteArray) (k frm to_ size : Int) : List S61 :=
  match lastIx P nm k with
  | some n => match P[n]? with
    | some p => if p.f3 = frm then P.set n (upd p to_ size) else P ++ [⟨nm, k, frm, to_, size⟩]
    | none => P ++ [⟨nm, k, frm, to_, size⟩]
  | none => P ++ [⟨nm, k, frm, to_, size⟩]
theorem lastIx_some {P : List S61} {nm : ByteArray} {k : Int} : ∀ {n : Nat}, lastIx P nm k = some n → ∃ p, P[n]? = some p ∧ p.f0 = nm ∧ p.f1 = k := by
  induction P with
  | nil => intro n h; cases h
  | cons p r ih =>
    intro n h
    unfold lastIx at h
    cases hr : lastIx r nm k with
    | some m =>
      rw [hr] at h
      obtain rfl := Option.some.inj h
      obtain ⟨p', h1, h2⟩ := ih hr
      exact ⟨p', by simpa using h1, h2⟩
    | none =>
      rw [hr] at h
      by_cases hp : p.f0 = nm ∧ p.f1 = k
      · simp only [if_pos hp, Option.some.injEq] at h
        subst h
        exact ⟨p, rfl, hp⟩
      · simp only [if_neg hp] at h
        cases h
theorem lastIx_none {P : List S61} {nm : ByteArray} {k : Int} (h : lastIx P nm k = none) : ∀ p ∈ P, ¬ (p.f0 = nm ∧ p.f1 = k) := by
  induction P with
  | nil => intro p hp; cases hp
  | cons p r ih =>
    unfold lastIx at h
    cases hr : lastIx r nm k with
    | some m => rw [hr] at h; cases h
    | none =>
      rw [hr] at h
      by_cases hp : p.f0 = nm ∧ p.f1 = k
      · simp only [if_pos hp] at h; cases h
      · intro p' hp'
        rcases List.mem_cons.1 hp' with rfl | hp'
        · exact hp
        · exact ih hr p' hp'
theorem lastIx_last {P : List S61} {nm : ByteArray} {k : Int} : ∀ {n : Nat}, lastIx P nm k = some n → ∀ (j : Nat) (p : S61), n < j → P[j]? = some p → ¬ (p.f0 = nm ∧ p.f1 = k) := by
  induction P with
  | nil => intro n h; cases h
  | cons p r ih =>
    intro n h j p' hj hp'
    unfold lastIx at h
    obtain ⟨j', rfl⟩ : ∃ j', j = j' + 1 := ⟨j - 1, by omega⟩
    rw [List.getElem?_cons_succ] at hp'
    cases hr : lastIx r nm k with
    | some m =>
      rw [hr] at h
      obtain rfl := Option.some.inj h
      exact ih hr j' p' (by omega) hp'
    | none => exact lastIx_none hr p' (List.mem_of_getElem? hp')
theorem lastIx_new (P : List S61) (nm : ByteArray) (k a b c : Int) : lastIx (P ++ [⟨nm, k, a, b, c⟩]) nm k = some P.length := by
  induction P with
  | nil => simp [lastIx]
  | cons p r ih => rw [List.cons_append]; unfold lastIx; rw [ih]; rfl
theorem lastIx_app {P : List S61} {nm : ByteArray} {k : Int} {x : S61} (hx : ¬ (x.f0 = nm ∧ x.f1 = k)) : lastIx (P ++ [x]) nm k = lastIx P nm k := by
  induction P with
  | nil => simp [lastIx, hx]
  | cons p r ih => rw [List.cons_append]; unfold lastIx; rw [ih]
theorem lastIx_set {nm : ByteArray} {k : Int} : ∀ {P : List S61} {n : Nat} {p x : S61}, P[n]? = some p → x.f0 = p.f0 → x.f1 = p.f1 → lastIx (P.set n x) nm k = lastIx P nm k
  | [], _, _, _, h, _, _ => by simp at h
  | q :: r, 0, p, x, h, h0, h1 => by
    rw [List.getElem?_cons_zero] at h
    obtain rfl := Option.some.inj h
    rw [List.set_cons_zero]
    unfold lastIx
    rw [h0, h1]
  | q :: r, n + 1, p, x, h, h0, h1 => by
    rw [List.getElem?_cons_succ] at h
    rw [List.set_cons_succ]
    unfold lastIx
    rw [lastIx_set h h0 h1]
/-- How telling goes. -/
theorem tell_upd {P : List S61} {nm : ByteArray} {k frm : Int} {n : Nat} {p : S61} (h : lastIx P nm k = some n) (hp : P[n]? = some p) (hf : p.f3 = frm) (to_ size : Int) : tell P nm k frm to_ size = P.set n (upd p to_ size) := by
  unfold tell
  rw [h]
  simp only [hp, if_pos hf]
theorem tell_new {P : List S61} {nm : ByteArray} {k frm : Int} (h : ∀ n p, lastIx P nm k = some n → P[n]? = some p → p.f3 ≠ frm) (to_ size : Int) : tell P nm k frm to_ size = P ++ [⟨nm, k, frm, to_, size⟩] := by
  unfold tell
  cases hl : lastIx P nm k with
  | none => rfl
  | some n =>
    cases hp : P[n]? with
    | none => simp [hp]
    | some p => simp [hp, h n p hl hp]
theorem tell_cases (P : List S61) (nm : ByteArray) (k frm to_ size : Int) :
    (∃ n p, lastIx P nm k = some n ∧ P[n]? = some p ∧ p.f3 = frm ∧ tell P nm k frm to_ size = P.set n (upd p to_ size)) ∨
    ((∀ n p, lastIx P nm k = some n → P[n]? = some p → p.f3 ≠ frm) ∧ tell P nm k frm to_ size = P ++ [⟨nm, k, frm, to_, size⟩]) := by
  by_cases h : ∀ n p, lastIx P nm k = some n → P[n]? = some p → p.f3 ≠ frm
  · exact Or.inr ⟨h, tell_new h to_ size⟩
  · have : ∃ n p, lastIx P nm k = some n ∧ P[n]? = some p ∧ p.f3 = frm := by
      refine Classical.byContradiction fun hc => h fun n p h1 h2 h3 => hc ⟨n, p, h1, h2, h3⟩
    obtain ⟨n, p, h1, h2, h3⟩ := this
    exact Or.inl ⟨n, p, h1, h2, h3, tell_upd h1 h2 h3 to_ size⟩
theorem tell_self_last (P : List S61) (nm : ByteArray) (k frm to_ size : Int) : ∃ n p, lastIx (tell P nm k frm to_ size) nm k = some n ∧ (tell P nm k frm to_ size)[n]? = some p ∧ p.f3 = to_ := by
  rcases tell_cases P nm k frm to_ size with ⟨n, p, h1, h2, h3, h⟩ | ⟨h1, h⟩
  · rw [h]
    have hn : n < P.length := (List.getElem?_eq_some_iff.1 h2).1
    exact ⟨n, upd p to_ size, by rw [lastIx_set h2 (x := upd p to_ size) rfl rfl]; exact h1, by simp [hn], rfl⟩
  · rw [h]
    exact ⟨P.length, ⟨nm, k, frm, to_, size⟩, lastIx_new .., by simp, rfl⟩
theorem tell_other_last {P : List S61} {nm nm' : ByteArray} {k k' frm to_ size : Int} (hne : ¬ (nm' = nm ∧ k' = k)) {n : Nat} {p : S61} (h : lastIx P nm k = some n) (hp : P[n]? = some p) : lastIx (tell P nm' k' frm to_ size) nm k = some n ∧ (tell P nm' k' frm to_ size)[n]? = some p := by
  obtain ⟨p0, e0, e1, e2⟩ := lastIx_some h
  have : p0 = p := by rw [hp] at e0; exact (Option.some.inj e0).symm
  subst this
  rcases tell_cases P nm' k' frm to_ size with ⟨m, p', h1, h2, h3, h4⟩ | ⟨h1, h4⟩
  · obtain ⟨p2, g0, g1, g2⟩ := lastIx_some h1
    rw [h2] at g0
    obtain rfl := Option.some.inj g0
    rw [h4, lastIx_set h2 (x := upd p' to_ size) rfl rfl]
    have hmn : m ≠ n := by
      rintro rfl
      rw [h2] at hp
      obtain rfl := Option.some.inj hp
      exact hne ⟨g1.symm.trans e1, g2.symm.trans e2⟩
    exact ⟨h, by rw [List.getElem?_set_ne hmn]; exact hp⟩
  · rw [h4, lastIx_app (fun hc => hne hc)]
    have hn : n < P.length := (List.getElem?_eq_some_iff.1 hp).1
    exact ⟨h, by rw [List.getElem?_append_left hn]; exact hp⟩
/-- What is only lengthened may be told earlier. -/
theorem tell_comm {P : List S61} {nm nm' : ByteArray} {k k' frm mid to_ s s' : Int} (hne : ¬ (nm' = nm ∧ k' = k)) {n : Nat} {p : S61} (h : lastIx P nm k = some n) (hp : P[n]? = some p) (hf : p.f3 = mid) :
    tell (tell P nm' k' frm mid s') nm k mid to_ s = tell (tell P nm k mid to_ s) nm' k' frm mid s' := by
  obtain ⟨h1, h2⟩ := tell_other_last (frm := frm) (to_ := mid) (size := s') hne h hp
  rw [tell_upd h1 h2 hf, tell_upd h hp hf]
  have hn : n < P.length := (List.getElem?_eq_some_iff.1 hp).1
  have hs := fun nm'' k'' => lastIx_set (nm := nm'') (k := k'') hp (x := upd p to_ s) rfl rfl
  obtain ⟨p0, e0, e1, e2⟩ := lastIx_some h
  rw [hp] at e0
  obtain rfl := Option.some.inj e0
  rcases tell_cases P nm' k' frm mid s' with ⟨m, p', g1, g2, g3, g4⟩ | ⟨g1, g4⟩
  · obtain ⟨p2, j0, j1, j2⟩ := lastIx_some g1
    rw [g2] at j0
    obtain rfl := Option.some.inj j0
    have hmn : m ≠ n := by
      rintro rfl
      rw [g2] at hp
      obtain rfl := Option.some.inj hp
      exact hne ⟨j1.symm.trans e1, j2.symm.trans e2⟩
    rw [g4, tell_upd (P := P.set n (upd p to_ s)) (n := m) (p := p') (by rw [hs]; exact g1) (by rw [List.getElem?_set_ne (Ne.symm hmn)]; exact g2) g3]
    rw [List.set_comm _ _ hmn]
  · have g5 : tell (P.set n (upd p to_ s)) nm' k' frm mid s' = P.set n (upd p to_ s) ++ [⟨nm', k', frm, mid, s'⟩] := by
      refine tell_new (fun m p' hm hp' => ?_) _ _
      rw [hs] at hm
      by_cases e : m = n
      · subst e
        obtain ⟨p3, j0, j1, j2⟩ := lastIx_some hm
        rw [hp] at j0
        obtain rfl := Option.some.inj j0
        exact absurd ⟨j1.symm.trans e1, j2.symm.trans e2⟩ hne
      · rw [List.getElem?_set_ne (Ne.symm e)] at hp'
        exact g1 m p' hm hp'
    rw [g4, g5, List.set_append_left _ _ hn]
theorem tell_twice (P : List S61) (nm : ByteArray) (k frm mid to_ s s' : Int) : tell (tell P nm k frm mid s) nm k mid to_ s' = tell P nm k frm to_ (s + s') := by
  rcases tell_cases P nm k frm mid s with ⟨n, p, h1, h2, h3, h⟩ | ⟨h1, h⟩
  · have hn : n < P.length := (List.getElem?_eq_some_iff.1 h2).1
    rw [h, tell_upd h1 h2 h3, tell_upd (n := n) (p := upd p mid s) (by rw [lastIx_set h2 (x := upd p mid s) rfl rfl]; exact h1) (by simp [hn]) (frm := mid) rfl, List.set_set]
    simp [upd, Int.add_assoc]
  · rw [h, tell_new h1, tell_upd (lastIx_new ..) (p := ⟨nm, k, frm, mid, s⟩) (by simp) rfl]
    simp [upd]
/-- One item in all passes. -/
def tellAll (P : List S61) (nm : ByteArray) (A : List (Int × Int)) (frm to_ n : Int) : List S61 := A.foldl (fun P kr => tell P nm kr.1 frm to_ (n * kr.2)) P
theorem tellAll_comm {nm : ByteArray} {k frm mid to_ s n : Int} : ∀ (A : List (Int × Int)) {P : List S61}, (∀ kr ∈ A, kr.1 ≠ k) → (∃ m p, lastIx P nm k = some m ∧ P[m]? = some p ∧ p.f3 = mid) →
    tell (tellAll P nm A frm mid n) nm k mid to_ s = tellAll (tell P nm k mid to_ s) nm A frm mid n
  | [], P, _, _ => rfl
  | (k', r) :: A, P, hA, ⟨m, p, h1, h2, h3⟩ => by
    have hk : ¬ (nm = nm ∧ k' = k) := fun hc => hA (k', r) List.mem_cons_self hc.2
    obtain ⟨g1, g2⟩ := tell_other_last (frm := frm) (to_ := mid) (size := n * r) hk h1 h2
    show tell (tellAll (tell P nm k' frm mid (n * r)) nm A frm mid n) nm k mid to_ s = tellAll (tell (tell P nm k mid to_ s) nm k' frm mid (n * r)) nm A frm mid n
    rw [tellAll_comm A (fun kr hkr => hA kr (List.mem_cons_of_mem _ hkr)) ⟨m, p, g1, g2, h3⟩, tell_comm hk h1 h2 h3]
theorem tellAll_twice {nm : ByteArray} {frm mid to_ n m : Int} : ∀ (A : List (Int × Int)) (P : List S61), (A.map (·.1)).Nodup →
    tellAll (tellAll P nm A frm mid n) nm A mid to_ m = tellAll P nm A frm to_ (n + m)
  | [], _, _ => rfl
  | (k, r) :: A, P, hA => by
    rw [List.map_cons, List.nodup_cons] at hA
    show tellAll (tell (tellAll (tell P nm k frm mid (n * r)) nm A frm mid n) nm k mid to_ (m * r)) nm A mid to_ m = tellAll (tell P nm k frm to_ ((n + m) * r)) nm A frm to_ (n + m)
    rw [tellAll_comm A (fun kr hkr hc => hA.1 (List.mem_map.2 ⟨kr, hkr, hc⟩)) (tell_self_last ..), tell_twice, tellAll_twice A _ hA.2, Int.add_mul]
structure St where
  left : List Int
  done : List Int
  parts : List S61
section
variable (q : List S63) (ord : List Nat)
def avail (left : List Int) (t : Int) (i : Nat) : Bool := decide ((q.getD i z63).f3 ≤ t) && decide (0 < left.getD i 0)
def top (left : List Int) (t : Int) : Option Nat := ord.find? (avail q left t)
def give (s : St) (i : Nat) (k frm to_ n : Int) : St :=
  ⟨s.left.set i (s.left.getD i 0 - n), if s.left.getD i 0 - n = 0 then s.done.set i to_ else s.done, tell s.parts (q.getD i z63).f0 k frm to_ n⟩
def serve (t k : Int) : Nat → St → Int → St
  | 0, s, _ => s
  | F + 1, s, room => if room ≤ 0 then s else match top q ord s.left t with
    | none => s
    | some i => serve t k F (give q s i k t (t + 1) (min room (s.left.getD i 0))) (room - min room (s.left.getD i 0))
def tickA (t : Int) (A : List (Int × Int)) (s : St) : St := A.foldl (fun s kr => serve q ord t kr.1 (q.length + 1) s kr.2) s
variable (act : Int → List (Int × Int))
def sim (t : Int) : Nat → St → St
  | 0, s => s
  | n + 1, s => sim (t + 1) n (tickA q ord t (act t) s)
end
section
variable {q : List S63} {ord : List Nat} {act : Int → List (Int × Int)}
theorem sim_add (n m : Nat) : ∀ (t : Int) (s : St), sim q ord act t (n + m) s = sim q ord act (t + n) m (sim q ord act t n s) := by
  induction n with
  | zero => intro t s; simp [sim]
  | succ n ih =>
    intro t s
    rw [show n + 1 + m = (n + m) + 1 by omega]
    show sim q ord act (t + 1) (n + m) (tickA q ord t (act t) s) = sim q ord act (t + (n + 1 : Nat)) m (sim q ord act (t + 1) n (tickA q ord t (act t) s))
    rw [ih, show t + 1 + (n : Int) = t + ((n + 1 : Nat) : Int) by omega]
theorem sim_one (t : Int) (s : St) : sim q ord act t 1 s = tickA q ord t (act t) s := rfl
theorem sim_snoc (n : Nat) (t : Int) (s : St) : sim q ord act t (n + 1) s = tickA q ord (t + n) (act (t + n)) (sim q ord act t n s) := by
  rw [sim_add, sim_one]
/-- What can be sent: how many. -/
def cnt (left : List Int) : Nat := left.countP (fun x => decide (0 < x))
theorem getD_pos_lt {l : List Int} {i : Nat} (h : 0 < l.getD i 0) : i < l.length := by
  refine Classical.byContradiction fun hc => ?_
  rw [List.getD_eq_getElem?_getD, List.getElem?_eq_none (by omega)] at h
  simp at h
theorem getD_at {α : Type} {l : List α} {i : Nat} {d : α} (h : i < l.length) : l.getD i d = l[i] := by
  rw [List.getD_eq_getElem?_getD, List.getElem?_eq_getElem h]
  rfl
theorem getD_set_self {l : List Int} {i : Nat} (h : i < l.length) (v : Int) : (l.set i v).getD i 0 = v := by
  rw [List.getD_eq_getElem?_getD, List.getElem?_set_self h]
  rfl
theorem getD_set_ne {l : List Int} {i j : Nat} (h : i ≠ j) (v : Int) : (l.set i v).getD j 0 = l.getD j 0 := by
  rw [List.getD_eq_getElem?_getD, List.getElem?_set_ne h, List.getD_eq_getElem?_getD]
theorem cnt_set_zero : ∀ {l : List Int} {i : Nat}, 0 < l.getD i 0 → cnt (l.set i 0) + 1 = cnt l
  | [], i, h => by simp at h
  | x :: r, 0, h => by
    have hx : 0 < x := by simpa using h
    simp [cnt, List.countP_cons, hx]
  | x :: r, i + 1, h => by
    have := cnt_set_zero (l := r) (i := i) (by simpa using h)
    simp only [cnt, List.set_cons_succ, List.countP_cons] at this ⊢
    omega
theorem top_pos {left : List Int} {t : Int} {i : Nat} (h : top q ord left t = some i) : 0 < left.getD i 0 ∧ (q.getD i z63).f3 ≤ t ∧ i ∈ ord := by
  unfold top at h
  have h1 := List.find?_some h
  have h2 := List.mem_of_find?_eq_some h
  simp only [avail, Bool.and_eq_true, decide_eq_true_eq] at h1
  exact ⟨h1.2, h1.1, h2⟩
theorem cnt_le (l : List Int) : cnt l ≤ l.length := List.countP_le_length
/-- To show something of what serving comes to_. -/
theorem serve_ind {t k : Int} (M : St → Int → St → Prop) (h0 : ∀ s room, room ≤ 0 → M s room s) (h1 : ∀ s room, 0 < room → top q ord s.left t = none → M s room s)
    (h2 : ∀ s room i r, 0 < room → top q ord s.left t = some i → M (give q s i k t (t + 1) (min room (s.left.getD i 0))) (room - min room (s.left.getD i 0)) r → M s room r) :
    ∀ (F : Nat) (s : St) (room : Int), cnt s.left + 1 ≤ F ∨ room ≤ 0 → M s room (serve q ord t k F s room) := by
  intro F
  induction F with
  | zero =>
    intro s room h
    rcases h with h | h
    · omega
    · exact h0 s room h
  | succ F ih =>
    intro s room h
    unfold serve
    by_cases hr : room ≤ 0
    · rw [if_pos hr]
      exact h0 s room hr
    · rw [if_neg hr]
      cases ht : top q ord s.left t with
      | none => exact h1 s room (by omega) ht
      | some i =>
        refine h2 s room i _ (by omega) ht (ih _ _ ?_)
        obtain ⟨hp, _, _⟩ := top_pos ht
        by_cases hm : room ≤ s.left.getD i 0
        · exact Or.inr (by omega)
        · left
          have e : min room (s.left.getD i 0) = s.left.getD i 0 := by omega
          show cnt (s.left.set i (s.left.getD i 0 - min room (s.left.getD i 0))) + 1 ≤ F
          rw [e, Int.sub_self]
          have := cnt_set_zero hp
          omega
theorem serve_zero {t k : Int} {F : Nat} {s : St} {room : Int} (h : room ≤ 0) : serve q ord t k F s room = s := by
  cases F with
  | zero => rfl
  | succ F => unfold serve; rw [if_pos h]
theorem serve_none {t k : Int} {F : Nat} {s : St} {room : Int} (h : top q ord s.left t = none) : serve q ord t k F s room = s := by
  cases F with
  | zero => rfl
  | succ F => unfold serve; rw [h]; simp
theorem tickA_none {t : Int} {s : St} (h : top q ord s.left t = none) : ∀ A, tickA q ord t A s = s
  | [] => rfl
  | kr :: A => by
    show tickA q ord t A (serve q ord t kr.1 (q.length + 1) s kr.2) = s
    rw [serve_none h]
    exact tickA_none h A
theorem sim_idle {s : St} : ∀ (n : Nat) (t : Int), (∀ j : Nat, j < n → act (t + j) = [] ∨ top q ord s.left (t + j) = none) → sim q ord act t n s = s
  | 0, _, _ => rfl
  | n + 1, t, h => by
    show sim q ord act (t + 1) n (tickA q ord t (act t) s) = s
    have e : tickA q ord t (act t) s = s := by
      rcases h 0 (by omega) with h0 | h0
      · simp only [Int.natCast_zero, Int.add_zero] at h0
        rw [h0]
        rfl
      · simp only [Int.natCast_zero, Int.add_zero] at h0
        exact tickA_none h0 _
    rw [e]
    exact sim_idle n (t + 1) (fun j hj => by
      have := h (j + 1) (by omega)
      rwa [show t + ((j + 1 : Nat) : Int) = t + 1 + (j : Int) by omega] at this)
def tot (A : List (Int × Int)) : Int := (A.map (·.2)).sum
def giveAll (q : List S63) (s : St) (i : Nat) (A : List (Int × Int)) (frm to_ n : Int) : St := A.foldl (fun s kr => give q s i kr.1 frm to_ (n * kr.2)) s
theorem tot_nonneg : ∀ {A : List (Int × Int)}, (∀ kr ∈ A, 0 < kr.2) → 0 ≤ tot A
  | [], _ => Int.le_refl _
  | kr :: A, h => by
    have h1 := h kr List.mem_cons_self
    have h2 := tot_nonneg (A := A) (fun x hx => h x (List.mem_cons_of_mem _ hx))
    simp only [tot, List.map_cons, List.sum_cons] at h2 ⊢
    omega
theorem tot_cons (kr : Int × Int) (A : List (Int × Int)) : tot (kr :: A) = kr.2 + tot A := by simp [tot]
theorem tot_pos {A : List (Int × Int)} (hA : ∀ kr ∈ A, 0 < kr.2) (h : A ≠ []) : 0 < tot A := by
  cases A with
  | nil => exact absurd rfl h
  | cons kr A =>
    have h1 := hA kr List.mem_cons_self
    have h2 := tot_nonneg (A := A) (fun x hx => hA x (List.mem_cons_of_mem _ hx))
    rw [tot_cons]
    omega
/-- What giving in all passes comes to_. -/
theorem giveAll_eq {i : Nat} {frm to_ n : Int} (hn : 1 ≤ n) : ∀ (A : List (Int × Int)) (s : St), (∀ kr ∈ A, 0 < kr.2) → A ≠ [] → i < s.left.length → n * tot A ≤ s.left.getD i 0 →
    giveAll q s i A frm to_ n = ⟨s.left.set i (s.left.getD i 0 - n * tot A), if s.left.getD i 0 - n * tot A = 0 then s.done.set i to_ else s.done, tellAll s.parts (q.getD i z63).f0 A frm to_ n⟩
  | [], s, _, h, _, _ => absurd rfl h
  | (k, r) :: A, s, hA, _, hi, hl => by
    have hr : 0 < r := hA (k, r) List.mem_cons_self
    have hA' : ∀ kr ∈ A, 0 < kr.2 := fun x hx => hA x (List.mem_cons_of_mem _ hx)
    have ht := tot_nonneg hA'
    rw [tot_cons, Int.mul_add] at hl
    have hnr : 0 < n * r := Int.mul_pos (by omega) hr
    show giveAll q (give q s i k frm to_ (n * r)) i A frm to_ n = _
    by_cases he : A = []
    · subst he
      show give q s i k frm to_ (n * r) = _
      simp [give, tot, tellAll]
    · have htp := tot_pos hA' he
      have hnt : 0 < n * tot A := Int.mul_pos (by omega) htp
      have e1 : (give q s i k frm to_ (n * r)).left = s.left.set i (s.left.getD i 0 - n * r) := rfl
      have e2 : (give q s i k frm to_ (n * r)).left.getD i 0 = s.left.getD i 0 - n * r := by rw [e1, getD_set_self hi]
      rw [giveAll_eq hn A _ hA' he (by rw [e1]; simpa using hi) (by rw [e2]; simp only at hl; omega), e2, e1, List.set_set]
      have e3 : (give q s i k frm to_ (n * r)).done = s.done := by
        unfold give
        simp only
        rw [if_neg (by simp only at hl; omega)]
      rw [e3, tot_cons, Int.mul_add, Int.sub_sub]
      rfl
theorem top_same {left left' : List Int} {t t' : Int} (h : ∀ i, avail q left' t' i = avail q left t i) : top q ord left' t' = top q ord left t := by
  unfold top
  rw [show avail q left' t' = avail q left t from funext h]
theorem top_set {left : List Int} {t t' : Int} {i : Nat} {v : Int} (hi : 0 < left.getD i 0) (hv : 0 < v) (hr : ∀ j : Nat, (q.getD j z63).f3 ≤ t' ↔ (q.getD j z63).f3 ≤ t) : top q ord (left.set i v) t' = top q ord left t := by
  refine top_same fun j => ?_
  unfold avail
  rw [decide_eq_decide.2 (hr j)]
  by_cases e : i = j
  · subst e
    rw [getD_set_self (getD_pos_lt hi)]
    rw [decide_eq_true hv, decide_eq_true hi]
  · rw [getD_set_ne e]
theorem tick_giveAll {t : Int} {i : Nat} : ∀ (A : List (Int × Int)) (s : St), (∀ kr ∈ A, 0 < kr.2) → A ≠ [] → top q ord s.left t = some i → tot A ≤ s.left.getD i 0 → tickA q ord t A s = giveAll q s i A t (t + 1) 1
  | [], _, _, h, _, _ => absurd rfl h
  | (k, r) :: A, s, hA, _, htop, hl => by
    have hr : 0 < r := hA (k, r) List.mem_cons_self
    have hA' : ∀ kr ∈ A, 0 < kr.2 := fun x hx => hA x (List.mem_cons_of_mem _ hx)
    have ht := tot_nonneg hA'
    rw [tot_cons] at hl
    simp only at hl
    have hp := (top_pos htop).1
    have e1 : serve q ord t k (q.length + 1) s r = give q s i k t (t + 1) r := by
      rw [serve, if_neg (by omega), htop]
      simp only
      rw [show min r (s.left.getD i 0) = r by omega, serve_zero (by omega)]
    show tickA q ord t A (serve q ord t k (q.length + 1) s r) = giveAll q (give q s i k t (t + 1) (1 * r)) i A t (t + 1) 1
    rw [e1, Int.one_mul]
    by_cases he : A = []
    · subst he; rfl
    · have htp := tot_pos hA' he
      refine tick_giveAll A _ hA' he ?_ ?_
      · show top q ord (s.left.set i (s.left.getD i 0 - r)) t = some i
        rw [top_set hp (by omega) (fun _ => Iff.rfl)]
        exact htop
      · show tot A ≤ (s.left.set i (s.left.getD i 0 - r)).getD i 0
        rw [getD_set_self (getD_pos_lt hp)]
        omega
theorem sim_jump {t : Int} {i : Nat} {A : List (Int × Int)} {s : St} (hA : ∀ kr ∈ A, 0 < kr.2) (he : A ≠ []) (hk : (A.map (·.1)).Nodup) (htop : top q ord s.left t = some i) :
    ∀ n : Nat, 1 ≤ n → (∀ j : Nat, j < n → act (t + j) = A) → (∀ j : Nat, j < n → ∀ i : Nat, (q.getD i z63).f3 ≤ t + j ↔ (q.getD i z63).f3 ≤ t) → (n : Int) * tot A ≤ s.left.getD i 0 →
      sim q ord act t n s = giveAll q s i A t (t + n) n := by
  have hp := (top_pos htop).1
  have htp := tot_pos hA he
  intro n
  induction n with
  | zero => intro h; omega
  | succ n ih =>
    intro _ hact hrd hl
    by_cases h1 : n = 0
    · subst h1
      have a0 := hact 0 (by omega)
      simp only [Int.natCast_zero, Int.add_zero] at a0
      rw [sim_one, a0]
      exact tick_giveAll A s hA he htop (by simpa using hl)
    · have hl' : ((n : Int) + 1) * tot A ≤ s.left.getD i 0 := by simpa using hl
      rw [Int.add_mul, Int.one_mul] at hl'
      have hn1 : (1 : Int) ≤ n := by omega
      rw [sim_snoc, ih (by omega) (fun j hj => hact j (by omega)) (fun j hj => hrd j (by omega)) (by omega), hact n (by omega)]
      have hi := getD_pos_lt hp
      rw [giveAll_eq hn1 A s hA he hi (by omega)]
      rw [if_neg (by omega)]
      generalize hs' : (⟨s.left.set i (s.left.getD i 0 - n * tot A), s.done, tellAll s.parts (q.getD i z63).f0 A t (t + n) n⟩ : St) = s'
      have e1 : s'.left = s.left.set i (s.left.getD i 0 - n * tot A) := by rw [← hs']
      have e2 : s'.left.getD i 0 = s.left.getD i 0 - n * tot A := by rw [e1, getD_set_self hi]
      rw [tick_giveAll A s' hA he (by rw [e1, top_set hp (by omega) (hrd n (by omega))]; exact htop) (by rw [e2]; omega)]
      rw [giveAll_eq (Int.le_refl 1) A s' hA he (by rw [e1]; simpa using hi) (by rw [e2]; omega), e2]
      rw [giveAll_eq (by omega) A s hA he hi hl]
      rw [e1, List.set_set, Int.one_mul, ← hs']
      simp only
      rw [tellAll_twice A _ hk]
      have e3 : s.left.getD i 0 - ↑n * tot A - tot A = s.left.getD i 0 - ((n + 1 : Nat) : Int) * tot A := by
        rw [Int.natCast_add, Int.add_mul, Int.natCast_one, Int.one_mul, Int.sub_sub]
      rw [e3, show t + (n : Int) + 1 = t + ((n + 1 : Nat) : Int) by omega, show (n : Int) + 1 = ((n + 1 : Nat) : Int) by omega]
end
section
variable {q : List S63} {ord : List Nat} {act : Int → List (Int × Int)}
def cover (q : List S63) (ord : List Nat) (act : Int → List (Int × Int)) (until_ : Int) : List Int → St → St
  | [], s => s
  | [a], s => sim q ord act a (until_ - a).toNat s
  | a :: b :: r, s => cover q ord act until_ (b :: r) (sim q ord act a (min until_ b - a).toNat s)
theorem cover_past {u : Int} : ∀ (r : List Int) (s : St), (∀ x ∈ r, u ≤ x) → cover q ord act u r s = s
  | [], s, _ => rfl
  | [a], s, h => by
    have := h a List.mem_cons_self
    show sim q ord act a (u - a).toNat s = s
    rw [show (u - a).toNat = 0 by omega]
    rfl
  | a :: b :: r, s, h => by
    have h1 := h a List.mem_cons_self
    show cover q ord act u (b :: r) (sim q ord act a (min u b - a).toNat s) = s
    rw [show (min u b - a).toNat = 0 by omega]
    exact cover_past (b :: r) s (fun x hx => h x (List.mem_cons_of_mem _ hx))
theorem cover_eq {u : Int} : ∀ (a : Int) (r : List Int) (s : St), (a :: r).Pairwise (· < ·) → cover q ord act u (a :: r) s = sim q ord act a (u - a).toNat s
  | a, [], s, _ => rfl
  | a, b :: r, s, h => by
    rw [List.pairwise_cons] at h
    have hab := h.1 b List.mem_cons_self
    show cover q ord act u (b :: r) (sim q ord act a (min u b - a).toNat s) = _
    by_cases hb : b ≤ u
    · rw [cover_eq b r _ h.2, show min u b = b by omega]
      have e : (u - a).toNat = (b - a).toNat + (u - b).toNat := by omega
      rw [e, sim_add, show a + ((b - a).toNat : Int) = b by omega]
    · rw [show min u b = u by omega]
      refine cover_past _ _ (fun x hx => ?_)
      rcases List.mem_cons.1 hx with rfl | hx
      · omega
      · have := (List.pairwise_cons.1 h.2).1 x hx
        omega
/-- From the beginning on. -/
theorem cover_all {u : Int} (hu : 0 ≤ u) {ts : List Int} {s : St} (hts : ts.Pairwise (· < ·)) (h0 : ∀ x ∈ ts, 0 ≤ x)
    (hidle : ∀ t : Int, 0 ≤ t → (∀ x ∈ ts, t < x) → act t = [] ∨ top q ord s.left t = none) : cover q ord act u ts s = sim q ord act 0 u.toNat s := by
  cases ts with
  | nil =>
    show s = _
    rw [sim_idle]
    intro j _
    exact hidle _ (by omega) (fun x hx => by cases hx)
  | cons a r =>
    have ha := h0 a List.mem_cons_self
    have hlt : ∀ t : Int, t < a → ∀ x ∈ a :: r, t < x := fun t ht x hx => by
      rcases List.mem_cons.1 hx with rfl | hx
      · exact ht
      · have := (List.pairwise_cons.1 hts).1 x hx
        omega
    by_cases hau : a ≤ u
    · rw [cover_eq a r s hts]
      have e : u.toNat = a.toNat + (u - a).toNat := by omega
      rw [e, sim_add, show (0 : Int) + (a.toNat : Int) = a by omega]
      rw [sim_idle (s := s) a.toNat 0 (fun j hj => hidle _ (by omega) (hlt _ (by omega)))]
    · rw [cover_past _ _ (fun x hx => by have := hlt (a - 1) (by omega) x hx; omega)]
      rw [sim_idle]
      intro j hj
      exact hidle _ (by omega) (hlt _ (by omega))
end
/-- An item goes before another one. -/
def before (q : List S63) (i j : Nat) : Prop := (q.getD j z63).f2 < (q.getD i z63).f2 ∨ (q.getD j z63).f2 = (q.getD i z63).f2 ∧ ((q.getD i z63).f4 < (q.getD j z63).f4 ∨ (q.getD i z63).f4 = (q.getD j z63).f4 ∧ i < j)
instance (q : List S63) (i j : Nat) : Decidable (before q i j) := by unfold before; infer_instance
theorem before_asymm {q : List S63} {i j : Nat} (h : before q i j) (k : before q j i) : False := by unfold before at h k; omega
theorem before_trans {q : List S63} {i j k : Nat} (h : before q i j) (h' : before q j k) : before q i k := by unfold before at h h' ⊢; omega
theorem before_total {q : List S63} {i j : Nat} (h : i ≠ j) : before q i j ∨ before q j i := by unfold before; omega
structure Ord (q : List S63) (ord : List Nat) : Prop where
  all : ∀ i, i ∈ ord ↔ i < q.length
  sorted : ord.Pairwise (before q)
/-- The one that goes first. -/
structure Top (q : List S63) (left : List Int) (t : Int) (i : Nat) : Prop where
  av : avail q left t i = true
  lt : i < q.length
  first : ∀ j, j < q.length → avail q left t j = true → j ≠ i → before q i j
theorem Top.unique {q : List S63} {left : List Int} {t : Int} {i j : Nat} (h : Top q left t i) (k : Top q left t j) : i = j := by
  refine Classical.byContradiction fun hne => ?_
  exact before_asymm (h.first j k.lt k.av (Ne.symm hne)) (k.first i h.lt h.av hne)
theorem find_first {q : List S63} {p : Nat → Bool} : ∀ {l : List Nat} {i : Nat}, l.Pairwise (before q) → l.find? p = some i → ∀ j ∈ l, p j = true → j ≠ i → before q i j
  | [], _, _, h => by simp at h
  | a :: r, i, hp, h => by
    rw [List.pairwise_cons] at hp
    intro j hj hpj hne
    rw [List.find?_cons] at h
    by_cases ha : p a = true
    · rw [ha] at h
      obtain rfl := Option.some.inj h
      rcases List.mem_cons.1 hj with rfl | hj
      · exact absurd rfl hne
      · exact hp.1 j hj
    · rw [Bool.not_eq_true] at ha
      rw [ha] at h
      rcases List.mem_cons.1 hj with rfl | hj
      · rw [ha] at hpj; cases hpj
      · exact find_first hp.2 h j hj hpj hne
theorem top_some {q : List S63} {ord : List Nat} (ho : Ord q ord) {left : List Int} {t : Int} {i : Nat} : top q ord left t = some i ↔ Top q left t i := by
  constructor
  · intro h
    unfold top at h
    exact ⟨List.find?_some h, (ho.all i).1 (List.mem_of_find?_eq_some h), fun j hj hav hne => find_first ho.sorted h j ((ho.all j).2 hj) hav hne⟩
  · intro h
    cases ht : top q ord left t with
    | none =>
      unfold top at ht
      rw [List.find?_eq_none] at ht
      exact absurd h.av (ht i ((ho.all i).2 h.lt))
    | some j =>
      have : Top q left t j := by
        unfold top at ht
        exact ⟨List.find?_some ht, (ho.all j).1 (List.mem_of_find?_eq_some ht), fun k hk hav hne => find_first ho.sorted ht k ((ho.all k).2 hk) hav hne⟩
      rw [h.unique this]
theorem top_none {q : List S63} {ord : List Nat} (ho : Ord q ord) {left : List Int} {t : Int} : top q ord left t = none ↔ ∀ i, i < q.length → avail q left t i = false := by
  unfold top
  rw [List.find?_eq_none]
  constructor
  · intro h i hi
    simpa using h i ((ho.all i).2 hi)
  · intro h i hi
    simp [h i ((ho.all i).1 hi)]
def Mono (P : List S61) : Prop := P.Pairwise (fun p p' => p.f0 = p'.f0 → p.f1 = p'.f1 → p.f3 ≤ p'.f3)
theorem Mono.at {P : List S61} (h : Mono P) {i j : Nat} {p p' : S61} (hij : i < j) (hi : P[i]? = some p) (hj : P[j]? = some p') (h0 : p.f0 = p'.f0) (h1 : p.f1 = p'.f1) : p.f3 ≤ p'.f3 := by
  obtain ⟨hi1, hi2⟩ := List.getElem?_eq_some_iff.1 hi
  obtain ⟨hj1, hj2⟩ := List.getElem?_eq_some_iff.1 hj
  have := List.pairwise_iff_getElem.1 h i j hi1 hj1 hij
  rw [hi2, hj2] at this
  exact this h0 h1
theorem tell_mem {P : List S61} {nm : ByteArray} {k frm to_ size : Int} {p : S61} (h : p ∈ tell P nm k frm to_ size) : p ∈ P ∨ (p.f0 = nm ∧ p.f1 = k ∧ p.f3 = to_ ∧ ((p.f2 = frm ∧ p.f4 = size) ∨ ∃ x ∈ P, x.f0 = nm ∧ x.f1 = k ∧ x.f3 = frm ∧ p.f2 = x.f2 ∧ p.f4 = x.f4 + size)) := by
  rcases tell_cases P nm k frm to_ size with ⟨n, x, h1, h2, h3, e⟩ | ⟨h1, e⟩
  · rw [e] at h
    obtain ⟨x', e0, e1, e2⟩ := lastIx_some h1
    rw [h2] at e0
    obtain rfl := Option.some.inj e0
    rcases List.mem_or_eq_of_mem_set h with h | rfl
    · exact Or.inl h
    · exact Or.inr ⟨e1, e2, rfl, Or.inr ⟨x, List.mem_of_getElem? h2, e1, e2, h3, rfl, rfl⟩⟩
  · rw [e] at h
    rcases List.mem_append.1 h with h | h
    · exact Or.inl h
    · rw [List.mem_singleton] at h
      subst h
      exact Or.inr ⟨rfl, rfl, rfl, Or.inl ⟨rfl, rfl⟩⟩
theorem Mono.tell {P : List S61} {nm : ByteArray} {k frm to_ size : Int} (hm : Mono P) (hle : ∀ p ∈ P, p.f0 = nm → p.f1 = k → p.f3 ≤ frm) (hft : frm ≤ to_) : Mono (tell P nm k frm to_ size) := by
  rcases tell_cases P nm k frm to_ size with ⟨n, x, h1, h2, h3, e⟩ | ⟨h1, e⟩
  · rw [e]
    obtain ⟨x', e0, e1, e2⟩ := lastIx_some h1
    rw [h2] at e0
    obtain rfl := Option.some.inj e0
    unfold Mono
    rw [List.pairwise_iff_getElem]
    intro i j hi hj hij h0 h1'
    rw [List.length_set] at hi hj
    have hn := (List.getElem?_eq_some_iff.1 h2).1
    rw [List.getElem_set, List.getElem_set] at h0 h1' ⊢
    by_cases ei : n = i
    · subst ei
      by_cases ej : n = j
      · omega
      · rw [if_pos rfl, if_neg ej] at h0 h1' ⊢
        exact absurd ⟨h0.symm.trans e1, h1'.symm.trans e2⟩ (lastIx_last h1 j P[j] hij (List.getElem?_eq_getElem hj))
    · by_cases ej : n = j
      · subst ej
        rw [if_neg ei, if_pos rfl] at h0 h1' ⊢
        have := hm.at hij (List.getElem?_eq_getElem hi) h2 h0 h1'
        show _ ≤ to_
        omega
      · rw [if_neg ei, if_neg ej] at h0 h1' ⊢
        exact List.pairwise_iff_getElem.1 hm i j hi hj hij h0 h1'
  · rw [e]
    unfold Mono
    rw [List.pairwise_append]
    refine ⟨hm, List.pairwise_singleton _ _, fun p hp p' hp' h0 h1' => ?_⟩
    rw [List.mem_singleton] at hp'
    subst hp'
    have := hle p hp h0 h1'
    show p.f3 ≤ to_
    omega
end Snd
end Go.Proofs.Ytbngmblgkkdhpaa.Q
