/- Sending: what is checked, and that both runs come to the same. -/
-- Made by wip/tools/claimp.py of this session's texts; Lean checks it.
import Derived.Test.YtbngmblgkkdhpaaC10SndI
import Derived.Test.YtbngmblgkkdhpaaC10Gs9
import Derived.Test.YtbngmblgkkdhpaaC10Gs13
import Derived.Test.YtbngmblgkkdhpaaC10Gs3
set_option linter.unusedVariables false
set_option linter.unusedSimpArgs false
namespace Go.Proofs.Ytbngmblgkkdhpaa.Q
open Go.RowKit Go.Proofs.YtbngmblgkkdhpaaW.PrintWords Go.Proofs.YtbngmblgkkdhpaaW.PrintLast Go.Proofs.YtbngmblgkkdhpaaW.PrintMore Go.Proofs.Ytbngmblgkkdhpaa.Base
def sendF (l : List S33) (b : List Int) (q : List S63) : Int := if bothV l b = 0 then itemsC q else bothV l b
/-- All that is taken is right. -/
structure Ready (ps : List S33) (bk : List Int) (q : List S63) : Prop where
  passes : GoodPasses ps
  book : GoodBook ps bk
  items : GoodItems q
theorem sendF_zero {ps : List S33} {bk : List Int} {q : List S63} (h : sendF ps bk q = 0) : Ready ps bk q := by
  unfold sendF at h
  by_cases h1 : bothV ps bk = 0
  · rw [if_pos h1] at h
    obtain ⟨a, b⟩ := bothV_zero h1
    exact ⟨a, b, itemsC_zero h⟩
  · rw [if_neg h1] at h
    exact absurd h h1
theorem GoodBook.lt {l : List S33} {b : List Int} (h : GoodBook l b) (i : Nat) : ∀ d : Nat, i + d + 1 < b.length → rd b (i : Int) < rd b ((i + d + 1 : Nat) : Int)
  | 0, hi => h.rise i hi
  | d + 1, hi => by
    have h1 := h.lt i d (by omega)
    have h2 := h.rise (i + d + 1) (by omega)
    exact Int.lt_trans h1 h2
theorem GoodBook.up {l : List S33} {b : List Int} (h : GoodBook l b) : b.Pairwise (· < ·) := List.pairwise_iff_getElem.2 fun i j hi hj hij => by
  have := h.lt i (j - i - 1) (by omega)
  rw [show i + (j - i - 1) + 1 = j by omega, rd_get hi, rd_get hj] at this
  exact this
theorem GoodItems.mem {q : List S63} (h : GoodItems q) {y : S63} (hy : y ∈ q) : GoodItem y := by
  obtain ⟨i, hi, rfl⟩ := List.mem_iff_getElem.1 hy
  have := h.all i
  rwa [Snd.getD_at hi] at this
theorem rd_mem_R {l : List S75} {i : Nat} (h : i < l.length) : rd_T75 l i ∈ l := by
  unfold rd_T75
  rw [Int.toNat_natCast, List.getD_eq_getElem?_getD, List.getElem?_eq_getElem h]
  exact List.getElem_mem h
/-- The stretches of a pass. -/
def ssOf (ps : List S33) (b : Int) : List S81 := stretchesV (rd_T33 ps b) (rd_T33 ps b).f3.length
theorem Ev.below {α : Type} {g : Nat → Nat → Option α} {v : Nat → α} (h : ∀ i, Ev (fun k => g i k) (v i)) : ∀ n : Nat, ∃ K, ∀ k, K ≤ k → ∀ i, i < n → g i k = some (v i)
  | 0 => ⟨0, fun k _ i hi => by omega⟩
  | n + 1 => by
    obtain ⟨K, hK⟩ := Ev.below h n
    obtain ⟨K', hK'⟩ := h n
    exact ⟨max K K', fun k hk i hi => by
      by_cases e : i = n
      · subst e; exact hK' k (by omega)
      · exact hK k (by omega) i (by omega)⟩
/-- What is behind a run. -/
def stOf (ps : List S33) (bk : List Int) (q : List S63) (u : Int) : Snd.St := Snd.sim q (ordN q) (Snd.actOf bk (ssOf ps)) 0 u.toNat (Snd.start q)
def newS0 (ps : List S33) (bk : List Int) (q : List S63) : SX := ⟨ordX q, List.replicate q.length 0, q.map dnX, .map [], [], bk.map (ssOf ps)⟩
namespace Ready
variable {ps : List S33} {bk : List Int} {q : List S63}
theorem mem_book (h : Ready ps bk q) {k : Int} (hk : k ∈ bk) : 0 ≤ k ∧ k < ps.length := by
  obtain ⟨i, hi, rfl⟩ := List.mem_iff_getElem.1 hk
  have := h.book.inside i hi
  rwa [rd_get hi] at this
theorem pass (h : Ready ps bk q) {k : Int} (hk : k ∈ bk) : GoodPass (rd_T33 ps k) := h.passes.at (h.mem_book hk).1 (h.mem_book hk).2
theorem few (h : Ready ps bk q) : bk.length ≤ 100 := by
  have := h.book.many
  have := h.passes.many
  omega
theorem good (h : Ready ps bk q) : Snd.Good q bk := h.items.good fun k hk => by
  have := h.mem_book hk
  have := h.passes.many
  omega
theorem ways (h : Ready ps bk q) : Snd.Ways bk (ssOf ps) := ⟨fun k hk => (h.pass hk).line _ (Nat.le_refl _), fun k hk s hs => by
  have g := (h.pass hk).stretches _ (Nat.le_refl _) s hs
  have g1 := g.rate
  have g2 := g.rate1
  omega⟩
theorem long (h : Ready ps bk q) : Snd.Long bk (ssOf ps) (fun k => (rd_T33 ps k).f1) (fun k => (rd_T33 ps k).f2) := ⟨fun k hk s hs => by
  obtain ⟨i, hi, _, rfl⟩ := (stretches_mem _).1 hs
  have g := h.pass hk
  exact ⟨(g.step i hi).1, (g.ends hi).2⟩, fun k hk => (h.pass hk).long⟩
theorem stretch_in (h : Ready ps bk q) {k : Int} (hk : k ∈ bk) {s : S81} (hs : s ∈ ssOf ps k) : 0 ≤ s.f0 ∧ 0 ≤ s.f1 ∧ s.f0 ∈ numsP (rd_T33 ps k) ∧ s.f1 ∈ numsP (rd_T33 ps k) := by
  have g := (h.pass hk).stretches _ (Nat.le_refl _) s hs
  have g1 := g.le
  have g2 := g.lo
  obtain ⟨i, hi, _, rfl⟩ := (stretches_mem _).1 hs
  refine ⟨g2, Int.le_trans g2 g1, ?_, ?_⟩
  · exact List.mem_cons_of_mem _ (List.mem_cons_of_mem _ (List.mem_map.2 ⟨_, rd_mem_R hi, rfl⟩))
  · show endOf (rd_T33 ps k) i ∈ _
    unfold endOf
    by_cases hl : i + 1 < (rd_T33 ps k).f3.length
    · rw [if_pos hl]
      exact List.mem_cons_of_mem _ (List.mem_cons_of_mem _ (List.mem_map.2 ⟨_, rd_mem_R hl, rfl⟩))
    · rw [if_neg hl]
      exact List.mem_cons_of_mem _ List.mem_cons_self
theorem codeMoms (h : Ready ps bk q) : Snd.Moms q bk (ssOf ps) (momV q (bk.map (ssOf ps))) := by
  obtain ⟨h1, h2⟩ := compact_rise (momAll q (bk.map (ssOf ps)))
  refine ⟨h1, fun x hx => ?_, fun k hk s hs => ⟨(h2 _).2 (mem_momAll.2 (Or.inl ⟨_, List.mem_map.2 ⟨k, hk, rfl⟩, s, hs, Or.inl rfl⟩)), (h2 _).2 (mem_momAll.2 (Or.inl ⟨_, List.mem_map.2 ⟨k, hk, rfl⟩, s, hs, Or.inr rfl⟩))⟩, fun i hi => (h2 _).2 (mem_momAll.2 (Or.inr ⟨q.getD i z63, by rw [Snd.getD_at hi]; exact List.getElem_mem hi, rfl⟩))⟩
  rcases mem_momAll.1 ((h2 x).1 hx) with ⟨w, hw, s, hs, e⟩ | ⟨y, hy, rfl⟩
  · obtain ⟨k, hk, rfl⟩ := List.mem_map.1 hw
    have := h.stretch_in hk hs
    omega
  · exact (h.items.mem hy).ready.1
theorem waysGo_ev (h : Ready ps bk q) : ∀ (r : List Int) (acc : List (List S81)), (∀ k ∈ r, k ∈ bk) → Ev (fun k => waysGo k ps r acc) (acc ++ r.map (ssOf ps))
  | [], acc, _ => Ev.is (by simp)
  | b :: r, acc, hb => by
    have hb0 := hb b List.mem_cons_self
    simp only [waysGo, if_pos (h.mem_book hb0)]
    have ih := waysGo_ev h r (acc ++ [ssOf ps b]) (fun k hk => hb k (List.mem_cons_of_mem _ hk))
    rw [List.append_assoc] at ih
    exact Ev.bind (contact_stretches_ev (rd_T33 ps b) (h.pass hb0).many) ih
theorem newX_ev (h : Ready ps bk q) : Ev (fun k => newX k ps bk q) (newS0 ps bk q) := by
  have hc : q.length ≤ 1000000 ∧ bk.length ≤ 1000000 ∧ OrdOK q := ⟨by have := h.items.many; omega, by have := h.few; omega, h.items.ordOK⟩
  obtain ⟨K, hK⟩ := h.waysGo_ev bk [] (fun k hk => hk)
  refine ⟨K, fun k hk => ?_⟩
  have h1 := hK k hk
  simp only [List.nil_append] at h1
  show newX k ps bk q = _
  unfold newX
  rw [if_pos hc, h1]
  rfl
/-- The code's run. -/
theorem code_run (h : Ready ps bk q) {u : Int} (hu : 0 ≤ u ∧ u ≤ 1000000000000) : ∃ st W, Ev (fun k => runX q bk u k (newS0 ps bk q)) st ∧ Snd.Sim q (ordN q) bk W st (stOf ps bk q u) := by
  have h0 : Snd.Sim q (ordN q) bk (bk.map (ssOf ps)) (newS0 ps bk q) (Snd.start q) := by
    have := Snd.start_sim (ord := ordN q) (bk := bk) h.good (D := .map []) Maps.isMap_empty (fun i k _ _ => rfl) (bk.map (ssOf ps))
    unfold newS0
    rw [h.items.ordN]
    exact this
  obtain ⟨st, W, h1, h2⟩ := Snd.code_sim h.good (ordN_ord q) h.ways h.long h.book.up h.few h.codeMoms hu h0
  refine ⟨st, W, ⟨u.toNat + q.length + 4, fun K hK => ?_⟩, h2⟩
  have hf := h.few
  have hq := h.items.many
  have hm : (momAll q (bk.map (ssOf ps))).length ≤ 1000000 := by
    have := momW_len (bk.map (ssOf ps)) (fun w hw => by
      obtain ⟨k, hk, rfl⟩ := List.mem_map.1 hw
      have := stretchesV_length (rd_T33 ps k) (rd_T33 ps k).f3.length
      have := (h.pass hk).many
      unfold ssOf
      omega)
    unfold momAll
    rw [List.length_map] at this
    rw [List.length_append, List.length_map]
    omega
  show runX q bk u K (newS0 ps bk q) = some st
  unfold runX
  rw [if_pos ⟨hm, by omega, by show (bk.map (ssOf ps)).length ≤ 1000000; rw [List.length_map]; omega, by omega⟩]
  exact h1 K hK
end Ready
end Go.Proofs.Ytbngmblgkkdhpaa.Q
