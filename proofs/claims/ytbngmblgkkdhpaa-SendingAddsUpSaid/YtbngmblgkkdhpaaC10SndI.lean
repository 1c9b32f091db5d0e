/- Sending: the moments. -/
-- Made by wip/tools/claimp.py of this session's texts; Lean checks it.
import Derived.Test.YtbngmblgkkdhpaaC10SndH
import Derived.Test.YtbngmblgkkdhpaaC10Gs11
import Derived.Test.YtbngmblgkkdhpaaC10Gs12
import Derived.Test.YtbngmblgkkdhpaaC10Gs8
set_option linter.unusedVariables false
set_option linter.unusedSimpArgs false
namespace Go.Proofs.Ytbngmblgkkdhpaa.Q
open Go.RowKit Go.Proofs.YtbngmblgkkdhpaaW.PrintWords Go.Proofs.YtbngmblgkkdhpaaW.PrintLast Go.Proofs.YtbngmblgkkdhpaaW.PrintMore Go.Proofs.Ytbngmblgkkdhpaa.Base
theorem rd_get {l : List Int} {i : Nat} (h : i < l.length) : rd l (i : Int) = l[i] := by
  unfold rd
  rw [Int.toNat_natCast, List.getD_eq_getElem?_getD, List.getElem?_eq_getElem h]
  rfl
/-- The numbers of a pass. -/
def numsP (p : S33) : List Int := p.f1 :: p.f2 :: p.f3.map (·.f0)
/-- A list that does not fall, each number once. -/
theorem compactUpTo_rise {d : Array Int} (hs : ∀ i j : Nat, i < j → j < d.size → d[i]! ≤ d[j]!) : ∀ m : Nat, m ≤ d.size → (Lib.compactUpTo d m).Pairwise (· < ·) ∧ (∀ x, x ∈ Lib.compactUpTo d m ↔ ∃ j, j < m ∧ d[j]! = x)
  | 0, _ => ⟨by unfold Lib.compactUpTo; exact List.Pairwise.nil, fun x => by unfold Lib.compactUpTo; simp⟩
  | m + 1, hm => by
    obtain ⟨h1, h2⟩ := compactUpTo_rise hs m (by omega)
    rw [Lib.compactUpTo_succ]
    by_cases hk : Lib.keeps d m = true
    · rw [if_pos hk]
      have hkeep : m = 0 ∨ d[m]! ≠ d[m - 1]! := by
        unfold Lib.keeps at hk
        exact of_decide_eq_true hk
      refine ⟨List.pairwise_append.2 ⟨h1, List.pairwise_singleton _ _, fun a ha b hb => ?_⟩, fun x => ?_⟩
      · obtain ⟨j, hj, rfl⟩ := (h2 a).1 ha
        rw [List.mem_singleton.1 hb]
        rcases hkeep with q | q
        · omega
        · have e1 := hs (m - 1) m (by omega) (by omega)
          by_cases e : j = m - 1
          · subst e; omega
          · have e2 := hs j (m - 1) (by omega) (by omega); omega
      · rw [List.mem_append, h2]
        constructor
        · rintro (⟨j, hj, e⟩ | e)
          · exact ⟨j, by omega, e⟩
          · exact ⟨m, by omega, (List.mem_singleton.1 e).symm⟩
        · rintro ⟨j, hj, e⟩
          by_cases q : j = m
          · right; subst q; rw [e]; exact List.mem_singleton.2 rfl
          · left; exact ⟨j, by omega, e⟩
    · rw [if_neg hk, List.append_nil]
      refine ⟨h1, fun x => ?_⟩
      rw [h2]
      have hkeep : ¬ (m = 0 ∨ d[m]! ≠ d[m - 1]!) := by
        unfold Lib.keeps at hk
        exact fun q => hk (decide_eq_true q)
      constructor
      · rintro ⟨j, hj, e⟩
        exact ⟨j, by omega, e⟩
      · rintro ⟨j, hj, e⟩
        by_cases q : j = m
        · subst q
          exact ⟨j - 1, by omega, by rw [← e]; exact (Classical.byContradiction fun z => hkeep (.inr fun y => z y.symm))⟩
        · exact ⟨j, by omega, e⟩
theorem compact_rise (a : List Int) : (Lib.compact (a.mergeSort fun x y => decide (x ≤ y))).Pairwise (· < ·) ∧ ∀ x, x ∈ Lib.compact (a.mergeSort fun x y => decide (x ≤ y)) ↔ x ∈ a := by
  have hp := List.mergeSort_perm a (fun x y => decide (x ≤ y))
  have hs := List.pairwise_mergeSort (le := fun x y : Int => decide (x ≤ y)) (fun a b c h1 h2 => by simp only [decide_eq_true_eq] at *; omega) (fun a b => by simp only [Bool.or_eq_true, decide_eq_true_eq]; omega) a
  generalize hz : (a.mergeSort fun x y => decide (x ≤ y)) = z at *
  have hc := compactUpTo_rise (d := z.toArray) (fun i j hij hj => by
    have hj' : j < z.length := by simpa using hj
    have := List.pairwise_iff_getElem.1 hs i j (by omega) hj' hij
    simp only [decide_eq_true_eq] at this
    simpa [hj', show i < z.length by omega] using this) z.length (by simp)
  refine ⟨hc.1, fun x => ?_⟩
  show x ∈ Lib.compactUpTo z.toArray z.length ↔ _
  rw [hc.2, ← hp.mem_iff, List.mem_iff_getElem]
  constructor
  · rintro ⟨j, hj, e⟩
    exact ⟨j, hj, by simpa [hj] using e⟩
  · rintro ⟨j, hj, e⟩
    exact ⟨j, hj, by simpa [hj] using e⟩
theorem mem_momAll {q : List S63} {ways : List (List S81)} {x : Int} : x ∈ momAll q ways ↔ (∃ w ∈ ways, ∃ s ∈ w, x = s.f0 ∨ x = s.f1) ∨ ∃ y ∈ q, y.f3 = x := by
  unfold momAll momW momS
  simp only [List.mem_append, List.mem_flatMap, List.mem_map, List.mem_cons, List.not_mem_nil, or_false]
theorem momW_len : ∀ (ways : List (List S81)), (∀ w ∈ ways, w.length ≤ 50) → (momW ways).length ≤ 100 * ways.length
  | [], _ => Nat.le_refl _
  | w :: r, h => by
    have ih := momW_len r (fun x hx => h x (List.mem_cons_of_mem _ hx))
    have h1 := h w List.mem_cons_self
    have h2 := momS_len w
    unfold momW at ih ⊢
    rw [List.flatMap_cons, List.length_append, List.length_cons]
    omega
end Go.Proofs.Ytbngmblgkkdhpaa.Q
