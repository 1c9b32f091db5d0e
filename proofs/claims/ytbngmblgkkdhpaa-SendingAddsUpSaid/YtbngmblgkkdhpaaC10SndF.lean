/- Sending: what a list of items that passes is like. -/
-- Made by wip/tools/claimp.py of this session's texts; Lean checks it.
import Derived.Test.YtbngmblgkkdhpaaC10SndE
set_option linter.unusedVariables false
set_option linter.unusedSimpArgs false
namespace Go.Proofs.Ytbngmblgkkdhpaa.Q
open Go.RowKit Go.Proofs.YtbngmblgkkdhpaaW.PrintWords Go.Proofs.YtbngmblgkkdhpaaW.PrintLast Go.Proofs.YtbngmblgkkdhpaaW.PrintMore Go.Proofs.Ytbngmblgkkdhpaa.Base
structure GoodItem (x : S63) : Prop where
  size : 0 ≤ x.f1 ∧ x.f1 ≤ 1000000000000
  rank : 0 ≤ x.f2 ∧ x.f2 ≤ 100
  ready : 0 ≤ x.f3 ∧ x.f3 ≤ 1000000000000
  due : 0 ≤ x.f4 ∧ x.f4 ≤ 1000000000000
  line : x.f3 ≤ x.f4
theorem itemsV_zero {q : List S63} : ∀ d i : Nat, i + d = q.length → itemsV q i = 0 → ∀ j : Nat, i ≤ j → j < q.length → GoodItem (rd_T63 q j) ∧ (0 < j → Lt (rd_T63 q ((j : Int) - 1)).f0 (rd_T63 q j).f0) := by
  intro d
  induction d with
  | zero => intro i hi _ j h1 h2; omega
  | succ d ih =>
    intro i hi h j h1 h2
    have hlt : i < q.length := by omega
    rw [itemsV_lt hlt] at h
    by_cases a1 : nameOk (rd_T63 q i).f0 = true
    rotate_left
    · rw [if_neg a1] at h; omega
    rw [if_pos a1] at h
    by_cases a2 : itemBad (rd_T63 q i) = true
    · rw [if_pos a2] at h; omega
    rw [if_neg a2] at h
    by_cases a3 : (rd_T63 q i).f4 < (rd_T63 q i).f3
    · rw [if_pos a3] at h; omega
    rw [if_neg a3] at h
    by_cases a4 : 0 < i ∧ ¬ Lt (rd_T63 q ((i : Int) - 1)).f0 (rd_T63 q i).f0
    · rw [if_pos a4] at h; omega
    rw [if_neg a4] at h
    by_cases e : i = j
    · subst e
      refine ⟨?_, fun h0 => Classical.byContradiction fun hc => a4 ⟨h0, hc⟩⟩
      unfold itemBad at a2
      simp only [Bool.not_eq_true', Bool.not_eq_false', Bool.and_eq_true, decide_eq_true_eq, Bool.not_eq_false, Bool.and_eq_false_iff] at a2
      have a2' : ((((0 ≤ (rd_T63 q i).f1 ∧ (rd_T63 q i).f1 ≤ 1000000000000) ∧ (0 ≤ (rd_T63 q i).f2 ∧ (rd_T63 q i).f2 ≤ 100)) ∧ (0 ≤ (rd_T63 q i).f3 ∧ (rd_T63 q i).f3 ≤ 1000000000000)) ∧ (0 ≤ (rd_T63 q i).f4 ∧ (rd_T63 q i).f4 ≤ 1000000000000)) := by
        refine Classical.byContradiction fun hc => a2 ?_
        simp only [decide_eq_false_iff_not]
        omega
      obtain ⟨⟨⟨b1, b2⟩, b3⟩, b4⟩ := a2'
      exact ⟨b1, b2, b3, b4, by omega⟩
    · exact ih (i + 1) (by omega) h j (by omega) h2
structure GoodItems (q : List S63) : Prop where
  many : q.length ≤ 300
  each : ∀ i : Nat, i < q.length → GoodItem (rd_T63 q i)
  names : ∀ i j : Nat, i < j → j < q.length → Lt (rd_T63 q i).f0 (rd_T63 q j).f0
theorem itemsC_zero {q : List S63} (h : itemsC q = 0) : GoodItems q := by
  unfold itemsC at h
  by_cases h1 : (q.length : Int) > 300
  · rw [if_pos h1] at h; omega
  rw [if_neg h1] at h
  have hz := itemsV_zero q.length 0 (by omega) h
  refine ⟨by omega, fun i hi => (hz i (by omega) hi).1, fun i j hij => ?_⟩
  induction j with
  | zero => omega
  | succ j ih =>
    intro hj
    have hs := (hz (j + 1) (by omega) hj).2 (by omega)
    rw [show (((j + 1 : Nat) : Int) - 1) = (j : Int) by omega] at hs
    by_cases e : i = j
    · subst e; exact hs
    · exact Lt_trans (ih (by omega) (by omega)) hs
end Go.Proofs.Ytbngmblgkkdhpaa.Q
