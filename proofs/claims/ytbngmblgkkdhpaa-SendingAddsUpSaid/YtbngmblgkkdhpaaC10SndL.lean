/- Sending: the parts in order, told either way. -/
-- Made by wip/tools/claimp.py of this session's texts; Lean checks it.
import Derived.Test.YtbngmblgkkdhpaaC10SndK
import Derived.Test.YtbngmblgkkdhpaaC10Gs19
set_option linter.unusedVariables false
set_option linter.unusedSimpArgs false
namespace Go.Proofs.Ytbngmblgkkdhpaa.Q
open Go.RowKit Go.Proofs.YtbngmblgkkdhpaaW.PrintWords Go.Proofs.YtbngmblgkkdhpaaW.PrintLast Go.Proofs.YtbngmblgkkdhpaaW.PrintMore Go.Proofs.Ytbngmblgkkdhpaa.Base
theorem rowsX_sorted {l : List SRow} (hs : ∀ x ∈ l, SmallRow x) (hu : l.Pairwise (fun x y => x.n < y.n)) : (rowsX l).Pairwise kLt ∧ (rowsX l).Perm l := by
  have e : rowsX l = l.mergeSort (fun x y => !decide (kLt y x)) := by
    have h := List.map_mergeSort (f := id) (r := fun x y => !decide (kLt y x)) (s := fun x y => !decide (cmpRow y x < 0)) (l := l) (fun a ha b hb => by
      have := cmpRow_lt (hs b hb) (hs a ha)
      show (!decide (kLt b a)) = !decide (cmpRow b a < 0)
      by_cases c : kLt b a
      · rw [decide_eq_true c, decide_eq_true (this.2 c)]
      · rw [decide_eq_false c, decide_eq_false (fun h => c (this.1 h))])
    simp only [List.map_id_fun, id_eq] at h
    exact h.symm
  have hp := List.mergeSort_perm l (fun x y => !decide (kLt y x))
  have hso := List.pairwise_mergeSort (le := fun x y => !decide (kLt y x)) (fun a b c h1 h2 => by
    simp only [Bool.not_eq_true', decide_eq_false_iff_not] at h1 h2 ⊢
    unfold kLt at h1 h2 ⊢
    omega) (fun a b => by
    simp only [Bool.or_eq_true, Bool.not_eq_true', decide_eq_false_iff_not]
    unfold kLt
    omega) l
  rw [← e] at hp hso
  refine ⟨?_, hp⟩
  have hnum : (rowsX l).Pairwise (fun x y => x.n ≠ y.n) := by
    have h0 : l.Pairwise (fun x y => x.n ≠ y.n) := hu.imp (fun {x y} h => by omega)
    exact (hp.symm.pairwise_iff (fun {x y} h => fun e => h e.symm)).1 h0
  refine (hso.and hnum).imp fun {x y} h => ?_
  obtain ⟨h1, h2⟩ := h
  simp only [Bool.not_eq_true', decide_eq_false_iff_not] at h1
  unfold kLt at h1 ⊢
  omega
theorem partsX_perm {l : List SRow} (hs : ∀ x ∈ l, SmallRow x) (hu : l.Pairwise (fun x y => x.n < y.n)) : (partsX l).Perm (l.map (·.p)) := by
  unfold partsX
  exact (rowsX_sorted hs hu).2.map _
end Go.Proofs.Ytbngmblgkkdhpaa.Q
