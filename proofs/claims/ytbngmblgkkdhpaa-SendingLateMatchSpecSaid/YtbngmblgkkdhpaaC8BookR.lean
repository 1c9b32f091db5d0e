/- Plain laws on bookings: the reference's Exclude, CheckBooking and Total answer as the program's; equality of lists. -/
-- Made by wip/tools/claimp.py of this session's texts; Lean checks it.
import Derived.Test.YtbngmblgkkdhpaaC8Book
import Derived.Test.YtbngmblgkkdhpaaC8Q0
import Derived.Test.YtbngmblgkkdhpaaC8Gs1
import Derived.Test.YtbngmblgkkdhpaaC8Gs14
import Derived.Test.YtbngmblgkkdhpaaC8Gs2
import Derived.Test.YtbngmblgkkdhpaaC8Gs3
import Derived.Test.YtbngmblgkkdhpaaC8Gs4
import Derived.Test.YtbngmblgkkdhpaaC8Gs13
import Derived.Test.YtbngmblgkkdhpaaC8Gs5
set_option linter.unusedVariables false
set_option linter.unusedSimpArgs false
namespace Go.Proofs.Ytbngmblgkkdhpaa.Q
open Go.RowKit Go.Proofs.YtbngmblgkkdhpaaW.PrintWords Go.Proofs.YtbngmblgkkdhpaaW.PrintLast Go.Proofs.YtbngmblgkkdhpaaW.PrintMore Go.Proofs.Ytbngmblgkkdhpaa.Base
theorem perigeeref10_checkNumbers_l0 (l : List S33) (hl : l.length ≤ 100) (b : List Int) (hb : b.length ≤ 1152921504606846976) : ∀ d i : Nat, i + d = b.length → Ev (fun k => perigeeref10_checkNumbers.l0 k l b (i : Int)) (bookV l b i) := by
  intro d
  induction d with
  | zero =>
    intro i hi
    refine Ev.step (fun k => perigeeref10_checkNumbers.l0.eq_2 ..) ?_
    simp only [if_neg (show ¬ (i : Int) < (b.length : Int) by omega)]
    rw [bookV, dif_neg (by omega)]
    exact Ev.now _
  | succ d ih =>
    intro i hi
    have hlt : i < b.length := by omega
    have hn := ih (i + 1) (by omega)
    rw [bookV, dif_pos hlt]
    refine Ev.step (fun k => perigeeref10_checkNumbers.l0.eq_2 ..) ?_
    simp only [if_pos (show (i : Int) < (b.length : Int) by omega), if_pos (show (0 : Int) ≤ (i : Int) by omega), w64 (x := (l.length : Int) - 1) (by omega) (by omega), perigeeref10_within_eq, Option.bind_some]
    by_cases h1 : 0 ≤ rd b i ∧ rd b i < l.length
    · simp only [decide_eq_true (show 0 ≤ rd b i ∧ rd b i ≤ (l.length : Int) - 1 by omega), if_true, if_neg (show ¬ ¬ (0 ≤ rd b i ∧ rd b i < l.length) from fun h => h h1), w64 (x := (i : Int) + 1) (by omega) (by omega)]
      by_cases h2 : 0 < i
      · simp only [w64 (x := (i : Int) - 1) (by omega) (by omega), if_pos (show (i : Int) > 0 by omega), if_pos (show (0 : Int) ≤ (i : Int) - 1 by omega), if_pos (show (i : Int) - 1 < (b.length : Int) by omega)]
        by_cases h3 : rd b i ≤ rd b ((i : Int) - 1)
        · simp only [if_pos h3, if_pos (show 0 < i ∧ rd b i ≤ rd b ((i : Int) - 1) from ⟨h2, h3⟩)]
          exact Ev.now _
        · simp only [if_neg h3, if_neg (show ¬ (0 < i ∧ rd b i ≤ rd b ((i : Int) - 1)) from fun h => h3 h.2)]
          exact hn
      · simp only [if_neg (show ¬ (i : Int) > 0 by omega), if_neg (show ¬ (0 < i ∧ rd b i ≤ rd b ((i : Int) - 1)) from fun h => h2 h.1)]
        exact hn
    · simp only [decide_eq_false (show ¬ (0 ≤ rd b i ∧ rd b i ≤ (l.length : Int) - 1) by omega), if_neg Bool.false_ne_true, if_pos h1]
      exact Ev.now _
theorem perigeeref10_checkNumbers_ev (l : List S33) (hl : l.length ≤ 100) (b : List Int) (hb : b.length ≤ 1152921504606846976) : Ev (fun k => perigeeref10_checkNumbers.f k l b) (bookV l b 0) := by
  simp only [perigeeref10_checkNumbers.f]
  exact perigeeref10_checkNumbers_l0 l hl b hb b.length 0 (by omega)
end Go.Proofs.Ytbngmblgkkdhpaa.Q
