-- Made by wip/tools/claimp.py of this session's texts; Lean checks it.
import Derived.Test.YtbngmblgkkdhpaaC6Q0
import Derived.Test.YtbngmblgkkdhpaaC6G2
import Derived.Test.YtbngmblgkkdhpaaC6G3
import Derived.Test.YtbngmblgkkdhpaaC6G5
import Derived.Test.YtbngmblgkkdhpaaC6G8
namespace Go.Proofs.Ytbngmblgkkdhpaa.Q
open Go.RowKit Go.Proofs.YtbngmblgkkdhpaaW.PrintWords Go.Proofs.YtbngmblgkkdhpaaW.PrintLast Go.Proofs.YtbngmblgkkdhpaaW.PrintMore
attribute [local go_sem] max2_int min2_int max_two min_two max_three min_three max_four min_four
open Go.Proofs.Ytbngmblgkkdhpaa.Base
attribute [local go_sem high] str_leq str_gtr str_geq
set_option linter.unusedVariables false
set_option linter.unusedSimpArgs false
def perigeeref10_apart.T7 : Bool × List (List Nat × List Nat) := (true, [([], []), ([], []), ([], []), ([1, 2], [1, 2]), ([3], [3]), ([0, 4], [0, 4]), ([5], [5]), ([], []), ([], []), ([], []), ([8, 9], [8, 9]), ([10], [10]), ([7, 11], [7, 11]), ([12], [12]), ([], []), ([6, 13, 14], [6, 13, 14])])
def perigeeref10_apart.B7 : List Nat := [0, 0, 0, 6, 14, 31, 63, 0, 0, 0, 768, 1792, 3968, 8064, 0, 32767]
theorem perigeeref10_apart.tab7 : rtab .any (opsOf Try.f60 7) = perigeeref10_apart.T7 := by kernel_rfl
theorem perigeeref10_apart.bits7 : waitsOk perigeeref10_apart.T7.2 perigeeref10_apart.B7 = true := by kernel_rfl
end Go.Proofs.Ytbngmblgkkdhpaa.Q
