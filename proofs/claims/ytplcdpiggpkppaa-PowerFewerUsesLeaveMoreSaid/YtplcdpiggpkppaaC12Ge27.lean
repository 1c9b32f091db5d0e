-- Made by wip/tools/claimp.py of this session's texts; Lean checks it.
import Derived.Test.YtplcdpiggpkppaaC12Q0
import Derived.Test.YtplcdpiggpkppaaC12Ge10
import Derived.Test.YtplcdpiggpkppaaC12Ge1
import Derived.Test.YtplcdpiggpkppaaC12Ge25
import Derived.Test.YtplcdpiggpkppaaC12Ge4
import Derived.Test.YtplcdpiggpkppaaC12Ge8
namespace Go.Proofs.Ytplcdpiggpkppaa.Q
open Go.RowKit Go.Proofs.YtplcdpiggpkppaaW.PrintWords Go.Proofs.YtplcdpiggpkppaaW.PrintLast Go.Proofs.YtplcdpiggpkppaaW.PrintMore
attribute [local go_sem] max2_int min2_int max_two min_two max_three min_three max_four min_four
open Go.Proofs.Ytplcdpiggpkppaa.Base
attribute [local go_sem high] str_leq str_gtr str_geq
set_option linter.unusedVariables false
set_option linter.unusedSimpArgs false
def perigeeref9_broken.T15 : Bool × List (List Nat × List Nat) := (true, [([], []), ([0], [0]), ([1], [1]), ([2], [2]), ([2], [2]), ([4, 2], [2, 4]), ([3, 5, 2], [2, 3, 5]), ([6, 2], [2, 6]), ([7, 2], [2, 7]), ([2], [2]), ([2], [2]), ([9, 10, 2], [2, 9, 10]), ([11, 2], [2, 11]), ([8, 12, 2], [2, 8, 12]), ([2, 13], [2, 13])])
def perigeeref9_broken.B15 : List Nat := [0, 1, 3, 7, 7, 23, 63, 127, 255, 7, 7, 1543, 3591, 8191, 16383]
theorem perigeeref9_broken.tab15 : rtab .any (opsOf Try.f76 15) = perigeeref9_broken.T15 := by kernel_rfl
theorem perigeeref9_broken.bits15 : waitsOk perigeeref9_broken.T15.2 perigeeref9_broken.B15 = true := by kernel_rfl
end Go.Proofs.Ytplcdpiggpkppaa.Q
