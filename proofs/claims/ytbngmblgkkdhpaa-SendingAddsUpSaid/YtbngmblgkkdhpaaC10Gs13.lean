-- Made by wip/tools/claimp.py of this session's texts; Lean checks it.
import Derived.Test.YtbngmblgkkdhpaaC10Q0
import Derived.Test.YtbngmblgkkdhpaaC10Gs1
import Derived.Test.YtbngmblgkkdhpaaC10Gs10
import Derived.Test.YtbngmblgkkdhpaaC10Gs11
import Derived.Test.YtbngmblgkkdhpaaC10Gs12
import Derived.Test.YtbngmblgkkdhpaaC10Gs2
import Derived.Test.YtbngmblgkkdhpaaC10Gs3
import Derived.Test.YtbngmblgkkdhpaaC10Gs5
import Derived.Test.YtbngmblgkkdhpaaC10Gs6
import Derived.Test.YtbngmblgkkdhpaaC10Gs7
import Derived.Test.YtbngmblgkkdhpaaC10Gs8
import Derived.Test.YtbngmblgkkdhpaaC10Gs9
namespace Go.Proofs.Ytbngmblgkkdhpaa.Q
open Go.RowKit Go.Proofs.YtbngmblgkkdhpaaW.PrintWords Go.Proofs.YtbngmblgkkdhpaaW.PrintLast Go.Proofs.YtbngmblgkkdhpaaW.PrintMore
attribute [local go_sem] max2_int min2_int max_two min_two max_three min_three max_four min_four
open Go.Proofs.Ytbngmblgkkdhpaa.Base
attribute [local go_sem high] str_leq str_gtr str_geq
set_option linter.unusedVariables false
set_option linter.unusedSimpArgs false
def perigeeref10_volume.l0 : Nat → Int → Int → Int → Int → ByteArray → Int → Int → List (S75) → Option (Int)
  | 0, _, _, _, _, _, _, _, _ => none
  | k + 1, x1, x2, x7, x8, x102000, x102001, x102002, x102003 => if x8 < (x102003.length : Int) then (if (wrap64 (x8 + 1)) < (x102003.length : Int) then (if 0 ≤ (wrap64 (x8 + 1)) then (if 0 ≤ x8 then (if (mn x2 ((rd_T75 x102003 (wrap64 (x8 + 1))).f0)) > (mx x1 ((rd_T75 x102003 x8).f0)) then (perigeeref10_volume.l0 k x1 x2 (wrap64 (x7 + (wrap64 ((wrap64 ((mn x2 ((rd_T75 x102003 (wrap64 (x8 + 1))).f0)) - (mx x1 ((rd_T75 x102003 x8).f0)))) * ((rd_T75 x102003 x8).f1))))) (wrap64 (x8 + 1)) x102000 x102001 x102002 x102003) else (perigeeref10_volume.l0 k x1 x2 x7 (wrap64 (x8 + 1)) x102000 x102001 x102002 x102003)) else (none)) else (none)) else (if 0 ≤ x8 then (if (mn x2 x102002) > (mx x1 ((rd_T75 x102003 x8).f0)) then (perigeeref10_volume.l0 k x1 x2 (wrap64 (x7 + (wrap64 ((wrap64 ((mn x2 x102002) - (mx x1 ((rd_T75 x102003 x8).f0)))) * ((rd_T75 x102003 x8).f1))))) (wrap64 (x8 + 1)) x102000 x102001 x102002 x102003) else (perigeeref10_volume.l0 k x1 x2 x7 (wrap64 (x8 + 1)) x102000 x102001 x102002 x102003)) else (none))) else (some x7)
def perigeeref10_volume.f (k : Nat) (a0_0 : ByteArray) (a0_1 : Int) (a0_2 : Int) (l0_3 : List (S75)) (a1 : Int) (a2 : Int) : Option (Int) := perigeeref10_volume.l0 k a1 a2 0 0 a0_0 a0_1 a0_2 l0_3
end Go.Proofs.Ytbngmblgkkdhpaa.Q
