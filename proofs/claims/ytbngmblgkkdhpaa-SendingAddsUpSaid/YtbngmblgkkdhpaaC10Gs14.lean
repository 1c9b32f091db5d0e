-- Made by wip/tools/claimp.py of this session's texts; Lean checks it.
import Derived.Test.YtbngmblgkkdhpaaC10Q0
import Derived.Test.YtbngmblgkkdhpaaC10Gs1
import Derived.Test.YtbngmblgkkdhpaaC10Gs13
import Derived.Test.YtbngmblgkkdhpaaC10Gs2
import Derived.Test.YtbngmblgkkdhpaaC10Gs3
namespace Go.Proofs.Ytbngmblgkkdhpaa.Q
open Go.RowKit Go.Proofs.YtbngmblgkkdhpaaW.PrintWords Go.Proofs.YtbngmblgkkdhpaaW.PrintLast Go.Proofs.YtbngmblgkkdhpaaW.PrintMore
attribute [local go_sem] max2_int min2_int max_two min_two max_three min_three max_four min_four
open Go.Proofs.Ytbngmblgkkdhpaa.Base
attribute [local go_sem high] str_leq str_gtr str_geq
set_option linter.unusedVariables false
set_option linter.unusedSimpArgs false
mutual
def perigeeref10_Until.j0 : Nat → List (S33) → Int → Int → Int → Bool → Option (Int × Bool × Int)
  | 0, _, _, _, _, _ => none
  | k + 1, x0, x1, x2, x3, x34 => if x34 = true then (some (0, false, 1)) else (if x3 = 0 then (some (x2, true, 0)) else (if 0 ≤ x1 then (if x1 < (x0.length : Int) then ((perigeeref10_volume.f k ((rd_T33 x0 x1).f0) ((rd_T33 x0 x1).f1) ((rd_T33 x0 x1).f2) ((rd_T33 x0 x1).f3) x2 ((rd_T33 x0 x1).f2)).bind fun t107 => (if t107 < x3 then (some (0, false, 0)) else (perigeeref10_Until.l0 k x2 x3 (mx x2 ((rd_T33 x0 x1).f1)) ((rd_T33 x0 x1).f2) ((rd_T33 x0 x1).f0) ((rd_T33 x0 x1).f1) ((rd_T33 x0 x1).f2) ((rd_T33 x0 x1).f3)))) else (none)) else (none)))
def perigeeref10_Until.l0 : Nat → Int → Int → Int → Int → ByteArray → Int → Int → List (S75) → Option (Int × Bool × Int)
  | 0, _, _, _, _, _, _, _, _ => none
  | k + 1, x2, x3, x13, x14, x107000, x107001, x107002, x107003 => if x13 < x14 then ((perigeeref10_volume.f k x107000 x107001 x107002 x107003 x2 (wrap64 (Int.tdiv (wrap64 (x13 + x14)) 2))).bind fun t108 => (if t108 ≥ x3 then (perigeeref10_Until.l0 k x2 x3 x13 (wrap64 (Int.tdiv (wrap64 (x13 + x14)) 2)) x107000 x107001 x107002 x107003) else (perigeeref10_Until.l0 k x2 x3 (wrap64 ((wrap64 (Int.tdiv (wrap64 (x13 + x14)) 2)) + 1)) x14 x107000 x107001 x107002 x107003))) else (some (x13, true, 0))
end
end Go.Proofs.Ytbngmblgkkdhpaa.Q
