-- Made by wip/tools/claimp.py of this session's texts; Lean checks it.
import Derived.Test.YtplcdpiggpkppaaC12Q0
import Derived.Test.YtplcdpiggpkppaaC12Ge1
import Derived.Test.YtplcdpiggpkppaaC12Ge2
import Derived.Test.YtplcdpiggpkppaaC12Ge5
namespace Go.Proofs.Ytplcdpiggpkppaa.Q
open Go.RowKit Go.Proofs.YtplcdpiggpkppaaW.PrintWords Go.Proofs.YtplcdpiggpkppaaW.PrintLast Go.Proofs.YtplcdpiggpkppaaW.PrintMore
attribute [local go_sem] max2_int min2_int max_two min_two max_three min_three max_four min_four
open Go.Proofs.Ytplcdpiggpkppaa.Base
attribute [local go_sem high] str_leq str_gtr str_geq
set_option linter.unusedVariables false
set_option linter.unusedSimpArgs false
mutual
def perigeeref9_CheckUses.l0 : Nat → List (S76) → List (S47) → List (S47) → Int → Int → Option (Int)
  | 0, _, _, _, _, _ => none
  | k + 1, x0, x1, x22, x23, x24 => if x24 < x23 then (if 0 ≤ x24 then (if x24 < (x22.length : Int) then ((perigeeref9_loadOf.f k x0 ((rd_T47 x22 x24).f0)).bind fun bt104 => (if bt104.2.2.2 = true then ((perigeeref9_within.f ((rd_T47 x22 x24).f1) 0 1000000000000).bind fun t109 => (if t109 = true then ((perigeeref9_within.f ((rd_T47 x22 x24).f2) 0 1000000000000).bind fun t110 => (perigeeref9_CheckUses.j1 k x0 x1 x24 x22 x23 x24 (!t110) ((rd_T47 x22 x24).f0) ((rd_T47 x22 x24).f1) ((rd_T47 x22 x24).f2))) else (perigeeref9_CheckUses.j1 k x0 x1 x24 x22 x23 x24 true ((rd_T47 x22 x24).f0) ((rd_T47 x22 x24).f1) ((rd_T47 x22 x24).f2)))) else (some 9))) else (none)) else (none)) else (perigeeref9_CheckUses.l1 k x1 x1 (x1.length : Int) 0)
def perigeeref9_CheckUses.j1 : Nat → List (S76) → List (S47) → Int → List (S47) → Int → Int → Bool → ByteArray → Int → Int → Option (Int)
  | 0, _, _, _, _, _, _, _, _, _, _ => none
  | k + 1, x0, x1, x6, x22, x23, x24, x38, x104000, x104001, x104002 => if x38 = true then (some 1) else (if x104002 ≤ x104001 then (some 13) else (if x6 > 0 then (if 0 ≤ (wrap64 (x6 - 1)) then (if (wrap64 (x6 - 1)) < (x1.length : Int) then ((perigeeref9_comesAfter.f x104000 x104001 x104002 ((rd_T47 x1 (wrap64 (x6 - 1))).f0) ((rd_T47 x1 (wrap64 (x6 - 1))).f1) ((rd_T47 x1 (wrap64 (x6 - 1))).f2)).bind fun t112 => (if t112 = true then (perigeeref9_CheckUses.l0 k x0 x1 x22 x23 (wrap64 (x24 + 1))) else (some 8))) else (none)) else (none)) else (perigeeref9_CheckUses.l0 k x0 x1 x22 x23 (wrap64 (x24 + 1)))))
def perigeeref9_CheckUses.l1 : Nat → List (S47) → List (S47) → Int → Int → Option (Int)
  | 0, _, _, _, _ => none
  | k + 1, x1, x69, x70, x71 => if x71 < x70 then (if 0 ≤ x71 then (if x71 < (x69.length : Int) then (perigeeref9_CheckUses.l2 k x1 x71 x69 x70 x71 x1 (x1.length : Int) 0 ((rd_T47 x69 x71).f0) ((rd_T47 x69 x71).f1) ((rd_T47 x69 x71).f2)) else (none)) else (none)) else (some 0)
def perigeeref9_CheckUses.l2 : Nat → List (S47) → Int → List (S47) → Int → Int → List (S47) → Int → Int → ByteArray → Int → Int → Option (Int)
  | 0, _, _, _, _, _, _, _, _, _, _, _ => none
  | k + 1, x1, x10, x69, x70, x71, x76, x77, x78, x115000, x115001, x115002 => if x78 < x77 then (if 0 ≤ x78 then (if x78 < (x76.length : Int) then (if x78 = x10 then (perigeeref9_CheckUses.l2 k x1 x10 x69 x70 x71 x76 x77 (wrap64 (x78 + 1)) x115000 x115001 x115002) else (if ((rd_T47 x76 x78).f0).toList = x115000.toList then ((perigeeref9_within.f x115001 ((rd_T47 x76 x78).f1) (wrap64 (((rd_T47 x76 x78).f2) - 1))).bind fun t117 => (if t117 = true then (some 12) else (perigeeref9_CheckUses.l2 k x1 x10 x69 x70 x71 x76 x77 (wrap64 (x78 + 1)) x115000 x115001 x115002))) else (perigeeref9_CheckUses.l2 k x1 x10 x69 x70 x71 x76 x77 (wrap64 (x78 + 1)) x115000 x115001 x115002))) else (none)) else (none)) else (perigeeref9_CheckUses.l1 k x1 x69 x70 (wrap64 (x71 + 1)))
end
end Go.Proofs.Ytplcdpiggpkppaa.Q
