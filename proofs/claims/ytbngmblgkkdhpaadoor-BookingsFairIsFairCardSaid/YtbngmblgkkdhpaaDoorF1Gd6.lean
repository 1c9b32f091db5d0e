-- Made by wip/tools/claimp.py of this session's texts; Lean checks it.
import Derived.Test.YtbngmblgkkdhpaaDoorF1Q0
namespace Go.Proofs.YtbngmblgkkdhpaaDoor.Q
open Go.RowKit Go.Proofs.YtbngmblgkkdhpaaDoorW.PrintWords Go.Proofs.YtbngmblgkkdhpaaDoorW.PrintLast Go.Proofs.YtbngmblgkkdhpaaDoorW.PrintMore
attribute [local go_sem] max2_int min2_int max_two min_two max_three min_three max_four min_four
open Go.Proofs.YtbngmblgkkdhpaaDoor.Base
attribute [local go_sem high] str_leq str_gtr str_geq
set_option linter.unusedVariables false
set_option linter.unusedSimpArgs false
def perigeeref10_within.f (a0 : Int) (a1 : Int) (a2 : Int) : Option (Bool) := if a0 ≥ a1 then (some (decide (a0 ≤ a2))) else (some false)
mutual
def perigeeref10_checkPass.j0 : Nat → Bool → ByteArray → Int → Int → List (S62) → Option (Int)
  | 0, _, _, _, _, _ => none
  | k + 1, x18, x102000, x102001, x102002, x102003 => if x18 = true then (some 1) else (if x102002 ≤ x102001 then (some 8) else (if (wrap64 (x102002 - x102001)) > 2000000 then (perigeeref10_checkPass.j1 k true x102000 x102001 x102002 x102003) else (perigeeref10_checkPass.j1 k (decide ((x102003.length : Int) > 50)) x102000 x102001 x102002 x102003)))
def perigeeref10_checkPass.j1 : Nat → Bool → ByteArray → Int → Int → List (S62) → Option (Int)
  | 0, _, _, _, _, _ => none
  | k + 1, x35, x102000, x102001, x102002, x102003 => if x35 = true then (some 2) else (perigeeref10_checkPass.l0 k 0 x102000 x102001 x102002 x102003)
def perigeeref10_checkPass.l0 : Nat → Int → ByteArray → Int → Int → List (S62) → Option (Int)
  | 0, _, _, _, _, _ => none
  | k + 1, x3, x102000, x102001, x102002, x102003 => if x3 < (x102003.length : Int) then (if 0 ≤ x3 then ((perigeeref10_within.f ((rd_T62 x102003 x3).f0) x102001 (wrap64 (x102002 - 1))).bind fun t107 => (if t107 = true then ((perigeeref10_within.f ((rd_T62 x102003 x3).f1) 0 100000).bind fun t108 => (perigeeref10_checkPass.j3 k x3 (!t108) x102000 x102001 x102002 x102003 ((rd_T62 x102003 x3).f0) ((rd_T62 x102003 x3).f1))) else (perigeeref10_checkPass.j3 k x3 true x102000 x102001 x102002 x102003 ((rd_T62 x102003 x3).f0) ((rd_T62 x102003 x3).f1)))) else (none)) else (some 0)
def perigeeref10_checkPass.j3 : Nat → Int → Bool → ByteArray → Int → Int → List (S62) → Int → Int → Option (Int)
  | 0, _, _, _, _, _, _, _, _ => none
  | k + 1, x3, x62, x102000, x102001, x102002, x102003, x107000, x107001 => if x62 = true then (some 1) else (if x3 > 0 then (if 0 ≤ (wrap64 (x3 - 1)) then (if (wrap64 (x3 - 1)) < (x102003.length : Int) then (if x107000 ≤ ((rd_T62 x102003 (wrap64 (x3 - 1))).f0) then (some 8) else (perigeeref10_checkPass.l0 k (wrap64 (x3 + 1)) x102000 x102001 x102002 x102003)) else (none)) else (none)) else (perigeeref10_checkPass.l0 k (wrap64 (x3 + 1)) x102000 x102001 x102002 x102003))
end
end Go.Proofs.YtbngmblgkkdhpaaDoor.Q
