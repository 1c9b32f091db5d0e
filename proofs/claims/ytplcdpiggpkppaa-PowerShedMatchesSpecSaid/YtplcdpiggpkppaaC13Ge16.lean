-- Made by wip/tools/claimp.py of this session's texts; Lean checks it.
import Derived.Test.YtplcdpiggpkppaaC13Q0
import Derived.Test.YtplcdpiggpkppaaC13Ge15
import Derived.Test.YtplcdpiggpkppaaC13Ge5
import Derived.Test.YtplcdpiggpkppaaC13Ge9
namespace Go.Proofs.Ytplcdpiggpkppaa.Q
open Go.RowKit Go.Proofs.YtplcdpiggpkppaaW.PrintWords Go.Proofs.YtplcdpiggpkppaaW.PrintLast Go.Proofs.YtplcdpiggpkppaaW.PrintMore
attribute [local go_sem] max2_int min2_int max_two min_two max_three min_three max_four min_four
open Go.Proofs.Ytplcdpiggpkppaa.Base
attribute [local go_sem high] str_leq str_gtr str_geq
set_option linter.unusedVariables false
set_option linter.unusedSimpArgs false
mutual
def perigeeref9_Kept.l0 : Nat → List (S72) → List (S76) → List (S47) → Int → List Int → Int → Int → Int → Int → Int → Int → Int → Int → Option (List Int × Int × Int)
  | 0, _, _, _, _, _, _, _, _, _, _, _, _, _ => none
  | k + 1, x1, x2, x3, x4, x14, x15, x40, x41, x102000, x102001, x102002, x102003, x102004 => if x41 < x40 then (perigeeref9_Kept.l1 k x1 x2 x3 x4 x14 x15 x41 ([] : List (S47)) ([] : List Int) 0 x40 x41 x3 (x3.length : Int) 0 x102000 x102001 x102002 x102003 x102004) else (some (x14, x15, 0))
def perigeeref9_Kept.l1 : Nat → List (S72) → List (S76) → List (S47) → Int → List Int → Int → Int → List (S47) → List Int → Int → Int → Int → List (S47) → Int → Int → Int → Int → Int → Int → Int → Option (List Int × Int × Int)
  | 0, _, _, _, _, _, _, _, _, _, _, _, _, _, _, _, _, _, _, _, _ => none
  | k + 1, x1, x2, x3, x4, x14, x15, x16, x17, x18, x19, x40, x41, x44, x45, x46, x102000, x102001, x102002, x102003, x102004 => if x46 < x45 then (if 0 ≤ x46 then (if x46 < (x44.length : Int) then (if (Go.bits .and .i64 (shr .i64 x16 x46) 1) = 1 then ((perigeeref9_loadOf.f k x2 ((rd_T47 x44 x46).f0)).bind fun bt105 => ((some (([(⟨(rd_T47 x44 x46).f0, (rd_T47 x44 x46).f1, (rd_T47 x44 x46).f2⟩ : S47)] : List (S47)) : List (S47))).bind fun y110 => (if x17.length + y110.length < 4398046511104 then ((some (([x46] : List Int) : List Int)).bind fun y116 => (if x18.length + y116.length < 17592186044416 then (perigeeref9_Kept.l1 k x1 x2 x3 x4 x14 x15 x16 (x17 ++ y110) (x18 ++ y116) (wrap64 (x19 + bt105.2.2.1)) x40 x41 x44 x45 (wrap64 (x46 + 1)) x102000 x102001 x102002 x102003 x102004) else (none))) else (none)))) else (perigeeref9_Kept.l1 k x1 x2 x3 x4 x14 x15 x16 x17 x18 x19 x40 x41 x44 x45 (wrap64 (x46 + 1)) x102000 x102001 x102002 x102003 x102004)) else (none)) else (none)) else (if x19 < x15 then (perigeeref9_Kept.j2 k x1 x2 x3 x4 x14 x15 x17 x18 x19 x40 x41 true x102000 x102001 x102002 x102003 x102004) else (if x19 = x15 then (if (x18.length : Int) > (x14.length : Int) then (perigeeref9_Kept.j2 k x1 x2 x3 x4 x14 x15 x17 x18 x19 x40 x41 true x102000 x102001 x102002 x102003 x102004) else (if (x18.length : Int) = (x14.length : Int) then ((slices_Compare_int_int.f k x18 x14).bind fun t122 => (perigeeref9_Kept.j2 k x1 x2 x3 x4 x14 x15 x17 x18 x19 x40 x41 (decide (t122 ≥ 0)) x102000 x102001 x102002 x102003 x102004)) else (perigeeref9_Kept.j2 k x1 x2 x3 x4 x14 x15 x17 x18 x19 x40 x41 false x102000 x102001 x102002 x102003 x102004))) else (perigeeref9_Kept.j2 k x1 x2 x3 x4 x14 x15 x17 x18 x19 x40 x41 false x102000 x102001 x102002 x102003 x102004)))
def perigeeref9_Kept.j2 : Nat → List (S72) → List (S76) → List (S47) → Int → List Int → Int → List (S47) → List Int → Int → Int → Int → Bool → Int → Int → Int → Int → Int → Option (List Int × Int × Int)
  | 0, _, _, _, _, _, _, _, _, _, _, _, _, _, _, _, _, _ => none
  | k + 1, x1, x2, x3, x4, x14, x15, x17, x18, x19, x40, x41, x103, x102000, x102001, x102002, x102003, x102004 => if x103 = true then (perigeeref9_Kept.l0 k x1 x2 x3 x4 x14 x15 x40 (wrap64 (x41 + 1)) x102000 x102001 x102002 x102003 x102004) else ((perigeeref9_empty.f k x102000 x102001 x102002 x102003 x102004 x1 x2 x17 x4).bind fun bt123 => (if bt123.2 = true then (perigeeref9_Kept.l0 k x1 x2 x3 x4 x14 x15 x40 (wrap64 (x41 + 1)) x102000 x102001 x102002 x102003 x102004) else (perigeeref9_Kept.l0 k x1 x2 x3 x4 x18 x19 x40 (wrap64 (x41 + 1)) x102000 x102001 x102002 x102003 x102004)))
end
end Go.Proofs.Ytplcdpiggpkppaa.Q
