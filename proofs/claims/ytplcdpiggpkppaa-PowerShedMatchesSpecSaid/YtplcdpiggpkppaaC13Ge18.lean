-- Made by wip/tools/claimp.py of this session's texts; Lean checks it.
import Derived.Test.YtplcdpiggpkppaaC13Q0
import Derived.Test.YtplcdpiggpkppaaC13Ge13
import Derived.Test.YtplcdpiggpkppaaC13Ge15
import Derived.Test.YtplcdpiggpkppaaC13Ge3
import Derived.Test.YtplcdpiggpkppaaC13Ge8
namespace Go.Proofs.Ytplcdpiggpkppaa.Q
open Go.RowKit Go.Proofs.YtplcdpiggpkppaaW.PrintWords Go.Proofs.YtplcdpiggpkppaaW.PrintLast Go.Proofs.YtplcdpiggpkppaaW.PrintMore
attribute [local go_sem] max2_int min2_int max_two min_two max_three min_three max_four min_four
open Go.Proofs.Ytplcdpiggpkppaa.Base
attribute [local go_sem high] str_leq str_gtr str_geq
set_option linter.unusedVariables false
set_option linter.unusedSimpArgs false
mutual
def power_Kept.l0 : Nat → List (S72) → List (S76) → List (S47) → Int → List Int → Int → Int → Int → Int → Int → Int → Int → Int → Option (List Int × Int × Int)
  | 0, _, _, _, _, _, _, _, _, _, _, _, _, _ => none
  | k + 1, x1, x2, x3, x4, x14, x15, x38, x39, x102000, x102001, x102002, x102003, x102004 => if x39 < x38 then (power_Kept.l1 k x1 x2 x3 x4 x14 x15 x39 ([] : List (S47)) ([] : List Int) 0 x38 x39 x3 (x3.length : Int) 0 x102000 x102001 x102002 x102003 x102004) else (some (x14, mx x15 0, 0))
def power_Kept.l1 : Nat → List (S72) → List (S76) → List (S47) → Int → List Int → Int → Int → List (S47) → List Int → Int → Int → Int → List (S47) → Int → Int → Int → Int → Int → Int → Int → Option (List Int × Int × Int)
  | 0, _, _, _, _, _, _, _, _, _, _, _, _, _, _, _, _, _, _, _, _ => none
  | k + 1, x1, x2, x3, x4, x14, x15, x16, x17, x18, x19, x38, x39, x42, x43, x44, x102000, x102001, x102002, x102003, x102004 => if x44 < x43 then (if 0 ≤ x44 then (if x44 < (x42.length : Int) then (if (Go.bits .and .i64 (shr .i64 x16 x44) 1) = 1 then ((power_load.f k x2 ((rd_T47 x42 x44).f0)).bind fun bt105 => ((some (([(⟨(rd_T47 x42 x44).f0, (rd_T47 x42 x44).f1, (rd_T47 x42 x44).f2⟩ : S47)] : List (S47)) : List (S47))).bind fun y110 => (if x17.length + y110.length < 4398046511104 then ((some (([x44] : List Int) : List Int)).bind fun y116 => (if x18.length + y116.length < 17592186044416 then (power_Kept.l1 k x1 x2 x3 x4 x14 x15 x16 (x17 ++ y110) (x18 ++ y116) (wrap64 (x19 + bt105.2.2.1)) x38 x39 x42 x43 (wrap64 (x44 + 1)) x102000 x102001 x102002 x102003 x102004) else (none))) else (none)))) else (power_Kept.l1 k x1 x2 x3 x4 x14 x15 x16 x17 x18 x19 x38 x39 x42 x43 (wrap64 (x44 + 1)) x102000 x102001 x102002 x102003 x102004)) else (none)) else (none)) else (if x19 < x15 then (power_Kept.j2 k x1 x2 x3 x4 x14 x15 x17 x18 x19 x38 x39 true x102000 x102001 x102002 x102003 x102004) else (if x19 = x15 then (if (x18.length : Int) > (x14.length : Int) then (power_Kept.j2 k x1 x2 x3 x4 x14 x15 x17 x18 x19 x38 x39 true x102000 x102001 x102002 x102003 x102004) else (if (x18.length : Int) = (x14.length : Int) then ((slices_Compare_int_int.f k x18 x14).bind fun t122 => (power_Kept.j2 k x1 x2 x3 x4 x14 x15 x17 x18 x19 x38 x39 (decide (t122 ≥ 0)) x102000 x102001 x102002 x102003 x102004)) else (power_Kept.j2 k x1 x2 x3 x4 x14 x15 x17 x18 x19 x38 x39 false x102000 x102001 x102002 x102003 x102004))) else (power_Kept.j2 k x1 x2 x3 x4 x14 x15 x17 x18 x19 x38 x39 false x102000 x102001 x102002 x102003 x102004)))
def power_Kept.j2 : Nat → List (S72) → List (S76) → List (S47) → Int → List Int → Int → List (S47) → List Int → Int → Int → Int → Bool → Int → Int → Int → Int → Int → Option (List Int × Int × Int)
  | 0, _, _, _, _, _, _, _, _, _, _, _, _, _, _, _, _, _ => none
  | k + 1, x1, x2, x3, x4, x14, x15, x17, x18, x19, x38, x39, x101, x102000, x102001, x102002, x102003, x102004 => if x101 = true then (power_Kept.l0 k x1 x2 x3 x4 x14 x15 x38 (wrap64 (x39 + 1)) x102000 x102001 x102002 x102003 x102004) else ((power_empty.f k x102000 x102001 x102002 x102003 x102004 x1 x2 x17 x4).bind fun t123 => (if t123 < 0 then (power_Kept.l0 k x1 x2 x3 x4 x18 x19 x38 (wrap64 (x39 + 1)) x102000 x102001 x102002 x102003 x102004) else (power_Kept.l0 k x1 x2 x3 x4 x14 x15 x38 (wrap64 (x39 + 1)) x102000 x102001 x102002 x102003 x102004)))
end
end Go.Proofs.Ytplcdpiggpkppaa.Q
