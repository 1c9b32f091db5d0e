-- Made by wip/tools/claimp.py of this session's texts; Lean checks it.
import Derived.Test.YtplcdpiggpkppaaC12Q0
import Derived.Test.YtplcdpiggpkppaaC12Ge10
import Derived.Test.YtplcdpiggpkppaaC12Ge8
namespace Go.Proofs.Ytplcdpiggpkppaa.Q
open Go.RowKit Go.Proofs.YtplcdpiggpkppaaW.PrintWords Go.Proofs.YtplcdpiggpkppaaW.PrintLast Go.Proofs.YtplcdpiggpkppaaW.PrintMore
attribute [local go_sem] max2_int min2_int max_two min_two max_three min_three max_four min_four
open Go.Proofs.Ytplcdpiggpkppaa.Base
attribute [local go_sem high] str_leq str_gtr str_geq
set_option linter.unusedVariables false
set_option linter.unusedSimpArgs false
mutual
def perigeeref9_legs.l0 : Nat → List (S72) → List (S76) → List (S47) → Int → List Int → List (S72) → Int → Int → Int → Int → Int → Int → Int → Option ((List (S96)))
  | 0, _, _, _, _, _, _, _, _, _, _, _, _, _ => none
  | k + 1, x1, x2, x3, x4, x11, x23, x24, x25, x102000, x102001, x102002, x102003, x102004 => if x25 < x24 then (if 0 ≤ x25 then (if x25 < (x23.length : Int) then ((some (([(rd_T72 x23 x25).f0, (rd_T72 x23 x25).f1] : List Int) : List Int)).bind fun y107 => (if x11.length + y107.length < 17592186044416 then (perigeeref9_legs.l0 k x1 x2 x3 x4 (x11 ++ y107) x23 x24 (wrap64 (x25 + 1)) x102000 x102001 x102002 x102003 x102004) else (none))) else (none)) else (none)) else (perigeeref9_legs.l1 k x1 x2 x3 x4 x11 x3 (x3.length : Int) 0 x102000 x102001 x102002 x102003 x102004)
def perigeeref9_legs.l1 : Nat → List (S72) → List (S76) → List (S47) → Int → List Int → List (S47) → Int → Int → Int → Int → Int → Int → Int → Option ((List (S96)))
  | 0, _, _, _, _, _, _, _, _, _, _, _, _, _ => none
  | k + 1, x1, x2, x3, x4, x11, x37, x38, x39, x102000, x102001, x102002, x102003, x102004 => if x39 < x38 then (if 0 ≤ x39 then (if x39 < (x37.length : Int) then ((some (([(rd_T47 x37 x39).f1, (rd_T47 x37 x39).f2] : List Int) : List Int)).bind fun y115 => (if x11.length + y115.length < 17592186044416 then (perigeeref9_legs.l1 k x1 x2 x3 x4 (x11 ++ y115) x37 x38 (wrap64 (x39 + 1)) x102000 x102001 x102002 x102003 x102004) else (none))) else (none)) else (none)) else ((slices_Sort_int_int.f x11).bind fun t121 => ((slices_Compact_int_int.f t121).bind fun t122 => (perigeeref9_legs.l2 k x1 x2 x3 x4 t122 ([] : List (S96)) x102001 t122 (t122.length : Int) 0 x102000 x102001 x102002 x102003 x102004)))
def perigeeref9_legs.l2 : Nat → List (S72) → List (S76) → List (S47) → Int → List Int → List (S96) → Int → List Int → Int → Int → Int → Int → Int → Int → Int → Option ((List (S96)))
  | 0, _, _, _, _, _, _, _, _, _, _, _, _, _, _, _ => none
  | k + 1, x1, x2, x3, x4, x11, x16, x17, x57, x58, x59, x102000, x102001, x102002, x102003, x102004 => if x59 < x58 then (if 0 ≤ x59 then (if x59 < (x57.length : Int) then (if (rd x57 x59) ≥ x4 then (some x16) else (if (wrap64 (x59 + 1)) < (x11.length : Int) then (if 0 ≤ (wrap64 (x59 + 1)) then ((perigeeref9_change.f k x102000 x102001 x102002 x102003 x102004 x1 x2 x3 (rd x57 x59)).bind fun t127 => ((perigeeref9_leg_levelAt.f k (rd x57 x59) (mn x4 (rd x11 (wrap64 (x59 + 1)))) x17 t127 0 x102000 x102001 x102002 x102003 x102004 (mn x4 (rd x11 (wrap64 (x59 + 1))))).bind fun t129 => (if x16.length < 3518437208883 then (perigeeref9_legs.l2 k x1 x2 x3 x4 x11 (x16 ++ [(⟨rd x57 x59, mn x4 (rd x11 (wrap64 (x59 + 1))), x17, t127, t129⟩ : S96)]) t129 x57 x58 (wrap64 (x59 + 1)) x102000 x102001 x102002 x102003 x102004) else (none)))) else (none)) else ((perigeeref9_change.f k x102000 x102001 x102002 x102003 x102004 x1 x2 x3 (rd x57 x59)).bind fun t133 => ((perigeeref9_leg_levelAt.f k (rd x57 x59) x4 x17 t133 0 x102000 x102001 x102002 x102003 x102004 x4).bind fun t135 => (if x16.length < 3518437208883 then (perigeeref9_legs.l2 k x1 x2 x3 x4 x11 (x16 ++ [(⟨rd x57 x59, x4, x17, t133, t135⟩ : S96)]) t135 x57 x58 (wrap64 (x59 + 1)) x102000 x102001 x102002 x102003 x102004) else (none)))))) else (none)) else (none)) else (some x16)
end
def perigeeref9_legs.f (k : Nat) (a0_0 : Int) (a0_1 : Int) (a0_2 : Int) (a0_3 : Int) (a0_4 : Int) (l1 : List (S72)) (l2 : List (S76)) (l3 : List (S47)) (a4 : Int) : Option ((List (S96))) := perigeeref9_legs.l0 k l1 l2 l3 a4 (([0] : List Int)) l1 (l1.length : Int) 0 a0_0 a0_1 a0_2 a0_3 a0_4
end Go.Proofs.Ytplcdpiggpkppaa.Q
