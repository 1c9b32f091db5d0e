-- Made by wip/tools/claimp.py of this session's texts; Lean checks it.
import Derived.Test.YtplcdpiggpkppaaC12Q0
import Derived.Test.YtplcdpiggpkppaaC12Ge11
import Derived.Test.YtplcdpiggpkppaaC12Ge9
namespace Go.Proofs.Ytplcdpiggpkppaa.Q
open Go.RowKit Go.Proofs.YtplcdpiggpkppaaW.PrintWords Go.Proofs.YtplcdpiggpkppaaW.PrintLast Go.Proofs.YtplcdpiggpkppaaW.PrintMore
attribute [local go_sem] max2_int min2_int max_two min_two max_three min_three max_four min_four
open Go.Proofs.Ytplcdpiggpkppaa.Base
attribute [local go_sem high] str_leq str_gtr str_geq
set_option linter.unusedVariables false
set_option linter.unusedSimpArgs false
def perigeeref9_empty.l0 : Nat → List (S96) → Int → Int → Int → Int → Int → Int → Int → Option (Int × Bool)
  | 0, _, _, _, _, _, _, _, _ => none
  | k + 1, x24, x25, x26, x102000, x102001, x102002, x102003, x102004 => if x26 < x25 then (if 0 ≤ x26 then (if x26 < (x24.length : Int) then (if ((rd_T96 x24 x26).f4) < x102004 then (if (wrap64 (-((rd_T96 x24 x26).f3))) = 0 then (none) else (some (wrap64 ((wrap64 (((rd_T96 x24 x26).f0) + (wrap64 (Int.tdiv (wrap64 (((rd_T96 x24 x26).f2) - x102004)) (wrap64 (-((rd_T96 x24 x26).f3))))))) + 1), true))) else (perigeeref9_empty.l0 k x24 x25 (wrap64 (x26 + 1)) x102000 x102001 x102002 x102003 x102004)) else (none)) else (none)) else (some (0, false))
def perigeeref9_empty.f (k : Nat) (a0_0 : Int) (a0_1 : Int) (a0_2 : Int) (a0_3 : Int) (a0_4 : Int) (l1 : List (S72)) (l2 : List (S76)) (l3 : List (S47)) (a4 : Int) : Option (Int × Bool) := if a0_1 < a0_4 then (some (0, true)) else ((perigeeref9_legs.f k a0_0 a0_1 a0_2 a0_3 a0_4 l1 l2 l3 a4).bind fun t102 => (perigeeref9_empty.l0 k t102 (t102.length : Int) 0 a0_0 a0_1 a0_2 a0_3 a0_4))
def cmp_isNaN_int.f (a0 : Int) : Option (Bool) := some (a0 != a0)
def cmp_Compare_int.f (a0 : Int) (a1 : Int) : Option (Int) := (cmp_isNaN_int.f a0).bind fun t101 => ((cmp_isNaN_int.f a1).bind fun t102 => (if t101 = true then (if t102 = true then (some 0) else (some (-1))) else (if t102 = true then (some 1) else (if a0 < a1 then (some (-1)) else (if a0 > a1 then (some 1) else (some 0))))))
def slices_Compare_int_int.l0 : Nat → List Int → List Int → List Int → Int → Int → Option (Int)
  | 0, _, _, _, _, _ => none
  | k + 1, x0, x1, x9, x10, x11 => if x11 < x10 then (if 0 ≤ x11 then (if x11 < (x9.length : Int) then (if x11 ≥ (x1.length : Int) then (some 1) else (if x11 < (x1.length : Int) then ((cmp_Compare_int.f (rd x9 x11) (rd x1 x11)).bind fun t103 => (if t103 = 0 then (slices_Compare_int_int.l0 k x0 x1 x9 x10 (wrap64 (x11 + 1))) else (some t103))) else (none))) else (none)) else (none)) else (if (x0.length : Int) < (x1.length : Int) then (some (-1)) else (some 0))
def slices_Compare_int_int.f (k : Nat) (l0 : List Int) (l1 : List Int) : Option (Int) := slices_Compare_int_int.l0 k l0 l1 l0 (l0.length : Int) 0
end Go.Proofs.Ytplcdpiggpkppaa.Q
