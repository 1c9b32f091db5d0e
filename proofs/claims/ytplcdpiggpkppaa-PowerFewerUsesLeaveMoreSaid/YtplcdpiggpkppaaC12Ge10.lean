-- Made by wip/tools/claimp.py of this session's texts; Lean checks it.
import Derived.Test.YtplcdpiggpkppaaC12Q0
import Derived.Test.YtplcdpiggpkppaaC12Ge1
import Derived.Test.YtplcdpiggpkppaaC12Ge7
namespace Go.Proofs.Ytplcdpiggpkppaa.Q
open Go.RowKit Go.Proofs.YtplcdpiggpkppaaW.PrintWords Go.Proofs.YtplcdpiggpkppaaW.PrintLast Go.Proofs.YtplcdpiggpkppaaW.PrintMore
attribute [local go_sem] max2_int min2_int max_two min_two max_three min_three max_four min_four
open Go.Proofs.Ytplcdpiggpkppaa.Base
attribute [local go_sem high] str_leq str_gtr str_geq
set_option linter.unusedVariables false
set_option linter.unusedSimpArgs false
def perigeeref9_change.l0 : Nat → Int → Int → List (S72) → Int → Int → Int → Int → Int → Int → Int → Option (Int)
  | 0, _, _, _, _, _, _, _, _, _, _ => none
  | k + 1, x4, x11, x22, x23, x24, x102000, x102001, x102002, x102003, x102004 => if x24 < x23 then (if 0 ≤ x24 then (if x24 < (x22.length : Int) then ((perigeeref9_within.f x4 ((rd_T72 x22 x24).f0) (wrap64 (((rd_T72 x22 x24).f1) - 1))).bind fun t105 => (if t105 = true then (perigeeref9_change.l0 k x4 (wrap64 (x11 + x102002)) x22 x23 (wrap64 (x24 + 1)) x102000 x102001 x102002 x102003 x102004) else (perigeeref9_change.l0 k x4 x11 x22 x23 (wrap64 (x24 + 1)) x102000 x102001 x102002 x102003 x102004))) else (none)) else (none)) else (some x11)
def perigeeref9_change.f (k : Nat) (a0_0 : Int) (a0_1 : Int) (a0_2 : Int) (a0_3 : Int) (a0_4 : Int) (l1 : List (S72)) (l2 : List (S76)) (l3 : List (S47)) (a4 : Int) : Option (Int) := (perigeeref9_draw.f k l2 l3 a4).bind fun t102 => (perigeeref9_change.l0 k a4 (wrap64 ((wrap64 (-a0_3)) - t102)) l1 (l1.length : Int) 0 a0_0 a0_1 a0_2 a0_3 a0_4)
theorem slices_Compact_int_int.short (l : List Int) : (Lib.compact l).length ≤ l.length := by
  unfold Lib.compact Lib.compactUpTo
  rw [List.length_map]
  exact Nat.le_trans (List.length_filter_le _ _) (by rw [List.length_range]; exact Nat.le_refl _)
def slices_Compact_int_int.f (l0 : List Int) : Option (List Int) := some (Lib.compact l0)
def perigeeref9_leg_levelAt.j0 : Nat → Int → Bool → Int → Int → Int → Int → Int → Int → Int → Int → Int → Int → Option (Int)
  | 0, _, _, _, _, _, _, _, _, _, _, _, _ => none
  | k + 1, x7, x12, x102000, x102001, x102002, x102003, x102004, x103000, x103001, x103002, x103003, x103004 => if x12 = true then (some x103000) else (if x102003 < 0 then (if (wrap64 (-x102003)) = 0 then (none) else (if x7 > (wrap64 (Int.tdiv x102002 (wrap64 (-x102003)))) then (some 0) else (some (wrap64 (x102002 + (wrap64 (x7 * x102003))))))) else (some (wrap64 (x102002 + (wrap64 (x7 * x102003))))))
def perigeeref9_leg_levelAt.f (k : Nat) (a0_0 : Int) (a0_1 : Int) (a0_2 : Int) (a0_3 : Int) (a0_4 : Int) (a1_0 : Int) (a1_1 : Int) (a1_2 : Int) (a1_3 : Int) (a1_4 : Int) (a2 : Int) : Option (Int) := if a0_3 > 0 then (if a0_3 = 0 then (none) else (perigeeref9_leg_levelAt.j0 k (wrap64 (a2 - a0_0)) (decide ((wrap64 (a2 - a0_0)) > (wrap64 (Int.tdiv (wrap64 (a1_0 - a0_2)) a0_3)))) a0_0 a0_1 a0_2 a0_3 a0_4 a1_0 a1_1 a1_2 a1_3 a1_4)) else (perigeeref9_leg_levelAt.j0 k (wrap64 (a2 - a0_0)) false a0_0 a0_1 a0_2 a0_3 a0_4 a1_0 a1_1 a1_2 a1_3 a1_4)
end Go.Proofs.Ytplcdpiggpkppaa.Q
