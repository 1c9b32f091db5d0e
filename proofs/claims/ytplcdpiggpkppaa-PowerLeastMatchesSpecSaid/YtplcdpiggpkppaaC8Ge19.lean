-- Made by wip/tools/claimp.py of this session's texts; Lean checks it.
import Derived.Test.YtplcdpiggpkppaaC8Q0
import Derived.Test.YtplcdpiggpkppaaC8Ge13
import Derived.Test.YtplcdpiggpkppaaC8Ge15
import Derived.Test.YtplcdpiggpkppaaC8Ge8
import Derived.Test.YtplcdpiggpkppaaC8Ge9
namespace Go.Proofs.Ytplcdpiggpkppaa.Q
open Go.RowKit Go.Proofs.YtplcdpiggpkppaaW.PrintWords Go.Proofs.YtplcdpiggpkppaaW.PrintLast Go.Proofs.YtplcdpiggpkppaaW.PrintMore
attribute [local go_sem] max2_int min2_int max_two min_two max_three min_three max_four min_four
open Go.Proofs.Ytplcdpiggpkppaa.Base
attribute [local go_sem high] str_leq str_gtr str_geq
set_option linter.unusedVariables false
set_option linter.unusedSimpArgs false
def power_Least.l0 : Nat → List (S72) → List (S76) → List (S47) → Int → Int → Int → Int → Int → Int → Int → Int → Option (Int × Bool × Int)
  | 0, _, _, _, _, _, _, _, _, _, _, _ => none
  | k + 1, x1, x2, x3, x4, x14, x15, x102000, x102001, x102002, x102003, x102004 => if x14 < x15 then (if (wrap64 (Int.tdiv (wrap64 (x14 + x15)) 2)) > x102000 then (power_Least.l0 k x1 x2 x3 x4 x14 (wrap64 (Int.tdiv (wrap64 (x14 + x15)) 2)) x102000 (wrap64 (Int.tdiv (wrap64 (x14 + x15)) 2)) x102002 x102003 x102004) else ((power_empty.f k x102000 (wrap64 (Int.tdiv (wrap64 (x14 + x15)) 2)) x102002 x102003 x102004 x1 x2 x3 x4).bind fun t103 => (if t103 < 0 then (power_Least.l0 k x1 x2 x3 x4 x14 (wrap64 (Int.tdiv (wrap64 (x14 + x15)) 2)) x102000 (wrap64 (Int.tdiv (wrap64 (x14 + x15)) 2)) x102002 x102003 x102004) else (power_Least.l0 k x1 x2 x3 x4 (wrap64 ((wrap64 (Int.tdiv (wrap64 (x14 + x15)) 2)) + 1)) x15 x102000 (wrap64 (Int.tdiv (wrap64 (x14 + x15)) 2)) x102002 x102003 x102004)))) else (if x14 > x102000 then (some (0, false, 0)) else (some (x14, true, 0)))
def power_Least.f (k : Nat) (a0_0 : Int) (a0_1 : Int) (a0_2 : Int) (a0_3 : Int) (a0_4 : Int) (l1 : List (S72)) (l2 : List (S76)) (l3 : List (S47)) (a4 : Int) : Option (Int × Bool × Int) := (power_check.f k a0_0 a0_1 a0_2 a0_3 a0_4 l1 l2 l3 a4).bind fun t102 => (if t102 = 0 then (power_Least.l0 k l1 l2 l3 a4 0 (wrap64 (a0_0 + 1)) a0_0 a0_1 a0_2 a0_3 a0_4) else (some (0, false, t102)))
theorem d34a {p : Prop} (h : p := by (with_reducible repeat (first | refine blk_drewN ?_ _ | refine blk_drew ?_ | refine blk_alloc ?_ _)); refine blk_put (cs := #[.int .i64 a0_0, .int .i64 x102001_1, .int .i64 a0_2, .int .i64 a0_3, .int .i64 a0_4]) ?_ 1 _ rfl; (with_reducible repeat (first | refine blk_drewN ?_ _ | refine blk_drew ?_ | refine blk_alloc ?_ _)); exact BK101.out) : p := h
theorem d34b {p : Prop} (h : p := by repeat (first | (with_reducible first | exact HB.out | apply below_alloc | apply pw_below_drewN | apply below_drew1 | refine below_set ?_ GE101.out) | exact HB.out)) : p := h
theorem d34c {p : Prop} (h : p := by repeat (first | (with_reducible first | exact HB.out | apply below_alloc | apply pw_below_drewN | apply below_drew1) | exact HB.out)) : p := h
theorem d34d {p : Prop} (h : p := by (with_reducible repeat (first | refine blk_drewN ?_ _ | refine blk_drew ?_ | refine blk_alloc ?_ _)); exact BK101.out) : p := h
theorem d34e {p : Prop} (h : p := by first | rfl | (simp [errW_none, errW_some] <;> rfl) | (simp [*, errW_none, errW_some] <;> rfl)) : p := h
theorem d34f {p : Prop} (h : p := by first | rfl | (simp; done) | (simp [*]; done)) : p := h
set_option maxHeartbeats 8000000 in
set_option maxRecDepth 100000 in
theorem power_Least.calls (k : Nat) (a0_0 : Int) (a0_1 : Int) (a0_2 : Int) (a0_3 : Int) (a0_4 : Int) (A1 : Option Addr) (c1 : Nat) (l1 : List (S72)) (A2 : Option Addr) (c2 : Nat) (l2 : List (S76)) (A3 : Option Addr) (c3 : Nat) (l3 : List (S47)) (a4 : Int) (r1 : Int) (r2 : Bool) (r3 : Int) (w : World) (hr1 : Kd.C k72 w A1 l1.length l1) (hc1 : l1.length ≤ c1) (hr2 : Kd.C k76 w A2 l2.length l2) (hc2 : l2.length ≤ c2) (hr3 : Kd.C k47 w A3 l3.length l3) (hc3 : l3.length ≤ c3) (h : power_Least.f k a0_0 a0_1 a0_2 a0_3 a0_4 l1 l2 l3 a4 = some (r1, r2, r3)) :
 Calls Try.prog 34 #[.agg #[.int .i64 a0_0, .int .i64 a0_1, .int .i64 a0_2, .int .i64 a0_3, .int .i64 a0_4], .slice A1 l1.length c1, .slice A2 l2.length c2, .slice A3 l3.length c3, .int .i64 a4] w fun e w' => e = .returned (.tuple #[.int .i64 r1, .bool r2, .int .i64 r3]) ∧ Below w.heap.size w w' := by
 have hu23 := Try.underlying23
 have HR1 := Aside0.mk hr1
 have HC1 := Aside0.mk hc1
 clear hr1 hc1
 have HR2 := Aside0.mk hr2
 have HC2 := Aside0.mk hc2
 clear hr2 hc2
 have HR3 := Aside0.mk hr3
 have HC3 := Aside0.mk hc3
 clear hr3 hc3
 have HB := Aside0.mk (Below.refl w.heap.size w)
 have H : ((power_check.f k a0_0 a0_1 a0_2 a0_3 a0_4 l1 l2 l3 a4).bind fun t102 => (if t102 = 0 then (power_Least.l0 k l1 l2 l3 a4 0 (wrap64 (a0_0 + 1)) a0_0 a0_1 a0_2 a0_3 a0_4) else (some (0, false, t102)))) = some (r1, r2, r3) := h
 clear h
 replace H := bindS H; obtain ⟨t102, A6, H⟩ := H
 by_cases c7 : t102 = 0
 · rw [if_pos c7] at H
   have c7b0 : (t102 == 0) = true := beq_iff_eq.mpr c7
   have c7b1 : (t102 != 0) = false := bne_eq_false_iff_eq.mpr c7
   clear c7
   have H' := Aside0.mk H
   clear H
   go_enter Try.func34, Try.ntmps34
   go_wp2_with (first | ((with_reducible refine gate_dst (N := 5) rfl ?_); refine box_event ?hg (N := 5) ?hd (cs := #[.int .i64 a0_0, .int .i64 a0_1, .int .i64 a0_2, .int .i64 a0_3, .int .i64 a0_4]) (t := 23) ?hr ?_; (case hd => rfl); (case hg => rfl); (case hr => first | (go_simp; done) | (go_simp; rfl)); intro gb101 hg w8 hbox hb; have n0_ := Aside0.mk (below_step d34c hb); have n1_ := Aside0.mk (hbox); have n2_ := Aside0.mk ((by rw [hg]; exact (below_size d34c) : w.heap.size ≤ gb101)); have n3_ := Aside0.mk ((by rw [hg]; exact (below_size d34c) : w.heap.size ≤ gb101)); clear HB; have HB := n0_; have BK101 := n1_; have GW101 := n2_; have GE101 := n3_; clear n0_ n1_ n2_ n3_; clear hb hbox hg; have hcz9_0 : w8.cell? ⟨gb101, 0, none⟩ = some (.int .i64 a0_0) := (blk_cell BK101.out 0).trans rfl; have hcz9_1 : w8.cell? ⟨gb101, 1, none⟩ = some (.int .i64 a0_1) := (blk_cell BK101.out 1).trans rfl; have hcz9_2 : w8.cell? ⟨gb101, 2, none⟩ = some (.int .i64 a0_2) := (blk_cell BK101.out 2).trans rfl; have hcz9_3 : w8.cell? ⟨gb101, 3, none⟩ = some (.int .i64 a0_3) := (blk_cell BK101.out 3).trans rfl; have hcz9_4 : w8.cell? ⟨gb101, 4, none⟩ = some (.int .i64 a0_4) := (blk_cell BK101.out 4).trans rfl; have hfz9_0 := blk_frozen BK101.out 0; have hfz9_1 := blk_frozen BK101.out 1; have hfz9_2 := blk_frozen BK101.out 2; have hfz9_3 := blk_frozen BK101.out 3; have hfz9_4 := blk_frozen BK101.out 4) | (go_at_call 66; (with_reducible refine (power_check.calls k a0_0 a0_1 a0_2 a0_3 a0_4 _ _ l1 _ _ l2 _ _ l3 a4 t102 _ ?side1 ?side2 ?side3 ?side4 ?side5 ?side6 A6.out).mono ?_); (case side1 => exact C_go (Kd.C_below HR1.out HB.out)); (case side2 => exact HC1.out); (case side3 => exact C_go (Kd.C_below HR2.out HB.out)); (case side4 => exact HC2.out); (case side5 => exact C_go (Kd.C_below HR3.out HB.out)); (case side6 => exact HC3.out); rintro e w10 ⟨rfl, hb⟩; have n0_ := Aside0.mk (blk_below (g := gb101) (o := .cells #[.int .i64 a0_0, .int .i64 a0_1, .int .i64 a0_2, .int .i64 a0_3, .int .i64 a0_4] 23 (0, 0)) d34d hb); have n1_ := Aside0.mk (below_step d34b hb); clear BK101; clear HB; have BK101 := n0_; have HB := n1_; clear n0_ n1_; (try clear hb); have hcz11_0 : w10.cell? ⟨gb101, 0, none⟩ = some (.int .i64 a0_0) := (blk_cell BK101.out 0).trans rfl; have hcz11_1 : w10.cell? ⟨gb101, 1, none⟩ = some (.int .i64 a0_1) := (blk_cell BK101.out 1).trans rfl; have hcz11_2 : w10.cell? ⟨gb101, 2, none⟩ = some (.int .i64 a0_2) := (blk_cell BK101.out 2).trans rfl; have hcz11_3 : w10.cell? ⟨gb101, 3, none⟩ = some (.int .i64 a0_3) := (blk_cell BK101.out 3).trans rfl; have hcz11_4 : w10.cell? ⟨gb101, 4, none⟩ = some (.int .i64 a0_4) := (blk_cell BK101.out 4).trans rfl; have hfz11_0 := blk_frozen BK101.out 0; have hfz11_1 := blk_frozen BK101.out 1; have hfz11_2 := blk_frozen BK101.out 2; have hfz11_3 := blk_frozen BK101.out 3; have hfz11_4 := blk_frozen BK101.out 4))
   repeat (go_quiet (fail); try go_wp2_with (fail))
   go_loopg [14, 15] k (fun kq v14 v15 w' => ∃ (x14_1 : Int) (x15_1 : Int) (x102001_1 : Int), v14 = .int .i64 x14_1 ∧ v15 = .int .i64 x15_1 ∧ Aside0 (power_Least.l0 kq l1 l2 l3 a4 x14_1 x15_1 a0_0 x102001_1 a0_2 a0_3 a0_4 = some (r1, r2, r3)) ∧ Aside0 (kq ≤ k) ∧ Aside0 (w'.heap[gb101]? = some (.cells #[.int .i64 a0_0, .int .i64 x102001_1, .int .i64 a0_2, .int .i64 a0_3, .int .i64 a0_4] 23 (0, 0))) ∧ Aside0 (Below w.heap.size w w'))
   case atStart => exact ⟨(0), (wrap64 (a0_0 + 1)), (a0_1), d34f, d34f, H', ⟨Nat.le_refl _⟩, ⟨d34d⟩, ⟨d34b⟩⟩
   case round =>
    clear H'
    try clear c7b0
    try clear c7b1
    try clear hcz11_0
    try clear hcz11_1
    try clear hcz11_2
    try clear hcz11_3
    try clear hcz11_4
    try clear hcz9_0
    try clear hcz9_1
    try clear hcz9_2
    try clear hcz9_3
    try clear hcz9_4
    try clear hfz11_0
    try clear hfz11_1
    try clear hfz11_2
    try clear hfz11_3
    try clear hfz11_4
    try clear hfz9_0
    try clear hfz9_1
    try clear hfz9_2
    try clear hfz9_3
    try clear hfz9_4
    obtain ⟨x14_1, x15_1, x102001_1, rfl, rfl, HA, HK1, BK101, HB⟩ := hrel
    cases gk with
    | zero => exact absurd HA.out (by simp [power_Least.l0])
    | succ k1 =>
     have H := HA.out
     clear HA
     simp only [power_Least.l0] at H
     by_cases c12 : x14_1 < x15_1
     · rw [if_pos c12] at H
       have c12b0 : decide (x14_1 < x15_1) = true := decide_eq_true c12
       clear c12
       by_cases c13 : (wrap64 (Int.tdiv (wrap64 (x14_1 + x15_1)) 2)) > a0_0
       · rw [if_pos c13] at H
         have c13b0 : decide (a0_0 < (wrap64 (Int.tdiv (wrap64 (x14_1 + x15_1)) 2))) = true := decide_eq_true c13
         clear c13
         have H' := Aside0.mk H
         clear H
         obtain ⟨hcz14_0, hcz14_1, hcz14_2, hcz14_3, hcz14_4⟩ := blkC5 BK101.out
         have hfz14_0 := blk_frozen BK101.out 0
         have hfz14_1 := blk_frozen BK101.out 1
         have hfz14_2 := blk_frozen BK101.out 2
         have hfz14_3 := blk_frozen BK101.out 3
         have hfz14_4 := blk_frozen BK101.out 4
         go_wp2
         go_roundg k1
         case measure => have := HK1.out; omega
         case rel => exact ⟨(x14_1), (wrap64 (Int.tdiv (wrap64 (x14_1 + x15_1)) 2)), (wrap64 (Int.tdiv (wrap64 (x14_1 + x15_1)) 2)), d34f, d34f, H', ⟨by have := HK1.out; omega⟩, ⟨d34a⟩, ⟨d34b⟩⟩
       · rw [if_neg c13] at H
         have c13b0 : decide (a0_0 < (wrap64 (Int.tdiv (wrap64 (x14_1 + x15_1)) 2))) = false := decide_eq_false c13
         clear c13
         replace H := bindS H; obtain ⟨t103, A15, H⟩ := H
         by_cases c16 : t103 < 0
         · rw [if_pos c16] at H
           have c16b0 : decide (t103 < 0) = true := decide_eq_true c16
           clear c16
           have H' := Aside0.mk H
           clear H
           obtain ⟨hcz17_0, hcz17_1, hcz17_2, hcz17_3, hcz17_4⟩ := blkC5 BK101.out
           have hfz17_0 := blk_frozen BK101.out 0
           have hfz17_1 := blk_frozen BK101.out 1
           have hfz17_2 := blk_frozen BK101.out 2
           have hfz17_3 := blk_frozen BK101.out 3
           have hfz17_4 := blk_frozen BK101.out 4
           go_wp2_with (go_at_call 73; (with_reducible refine (power_empty.calls k1 a0_0 (wrap64 (Int.tdiv (wrap64 (x14_1 + x15_1)) 2)) a0_2 a0_3 a0_4 _ _ l1 _ _ l2 _ _ l3 a4 t103 _ ?side1 ?side2 ?side3 ?side4 ?side5 ?side6 A15.out).mono ?_); (case side1 => exact Kd.C_below HR1.out d34b); (case side2 => exact HC1.out); (case side3 => exact Kd.C_below HR2.out d34b); (case side4 => exact HC2.out); (case side5 => exact Kd.C_below HR3.out d34b); (case side6 => exact HC3.out); rintro e w18 ⟨rfl, hb⟩; have n0_ := Aside0.mk (blk_below (g := gb101) (o := .cells #[.int .i64 a0_0, .int .i64 (wrap64 (Int.tdiv (wrap64 (x14_1 + x15_1)) 2)), .int .i64 a0_2, .int .i64 a0_3, .int .i64 a0_4] 23 (0, 0)) d34a hb); have n1_ := Aside0.mk (below_step d34b hb); clear BK101; clear HB; have BK101 := n0_; have HB := n1_; clear n0_ n1_; (try clear hb); have hcz19_0 : w18.cell? ⟨gb101, 0, none⟩ = some (.int .i64 a0_0) := (blk_cell BK101.out 0).trans rfl; have hcz19_1 : w18.cell? ⟨gb101, 1, none⟩ = some (.int .i64 (wrap64 (Int.tdiv (wrap64 (x14_1 + x15_1)) 2))) := (blk_cell BK101.out 1).trans rfl; have hcz19_2 : w18.cell? ⟨gb101, 2, none⟩ = some (.int .i64 a0_2) := (blk_cell BK101.out 2).trans rfl; have hcz19_3 : w18.cell? ⟨gb101, 3, none⟩ = some (.int .i64 a0_3) := (blk_cell BK101.out 3).trans rfl; have hcz19_4 : w18.cell? ⟨gb101, 4, none⟩ = some (.int .i64 a0_4) := (blk_cell BK101.out 4).trans rfl; have hfz19_0 := blk_frozen BK101.out 0; have hfz19_1 := blk_frozen BK101.out 1; have hfz19_2 := blk_frozen BK101.out 2; have hfz19_3 := blk_frozen BK101.out 3; have hfz19_4 := blk_frozen BK101.out 4)
           go_roundg k1
           case measure => have := HK1.out; omega
           case rel => exact ⟨(x14_1), (wrap64 (Int.tdiv (wrap64 (x14_1 + x15_1)) 2)), (wrap64 (Int.tdiv (wrap64 (x14_1 + x15_1)) 2)), d34f, d34f, H', ⟨by have := HK1.out; omega⟩, ⟨d34d⟩, ⟨d34b⟩⟩
         · rw [if_neg c16] at H
           have c16b0 : decide (t103 < 0) = false := decide_eq_false c16
           clear c16
           have H' := Aside0.mk H
           clear H
           obtain ⟨hcz20_0, hcz20_1, hcz20_2, hcz20_3, hcz20_4⟩ := blkC5 BK101.out
           have hfz20_0 := blk_frozen BK101.out 0
           have hfz20_1 := blk_frozen BK101.out 1
           have hfz20_2 := blk_frozen BK101.out 2
           have hfz20_3 := blk_frozen BK101.out 3
           have hfz20_4 := blk_frozen BK101.out 4
           go_wp2_with (go_at_call 73; (with_reducible refine (power_empty.calls k1 a0_0 (wrap64 (Int.tdiv (wrap64 (x14_1 + x15_1)) 2)) a0_2 a0_3 a0_4 _ _ l1 _ _ l2 _ _ l3 a4 t103 _ ?side1 ?side2 ?side3 ?side4 ?side5 ?side6 A15.out).mono ?_); (case side1 => exact Kd.C_below HR1.out d34b); (case side2 => exact HC1.out); (case side3 => exact Kd.C_below HR2.out d34b); (case side4 => exact HC2.out); (case side5 => exact Kd.C_below HR3.out d34b); (case side6 => exact HC3.out); rintro e w21 ⟨rfl, hb⟩; have n0_ := Aside0.mk (blk_below (g := gb101) (o := .cells #[.int .i64 a0_0, .int .i64 (wrap64 (Int.tdiv (wrap64 (x14_1 + x15_1)) 2)), .int .i64 a0_2, .int .i64 a0_3, .int .i64 a0_4] 23 (0, 0)) d34a hb); have n1_ := Aside0.mk (below_step d34b hb); clear BK101; clear HB; have BK101 := n0_; have HB := n1_; clear n0_ n1_; (try clear hb); have hcz22_0 : w21.cell? ⟨gb101, 0, none⟩ = some (.int .i64 a0_0) := (blk_cell BK101.out 0).trans rfl; have hcz22_1 : w21.cell? ⟨gb101, 1, none⟩ = some (.int .i64 (wrap64 (Int.tdiv (wrap64 (x14_1 + x15_1)) 2))) := (blk_cell BK101.out 1).trans rfl; have hcz22_2 : w21.cell? ⟨gb101, 2, none⟩ = some (.int .i64 a0_2) := (blk_cell BK101.out 2).trans rfl; have hcz22_3 : w21.cell? ⟨gb101, 3, none⟩ = some (.int .i64 a0_3) := (blk_cell BK101.out 3).trans rfl; have hcz22_4 : w21.cell? ⟨gb101, 4, none⟩ = some (.int .i64 a0_4) := (blk_cell BK101.out 4).trans rfl; have hfz22_0 := blk_frozen BK101.out 0; have hfz22_1 := blk_frozen BK101.out 1; have hfz22_2 := blk_frozen BK101.out 2; have hfz22_3 := blk_frozen BK101.out 3; have hfz22_4 := blk_frozen BK101.out 4)
           go_roundg k1
           case measure => have := HK1.out; omega
           case rel => exact ⟨(wrap64 ((wrap64 (Int.tdiv (wrap64 (x14_1 + x15_1)) 2)) + 1)), (x15_1), (wrap64 (Int.tdiv (wrap64 (x14_1 + x15_1)) 2)), d34f, d34f, H', ⟨by have := HK1.out; omega⟩, ⟨d34d⟩, ⟨d34b⟩⟩
     · rw [if_neg c12] at H
       have c12b0 : decide (x14_1 < x15_1) = false := decide_eq_false c12
       clear c12
       by_cases c23 : x14_1 > a0_0
       · rw [if_pos c23] at H
         have c23b0 : decide (a0_0 < x14_1) = true := decide_eq_true c23
         clear c23
         simp only [Option.some.injEq, Prod.mk.injEq] at H
         obtain ⟨rfl, rfl, rfl⟩ := H
         obtain ⟨hcz24_0, hcz24_1, hcz24_2, hcz24_3, hcz24_4⟩ := blkC5 BK101.out
         have hfz24_0 := blk_frozen BK101.out 0
         have hfz24_1 := blk_frozen BK101.out 1
         have hfz24_2 := blk_frozen BK101.out 2
         have hfz24_3 := blk_frozen BK101.out 3
         have hfz24_4 := blk_frozen BK101.out 4
         go_wp2
         go_ret3
         exact ⟨d34e, d34b⟩
       · rw [if_neg c23] at H
         have c23b0 : decide (a0_0 < x14_1) = false := decide_eq_false c23
         clear c23
         simp only [Option.some.injEq, Prod.mk.injEq] at H
         obtain ⟨rfl, rfl, rfl⟩ := H
         obtain ⟨hcz25_0, hcz25_1, hcz25_2, hcz25_3, hcz25_4⟩ := blkC5 BK101.out
         have hfz25_0 := blk_frozen BK101.out 0
         have hfz25_1 := blk_frozen BK101.out 1
         have hfz25_2 := blk_frozen BK101.out 2
         have hfz25_3 := blk_frozen BK101.out 3
         have hfz25_4 := blk_frozen BK101.out 4
         go_wp2
         go_ret3
         exact ⟨d34e, d34b⟩
 · rw [if_neg c7] at H
   have c7b0 : (t102 == 0) = false := beq_eq_false_iff_ne.mpr c7
   have c7b1 : (t102 != 0) = true := bne_iff_ne.mpr c7
   simp only [Option.some.injEq, Prod.mk.injEq] at H
   obtain ⟨rfl, rfl, rfl⟩ := H
   go_enter Try.func34, Try.ntmps34
   go_wp2_with (first | ((with_reducible refine gate_dst (N := 5) rfl ?_); refine box_event ?hg (N := 5) ?hd (cs := #[.int .i64 a0_0, .int .i64 a0_1, .int .i64 a0_2, .int .i64 a0_3, .int .i64 a0_4]) (t := 23) ?hr ?_; (case hd => rfl); (case hg => rfl); (case hr => first | (go_simp; done) | (go_simp; rfl)); intro gb101 hg w26 hbox hb; have n0_ := Aside0.mk (below_step d34c hb); have n1_ := Aside0.mk (hbox); have n2_ := Aside0.mk ((by rw [hg]; exact (below_size d34c) : w.heap.size ≤ gb101)); have n3_ := Aside0.mk ((by rw [hg]; exact (below_size d34c) : w.heap.size ≤ gb101)); clear HB; have HB := n0_; have BK101 := n1_; have GW101 := n2_; have GE101 := n3_; clear n0_ n1_ n2_ n3_; clear hb hbox hg; have hcz27_0 : w26.cell? ⟨gb101, 0, none⟩ = some (.int .i64 a0_0) := (blk_cell BK101.out 0).trans rfl; have hcz27_1 : w26.cell? ⟨gb101, 1, none⟩ = some (.int .i64 a0_1) := (blk_cell BK101.out 1).trans rfl; have hcz27_2 : w26.cell? ⟨gb101, 2, none⟩ = some (.int .i64 a0_2) := (blk_cell BK101.out 2).trans rfl; have hcz27_3 : w26.cell? ⟨gb101, 3, none⟩ = some (.int .i64 a0_3) := (blk_cell BK101.out 3).trans rfl; have hcz27_4 : w26.cell? ⟨gb101, 4, none⟩ = some (.int .i64 a0_4) := (blk_cell BK101.out 4).trans rfl; have hfz27_0 := blk_frozen BK101.out 0; have hfz27_1 := blk_frozen BK101.out 1; have hfz27_2 := blk_frozen BK101.out 2; have hfz27_3 := blk_frozen BK101.out 3; have hfz27_4 := blk_frozen BK101.out 4) | (go_at_call 66; (with_reducible refine (power_check.calls k a0_0 a0_1 a0_2 a0_3 a0_4 _ _ l1 _ _ l2 _ _ l3 a4 t102 _ ?side1 ?side2 ?side3 ?side4 ?side5 ?side6 A6.out).mono ?_); (case side1 => exact C_go (Kd.C_below HR1.out HB.out)); (case side2 => exact HC1.out); (case side3 => exact C_go (Kd.C_below HR2.out HB.out)); (case side4 => exact HC2.out); (case side5 => exact C_go (Kd.C_below HR3.out HB.out)); (case side6 => exact HC3.out); rintro e w28 ⟨rfl, hb⟩; have n0_ := Aside0.mk (blk_below (g := gb101) (o := .cells #[.int .i64 a0_0, .int .i64 a0_1, .int .i64 a0_2, .int .i64 a0_3, .int .i64 a0_4] 23 (0, 0)) d34d hb); have n1_ := Aside0.mk (below_step d34b hb); clear BK101; clear HB; have BK101 := n0_; have HB := n1_; clear n0_ n1_; (try clear hb)))
   go_ret3
   exact ⟨d34e, d34b⟩
def perigeeref9_Least.l0 : Nat → List (S72) → List (S76) → List (S47) → Int → Int → Int → Int → Int → Int → Int → Int → Option (Int × Bool × Int)
  | 0, _, _, _, _, _, _, _, _, _, _, _ => none
  | k + 1, x1, x2, x3, x4, x14, x15, x102000, x102001, x102002, x102003, x102004 => if (wrap64 (x15 - x14)) > 1 then ((perigeeref9_empty.f k x102000 (wrap64 (Int.tdiv (wrap64 (x14 + x15)) 2)) x102002 x102003 x102004 x1 x2 x3 x4).bind fun bt103 => (if bt103.2 = true then (perigeeref9_Least.l0 k x1 x2 x3 x4 (wrap64 (Int.tdiv (wrap64 (x14 + x15)) 2)) x15 x102000 (wrap64 (Int.tdiv (wrap64 (x14 + x15)) 2)) x102002 x102003 x102004) else (perigeeref9_Least.l0 k x1 x2 x3 x4 x14 (wrap64 (Int.tdiv (wrap64 (x14 + x15)) 2)) x102000 (wrap64 (Int.tdiv (wrap64 (x14 + x15)) 2)) x102002 x102003 x102004))) else (if x15 > x102000 then (some (0, false, 0)) else (some (x15, true, 0)))
def perigeeref9_Least.f (k : Nat) (a0_0 : Int) (a0_1 : Int) (a0_2 : Int) (a0_3 : Int) (a0_4 : Int) (l1 : List (S72)) (l2 : List (S76)) (l3 : List (S47)) (a4 : Int) : Option (Int × Bool × Int) := (perigeeref9_ask.f k a0_0 a0_1 a0_2 a0_3 a0_4 l1 l2 l3 a4).bind fun t102 => (if t102 = 0 then (perigeeref9_Least.l0 k l1 l2 l3 a4 (-1) (wrap64 (a0_0 + 1)) a0_0 a0_1 a0_2 a0_3 a0_4) else (some (0, false, t102)))
theorem d43a {p : Prop} (h : p := by repeat (first | (with_reducible first | exact HB.out | apply below_alloc | apply pw_below_drewN | apply below_drew1 | refine below_set ?_ GE101.out) | exact HB.out)) : p := h
theorem d43b {p : Prop} (h : p := by repeat (first | (with_reducible first | exact HB.out | apply below_alloc | apply pw_below_drewN | apply below_drew1) | exact HB.out)) : p := h
theorem d43c {p : Prop} (h : p := by (with_reducible repeat (first | refine blk_drewN ?_ _ | refine blk_drew ?_ | refine blk_alloc ?_ _)); exact BK101.out) : p := h
theorem d43d {p : Prop} (h : p := by first | rfl | (simp [errW_none, errW_some] <;> rfl) | (simp [*, errW_none, errW_some] <;> rfl)) : p := h
theorem d43e {p : Prop} (h : p := by first | rfl | (simp; done) | (simp [*]; done)) : p := h
set_option maxHeartbeats 8000000 in
set_option maxRecDepth 100000 in
theorem perigeeref9_Least.calls (k : Nat) (a0_0 : Int) (a0_1 : Int) (a0_2 : Int) (a0_3 : Int) (a0_4 : Int) (A1 : Option Addr) (c1 : Nat) (l1 : List (S72)) (A2 : Option Addr) (c2 : Nat) (l2 : List (S76)) (A3 : Option Addr) (c3 : Nat) (l3 : List (S47)) (a4 : Int) (r1 : Int) (r2 : Bool) (r3 : Int) (w : World) (hr1 : Kd.C k72 w A1 l1.length l1) (hc1 : l1.length ≤ c1) (hr2 : Kd.C k76 w A2 l2.length l2) (hc2 : l2.length ≤ c2) (hr3 : Kd.C k47 w A3 l3.length l3) (hc3 : l3.length ≤ c3) (h : perigeeref9_Least.f k a0_0 a0_1 a0_2 a0_3 a0_4 l1 l2 l3 a4 = some (r1, r2, r3)) :
 Calls Try.prog 43 #[.agg #[.int .i64 a0_0, .int .i64 a0_1, .int .i64 a0_2, .int .i64 a0_3, .int .i64 a0_4], .slice A1 l1.length c1, .slice A2 l2.length c2, .slice A3 l3.length c3, .int .i64 a4] w fun e w' => e = .returned (.tuple #[.int .i64 r1, .bool r2, .int .i64 r3]) ∧ Below w.heap.size w w' := by
 have hu23 := Try.underlying23
 have HR1 := Aside0.mk hr1
 have HC1 := Aside0.mk hc1
 clear hr1 hc1
 have HR2 := Aside0.mk hr2
 have HC2 := Aside0.mk hc2
 clear hr2 hc2
 have HR3 := Aside0.mk hr3
 have HC3 := Aside0.mk hc3
 clear hr3 hc3
 have HB := Aside0.mk (Below.refl w.heap.size w)
 have H : ((perigeeref9_ask.f k a0_0 a0_1 a0_2 a0_3 a0_4 l1 l2 l3 a4).bind fun t102 => (if t102 = 0 then (perigeeref9_Least.l0 k l1 l2 l3 a4 (-1) (wrap64 (a0_0 + 1)) a0_0 a0_1 a0_2 a0_3 a0_4) else (some (0, false, t102)))) = some (r1, r2, r3) := h
 clear h
 replace H := bindS H; obtain ⟨t102, A6, H⟩ := H
 by_cases c7 : t102 = 0
 · rw [if_pos c7] at H
   have c7b0 : (t102 == 0) = true := beq_iff_eq.mpr c7
   have c7b1 : (t102 != 0) = false := bne_eq_false_iff_eq.mpr c7
   clear c7
   have H' := Aside0.mk H
   clear H
   go_enter Try.func43, Try.ntmps43
   go_wp2_with (first | ((with_reducible refine gate_dst (N := 5) rfl ?_); refine box_event ?hg (N := 5) ?hd (cs := #[.int .i64 a0_0, .int .i64 a0_1, .int .i64 a0_2, .int .i64 a0_3, .int .i64 a0_4]) (t := 23) ?hr ?_; (case hd => rfl); (case hg => rfl); (case hr => first | (go_simp; done) | (go_simp; rfl)); intro gb101 hg w8 hbox hb; have n0_ := Aside0.mk (below_step d43b hb); have n1_ := Aside0.mk (hbox); have n2_ := Aside0.mk ((by rw [hg]; exact (below_size d43b) : w.heap.size ≤ gb101)); have n3_ := Aside0.mk ((by rw [hg]; exact (below_size d43b) : w.heap.size ≤ gb101)); clear HB; have HB := n0_; have BK101 := n1_; have GW101 := n2_; have GE101 := n3_; clear n0_ n1_ n2_ n3_; clear hb hbox hg; have hcz9_0 : w8.cell? ⟨gb101, 0, none⟩ = some (.int .i64 a0_0) := (blk_cell BK101.out 0).trans rfl; have hcz9_1 : w8.cell? ⟨gb101, 1, none⟩ = some (.int .i64 a0_1) := (blk_cell BK101.out 1).trans rfl; have hcz9_2 : w8.cell? ⟨gb101, 2, none⟩ = some (.int .i64 a0_2) := (blk_cell BK101.out 2).trans rfl; have hcz9_3 : w8.cell? ⟨gb101, 3, none⟩ = some (.int .i64 a0_3) := (blk_cell BK101.out 3).trans rfl; have hcz9_4 : w8.cell? ⟨gb101, 4, none⟩ = some (.int .i64 a0_4) := (blk_cell BK101.out 4).trans rfl; have hfz9_0 := blk_frozen BK101.out 0; have hfz9_1 := blk_frozen BK101.out 1; have hfz9_2 := blk_frozen BK101.out 2; have hfz9_3 := blk_frozen BK101.out 3; have hfz9_4 := blk_frozen BK101.out 4) | (go_at_call 70; (with_reducible refine (perigeeref9_ask.calls k a0_0 a0_1 a0_2 a0_3 a0_4 _ _ l1 _ _ l2 _ _ l3 a4 t102 _ ?side1 ?side2 ?side3 ?side4 ?side5 ?side6 A6.out).mono ?_); (case side1 => exact C_go (Kd.C_below HR1.out HB.out)); (case side2 => exact HC1.out); (case side3 => exact C_go (Kd.C_below HR2.out HB.out)); (case side4 => exact HC2.out); (case side5 => exact C_go (Kd.C_below HR3.out HB.out)); (case side6 => exact HC3.out); rintro e w10 ⟨rfl, hb⟩; have n0_ := Aside0.mk (blk_below (g := gb101) (o := .cells #[.int .i64 a0_0, .int .i64 a0_1, .int .i64 a0_2, .int .i64 a0_3, .int .i64 a0_4] 23 (0, 0)) d43c hb); have n1_ := Aside0.mk (below_step d43a hb); clear BK101; clear HB; have BK101 := n0_; have HB := n1_; clear n0_ n1_; (try clear hb); have hcz11_0 : w10.cell? ⟨gb101, 0, none⟩ = some (.int .i64 a0_0) := (blk_cell BK101.out 0).trans rfl; have hcz11_1 : w10.cell? ⟨gb101, 1, none⟩ = some (.int .i64 a0_1) := (blk_cell BK101.out 1).trans rfl; have hcz11_2 : w10.cell? ⟨gb101, 2, none⟩ = some (.int .i64 a0_2) := (blk_cell BK101.out 2).trans rfl; have hcz11_3 : w10.cell? ⟨gb101, 3, none⟩ = some (.int .i64 a0_3) := (blk_cell BK101.out 3).trans rfl; have hcz11_4 : w10.cell? ⟨gb101, 4, none⟩ = some (.int .i64 a0_4) := (blk_cell BK101.out 4).trans rfl; have hfz11_0 := blk_frozen BK101.out 0; have hfz11_1 := blk_frozen BK101.out 1; have hfz11_2 := blk_frozen BK101.out 2; have hfz11_3 := blk_frozen BK101.out 3; have hfz11_4 := blk_frozen BK101.out 4))
   repeat (go_quiet (fail); try go_wp2_with (fail))
   go_loopg [14, 15] k (fun kq v14 v15 w' => ∃ (x14_1 : Int) (x15_1 : Int) (x102001_1 : Int), v14 = .int .i64 x14_1 ∧ v15 = .int .i64 x15_1 ∧ Aside0 (perigeeref9_Least.l0 kq l1 l2 l3 a4 x14_1 x15_1 a0_0 x102001_1 a0_2 a0_3 a0_4 = some (r1, r2, r3)) ∧ Aside0 (kq ≤ k) ∧ Aside0 (w'.heap[gb101]? = some (.cells #[.int .i64 a0_0, .int .i64 x102001_1, .int .i64 a0_2, .int .i64 a0_3, .int .i64 a0_4] 23 (0, 0))) ∧ Aside0 (Below w.heap.size w w'))
   case atStart => exact ⟨((-1)), (wrap64 (a0_0 + 1)), (a0_1), d43e, d43e, H', ⟨Nat.le_refl _⟩, ⟨d43c⟩, ⟨d43a⟩⟩
   case round =>
    clear H'
    try clear c7b0
    try clear c7b1
    try clear hcz11_0
    try clear hcz11_1
    try clear hcz11_2
    try clear hcz11_3
    try clear hcz11_4
    try clear hcz9_0
    try clear hcz9_1
    try clear hcz9_2
    try clear hcz9_3
    try clear hcz9_4
    try clear hfz11_0
    try clear hfz11_1
    try clear hfz11_2
    try clear hfz11_3
    try clear hfz11_4
    try clear hfz9_0
    try clear hfz9_1
    try clear hfz9_2
    try clear hfz9_3
    try clear hfz9_4
    obtain ⟨x14_1, x15_1, x102001_1, rfl, rfl, HA, HK1, BK101, HB⟩ := hrel
    cases gk with
    | zero => exact absurd HA.out (by simp [perigeeref9_Least.l0])
    | succ k1 =>
     have H := HA.out
     clear HA
     simp only [perigeeref9_Least.l0] at H
     by_cases c12 : (wrap64 (x15_1 - x14_1)) > 1
     · rw [if_pos c12] at H
       have c12b0 : decide (1 < (wrap64 (x15_1 - x14_1))) = true := decide_eq_true c12
       clear c12
       replace H := bindS H; obtain ⟨⟨t103, t104⟩, A13, H⟩ := H
       by_cases c14 : t104 = true
       · subst c14
         replace H := iteT H
         have H' := Aside0.mk H
         clear H
         obtain ⟨hcz15_0, hcz15_1, hcz15_2, hcz15_3, hcz15_4⟩ := blkC5 BK101.out
         have hfz15_0 := blk_frozen BK101.out 0
         have hfz15_1 := blk_frozen BK101.out 1
         have hfz15_2 := blk_frozen BK101.out 2
         have hfz15_3 := blk_frozen BK101.out 3
         have hfz15_4 := blk_frozen BK101.out 4
         go_wp2_with (go_at_call 79; (with_reducible refine (perigeeref9_empty.calls k1 a0_0 (wrap64 (Int.tdiv (wrap64 (x14_1 + x15_1)) 2)) a0_2 a0_3 a0_4 _ _ l1 _ _ l2 _ _ l3 a4 t103 true _ ?side1 ?side2 ?side3 ?side4 ?side5 ?side6 A13.out).mono ?_); (case side1 => exact Kd.C_below HR1.out d43a); (case side2 => exact HC1.out); (case side3 => exact Kd.C_below HR2.out d43a); (case side4 => exact HC2.out); (case side5 => exact Kd.C_below HR3.out d43a); (case side6 => exact HC3.out); rintro e w16 ⟨rfl, hb⟩; have n0_ := Aside0.mk (blk_below (g := gb101) (o := .cells #[.int .i64 a0_0, .int .i64 (wrap64 (Int.tdiv (wrap64 (x14_1 + x15_1)) 2)), .int .i64 a0_2, .int .i64 a0_3, .int .i64 a0_4] 23 (0, 0)) (by (with_reducible repeat (first | refine blk_drewN ?_ _ | refine blk_drew ?_ | refine blk_alloc ?_ _)); refine blk_put (cs := #[.int .i64 a0_0, .int .i64 x102001_1, .int .i64 a0_2, .int .i64 a0_3, .int .i64 a0_4]) ?_ 1 _ rfl; (with_reducible repeat (first | refine blk_drewN ?_ _ | refine blk_drew ?_ | refine blk_alloc ?_ _)); exact BK101.out) hb); have n1_ := Aside0.mk (below_step d43a hb); clear BK101; clear HB; have BK101 := n0_; have HB := n1_; clear n0_ n1_; (try clear hb))
         go_roundg k1
         case measure => have := HK1.out; omega
         case rel => exact ⟨(wrap64 (Int.tdiv (wrap64 (x14_1 + x15_1)) 2)), (x15_1), (wrap64 (Int.tdiv (wrap64 (x14_1 + x15_1)) 2)), d43e, d43e, H', ⟨by have := HK1.out; omega⟩, ⟨d43c⟩, ⟨d43a⟩⟩
       · replace c14 := Bool.eq_false_iff.mpr c14
         subst c14
         replace H := iteF H
         have H' := Aside0.mk H
         clear H
         obtain ⟨hcz17_0, hcz17_1, hcz17_2, hcz17_3, hcz17_4⟩ := blkC5 BK101.out
         have hfz17_0 := blk_frozen BK101.out 0
         have hfz17_1 := blk_frozen BK101.out 1
         have hfz17_2 := blk_frozen BK101.out 2
         have hfz17_3 := blk_frozen BK101.out 3
         have hfz17_4 := blk_frozen BK101.out 4
         go_wp2_with (go_at_call 79; (with_reducible refine (perigeeref9_empty.calls k1 a0_0 (wrap64 (Int.tdiv (wrap64 (x14_1 + x15_1)) 2)) a0_2 a0_3 a0_4 _ _ l1 _ _ l2 _ _ l3 a4 t103 false _ ?side1 ?side2 ?side3 ?side4 ?side5 ?side6 A13.out).mono ?_); (case side1 => exact Kd.C_below HR1.out d43a); (case side2 => exact HC1.out); (case side3 => exact Kd.C_below HR2.out d43a); (case side4 => exact HC2.out); (case side5 => exact Kd.C_below HR3.out d43a); (case side6 => exact HC3.out); rintro e w18 ⟨rfl, hb⟩; have n0_ := Aside0.mk (blk_below (g := gb101) (o := .cells #[.int .i64 a0_0, .int .i64 (wrap64 (Int.tdiv (wrap64 (x14_1 + x15_1)) 2)), .int .i64 a0_2, .int .i64 a0_3, .int .i64 a0_4] 23 (0, 0)) (by (with_reducible repeat (first | refine blk_drewN ?_ _ | refine blk_drew ?_ | refine blk_alloc ?_ _)); refine blk_put (cs := #[.int .i64 a0_0, .int .i64 x102001_1, .int .i64 a0_2, .int .i64 a0_3, .int .i64 a0_4]) ?_ 1 _ rfl; (with_reducible repeat (first | refine blk_drewN ?_ _ | refine blk_drew ?_ | refine blk_alloc ?_ _)); exact BK101.out) hb); have n1_ := Aside0.mk (below_step d43a hb); clear BK101; clear HB; have BK101 := n0_; have HB := n1_; clear n0_ n1_; (try clear hb))
         go_roundg k1
         case measure => have := HK1.out; omega
         case rel => exact ⟨(x14_1), (wrap64 (Int.tdiv (wrap64 (x14_1 + x15_1)) 2)), (wrap64 (Int.tdiv (wrap64 (x14_1 + x15_1)) 2)), d43e, d43e, H', ⟨by have := HK1.out; omega⟩, ⟨d43c⟩, ⟨d43a⟩⟩
     · rw [if_neg c12] at H
       have c12b0 : decide (1 < (wrap64 (x15_1 - x14_1))) = false := decide_eq_false c12
       clear c12
       by_cases c19 : x15_1 > a0_0
       · rw [if_pos c19] at H
         have c19b0 : decide (a0_0 < x15_1) = true := decide_eq_true c19
         clear c19
         simp only [Option.some.injEq, Prod.mk.injEq] at H
         obtain ⟨rfl, rfl, rfl⟩ := H
         obtain ⟨hcz20_0, hcz20_1, hcz20_2, hcz20_3, hcz20_4⟩ := blkC5 BK101.out
         have hfz20_0 := blk_frozen BK101.out 0
         have hfz20_1 := blk_frozen BK101.out 1
         have hfz20_2 := blk_frozen BK101.out 2
         have hfz20_3 := blk_frozen BK101.out 3
         have hfz20_4 := blk_frozen BK101.out 4
         go_wp2
         go_ret3
         exact ⟨d43d, d43a⟩
       · rw [if_neg c19] at H
         have c19b0 : decide (a0_0 < x15_1) = false := decide_eq_false c19
         clear c19
         simp only [Option.some.injEq, Prod.mk.injEq] at H
         obtain ⟨rfl, rfl, rfl⟩ := H
         obtain ⟨hcz21_0, hcz21_1, hcz21_2, hcz21_3, hcz21_4⟩ := blkC5 BK101.out
         have hfz21_0 := blk_frozen BK101.out 0
         have hfz21_1 := blk_frozen BK101.out 1
         have hfz21_2 := blk_frozen BK101.out 2
         have hfz21_3 := blk_frozen BK101.out 3
         have hfz21_4 := blk_frozen BK101.out 4
         go_wp2
         go_ret3
         exact ⟨d43d, d43a⟩
 · rw [if_neg c7] at H
   have c7b0 : (t102 == 0) = false := beq_eq_false_iff_ne.mpr c7
   have c7b1 : (t102 != 0) = true := bne_iff_ne.mpr c7
   simp only [Option.some.injEq, Prod.mk.injEq] at H
   obtain ⟨rfl, rfl, rfl⟩ := H
   go_enter Try.func43, Try.ntmps43
   go_wp2_with (first | ((with_reducible refine gate_dst (N := 5) rfl ?_); refine box_event ?hg (N := 5) ?hd (cs := #[.int .i64 a0_0, .int .i64 a0_1, .int .i64 a0_2, .int .i64 a0_3, .int .i64 a0_4]) (t := 23) ?hr ?_; (case hd => rfl); (case hg => rfl); (case hr => first | (go_simp; done) | (go_simp; rfl)); intro gb101 hg w22 hbox hb; have n0_ := Aside0.mk (below_step d43b hb); have n1_ := Aside0.mk (hbox); have n2_ := Aside0.mk ((by rw [hg]; exact (below_size d43b) : w.heap.size ≤ gb101)); have n3_ := Aside0.mk ((by rw [hg]; exact (below_size d43b) : w.heap.size ≤ gb101)); clear HB; have HB := n0_; have BK101 := n1_; have GW101 := n2_; have GE101 := n3_; clear n0_ n1_ n2_ n3_; clear hb hbox hg; have hcz23_0 : w22.cell? ⟨gb101, 0, none⟩ = some (.int .i64 a0_0) := (blk_cell BK101.out 0).trans rfl; have hcz23_1 : w22.cell? ⟨gb101, 1, none⟩ = some (.int .i64 a0_1) := (blk_cell BK101.out 1).trans rfl; have hcz23_2 : w22.cell? ⟨gb101, 2, none⟩ = some (.int .i64 a0_2) := (blk_cell BK101.out 2).trans rfl; have hcz23_3 : w22.cell? ⟨gb101, 3, none⟩ = some (.int .i64 a0_3) := (blk_cell BK101.out 3).trans rfl; have hcz23_4 : w22.cell? ⟨gb101, 4, none⟩ = some (.int .i64 a0_4) := (blk_cell BK101.out 4).trans rfl; have hfz23_0 := blk_frozen BK101.out 0; have hfz23_1 := blk_frozen BK101.out 1; have hfz23_2 := blk_frozen BK101.out 2; have hfz23_3 := blk_frozen BK101.out 3; have hfz23_4 := blk_frozen BK101.out 4) | (go_at_call 70; (with_reducible refine (perigeeref9_ask.calls k a0_0 a0_1 a0_2 a0_3 a0_4 _ _ l1 _ _ l2 _ _ l3 a4 t102 _ ?side1 ?side2 ?side3 ?side4 ?side5 ?side6 A6.out).mono ?_); (case side1 => exact C_go (Kd.C_below HR1.out HB.out)); (case side2 => exact HC1.out); (case side3 => exact C_go (Kd.C_below HR2.out HB.out)); (case side4 => exact HC2.out); (case side5 => exact C_go (Kd.C_below HR3.out HB.out)); (case side6 => exact HC3.out); rintro e w24 ⟨rfl, hb⟩; have n0_ := Aside0.mk (blk_below (g := gb101) (o := .cells #[.int .i64 a0_0, .int .i64 a0_1, .int .i64 a0_2, .int .i64 a0_3, .int .i64 a0_4] 23 (0, 0)) d43c hb); have n1_ := Aside0.mk (below_step d43a hb); clear BK101; clear HB; have BK101 := n0_; have HB := n1_; clear n0_ n1_; (try clear hb)))
   go_ret3
   exact ⟨d43d, d43a⟩
def api_Use_80.f (l0 : List S47) : Option (List S47) := if l0.length < 4398046511104 then some l0 else none
theorem api_Use_80.info : (Try.prog.info? 47).map (fun i => (i.zero, i.size, i.bytes)) = some (some (.agg #[.string ByteArray.empty, .int .i64 0, .int .i64 0]), 3, 32) := by kernel_rfl
set_option maxHeartbeats 8000000 in
set_option maxRecDepth 100000 in
theorem api_Use_80.calls (A0 : Option Addr) (c0 : Nat) (l0 : List S47) (r : List S47) (w : World) (hr0 : Kd.C k47 w A0 l0.length l0) (hc0 : l0.length ≤ c0) (h : api_Use_80.f l0 = some r) :
 Calls Try.prog 80 #[.slice A0 l0.length c0] w fun e w' => ∃ v0_ : Value, e = .returned (v0_) ∧ Kd.R k47 47 w' w.heap.size (fun _ => True) v0_ r ∧ Below w.heap.size w w' := by
 unfold api_Use_80.f at h
 have hlt : l0.length < 4398046511104 ∧ l0 = r := by
  split at h
  · rename_i hl
    exact ⟨hl, Option.some.inj h⟩
  · cases h
 obtain ⟨hlt, rfl⟩ := hlt
 have HL := Aside0.mk hlt
 have HR := Aside0.mk hr0
 clear h hlt hr0 hc0
 have q22 : ∀ (w : World) (a : Option Addr) (n c n' c' : Nat), (binOp .eql 26 (.slice a n c) (.slice none n' c')).run Try.prog w = .ok (.bool a.isNone) w := fun w a n c n' c' => Lib.run_eql_slice_nil w _ _ a n c n' c' Try.underlying26
 cases A0 with
 | none =>
  obtain rfl : l0 = [] := by
   cases l0 with
   | nil => rfl
   | cons x l =>
    obtain ⟨ad, e, _⟩ := HR.out.2.2 (Nat.succ_pos _)
    cases e
  go_enter Try.func80, Try.ntmps80
  go_wp2
  go_ret
  exact ⟨_, rfl, Kd.R_nil _ _ _ _ _, Below.refl _ _⟩
 | some ad =>
  have HO : k47.R 47 (w.alloc (.cells #[] 47)) w.heap.size (fun _ => True) (.slice (some ⟨w.heap.size, 0, none⟩) 0 0) ([] : List S47) :=
   ⟨fun _ _ => trivial, [], World.ownsRow_made w #[] 0 (Nat.le_refl _) (Nat.zero_le _) rfl, Reps.none _ _⟩
  have HO1 := Aside0.mk HO
  have HB := Aside0.mk (below_alloc (Below.refl w.heap.size w) (.cells #[] 47))
  clear HO
  go_enter Try.func80, Try.ntmps80
  go_wp2_with (at_builtin; refine Kd.R_append_rows k47 w.heap.size rfl _ _ 26 47 (.agg #[.string ByteArray.empty, .int .i64 0, .int .i64 0]) 32 rfl Try.underlying26 api_Use_80.info rfl (by decide) (by decide) _ [] l0 (some ad) l0.length _ (fun _ => True) (fun _ => False) rfl rfl HO1.out (Kd.C_alloc HR.out _) (fun _ _ h => h) (fun _ h => h.elim) (fun _ _ => trivial) HB.out (by simp) (by have := HL.out; simp; omega) ?_; intro v1 w1 ho1 hb1 hg1 _)
  go_wp2
  go_ret
  exact ⟨v1, rfl, ho1, hb1⟩
end Go.Proofs.Ytplcdpiggpkppaa.Q
