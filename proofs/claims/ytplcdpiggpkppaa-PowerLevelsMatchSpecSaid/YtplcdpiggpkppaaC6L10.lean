-- Made by wip/tools/claimp.py of this session's texts; Lean checks it.
import Derived.Test.YtplcdpiggpkppaaC6Q0
import Derived.Test.YtplcdpiggpkppaaC6Ge13
import Derived.Test.YtplcdpiggpkppaaC6Ge14
import Derived.Test.YtplcdpiggpkppaaC6Ge15
import Derived.Test.YtplcdpiggpkppaaC6Ge8
namespace Go.Proofs.Ytplcdpiggpkppaa.Q
open Go.RowKit Go.Proofs.YtplcdpiggpkppaaW.PrintWords Go.Proofs.YtplcdpiggpkppaaW.PrintLast Go.Proofs.YtplcdpiggpkppaaW.PrintMore
attribute [local go_sem] max2_int min2_int max_two min_two max_three min_three max_four min_four
open Go.Proofs.Ytplcdpiggpkppaa.Base
attribute [local go_sem high] str_leq str_gtr str_geq
set_option linter.unusedVariables false
set_option linter.unusedSimpArgs false
mutual
def perigeelaw9_PowerLevelsMatchSpec.j0 : Nat → List (S72) → List (S76) → List (S47) → Int → Bool → Int → Int → Int → Int → Int → Option (Bool)
  | 0, _, _, _, _, _, _, _, _, _, _ => none
  | k + 1, x1, x2, x3, x4, x44, x102000, x102001, x102002, x102003, x102004 => if x44 = true then (some false) else ((power_Lowest.f k x102000 x102001 x102002 x102003 x102004 x1 x2 x3 x4).bind fun bt106 => ((perigeeref9_Lowest.f k x102000 x102001 x102002 x102003 x102004 x1 x2 x3 x4).bind fun bt109 => (if bt106.2.2 = bt109.2.2 then (if bt106.1 = bt109.1 then (perigeelaw9_PowerLevelsMatchSpec.j1 k x1 x2 x3 x4 (bt106.2.1 != bt109.2.1) x102000 x102001 x102002 x102003 x102004) else (perigeelaw9_PowerLevelsMatchSpec.j1 k x1 x2 x3 x4 true x102000 x102001 x102002 x102003 x102004)) else (perigeelaw9_PowerLevelsMatchSpec.j1 k x1 x2 x3 x4 true x102000 x102001 x102002 x102003 x102004))))
def perigeelaw9_PowerLevelsMatchSpec.j1 : Nat → List (S72) → List (S76) → List (S47) → Int → Bool → Int → Int → Int → Int → Int → Option (Bool)
  | 0, _, _, _, _, _, _, _, _, _, _ => none
  | k + 1, x1, x2, x3, x4, x77, x102000, x102001, x102002, x102003, x102004 => if x77 = true then (some false) else ((power_Empty.f k x102000 x102001 x102002 x102003 x102004 x1 x2 x3 x4).bind fun bt112 => ((perigeeref9_Empty.f k x102000 x102001 x102002 x102003 x102004 x1 x2 x3 x4).bind fun bt115 => (if bt112.2.2 = bt115.2.2 then (if bt112.1 = bt115.1 then (if (bt112.2.1 == bt115.2.1) = true then ((perigeelaw9_awake.f k).bind fun t118 => (some t118)) else (some false)) else (some false)) else (some false))))
end
def perigeelaw9_PowerLevelsMatchSpec.f (k : Nat) (a0_0 : Int) (a0_1 : Int) (a0_2 : Int) (a0_3 : Int) (a0_4 : Int) (l1 : List (S72)) (l2 : List (S76)) (l3 : List (S47)) (a4 : Int) : Option (Bool) := (power_LevelAt.f k a0_0 a0_1 a0_2 a0_3 a0_4 l1 l2 l3 a4).bind fun bt102 => ((perigeeref9_LevelAt.f k a0_0 a0_1 a0_2 a0_3 a0_4 l1 l2 l3 a4).bind fun bt104 => (if bt102.2 = bt104.2 then (perigeelaw9_PowerLevelsMatchSpec.j0 k l1 l2 l3 a4 (bt102.1 != bt104.1) a0_0 a0_1 a0_2 a0_3 a0_4) else (perigeelaw9_PowerLevelsMatchSpec.j0 k l1 l2 l3 a4 true a0_0 a0_1 a0_2 a0_3 a0_4)))
theorem d10a {p : Prop} (h : p := by repeat (first | (with_reducible first | exact HB.out | apply below_alloc | apply pw_below_drewN | apply below_drew1 | refine below_set ?_ GE101.out) | exact HB.out)) : p := h
theorem d10b {p : Prop} (h : p := by (try simp only [List.map_toArray, List.map_cons, List.map_nil]); first | done | rfl | (simp only [List.length_drop, List.length_take]; rfl)) : p := h
theorem d10c {p : Prop} (h : p := by repeat (first | (with_reducible first | exact HB.out | apply below_alloc | apply pw_below_drewN | apply below_drew1) | exact HB.out)) : p := h
theorem d10d {p : Prop} (h : p := by (with_reducible repeat (first | refine blk_drewN ?_ _ | refine blk_drew ?_ | refine blk_alloc ?_ _)); exact BK101.out) : p := h
theorem d10e {p : Prop} (h : p := by first | rfl | (simp [errW_none, errW_some] <;> rfl) | (simp [*, errW_none, errW_some] <;> rfl)) : p := h
theorem d10f {p : Prop} (h : p := by first | rfl | (simp; done) | (simp [*]; done)) : p := h
theorem d10g {p : Prop} (h : p := by exact C_go (Kd.C_below HR1.out HB.out)) : p := h
theorem d10h {p : Prop} (h : p := by exact C_go (Kd.C_below HR2.out HB.out)) : p := h
theorem d10i {p : Prop} (h : p := by exact C_go (Kd.C_below HR3.out HB.out)) : p := h
set_option maxHeartbeats 8000000 in
set_option maxRecDepth 100000 in
theorem perigeelaw9_PowerLevelsMatchSpec.calls (k : Nat) (a0_0 : Int) (a0_1 : Int) (a0_2 : Int) (a0_3 : Int) (a0_4 : Int) (A1 : Option Addr) (c1 : Nat) (l1 : List (S72)) (A2 : Option Addr) (c2 : Nat) (l2 : List (S76)) (A3 : Option Addr) (c3 : Nat) (l3 : List (S47)) (a4 : Int) (r : Bool) (w : World) (hr1 : Kd.C k72 w A1 l1.length l1) (hc1 : l1.length ≤ c1) (hr2 : Kd.C k76 w A2 l2.length l2) (hc2 : l2.length ≤ c2) (hr3 : Kd.C k47 w A3 l3.length l3) (hc3 : l3.length ≤ c3) (h : perigeelaw9_PowerLevelsMatchSpec.f k a0_0 a0_1 a0_2 a0_3 a0_4 l1 l2 l3 a4 = some r) :
 Calls Try.prog 10 #[.agg #[.int .i64 a0_0, .int .i64 a0_1, .int .i64 a0_2, .int .i64 a0_3, .int .i64 a0_4], .slice A1 l1.length c1, .slice A2 l2.length c2, .slice A3 l3.length c3, .int .i64 a4] w fun e w' => e = .returned (.bool r) ∧ Below w.heap.size w w' := by
 have hu23 := Try.underlying23
 have HR1 := Aside0.mk hr1
 have HC1 := Aside0.mk hc1
 clear hr1 hc1
 have HR2 := Aside0.mk hr2
 have HC2 := Aside0.mk hc2
 clear hr2 hc2
 have HR3 := Aside0.mk hr3
 have HC3 := Aside0.mk hc3
 clear hr3 hc3
 have HB := Aside0.mk (Below.refl w.heap.size w)
 have H : ((power_LevelAt.f k a0_0 a0_1 a0_2 a0_3 a0_4 l1 l2 l3 a4).bind fun bt102 => ((perigeeref9_LevelAt.f k a0_0 a0_1 a0_2 a0_3 a0_4 l1 l2 l3 a4).bind fun bt104 => (if bt102.2 = bt104.2 then (perigeelaw9_PowerLevelsMatchSpec.j0 k l1 l2 l3 a4 (bt102.1 != bt104.1) a0_0 a0_1 a0_2 a0_3 a0_4) else (perigeelaw9_PowerLevelsMatchSpec.j0 k l1 l2 l3 a4 true a0_0 a0_1 a0_2 a0_3 a0_4)))) = some r := h
 clear h
 replace H := bindS H; obtain ⟨⟨t102, t103⟩, A6, H⟩ := H
 replace H := bindS H; obtain ⟨⟨t104, t105⟩, A7, H⟩ := H
 have HC8 := Aside0.mk H
 clear H
 go_enter Try.func10, Try.ntmps10
 go_upto_region 3 with (first | ((with_reducible refine gate_dst (N := 5) rfl ?_); refine box_event ?hg (N := 5) ?hd (cs := #[.int .i64 a0_0, .int .i64 a0_1, .int .i64 a0_2, .int .i64 a0_3, .int .i64 a0_4]) (t := 23) ?hr ?_; (case hd => rfl); (case hg => rfl); (case hr => first | (go_simp; done) | (go_simp; rfl)); intro gb101 hg w9 hbox hb; have n0_ := Aside0.mk (below_step d10c hb); have n1_ := Aside0.mk (hbox); have n2_ := Aside0.mk ((by rw [hg]; exact (below_size d10c) : w.heap.size ≤ gb101)); have n3_ := Aside0.mk ((by rw [hg]; exact (below_size d10c) : w.heap.size ≤ gb101)); clear HB; have HB := n0_; have BK101 := n1_; have GW101 := n2_; have GE101 := n3_; clear n0_ n1_ n2_ n3_; clear hb hbox hg; have hcz10_0 : w9.cell? ⟨gb101, 0, none⟩ = some (.int .i64 a0_0) := (blk_cell BK101.out 0).trans rfl; have hcz10_1 : w9.cell? ⟨gb101, 1, none⟩ = some (.int .i64 a0_1) := (blk_cell BK101.out 1).trans rfl; have hcz10_2 : w9.cell? ⟨gb101, 2, none⟩ = some (.int .i64 a0_2) := (blk_cell BK101.out 2).trans rfl; have hcz10_3 : w9.cell? ⟨gb101, 3, none⟩ = some (.int .i64 a0_3) := (blk_cell BK101.out 3).trans rfl; have hcz10_4 : w9.cell? ⟨gb101, 4, none⟩ = some (.int .i64 a0_4) := (blk_cell BK101.out 4).trans rfl; have hfz10_0 := blk_frozen BK101.out 0; have hfz10_1 := blk_frozen BK101.out 1; have hfz10_2 := blk_frozen BK101.out 2; have hfz10_3 := blk_frozen BK101.out 3; have hfz10_4 := blk_frozen BK101.out 4) | ((with_reducible refine gate_callee (f := 28) rfl ?_); refine goesL_ (some 25) rfl rfl Try.func28 (by kernel_rfl) rfl #[.agg #[.int .i64 a0_0, .int .i64 a0_1, .int .i64 a0_2, .int .i64 a0_3, .int .i64 a0_4], .slice A1 l1.length c1, .slice A2 l2.length c2, .slice A3 l3.length c3, .int .i64 a4] rfl d10b ?_; (with_reducible refine (power_LevelAt.calls k a0_0 a0_1 a0_2 a0_3 a0_4 _ _ l1 _ _ l2 _ _ l3 a4 t102 t103 _ ?side1 ?side2 ?side3 ?side4 ?side5 ?side6 A6.out).mono ?_); (case side1 => exact d10g); (case side2 => exact HC1.out); (case side3 => exact d10h); (case side4 => exact HC2.out); (case side5 => exact d10i); (case side6 => exact HC3.out); rintro e w11 ⟨rfl, hb⟩; refine ⟨_, rfl, ?_⟩; have n0_ := Aside0.mk (blk_below (g := gb101) (o := .cells #[.int .i64 a0_0, .int .i64 a0_1, .int .i64 a0_2, .int .i64 a0_3, .int .i64 a0_4] 23 (0, 0)) d10d hb); have n1_ := Aside0.mk (below_step d10a hb); clear BK101; clear HB; have BK101 := n0_; have HB := n1_; clear n0_ n1_; (try clear hb); have hcz12_0 : w11.cell? ⟨gb101, 0, none⟩ = some (.int .i64 a0_0) := (blk_cell BK101.out 0).trans rfl; have hcz12_1 : w11.cell? ⟨gb101, 1, none⟩ = some (.int .i64 a0_1) := (blk_cell BK101.out 1).trans rfl; have hcz12_2 : w11.cell? ⟨gb101, 2, none⟩ = some (.int .i64 a0_2) := (blk_cell BK101.out 2).trans rfl; have hcz12_3 : w11.cell? ⟨gb101, 3, none⟩ = some (.int .i64 a0_3) := (blk_cell BK101.out 3).trans rfl; have hcz12_4 : w11.cell? ⟨gb101, 4, none⟩ = some (.int .i64 a0_4) := (blk_cell BK101.out 4).trans rfl; have hfz12_0 := blk_frozen BK101.out 0; have hfz12_1 := blk_frozen BK101.out 1; have hfz12_2 := blk_frozen BK101.out 2; have hfz12_3 := blk_frozen BK101.out 3; have hfz12_4 := blk_frozen BK101.out 4) | ((with_reducible refine gate_callee (f := 40) rfl ?_); refine goesL_ (some 34) rfl rfl Try.func40 (by kernel_rfl) rfl #[.agg #[.int .i64 a0_0, .int .i64 a0_1, .int .i64 a0_2, .int .i64 a0_3, .int .i64 a0_4], .slice A1 l1.length c1, .slice A2 l2.length c2, .slice A3 l3.length c3, .int .i64 a4] rfl d10b ?_; (with_reducible refine (perigeeref9_LevelAt.calls k a0_0 a0_1 a0_2 a0_3 a0_4 _ _ l1 _ _ l2 _ _ l3 a4 t104 t105 _ ?side1 ?side2 ?side3 ?side4 ?side5 ?side6 A7.out).mono ?_); (case side1 => exact d10g); (case side2 => exact HC1.out); (case side3 => exact d10h); (case side4 => exact HC2.out); (case side5 => exact d10i); (case side6 => exact HC3.out); rintro e w13 ⟨rfl, hb⟩; refine ⟨_, rfl, ?_⟩; have n0_ := Aside0.mk (blk_below (g := gb101) (o := .cells #[.int .i64 a0_0, .int .i64 a0_1, .int .i64 a0_2, .int .i64 a0_3, .int .i64 a0_4] 23 (0, 0)) d10d hb); have n1_ := Aside0.mk (below_step d10a hb); clear BK101; clear HB; have BK101 := n0_; have HB := n1_; clear n0_ n1_; (try clear hb)))
 (try simp only [Act.put, List.setIfInBounds_toArray, List.set_cons_zero, List.set_cons_succ])
 go_cut [44] (fun v44 wc => ∃ (kq : Nat) (x44_7 : Bool), v44 = .bool x44_7 ∧ Aside0 (perigeelaw9_PowerLevelsMatchSpec.j0 kq l1 l2 l3 a4 x44_7 a0_0 a0_1 a0_2 a0_3 a0_4 = some r) ∧ Aside0 (kq ≤ k) ∧ Aside0 (wc.heap[gb101]? = some (.cells #[.int .i64 a0_0, .int .i64 a0_1, .int .i64 a0_2, .int .i64 a0_3, .int .i64 a0_4] 23 (0, 0))) ∧ Aside0 (Below w.heap.size w wc))
 case first =>
  have H := HC8.out
  clear HC8
  by_cases c14 : t103 = t105
  · rw [if_pos c14] at H
    have c14b0 : (t103 == t105) = true := beq_iff_eq.mpr c14
    have c14b1 : (t103 != t105) = false := bne_eq_false_iff_eq.mpr c14
    clear c14
    (first | rw [c14b0] | (simp only [i64_w, i32_w]; rw [c14b0]) | skip)
    have H' := Aside0.mk H
    clear H
    go_wp2
    go_meet
    case rel => exact ⟨_, ((t102 != t104)), d10f, H', ⟨by first | omega | exact Nat.le_refl _⟩, ⟨d10d⟩, ⟨d10a⟩⟩
  · rw [if_neg c14] at H
    have c14b0 : (t103 == t105) = false := beq_eq_false_iff_ne.mpr c14
    have c14b1 : (t103 != t105) = true := bne_iff_ne.mpr c14
    (first | rw [c14b0] | (simp only [i64_w, i32_w]; rw [c14b0]) | skip)
    have H' := Aside0.mk H
    clear H
    go_wp2
    go_meet
    case rel => exact ⟨_, (true), d10f, H', ⟨by first | omega | exact Nat.le_refl _⟩, ⟨d10d⟩, ⟨d10a⟩⟩
 case rest =>
  clear HC8
  try clear hcz10_0
  try clear hcz10_1
  try clear hcz10_2
  try clear hcz10_3
  try clear hcz10_4
  try clear hcz12_0
  try clear hcz12_1
  try clear hcz12_2
  try clear hcz12_3
  try clear hcz12_4
  try clear hfz10_0
  try clear hfz10_1
  try clear hfz10_2
  try clear hfz10_3
  try clear hfz10_4
  try clear hfz12_0
  try clear hfz12_1
  try clear hfz12_2
  try clear hfz12_3
  try clear hfz12_4
  obtain ⟨kq, x44_7, rfl, HA, HJ7, BK101, HB⟩ := hcut
  cases kq with
  | zero => exact absurd HA.out (by simp [perigeelaw9_PowerLevelsMatchSpec.j0])
  | succ kj7 =>
   have H := HA.out
   clear HA
   simp only [perigeelaw9_PowerLevelsMatchSpec.j0] at H
   by_cases c15 : x44_7 = true
   · subst c15
     replace H := iteT H
     obtain rfl := Option.some.inj H
     go_wp2
     go_ret
     exact ⟨d10e, d10a⟩
   · replace c15 := Bool.eq_false_iff.mpr c15
     subst c15
     replace H := iteF H
     replace H := bindS H; obtain ⟨⟨t106, t107, t108⟩, A16, H⟩ := H
     replace H := bindS H; obtain ⟨⟨t109, t110, t111⟩, A17, H⟩ := H
     have HC18 := Aside0.mk H
     clear H
     obtain ⟨hcz19_0, hcz19_1, hcz19_2, hcz19_3, hcz19_4⟩ := blkC5 BK101.out
     have hfz19_0 := blk_frozen BK101.out 0
     have hfz19_1 := blk_frozen BK101.out 1
     have hfz19_2 := blk_frozen BK101.out 2
     have hfz19_3 := blk_frozen BK101.out 3
     have hfz19_4 := blk_frozen BK101.out 4
     go_upto_region 7 with (first | ((with_reducible refine gate_callee (f := 39) rfl ?_); refine goesL_ (some 51) rfl rfl Try.func39 (by kernel_rfl) rfl #[.agg #[.int .i64 a0_0, .int .i64 a0_1, .int .i64 a0_2, .int .i64 a0_3, .int .i64 a0_4], .slice A1 l1.length c1, .slice A2 l2.length c2, .slice A3 l3.length c3, .int .i64 a4] rfl d10b ?_; (with_reducible refine (power_Lowest.calls kj7 a0_0 a0_1 a0_2 a0_3 a0_4 _ _ l1 _ _ l2 _ _ l3 a4 t106 t107 t108 _ ?side1 ?side2 ?side3 ?side4 ?side5 ?side6 A16.out).mono ?_); (case side1 => exact d10g); (case side2 => exact HC1.out); (case side3 => exact d10h); (case side4 => exact HC2.out); (case side5 => exact d10i); (case side6 => exact HC3.out); rintro e w20 ⟨rfl, hb⟩; refine ⟨_, rfl, ?_⟩; have n0_ := Aside0.mk (blk_below (g := gb101) (o := .cells #[.int .i64 a0_0, .int .i64 a0_1, .int .i64 a0_2, .int .i64 a0_3, .int .i64 a0_4] 23 (0, 0)) d10d hb); have n1_ := Aside0.mk (below_step d10a hb); clear BK101; clear HB; have BK101 := n0_; have HB := n1_; clear n0_ n1_; (try clear hb); have hcz21_0 : w20.cell? ⟨gb101, 0, none⟩ = some (.int .i64 a0_0) := (blk_cell BK101.out 0).trans rfl; have hcz21_1 : w20.cell? ⟨gb101, 1, none⟩ = some (.int .i64 a0_1) := (blk_cell BK101.out 1).trans rfl; have hcz21_2 : w20.cell? ⟨gb101, 2, none⟩ = some (.int .i64 a0_2) := (blk_cell BK101.out 2).trans rfl; have hcz21_3 : w20.cell? ⟨gb101, 3, none⟩ = some (.int .i64 a0_3) := (blk_cell BK101.out 3).trans rfl; have hcz21_4 : w20.cell? ⟨gb101, 4, none⟩ = some (.int .i64 a0_4) := (blk_cell BK101.out 4).trans rfl; have hfz21_0 := blk_frozen BK101.out 0; have hfz21_1 := blk_frozen BK101.out 1; have hfz21_2 := blk_frozen BK101.out 2; have hfz21_3 := blk_frozen BK101.out 3; have hfz21_4 := blk_frozen BK101.out 4) | ((with_reducible refine gate_callee (f := 41) rfl ?_); refine goesL_ (some 61) rfl rfl Try.func41 (by kernel_rfl) rfl #[.agg #[.int .i64 a0_0, .int .i64 a0_1, .int .i64 a0_2, .int .i64 a0_3, .int .i64 a0_4], .slice A1 l1.length c1, .slice A2 l2.length c2, .slice A3 l3.length c3, .int .i64 a4] rfl d10b ?_; (with_reducible refine (perigeeref9_Lowest.calls kj7 a0_0 a0_1 a0_2 a0_3 a0_4 _ _ l1 _ _ l2 _ _ l3 a4 t109 t110 t111 _ ?side1 ?side2 ?side3 ?side4 ?side5 ?side6 A17.out).mono ?_); (case side1 => exact d10g); (case side2 => exact HC1.out); (case side3 => exact d10h); (case side4 => exact HC2.out); (case side5 => exact d10i); (case side6 => exact HC3.out); rintro e w22 ⟨rfl, hb⟩; refine ⟨_, rfl, ?_⟩; have n0_ := Aside0.mk (blk_below (g := gb101) (o := .cells #[.int .i64 a0_0, .int .i64 a0_1, .int .i64 a0_2, .int .i64 a0_3, .int .i64 a0_4] 23 (0, 0)) d10d hb); have n1_ := Aside0.mk (below_step d10a hb); clear BK101; clear HB; have BK101 := n0_; have HB := n1_; clear n0_ n1_; (try clear hb)))
     (try simp only [Act.put, List.setIfInBounds_toArray, List.set_cons_zero, List.set_cons_succ])
     go_cut [77] (fun v77 wc => ∃ (kq : Nat) (x77_17 : Bool), v77 = .bool x77_17 ∧ Aside0 (perigeelaw9_PowerLevelsMatchSpec.j1 kq l1 l2 l3 a4 x77_17 a0_0 a0_1 a0_2 a0_3 a0_4 = some r) ∧ Aside0 (kq ≤ kj7) ∧ Aside0 (wc.heap[gb101]? = some (.cells #[.int .i64 a0_0, .int .i64 a0_1, .int .i64 a0_2, .int .i64 a0_3, .int .i64 a0_4] 23 (0, 0))) ∧ Aside0 (Below w.heap.size w wc))
     case first =>
      have H := HC18.out
      clear HC18
      by_cases c23 : t108 = t111
      · rw [if_pos c23] at H
        have c23b0 : (t108 == t111) = true := beq_iff_eq.mpr c23
        have c23b1 : (t108 != t111) = false := bne_eq_false_iff_eq.mpr c23
        clear c23
        (first | rw [c23b0] | (simp only [i64_w, i32_w]; rw [c23b0]) | skip)
        by_cases c24 : t106 = t109
        · rw [if_pos c24] at H
          have c24b0 : (t106 == t109) = true := beq_iff_eq.mpr c24
          have c24b1 : (t106 != t109) = false := bne_eq_false_iff_eq.mpr c24
          clear c24
          have H' := Aside0.mk H
          clear H
          go_wp2
          go_meet
          case rel => exact ⟨_, ((t107 != t110)), d10f, H', ⟨by have := HJ7.out; first | omega | exact Nat.le_refl _⟩, ⟨d10d⟩, ⟨d10a⟩⟩
        · rw [if_neg c24] at H
          have c24b0 : (t106 == t109) = false := beq_eq_false_iff_ne.mpr c24
          have c24b1 : (t106 != t109) = true := bne_iff_ne.mpr c24
          have H' := Aside0.mk H
          clear H
          go_wp2
          go_meet
          case rel => exact ⟨_, (true), d10f, H', ⟨by have := HJ7.out; first | omega | exact Nat.le_refl _⟩, ⟨d10d⟩, ⟨d10a⟩⟩
      · rw [if_neg c23] at H
        have c23b0 : (t108 == t111) = false := beq_eq_false_iff_ne.mpr c23
        have c23b1 : (t108 != t111) = true := bne_iff_ne.mpr c23
        (first | rw [c23b0] | (simp only [i64_w, i32_w]; rw [c23b0]) | skip)
        have H' := Aside0.mk H
        clear H
        go_wp2
        go_meet
        case rel => exact ⟨_, (true), d10f, H', ⟨by have := HJ7.out; first | omega | exact Nat.le_refl _⟩, ⟨d10d⟩, ⟨d10a⟩⟩
     case rest =>
      clear HC18
      try clear hcz19_0
      try clear hcz19_1
      try clear hcz19_2
      try clear hcz19_3
      try clear hcz19_4
      try clear hcz21_0
      try clear hcz21_1
      try clear hcz21_2
      try clear hcz21_3
      try clear hcz21_4
      try clear hfz19_0
      try clear hfz19_1
      try clear hfz19_2
      try clear hfz19_3
      try clear hfz19_4
      try clear hfz21_0
      try clear hfz21_1
      try clear hfz21_2
      try clear hfz21_3
      try clear hfz21_4
      obtain ⟨kq, x77_17, rfl, HA, HJ17, BK101, HB⟩ := hcut
      cases kq with
      | zero => exact absurd HA.out (by simp [perigeelaw9_PowerLevelsMatchSpec.j1])
      | succ kj17 =>
       have H := HA.out
       clear HA
       simp only [perigeelaw9_PowerLevelsMatchSpec.j1] at H
       by_cases c25 : x77_17 = true
       · subst c25
         replace H := iteT H
         obtain rfl := Option.some.inj H
         go_wp2
         go_ret
         exact ⟨d10e, d10a⟩
       · replace c25 := Bool.eq_false_iff.mpr c25
         subst c25
         replace H := iteF H
         replace H := bindS H; obtain ⟨⟨t112, t113, t114⟩, A26, H⟩ := H
         replace H := bindS H; obtain ⟨⟨t115, t116, t117⟩, A27, H⟩ := H
         by_cases c28 : t114 = t117
         · rw [if_pos c28] at H
           have c28b0 : (t114 == t117) = true := beq_iff_eq.mpr c28
           have c28b1 : (t114 != t117) = false := bne_eq_false_iff_eq.mpr c28
           clear c28
           by_cases c29 : t112 = t115
           · rw [if_pos c29] at H
             have c29b0 : (t112 == t115) = true := beq_iff_eq.mpr c29
             have c29b1 : (t112 != t115) = false := bne_eq_false_iff_eq.mpr c29
             clear c29
             by_cases c30 : (t113 == t116) = true
             · rw [if_pos c30] at H
               have c30b0 : (t113 == t116) = true := c30
               (try (have c30b1 : decide (t113 = t116) = true := by simpa using c30))
               (try (have c30b2 : (t113 == t116) = true := by simpa using c30))
               clear c30
               replace H := bindS H; obtain ⟨t118, A31, H⟩ := H
               obtain rfl := Option.some.inj H
               obtain ⟨hcz32_0, hcz32_1, hcz32_2, hcz32_3, hcz32_4⟩ := blkC5 BK101.out
               have hfz32_0 := blk_frozen BK101.out 0
               have hfz32_1 := blk_frozen BK101.out 1
               have hfz32_2 := blk_frozen BK101.out 2
               have hfz32_3 := blk_frozen BK101.out 3
               have hfz32_4 := blk_frozen BK101.out 4
               go_wp2_with (first | ((with_reducible refine gate_callee (f := 35) rfl ?_); refine goesL_ (some 84) rfl rfl Try.func35 (by kernel_rfl) rfl #[.agg #[.int .i64 a0_0, .int .i64 a0_1, .int .i64 a0_2, .int .i64 a0_3, .int .i64 a0_4], .slice A1 l1.length c1, .slice A2 l2.length c2, .slice A3 l3.length c3, .int .i64 a4] rfl d10b ?_; (with_reducible refine (power_Empty.calls kj17 a0_0 a0_1 a0_2 a0_3 a0_4 _ _ l1 _ _ l2 _ _ l3 a4 t112 t113 t114 _ ?side1 ?side2 ?side3 ?side4 ?side5 ?side6 A26.out).mono ?_); (case side1 => exact d10g); (case side2 => exact HC1.out); (case side3 => exact d10h); (case side4 => exact HC2.out); (case side5 => exact d10i); (case side6 => exact HC3.out); rintro e w33 ⟨rfl, hb⟩; refine ⟨_, rfl, ?_⟩; have n0_ := Aside0.mk (blk_below (g := gb101) (o := .cells #[.int .i64 a0_0, .int .i64 a0_1, .int .i64 a0_2, .int .i64 a0_3, .int .i64 a0_4] 23 (0, 0)) d10d hb); have n1_ := Aside0.mk (below_step d10a hb); clear BK101; clear HB; have BK101 := n0_; have HB := n1_; clear n0_ n1_; (try clear hb); have hcz34_0 : w33.cell? ⟨gb101, 0, none⟩ = some (.int .i64 a0_0) := (blk_cell BK101.out 0).trans rfl; have hcz34_1 : w33.cell? ⟨gb101, 1, none⟩ = some (.int .i64 a0_1) := (blk_cell BK101.out 1).trans rfl; have hcz34_2 : w33.cell? ⟨gb101, 2, none⟩ = some (.int .i64 a0_2) := (blk_cell BK101.out 2).trans rfl; have hcz34_3 : w33.cell? ⟨gb101, 3, none⟩ = some (.int .i64 a0_3) := (blk_cell BK101.out 3).trans rfl; have hcz34_4 : w33.cell? ⟨gb101, 4, none⟩ = some (.int .i64 a0_4) := (blk_cell BK101.out 4).trans rfl; have hfz34_0 := blk_frozen BK101.out 0; have hfz34_1 := blk_frozen BK101.out 1; have hfz34_2 := blk_frozen BK101.out 2; have hfz34_3 := blk_frozen BK101.out 3; have hfz34_4 := blk_frozen BK101.out 4) | ((with_reducible refine gate_callee (f := 42) rfl ?_); refine goesL_ (some 94) rfl rfl Try.func42 (by kernel_rfl) rfl #[.agg #[.int .i64 a0_0, .int .i64 a0_1, .int .i64 a0_2, .int .i64 a0_3, .int .i64 a0_4], .slice A1 l1.length c1, .slice A2 l2.length c2, .slice A3 l3.length c3, .int .i64 a4] rfl d10b ?_; (with_reducible refine (perigeeref9_Empty.calls kj17 a0_0 a0_1 a0_2 a0_3 a0_4 _ _ l1 _ _ l2 _ _ l3 a4 t115 t116 t117 _ ?side1 ?side2 ?side3 ?side4 ?side5 ?side6 A27.out).mono ?_); (case side1 => exact d10g); (case side2 => exact HC1.out); (case side3 => exact d10h); (case side4 => exact HC2.out); (case side5 => exact d10i); (case side6 => exact HC3.out); rintro e w35 ⟨rfl, hb⟩; refine ⟨_, rfl, ?_⟩; have n0_ := Aside0.mk (blk_below (g := gb101) (o := .cells #[.int .i64 a0_0, .int .i64 a0_1, .int .i64 a0_2, .int .i64 a0_3, .int .i64 a0_4] 23 (0, 0)) d10d hb); have n1_ := Aside0.mk (below_step d10a hb); clear BK101; clear HB; have BK101 := n0_; have HB := n1_; clear n0_ n1_; (try clear hb)) | (go_at_call 27; (with_reducible refine (perigeelaw9_awake.calls kj17  t118 _ A31.out).mono ?_); rintro e w36 ⟨rfl, hb⟩; have n0_ := Aside0.mk (blk_below (g := gb101) (o := .cells #[.int .i64 a0_0, .int .i64 a0_1, .int .i64 a0_2, .int .i64 a0_3, .int .i64 a0_4] 23 (0, 0)) d10d hb); have n1_ := Aside0.mk (below_step d10a hb); clear BK101; clear HB; have BK101 := n0_; have HB := n1_; clear n0_ n1_; (try clear hb)))
               go_ret
               exact ⟨d10e, d10a⟩
             · rw [if_neg c30] at H
               have c30b0 : (t113 == t116) = false := by simpa using c30
               (try (have c30b1 : decide (t113 = t116) = false := by simpa using c30))
               (try (have c30b2 : (t113 == t116) = false := by simpa using c30))
               (try (have c30b3 : ¬ (t113 = t116) := by simpa using c30))
               clear c30
               obtain rfl := Option.some.inj H
               obtain ⟨hcz37_0, hcz37_1, hcz37_2, hcz37_3, hcz37_4⟩ := blkC5 BK101.out
               have hfz37_0 := blk_frozen BK101.out 0
               have hfz37_1 := blk_frozen BK101.out 1
               have hfz37_2 := blk_frozen BK101.out 2
               have hfz37_3 := blk_frozen BK101.out 3
               have hfz37_4 := blk_frozen BK101.out 4
               go_wp2_with (first | ((with_reducible refine gate_callee (f := 35) rfl ?_); refine goesL_ (some 84) rfl rfl Try.func35 (by kernel_rfl) rfl #[.agg #[.int .i64 a0_0, .int .i64 a0_1, .int .i64 a0_2, .int .i64 a0_3, .int .i64 a0_4], .slice A1 l1.length c1, .slice A2 l2.length c2, .slice A3 l3.length c3, .int .i64 a4] rfl d10b ?_; (with_reducible refine (power_Empty.calls kj17 a0_0 a0_1 a0_2 a0_3 a0_4 _ _ l1 _ _ l2 _ _ l3 a4 t112 t113 t114 _ ?side1 ?side2 ?side3 ?side4 ?side5 ?side6 A26.out).mono ?_); (case side1 => exact d10g); (case side2 => exact HC1.out); (case side3 => exact d10h); (case side4 => exact HC2.out); (case side5 => exact d10i); (case side6 => exact HC3.out); rintro e w38 ⟨rfl, hb⟩; refine ⟨_, rfl, ?_⟩; have n0_ := Aside0.mk (blk_below (g := gb101) (o := .cells #[.int .i64 a0_0, .int .i64 a0_1, .int .i64 a0_2, .int .i64 a0_3, .int .i64 a0_4] 23 (0, 0)) d10d hb); have n1_ := Aside0.mk (below_step d10a hb); clear BK101; clear HB; have BK101 := n0_; have HB := n1_; clear n0_ n1_; (try clear hb); have hcz39_0 : w38.cell? ⟨gb101, 0, none⟩ = some (.int .i64 a0_0) := (blk_cell BK101.out 0).trans rfl; have hcz39_1 : w38.cell? ⟨gb101, 1, none⟩ = some (.int .i64 a0_1) := (blk_cell BK101.out 1).trans rfl; have hcz39_2 : w38.cell? ⟨gb101, 2, none⟩ = some (.int .i64 a0_2) := (blk_cell BK101.out 2).trans rfl; have hcz39_3 : w38.cell? ⟨gb101, 3, none⟩ = some (.int .i64 a0_3) := (blk_cell BK101.out 3).trans rfl; have hcz39_4 : w38.cell? ⟨gb101, 4, none⟩ = some (.int .i64 a0_4) := (blk_cell BK101.out 4).trans rfl; have hfz39_0 := blk_frozen BK101.out 0; have hfz39_1 := blk_frozen BK101.out 1; have hfz39_2 := blk_frozen BK101.out 2; have hfz39_3 := blk_frozen BK101.out 3; have hfz39_4 := blk_frozen BK101.out 4) | ((with_reducible refine gate_callee (f := 42) rfl ?_); refine goesL_ (some 94) rfl rfl Try.func42 (by kernel_rfl) rfl #[.agg #[.int .i64 a0_0, .int .i64 a0_1, .int .i64 a0_2, .int .i64 a0_3, .int .i64 a0_4], .slice A1 l1.length c1, .slice A2 l2.length c2, .slice A3 l3.length c3, .int .i64 a4] rfl d10b ?_; (with_reducible refine (perigeeref9_Empty.calls kj17 a0_0 a0_1 a0_2 a0_3 a0_4 _ _ l1 _ _ l2 _ _ l3 a4 t115 t116 t117 _ ?side1 ?side2 ?side3 ?side4 ?side5 ?side6 A27.out).mono ?_); (case side1 => exact d10g); (case side2 => exact HC1.out); (case side3 => exact d10h); (case side4 => exact HC2.out); (case side5 => exact d10i); (case side6 => exact HC3.out); rintro e w40 ⟨rfl, hb⟩; refine ⟨_, rfl, ?_⟩; have n0_ := Aside0.mk (blk_below (g := gb101) (o := .cells #[.int .i64 a0_0, .int .i64 a0_1, .int .i64 a0_2, .int .i64 a0_3, .int .i64 a0_4] 23 (0, 0)) d10d hb); have n1_ := Aside0.mk (below_step d10a hb); clear BK101; clear HB; have BK101 := n0_; have HB := n1_; clear n0_ n1_; (try clear hb)))
               go_ret
               exact ⟨d10e, d10a⟩
           · rw [if_neg c29] at H
             have c29b0 : (t112 == t115) = false := beq_eq_false_iff_ne.mpr c29
             have c29b1 : (t112 != t115) = true := bne_iff_ne.mpr c29
             obtain rfl := Option.some.inj H
             obtain ⟨hcz41_0, hcz41_1, hcz41_2, hcz41_3, hcz41_4⟩ := blkC5 BK101.out
             have hfz41_0 := blk_frozen BK101.out 0
             have hfz41_1 := blk_frozen BK101.out 1
             have hfz41_2 := blk_frozen BK101.out 2
             have hfz41_3 := blk_frozen BK101.out 3
             have hfz41_4 := blk_frozen BK101.out 4
             go_wp2_with (first | ((with_reducible refine gate_callee (f := 35) rfl ?_); refine goesL_ (some 84) rfl rfl Try.func35 (by kernel_rfl) rfl #[.agg #[.int .i64 a0_0, .int .i64 a0_1, .int .i64 a0_2, .int .i64 a0_3, .int .i64 a0_4], .slice A1 l1.length c1, .slice A2 l2.length c2, .slice A3 l3.length c3, .int .i64 a4] rfl d10b ?_; (with_reducible refine (power_Empty.calls kj17 a0_0 a0_1 a0_2 a0_3 a0_4 _ _ l1 _ _ l2 _ _ l3 a4 t112 t113 t114 _ ?side1 ?side2 ?side3 ?side4 ?side5 ?side6 A26.out).mono ?_); (case side1 => exact d10g); (case side2 => exact HC1.out); (case side3 => exact d10h); (case side4 => exact HC2.out); (case side5 => exact d10i); (case side6 => exact HC3.out); rintro e w42 ⟨rfl, hb⟩; refine ⟨_, rfl, ?_⟩; have n0_ := Aside0.mk (blk_below (g := gb101) (o := .cells #[.int .i64 a0_0, .int .i64 a0_1, .int .i64 a0_2, .int .i64 a0_3, .int .i64 a0_4] 23 (0, 0)) d10d hb); have n1_ := Aside0.mk (below_step d10a hb); clear BK101; clear HB; have BK101 := n0_; have HB := n1_; clear n0_ n1_; (try clear hb); have hcz43_0 : w42.cell? ⟨gb101, 0, none⟩ = some (.int .i64 a0_0) := (blk_cell BK101.out 0).trans rfl; have hcz43_1 : w42.cell? ⟨gb101, 1, none⟩ = some (.int .i64 a0_1) := (blk_cell BK101.out 1).trans rfl; have hcz43_2 : w42.cell? ⟨gb101, 2, none⟩ = some (.int .i64 a0_2) := (blk_cell BK101.out 2).trans rfl; have hcz43_3 : w42.cell? ⟨gb101, 3, none⟩ = some (.int .i64 a0_3) := (blk_cell BK101.out 3).trans rfl; have hcz43_4 : w42.cell? ⟨gb101, 4, none⟩ = some (.int .i64 a0_4) := (blk_cell BK101.out 4).trans rfl; have hfz43_0 := blk_frozen BK101.out 0; have hfz43_1 := blk_frozen BK101.out 1; have hfz43_2 := blk_frozen BK101.out 2; have hfz43_3 := blk_frozen BK101.out 3; have hfz43_4 := blk_frozen BK101.out 4) | ((with_reducible refine gate_callee (f := 42) rfl ?_); refine goesL_ (some 94) rfl rfl Try.func42 (by kernel_rfl) rfl #[.agg #[.int .i64 a0_0, .int .i64 a0_1, .int .i64 a0_2, .int .i64 a0_3, .int .i64 a0_4], .slice A1 l1.length c1, .slice A2 l2.length c2, .slice A3 l3.length c3, .int .i64 a4] rfl d10b ?_; (with_reducible refine (perigeeref9_Empty.calls kj17 a0_0 a0_1 a0_2 a0_3 a0_4 _ _ l1 _ _ l2 _ _ l3 a4 t115 t116 t117 _ ?side1 ?side2 ?side3 ?side4 ?side5 ?side6 A27.out).mono ?_); (case side1 => exact d10g); (case side2 => exact HC1.out); (case side3 => exact d10h); (case side4 => exact HC2.out); (case side5 => exact d10i); (case side6 => exact HC3.out); rintro e w44 ⟨rfl, hb⟩; refine ⟨_, rfl, ?_⟩; have n0_ := Aside0.mk (blk_below (g := gb101) (o := .cells #[.int .i64 a0_0, .int .i64 a0_1, .int .i64 a0_2, .int .i64 a0_3, .int .i64 a0_4] 23 (0, 0)) d10d hb); have n1_ := Aside0.mk (below_step d10a hb); clear BK101; clear HB; have BK101 := n0_; have HB := n1_; clear n0_ n1_; (try clear hb)))
             go_ret
             exact ⟨d10e, d10a⟩
         · rw [if_neg c28] at H
           have c28b0 : (t114 == t117) = false := beq_eq_false_iff_ne.mpr c28
           have c28b1 : (t114 != t117) = true := bne_iff_ne.mpr c28
           obtain rfl := Option.some.inj H
           obtain ⟨hcz45_0, hcz45_1, hcz45_2, hcz45_3, hcz45_4⟩ := blkC5 BK101.out
           have hfz45_0 := blk_frozen BK101.out 0
           have hfz45_1 := blk_frozen BK101.out 1
           have hfz45_2 := blk_frozen BK101.out 2
           have hfz45_3 := blk_frozen BK101.out 3
           have hfz45_4 := blk_frozen BK101.out 4
           go_wp2_with (first | ((with_reducible refine gate_callee (f := 35) rfl ?_); refine goesL_ (some 84) rfl rfl Try.func35 (by kernel_rfl) rfl #[.agg #[.int .i64 a0_0, .int .i64 a0_1, .int .i64 a0_2, .int .i64 a0_3, .int .i64 a0_4], .slice A1 l1.length c1, .slice A2 l2.length c2, .slice A3 l3.length c3, .int .i64 a4] rfl d10b ?_; (with_reducible refine (power_Empty.calls kj17 a0_0 a0_1 a0_2 a0_3 a0_4 _ _ l1 _ _ l2 _ _ l3 a4 t112 t113 t114 _ ?side1 ?side2 ?side3 ?side4 ?side5 ?side6 A26.out).mono ?_); (case side1 => exact d10g); (case side2 => exact HC1.out); (case side3 => exact d10h); (case side4 => exact HC2.out); (case side5 => exact d10i); (case side6 => exact HC3.out); rintro e w46 ⟨rfl, hb⟩; refine ⟨_, rfl, ?_⟩; have n0_ := Aside0.mk (blk_below (g := gb101) (o := .cells #[.int .i64 a0_0, .int .i64 a0_1, .int .i64 a0_2, .int .i64 a0_3, .int .i64 a0_4] 23 (0, 0)) d10d hb); have n1_ := Aside0.mk (below_step d10a hb); clear BK101; clear HB; have BK101 := n0_; have HB := n1_; clear n0_ n1_; (try clear hb); have hcz47_0 : w46.cell? ⟨gb101, 0, none⟩ = some (.int .i64 a0_0) := (blk_cell BK101.out 0).trans rfl; have hcz47_1 : w46.cell? ⟨gb101, 1, none⟩ = some (.int .i64 a0_1) := (blk_cell BK101.out 1).trans rfl; have hcz47_2 : w46.cell? ⟨gb101, 2, none⟩ = some (.int .i64 a0_2) := (blk_cell BK101.out 2).trans rfl; have hcz47_3 : w46.cell? ⟨gb101, 3, none⟩ = some (.int .i64 a0_3) := (blk_cell BK101.out 3).trans rfl; have hcz47_4 : w46.cell? ⟨gb101, 4, none⟩ = some (.int .i64 a0_4) := (blk_cell BK101.out 4).trans rfl; have hfz47_0 := blk_frozen BK101.out 0; have hfz47_1 := blk_frozen BK101.out 1; have hfz47_2 := blk_frozen BK101.out 2; have hfz47_3 := blk_frozen BK101.out 3; have hfz47_4 := blk_frozen BK101.out 4) | ((with_reducible refine gate_callee (f := 42) rfl ?_); refine goesL_ (some 94) rfl rfl Try.func42 (by kernel_rfl) rfl #[.agg #[.int .i64 a0_0, .int .i64 a0_1, .int .i64 a0_2, .int .i64 a0_3, .int .i64 a0_4], .slice A1 l1.length c1, .slice A2 l2.length c2, .slice A3 l3.length c3, .int .i64 a4] rfl d10b ?_; (with_reducible refine (perigeeref9_Empty.calls kj17 a0_0 a0_1 a0_2 a0_3 a0_4 _ _ l1 _ _ l2 _ _ l3 a4 t115 t116 t117 _ ?side1 ?side2 ?side3 ?side4 ?side5 ?side6 A27.out).mono ?_); (case side1 => exact d10g); (case side2 => exact HC1.out); (case side3 => exact d10h); (case side4 => exact HC2.out); (case side5 => exact d10i); (case side6 => exact HC3.out); rintro e w48 ⟨rfl, hb⟩; refine ⟨_, rfl, ?_⟩; have n0_ := Aside0.mk (blk_below (g := gb101) (o := .cells #[.int .i64 a0_0, .int .i64 a0_1, .int .i64 a0_2, .int .i64 a0_3, .int .i64 a0_4] 23 (0, 0)) d10d hb); have n1_ := Aside0.mk (below_step d10a hb); clear BK101; clear HB; have BK101 := n0_; have HB := n1_; clear n0_ n1_; (try clear hb)))
           go_ret
           exact ⟨d10e, d10a⟩
end Go.Proofs.Ytplcdpiggpkppaa.Q
