-- Made by wip/tools/claimp.py of this session's texts; Lean checks it.
import Derived.Test.YtplcdpiggpkppaaC13Q0
import Derived.Test.YtplcdpiggpkppaaC13Ge1
import Derived.Test.YtplcdpiggpkppaaC13Ge3
import Derived.Test.YtplcdpiggpkppaaC13Ge4
import Derived.Test.YtplcdpiggpkppaaC13Ge6
import Derived.Test.YtplcdpiggpkppaaC13Ge7
namespace Go.Proofs.Ytplcdpiggpkppaa.Q
open Go.RowKit Go.Proofs.YtplcdpiggpkppaaW.PrintWords Go.Proofs.YtplcdpiggpkppaaW.PrintLast Go.Proofs.YtplcdpiggpkppaaW.PrintMore
attribute [local go_sem] max2_int min2_int max_two min_two max_three min_three max_four min_four
open Go.Proofs.Ytplcdpiggpkppaa.Base
attribute [local go_sem high] str_leq str_gtr str_geq
set_option linter.unusedVariables false
set_option linter.unusedSimpArgs false
def perigeelaw9_awake.f (k : Nat)  : Option (Bool) := (power_Sunny.f k (([(⟨2, 5⟩ : S72)] : List (S72))) 0 4).bind fun bt104 => (if bt104.2 = 0 then (some (bt104.1 == 2)) else (some false))
theorem d27a {p : Prop} (h : p := by repeat (first | (with_reducible first | exact HB.out | apply below_alloc | apply pw_below_drewN | apply below_drew1) | exact HB.out)) : p := h
set_option maxHeartbeats 8000000 in
set_option maxRecDepth 100000 in
theorem perigeelaw9_awake.calls (k : Nat)  (r : Bool) (w : World) (h : perigeelaw9_awake.f k  = some r) :
 Calls Try.prog 27 #[] w fun e w' => e = .returned (.bool r) ∧ Below w.heap.size w w' := by
 have hu72 := Try.underlying72
 have HB := Aside0.mk (Below.refl w.heap.size w)
 have H : ((power_Sunny.f k (([(⟨2, 5⟩ : S72)] : List (S72))) 0 4).bind fun bt104 => (if bt104.2 = 0 then (some (bt104.1 == 2)) else (some false))) = some r := h
 clear h
 obtain ⟨y101, hy101⟩ : ∃ y_ : List (S72), y_ = (([(⟨2, 5⟩ : S72)] : List (S72))) := ⟨_, rfl⟩
 replace H : ((power_Sunny.f k y101 0 4).bind fun bt104 => (if bt104.2 = 0 then (some (bt104.1 == 2)) else (some false))) = some r := by first | (rw [hy101]; with_reducible exact H) | (have H2_ := (Option.bind_some _ _).symm.trans H; rw [hy101]; with_reducible exact H2_) | (have H2_ := (Option.bind_some _ _).symm.trans H; with_reducible exact H2_) | with_reducible exact H | (rw [hy101]; exact H) | exact H
 have Ny101 := Aside0.mk hy101
 clear hy101
 replace H := bindS H; obtain ⟨⟨t104, t105⟩, A1, H⟩ := H
 by_cases c2 : t105 = 0
 · rw [if_pos c2] at H
   have c2b0 : (t105 == 0) = true := beq_iff_eq.mpr c2
   have c2b1 : (t105 != 0) = false := bne_eq_false_iff_eq.mpr c2
   clear c2
   obtain rfl := Option.some.inj H
   go_enter Try.func27, Try.ntmps27
   go_wp2_with (first | ((with_reducible refine gate_dst (N := 5) rfl ?_); refine Kd.R_lit k72 _ 72 ?hg (N := 5) ?hd (xs := ([(⟨2, 5⟩ : S72)] : List (S72))) (inner := [.int .i64 2, .int .i64 5]) (ok := fun _ => True) (okp := fun _ => True) ?hr ?hp (fun _ hk => hk) trivial (Below.refl _ _) (Nat.le_refl _) (by simp) ?_; (case hd => rfl); (case hg => rfl); (case hr => first | (go_simp; done) | (go_simp; rfl)); (case hp => exact (Reps.c2 (show Kd.M k72 _ _ _ (⟨2, 5⟩ : S72) [.int .i64 2, .int .i64 5] from (k72_mkM _ _ _ (⟨2, 5⟩ : S72) )) (Reps.none _ _))); intro v102 w3 ho4 hb hg_ hnew_; clear hg_ hnew_; (first | rw [← Ny101.out] at ho4 | (simp only [Int.reduceToNat] at ho4; rw [← Ny101.out] at ho4)); have n0_ := Aside0.mk (Kd.R_lower ho4 (below_size d27a)); have n1_ := Aside0.mk (below_step d27a hb); clear HB; have HO103 := n0_; have HB := n1_; clear n0_ n1_; clear hb ho4; obtain ⟨Ao5, co5, eo5⟩ := Kd.R_slice HO103.out; subst eo5) | ((with_reducible refine gate_callee (f := 23) rfl ?_); refine goesL_ (some 6) rfl rfl Try.func23 (by kernel_rfl) rfl #[.slice Ao5 y101.length co5, .int .i64 0, .int .i64 4] rfl (by (try simp only [List.map_toArray, List.map_cons, List.map_nil]); first | done | rfl | (simp only [List.length_drop, List.length_take]; rfl)) ?_; (with_reducible refine (power_Sunny.calls k _ _ y101 0 4 t104 t105 _ ?side1 ?side2 A1.out).mono ?_); (case side1 => exact C_go (Kd.R_reads' HO103.out).2.2); (case side2 => exact (Kd.R_reads' HO103.out).2.1); rintro e w6 ⟨rfl, hb⟩; refine ⟨_, rfl, ?_⟩; have n0_ := Aside0.mk (Kd.R_below (by (with_reducible repeat (first | apply Kd.R_alloc | apply Kd.R_drewN | apply Kd.R_drew)); exact HO103.out) hb); have n1_ := Aside0.mk (below_step d27a hb); clear HO103; clear HB; have HO103 := n0_; have HB := n1_; clear n0_ n1_; (try clear hb)))
   go_ret
   exact ⟨by first | rfl | (simp [errW_none, errW_some] <;> rfl) | (simp [*, errW_none, errW_some] <;> rfl), d27a⟩
 · rw [if_neg c2] at H
   have c2b0 : (t105 == 0) = false := beq_eq_false_iff_ne.mpr c2
   have c2b1 : (t105 != 0) = true := bne_iff_ne.mpr c2
   obtain rfl := Option.some.inj H
   go_enter Try.func27, Try.ntmps27
   go_wp2_with (first | ((with_reducible refine gate_dst (N := 5) rfl ?_); refine Kd.R_lit k72 _ 72 ?hg (N := 5) ?hd (xs := ([(⟨2, 5⟩ : S72)] : List (S72))) (inner := [.int .i64 2, .int .i64 5]) (ok := fun _ => True) (okp := fun _ => True) ?hr ?hp (fun _ hk => hk) trivial (Below.refl _ _) (Nat.le_refl _) (by simp) ?_; (case hd => rfl); (case hg => rfl); (case hr => first | (go_simp; done) | (go_simp; rfl)); (case hp => exact (Reps.c2 (show Kd.M k72 _ _ _ (⟨2, 5⟩ : S72) [.int .i64 2, .int .i64 5] from (k72_mkM _ _ _ (⟨2, 5⟩ : S72) )) (Reps.none _ _))); intro v102 w7 ho8 hb hg_ hnew_; clear hg_ hnew_; (first | rw [← Ny101.out] at ho8 | (simp only [Int.reduceToNat] at ho8; rw [← Ny101.out] at ho8)); have n0_ := Aside0.mk (Kd.R_lower ho8 (below_size d27a)); have n1_ := Aside0.mk (below_step d27a hb); clear HB; have HO103 := n0_; have HB := n1_; clear n0_ n1_; clear hb ho8; obtain ⟨Ao9, co9, eo9⟩ := Kd.R_slice HO103.out; subst eo9) | ((with_reducible refine gate_callee (f := 23) rfl ?_); refine goesL_ (some 6) rfl rfl Try.func23 (by kernel_rfl) rfl #[.slice Ao9 y101.length co9, .int .i64 0, .int .i64 4] rfl (by (try simp only [List.map_toArray, List.map_cons, List.map_nil]); first | done | rfl | (simp only [List.length_drop, List.length_take]; rfl)) ?_; (with_reducible refine (power_Sunny.calls k _ _ y101 0 4 t104 t105 _ ?side1 ?side2 A1.out).mono ?_); (case side1 => exact C_go (Kd.R_reads' HO103.out).2.2); (case side2 => exact (Kd.R_reads' HO103.out).2.1); rintro e w10 ⟨rfl, hb⟩; refine ⟨_, rfl, ?_⟩; have n0_ := Aside0.mk (Kd.R_below (by (with_reducible repeat (first | apply Kd.R_alloc | apply Kd.R_drewN | apply Kd.R_drew)); exact HO103.out) hb); have n1_ := Aside0.mk (below_step d27a hb); clear HO103; clear HB; have HO103 := n0_; have HB := n1_; clear n0_ n1_; (try clear hb)))
   go_ret
   exact ⟨by first | rfl | (simp [errW_none, errW_some] <;> rfl) | (simp [*, errW_none, errW_some] <;> rfl), d27a⟩
def power_check.f (k : Nat) (a0_0 : Int) (a0_1 : Int) (a0_2 : Int) (a0_3 : Int) (a0_4 : Int) (l1 : List (S72)) (l2 : List (S76)) (l3 : List (S47)) (a4 : Int) : Option (Int) := (power_CheckCell.f a0_0 a0_1 a0_2 a0_3 a0_4).bind fun t102 => ((power_CheckSun.f k l1).bind fun t103 => ((power_CheckUses.f k l2 l3).bind fun t104 => ((kit_Range.f a4 0 1000000000000).bind fun t105 => ((kit_First.f k (([t102, t103, t104, t105] : List Int))).bind fun t109 => (some t109)))))
theorem d66a {p : Prop} (h : p := by repeat (first | (with_reducible first | exact HB.out | apply below_alloc | apply pw_below_drewN | apply below_drew1 | refine below_set ?_ GE101.out) | exact HB.out)) : p := h
theorem d66b {p : Prop} (h : p := by (try simp only [List.map_toArray, List.map_cons, List.map_nil]); first | done | rfl | (simp only [List.length_drop, List.length_take]; rfl)) : p := h
theorem d66c {p : Prop} (h : p := by repeat (first | (with_reducible first | exact HB.out | apply below_alloc | apply pw_below_drewN | apply below_drew1) | exact HB.out)) : p := h
theorem d66d {p : Prop} (h : p := by (with_reducible repeat (first | refine blk_drewN ?_ _ | refine blk_drew ?_ | refine blk_alloc ?_ _)); exact BK101.out) : p := h
set_option maxHeartbeats 8000000 in
set_option maxRecDepth 100000 in
theorem power_check.calls (k : Nat) (a0_0 : Int) (a0_1 : Int) (a0_2 : Int) (a0_3 : Int) (a0_4 : Int) (A1 : Option Addr) (c1 : Nat) (l1 : List (S72)) (A2 : Option Addr) (c2 : Nat) (l2 : List (S76)) (A3 : Option Addr) (c3 : Nat) (l3 : List (S47)) (a4 : Int) (r : Int) (w : World) (hr1 : Kd.C k72 w A1 l1.length l1) (hc1 : l1.length ≤ c1) (hr2 : Kd.C k76 w A2 l2.length l2) (hc2 : l2.length ≤ c2) (hr3 : Kd.C k47 w A3 l3.length l3) (hc3 : l3.length ≤ c3) (h : power_check.f k a0_0 a0_1 a0_2 a0_3 a0_4 l1 l2 l3 a4 = some r) :
 Calls Try.prog 66 #[.agg #[.int .i64 a0_0, .int .i64 a0_1, .int .i64 a0_2, .int .i64 a0_3, .int .i64 a0_4], .slice A1 l1.length c1, .slice A2 l2.length c2, .slice A3 l3.length c3, .int .i64 a4] w fun e w' => e = .returned (.int .i64 r) ∧ Below w.heap.size w w' := by
 have hu23 := Try.underlying23
 have HR1 := Aside0.mk hr1
 have HC1 := Aside0.mk hc1
 clear hr1 hc1
 have HR2 := Aside0.mk hr2
 have HC2 := Aside0.mk hc2
 clear hr2 hc2
 have HR3 := Aside0.mk hr3
 have HC3 := Aside0.mk hc3
 clear hr3 hc3
 have HB := Aside0.mk (Below.refl w.heap.size w)
 have H : ((power_CheckCell.f a0_0 a0_1 a0_2 a0_3 a0_4).bind fun t102 => ((power_CheckSun.f k l1).bind fun t103 => ((power_CheckUses.f k l2 l3).bind fun t104 => ((kit_Range.f a4 0 1000000000000).bind fun t105 => ((kit_First.f k (([t102, t103, t104, t105] : List Int))).bind fun t109 => (some t109)))))) = some r := h
 clear h
 replace H := bindS H; obtain ⟨t102, A6, H⟩ := H
 replace H := bindS H; obtain ⟨t103, A7, H⟩ := H
 replace H := bindS H; obtain ⟨t104, A8, H⟩ := H
 replace H := bindS H; obtain ⟨t105, A9, H⟩ := H
 obtain ⟨y106, hy106⟩ : ∃ y_ : List Int, y_ = (([t102, t103, t104, t105] : List Int)) := ⟨_, rfl⟩
 replace H : ((kit_First.f k y106).bind fun t109 => (some t109)) = some r := by first | (rw [hy106]; with_reducible exact H) | (have H2_ := (Option.bind_some _ _).symm.trans H; rw [hy106]; with_reducible exact H2_) | (have H2_ := (Option.bind_some _ _).symm.trans H; with_reducible exact H2_) | with_reducible exact H | (rw [hy106]; exact H) | exact H
 have Ny106 := Aside0.mk hy106
 clear hy106
 replace H := bindS H; obtain ⟨t109, A10, H⟩ := H
 obtain rfl := Option.some.inj H
 go_enter Try.func66, Try.ntmps66
 go_wp2_with (first | ((with_reducible refine gate_dst (N := 5) rfl ?_); refine box_event ?hg (N := 5) ?hd (cs := #[.int .i64 a0_0, .int .i64 a0_1, .int .i64 a0_2, .int .i64 a0_3, .int .i64 a0_4]) (t := 23) ?hr ?_; (case hd => rfl); (case hg => rfl); (case hr => first | (go_simp; done) | (go_simp; rfl)); intro gb101 hg w11 hbox hb; have n0_ := Aside0.mk (below_step d66c hb); have n1_ := Aside0.mk (hbox); have n2_ := Aside0.mk ((by rw [hg]; exact (below_size d66c) : w.heap.size ≤ gb101)); have n3_ := Aside0.mk ((by rw [hg]; exact (below_size d66c) : w.heap.size ≤ gb101)); clear HB; have HB := n0_; have BK101 := n1_; have GW101 := n2_; have GE101 := n3_; clear n0_ n1_ n2_ n3_; clear hb hbox hg; have hcz12_0 : w11.cell? ⟨gb101, 0, none⟩ = some (.int .i64 a0_0) := (blk_cell BK101.out 0).trans rfl; have hcz12_1 : w11.cell? ⟨gb101, 1, none⟩ = some (.int .i64 a0_1) := (blk_cell BK101.out 1).trans rfl; have hcz12_2 : w11.cell? ⟨gb101, 2, none⟩ = some (.int .i64 a0_2) := (blk_cell BK101.out 2).trans rfl; have hcz12_3 : w11.cell? ⟨gb101, 3, none⟩ = some (.int .i64 a0_3) := (blk_cell BK101.out 3).trans rfl; have hcz12_4 : w11.cell? ⟨gb101, 4, none⟩ = some (.int .i64 a0_4) := (blk_cell BK101.out 4).trans rfl; have hfz12_0 := blk_frozen BK101.out 0; have hfz12_1 := blk_frozen BK101.out 1; have hfz12_2 := blk_frozen BK101.out 2; have hfz12_3 := blk_frozen BK101.out 3; have hfz12_4 := blk_frozen BK101.out 4) | ((with_reducible refine gate_callee (f := 19) rfl ?_); refine goesL_ (some 12) rfl rfl Try.func19 (by kernel_rfl) rfl #[.agg #[.int .i64 a0_0, .int .i64 a0_1, .int .i64 a0_2, .int .i64 a0_3, .int .i64 a0_4]] rfl d66b ?_; (with_reducible refine (power_CheckCell.calls a0_0 a0_1 a0_2 a0_3 a0_4 t102 _ A6.out).mono ?_); rintro e w13 ⟨rfl, hb⟩; refine ⟨_, rfl, ?_⟩; have n0_ := Aside0.mk (blk_below (g := gb101) (o := .cells #[.int .i64 a0_0, .int .i64 a0_1, .int .i64 a0_2, .int .i64 a0_3, .int .i64 a0_4] 23 (0, 0)) d66d hb); have n1_ := Aside0.mk (below_step d66a hb); clear BK101; clear HB; have BK101 := n0_; have HB := n1_; clear n0_ n1_; (try clear hb)) | ((with_reducible refine gate_callee (f := 15) rfl ?_); refine goesL_ (some 14) rfl rfl Try.func15 (by kernel_rfl) rfl #[.slice A1 l1.length c1] rfl d66b ?_; (with_reducible refine (power_CheckSun.calls k _ _ l1 t103 _ ?side1 ?side2 A7.out).mono ?_); (case side1 => exact C_go (Kd.C_below HR1.out HB.out)); (case side2 => exact HC1.out); rintro e w14 ⟨rfl, hb⟩; refine ⟨_, rfl, ?_⟩; have n0_ := Aside0.mk (blk_below (g := gb101) (o := .cells #[.int .i64 a0_0, .int .i64 a0_1, .int .i64 a0_2, .int .i64 a0_3, .int .i64 a0_4] 23 (0, 0)) d66d hb); have n1_ := Aside0.mk (below_step d66a hb); clear BK101; clear HB; have BK101 := n0_; have HB := n1_; clear n0_ n1_; (try clear hb)) | ((with_reducible refine gate_callee (f := 21) rfl ?_); refine goesL_ (some 17) rfl rfl Try.func21 (by kernel_rfl) rfl #[.slice A2 l2.length c2, .slice A3 l3.length c3] rfl d66b ?_; (with_reducible refine (power_CheckUses.calls k _ _ l2 _ _ l3 t104 _ ?side1 ?side2 ?side3 ?side4 A8.out).mono ?_); (case side1 => exact C_go (Kd.C_below HR2.out HB.out)); (case side2 => exact HC2.out); (case side3 => exact C_go (Kd.C_below HR3.out HB.out)); (case side4 => exact HC3.out); rintro e w15 ⟨rfl, hb⟩; refine ⟨_, rfl, ?_⟩; have n0_ := Aside0.mk (blk_below (g := gb101) (o := .cells #[.int .i64 a0_0, .int .i64 a0_1, .int .i64 a0_2, .int .i64 a0_3, .int .i64 a0_4] 23 (0, 0)) d66d hb); have n1_ := Aside0.mk (below_step d66a hb); clear BK101; clear HB; have BK101 := n0_; have HB := n1_; clear n0_ n1_; (try clear hb)) | ((with_reducible refine gate_callee (f := 63) rfl ?_); refine goesL_ (some 19) rfl rfl Try.func63 (by kernel_rfl) rfl #[.int .i64 a4, .int .i64 0, .int .i64 1000000000000] rfl d66b ?_; (with_reducible refine (kit_Range.calls a4 0 1000000000000 t105 _ A9.out).mono ?_); rintro e w' ⟨rfl, ⟨nd, rfl⟩⟩; refine ⟨_, rfl, ?_⟩) | ((with_reducible refine gate_dst (N := 20) rfl ?_); refine Kd.R_lit (Kd.int .i64) _ 27 ?hg (N := 20) ?hd (xs := ([t102, t103, t104, t105] : List Int)) (inner := [.int .i64 t102, .int .i64 t103, .int .i64 t104, .int .i64 t105]) (ok := fun _ => True) (okp := fun _ => True) ?hr ?hp (fun _ hk => hk) trivial (Below.refl _ _) (Nat.le_refl _) (by simp) ?_; (case hd => rfl); (case hg => rfl); (case hr => first | (go_simp; done) | (go_simp; rfl)); (case hp => exact (Reps.one (show Kd.M (Kd.int .i64) _ _ _ t102 [.int .i64 t102] from rfl) (Reps.one (show Kd.M (Kd.int .i64) _ _ _ t103 [.int .i64 t103] from rfl) (Reps.one (show Kd.M (Kd.int .i64) _ _ _ t104 [.int .i64 t104] from rfl) (Reps.one (show Kd.M (Kd.int .i64) _ _ _ t105 [.int .i64 t105] from rfl) (Reps.none _ _)))))); intro v107 w16 ho17 hb hg_ hnew_; clear hg_ hnew_; (first | rw [← Ny106.out] at ho17 | (simp only [Int.reduceToNat] at ho17; rw [← Ny106.out] at ho17)); have n0_ := Aside0.mk (Kd.R_lower ho17 (below_size d66a)); have n1_ := Aside0.mk (blk_below (g := gb101) (o := .cells #[.int .i64 a0_0, .int .i64 a0_1, .int .i64 a0_2, .int .i64 a0_3, .int .i64 a0_4] 23 (0, 0)) d66d hb); have n2_ := Aside0.mk (below_step d66a hb); clear BK101; clear HB; have HO108 := n0_; have BK101 := n1_; have HB := n2_; clear n0_ n1_ n2_; clear hb ho17; obtain ⟨Ao18, co18, eo18⟩ := Kd.R_slice HO108.out; subst eo18) | ((with_reducible refine gate_callee (f := 62) rfl ?_); refine goesL_ (some 21) rfl rfl Try.func62 (by kernel_rfl) rfl #[.slice Ao18 y106.length co18] rfl d66b ?_; (with_reducible refine (kit_First.calls k _ _ y106 t109 _ ?side1 ?side2 A10.out).mono ?_); (case side1 => exact C_go (Kd.R_reads' HO108.out).2.2); (case side2 => exact (Kd.R_reads' HO108.out).2.1); rintro e w' ⟨rfl, ⟨nd, rfl⟩⟩; refine ⟨_, rfl, ?_⟩))
 go_ret
 exact ⟨by first | rfl | (simp [errW_none, errW_some] <;> rfl) | (simp [*, errW_none, errW_some] <;> rfl), d66a⟩
def slices_Sort_int_int.f (l0 : List Int) : Option (List Int) := if l0.length < 4611686018427387904 then some (l0.mergeSort fun x y => decide (x ≤ y)) else none
open Go.Sort in
theorem slices_Sort_int_int.calls (P0_ : Nat → Prop) (u9000_ : Value) (l0 : List Int) (r : List Int) (w0 w : World) (hB : Below w0.heap.size w0 w) (ho0 : Kd.R (Kd.int .i64) 3 w w0.heap.size P0_ u9000_ l0) (h : slices_Sort_int_int.f l0 = some r) :
 Calls Try.prog 89 #[u9000_] w fun e w' => e = .returned (.tuple #[]) ∧ Kd.R (Kd.int .i64) 3 w' w0.heap.size (fun k_ => (P0_ k_ ∨ w.heap.size ≤ k_)) u9000_ r ∧ Below w0.heap.size w0 w' ∧ Kept w w' (fun k_ => P0_ k_) := by
 unfold slices_Sort_int_int.f at h
 split at h
 · rename_i hl
   obtain rfl := Option.some.inj h
   have ho := Kd.own_of_R ho0
   rcases ho.2 with ⟨hv, hn⟩ | ⟨g, cap, cur, hv, hbase, hb, h1, h2, h3, h4⟩
   · subst hv
     obtain rfl : l0 = [] := List.eq_nil_of_length_eq_zero hn
     refine (Try.slices_Sort_int_none none 0 w).mono ?_
     rintro e w' ⟨rfl, rfl⟩
     exact ⟨rfl, by rw [List.mergeSort_nil]; exact Kd.R_nil _ _ _ _ _, hB, Kept.refl _ _⟩
   · subst hv
     have hp : P0_ g := ho0.1 g rfl
     have hperm := List.mergeSort_perm l0 (fun x y => decide (x ≤ y))
     refine (Try.slices_Sort_int g 0 cap l0 w (holds_of_blockI hb (by rw [Nat.mul_one] at h4; exact h4)) (blk_lt hb) hl).mono ?_
     rintro e w' ⟨rfl, n, os, rfl⟩
     have hg := grownBy_sortedI (w := w) (g := g) (n := n) (os := os) (l0.mergeSort fun x y => decide (x ≤ y)).toArray
     have hown := ownsRow_sortedI (n := n) (os := os) hperm.length_eq hbase hb h1 h2 h3
     refine ⟨rfl, Kd.R_of_own (by rw [hperm.length_eq]; exact hown) (fun k hk => .inl ((show g = k from by simpa [Value.ownBlock] using hk) ▸ hp)), pw_below_grown hB _ hB.size hg (fun j hj => by cases hj; exact hbase), ⟨hg.size, fun i hi hn => hg.block i hi (fun e => hn ((show g = i from by simpa using e.symm) ▸ hp))⟩⟩
 · cases h
/-- What is told of moments and what is added at them. -/
def Tally (D : DataW Unit) (A : List (Int × Int)) : Prop := Maps.IsMap D ∧ (∀ t, D.atKey (.int .i64 t) (.lit (.int .i64 0)) = .lit (.int .i64 (delta t A))) ∧ ∀ t, Maps.has D (.int .i64 t) = decide (∃ e ∈ A, e.1 = t)
theorem Tally.empty : Tally (.map []) [] := ⟨Maps.isMap_empty, fun _ => rfl, fun _ => rfl⟩
theorem Tally.put {D : DataW Unit} {A : List (Int × Int)} (h : Tally D A) (t n : Int) : Tally (D.put (.int .i64 t) (.lit (.int .i64 (delta t A + n)))) (A ++ [(t, n)]) := by
  obtain ⟨h1, h2, h3⟩ := h
  refine ⟨h1.put _ _, fun s => ?_, fun s => ?_⟩
  · rw [delta_append]
    by_cases e : s = t
    · subst e
      rw [Maps.atKey_put_same h1 (show WideAt.IsKeyLit (.int .i64 s) from trivial)]
      simp [delta]
    · rw [Maps.atKey_put_other (fun q => e (by injection q)), h2 s]
      simp [delta, Ne.symm e]
  · by_cases e : s = t
    · subst e
      rw [Maps.has_put_same h1 (show WideAt.IsKeyLit (.int .i64 s) from trivial)]
      simp
    · rw [Maps.has_put_other (fun q => e (by injection q)), h3 s]
      simp [Ne.symm e]
/-- Numbers that are small. -/
def Small40 (A : List (Int × Int)) : Prop := ∀ e ∈ A, (-4611686018427387904 ≤ e.1 ∧ e.1 ≤ 4611686018427387904) ∧ (-68719476736 ≤ e.2 ∧ e.2 ≤ 68719476736)
theorem delta_bd (t : Int) : ∀ {A : List (Int × Int)}, Small40 A → -((A.length : Int) * 68719476736) ≤ delta t A ∧ delta t A ≤ (A.length : Int) * 68719476736
  | [], _ => by simp [delta]
  | e :: A, h => by
    have ih := delta_bd t (A := A) (fun x hx => h x (List.mem_cons_of_mem _ hx))
    have he := (h e List.mem_cons_self).2
    simp only [delta, List.length_cons]
    split <;> omega
theorem lawInt : Maps.Keyed Try.prog 3 := Maps.int_keyed Try.underlying3
theorem zeroInt (w : World) : (zeroValue 3).run Try.prog w = .ok (.int .i64 0) w := by kernel_rfl
/-- 'm[k] = v' in a literal. -/
theorem wpList_insert_own {H : Type} {P : Program} (w : World) {ops : Array Oper} {rest : List Oper} {o : Oper} {a : Act} {Q : Exit → Act → World → Prop}
    (hg : o.guard = none) (m x v : Operand) (t : TypeId) (hop : o.op = Op.insert t m x v)
    (k e : TypeId) (K : Maps.Keyed P k) (ht : P.underlying t = some (.map k e)) (R : Value → Option (DataW H × List MemPlace)) (b n : Nat) (D : DataW H)
    (hm : a.eval m = .map (some b)) (hown : w.ownsMap P k R b n D) (hn : n < maxLen) (key val : Value) (kl : Lit) (hx : a.eval x = key) (hv : a.eval v = val) (hkey : keyOf P k key = some kl)
    (d : DataW H) (ps : List MemPlace) (hval : R val = some (d, ps))
    (hK : ∀ w', w'.ownsMap P k R b (n + 1) (D.put kl d) → w.grownBy w' (some b) → wpList P ops Q rest (a.put o.dst undef) w') :
    wpList P ops Q (o :: rest) a w := by
  refine wpList_plain hg fun K' hK' => ?_
  obtain ⟨w', hrun, r1, r2⟩ := hown.update K ht hn hkey hval
  unfold Oper.wp
  simp [execOp, hop, hm, hx, hv, hrun, Result.andThen]
  exact hK' _ _ (hK w' r1 r2)
theorem flow_w1 {A : List (Int × Int)} {f t n : Int} (hS : Small40 (A ++ [(f, n), (t, -n)])) (hl : A.length ≤ 4000000) : wrap64 (delta f A + n) = delta f A + n := by
  have h1 := delta_bd f (A := A) (fun x hx => hS x (List.mem_append_left _ hx))
  have h2 := (hS (f, n) (by simp)).2
  unfold wrap64
  omega
theorem flow_w2 {A : List (Int × Int)} {f t n : Int} (hS : Small40 (A ++ [(f, n), (t, -n)])) (hl : A.length ≤ 4000000) : wrap64 (delta t (A ++ [(f, n)]) - n) = delta t (A ++ [(f, n)]) + -n := by
  have h1 := delta_bd t (A := A ++ [(f, n)]) (fun x hx => by
    rcases List.mem_append.1 hx with q | q
    · exact hS x (List.mem_append_left _ q)
    · exact hS x (by simp only [List.mem_singleton] at q; subst q; simp))
  have h2 := (hS (f, n) (by simp)).2
  rw [List.length_append] at h1
  simp only [List.length_cons, List.length_nil] at h1
  unfold wrap64
  omega
set_option maxHeartbeats 4000000 in
set_option maxRecDepth 100000 in
/-- The closure: what it adds. -/
theorem flow_add (gc g n0 : Nat) (D : DataW Unit) (A : List (Int × Int)) (f t n : Int) (w : World) (hgc : w.heap[gc]? = some (.cells #[.map (some g)] 112 (0, 0))) (ho : w.ownsMap Try.prog 3 (plainElem Try.prog 3) g n0 D)
    (hT : Tally D A) (hS : Small40 (A ++ [(f, n), (t, -n)])) (hl : A.length ≤ 4000000) (hn0 : n0 ≤ 8000000) :
    Calls Try.prog 88 #[.int .i64 f, .int .i64 t, .int .i64 n, .pointer (some ⟨gc, 0, none⟩)] w fun e w' => e = .returned (.tuple #[]) ∧ ∃ D', w'.ownsMap Try.prog 3 (plainElem Try.prog 3) g (n0 + 2) D' ∧ Tally D' (A ++ [(f, n), (t, -n)]) ∧ w.grownBy w' (some g) := by
  have hT0 := Aside0.mk hT
  have hS0 := Aside0.mk hS
  have hO0 := Aside0.mk ho
  have hc0 := cell_of_one hgc
  have hG0 := Aside0.mk hgc
  have hwf : (Lit.int .i64 f).wf = true := WalkArith.wf_i64 (by have := hS (f, n) (by simp); omega)
  have hwt : (Lit.int .i64 t).wf = true := WalkArith.wf_i64 (by have := hS (t, -n) (by simp); omega)
  have hf1 := Aside0.mk hwf
  have ht1 := Aside0.mk hwt
  have hne := Aside0.mk (show gc ≠ g from fun e => by
    obtain ⟨es, clock, hb, _⟩ := ho
    rw [e, hb] at hgc
    cases hgc)
  have hl1 := Aside0.mk (And.intro hl hn0)
  clear hT hS ho hgc hwf hwt hl hn0
  go_enter Try.func88, Try.ntmps88
  go_wp2_with (first
    | (at_lookup; refine wpList_lookup_own_int _ rfl _ _ 112 rfl 3 3 .i64 lawInt Try.underlying112 Try.underlying3 (zeroInt _) g n0 D rfl hO0.out _ _ rfl (Maps.keyOf_int_mk Try.underlying3 hf1.out) ?_; intro c1 hat1 hwc1; obtain rfl : c1 = delta f A := (by have q := hT0.out.2.1 f; rw [hat1] at q; injection q with q; injection q); clear hat1 hwc1)
    | (at_mapUpdate; refine wpList_mapUpdate_own _ rfl _ _ _ 112 rfl 3 3 lawInt Try.underlying112 _ g n0 D rfl hO0.out (by have := hl1.out; unfold maxLen; omega) _ _ _ rfl rfl (Maps.keyOf_int_mk Try.underlying3 hf1.out) _ [] (plainElem_int Try.underlying3 (wrap64_wf _)) ?_; intro w1 hown1 hgrow1; rw [flow_w1 hS0.out hl1.out.1] at hown1; have hT1 := Aside0.mk (hT0.out.put f n); have hO1 := Aside0.mk hown1; have hG1 := Aside0.mk ((hgrow1.block gc (lt_of_block hG0.out) (fun e => hne.out (by injection e))).trans hG0.out); have hc1 := cell_of_one hG1.out; have hg1 := Aside0.mk hgrow1; clear hown1 hgrow1 hc0)
    | (at_lookup; refine wpList_lookup_own_int _ rfl _ _ 112 rfl 3 3 .i64 lawInt Try.underlying112 Try.underlying3 (zeroInt _) g _ _ rfl hO1.out _ _ rfl (Maps.keyOf_int_mk Try.underlying3 ht1.out) ?_; intro c2 hat2 hwc2; obtain rfl : c2 = delta t (A ++ [(f, n)]) := (by have q := hT1.out.2.1 t; rw [hat2] at q; injection q with q; injection q); clear hat2 hwc2)
    | (at_mapUpdate; refine wpList_mapUpdate_own _ rfl _ _ _ 112 rfl 3 3 lawInt Try.underlying112 _ g _ _ rfl hO1.out (by have := hl1.out; unfold maxLen; omega) _ _ _ rfl rfl (Maps.keyOf_int_mk Try.underlying3 ht1.out) _ [] (plainElem_int Try.underlying3 (wrap64_wf _)) ?_; intro w2 hown2 hgrow2; rw [flow_w2 hS0.out hl1.out.1] at hown2; have hT2 := Aside0.mk (hT1.out.put t (-n)); have hO2 := Aside0.mk hown2; have hg2 := Aside0.mk hgrow2; clear hown2 hgrow2))
  go_end0
  refine ⟨rfl, _, hO2.out, ?_, hg1.out.trans hg2.out⟩
  have := hT2.out
  rwa [List.append_assoc] at this
/-- What the sun and the uses add: (from, to, number) each. -/
def sunEvs (sun : Int) (s : List S72) : List (Int × Int × Int) := s.map fun x => (x.f0, x.f1, sun)
def useEvs (k : Nat) (l : List S76) : List S47 → Option (List (Int × Int × Int))
  | [] => some []
  | x :: u => (power_load.f k l x.f0).bind fun y => (useEvs k l u).bind fun es => some ((x.f1, x.f2, -y.2.1) :: es)
/-- Moments, in order, each once. -/
def insUp (t : Int) : List Int → List Int
  | [] => [t]
  | a :: l => if t < a then t :: a :: l else if t = a then a :: l else a :: insUp t l
def keysV : List (Int × Int) → List Int
  | [] => []
  | e :: A => insUp e.1 (keysV A)
theorem mem_insUp (t x : Int) : ∀ l : List Int, x ∈ insUp t l ↔ x = t ∨ x ∈ l
  | [] => by simp [insUp]
  | a :: l => by
    unfold insUp
    split
    · simp
    · split
      · rename_i h; subst h; simp
      · simp only [List.mem_cons, mem_insUp t x l]
        constructor
        · rintro (h | h | h)
          · exact .inr (.inl h)
          · exact .inl h
          · exact .inr (.inr h)
        · rintro (h | h | h)
          · exact .inr (.inl h)
          · exact .inl h
          · exact .inr (.inr h)
theorem up_insUp (t : Int) : ∀ l : List Int, Up l → Up (insUp t l)
  | [], _ => List.pairwise_cons.2 ⟨fun _ h => absurd h (List.not_mem_nil), List.Pairwise.nil⟩
  | a :: l, h => by
    have h1 := (List.pairwise_cons.1 h).1
    unfold insUp
    split
    · refine List.pairwise_cons.2 ⟨fun x hx => ?_, h⟩
      rcases List.mem_cons.1 hx with q | q
      · omega
      · have := h1 x q; omega
    · split
      · exact h
      · refine List.pairwise_cons.2 ⟨fun x hx => ?_, up_insUp t l (List.pairwise_cons.1 h).2⟩
        rcases (mem_insUp t x l).1 hx with q | q
        · omega
        · exact h1 x q
theorem keysV_up : ∀ A : List (Int × Int), Up (keysV A)
  | [] => List.Pairwise.nil
  | e :: A => up_insUp e.1 _ (keysV_up A)
theorem mem_keysV (x : Int) : ∀ A : List (Int × Int), x ∈ keysV A ↔ ∃ e ∈ A, e.1 = x
  | [] => by simp [keysV]
  | e :: A => by
    unfold keysV
    rw [mem_insUp, mem_keysV x A]
    constructor
    · rintro (h | ⟨y, hy, h⟩)
      · exact ⟨e, List.mem_cons_self, h.symm⟩
      · exact ⟨y, List.mem_cons_of_mem _ hy, h⟩
    · rintro ⟨y, hy, h⟩
      rcases List.mem_cons.1 hy with q | q
      · subst q; exact .inl h.symm
      · exact .inr ⟨y, q, h⟩
def addsV (base : Int) (E : List (Int × Int × Int)) : List (Int × Int) := (0, -base) :: addsOf E
instance (A : List (Int × Int)) : Decidable (Small40 A) := by unfold Small40; exact inferInstance
def pieceOf (p : Int × Int × Int) : S89 := ⟨p.1, p.2.1, p.2.2⟩
def power_flow.f (k : Nat) (a0_0 : Int) (a0_1 : Int) (a0_2 : Int) (a0_3 : Int) (a0_4 : Int) (l1 : List (S72)) (l2 : List (S76)) (l3 : List (S47)) (a4 : Int) : Option (List (S89)) :=
  (useEvs k l2 l3).bind fun es => if l1.length ≤ 1000 ∧ l3.length ≤ 1000 ∧ Small40 (addsV a0_3 (sunEvs a0_2 l1 ++ es)) then some ((flowGo (addsV a0_3 (sunEvs a0_2 l1 ++ es)) a4 (keysV (addsV a0_3 (sunEvs a0_2 l1 ++ es))) 0 []).map pieceOf) else none
theorem useEvs_at {k : Nat} {l : List S76} : ∀ {u : List S47} {es : List (Int × Int × Int)}, useEvs k l u = some es → es.length = u.length ∧ ∀ i : Nat, i < u.length → ∃ y, power_load.f k l (rd_T47 u i).f0 = some y ∧ es[i]? = some ((rd_T47 u i).f1, (rd_T47 u i).f2, -y.2.1)
  | [], es, h => by
    obtain rfl := Option.some.inj h
    exact ⟨rfl, fun i hi => absurd hi (Nat.not_lt_zero i)⟩
  | x :: u, es, h => by
    unfold useEvs at h
    obtain ⟨y, hy, h⟩ := Option.bind_eq_some_iff.1 h
    obtain ⟨es', he, h⟩ := Option.bind_eq_some_iff.1 h
    obtain rfl := Option.some.inj h
    obtain ⟨hl, ih⟩ := useEvs_at he
    refine ⟨by simp [hl], fun i hi => ?_⟩
    cases i with
    | zero => exact ⟨y, hy, rfl⟩
    | succ i =>
      obtain ⟨z, hz, hz2⟩ := ih i (by simpa using hi)
      have e : rd_T47 (x :: u) ((i + 1 : Nat) : Int) = rd_T47 u (i : Int) := rfl
      rw [e]
      exact ⟨z, hz, by simpa using hz2⟩
/-- Where flow stands: the battery's own block, the map, the variable that holds it; what has been added. -/
def FlowAt (w : World) (gc : Nat) (a0 a1 a2 a3 a4 : Int) (A : List (Int × Int)) (wr : World) : Prop :=
  wr.heap[w.heap.size]? = some (.cells #[.int .i64 a0, .int .i64 a1, .int .i64 a2, .int .i64 a3, .int .i64 a4] 23 (0, 0)) ∧ wr.heap[gc]? = some (.cells #[.map (some (w.heap.size + 1))] 112 (0, 0)) ∧
  (∃ D, wr.ownsMap Try.prog 3 (plainElem Try.prog 3) (w.heap.size + 1) A.length D ∧ Tally D A) ∧ Below w.heap.size w wr ∧ w.heap.size + 2 ≤ gc
theorem FlowAt.below {w wr w2 : World} {gc : Nat} {a0 a1 a2 a3 a4 : Int} {A : List (Int × Int)} (h : FlowAt w gc a0 a1 a2 a3 a4 A wr) (hb : Below wr.heap.size wr w2) : FlowAt w gc a0 a1 a2 a3 a4 A w2 := by
  obtain ⟨h1, h2, ⟨D, h3, h4⟩, h5, h6⟩ := h
  exact ⟨(hb.block _ (blk_lt h1)).trans h1, (hb.block _ (blk_lt h2)).trans h2, ⟨D, h3.kept (grown_of_below hb none) (by simp), h4⟩, below_step h5 hb, h6⟩
theorem FlowAt.added {w wr w2 : World} {gc : Nat} {a0 a1 a2 a3 a4 : Int} {A B : List (Int × Int)} (h : FlowAt w gc a0 a1 a2 a3 a4 A wr) (hg : wr.grownBy w2 (some (w.heap.size + 1))) {D : DataW Unit} {n : Nat} (hn : n = B.length) (ho : w2.ownsMap Try.prog 3 (plainElem Try.prog 3) (w.heap.size + 1) n D) (hT : Tally D B) : FlowAt w gc a0 a1 a2 a3 a4 B w2 := by
  obtain ⟨h1, h2, _, h5, h6⟩ := h
  subst hn
  exact ⟨(hg.block _ (blk_lt h1) (fun e => by injection e with e; omega)).trans h1, (hg.block _ (blk_lt h2) (fun e => by injection e with e; omega)).trans h2, ⟨D, ho, hT⟩, pw_below_grown h5 _ h5.size hg (fun j hj => by cases hj; omega), h6⟩
theorem flow_start {w w1 : World} {a0 a1 a2 a3 a4 : Int} (hg : ((w.alloc (.cells #[.int .i64 a0, .int .i64 a1, .int .i64 a2, .int .i64 a3, .int .i64 a4] 23)).alloc (.map #[] 0)).grownBy w1 (some (w.heap.size + 1)))
    (ho : w1.ownsMap Try.prog 3 (plainElem Try.prog 3) (w.heap.size + 1) (0 + 1) ((DataW.map [] : DataW Unit).put (.int .i64 0) (.lit (.int .i64 (-a3))))) :
    FlowAt w w1.heap.size a0 a1 a2 a3 a4 (addsV a3 []) (w1.alloc (.cells #[.map (some (w.heap.size + 1))] 112)) := by
  have hs := hg.size
  simp at hs
  have h0 : ((w.alloc (.cells #[.int .i64 a0, .int .i64 a1, .int .i64 a2, .int .i64 a3, .int .i64 a4] 23)).alloc (.map #[] 0)).heap[w.heap.size]? = some (.cells #[.int .i64 a0, .int .i64 a1, .int .i64 a2, .int .i64 a3, .int .i64 a4] 23 (0, 0)) :=
    ((below_alloc (Below.refl (w.alloc (.cells #[.int .i64 a0, .int .i64 a1, .int .i64 a2, .int .i64 a3, .int .i64 a4] 23)).heap.size _) _).block w.heap.size (by simp)).trans (heap_alloc_new w _)
  have h1 := (hg.block _ (by simp; omega) (fun e => by injection e with e; omega)).trans h0
  have hT := Tally.empty.put 0 (-a3)
  rw [show delta 0 [] + -a3 = -a3 by simp [delta]] at hT
  exact ⟨((below_alloc (Below.refl _ _) _).block _ (blk_lt h1)).trans h1, heap_alloc_new w1 _, ⟨_, ho.alloc _, hT⟩, below_alloc (pw_below_grown (below_alloc (below_alloc (Below.refl _ _) _) _) _ (by simp; omega) hg (fun j hj => by cases hj; omega)) _, by omega⟩
theorem flow_step {E : List (Int × Int × Int)} {base : Int} {i : Nat} {e : Int × Int × Int} (h : E[i]? = some e) : addsV base (E.take (i + 1)) = addsV base (E.take i) ++ [(e.1, e.2.2), (e.2.1, -e.2.2)] := by
  unfold addsV
  rw [List.take_add_one, h, addsOf_append]
  rfl
theorem flow_part {E : List (Int × Int × Int)} {base : Int} (h : Small40 (addsV base E)) (i : Nat) : Small40 (addsV base (E.take i)) := by
  intro x hx
  unfold addsV at *
  rcases List.mem_cons.1 hx with q | q
  · exact h x (by rw [q]; exact List.mem_cons_self)
  · refine h x (List.mem_cons_of_mem _ ?_)
    have e : addsOf E = addsOf (E.take i) ++ addsOf (E.drop i) := by rw [← addsOf_append, List.take_append_drop]
    rw [e]
    exact List.mem_append_left _ q
theorem small_of {E : List (Int × Int × Int)} {base : Int} (h : Small40 (addsV base E)) {j : Nat} {f t n : Int} (he : E[j]? = some (f, t, n)) : -68719476736 ≤ n ∧ n ≤ 68719476736 := by
  have hst := flow_step (base := base) he
  have := flow_part h (j + 1)
  rw [hst] at this
  exact (this (f, n) (by simp)).2
theorem addsV_length (base : Int) (E : List (Int × Int × Int)) : (addsV base E).length = 1 + 2 * E.length := by
  unfold addsV
  have : ∀ E : List (Int × Int × Int), (addsOf E).length = 2 * E.length := by
    intro E
    induction E with
    | nil => rfl
    | cons e E ih => simp only [addsOf, List.length_cons, ih]; omega
  rw [List.length_cons, this]
  omega
theorem sunEvs_at {sun : Int} {s : List S72} {i : Nat} (hi : i < s.length) : (sunEvs sun s)[i]? = some ((rd_T72 s i).f0, (rd_T72 s i).f1, sun) := by
  unfold sunEvs rd_T72
  rw [List.getElem?_map, List.getD_eq_getElem?_getD, Int.toNat_natCast, List.getElem?_eq_getElem hi]
  rfl
theorem flow_call {w wr : World} {gc : Nat} {a0 a1 a2 a3 a4 : Int} {E : List (Int × Int × Int)} {i : Nat} {f t n : Int} (hF : FlowAt w gc a0 a1 a2 a3 a4 (addsV a3 (E.take i)) wr) (he : E[i]? = some (f, t, n)) (hS : Small40 (addsV a3 E)) (hl : E.length ≤ 2000) :
    Calls Try.prog 88 #[.int .i64 f, .int .i64 t, .int .i64 n, .pointer (some ⟨gc, 0, none⟩)] wr fun e w' => e = .returned (.tuple #[]) ∧ FlowAt w gc a0 a1 a2 a3 a4 (addsV a3 (E.take (i + 1))) w' ∧ wr.grownBy w' (some (w.heap.size + 1)) := by
  have hF0 := hF
  obtain ⟨h1, h2, ⟨D, h3, h4⟩, h5, h6⟩ := hF
  have hst := flow_step (base := a3) he
  have hlen := addsV_length a3 (E.take i)
  have hti : (E.take i).length ≤ E.length := by rw [List.length_take]; omega
  refine (flow_add gc _ _ D _ f t n wr h2 h3 h4 (by rw [← hst]; exact flow_part hS _) (by omega) (by omega)).mono ?_
  rintro e w' ⟨rfl, D', q1, q2, q3⟩
  rw [hst]
  exact ⟨rfl, hF0.added q3 (by rw [List.length_append]; rfl) q1 q2, q3⟩
/-- Keys that have been met. -/
def CollI (D0 : DataW Unit) (left : Lit → Bool) (ks : List Int) : Prop := ks.Nodup ∧ ∀ x : Int, x ∈ ks ↔ (Maps.has D0 (.int .i64 x) = true ∧ left (.int .i64 x) = false)
theorem CollI.start (D0 : DataW Unit) : CollI D0 (Maps.has D0) [] := ⟨List.nodup_nil, fun x => by cases Maps.has D0 (.int .i64 x) <;> simp⟩
theorem CollI.step {D0 : DataW Unit} {left : Lit → Bool} {ks : List Int} (h : CollI D0 left ks) {x : Int} {y : DataW Unit} (hlk : left (.int .i64 x) = true) (hat : ∀ zd, D0.atKey (.int .i64 x) zd = y) : CollI D0 (fun z => left z && !z.sameKey (.int .i64 x)) (ks ++ [x]) := by
  have hhas : Maps.has D0 (.int .i64 x) = true := Maps.has_true_of_atKey hat
  have hnew : x ∉ ks := fun hx => by have := ((h.2 x).1 hx).2; rw [hlk] at this; cases this
  refine ⟨List.nodup_append.2 ⟨h.1, by simp, fun a ha b hb => by simp at hb; subst hb; exact fun e => hnew (e ▸ ha)⟩, fun y => ?_⟩
  by_cases hy : y = x
  · subst hy; simp [hhas, Lit.sameKey]
  · simp [h.2 y, hy, Lit.sameKey]
theorem ownsMap_size {w : World} {P : Program} {k : TypeId} {R : Value → Option (DataW Unit × List MemPlace)} {b n : Nat} {D : DataW Unit} (h : w.ownsMap P k R b n D) : Maps.size D ≤ n := by
  obtain ⟨es, clock, hb, F, hs, rfl⟩ := h
  show ((es.toList.map _).foldr DataW.insert []).length ≤ n
  rw [length_sorted, List.length_map, Array.length_toList]
  exact hs
theorem ownsMap_kept {w w' : World} {P : Program} {k : TypeId} {R : Value → Option (DataW Unit × List MemPlace)} {b n : Nat} {D : DataW Unit} (h : w.ownsMap P k R b n D) (hb : w'.heap[b]? = w.heap[b]?) : w'.ownsMap P k R b n D := by
  obtain ⟨es, clock, hb0, F, hs, hD⟩ := h
  exact ⟨es, clock, hb.trans hb0, F, hs, hD⟩
theorem sorted_keys {A : List (Int × Int)} {ks : List Int} (hn : ks.Nodup) (hm : ∀ x : Int, x ∈ ks ↔ ∃ e ∈ A, e.1 = x) : (ks.mergeSort fun x y => decide (x ≤ y)) = keysV A := by
  have hp := List.mergeSort_perm ks (fun x y => decide (x ≤ y))
  have hs := List.pairwise_mergeSort (le := fun x y : Int => decide (x ≤ y)) (fun a b c h1 h2 => by simp only [decide_eq_true_eq] at *; omega) (fun a b => by simp only [Bool.or_eq_true, decide_eq_true_eq]; omega) ks
  refine up_ext ?_ (keysV_up A) (fun x => by rw [hp.mem_iff, hm, mem_keysV])
  refine (hs.and (hp.nodup_iff.2 hn)).imp fun {a b} h => ?_
  obtain ⟨h1, h2⟩ := h
  simp only [decide_eq_true_eq] at h1
  have : a ≠ b := h2
  omega
theorem iter_ne_cells {P : Program} {k : TypeId} {R : Value → Option (DataW Unit × List MemPlace)} {w : World} {b r n : Nat} {D : DataW Unit} {left : Lit → Bool} {cnt : Nat} (h : w.ranges P k R b r n D left cnt) {g t : Nat} {cs : Array Value} (hb : w.heap[g]? = some (.cells cs t (0, 0))) : g ≠ r := by
  obtain ⟨_, _, _, _, _, _, _, _, _, hit, _⟩ := h
  rintro rfl
  rw [hb] at hit
  cases hit
theorem map_ne_cells {P : Program} {k : TypeId} {R : Value → Option (DataW Unit × List MemPlace)} {w : World} {b n : Nat} {D : DataW Unit} (h : w.ownsMap P k R b n D) {g t : Nat} {cs : Array Value} (hb : w.heap[g]? = some (.cells cs t (0, 0))) : g ≠ b := by
  obtain ⟨_, _, hit, _⟩ := h
  rintro rfl
  rw [hb] at hit
  cases hit
theorem map_ne_row {P : Program} {k : TypeId} {R : Value → Option (DataW Unit × List MemPlace)} {w : World} {b n : Nat} {D : DataW Unit} (h : w.ownsMap P k R b n D) {base e : Nat} {size m : Nat} {v : Value} {xs : List Value} (ho : w.ownsRow base e size v m xs) : some b ≠ v.ownBlock := by
  rcases ho.2 with ⟨rfl, _⟩ | ⟨g, cap, cur, rfl, _, hb, _⟩
  · simp [Value.ownBlock]
  · intro e1
    have : b = g := by simpa [Value.ownBlock] using e1
    exact map_ne_cells h hb this.symm
theorem power_flow.infoI : (Try.prog.info? 3).map (fun i => (i.zero, i.size, i.bytes)) = some (some (.int .i64 0), 1, 8) := by kernel_rfl
theorem rd_dropI {l : List Int} {i : Nat} (h : i < l.length) : l.drop i = rd l (i : Int) :: l.drop (i + 1) := by
  rw [List.drop_eq_getElem_cons h]
  congr 1
  unfold rd
  simp [List.getD_eq_getElem?_getD, List.getElem?_eq_getElem h]
theorem power_flow.infoP : (Try.prog.info? 89).map (fun i => (i.zero, i.size, i.bytes)) = some (some (.agg #[.int .i64 0, .int .i64 0, .int .i64 0]), 3, 24) := by kernel_rfl
theorem power_flow.infoS : (Try.prog.info? 3).map (·.size) = some 1 := by kernel_rfl
theorem flow_last {L L0 : List (Int × Int × Int)} {px : Int × Int × Int} {j t u n : Int} (hL : L = L0 ++ [px]) (hj : j = (L0.length : Int)) :
    (L.map pieceOf).set j.toNat (⟨px.1, t, px.2.2⟩ : S89) ++ [(⟨t, u, n⟩ : S89)] = (L.dropLast ++ (L.getLast?.toList.map fun p => (p.1, t, p.2.2)) ++ [(t, u, n)]).map pieceOf := by
  subst hL
  subst hj
  rw [Int.toNat_natCast, List.dropLast_concat, List.getLast?_concat, List.map_append, List.set_append_right _ _ (by rw [List.length_map]; exact Nat.le_refl _), List.length_map, Nat.sub_self]
  simp [pieceOf]
theorem flow_len {L L0 : List (Int × Int × Int)} {px : Int × Int × Int} {i t u n : Int} (hL : L = L0 ++ [px]) (hl : L.length ≤ i.toNat) (hi : 0 ≤ i) : (L.dropLast ++ (L.getLast?.toList.map fun p => (p.1, t, p.2.2)) ++ [(t, u, n)]).length ≤ (i + 1).toNat := by
  subst hL
  rw [List.length_append] at hl
  rw [List.dropLast_concat, List.getLast?_concat]
  simp only [List.length_cons, List.length_nil, List.length_append, Option.toList_some, List.map_cons, List.map_nil] at *
  omega
theorem d67a {p : Prop} (h : p := by have q := HD2.out.2.1 t; rw [hat3, HDL.out] at q; injection q with q; injection q with _ q; exact q.symm) : p := h
theorem d67b {p : Prop} (h : p := by first | (go_simp; done) | (go_simp; rfl)) : p := h
set_option maxHeartbeats 16000000 in
set_option maxRecDepth 100000 in
theorem power_flow.calls (k : Nat) (a0_0 : Int) (a0_1 : Int) (a0_2 : Int) (a0_3 : Int) (a0_4 : Int) (A1 : Option Addr) (c1 : Nat) (l1 : List (S72)) (A2 : Option Addr) (c2 : Nat) (l2 : List (S76)) (A3 : Option Addr) (c3 : Nat) (l3 : List (S47)) (a4 : Int) (r : List (S89)) (w : World)
 (hr1 : Kd.C k72 w A1 l1.length l1) (hc1 : l1.length ≤ c1) (hr2 : Kd.C k76 w A2 l2.length l2) (hc2 : l2.length ≤ c2) (hr3 : Kd.C k47 w A3 l3.length l3) (hc3 : l3.length ≤ c3) (h : power_flow.f k a0_0 a0_1 a0_2 a0_3 a0_4 l1 l2 l3 a4 = some r) :
 Calls Try.prog 67 #[.agg #[.int .i64 a0_0, .int .i64 a0_1, .int .i64 a0_2, .int .i64 a0_3, .int .i64 a0_4], .slice A1 l1.length c1, .slice A2 l2.length c2, .slice A3 l3.length c3, .int .i64 a4] w fun e w' => ∃ v0_ : Value, e = .returned (v0_) ∧ Kd.R k89 89 w' w.heap.size (fun _ => True) v0_ r ∧ Below w.heap.size w w' := by
 unfold power_flow.f at h
 obtain ⟨es, hes, h⟩ := Option.bind_eq_some_iff.1 h
 split at h
 case isFalse => cases h
 case isTrue hg =>
  obtain ⟨hn1, hn3, hS⟩ := hg
  obtain rfl := Option.some.inj h
  clear h
  obtain ⟨hel, hea⟩ := useEvs_at hes
  obtain ⟨E, hE⟩ : ∃ E, sunEvs a0_2 l1 ++ es = E := ⟨_, rfl⟩
  rw [hE] at hS ⊢
  have hEl : E.length = l1.length + l3.length := by rw [← hE, List.length_append, hel]; simp [sunEvs]
  have hE1 : ∀ i : Nat, i < l1.length → E[i]? = some ((rd_T72 l1 i).f0, (rd_T72 l1 i).f1, a0_2) := by
   intro i hi
   rw [← hE, List.getElem?_append_left (by simpa [sunEvs] using hi)]
   exact sunEvs_at hi
  have hE3 : ∀ i : Nat, i < l3.length → ∃ y, power_load.f k l2 (rd_T47 l3 i).f0 = some y ∧ E[l1.length + i]? = some ((rd_T47 l3 i).f1, (rd_T47 l3 i).f2, -y.2.1) := by
   intro i hi
   obtain ⟨y, hy, hy2⟩ := hea i hi
   refine ⟨y, hy, ?_⟩
   rw [← hE, List.getElem?_append_right (by simp [sunEvs])]
   simpa [sunEvs] using hy2
  have HE1 := Aside0.mk hE1
  have HE3 := Aside0.mk hE3
  have HEl := Aside0.mk hEl
  have HS := Aside0.mk hS
  have HN := Aside0.mk (And.intro hn1 hn3)
  have HR1 := Aside0.mk hr1
  have HR2 := Aside0.mk hr2
  have HR3 := Aside0.mk hr3
  have HC2 := Aside0.mk hc2
  have hb3 : -68719476736 ≤ -a0_3 ∧ -a0_3 ≤ 68719476736 := (hS (0, -a0_3) List.mem_cons_self).2
  have hneg : wrap64 (-a0_3) = -a0_3 := by unfold wrap64; omega
  have hwf3 : (Lit.int .i64 (-a0_3)).wf = true := WalkArith.wf_i64 (by omega)
  have hw3 := Aside0.mk hwf3
  have hnegA := Aside0.mk hneg
  clear hE hE1 hE3 hEl hS hel hea hes hn1 hn3 hr1 hr2 hr3 hc1 hc2 hc3 hwf3 hb3
  have hM0 := Aside0.mk (show ((w.alloc (.cells #[.int .i64 a0_0, .int .i64 a0_1, .int .i64 a0_2, .int .i64 a0_3, .int .i64 a0_4] 23)).alloc (.map #[] 0)).ownsMap Try.prog 3 (plainElem Try.prog 3) (w.heap.size + 1) 0 (.map [] : DataW Unit) from by
   have q := World.ownsMap_made (w.alloc (.cells #[.int .i64 a0_0, .int .i64 a0_1, .int .i64 a0_2, .int .i64 a0_3, .int .i64 a0_4] 23)) Try.prog 3 (plainElem (H := Unit) Try.prog 3)
   rwa [show (w.alloc (.cells #[.int .i64 a0_0, .int .i64 a0_1, .int .i64 a0_2, .int .i64 a0_3, .int .i64 a0_4] 23)).heap.size = w.heap.size + 1 from by simp] at q)
  have hmm := @run_makeMap Try.prog
  go_enter Try.func67, Try.ntmps67
  go_wp2_with (refine wpList_insert_own _ rfl _ _ _ 112 rfl 3 3 lawInt Try.underlying112 (plainElem Try.prog 3) (w.heap.size + 1) 0 (.map [] : DataW Unit) rfl hM0.out (by unfold maxLen; omega) _ _ _ rfl rfl (Maps.keyOf_int_mk Try.underlying3 rfl) _ [] (plainElem_int Try.underlying3 (by first | exact wrap64_wf _ | exact hw3.out)) ?_; intro w1 hown1 hgrow1)
  rw [hnegA.out] at hown1
  have HF1 := Aside0.mk (flow_start hgrow1 hown1)
  clear hown1 hgrow1 hM0 hneg
  go_loopg [34] (l1.length + 1) (fun kq v34 w' => ∃ i : Int, v34 = .int .i64 i ∧ Aside0 (kq + i.toNat = l1.length + 1) ∧ Aside0 (0 ≤ i ∧ i ≤ l1.length) ∧ Aside0 (FlowAt w w1.heap.size a0_0 a0_1 a0_2 a0_3 a0_4 (addsV a0_3 (E.take i.toNat)) w'))
  case atStart => exact ⟨0, rfl, ⟨rfl⟩, ⟨Int.le_refl _, by omega⟩, ⟨by rw [show (0 : Int).toNat = 0 from rfl, List.take_zero]; exact HF1.out⟩⟩
  case round =>
   clear HF1
   obtain ⟨i, rfl, HK, HI, HF⟩ := hrel
   cases gk with
   | zero => exact absurd HK.out (by have := HI.out; omega)
   | succ k1 =>
    by_cases c1 : i < (l1.length : Int)
    · have c1b : decide (i < (l1.length : Int)) = true := decide_eq_true c1
      have hi0 : 0 ≤ i := HI.out.1
      obtain ⟨ad, e3, hx0, hx1⟩ := at_T72 HR1.out i hi0 c1
      cases e3
      have hBx := HF.out.2.2.2.1
      replace hx0 := (hBx.cell (World.block_lt_of_cell? w _ hx0)).trans hx0
      replace hx1 := (hBx.cell (World.block_lt_of_cell? w _ hx1)).trans hx1
      have hcc2 : ∀ o, (wr.alloc o).cell? ⟨w.heap.size, 2, none⟩ = some (.int .i64 a0_2) := fun o => (blkC5 (blk_alloc HF.out.1 o)).2.2.1
      clear hBx
      have Hi := Aside0.mk (show i.toNat < l1.length by omega)
      have hwi : wrap64 (i + 1) = i + 1 := by have := HN.out; unfold wrap64; omega
      have p1 := eq_true hi0
      have q1 := eq_true c1
      clear c1 hi0
      go_wp2_with (go_at_call 88; refine (flow_call (HF.out.below (below_alloc (Below.refl _ _) _)) (by have q := HE1.out i.toNat Hi.out; rw [Int.toNat_of_nonneg HI.out.1] at q; exact q) HS.out (by have := HN.out; have := HEl.out; omega)).mono ?_; rintro e w2 ⟨rfl, hF2, _⟩; have HF2 := Aside0.mk hF2; clear hF2)
      go_roundg k1
      case measure => have := HK.out; omega
      case rel => exact ⟨i + 1, by simp [hwi], ⟨by have := HK.out; have := HI.out; omega⟩, ⟨by have := HI.out; have := Hi.out; omega⟩, ⟨by rw [show (i + 1).toNat = i.toNat + 1 by have := HI.out; omega]; exact HF2.out⟩⟩
    · have c1b : decide (i < (l1.length : Int)) = false := decide_eq_false c1
      have hil : i.toNat = l1.length := by have := HI.out; omega
      have HF2 := Aside0.mk (hil ▸ HF.out)
      clear c1 HK HI HF hil
      go_wp2
      go_loopg [49] (l3.length + 1) (fun kq v49 w' => ∃ i : Int, v49 = .int .i64 i ∧ Aside0 (kq + i.toNat = l3.length + 1) ∧ Aside0 (0 ≤ i ∧ i ≤ l3.length) ∧ Aside0 (FlowAt w w1.heap.size a0_0 a0_1 a0_2 a0_3 a0_4 (addsV a0_3 (E.take (l1.length + i.toNat))) w'))
      case atStart => exact ⟨0, rfl, ⟨rfl⟩, ⟨Int.le_refl _, by omega⟩, ⟨HF2.out⟩⟩
      case round =>
       clear HF2 c1b
       obtain ⟨i, rfl, HK, HI, HF⟩ := hrel
       cases gk with
       | zero => exact absurd HK.out (by have := HI.out; omega)
       | succ k1 =>
        by_cases c1 : i < (l3.length : Int)
        · have c1b : decide (i < (l3.length : Int)) = true := decide_eq_true c1
          have hi0 : 0 ≤ i := HI.out.1
          obtain ⟨ad, e3, hx0, hx1, hx2⟩ := at_T47 HR3.out i hi0 c1
          cases e3
          have hBx := HF.out.2.2.2.1
          replace hx0 := (hBx.cell (World.block_lt_of_cell? w _ hx0)).trans hx0
          replace hx1 := (hBx.cell (World.block_lt_of_cell? w _ hx1)).trans hx1
          replace hx2 := (hBx.cell (World.block_lt_of_cell? w _ hx2)).trans hx2
          obtain ⟨y, hy, hEy⟩ := HE3.out i.toNat (by omega)
          rw [Int.toNat_of_nonneg hi0] at hy hEy
          have HY := Aside0.mk hy
          have HEY := Aside0.mk hEy
          have HRL := Aside0.mk (Kd.C_below HR2.out hBx)
          have hsm := small_of HS.out hEy
          obtain ⟨y1, y2, y3, y4⟩ := y
          have hny : wrap64 (-y2) = -y2 := by
           have hsm : -68719476736 ≤ -y2 ∧ -y2 ≤ 68719476736 := hsm
           unfold wrap64
           omega
          clear hBx hy hEy hsm
          have Hi := Aside0.mk (show i.toNat < l3.length by omega)
          have hwi : wrap64 (i + 1) = i + 1 := by have := HN.out; unfold wrap64; omega
          have p1 := eq_true hi0
          have q1 := eq_true c1
          clear c1 hi0
          go_wp2_with (first
           | (go_at_call 58; refine (power_load.calls k _ _ l2 _ y1 y2 y3 y4 _ (Kd.C_alloc HRL.out _) HC2.out HY.out).mono ?_; rintro e w2 ⟨rfl, hb⟩; have HF2 := Aside0.mk ((HF.out.below (below_alloc (Below.refl _ _) _)).below hb); have hbk := (hb.block wr.heap.size (by simp)).trans (heap_alloc_new wr _); have hxb1 : ∀ o, (w2.alloc o).cell? ⟨wr.heap.size, 1, none⟩ = some (.int .i64 (rd_T47 l3 i).f1) := (fun o => (blkC3 (blk_alloc hbk o)).2.1); have hxb2 : ∀ o, (w2.alloc o).cell? ⟨wr.heap.size, 2, none⟩ = some (.int .i64 (rd_T47 l3 i).f2) := (fun o => (blkC3 (blk_alloc hbk o)).2.2); clear hb hbk hx0 hx1 hx2)
           | (go_at_call 88; refine (flow_call (HF2.out.below (below_alloc (Below.refl _ _) _)) HEY.out HS.out (by have := HN.out; have := HEl.out; omega)).mono ?_; rintro e w3 ⟨rfl, hF3, _⟩; have HF3 := Aside0.mk hF3; clear hF3))
          go_roundg k1
          case measure => have := HK.out; omega
          case rel => exact ⟨i + 1, by simp [hwi], ⟨by have := HK.out; have := HI.out; omega⟩, ⟨by have := HI.out; have := Hi.out; omega⟩, ⟨by rw [show l1.length + (i + 1).toNat = l1.length + i.toNat + 1 by have := HI.out; omega]; exact HF3.out⟩⟩
        · have c1b : decide (i < (l3.length : Int)) = false := decide_eq_false c1
          have hil : E.take (l1.length + i.toNat) = E := List.take_of_length_le (by have := HI.out; have := HEl.out; omega)
          have HF2 := Aside0.mk (hil ▸ HF.out)
          clear c1 HK HI HF hil
          obtain ⟨D, hD1, hD2⟩ := HF2.out.2.2.1
          have HD1 := Aside0.mk hD1
          have HD2 := Aside0.mk hD2
          have hc1 := cell_of_one HF2.out.2.1
          have hsz := ownsMap_size hD1
          rw [addsV_length] at hsz
          have HSZ := Aside0.mk hsz
          have HRng := Aside0.mk (show w.heap.size ≤ wr.heap.size from HF2.out.2.2.2.1.size)
          obtain ⟨Am, hAm⟩ : ∃ Am, addsV a0_3 E = Am := ⟨_, rfl⟩
          have HAm := Aside0.mk hAm
          clear hD1 hD2 hsz
          clear hAm
          go_wp2_with (at_range; refine wpList_range_own _ rfl _ 112 rfl 3 3 lawInt Try.underlying112 (plainElem Try.prog 3) (w.heap.size + 1) _ D rfl HD1.out ?_; intro w4 hrg0 hg0 hs0; have HRG := Aside0.mk hrg0; have HG4 := Aside0.mk hg0; clear hrg0 hg0 hs0)
          go_frame
          go_loopg [19] (Maps.size D + 1) (fun kq v19 w' => ∃ (ks : List Int) (left : Lit → Bool) (cnt : Nat), Aside0 (cnt < kq) ∧ Aside0 (w'.ranges Try.prog 3 (plainElem Try.prog 3) (w.heap.size + 1) wr.heap.size (addsV a0_3 E).length D left cnt) ∧ Aside0 (CollI D left ks) ∧ Aside0 (ks.length + cnt ≤ Maps.size D) ∧ Aside0 (Kd.R (Kd.int .i64) 3 w' w.heap.size (fun _ => True) v19 ks) ∧ Aside0 (w'.heap[w1.heap.size]? = some (.cells #[.map (some (w.heap.size + 1))] 112 (0, 0))) ∧ Aside0 (Below w.heap.size w w'))
          case atStart => exact ⟨[], Maps.has D, Maps.size D, ⟨Nat.lt_succ_self _⟩, ⟨HRG.out⟩, ⟨CollI.start D⟩, ⟨by simp⟩, ⟨Kd.R_nil _ _ _ _ _⟩, ⟨(HG4.out.block _ (blk_lt HF2.out.2.1) (by simp)).trans HF2.out.2.1⟩, ⟨pw_below_grown HF2.out.2.2.2.1 _ HF2.out.2.2.2.1.size HG4.out (by simp)⟩⟩
          case round =>
           clear HRG HG4 HF2 hc1
           obtain ⟨ks, left, cnt, HK, HRG, HCI, HLK, HKS, HGC, HBB⟩ := hrel
           cases gk with
           | zero => exact absurd HK.out (by omega)
           | succ k1 =>
            go_wp2_with (at_next; refine wpList_next_ranges_ii _ rfl _ rfl 3 3 .i64 .i64 lawInt Try.underlying3 Try.underlying3 (w.heap.size + 1) _ _ D _ _ rfl HRG.out ?_ ?_)
            · intro hc0 hl0
              have HL0 := Aside0.mk hl0
              clear hl0 hc0
              obtain ⟨Aks, cks, hv19⟩ := Kd.R_slice HKS.out
              have hv19' := hv19
              have hsf : slices_Sort_int_int.f ks = some (keysV (addsV a0_3 E)) := by
               have hl : ks.length < 4611686018427387904 := by have := HLK.out; have := HSZ.out; have := HEl.out; have := HN.out; omega
               unfold slices_Sort_int_int.f
               rw [if_pos hl, sorted_keys HCI.out.1]
               intro x
               rw [HCI.out.2 x, HL0.out, HD2.out.2.2 x]
               simp
              have hkl : ks.length = (keysV (addsV a0_3 E)).length := by
               have hl : ks.length < 4611686018427387904 := by have := HLK.out; have := HSZ.out; have := HEl.out; have := HN.out; omega
               unfold slices_Sort_int_int.f at hsf
               rw [if_pos hl] at hsf
               rw [← Option.some.inj hsf]
               exact (List.mergeSort_perm ks _).length_eq.symm
              have HSF := Aside0.mk hsf
              have HKL := Aside0.mk hkl
              have HKN := Aside0.mk (show ks.length ≤ 4001 by have := HLK.out; have := HSZ.out; have := HEl.out; have := HN.out; omega)
              have HKS1 := Aside0.mk (hv19 ▸ HKS.out)
              clear hv19' hsf hkl HCI HL0 HKS
              go_wp2_with (go_at_call 89; refine (slices_Sort_int_int.calls (fun k_ => some k_ = (Value.slice Aks ks.length cks).ownBlock) _ ks _ w _ HBB.out (Kd.R_tight rfl HKS1.out) HSF.out).mono ?_; rintro e w6 ⟨rfl, hR6, hB6, hK6⟩; have HKS6 := Aside0.mk (Kd.R_mono (ok' := fun _ => True) hR6 (fun _ _ => trivial)); have HGC6 := Aside0.mk ((hK6.2 _ (blk_lt HGC.out) (Kd.R_ne HKS1.out HGC.out (by decide))).trans HGC.out); have HDD6 := Aside0.mk (ownsMap_kept HRG.out.owns (hK6.2 _ HRG.out.owns.lt (map_ne_row HRG.out.owns (Kd.own_of_R HKS1.out)))); have HB6 := Aside0.mk hB6; clear hR6 hB6 hK6)
              go_loopg [21, 22, 84] (ks.length + 1) (fun kq v21 v22 v84 w' => ∃ (i now : Int) (L : List (Int × Int × Int)), v84 = .int .i64 i ∧ v22 = .int .i64 now ∧ Aside0 (kq + i.toNat = ks.length + 1) ∧ Aside0 (0 ≤ i ∧ i ≤ ks.length) ∧ Aside0 (flowGo (addsV a0_3 E) a4 ((keysV (addsV a0_3 E)).drop i.toNat) now L = flowGo (addsV a0_3 E) a4 (keysV (addsV a0_3 E)) 0 []) ∧ Aside0 (-(i * 274946626420736) ≤ now ∧ now ≤ i * 274946626420736) ∧ Aside0 (L.length ≤ i.toNat) ∧ Aside0 (Kd.R (Kd.int .i64) 3 w' w.heap.size (fun _ => True) (.slice Aks ks.length cks) (keysV (addsV a0_3 E))) ∧ Aside0 (Kd.R k89 89 w' w.heap.size (fun _ => True) v21 (L.map pieceOf)) ∧ Aside0 (w'.heap[w1.heap.size]? = some (.cells #[.map (some (w.heap.size + 1))] 112 (0, 0))) ∧ Aside0 (w'.ownsMap Try.prog 3 (plainElem Try.prog 3) (w.heap.size + 1) (addsV a0_3 E).length D) ∧ Aside0 (Below w.heap.size w w'))
              case atStart => exact ⟨0, 0, [], rfl, rfl, ⟨rfl⟩, ⟨Int.le_refl _, by omega⟩, ⟨rfl⟩, ⟨by omega, by omega⟩, ⟨Nat.zero_le _⟩, ⟨HKS6.out⟩, ⟨Kd.R_nil _ _ _ _ _⟩, ⟨HGC6.out⟩, ⟨HDD6.out⟩, ⟨HB6.out⟩⟩
              case round =>
               clear HKS6 HGC6 HDD6 HB6 HKS1 HRG HGC HBB
               obtain ⟨i, now, L, rfl, rfl, HK, HI, HFG, HNW, HLL, HKS, HLR, HGC, HDD, HBB⟩ := hrel
               cases gk with
               | zero => exact absurd HK.out (by have := HI.out; omega)
               | succ k1 =>
                by_cases c1 : i < (ks.length : Int)
                · have c1b : decide (i < (ks.length : Int)) = true := decide_eq_true c1
                  have hi0 : 0 ≤ i := HI.out.1
                  have hil : i.toNat < (keysV (addsV a0_3 E)).length := by have := HKL.out; omega
                  obtain ⟨ad, hA, hx⟩ := Kd.at_int (Kd.R_reads' HKS.out).2.2 i hi0 (by have := HKL.out; omega)
                  cases hA
                  have hdr := rd_dropI hil
                  rw [Int.toNat_of_nonneg hi0] at hdr
                  obtain ⟨t, ht⟩ : ∃ t, rd (keysV (addsV a0_3 E)) i = t := ⟨_, rfl⟩
                  rw [ht] at hx hdr
                  have hc1 := cell_of_one HGC.out
                  have hfg := HFG.out
                  rw [hdr] at hfg
                  have hwi : wrap64 (i + 1) = i + 1 := by have := HKN.out; unfold wrap64; omega
                  have p1 := eq_true hi0
                  have q1 := eq_true c1
                  have Hi := Aside0.mk (And.intro hi0 c1)
                  have htm : t ∈ keysV (addsV a0_3 E) := List.mem_of_mem_drop (hdr ▸ List.mem_cons_self)
                  obtain ⟨ee, hee1, hee2⟩ := (mem_keysV t _).1 htm
                  have hwt := Aside0.mk (show (Lit.int .i64 t).wf = true from WalkArith.wf_i64 (by have := (HS.out ee hee1).1; omega))
                  clear c1 hi0 hil hdr ht HFG htm hee1 hee2 ee
                  by_cases c2 : a4 ≤ t
                  · have c2b : decide (a4 ≤ t) = true := decide_eq_true c2
                    rw [show flowGo (addsV a0_3 E) a4 (t :: (keysV (addsV a0_3 E)).drop (i.toNat + 1)) now L = L from if_pos c2] at hfg
                    have HFG := Aside0.mk hfg
                    clear hfg c2
                    go_wp2
                    go_ret
                    exact ⟨_, rfl, by rw [← HFG.out]; exact HLR.out, HBB.out⟩
                  · have c2b : decide (a4 ≤ t) = false := decide_eq_false c2
                    obtain ⟨dl, hdl⟩ : ∃ dl, delta t (addsV a0_3 E) = dl := ⟨_, rfl⟩
                    have hdb := delta_bd t HS.out
                    rw [hdl] at hdb
                    have hal := addsV_length a0_3 E
                    have hdb2 : -274946626420736 ≤ dl ∧ dl ≤ 274946626420736 := by have := HEl.out; have := HN.out; omega
                    have HDB := Aside0.mk hdb2
                    have HDL := Aside0.mk hdl
                    have hnw : wrap64 (now + dl) = now + dl := by have := HNW.out; have := HKN.out; have := Hi.out; unfold wrap64; omega
                    clear hdb hal hdb2
                    by_cases c4 : t = 0 ∨ now + dl ≠ now
                    · have hb28 : (t == 0) = true ∨ ((t == 0) = false ∧ (now + dl != now) = true) := by
                       by_cases q : t = 0
                       · exact .inl (beq_iff_eq.2 q)
                       · exact .inr ⟨beq_eq_false_iff_ne.2 q, bne_iff_ne.2 (c4.resolve_left q)⟩
                      rw [show flowGo (addsV a0_3 E) a4 (t :: (keysV (addsV a0_3 E)).drop (i.toNat + 1)) now L = flowGo (addsV a0_3 E) a4 ((keysV (addsV a0_3 E)).drop (i.toNat + 1)) (now + dl) (L.dropLast ++ (L.getLast?.toList.map fun p => (p.1, t, p.2.2)) ++ [(t, a4, now + dl)]) from by
                       conv => lhs; unfold flowGo
                       rw [if_neg c2, hdl, if_pos c4]] at hfg
                      clear c2 c4 hdl
                      rcases List.eq_nil_or_concat L with hLn | ⟨L0, px, hLn⟩
                      · subst hLn
                        have HFG := Aside0.mk hfg
                        obtain ⟨Ao, co, hvo⟩ := Kd.R_slice HLR.out
                        subst hvo
                        have d0 : decide ((0 : Int) < 0) = false := rfl
                        clear hfg
                        rcases hb28 with d1 | ⟨d1, d2⟩
                        all_goals
                         go_wp2_with (first
                          | (at_lookup; refine wpList_lookup_own_int _ rfl _ _ 112 rfl 3 3 .i64 lawInt Try.underlying112 Try.underlying3 (zeroInt _) (w.heap.size + 1) _ D rfl HDD.out _ _ rfl (Maps.keyOf_int_mk Try.underlying3 hwt.out) ?_; intro c3 hat3 hwc3; obtain rfl : dl = c3 := d67a; clear hat3 hwc3)
                          | (at_builtin; refine Kd.R_append k89 (w0 := w) w.heap.size rfl (.tmp 114) (.tmp 119) 86 89 (.agg #[.int .i64 0, .int .i64 0, .int .i64 0]) 24 rfl Try.underlying86 power_flow.infoP rfl (by decide) (by omega) _ [] (⟨t, a4, now + dl⟩ : S89) [.int .i64 t, .int .i64 a4, .int .i64 (now + dl)] (fun _ => True) (fun _ => False) rfl d67b (k89_mkM _ _ _ (⟨t, a4, now + dl⟩ : S89)) (fun _ h => h.elim) (fun _ _ => trivial) HLR.out HBB.out HBB.out.size (by simp) ?_; intro v7 w7 ho7 hb7 hg7 hat7; have HKS7 := Aside0.mk (Kd.R_over' HKS.out (Kd.R_typed HLR.out) (by decide) hg7); have HGC7 := Aside0.mk ((hg7.block _ (blk_lt HGC.out) (Kd.R_ne HLR.out HGC.out (by decide))).trans HGC.out); have HDD7 := Aside0.mk (HDD.out.kept hg7 (map_ne_row HDD.out (Kd.R_own HLR.out).choose_spec)); have HB7 := Aside0.mk hb7; have HL7 := Aside0.mk ho7; clear ho7 hb7 hg7 hat7))
                         go_roundg k1
                         case measure => have := HK.out; omega
                         case rel => exact ⟨i + 1, now + dl, [(t, a4, now + dl)], by simp [hwi], rfl, ⟨by have := HK.out; have := HI.out; omega⟩, ⟨by have := HI.out; have := Hi.out; omega⟩, ⟨by rw [show (i + 1).toNat = i.toNat + 1 by have := HI.out; omega]; exact HFG.out⟩, ⟨by have := HDB.out; have := HNW.out; omega⟩, ⟨by simp; have := HI.out; omega⟩, ⟨HKS7.out⟩, ⟨HL7.out⟩, ⟨HGC7.out⟩, ⟨HDD7.out⟩, ⟨HB7.out⟩⟩
                      · rw [List.concat_eq_append] at hLn
                        have HFG := Aside0.mk hfg
                        clear hfg
                        obtain ⟨nL, hnL⟩ : ∃ nL : Nat, (L.map pieceOf).length = nL := ⟨_, rfl⟩
                        have hnL1 : nL = L0.length + 1 := by rw [← hnL, hLn]; simp
                        obtain ⟨go, co, hvo, _⟩ := Kd.R_form HLR.out (by omega)
                        subst hvo
                        rw [hnL] at HLR ⊢
                        obtain ⟨jL, hjL⟩ : ∃ jL : Int, wrap64 ((nL : Int) - 1) = jL := ⟨_, rfl⟩
                        have hLb : nL ≤ 4001 := by have := HLL.out; have := HKN.out; have := Hi.out; rw [List.length_map] at hnL; omega
                        have hjL2 : jL = (L0.length : Int) := by rw [← hjL]; unfold wrap64; omega
                        obtain ⟨cs0, _, hcM, hcc, _⟩ := Kd.R_elem HLR.out (pieceOf px) jL (by omega) (by omega)
                        have hge : (L.map pieceOf).getD jL.toNat (pieceOf px) = pieceOf px := by
                         rw [hjL2, Int.toNat_natCast, hLn]
                         simp
                        rw [hge] at hcM
                        obtain rfl := k89_openM hcM
                        have HCC := Aside0.mk hcc
                        have PJ := Aside0.mk (show 0 ≤ jL ∧ jL < (nL : Int) from by omega)
                        have HNL := Aside0.mk (And.intro hnL1 (And.intro hLn hjL2))
                        have HLB := Aside0.mk hLb
                        have pj := eq_true PJ.out.1
                        have qj := eq_true PJ.out.2
                        have d0 : decide ((0 : Int) < (nL : Int)) = true := decide_eq_true (by omega)
                        have d0n : decide (0 < nL) = true := decide_eq_true (by omega)
                        have d0t := eq_true (show 0 < nL by omega)
                        clear hnL1 hLn hjL2 hcc hcM hge hLb hnL
                        rcases hb28 with d1 | ⟨d1, d2⟩
                        all_goals
                         go_wp2_with (first
                          | (at_lookup; refine wpList_lookup_own_int _ rfl _ _ 112 rfl 3 3 .i64 lawInt Try.underlying112 Try.underlying3 (zeroInt _) (w.heap.size + 1) _ D rfl HDD.out _ _ rfl (Maps.keyOf_int_mk Try.underlying3 hwt.out) ?_; intro c3 hat3 hwc3; obtain rfl : dl = c3 := d67a; clear hat3 hwc3)
                          | (refine Kd.R_store k89 (w0 := w) w.heap.size rfl rfl 3 (.tmp 113) (.tmp 111) rfl 89 (g := go) (n := nL) (cap := co) (o' := jL.toNat * 3 + 1) jL 1 (L.map pieceOf) (⟨px.1, t, px.2.2⟩ : S89) (.int .i64 t) [.int .i64 t] [.int .i64 px.1, .int .i64 px.2.1, .int .i64 px.2.2] (fun _ => True) (fun _ => False) d67b rfl rfl rfl power_flow.infoS (fun q hq => by rw [List.mem_singleton.1 hq]; rfl) HLR.out PJ.out.1 PJ.out.2 rfl HCC.out (show 2 ≤ 3 from by decide) (k89_mkM _ _ _ (⟨px.1, t, px.2.2⟩ : S89)) (fun _ h => h.elim) HBB.out ?_; intro w7 ho7 hb7 hg7; have HKS8 := Aside0.mk (Kd.R_over' HKS.out (v := .slice (some ⟨go, 0, none⟩) nL co) (Kd.R_typed HLR.out) (by decide) hg7); have HGC8 := Aside0.mk ((hg7.block _ (blk_lt HGC.out) (Kd.R_ne HLR.out HGC.out (by decide))).trans HGC.out); have HDD8 := Aside0.mk (HDD.out.kept hg7 (map_ne_row HDD.out (Kd.R_own HLR.out).choose_spec)); have HB8 := Aside0.mk hb7; have HL8 := Aside0.mk ho7; clear ho7 hb7 hg7)
                          | (at_builtin; refine Kd.R_append k89 (w0 := w) w.heap.size rfl (.tmp 114) (.tmp 119) 86 89 (.agg #[.int .i64 0, .int .i64 0, .int .i64 0]) 24 rfl Try.underlying86 power_flow.infoP rfl (by decide) (by omega) _ ((L.map pieceOf).set jL.toNat (⟨px.1, t, px.2.2⟩ : S89)) (⟨t, a4, now + dl⟩ : S89) [.int .i64 t, .int .i64 a4, .int .i64 (now + dl)] (fun _ => True) (fun _ => False) rfl d67b (k89_mkM _ _ _ (⟨t, a4, now + dl⟩ : S89)) (fun _ h => h.elim) (fun _ _ => trivial) HL8.out HB8.out HB8.out.size (by have q := HNL.out; have := HLB.out; rw [List.length_set, List.length_map, q.2.1, List.length_append]; simp only [List.length_cons, List.length_nil]; omega) ?_; intro v7 w7 ho7 hb7 hg7 hat7; have HKS7 := Aside0.mk (Kd.R_over' HKS8.out (Kd.R_typed HL8.out) (by decide) hg7); have HGC7 := Aside0.mk ((hg7.block _ (blk_lt HGC8.out) (Kd.R_ne HL8.out HGC8.out (by decide))).trans HGC8.out); have HDD7 := Aside0.mk (HDD8.out.kept hg7 (map_ne_row HDD8.out (Kd.R_own HL8.out).choose_spec)); have HB7 := Aside0.mk hb7; have HL7 := Aside0.mk ho7; clear ho7 hb7 hg7 hat7))
                         go_roundg k1
                         case measure => have := HK.out; omega
                         case rel => exact ⟨i + 1, now + dl, L.dropLast ++ (L.getLast?.toList.map fun p => (p.1, t, p.2.2)) ++ [(t, a4, now + dl)], by simp [hwi], rfl, ⟨by have := HK.out; have := HI.out; omega⟩, ⟨by have := HI.out; have := Hi.out; omega⟩, ⟨by rw [show (i + 1).toNat = i.toNat + 1 by have := HI.out; omega]; exact HFG.out⟩, ⟨by have := HDB.out; have := HNW.out; omega⟩, ⟨flow_len HNL.out.2.1 HLL.out HI.out.1⟩, ⟨HKS7.out⟩, ⟨by have q := HNL.out; have e := HL7.out; rw [flow_last q.2.1 q.2.2] at e; exact e⟩, ⟨HGC7.out⟩, ⟨HDD7.out⟩, ⟨HB7.out⟩⟩
                    · have d1 : (t == 0) = false := beq_eq_false_iff_ne.2 (fun q => c4 (.inl q))
                      have e4 : now + dl = now := Classical.byContradiction fun q => c4 (.inr q)
                      have d2 : (now + dl != now) = false := bne_eq_false_iff_eq.2 e4
                      rw [show flowGo (addsV a0_3 E) a4 (t :: (keysV (addsV a0_3 E)).drop (i.toNat + 1)) now L = flowGo (addsV a0_3 E) a4 ((keysV (addsV a0_3 E)).drop (i.toNat + 1)) (now + dl) L from by
                       conv => lhs; unfold flowGo
                       rw [if_neg c2, hdl, if_neg c4]] at hfg
                      have HFG := Aside0.mk hfg
                      clear c2 c4 hdl e4 hfg
                      go_wp2_with (at_lookup; refine wpList_lookup_own_int _ rfl _ _ 112 rfl 3 3 .i64 lawInt Try.underlying112 Try.underlying3 (zeroInt _) (w.heap.size + 1) _ D rfl HDD.out _ _ rfl (Maps.keyOf_int_mk Try.underlying3 hwt.out) ?_; intro c3 hat3 hwc3; obtain rfl : dl = c3 := d67a; clear hat3 hwc3)
                      go_roundg k1
                      case measure => have := HK.out; omega
                      case rel => exact ⟨i + 1, now + dl, L, by simp [hwi], rfl, ⟨by have := HK.out; have := HI.out; omega⟩, ⟨by have := HI.out; have := Hi.out; omega⟩, ⟨by rw [show (i + 1).toNat = i.toNat + 1 by have := HI.out; omega]; exact HFG.out⟩, ⟨by have := HDB.out; have := HNW.out; omega⟩, ⟨by have := HLL.out; have := HI.out; omega⟩, ⟨HKS.out⟩, ⟨HLR.out⟩, ⟨HGC.out⟩, ⟨HDD.out⟩, ⟨HBB.out⟩⟩
                · have c1b : decide (i < (ks.length : Int)) = false := decide_eq_false c1
                  have hfg := HFG.out
                  rw [List.drop_of_length_le (by have := HKL.out; omega), show flowGo (addsV a0_3 E) a4 [] now L = L from rfl] at hfg
                  have HFG := Aside0.mk hfg
                  clear hfg c1
                  go_wp2
                  go_ret
                  exact ⟨_, rfl, by rw [← HFG.out]; exact HLR.out, HBB.out⟩
            · intro x c w5 cnt1 hwx hwc hlx hat hrg1 hlt hg1 hs1 hen
              have HRG5 := Aside0.mk hrg1
              have HCI5 := Aside0.mk (HCI.out.step hlx hat)
              have HKS5 := Aside0.mk (Kd.R_grown1 HKS.out rfl hg1 (row_ne_iter (Kd.own_of_R HKS.out) HRG.out))
              have HGC5 := Aside0.mk ((hg1.block _ (blk_lt HGC.out) (fun e => iter_ne_cells HRG.out HGC.out (by injection e))).trans HGC.out)
              have HB5 := Aside0.mk (pw_below_grown HBB.out _ HBB.out.size hg1 (fun j hj => by cases hj; exact HRng.out))
              have HLT := Aside0.mk hlt
              clear hrg1 hlx hat hg1 hs1 hlt HRG HCI HKS HGC HBB hwx hwc
              go_wp2_with (at_builtin; refine Kd.R_append (Kd.int .i64) (w0 := w) w.heap.size rfl (.tmp 76) (.tmp 78) 66 3 (.int .i64 0) 8 rfl Try.underlying66 power_flow.infoI rfl (by decide) (by omega) _ ks x [.int .i64 x] (fun _ => True) (fun _ => False) rfl d67b rfl (fun _ h => h.elim) (fun _ _ => trivial) HKS5.out HB5.out HB5.out.size (by have := HLK.out; have := HSZ.out; have := HEl.out; have := HN.out; omega) ?_; intro v6 w6 ho6 hb6 hg6 hat6; have HRG6 := Aside0.mk (HRG5.out.kept hg6 (map_ne_row HRG5.out.owns (Kd.own_of_R HKS5.out)) (row_ne_iter (Kd.own_of_R HKS5.out) HRG5.out)); have HGC6 := Aside0.mk ((hg6.block _ (blk_lt HGC5.out) (Kd.R_ne HKS5.out HGC5.out (by decide))).trans HGC5.out); have HB6 := Aside0.mk hb6; have HKS6 := Aside0.mk ho6; clear ho6 hb6 hg6 hat6)
              go_roundg k1
              case measure => omega
              case rel => exact ⟨ks ++ [x], _, cnt1, ⟨by have := HK.out; have := HLT.out; omega⟩, ⟨HRG6.out⟩, ⟨HCI5.out⟩, ⟨by rw [List.length_append]; have := HLK.out; have := HLT.out; simp only [List.length_cons, List.length_nil]; omega⟩, ⟨HKS6.out⟩, ⟨HGC6.out⟩, ⟨HB6.out⟩⟩
end Go.Proofs.Ytplcdpiggpkppaa.Q
