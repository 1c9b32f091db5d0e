-- Made by wip/tools/claimp.py of this session's texts; Lean checks it.
import Derived.Test.YtplcdpiggpkppaaC5Q0
import Derived.Test.YtplcdpiggpkppaaC5Ge10
import Derived.Test.YtplcdpiggpkppaaC5Ge11
import Derived.Test.YtplcdpiggpkppaaC5Ge9
namespace Go.Proofs.Ytplcdpiggpkppaa.Q
open Go.RowKit Go.Proofs.YtplcdpiggpkppaaW.PrintWords Go.Proofs.YtplcdpiggpkppaaW.PrintLast Go.Proofs.YtplcdpiggpkppaaW.PrintMore
attribute [local go_sem] max2_int min2_int max_two min_two max_three min_three max_four min_four
open Go.Proofs.Ytplcdpiggpkppaa.Base
attribute [local go_sem high] str_leq str_gtr str_geq
set_option linter.unusedVariables false
set_option linter.unusedSimpArgs false
def perigeeref9_Follow.l0 : Nat → List (S72) → List (S76) → List (S47) → Int → List (S42) → Int → List (S96) → Int → Int → Int → Int → Int → Int → Int → Option ((List (S42)) × Int)
  | 0, _, _, _, _, _, _, _, _, _, _, _, _, _, _ => none
  | k + 1, x1, x2, x3, x4, x13, x14, x38, x39, x40, x102000, x102001, x102002, x102003, x102004 => if x40 < x39 then (if 0 ≤ x40 then (if x40 < (x38.length : Int) then (if x40 > 0 then ((perigeeref9_change.f k x102000 x102001 x102002 x102003 x102004 x1 x2 x3 (wrap64 (((rd_T96 x38 x40).f0) - 1))).bind fun t111 => (if ((rd_T96 x38 x40).f3) = t111 then (perigeeref9_Follow.l0 k x1 x2 x3 x4 x13 ((rd_T96 x38 x40).f4) x38 x39 (wrap64 (x40 + 1)) x102000 x102001 x102002 x102003 x102004) else (if x13.length < 8796093022208 then (perigeeref9_Follow.l0 k x1 x2 x3 x4 (x13 ++ [(⟨(rd_T96 x38 x40).f0, (rd_T96 x38 x40).f2⟩ : S42)]) ((rd_T96 x38 x40).f4) x38 x39 (wrap64 (x40 + 1)) x102000 x102001 x102002 x102003 x102004) else (none)))) else (perigeeref9_Follow.l0 k x1 x2 x3 x4 x13 ((rd_T96 x38 x40).f4) x38 x39 (wrap64 (x40 + 1)) x102000 x102001 x102002 x102003 x102004)) else (none)) else (none)) else (if x4 > 0 then ((perigeeref9_change.f k x102000 x102001 x102002 x102003 x102004 x1 x2 x3 x4).bind fun t115 => ((perigeeref9_change.f k x102000 x102001 x102002 x102003 x102004 x1 x2 x3 (wrap64 (x4 - 1))).bind fun t116 => (if t115 = t116 then (if 0 ≤ (wrap64 ((x13.length : Int) - 1)) then (if (wrap64 ((x13.length : Int) - 1)) < (x13.length : Int) then (if ((rd_T42 x13 (wrap64 ((x13.length : Int) - 1))).f0) < x4 then (if x13.length < 8796093022208 then (some ((x13 ++ [(⟨x4, x14⟩ : S42)]), 0)) else (none)) else (some (x13, 0))) else (none)) else (none)) else (if x13.length < 8796093022208 then (some ((x13 ++ [(⟨x4, x14⟩ : S42)]), 0)) else (none))))) else (some (x13, 0)))
def perigeeref9_Follow.f (k : Nat) (a0_0 : Int) (a0_1 : Int) (a0_2 : Int) (a0_3 : Int) (a0_4 : Int) (l1 : List (S72)) (l2 : List (S76)) (l3 : List (S47)) (a4 : Int) : Option ((List (S42)) × Int) := (perigeeref9_ask.f k a0_0 a0_1 a0_2 a0_3 a0_4 l1 l2 l3 a4).bind fun t102 => (if t102 = 0 then ((perigeeref9_legs.f k a0_0 a0_1 a0_2 a0_3 a0_4 l1 l2 l3 a4).bind fun t106 => (perigeeref9_Follow.l0 k l1 l2 l3 a4 (([(⟨0, a0_1⟩ : S42)] : List (S42))) a0_1 t106 (t106.length : Int) 0 a0_0 a0_1 a0_2 a0_3 a0_4)) else (some (([] : List (S42)), t102)))
def perigeeref9_Follow.T9 : Bool × List (List Nat × List Nat) := (true, [([], []), ([0], [0]), ([1], [1]), ([2], [2]), ([3, 2], [2, 3]), ([2], [2]), ([2], [2]), ([2], [2]), ([2], [2]), ([2], [2]), ([9, 2], [2, 9]), ([10, 2], [2, 10]), ([5, 6, 7, 8, 11, 2, 2], [2, 5, 6, 7, 8, 11]), ([4, 12, 2], [2, 4, 12]), ([2, 13], [2, 13])])
def perigeeref9_Follow.B9 : List Nat := [0, 1, 3, 7, 15, 7, 7, 7, 7, 7, 519, 1543, 4071, 8191, 16383]
theorem perigeeref9_Follow.tab9 : rtab .any (opsOf Try.f32 9) = perigeeref9_Follow.T9 := by kernel_rfl
theorem perigeeref9_Follow.bits9 : waitsOk perigeeref9_Follow.T9.2 perigeeref9_Follow.B9 = true := by kernel_rfl
def perigeeref9_Follow.T14 : Bool × List (List Nat × List Nat) := (true, [([], []), ([], []), ([], []), ([], []), ([], []), ([0, 1, 2, 3, 4], [0, 1, 2, 3, 4]), ([], []), ([], []), ([], []), ([], []), ([], []), ([10], [10]), ([6, 7, 8, 9, 11, 5], [6, 7, 8, 9, 11]), ([5, 12], [5, 12]), ([13, 12, 0, 1, 2, 3, 4, 5, 6, 7, 8, 9, 10, 11, 12, 13], [13])])
def perigeeref9_Follow.B14 : List Nat := [0, 0, 0, 0, 0, 31, 0, 0, 0, 0, 0, 1024, 4095, 8191, 16383]
theorem perigeeref9_Follow.tab14 : rtab .any (opsOf Try.f32 14) = perigeeref9_Follow.T14 := by kernel_rfl
theorem perigeeref9_Follow.bits14 : waitsOk perigeeref9_Follow.T14.2 perigeeref9_Follow.B14 = true := by kernel_rfl
theorem d32a {p : Prop} (h : p := by (with_reducible repeat (first | refine blk_drewN ?_ _ | refine blk_drew ?_ | refine blk_alloc ?_ _)); refine blk_put (cs := #[.int .i64 ((rd_T96 t106 x40_1).f0), .int .i64 ((rd_T96 t106 x40_1).f1), .int .i64 ((rd_T96 t106 x40_1).f2), .int .i64 ((rd_T96 t106 x40_1).f3), .int .i64 0]) ?_ 4 _ rfl; (with_reducible repeat (first | refine blk_drewN ?_ _ | refine blk_drew ?_ | refine blk_alloc ?_ _)); refine blk_put (cs := #[.int .i64 ((rd_T96 t106 x40_1).f0), .int .i64 ((rd_T96 t106 x40_1).f1), .int .i64 ((rd_T96 t106 x40_1).f2), .int .i64 0, .int .i64 0]) ?_ 3 _ rfl; (with_reducible repeat (first | refine blk_drewN ?_ _ | refine blk_drew ?_ | refine blk_alloc ?_ _)); refine blk_put (cs := #[.int .i64 ((rd_T96 t106 x40_1).f0), .int .i64 ((rd_T96 t106 x40_1).f1), .int .i64 0, .int .i64 0, .int .i64 0]) ?_ 2 _ rfl; (with_reducible repeat (first | refine blk_drewN ?_ _ | refine blk_drew ?_ | refine blk_alloc ?_ _)); refine blk_put (cs := #[.int .i64 ((rd_T96 t106 x40_1).f0), .int .i64 0, .int .i64 0, .int .i64 0, .int .i64 0]) ?_ 1 _ rfl; (with_reducible repeat (first | refine blk_drewN ?_ _ | refine blk_drew ?_ | refine blk_alloc ?_ _)); refine blk_put (cs := #[.int .i64 0, .int .i64 0, .int .i64 0, .int .i64 0, .int .i64 0]) ?_ 0 _ rfl; (with_reducible repeat (first | refine blk_drewN ?_ _ | refine blk_drew ?_ | refine blk_alloc ?_ _)); exact BK110.out) : p := h
theorem d32b {p : Prop} (h : p := by (with_reducible repeat (first | refine blk_drewN ?_ _ | refine blk_drew ?_ | refine blk_alloc ?_ _)); refine blk_far ?_ NB101_110.out _; (with_reducible repeat (first | refine blk_drewN ?_ _ | refine blk_drew ?_ | refine blk_alloc ?_ _)); refine blk_far ?_ NB101_110.out _; (with_reducible repeat (first | refine blk_drewN ?_ _ | refine blk_drew ?_ | refine blk_alloc ?_ _)); refine blk_far ?_ NB101_110.out _; (with_reducible repeat (first | refine blk_drewN ?_ _ | refine blk_drew ?_ | refine blk_alloc ?_ _)); refine blk_far ?_ NB101_110.out _; (with_reducible repeat (first | refine blk_drewN ?_ _ | refine blk_drew ?_ | refine blk_alloc ?_ _)); refine blk_far ?_ NB101_110.out _; (with_reducible repeat (first | refine blk_drewN ?_ _ | refine blk_drew ?_ | refine blk_alloc ?_ _)); exact BK101.out) : p := h
theorem d32c {p : Prop} (h : p := by (with_reducible repeat (first | apply Kd.R_alloc | apply Kd.R_drewN | apply Kd.R_drew)); exact Kd.R_mono (Kd.R_far (p := ⟨gb110, 4, none⟩) (Kd.R_far (p := ⟨gb110, 3, none⟩) (Kd.R_far (p := ⟨gb110, 2, none⟩) (Kd.R_far (p := ⟨gb110, 1, none⟩) (Kd.R_far (p := ⟨gb110, 0, none⟩) (Kd.R_mono HO_38.out (fun k_ hk => (⟨hk, hk.2⟩ : _ ∧ k_ ≠ gb110))) (fun _ hk => hk.2) (.int .i64 ((rd_T96 t106 x40_1).f0))) (fun _ hk => hk.2) (.int .i64 ((rd_T96 t106 x40_1).f1))) (fun _ hk => hk.2) (.int .i64 ((rd_T96 t106 x40_1).f2))) (fun _ hk => hk.2) (.int .i64 ((rd_T96 t106 x40_1).f3))) (fun _ hk => hk.2) (.int .i64 ((rd_T96 t106 x40_1).f4))) (fun _ hk => hk.1.2)) : p := h
theorem d32d {p : Prop} (h : p := by (with_reducible repeat (first | apply Kd.R_alloc | apply Kd.R_drewN | apply Kd.R_drew)); exact Kd.R_mono (Kd.R_far (p := ⟨gb110, 4, none⟩) (Kd.R_far (p := ⟨gb110, 3, none⟩) (Kd.R_far (p := ⟨gb110, 2, none⟩) (Kd.R_far (p := ⟨gb110, 1, none⟩) (Kd.R_far (p := ⟨gb110, 0, none⟩) (Kd.R_types HO_13.out BK110.out (by decide)) (fun _ hk => hk.2) (.int .i64 ((rd_T96 t106 x40_1).f0))) (fun _ hk => hk.2) (.int .i64 ((rd_T96 t106 x40_1).f1))) (fun _ hk => hk.2) (.int .i64 ((rd_T96 t106 x40_1).f2))) (fun _ hk => hk.2) (.int .i64 ((rd_T96 t106 x40_1).f3))) (fun _ hk => hk.2) (.int .i64 ((rd_T96 t106 x40_1).f4))) (fun _ hk => trivial)) : p := h
theorem d32e {p : Prop} (h : p := by repeat (first | (with_reducible first | exact HB.out | apply below_alloc | apply pw_below_drewN | apply below_drew1 | refine below_set ?_ GE101.out | refine below_set ?_ GE110.out) | exact HB.out)) : p := h
theorem d32f {p : Prop} (h : p := by repeat (first | (with_reducible first | exact HB.out | apply below_alloc | apply pw_below_drewN | apply below_drew1 | refine below_set ?_ GE101.out) | exact HB.out)) : p := h
theorem d32g {p : Prop} (h : p := by (try simp only [List.map_toArray, List.map_cons, List.map_nil]); first | done | rfl | (simp only [List.length_drop, List.length_take]; rfl)) : p := h
theorem d32h {p : Prop} (h : p := by (with_reducible repeat (first | apply Kd.R_alloc | apply Kd.R_drewN | apply Kd.R_drew)); exact Kd.R_mono HO_38.out (fun _ hk => trivial)) : p := h
theorem d32i {p : Prop} (h : p := by repeat (first | (with_reducible first | exact HB.out | apply below_alloc | apply pw_below_drewN | apply below_drew1) | exact HB.out)) : p := h
theorem d32j {p : Prop} (h : p := by (with_reducible repeat (first | refine blk_drewN ?_ _ | refine blk_drew ?_ | refine blk_alloc ?_ _)); exact BK101.out) : p := h
theorem d32k {p : Prop} (h : p := by (with_reducible repeat (first | refine blk_drewN ?_ _ | refine blk_drew ?_ | refine blk_alloc ?_ _)); exact BK110.out) : p := h
theorem d32l {p : Prop} (h : p := by (with_reducible repeat (first | apply Kd.R_alloc | apply Kd.R_drewN | apply Kd.R_drew)); exact HO_13.out) : p := h
theorem d32m {p : Prop} (h : p := by (with_reducible repeat (first | apply Kd.R_alloc | apply Kd.R_drewN | apply Kd.R_drew)); exact HO_38.out) : p := h
theorem d32n {p : Prop} (h : p := by first | rfl | (simp [errW_none, errW_some] <;> rfl) | (simp [*, errW_none, errW_some] <;> rfl)) : p := h
theorem d32o {p : Prop} (h : p := by first | (with_reducible assumption) | assumption) : p := h
theorem d32p {p : Prop} (h : p := by first | rfl | (simp; done) | (simp [*]; done)) : p := h
theorem d32q {p : Prop} (h : p := by first | (go_simp; done) | (go_simp; rfl)) : p := h
theorem d32r {p : Prop} (h : p := by exact C_go (Kd.C_below HR1.out HB.out)) : p := h
theorem d32s {p : Prop} (h : p := by exact C_go (Kd.C_below HR2.out HB.out)) : p := h
theorem d32t {p : Prop} (h : p := by exact C_go (Kd.C_below HR3.out HB.out)) : p := h
set_option maxHeartbeats 8000000 in
set_option maxRecDepth 100000 in
theorem perigeeref9_Follow.calls (k : Nat) (a0_0 : Int) (a0_1 : Int) (a0_2 : Int) (a0_3 : Int) (a0_4 : Int) (A1 : Option Addr) (c1 : Nat) (l1 : List (S72)) (A2 : Option Addr) (c2 : Nat) (l2 : List (S76)) (A3 : Option Addr) (c3 : Nat) (l3 : List (S47)) (a4 : Int) (r1 : List (S42)) (r2 : Int) (w : World) (hr1 : Kd.C k72 w A1 l1.length l1) (hc1 : l1.length ≤ c1) (hr2 : Kd.C k76 w A2 l2.length l2) (hc2 : l2.length ≤ c2) (hr3 : Kd.C k47 w A3 l3.length l3) (hc3 : l3.length ≤ c3) (h : perigeeref9_Follow.f k a0_0 a0_1 a0_2 a0_3 a0_4 l1 l2 l3 a4 = some (r1, r2)) :
 Calls Try.prog 32 #[.agg #[.int .i64 a0_0, .int .i64 a0_1, .int .i64 a0_2, .int .i64 a0_3, .int .i64 a0_4], .slice A1 l1.length c1, .slice A2 l2.length c2, .slice A3 l3.length c3, .int .i64 a4] w fun e w' => ∃ v0_ : Value, e = .returned (.tuple #[v0_, .int .i64 r2]) ∧ Kd.R k42 42 w' w.heap.size (fun _ => True) v0_ r1 ∧ Below w.heap.size w w' := by
 have hu23 := Try.underlying23
 have hu42 := Try.underlying42
 have hu96 := Try.underlying96
 have HR1 := Aside0.mk hr1
 have HC1 := Aside0.mk hc1
 clear hr1 hc1
 have HR2 := Aside0.mk hr2
 have HC2 := Aside0.mk hc2
 clear hr2 hc2
 have HR3 := Aside0.mk hr3
 have HC3 := Aside0.mk hc3
 clear hr3 hc3
 have HB := Aside0.mk (Below.refl w.heap.size w)
 have H : ((perigeeref9_ask.f k a0_0 a0_1 a0_2 a0_3 a0_4 l1 l2 l3 a4).bind fun t102 => (if t102 = 0 then ((perigeeref9_legs.f k a0_0 a0_1 a0_2 a0_3 a0_4 l1 l2 l3 a4).bind fun t106 => (perigeeref9_Follow.l0 k l1 l2 l3 a4 (([(⟨0, a0_1⟩ : S42)] : List (S42))) a0_1 t106 (t106.length : Int) 0 a0_0 a0_1 a0_2 a0_3 a0_4)) else (some (([] : List (S42)), t102)))) = some (r1, r2) := h
 clear h
 replace H := bindS H; obtain ⟨t102, A6, H⟩ := H
 by_cases c7 : t102 = 0
 · rw [if_pos c7] at H
   have c7b0 : (t102 == 0) = true := beq_iff_eq.mpr c7
   have c7b1 : (t102 != 0) = false := bne_eq_false_iff_eq.mpr c7
   clear c7
   obtain ⟨y103, hy103⟩ : ∃ y_ : List (S42), y_ = (([(⟨0, a0_1⟩ : S42)] : List (S42))) := ⟨_, rfl⟩
   replace H : ((perigeeref9_legs.f k a0_0 a0_1 a0_2 a0_3 a0_4 l1 l2 l3 a4).bind fun t106 => (perigeeref9_Follow.l0 k l1 l2 l3 a4 y103 a0_1 t106 (t106.length : Int) 0 a0_0 a0_1 a0_2 a0_3 a0_4)) = some (r1, r2) := by first | (rw [hy103]; with_reducible exact H) | (have H2_ := (Option.bind_some _ _).symm.trans H; rw [hy103]; with_reducible exact H2_) | (have H2_ := (Option.bind_some _ _).symm.trans H; with_reducible exact H2_) | with_reducible exact H | (rw [hy103]; exact H) | exact H
   have Ny103 := Aside0.mk hy103
   clear hy103
   replace H := bindS H; obtain ⟨t106, A8, H⟩ := H
   have H' := Aside0.mk H
   clear H
   go_enter Try.func32, Try.ntmps32
   go_wp2_with (first | ((with_reducible refine gate_dst (N := 5) rfl ?_); (try (refine gate_guard (by rfl) ?_; dsimp only)); refine box_event ?hg (N := 5) ?hd (cs := #[.int .i64 a0_0, .int .i64 a0_1, .int .i64 a0_2, .int .i64 a0_3, .int .i64 a0_4]) (t := 23) ?hr ?_; (case hd => rfl); (case hg => rfl); (case hr => exact d32q); intro gb101 hg w9 hbox hb; have n0_ := Aside0.mk (below_step d32i hb); have n1_ := Aside0.mk (hbox); have n2_ := Aside0.mk ((by rw [hg]; exact (below_size d32i) : w.heap.size ≤ gb101)); have n3_ := Aside0.mk ((by rw [hg]; exact (below_size d32i) : w.heap.size ≤ gb101)); clear HB; have HB := n0_; have BK101 := n1_; have GW101 := n2_; have GE101 := n3_; clear n0_ n1_ n2_ n3_; clear hb hbox hg; have hcz10_0 : w9.cell? ⟨gb101, 0, none⟩ = some (.int .i64 a0_0) := (blk_cell BK101.out 0).trans rfl; have hcz10_1 : w9.cell? ⟨gb101, 1, none⟩ = some (.int .i64 a0_1) := (blk_cell BK101.out 1).trans rfl; have hcz10_2 : w9.cell? ⟨gb101, 2, none⟩ = some (.int .i64 a0_2) := (blk_cell BK101.out 2).trans rfl; have hcz10_3 : w9.cell? ⟨gb101, 3, none⟩ = some (.int .i64 a0_3) := (blk_cell BK101.out 3).trans rfl; have hcz10_4 : w9.cell? ⟨gb101, 4, none⟩ = some (.int .i64 a0_4) := (blk_cell BK101.out 4).trans rfl; have hfz10_0 := blk_frozen BK101.out 0; have hfz10_1 := blk_frozen BK101.out 1; have hfz10_2 := blk_frozen BK101.out 2; have hfz10_3 := blk_frozen BK101.out 3; have hfz10_4 := blk_frozen BK101.out 4) | ((with_reducible refine gate_callee (f := 70) rfl ?_); refine goesL_ (some 23) rfl rfl Try.func70 (by kernel_rfl) rfl #[.agg #[.int .i64 a0_0, .int .i64 a0_1, .int .i64 a0_2, .int .i64 a0_3, .int .i64 a0_4], .slice A1 l1.length c1, .slice A2 l2.length c2, .slice A3 l3.length c3, .int .i64 a4] rfl d32g ?_; (with_reducible refine (perigeeref9_ask.calls k a0_0 a0_1 a0_2 a0_3 a0_4 _ _ l1 _ _ l2 _ _ l3 a4 t102 _ ?side1 ?side2 ?side3 ?side4 ?side5 ?side6 A6.out).mono ?_); (case side1 => exact d32r); (case side2 => exact HC1.out); (case side3 => exact d32s); (case side4 => exact HC2.out); (case side5 => exact d32t); (case side6 => exact HC3.out); rintro e w11 ⟨rfl, hb⟩; refine ⟨_, rfl, ?_⟩; have n0_ := Aside0.mk (blk_below (g := gb101) (o := .cells #[.int .i64 a0_0, .int .i64 a0_1, .int .i64 a0_2, .int .i64 a0_3, .int .i64 a0_4] 23 (0, 0)) d32j hb); have n1_ := Aside0.mk (below_step d32f hb); clear BK101; clear HB; have BK101 := n0_; have HB := n1_; clear n0_ n1_; (try clear hb); have hcz12_0 : w11.cell? ⟨gb101, 0, none⟩ = some (.int .i64 a0_0) := (blk_cell BK101.out 0).trans rfl; have hcz12_1 : w11.cell? ⟨gb101, 1, none⟩ = some (.int .i64 a0_1) := (blk_cell BK101.out 1).trans rfl; have hcz12_2 : w11.cell? ⟨gb101, 2, none⟩ = some (.int .i64 a0_2) := (blk_cell BK101.out 2).trans rfl; have hcz12_3 : w11.cell? ⟨gb101, 3, none⟩ = some (.int .i64 a0_3) := (blk_cell BK101.out 3).trans rfl; have hcz12_4 : w11.cell? ⟨gb101, 4, none⟩ = some (.int .i64 a0_4) := (blk_cell BK101.out 4).trans rfl; have hfz12_0 := blk_frozen BK101.out 0; have hfz12_1 := blk_frozen BK101.out 1; have hfz12_2 := blk_frozen BK101.out 2; have hfz12_3 := blk_frozen BK101.out 3; have hfz12_4 := blk_frozen BK101.out 4) | ((with_reducible refine gate_dst (N := 30) rfl ?_); (try (refine gate_guard (by rfl) ?_; dsimp only)); refine Kd.R_lit k42 _ 42 ?hg (N := 30) ?hd (xs := ([(⟨0, a0_1⟩ : S42)] : List (S42))) (inner := [.int .i64 0, .int .i64 a0_1]) (ok := fun _ => True) (okp := fun _ => True) ?hr ?hp (fun _ hk => hk) trivial (Below.refl _ _) (Nat.le_refl _) (by simp) ?_; (case hd => rfl); (case hg => rfl); (case hr => exact d32q); (case hp => exact (Reps.c2 (show Kd.M k42 _ _ _ (⟨0, a0_1⟩ : S42) [.int .i64 0, .int .i64 a0_1] from (k42_mkM _ _ _ (⟨0, a0_1⟩ : S42) )) (Reps.none _ _))); intro v104 w13 ho14 hb hg_ hnew_; clear hg_ hnew_; (first | rw [← Ny103.out] at ho14 | (simp only [Int.reduceToNat] at ho14; rw [← Ny103.out] at ho14)); have n0_ := Aside0.mk (Kd.R_lower ho14 (below_size d32f)); have n1_ := Aside0.mk (blk_below (g := gb101) (o := .cells #[.int .i64 a0_0, .int .i64 a0_1, .int .i64 a0_2, .int .i64 a0_3, .int .i64 a0_4] 23 (0, 0)) d32j hb); have n2_ := Aside0.mk (below_step d32f hb); clear BK101; clear HB; have HO105 := n0_; have BK101 := n1_; have HB := n2_; clear n0_ n1_ n2_; clear hb ho14; have hcz15_0 : w13.cell? ⟨gb101, 0, none⟩ = some (.int .i64 a0_0) := (blk_cell BK101.out 0).trans rfl; have hcz15_1 : w13.cell? ⟨gb101, 1, none⟩ = some (.int .i64 a0_1) := (blk_cell BK101.out 1).trans rfl; have hcz15_2 : w13.cell? ⟨gb101, 2, none⟩ = some (.int .i64 a0_2) := (blk_cell BK101.out 2).trans rfl; have hcz15_3 : w13.cell? ⟨gb101, 3, none⟩ = some (.int .i64 a0_3) := (blk_cell BK101.out 3).trans rfl; have hcz15_4 : w13.cell? ⟨gb101, 4, none⟩ = some (.int .i64 a0_4) := (blk_cell BK101.out 4).trans rfl; have hfz15_0 := blk_frozen BK101.out 0; have hfz15_1 := blk_frozen BK101.out 1; have hfz15_2 := blk_frozen BK101.out 2; have hfz15_3 := blk_frozen BK101.out 3; have hfz15_4 := blk_frozen BK101.out 4) | ((with_reducible refine gate_callee (f := 71) rfl ?_); refine goesL_ (some 38) rfl rfl Try.func71 (by kernel_rfl) rfl #[.agg #[.int .i64 a0_0, .int .i64 a0_1, .int .i64 a0_2, .int .i64 a0_3, .int .i64 a0_4], .slice A1 l1.length c1, .slice A2 l2.length c2, .slice A3 l3.length c3, .int .i64 a4] rfl d32g ?_; (with_reducible refine (perigeeref9_legs.calls k a0_0 a0_1 a0_2 a0_3 a0_4 _ _ l1 _ _ l2 _ _ l3 a4 t106 _ ?side1 ?side2 ?side3 ?side4 ?side5 ?side6 A8.out).mono ?_); (case side1 => exact d32r); (case side2 => exact HC1.out); (case side3 => exact d32s); (case side4 => exact HC2.out); (case side5 => exact d32t); (case side6 => exact HC3.out); rintro e w16 ⟨v107, rfl, ho0, hb⟩; refine ⟨_, rfl, ?_⟩; have n0_ := Aside0.mk (Kd.R_below (by (with_reducible repeat (first | apply Kd.R_alloc | apply Kd.R_drewN | apply Kd.R_drew)); exact HO105.out) hb); have n1_ := Aside0.mk (Kd.R_lower ho0 (below_size d32f)); have n2_ := Aside0.mk (blk_below (g := gb101) (o := .cells #[.int .i64 a0_0, .int .i64 a0_1, .int .i64 a0_2, .int .i64 a0_3, .int .i64 a0_4] 23 (0, 0)) d32j hb); have n3_ := Aside0.mk (below_step d32f hb); clear HO105; clear BK101; clear HB; have HO105 := n0_; have HO108 := n1_; have BK101 := n2_; have HB := n3_; clear n0_ n1_ n2_ n3_; (try clear hb); (try clear ho0); obtain ⟨Ao17, co17, eo17⟩ := Kd.R_slice HO108.out; subst eo17))
   go_loopg [13, 14, 40] k (fun kq v13 v14 v40 w' => ∃ (x13_1 : List (S42)) (x14_1 : Int) (x40_1 : Int), v14 = .int .i64 x14_1 ∧ v40 = .int .i64 x40_1 ∧ Aside0 (perigeeref9_Follow.l0 kq l1 l2 l3 a4 x13_1 x14_1 t106 (t106.length : Int) x40_1 a0_0 a0_1 a0_2 a0_3 a0_4 = some (r1, r2)) ∧ Aside0 (kq ≤ k) ∧ Aside0 (Kd.R k42 42 w' w.heap.size (fun _ => True) v13 x13_1) ∧ Aside0 (Kd.R k96 96 w' w.heap.size (fun _ => True) (.slice Ao17 t106.length co17) t106) ∧ Aside0 (w'.heap[gb101]? = some (.cells #[.int .i64 a0_0, .int .i64 a0_1, .int .i64 a0_2, .int .i64 a0_3, .int .i64 a0_4] 23 (0, 0))) ∧ Aside0 (Below w.heap.size w w'))
   case atStart => exact ⟨(y103), (a0_1), (0), d32p, d32p, H', ⟨Nat.le_refl _⟩, ⟨by (with_reducible repeat (first | apply Kd.R_alloc | apply Kd.R_drewN | apply Kd.R_drew)); exact HO105.out⟩, ⟨by (with_reducible repeat (first | apply Kd.R_alloc | apply Kd.R_drewN | apply Kd.R_drew)); exact HO108.out⟩, ⟨d32j⟩, ⟨d32f⟩⟩
   case round =>
    clear H'
    try clear c7b0
    try clear c7b1
    try clear hcz10_0
    try clear hcz10_1
    try clear hcz10_2
    try clear hcz10_3
    try clear hcz10_4
    try clear hcz12_0
    try clear hcz12_1
    try clear hcz12_2
    try clear hcz12_3
    try clear hcz12_4
    try clear hcz15_0
    try clear hcz15_1
    try clear hcz15_2
    try clear hcz15_3
    try clear hcz15_4
    try clear hfz10_0
    try clear hfz10_1
    try clear hfz10_2
    try clear hfz10_3
    try clear hfz10_4
    try clear hfz12_0
    try clear hfz12_1
    try clear hfz12_2
    try clear hfz12_3
    try clear hfz12_4
    try clear hfz15_0
    try clear hfz15_1
    try clear hfz15_2
    try clear hfz15_3
    try clear hfz15_4
    obtain ⟨x13_1, x14_1, x40_1, rfl, rfl, HA, HK1, HO_13, HO_38, BK101, HB⟩ := hrel
    cases gk with
    | zero => exact absurd HA.out (by simp [perigeeref9_Follow.l0])
    | succ k1 =>
     have H := HA.out
     clear HA
     simp only [perigeeref9_Follow.l0] at H
     by_cases c18 : x40_1 < (t106.length : Int)
     · rw [if_pos c18] at H
       have c18b0 : decide (x40_1 < (t106.length : Int)) = true := decide_eq_true c18
       clear c18
       replace H := guardT H; obtain ⟨c19, H⟩ := H
       have c19b0 : decide (0 ≤ x40_1) = true := decide_eq_true c19
       clear c19
       replace H := guardT H; obtain ⟨c20, H⟩ := H
       have c20b0 : decide (x40_1 < (t106.length : Int)) = true := decide_eq_true c20
       clear c20
       by_cases c21 : x40_1 > 0
       · rw [if_pos c21] at H
         have c21b0 : decide (0 < x40_1) = true := decide_eq_true c21
         clear c21
         replace H := bindS H; obtain ⟨t111, A22, H⟩ := H
         by_cases c23 : ((rd_T96 t106 x40_1).f3) = t111
         · rw [if_pos c23] at H
           have c23b0 : (((rd_T96 t106 x40_1).f3) == t111) = true := beq_iff_eq.mpr c23
           have c23b1 : (((rd_T96 t106 x40_1).f3) != t111) = false := bne_eq_false_iff_eq.mpr c23
           clear c23
           have H' := Aside0.mk H
           clear H
           have p109 : 0 ≤ (x40_1 : Int) := of_decide_eq_true d32o
           have q109 : x40_1 < (t106.length : Int) := of_decide_eq_true d32o
           obtain ⟨ad109, e109, hx109_0, hx109_1, hx109_2, hx109_3, hx109_4⟩ := at_T96 (Kd.R_reads' HO_38.out).2.2 x40_1 p109 q109
           cases e109
           replace p109 := eq_true p109
           replace q109 := eq_true q109
           try go_wp2_with ((with_reducible refine gate_dst (N := 16) rfl ?_); (try (refine gate_guard (by rfl) ?_; dsimp only)); refine box_event ?hg (N := 16) ?hd (cs := #[.int .i64 0, .int .i64 0, .int .i64 0, .int .i64 0, .int .i64 0]) (t := 96) ?hr ?_; (case hd => rfl); (case hg => rfl); (case hr => exact d32q); intro gb110 hg w24 hbox hb; have n0_ := Aside0.mk (Kd.R_below d32l hb); have n1_ := Aside0.mk (Kd.R_below (Kd.R_elderB d32m gb110 (Nat.le_of_eq hg.symm)) hb); have n2_ := Aside0.mk (blk_below (g := gb101) (o := .cells #[.int .i64 a0_0, .int .i64 a0_1, .int .i64 a0_2, .int .i64 a0_3, .int .i64 a0_4] 23 (0, 0)) d32j hb); have n3_ := Aside0.mk (below_step d32f hb); have n4_ := Aside0.mk (hbox); have n5_ := Aside0.mk ((by rw [hg]; exact (below_size d32f) : w.heap.size ≤ gb110)); have n6_ := Aside0.mk ((by rw [hg]; exact (below_size d32f) : w.heap.size ≤ gb110)); have n7_ := Aside0.mk ((by rw [hg]; exact Nat.ne_of_lt (blk_lt (g := gb101) (o := .cells #[.int .i64 a0_0, .int .i64 a0_1, .int .i64 a0_2, .int .i64 a0_3, .int .i64 a0_4] 23 (0, 0)) d32j) : gb101 ≠ gb110)); have n8_ := Aside0.mk ((by rw [hg]; exact Nat.ne_of_gt (blk_lt (g := gb101) (o := .cells #[.int .i64 a0_0, .int .i64 a0_1, .int .i64 a0_2, .int .i64 a0_3, .int .i64 a0_4] 23 (0, 0)) d32j) : gb110 ≠ gb101)); clear HO_13; clear HO_38; clear BK101; clear HB; have HO_13 := n0_; have HO_38 := n1_; have BK101 := n2_; have HB := n3_; have BK110 := n4_; have GW110 := n5_; have GE110 := n6_; have NB101_110 := n7_; have NB110_101 := n8_; clear n0_ n1_ n2_ n3_ n4_ n5_ n6_ n7_ n8_; clear hb hbox hg; have hnb25 := NB110_101.out; have hnc25 := NB101_110.out; have hcz26_0 : w24.cell? ⟨gb110, 0, none⟩ = some (.int .i64 0) := (blk_cell BK110.out 0).trans rfl; have hcz26_1 : w24.cell? ⟨gb110, 1, none⟩ = some (.int .i64 0) := (blk_cell BK110.out 1).trans rfl; have hcz26_2 : w24.cell? ⟨gb110, 2, none⟩ = some (.int .i64 0) := (blk_cell BK110.out 2).trans rfl; have hcz26_3 : w24.cell? ⟨gb110, 3, none⟩ = some (.int .i64 0) := (blk_cell BK110.out 3).trans rfl; have hcz26_4 : w24.cell? ⟨gb110, 4, none⟩ = some (.int .i64 0) := (blk_cell BK110.out 4).trans rfl; have hfz26_0 := blk_frozen BK110.out 0; have hfz26_1 := blk_frozen BK110.out 1; have hfz26_2 := blk_frozen BK110.out 2; have hfz26_3 := blk_frozen BK110.out 3; have hfz26_4 := blk_frozen BK110.out 4)
           have n0_ : Aside0 (Kd.R k42 42 (((((w24.setCell ⟨gb110, 0, none⟩ (.int .i64 ((rd_T96 t106 x40_1).f0))).setCell ⟨gb110, 1, none⟩ (.int .i64 ((rd_T96 t106 x40_1).f1))).setCell ⟨gb110, 2, none⟩ (.int .i64 ((rd_T96 t106 x40_1).f2))).setCell ⟨gb110, 3, none⟩ (.int .i64 ((rd_T96 t106 x40_1).f3))).setCell ⟨gb110, 4, none⟩ (.int .i64 ((rd_T96 t106 x40_1).f4))) w.heap.size (fun _ => True) u13 x13_1) := ⟨d32d⟩
           have n1_ : Aside0 (Kd.R k96 96 (((((w24.setCell ⟨gb110, 0, none⟩ (.int .i64 ((rd_T96 t106 x40_1).f0))).setCell ⟨gb110, 1, none⟩ (.int .i64 ((rd_T96 t106 x40_1).f1))).setCell ⟨gb110, 2, none⟩ (.int .i64 ((rd_T96 t106 x40_1).f2))).setCell ⟨gb110, 3, none⟩ (.int .i64 ((rd_T96 t106 x40_1).f3))).setCell ⟨gb110, 4, none⟩ (.int .i64 ((rd_T96 t106 x40_1).f4))) w.heap.size (fun k_ => k_ ≠ gb110) (.slice (some ad109) t106.length co17) t106) := ⟨d32c⟩
           have n2_ : Aside0 ((((((w24.setCell ⟨gb110, 0, none⟩ (.int .i64 ((rd_T96 t106 x40_1).f0))).setCell ⟨gb110, 1, none⟩ (.int .i64 ((rd_T96 t106 x40_1).f1))).setCell ⟨gb110, 2, none⟩ (.int .i64 ((rd_T96 t106 x40_1).f2))).setCell ⟨gb110, 3, none⟩ (.int .i64 ((rd_T96 t106 x40_1).f3))).setCell ⟨gb110, 4, none⟩ (.int .i64 ((rd_T96 t106 x40_1).f4))).heap[gb101]? = some (.cells #[.int .i64 a0_0, .int .i64 a0_1, .int .i64 a0_2, .int .i64 a0_3, .int .i64 a0_4] 23 (0, 0))) := ⟨d32b⟩
           have n3_ : Aside0 ((((((w24.setCell ⟨gb110, 0, none⟩ (.int .i64 ((rd_T96 t106 x40_1).f0))).setCell ⟨gb110, 1, none⟩ (.int .i64 ((rd_T96 t106 x40_1).f1))).setCell ⟨gb110, 2, none⟩ (.int .i64 ((rd_T96 t106 x40_1).f2))).setCell ⟨gb110, 3, none⟩ (.int .i64 ((rd_T96 t106 x40_1).f3))).setCell ⟨gb110, 4, none⟩ (.int .i64 ((rd_T96 t106 x40_1).f4))).heap[gb110]? = some (.cells #[.int .i64 ((rd_T96 t106 x40_1).f0), .int .i64 ((rd_T96 t106 x40_1).f1), .int .i64 ((rd_T96 t106 x40_1).f2), .int .i64 ((rd_T96 t106 x40_1).f3), .int .i64 ((rd_T96 t106 x40_1).f4)] 96 (0, 0))) := ⟨d32a⟩
           have n4_ : Aside0 (Below w.heap.size w (((((w24.setCell ⟨gb110, 0, none⟩ (.int .i64 ((rd_T96 t106 x40_1).f0))).setCell ⟨gb110, 1, none⟩ (.int .i64 ((rd_T96 t106 x40_1).f1))).setCell ⟨gb110, 2, none⟩ (.int .i64 ((rd_T96 t106 x40_1).f2))).setCell ⟨gb110, 3, none⟩ (.int .i64 ((rd_T96 t106 x40_1).f3))).setCell ⟨gb110, 4, none⟩ (.int .i64 ((rd_T96 t106 x40_1).f4)))) := ⟨d32e⟩
           (try clear HO_13)
           (try clear HO_38)
           (try clear BK101)
           (try clear BK110)
           (try clear HB)
           generalize (((((w24.setCell ⟨gb110, 0, none⟩ (.int .i64 ((rd_T96 t106 x40_1).f0))).setCell ⟨gb110, 1, none⟩ (.int .i64 ((rd_T96 t106 x40_1).f1))).setCell ⟨gb110, 2, none⟩ (.int .i64 ((rd_T96 t106 x40_1).f2))).setCell ⟨gb110, 3, none⟩ (.int .i64 ((rd_T96 t106 x40_1).f3))).setCell ⟨gb110, 4, none⟩ (.int .i64 ((rd_T96 t106 x40_1).f4))) = w27 at n0_ n1_ n2_ n3_ n4_ ⊢
           have HO_13 := n0_
           have HO_38 := n1_
           have BK101 := n2_
           have BK110 := n3_
           have HB := n4_
           clear n0_ n1_ n2_ n3_ n4_
           have n0_ := Aside0.mk (Kd.R_drew HO_13.out)
           have n1_ := Aside0.mk (Kd.R_drew HO_38.out)
           have n2_ := Aside0.mk (blk_drew BK101.out)
           have n3_ := Aside0.mk (blk_drew BK110.out)
           have n4_ := Aside0.mk (below_drew1 HB.out)
           clear HO_13
           clear HO_38
           clear BK101
           clear BK110
           clear HB
           have HO_13 := n0_
           have HO_38 := n1_
           have BK101 := n2_
           have BK110 := n3_
           have HB := n4_
           clear n0_ n1_ n2_ n3_ n4_
           refine start_ (n := 15) (S := fun w' => w'.cell? ⟨gb110, 0, none⟩ = some (.int .i64 ((rd_T96 t106 x40_1).f0)) ∧ w'.cell? ⟨gb110, 1, none⟩ = some (.int .i64 ((rd_T96 t106 x40_1).f1)) ∧ w'.cell? ⟨gb110, 2, none⟩ = some (.int .i64 ((rd_T96 t106 x40_1).f2)) ∧ w'.cell? ⟨gb110, 3, none⟩ = some (.int .i64 ((rd_T96 t106 x40_1).f3)) ∧ w'.cell? ⟨gb110, 4, none⟩ = some (.int .i64 ((rd_T96 t106 x40_1).f4)) ∧ w'.cell? ⟨gb101, 0, none⟩ = some (.int .i64 a0_0) ∧ w'.cell? ⟨gb101, 1, none⟩ = some (.int .i64 a0_1) ∧ w'.cell? ⟨gb101, 2, none⟩ = some (.int .i64 a0_2) ∧ w'.cell? ⟨gb101, 3, none⟩ = some (.int .i64 a0_3) ∧ w'.cell? ⟨gb101, 4, none⟩ = some (.int .i64 a0_4)) (ds := []) #[false, false, false, false, false, false, false, false, false, false, false, false, false, false, false] (by kernel_rfl) rfl rfl ⟨(blk_cell BK110.out 0).trans rfl, (blk_cell BK110.out 1).trans rfl, (blk_cell BK110.out 2).trans rfl, (blk_cell BK110.out 3).trans rfl, (blk_cell BK110.out 4).trans rfl, (blk_cell BK101.out 0).trans rfl, (blk_cell BK101.out 1).trans rfl, (blk_cell BK101.out 2).trans rfl, (blk_cell BK101.out 3).trans rfl, (blk_cell BK101.out 4).trans rfl⟩ (fun hHeld => ?_); refine with_tabW perigeeref9_Follow.tab9 perigeeref9_Follow.bits9 (fun HT_ HW_ => ?_)
           generalize w27.drew = w28 at HO_13 HO_38 BK101 BK110 HB hHeld ⊢
           refine pure_ (i := 0) (N := some 45) (v := ?_) (a' := ?_) #[true, false, false, false, false, false, false, false, false, false, false, false, false, false, false] rfl rfl (any_of HT_.out (by kernel_rfl)) (fun _ _ _ h => h) (Or.inl ⟨by rfl, ?_⟩) ?_ ?_
           rotate_left
           · intro w'
             go_simp
             with_reducible rfl
           rotate_left
           · simp only [Act.put, List.setIfInBounds_toArray, List.set_cons_zero, List.set_cons_succ, i64_w, i32_w]
             rfl
           refine pure_ (i := 1) (N := some 46) (v := ?_) (a' := ?_) #[true, true, false, false, false, false, false, false, false, false, false, false, false, false, false] rfl rfl (any_of HT_.out (by kernel_rfl)) (fun _ _ _ h => h) (Or.inl ⟨by rfl, ?_⟩) ?_ ?_
           rotate_left
           · intro w'
             go_simp
             with_reducible rfl
           rotate_left
           · simp only [Act.put, List.setIfInBounds_toArray, List.set_cons_zero, List.set_cons_succ, i64_w, i32_w]
             rfl
           refine pure_ (i := 2) (N := some 47) (v := ?_) (a' := ?_) #[true, true, true, false, false, false, false, false, false, false, false, false, false, false, false] rfl rfl (any_of HT_.out (by kernel_rfl)) (fun _ _ _ h => h) (Or.inl ⟨by rfl, ?_⟩) ?_ ?_
           rotate_left
           · intro w'
             go_simp
             with_reducible rfl
           rotate_left
           · simp only [Act.put, List.setIfInBounds_toArray, List.set_cons_zero, List.set_cons_succ, i64_w, i32_w]
             rfl
           refine pure_ (i := 3) (N := some 48) (v := ?_) (a' := ?_) #[true, true, true, true, false, false, false, false, false, false, false, false, false, false, false] rfl rfl (any_of HT_.out (by kernel_rfl)) (fun _ _ _ h => h) (Or.inl ⟨by rfl, ?_⟩) ?_ ?_
           rotate_left
           · intro w'
             go_simp
             with_reducible rfl
           rotate_left
           · simp only [Act.put, List.setIfInBounds_toArray, List.set_cons_zero, List.set_cons_succ, i64_w, i32_w]
             rfl
           refine pure_ (i := 6) (N := some 51) (v := ?_) (a' := ?_) #[true, true, true, true, false, false, true, false, false, false, false, false, false, false, false] rfl rfl (any_of HT_.out (by kernel_rfl)) (fun _ _ _ h => h) (Or.inl ⟨by rfl, ?_⟩) ?_ ?_
           rotate_left
           · intro w'
             go_simp
             with_reducible rfl
           rotate_left
           · simp only [Act.put, List.setIfInBounds_toArray, List.set_cons_zero, List.set_cons_succ, i64_w, i32_w]
             rfl
           refine pure_ (i := 7) (N := some 52) (v := ?_) (a' := ?_) #[true, true, true, true, false, false, true, true, false, false, false, false, false, false, false] rfl rfl (any_of HT_.out (by kernel_rfl)) (fun _ _ _ h => h) (Or.inl ⟨by rfl, ?_⟩) ?_ ?_
           rotate_left
           · intro w'
             go_simp
             with_reducible rfl
           rotate_left
           · simp only [Act.put, List.setIfInBounds_toArray, List.set_cons_zero, List.set_cons_succ, i64_w, i32_w]
             rfl
           refine pure_ (i := 8) (N := some 53) (v := ?_) (a' := ?_) #[true, true, true, true, false, false, true, true, true, false, false, false, false, false, false] rfl rfl (any_of HT_.out (by kernel_rfl)) (fun _ _ _ h => h) (Or.inl ⟨by rfl, ?_⟩) ?_ ?_
           rotate_left
           · intro w'
             go_simp
             with_reducible rfl
           rotate_left
           · simp only [Act.put, List.setIfInBounds_toArray, List.set_cons_zero, List.set_cons_succ, i64_w, i32_w]
             rfl
           refine pure_ (i := 9) (N := some 54) (v := ?_) (a' := ?_) #[true, true, true, true, false, false, true, true, true, true, false, false, false, false, false] rfl rfl (any_of HT_.out (by kernel_rfl)) (fun _ _ _ h => h) (Or.inl ⟨by rfl, ?_⟩) ?_ ?_
           rotate_left
           · intro w'
             go_simp
             with_reducible rfl
           rotate_left
           · simp only [Act.put, List.setIfInBounds_toArray, List.set_cons_zero, List.set_cons_succ, i64_w, i32_w]
             rfl
           refine take_ (i := 4) (N := some 49) (v := ?_) (a' := ?_) #[true, true, true, true, true, false, true, true, true, true, false, false, false, false, false] rfl rfl (take_ofW HT_.out HW_.out (by kernel_rfl)) (fun _ _ _ h => h) (Or.inl ⟨by rfl, ?_⟩) hHeld ?_ ?_
           rotate_left
           · rintro w' ⟨s0, s1, s2, s3, s4, s5, s6, s7, s8, s9⟩
             go_simp
             with_reducible rfl
           rotate_left
           · simp only [Act.put, List.setIfInBounds_toArray, List.set_cons_zero, List.set_cons_succ, i64_w, i32_w]
             rfl
           refine take_ (i := 5) (N := some 50) (v := ?_) (a' := ?_) #[true, true, true, true, true, true, true, true, true, true, false, false, false, false, false] rfl rfl (take_ofW HT_.out HW_.out (by kernel_rfl)) (fun _ _ _ h => h) (Or.inl ⟨by rfl, ?_⟩) hHeld ?_ ?_
           rotate_left
           · rintro w' ⟨s0, s1, s2, s3, s4, s5, s6, s7, s8, s9⟩
             go_simp
             with_reducible rfl
           rotate_left
           · simp only [Act.put, List.setIfInBounds_toArray, List.set_cons_zero, List.set_cons_succ, i64_w, i32_w]
             rfl
           refine take_ (i := 10) (N := some 55) (v := ?_) (a' := ?_) #[true, true, true, true, true, true, true, true, true, true, true, false, false, false, false] rfl rfl (take_ofW HT_.out HW_.out (by kernel_rfl)) (fun _ _ _ h => h) (Or.inl ⟨by rfl, ?_⟩) hHeld ?_ ?_
           rotate_left
           · rintro w' ⟨s0, s1, s2, s3, s4, s5, s6, s7, s8, s9⟩
             go_simp
             with_reducible rfl
           rotate_left
           · simp only [Act.put, List.setIfInBounds_toArray, List.set_cons_zero, List.set_cons_succ, i64_w, i32_w]
             rfl
           refine pure_ (i := 11) (N := some 56) (v := ?_) (a' := ?_) #[true, true, true, true, true, true, true, true, true, true, true, true, false, false, false] rfl rfl (any_of HT_.out (by kernel_rfl)) (fun _ _ _ h => h) (Or.inl ⟨by rfl, ?_⟩) ?_ ?_
           rotate_left
           · intro w'
             go_simp
             with_reducible rfl
           rotate_left
           · simp only [Act.put, List.setIfInBounds_toArray, List.set_cons_zero, List.set_cons_succ, i64_w, i32_w]
             rfl
           refine one_ (i := 12) (N := some 57) #[true, true, true, true, true, true, true, true, true, true, true, true, true, false, false] rfl rfl (one_of HT_.out (by kernel_rfl)) (by decide) (fun K hK => ?_)
           refine goes_ Try.func72 (by kernel_rfl) rfl #[.agg #[.int .i64 a0_0, .int .i64 a0_1, .int .i64 a0_2, .int .i64 a0_3, .int .i64 a0_4], .slice A1 l1.length c1, .slice A2 l2.length c2, .slice A3 l3.length c3, .int .i64 (wrap64 (((rd_T96 t106 x40_1).f0) - 1))] (by rfl) rfl rfl d32g ?_
           with_reducible refine (perigeeref9_change.calls k1 a0_0 a0_1 a0_2 a0_3 a0_4 _ _ l1 _ _ l2 _ _ l3 (wrap64 (((rd_T96 t106 x40_1).f0) - 1)) t111 _ ?side1 ?side2 ?side3 ?side4 ?side5 ?side6 A22.out).mono ?_
           (case side1 => exact d32r)
           (case side2 => exact HC1.out)
           (case side3 => exact d32s)
           (case side4 => exact HC2.out)
           (case side5 => exact d32t)
           (case side6 => exact HC3.out)
           rintro e w29 ⟨rfl, hb⟩
           refine ⟨_, rfl, ?_⟩
           have n0_ := Aside0.mk (Kd.R_below d32l hb)
           have n1_ := Aside0.mk (Kd.R_below d32m hb)
           have n2_ := Aside0.mk (blk_below (g := gb101) (o := .cells #[.int .i64 a0_0, .int .i64 a0_1, .int .i64 a0_2, .int .i64 a0_3, .int .i64 a0_4] 23 (0, 0)) d32j hb)
           have n3_ := Aside0.mk (blk_below (g := gb110) (o := .cells #[.int .i64 ((rd_T96 t106 x40_1).f0), .int .i64 ((rd_T96 t106 x40_1).f1), .int .i64 ((rd_T96 t106 x40_1).f2), .int .i64 ((rd_T96 t106 x40_1).f3), .int .i64 ((rd_T96 t106 x40_1).f4)] 96 (0, 0)) d32k hb)
           have n4_ := Aside0.mk (below_step d32e hb)
           clear HO_13
           clear HO_38
           clear BK101
           clear BK110
           clear HB
           have HO_13 := n0_
           have HO_38 := n1_
           have BK101 := n2_
           have BK110 := n3_
           have HB := n4_
           clear n0_ n1_ n2_ n3_ n4_
           (try clear hb)
           skip
           skip
           skip
           refine hK.out _ _ ⟨(blk_cell BK110.out 0).trans rfl, (blk_cell BK110.out 1).trans rfl, (blk_cell BK110.out 2).trans rfl, (blk_cell BK110.out 3).trans rfl, (blk_cell BK110.out 4).trans rfl, (blk_cell BK101.out 0).trans rfl, (blk_cell BK101.out 1).trans rfl, (blk_cell BK101.out 2).trans rfl, (blk_cell BK101.out 3).trans rfl, (blk_cell BK101.out 4).trans rfl⟩ (fun hHeld => ?_)
           clear hK K
           refine norm_ (a' := ?_) ?_ ?_
           rotate_left
           · show Act.put _ (some 57) _ = _
             simp only [Act.put, List.setIfInBounds_toArray, List.set_cons_zero, List.set_cons_succ, i64_w, i32_w]
             rfl
           refine pure_ (i := 13) (N := some 58) (v := ?_) (a' := ?_) #[true, true, true, true, true, true, true, true, true, true, true, true, true, true, false] rfl rfl (any_of HT_.out (by kernel_rfl)) (fun _ _ _ h => h) (Or.inl ⟨by rfl, ?_⟩) ?_ ?_
           rotate_left
           · intro w'
             go_simp
             with_reducible rfl
           rotate_left
           · simp only [Act.put, List.setIfInBounds_toArray, List.set_cons_zero, List.set_cons_succ, i64_w, i32_w]
             rfl
           refine pure_ (i := 14) (N := some 59) (v := ?_) (a' := ?_) #[true, true, true, true, true, true, true, true, true, true, true, true, true, true, true] rfl rfl (any_of HT_.out (by kernel_rfl)) (fun _ _ _ h => h) (Or.inl ⟨by rfl, ?_⟩) ?_ ?_
           rotate_left
           · intro w'
             go_simp
             with_reducible rfl
           rotate_left
           · simp only [Act.put, List.setIfInBounds_toArray, List.set_cons_zero, List.set_cons_succ, i64_w, i32_w]
             rfl
           refine done_ (done_of HT_.out (by kernel_rfl)) ?_
           obtain ⟨hcz30_0, hcz30_1, hcz30_2, hcz30_3, hcz30_4⟩ := blkC5 BK110.out
           have hfz30_0 := blk_frozen BK110.out 0
           have hfz30_1 := blk_frozen BK110.out 1
           have hfz30_2 := blk_frozen BK110.out 2
           have hfz30_3 := blk_frozen BK110.out 3
           have hfz30_4 := blk_frozen BK110.out 4
           try go_wp2
           go_roundg k1
           case measure => have := HK1.out; omega
           case rel => exact ⟨(x13_1), ((rd_T96 t106 x40_1).f4), (wrap64 (x40_1 + 1)), d32p, d32p, H', ⟨by have := HK1.out; omega⟩, ⟨d32l⟩, ⟨d32h⟩, ⟨d32j⟩, ⟨d32e⟩⟩
         · rw [if_neg c23] at H
           have c23b0 : (((rd_T96 t106 x40_1).f3) == t111) = false := beq_eq_false_iff_ne.mpr c23
           have c23b1 : (((rd_T96 t106 x40_1).f3) != t111) = true := bne_iff_ne.mpr c23
           replace H := guardT H; obtain ⟨c31, H⟩ := H
           have LMc31 := Aside0.mk c31
           clear c31
           obtain ⟨y112, hy112⟩ : ∃ y_ : List (S42), y_ = (x13_1 ++ [(⟨(rd_T96 t106 x40_1).f0, (rd_T96 t106 x40_1).f2⟩ : S42)]) := ⟨_, rfl⟩
           replace H : (perigeeref9_Follow.l0 k1 l1 l2 l3 a4 y112 ((rd_T96 t106 x40_1).f4) t106 (t106.length : Int) (wrap64 (x40_1 + 1)) a0_0 a0_1 a0_2 a0_3 a0_4) = some (r1, r2) := by first | (rw [hy112]; with_reducible exact H) | (have H2_ := (Option.bind_some _ _).symm.trans H; rw [hy112]; with_reducible exact H2_) | (have H2_ := (Option.bind_some _ _).symm.trans H; with_reducible exact H2_) | with_reducible exact H | (rw [hy112]; exact H) | exact H
           have Ny112 := Aside0.mk hy112
           clear hy112
           have H' := Aside0.mk H
           clear H
           have p109 : 0 ≤ (x40_1 : Int) := of_decide_eq_true d32o
           have q109 : x40_1 < (t106.length : Int) := of_decide_eq_true d32o
           obtain ⟨ad109, e109, hx109_0, hx109_1, hx109_2, hx109_3, hx109_4⟩ := at_T96 (Kd.R_reads' HO_38.out).2.2 x40_1 p109 q109
           cases e109
           replace p109 := eq_true p109
           replace q109 := eq_true q109
           try go_wp2_with ((with_reducible refine gate_dst (N := 16) rfl ?_); (try (refine gate_guard (by rfl) ?_; dsimp only)); refine box_event ?hg (N := 16) ?hd (cs := #[.int .i64 0, .int .i64 0, .int .i64 0, .int .i64 0, .int .i64 0]) (t := 96) ?hr ?_; (case hd => rfl); (case hg => rfl); (case hr => exact d32q); intro gb110 hg w32 hbox hb; have n0_ := Aside0.mk (Kd.R_below d32l hb); have n1_ := Aside0.mk (Kd.R_below (Kd.R_elderB d32m gb110 (Nat.le_of_eq hg.symm)) hb); have n2_ := Aside0.mk (blk_below (g := gb101) (o := .cells #[.int .i64 a0_0, .int .i64 a0_1, .int .i64 a0_2, .int .i64 a0_3, .int .i64 a0_4] 23 (0, 0)) d32j hb); have n3_ := Aside0.mk (below_step d32f hb); have n4_ := Aside0.mk (hbox); have n5_ := Aside0.mk ((by rw [hg]; exact (below_size d32f) : w.heap.size ≤ gb110)); have n6_ := Aside0.mk ((by rw [hg]; exact (below_size d32f) : w.heap.size ≤ gb110)); have n7_ := Aside0.mk ((by rw [hg]; exact Nat.ne_of_lt (blk_lt (g := gb101) (o := .cells #[.int .i64 a0_0, .int .i64 a0_1, .int .i64 a0_2, .int .i64 a0_3, .int .i64 a0_4] 23 (0, 0)) d32j) : gb101 ≠ gb110)); have n8_ := Aside0.mk ((by rw [hg]; exact Nat.ne_of_gt (blk_lt (g := gb101) (o := .cells #[.int .i64 a0_0, .int .i64 a0_1, .int .i64 a0_2, .int .i64 a0_3, .int .i64 a0_4] 23 (0, 0)) d32j) : gb110 ≠ gb101)); clear HO_13; clear HO_38; clear BK101; clear HB; have HO_13 := n0_; have HO_38 := n1_; have BK101 := n2_; have HB := n3_; have BK110 := n4_; have GW110 := n5_; have GE110 := n6_; have NB101_110 := n7_; have NB110_101 := n8_; clear n0_ n1_ n2_ n3_ n4_ n5_ n6_ n7_ n8_; clear hb hbox hg; have hnb33 := NB110_101.out; have hnc33 := NB101_110.out; have hcz34_0 : w32.cell? ⟨gb110, 0, none⟩ = some (.int .i64 0) := (blk_cell BK110.out 0).trans rfl; have hcz34_1 : w32.cell? ⟨gb110, 1, none⟩ = some (.int .i64 0) := (blk_cell BK110.out 1).trans rfl; have hcz34_2 : w32.cell? ⟨gb110, 2, none⟩ = some (.int .i64 0) := (blk_cell BK110.out 2).trans rfl; have hcz34_3 : w32.cell? ⟨gb110, 3, none⟩ = some (.int .i64 0) := (blk_cell BK110.out 3).trans rfl; have hcz34_4 : w32.cell? ⟨gb110, 4, none⟩ = some (.int .i64 0) := (blk_cell BK110.out 4).trans rfl; have hfz34_0 := blk_frozen BK110.out 0; have hfz34_1 := blk_frozen BK110.out 1; have hfz34_2 := blk_frozen BK110.out 2; have hfz34_3 := blk_frozen BK110.out 3; have hfz34_4 := blk_frozen BK110.out 4)
           have n0_ : Aside0 (Kd.R k42 42 (((((w32.setCell ⟨gb110, 0, none⟩ (.int .i64 ((rd_T96 t106 x40_1).f0))).setCell ⟨gb110, 1, none⟩ (.int .i64 ((rd_T96 t106 x40_1).f1))).setCell ⟨gb110, 2, none⟩ (.int .i64 ((rd_T96 t106 x40_1).f2))).setCell ⟨gb110, 3, none⟩ (.int .i64 ((rd_T96 t106 x40_1).f3))).setCell ⟨gb110, 4, none⟩ (.int .i64 ((rd_T96 t106 x40_1).f4))) w.heap.size (fun _ => True) u13 x13_1) := ⟨d32d⟩
           have n1_ : Aside0 (Kd.R k96 96 (((((w32.setCell ⟨gb110, 0, none⟩ (.int .i64 ((rd_T96 t106 x40_1).f0))).setCell ⟨gb110, 1, none⟩ (.int .i64 ((rd_T96 t106 x40_1).f1))).setCell ⟨gb110, 2, none⟩ (.int .i64 ((rd_T96 t106 x40_1).f2))).setCell ⟨gb110, 3, none⟩ (.int .i64 ((rd_T96 t106 x40_1).f3))).setCell ⟨gb110, 4, none⟩ (.int .i64 ((rd_T96 t106 x40_1).f4))) w.heap.size (fun k_ => k_ ≠ gb110) (.slice (some ad109) t106.length co17) t106) := ⟨d32c⟩
           have n2_ : Aside0 ((((((w32.setCell ⟨gb110, 0, none⟩ (.int .i64 ((rd_T96 t106 x40_1).f0))).setCell ⟨gb110, 1, none⟩ (.int .i64 ((rd_T96 t106 x40_1).f1))).setCell ⟨gb110, 2, none⟩ (.int .i64 ((rd_T96 t106 x40_1).f2))).setCell ⟨gb110, 3, none⟩ (.int .i64 ((rd_T96 t106 x40_1).f3))).setCell ⟨gb110, 4, none⟩ (.int .i64 ((rd_T96 t106 x40_1).f4))).heap[gb101]? = some (.cells #[.int .i64 a0_0, .int .i64 a0_1, .int .i64 a0_2, .int .i64 a0_3, .int .i64 a0_4] 23 (0, 0))) := ⟨d32b⟩
           have n3_ : Aside0 ((((((w32.setCell ⟨gb110, 0, none⟩ (.int .i64 ((rd_T96 t106 x40_1).f0))).setCell ⟨gb110, 1, none⟩ (.int .i64 ((rd_T96 t106 x40_1).f1))).setCell ⟨gb110, 2, none⟩ (.int .i64 ((rd_T96 t106 x40_1).f2))).setCell ⟨gb110, 3, none⟩ (.int .i64 ((rd_T96 t106 x40_1).f3))).setCell ⟨gb110, 4, none⟩ (.int .i64 ((rd_T96 t106 x40_1).f4))).heap[gb110]? = some (.cells #[.int .i64 ((rd_T96 t106 x40_1).f0), .int .i64 ((rd_T96 t106 x40_1).f1), .int .i64 ((rd_T96 t106 x40_1).f2), .int .i64 ((rd_T96 t106 x40_1).f3), .int .i64 ((rd_T96 t106 x40_1).f4)] 96 (0, 0))) := ⟨d32a⟩
           have n4_ : Aside0 (Below w.heap.size w (((((w32.setCell ⟨gb110, 0, none⟩ (.int .i64 ((rd_T96 t106 x40_1).f0))).setCell ⟨gb110, 1, none⟩ (.int .i64 ((rd_T96 t106 x40_1).f1))).setCell ⟨gb110, 2, none⟩ (.int .i64 ((rd_T96 t106 x40_1).f2))).setCell ⟨gb110, 3, none⟩ (.int .i64 ((rd_T96 t106 x40_1).f3))).setCell ⟨gb110, 4, none⟩ (.int .i64 ((rd_T96 t106 x40_1).f4)))) := ⟨d32e⟩
           (try clear HO_13)
           (try clear HO_38)
           (try clear BK101)
           (try clear BK110)
           (try clear HB)
           generalize (((((w32.setCell ⟨gb110, 0, none⟩ (.int .i64 ((rd_T96 t106 x40_1).f0))).setCell ⟨gb110, 1, none⟩ (.int .i64 ((rd_T96 t106 x40_1).f1))).setCell ⟨gb110, 2, none⟩ (.int .i64 ((rd_T96 t106 x40_1).f2))).setCell ⟨gb110, 3, none⟩ (.int .i64 ((rd_T96 t106 x40_1).f3))).setCell ⟨gb110, 4, none⟩ (.int .i64 ((rd_T96 t106 x40_1).f4))) = w35 at n0_ n1_ n2_ n3_ n4_ ⊢
           have HO_13 := n0_
           have HO_38 := n1_
           have BK101 := n2_
           have BK110 := n3_
           have HB := n4_
           clear n0_ n1_ n2_ n3_ n4_
           have n0_ := Aside0.mk (Kd.R_drew HO_13.out)
           have n1_ := Aside0.mk (Kd.R_drew HO_38.out)
           have n2_ := Aside0.mk (blk_drew BK101.out)
           have n3_ := Aside0.mk (blk_drew BK110.out)
           have n4_ := Aside0.mk (below_drew1 HB.out)
           clear HO_13
           clear HO_38
           clear BK101
           clear BK110
           clear HB
           have HO_13 := n0_
           have HO_38 := n1_
           have BK101 := n2_
           have BK110 := n3_
           have HB := n4_
           clear n0_ n1_ n2_ n3_ n4_
           refine start_ (n := 15) (S := fun w' => w'.cell? ⟨gb110, 0, none⟩ = some (.int .i64 ((rd_T96 t106 x40_1).f0)) ∧ w'.cell? ⟨gb110, 1, none⟩ = some (.int .i64 ((rd_T96 t106 x40_1).f1)) ∧ w'.cell? ⟨gb110, 2, none⟩ = some (.int .i64 ((rd_T96 t106 x40_1).f2)) ∧ w'.cell? ⟨gb110, 3, none⟩ = some (.int .i64 ((rd_T96 t106 x40_1).f3)) ∧ w'.cell? ⟨gb110, 4, none⟩ = some (.int .i64 ((rd_T96 t106 x40_1).f4)) ∧ w'.cell? ⟨gb101, 0, none⟩ = some (.int .i64 a0_0) ∧ w'.cell? ⟨gb101, 1, none⟩ = some (.int .i64 a0_1) ∧ w'.cell? ⟨gb101, 2, none⟩ = some (.int .i64 a0_2) ∧ w'.cell? ⟨gb101, 3, none⟩ = some (.int .i64 a0_3) ∧ w'.cell? ⟨gb101, 4, none⟩ = some (.int .i64 a0_4)) (ds := []) #[false, false, false, false, false, false, false, false, false, false, false, false, false, false, false] (by kernel_rfl) rfl rfl ⟨(blk_cell BK110.out 0).trans rfl, (blk_cell BK110.out 1).trans rfl, (blk_cell BK110.out 2).trans rfl, (blk_cell BK110.out 3).trans rfl, (blk_cell BK110.out 4).trans rfl, (blk_cell BK101.out 0).trans rfl, (blk_cell BK101.out 1).trans rfl, (blk_cell BK101.out 2).trans rfl, (blk_cell BK101.out 3).trans rfl, (blk_cell BK101.out 4).trans rfl⟩ (fun hHeld => ?_); refine with_tabW perigeeref9_Follow.tab9 perigeeref9_Follow.bits9 (fun HT_ HW_ => ?_)
           generalize w35.drew = w36 at HO_13 HO_38 BK101 BK110 HB hHeld ⊢
           refine pure_ (i := 0) (N := some 45) (v := ?_) (a' := ?_) #[true, false, false, false, false, false, false, false, false, false, false, false, false, false, false] rfl rfl (any_of HT_.out (by kernel_rfl)) (fun _ _ _ h => h) (Or.inl ⟨by rfl, ?_⟩) ?_ ?_
           rotate_left
           · intro w'
             go_simp
             with_reducible rfl
           rotate_left
           · simp only [Act.put, List.setIfInBounds_toArray, List.set_cons_zero, List.set_cons_succ, i64_w, i32_w]
             rfl
           refine pure_ (i := 1) (N := some 46) (v := ?_) (a' := ?_) #[true, true, false, false, false, false, false, false, false, false, false, false, false, false, false] rfl rfl (any_of HT_.out (by kernel_rfl)) (fun _ _ _ h => h) (Or.inl ⟨by rfl, ?_⟩) ?_ ?_
           rotate_left
           · intro w'
             go_simp
             with_reducible rfl
           rotate_left
           · simp only [Act.put, List.setIfInBounds_toArray, List.set_cons_zero, List.set_cons_succ, i64_w, i32_w]
             rfl
           refine pure_ (i := 2) (N := some 47) (v := ?_) (a' := ?_) #[true, true, true, false, false, false, false, false, false, false, false, false, false, false, false] rfl rfl (any_of HT_.out (by kernel_rfl)) (fun _ _ _ h => h) (Or.inl ⟨by rfl, ?_⟩) ?_ ?_
           rotate_left
           · intro w'
             go_simp
             with_reducible rfl
           rotate_left
           · simp only [Act.put, List.setIfInBounds_toArray, List.set_cons_zero, List.set_cons_succ, i64_w, i32_w]
             rfl
           refine pure_ (i := 3) (N := some 48) (v := ?_) (a' := ?_) #[true, true, true, true, false, false, false, false, false, false, false, false, false, false, false] rfl rfl (any_of HT_.out (by kernel_rfl)) (fun _ _ _ h => h) (Or.inl ⟨by rfl, ?_⟩) ?_ ?_
           rotate_left
           · intro w'
             go_simp
             with_reducible rfl
           rotate_left
           · simp only [Act.put, List.setIfInBounds_toArray, List.set_cons_zero, List.set_cons_succ, i64_w, i32_w]
             rfl
           refine pure_ (i := 6) (N := some 51) (v := ?_) (a' := ?_) #[true, true, true, true, false, false, true, false, false, false, false, false, false, false, false] rfl rfl (any_of HT_.out (by kernel_rfl)) (fun _ _ _ h => h) (Or.inl ⟨by rfl, ?_⟩) ?_ ?_
           rotate_left
           · intro w'
             go_simp
             with_reducible rfl
           rotate_left
           · simp only [Act.put, List.setIfInBounds_toArray, List.set_cons_zero, List.set_cons_succ, i64_w, i32_w]
             rfl
           refine pure_ (i := 7) (N := some 52) (v := ?_) (a' := ?_) #[true, true, true, true, false, false, true, true, false, false, false, false, false, false, false] rfl rfl (any_of HT_.out (by kernel_rfl)) (fun _ _ _ h => h) (Or.inl ⟨by rfl, ?_⟩) ?_ ?_
           rotate_left
           · intro w'
             go_simp
             with_reducible rfl
           rotate_left
           · simp only [Act.put, List.setIfInBounds_toArray, List.set_cons_zero, List.set_cons_succ, i64_w, i32_w]
             rfl
           refine pure_ (i := 8) (N := some 53) (v := ?_) (a' := ?_) #[true, true, true, true, false, false, true, true, true, false, false, false, false, false, false] rfl rfl (any_of HT_.out (by kernel_rfl)) (fun _ _ _ h => h) (Or.inl ⟨by rfl, ?_⟩) ?_ ?_
           rotate_left
           · intro w'
             go_simp
             with_reducible rfl
           rotate_left
           · simp only [Act.put, List.setIfInBounds_toArray, List.set_cons_zero, List.set_cons_succ, i64_w, i32_w]
             rfl
           refine pure_ (i := 9) (N := some 54) (v := ?_) (a' := ?_) #[true, true, true, true, false, false, true, true, true, true, false, false, false, false, false] rfl rfl (any_of HT_.out (by kernel_rfl)) (fun _ _ _ h => h) (Or.inl ⟨by rfl, ?_⟩) ?_ ?_
           rotate_left
           · intro w'
             go_simp
             with_reducible rfl
           rotate_left
           · simp only [Act.put, List.setIfInBounds_toArray, List.set_cons_zero, List.set_cons_succ, i64_w, i32_w]
             rfl
           refine take_ (i := 4) (N := some 49) (v := ?_) (a' := ?_) #[true, true, true, true, true, false, true, true, true, true, false, false, false, false, false] rfl rfl (take_ofW HT_.out HW_.out (by kernel_rfl)) (fun _ _ _ h => h) (Or.inl ⟨by rfl, ?_⟩) hHeld ?_ ?_
           rotate_left
           · rintro w' ⟨s0, s1, s2, s3, s4, s5, s6, s7, s8, s9⟩
             go_simp
             with_reducible rfl
           rotate_left
           · simp only [Act.put, List.setIfInBounds_toArray, List.set_cons_zero, List.set_cons_succ, i64_w, i32_w]
             rfl
           refine take_ (i := 5) (N := some 50) (v := ?_) (a' := ?_) #[true, true, true, true, true, true, true, true, true, true, false, false, false, false, false] rfl rfl (take_ofW HT_.out HW_.out (by kernel_rfl)) (fun _ _ _ h => h) (Or.inl ⟨by rfl, ?_⟩) hHeld ?_ ?_
           rotate_left
           · rintro w' ⟨s0, s1, s2, s3, s4, s5, s6, s7, s8, s9⟩
             go_simp
             with_reducible rfl
           rotate_left
           · simp only [Act.put, List.setIfInBounds_toArray, List.set_cons_zero, List.set_cons_succ, i64_w, i32_w]
             rfl
           refine take_ (i := 10) (N := some 55) (v := ?_) (a' := ?_) #[true, true, true, true, true, true, true, true, true, true, true, false, false, false, false] rfl rfl (take_ofW HT_.out HW_.out (by kernel_rfl)) (fun _ _ _ h => h) (Or.inl ⟨by rfl, ?_⟩) hHeld ?_ ?_
           rotate_left
           · rintro w' ⟨s0, s1, s2, s3, s4, s5, s6, s7, s8, s9⟩
             go_simp
             with_reducible rfl
           rotate_left
           · simp only [Act.put, List.setIfInBounds_toArray, List.set_cons_zero, List.set_cons_succ, i64_w, i32_w]
             rfl
           refine pure_ (i := 11) (N := some 56) (v := ?_) (a' := ?_) #[true, true, true, true, true, true, true, true, true, true, true, true, false, false, false] rfl rfl (any_of HT_.out (by kernel_rfl)) (fun _ _ _ h => h) (Or.inl ⟨by rfl, ?_⟩) ?_ ?_
           rotate_left
           · intro w'
             go_simp
             with_reducible rfl
           rotate_left
           · simp only [Act.put, List.setIfInBounds_toArray, List.set_cons_zero, List.set_cons_succ, i64_w, i32_w]
             rfl
           refine one_ (i := 12) (N := some 57) #[true, true, true, true, true, true, true, true, true, true, true, true, true, false, false] rfl rfl (one_of HT_.out (by kernel_rfl)) (by decide) (fun K hK => ?_)
           refine goes_ Try.func72 (by kernel_rfl) rfl #[.agg #[.int .i64 a0_0, .int .i64 a0_1, .int .i64 a0_2, .int .i64 a0_3, .int .i64 a0_4], .slice A1 l1.length c1, .slice A2 l2.length c2, .slice A3 l3.length c3, .int .i64 (wrap64 (((rd_T96 t106 x40_1).f0) - 1))] (by rfl) rfl rfl d32g ?_
           with_reducible refine (perigeeref9_change.calls k1 a0_0 a0_1 a0_2 a0_3 a0_4 _ _ l1 _ _ l2 _ _ l3 (wrap64 (((rd_T96 t106 x40_1).f0) - 1)) t111 _ ?side1 ?side2 ?side3 ?side4 ?side5 ?side6 A22.out).mono ?_
           (case side1 => exact d32r)
           (case side2 => exact HC1.out)
           (case side3 => exact d32s)
           (case side4 => exact HC2.out)
           (case side5 => exact d32t)
           (case side6 => exact HC3.out)
           rintro e w37 ⟨rfl, hb⟩
           refine ⟨_, rfl, ?_⟩
           have n0_ := Aside0.mk (Kd.R_below d32l hb)
           have n1_ := Aside0.mk (Kd.R_below d32m hb)
           have n2_ := Aside0.mk (blk_below (g := gb101) (o := .cells #[.int .i64 a0_0, .int .i64 a0_1, .int .i64 a0_2, .int .i64 a0_3, .int .i64 a0_4] 23 (0, 0)) d32j hb)
           have n3_ := Aside0.mk (blk_below (g := gb110) (o := .cells #[.int .i64 ((rd_T96 t106 x40_1).f0), .int .i64 ((rd_T96 t106 x40_1).f1), .int .i64 ((rd_T96 t106 x40_1).f2), .int .i64 ((rd_T96 t106 x40_1).f3), .int .i64 ((rd_T96 t106 x40_1).f4)] 96 (0, 0)) d32k hb)
           have n4_ := Aside0.mk (below_step d32e hb)
           clear HO_13
           clear HO_38
           clear BK101
           clear BK110
           clear HB
           have HO_13 := n0_
           have HO_38 := n1_
           have BK101 := n2_
           have BK110 := n3_
           have HB := n4_
           clear n0_ n1_ n2_ n3_ n4_
           (try clear hb)
           skip
           skip
           skip
           refine hK.out _ _ ⟨(blk_cell BK110.out 0).trans rfl, (blk_cell BK110.out 1).trans rfl, (blk_cell BK110.out 2).trans rfl, (blk_cell BK110.out 3).trans rfl, (blk_cell BK110.out 4).trans rfl, (blk_cell BK101.out 0).trans rfl, (blk_cell BK101.out 1).trans rfl, (blk_cell BK101.out 2).trans rfl, (blk_cell BK101.out 3).trans rfl, (blk_cell BK101.out 4).trans rfl⟩ (fun hHeld => ?_)
           clear hK K
           refine norm_ (a' := ?_) ?_ ?_
           rotate_left
           · show Act.put _ (some 57) _ = _
             simp only [Act.put, List.setIfInBounds_toArray, List.set_cons_zero, List.set_cons_succ, i64_w, i32_w]
             rfl
           refine pure_ (i := 13) (N := some 58) (v := ?_) (a' := ?_) #[true, true, true, true, true, true, true, true, true, true, true, true, true, true, false] rfl rfl (any_of HT_.out (by kernel_rfl)) (fun _ _ _ h => h) (Or.inl ⟨by rfl, ?_⟩) ?_ ?_
           rotate_left
           · intro w'
             go_simp
             with_reducible rfl
           rotate_left
           · simp only [Act.put, List.setIfInBounds_toArray, List.set_cons_zero, List.set_cons_succ, i64_w, i32_w]
             rfl
           refine pure_ (i := 14) (N := some 59) (v := ?_) (a' := ?_) #[true, true, true, true, true, true, true, true, true, true, true, true, true, true, true] rfl rfl (any_of HT_.out (by kernel_rfl)) (fun _ _ _ h => h) (Or.inl ⟨by rfl, ?_⟩) ?_ ?_
           rotate_left
           · intro w'
             go_simp
             with_reducible rfl
           rotate_left
           · simp only [Act.put, List.setIfInBounds_toArray, List.set_cons_zero, List.set_cons_succ, i64_w, i32_w]
             rfl
           refine done_ (done_of HT_.out (by kernel_rfl)) ?_
           obtain ⟨hcz38_0, hcz38_1, hcz38_2, hcz38_3, hcz38_4⟩ := blkC5 BK110.out
           have hfz38_0 := blk_frozen BK110.out 0
           have hfz38_1 := blk_frozen BK110.out 1
           have hfz38_2 := blk_frozen BK110.out 2
           have hfz38_3 := blk_frozen BK110.out 3
           have hfz38_4 := blk_frozen BK110.out 4
           try go_wp2_with ((with_reducible refine gate_builtin (b := .append) (xs := #[.tmp 60, .tmp 66]) rfl ?_); (try (refine gate_guard (by rfl) ?_; dsimp only)); at_builtin; refine Kd.R_append k42 (w0 := w) w.heap.size rfl (.tmp 60) (.tmp 66) 38 42 (.agg #[(.int .i64 0), (.int .i64 0)]) 16 rfl Try.underlying38 info42 rfl (by decide) (by omega) u13 x13_1 (⟨(rd_T96 t106 x40_1).f0, (rd_T96 t106 x40_1).f2⟩ : S42) [.int .i64 ((rd_T96 t106 x40_1).f0), .int .i64 ((rd_T96 t106 x40_1).f2)] (fun _ => True) (fun _ => False) rfl rfl ?aP (fun _ hk => hk.elim) ?aF ?aO ?aB ?aS ?aL ?_; (case aP => exact k42_mkM _ _ _ (⟨(rd_T96 t106 x40_1).f0, (rd_T96 t106 x40_1).f2⟩ : S42)); (case aB => exact d32e); (case aF => exact (fun _ _ => trivial)); (case aO => exact d32l); (case aS => exact (below_size d32e)); (case aL => have := LMc31.out; omega); intro v113 w39 ho hb hg hat; rw [← Ny112.out] at ho; have n0_ := Aside0.mk (Kd.R_over' d32m (Kd.R_typed d32l) (by decide) hg); have n1_ := Aside0.mk (blk_grown (g := gb101) (o := .cells #[.int .i64 a0_0, .int .i64 a0_1, .int .i64 a0_2, .int .i64 a0_3, .int .i64 a0_4] 23 (0, 0)) d32j hg (Kd.R_ne HO_13.out BK101.out (by decide))); have n2_ := Aside0.mk (blk_grown (g := gb110) (o := .cells #[.int .i64 ((rd_T96 t106 x40_1).f0), .int .i64 ((rd_T96 t106 x40_1).f1), .int .i64 ((rd_T96 t106 x40_1).f2), .int .i64 ((rd_T96 t106 x40_1).f3), .int .i64 ((rd_T96 t106 x40_1).f4)] 96 (0, 0)) d32k hg (Kd.R_ne HO_13.out BK110.out (by decide))); have n3_ := Aside0.mk (hb); have n4_ := Aside0.mk (ho); clear HO_38; clear BK101; clear BK110; clear HB; clear HO_13; have HO_38 := n0_; have BK101 := n1_; have BK110 := n2_; have HB := n3_; have HO114 := n4_; clear n0_ n1_ n2_ n3_ n4_; clear ho hb hg hat; have hcz40_0 : w39.cell? ⟨gb110, 0, none⟩ = some (.int .i64 ((rd_T96 t106 x40_1).f0)) := (blk_cell BK110.out 0).trans rfl; have hcz40_1 : w39.cell? ⟨gb110, 1, none⟩ = some (.int .i64 ((rd_T96 t106 x40_1).f1)) := (blk_cell BK110.out 1).trans rfl; have hcz40_2 : w39.cell? ⟨gb110, 2, none⟩ = some (.int .i64 ((rd_T96 t106 x40_1).f2)) := (blk_cell BK110.out 2).trans rfl; have hcz40_3 : w39.cell? ⟨gb110, 3, none⟩ = some (.int .i64 ((rd_T96 t106 x40_1).f3)) := (blk_cell BK110.out 3).trans rfl; have hcz40_4 : w39.cell? ⟨gb110, 4, none⟩ = some (.int .i64 ((rd_T96 t106 x40_1).f4)) := (blk_cell BK110.out 4).trans rfl; have hfz40_0 := blk_frozen BK110.out 0; have hfz40_1 := blk_frozen BK110.out 1; have hfz40_2 := blk_frozen BK110.out 2; have hfz40_3 := blk_frozen BK110.out 3; have hfz40_4 := blk_frozen BK110.out 4)
           go_roundg k1
           case measure => have := HK1.out; omega
           case rel => exact ⟨(y112), ((rd_T96 t106 x40_1).f4), (wrap64 (x40_1 + 1)), d32p, d32p, H', ⟨by have := HK1.out; omega⟩, ⟨by (with_reducible repeat (first | apply Kd.R_alloc | apply Kd.R_drewN | apply Kd.R_drew)); exact HO114.out⟩, ⟨d32h⟩, ⟨d32j⟩, ⟨d32e⟩⟩
       · rw [if_neg c21] at H
         have c21b0 : decide (0 < x40_1) = false := decide_eq_false c21
         clear c21
         have H' := Aside0.mk H
         clear H
         have p109 : 0 ≤ (x40_1 : Int) := of_decide_eq_true d32o
         have q109 : x40_1 < (t106.length : Int) := of_decide_eq_true d32o
         obtain ⟨ad109, e109, hx109_0, hx109_1, hx109_2, hx109_3, hx109_4⟩ := at_T96 (Kd.R_reads' HO_38.out).2.2 x40_1 p109 q109
         cases e109
         replace p109 := eq_true p109
         replace q109 := eq_true q109
         try go_wp2_with ((with_reducible refine gate_dst (N := 16) rfl ?_); (try (refine gate_guard (by rfl) ?_; dsimp only)); refine box_event ?hg (N := 16) ?hd (cs := #[.int .i64 0, .int .i64 0, .int .i64 0, .int .i64 0, .int .i64 0]) (t := 96) ?hr ?_; (case hd => rfl); (case hg => rfl); (case hr => exact d32q); intro gb110 hg w41 hbox hb; have n0_ := Aside0.mk (Kd.R_below d32l hb); have n1_ := Aside0.mk (Kd.R_below (Kd.R_elderB d32m gb110 (Nat.le_of_eq hg.symm)) hb); have n2_ := Aside0.mk (blk_below (g := gb101) (o := .cells #[.int .i64 a0_0, .int .i64 a0_1, .int .i64 a0_2, .int .i64 a0_3, .int .i64 a0_4] 23 (0, 0)) d32j hb); have n3_ := Aside0.mk (below_step d32f hb); have n4_ := Aside0.mk (hbox); have n5_ := Aside0.mk ((by rw [hg]; exact (below_size d32f) : w.heap.size ≤ gb110)); have n6_ := Aside0.mk ((by rw [hg]; exact (below_size d32f) : w.heap.size ≤ gb110)); have n7_ := Aside0.mk ((by rw [hg]; exact Nat.ne_of_lt (blk_lt (g := gb101) (o := .cells #[.int .i64 a0_0, .int .i64 a0_1, .int .i64 a0_2, .int .i64 a0_3, .int .i64 a0_4] 23 (0, 0)) d32j) : gb101 ≠ gb110)); have n8_ := Aside0.mk ((by rw [hg]; exact Nat.ne_of_gt (blk_lt (g := gb101) (o := .cells #[.int .i64 a0_0, .int .i64 a0_1, .int .i64 a0_2, .int .i64 a0_3, .int .i64 a0_4] 23 (0, 0)) d32j) : gb110 ≠ gb101)); clear HO_13; clear HO_38; clear BK101; clear HB; have HO_13 := n0_; have HO_38 := n1_; have BK101 := n2_; have HB := n3_; have BK110 := n4_; have GW110 := n5_; have GE110 := n6_; have NB101_110 := n7_; have NB110_101 := n8_; clear n0_ n1_ n2_ n3_ n4_ n5_ n6_ n7_ n8_; clear hb hbox hg; have hnb42 := NB110_101.out; have hnc42 := NB101_110.out; have hcz43_0 : w41.cell? ⟨gb110, 0, none⟩ = some (.int .i64 0) := (blk_cell BK110.out 0).trans rfl; have hcz43_1 : w41.cell? ⟨gb110, 1, none⟩ = some (.int .i64 0) := (blk_cell BK110.out 1).trans rfl; have hcz43_2 : w41.cell? ⟨gb110, 2, none⟩ = some (.int .i64 0) := (blk_cell BK110.out 2).trans rfl; have hcz43_3 : w41.cell? ⟨gb110, 3, none⟩ = some (.int .i64 0) := (blk_cell BK110.out 3).trans rfl; have hcz43_4 : w41.cell? ⟨gb110, 4, none⟩ = some (.int .i64 0) := (blk_cell BK110.out 4).trans rfl; have hfz43_0 := blk_frozen BK110.out 0; have hfz43_1 := blk_frozen BK110.out 1; have hfz43_2 := blk_frozen BK110.out 2; have hfz43_3 := blk_frozen BK110.out 3; have hfz43_4 := blk_frozen BK110.out 4)
         have n0_ : Aside0 (Kd.R k42 42 (((((w41.setCell ⟨gb110, 0, none⟩ (.int .i64 ((rd_T96 t106 x40_1).f0))).setCell ⟨gb110, 1, none⟩ (.int .i64 ((rd_T96 t106 x40_1).f1))).setCell ⟨gb110, 2, none⟩ (.int .i64 ((rd_T96 t106 x40_1).f2))).setCell ⟨gb110, 3, none⟩ (.int .i64 ((rd_T96 t106 x40_1).f3))).setCell ⟨gb110, 4, none⟩ (.int .i64 ((rd_T96 t106 x40_1).f4))) w.heap.size (fun _ => True) u13 x13_1) := ⟨d32d⟩
         have n1_ : Aside0 (Kd.R k96 96 (((((w41.setCell ⟨gb110, 0, none⟩ (.int .i64 ((rd_T96 t106 x40_1).f0))).setCell ⟨gb110, 1, none⟩ (.int .i64 ((rd_T96 t106 x40_1).f1))).setCell ⟨gb110, 2, none⟩ (.int .i64 ((rd_T96 t106 x40_1).f2))).setCell ⟨gb110, 3, none⟩ (.int .i64 ((rd_T96 t106 x40_1).f3))).setCell ⟨gb110, 4, none⟩ (.int .i64 ((rd_T96 t106 x40_1).f4))) w.heap.size (fun k_ => k_ ≠ gb110) (.slice (some ad109) t106.length co17) t106) := ⟨d32c⟩
         have n2_ : Aside0 ((((((w41.setCell ⟨gb110, 0, none⟩ (.int .i64 ((rd_T96 t106 x40_1).f0))).setCell ⟨gb110, 1, none⟩ (.int .i64 ((rd_T96 t106 x40_1).f1))).setCell ⟨gb110, 2, none⟩ (.int .i64 ((rd_T96 t106 x40_1).f2))).setCell ⟨gb110, 3, none⟩ (.int .i64 ((rd_T96 t106 x40_1).f3))).setCell ⟨gb110, 4, none⟩ (.int .i64 ((rd_T96 t106 x40_1).f4))).heap[gb101]? = some (.cells #[.int .i64 a0_0, .int .i64 a0_1, .int .i64 a0_2, .int .i64 a0_3, .int .i64 a0_4] 23 (0, 0))) := ⟨d32b⟩
         have n3_ : Aside0 ((((((w41.setCell ⟨gb110, 0, none⟩ (.int .i64 ((rd_T96 t106 x40_1).f0))).setCell ⟨gb110, 1, none⟩ (.int .i64 ((rd_T96 t106 x40_1).f1))).setCell ⟨gb110, 2, none⟩ (.int .i64 ((rd_T96 t106 x40_1).f2))).setCell ⟨gb110, 3, none⟩ (.int .i64 ((rd_T96 t106 x40_1).f3))).setCell ⟨gb110, 4, none⟩ (.int .i64 ((rd_T96 t106 x40_1).f4))).heap[gb110]? = some (.cells #[.int .i64 ((rd_T96 t106 x40_1).f0), .int .i64 ((rd_T96 t106 x40_1).f1), .int .i64 ((rd_T96 t106 x40_1).f2), .int .i64 ((rd_T96 t106 x40_1).f3), .int .i64 ((rd_T96 t106 x40_1).f4)] 96 (0, 0))) := ⟨d32a⟩
         have n4_ : Aside0 (Below w.heap.size w (((((w41.setCell ⟨gb110, 0, none⟩ (.int .i64 ((rd_T96 t106 x40_1).f0))).setCell ⟨gb110, 1, none⟩ (.int .i64 ((rd_T96 t106 x40_1).f1))).setCell ⟨gb110, 2, none⟩ (.int .i64 ((rd_T96 t106 x40_1).f2))).setCell ⟨gb110, 3, none⟩ (.int .i64 ((rd_T96 t106 x40_1).f3))).setCell ⟨gb110, 4, none⟩ (.int .i64 ((rd_T96 t106 x40_1).f4)))) := ⟨d32e⟩
         (try clear HO_13)
         (try clear HO_38)
         (try clear BK101)
         (try clear BK110)
         (try clear HB)
         generalize (((((w41.setCell ⟨gb110, 0, none⟩ (.int .i64 ((rd_T96 t106 x40_1).f0))).setCell ⟨gb110, 1, none⟩ (.int .i64 ((rd_T96 t106 x40_1).f1))).setCell ⟨gb110, 2, none⟩ (.int .i64 ((rd_T96 t106 x40_1).f2))).setCell ⟨gb110, 3, none⟩ (.int .i64 ((rd_T96 t106 x40_1).f3))).setCell ⟨gb110, 4, none⟩ (.int .i64 ((rd_T96 t106 x40_1).f4))) = w44 at n0_ n1_ n2_ n3_ n4_ ⊢
         have HO_13 := n0_
         have HO_38 := n1_
         have BK101 := n2_
         have BK110 := n3_
         have HB := n4_
         clear n0_ n1_ n2_ n3_ n4_
         have n0_ := Aside0.mk (Kd.R_drew HO_13.out)
         have n1_ := Aside0.mk (Kd.R_drew HO_38.out)
         have n2_ := Aside0.mk (blk_drew BK101.out)
         have n3_ := Aside0.mk (blk_drew BK110.out)
         have n4_ := Aside0.mk (below_drew1 HB.out)
         clear HO_13
         clear HO_38
         clear BK101
         clear BK110
         clear HB
         have HO_13 := n0_
         have HO_38 := n1_
         have BK101 := n2_
         have BK110 := n3_
         have HB := n4_
         clear n0_ n1_ n2_ n3_ n4_
         refine start_ (n := 15) (S := fun w' => True) (ds := []) #[false, false, false, false, false, false, false, false, false, false, false, false, false, false, false] (by kernel_rfl) rfl rfl trivial (fun hHeld => ?_); refine with_tabW perigeeref9_Follow.tab9 perigeeref9_Follow.bits9 (fun HT_ HW_ => ?_)
         generalize w44.drew = w45 at HO_13 HO_38 BK101 BK110 HB hHeld ⊢
         refine pure_ (i := 0) (N := some 45) (v := ?_) (a' := ?_) #[true, false, false, false, false, false, false, false, false, false, false, false, false, false, false] rfl rfl (any_of HT_.out (by kernel_rfl)) (fun _ _ _ h => h) (Or.inl ⟨by rfl, ?_⟩) ?_ ?_
         rotate_left
         · intro w'
           go_simp
           with_reducible rfl
         rotate_left
         · simp only [Act.put, List.setIfInBounds_toArray, List.set_cons_zero, List.set_cons_succ, i64_w, i32_w]
           rfl
         refine pure_ (i := 1) (N := some 46) (v := ?_) (a' := ?_) #[true, true, false, false, false, false, false, false, false, false, false, false, false, false, false] rfl rfl (any_of HT_.out (by kernel_rfl)) (fun _ _ _ h => h) (Or.inl ⟨by rfl, ?_⟩) ?_ ?_
         rotate_left
         · intro w'
           go_simp
           with_reducible rfl
         rotate_left
         · simp only [Act.put, List.setIfInBounds_toArray, List.set_cons_zero, List.set_cons_succ, i64_w, i32_w]
           rfl
         refine pure_ (i := 2) (N := some 47) (v := ?_) (a' := ?_) #[true, true, true, false, false, false, false, false, false, false, false, false, false, false, false] rfl rfl (any_of HT_.out (by kernel_rfl)) (fun _ _ _ h => h) (Or.inl ⟨by rfl, ?_⟩) ?_ ?_
         rotate_left
         · intro w'
           go_simp
           with_reducible rfl
         rotate_left
         · simp only [Act.put, List.setIfInBounds_toArray, List.set_cons_zero, List.set_cons_succ, i64_w, i32_w]
           rfl
         refine pure_ (i := 3) (N := some 48) (v := undef) (a' := ?_) #[true, true, true, true, false, false, false, false, false, false, false, false, false, false, false] rfl rfl (any_of HT_.out (by kernel_rfl)) (fun _ _ _ h => h) (Or.inr ⟨by rfl, rfl⟩) ?_ ?_
         rotate_left
         · simp only [Act.put, List.setIfInBounds_toArray, List.set_cons_zero, List.set_cons_succ, i64_w, i32_w]
           rfl
         refine pure_ (i := 4) (N := some 49) (v := undef) (a' := ?_) #[true, true, true, true, true, false, false, false, false, false, false, false, false, false, false] rfl rfl (any_of HT_.out (by kernel_rfl)) (fun _ _ _ h => h) (Or.inr ⟨by rfl, rfl⟩) ?_ ?_
         rotate_left
         · simp only [Act.put, List.setIfInBounds_toArray, List.set_cons_zero, List.set_cons_succ, i64_w, i32_w]
           rfl
         refine pure_ (i := 5) (N := some 50) (v := undef) (a' := ?_) #[true, true, true, true, true, true, false, false, false, false, false, false, false, false, false] rfl rfl (any_of HT_.out (by kernel_rfl)) (fun _ _ _ h => h) (Or.inr ⟨by rfl, rfl⟩) ?_ ?_
         rotate_left
         · simp only [Act.put, List.setIfInBounds_toArray, List.set_cons_zero, List.set_cons_succ, i64_w, i32_w]
           rfl
         refine pure_ (i := 6) (N := some 51) (v := undef) (a' := ?_) #[true, true, true, true, true, true, true, false, false, false, false, false, false, false, false] rfl rfl (any_of HT_.out (by kernel_rfl)) (fun _ _ _ h => h) (Or.inr ⟨by rfl, rfl⟩) ?_ ?_
         rotate_left
         · simp only [Act.put, List.setIfInBounds_toArray, List.set_cons_zero, List.set_cons_succ, i64_w, i32_w]
           rfl
         refine pure_ (i := 7) (N := some 52) (v := undef) (a' := ?_) #[true, true, true, true, true, true, true, true, false, false, false, false, false, false, false] rfl rfl (any_of HT_.out (by kernel_rfl)) (fun _ _ _ h => h) (Or.inr ⟨by rfl, rfl⟩) ?_ ?_
         rotate_left
         · simp only [Act.put, List.setIfInBounds_toArray, List.set_cons_zero, List.set_cons_succ, i64_w, i32_w]
           rfl
         refine pure_ (i := 8) (N := some 53) (v := undef) (a' := ?_) #[true, true, true, true, true, true, true, true, true, false, false, false, false, false, false] rfl rfl (any_of HT_.out (by kernel_rfl)) (fun _ _ _ h => h) (Or.inr ⟨by rfl, rfl⟩) ?_ ?_
         rotate_left
         · simp only [Act.put, List.setIfInBounds_toArray, List.set_cons_zero, List.set_cons_succ, i64_w, i32_w]
           rfl
         refine pure_ (i := 9) (N := some 54) (v := undef) (a' := ?_) #[true, true, true, true, true, true, true, true, true, true, false, false, false, false, false] rfl rfl (any_of HT_.out (by kernel_rfl)) (fun _ _ _ h => h) (Or.inr ⟨by rfl, rfl⟩) ?_ ?_
         rotate_left
         · simp only [Act.put, List.setIfInBounds_toArray, List.set_cons_zero, List.set_cons_succ, i64_w, i32_w]
           rfl
         refine pure_ (i := 10) (N := some 55) (v := undef) (a' := ?_) #[true, true, true, true, true, true, true, true, true, true, true, false, false, false, false] rfl rfl (any_of HT_.out (by kernel_rfl)) (fun _ _ _ h => h) (Or.inr ⟨by rfl, rfl⟩) ?_ ?_
         rotate_left
         · simp only [Act.put, List.setIfInBounds_toArray, List.set_cons_zero, List.set_cons_succ, i64_w, i32_w]
           rfl
         refine pure_ (i := 11) (N := some 56) (v := undef) (a' := ?_) #[true, true, true, true, true, true, true, true, true, true, true, true, false, false, false] rfl rfl (any_of HT_.out (by kernel_rfl)) (fun _ _ _ h => h) (Or.inr ⟨by rfl, rfl⟩) ?_ ?_
         rotate_left
         · simp only [Act.put, List.setIfInBounds_toArray, List.set_cons_zero, List.set_cons_succ, i64_w, i32_w]
           rfl
         refine pure_ (i := 12) (N := some 57) (v := undef) (a' := ?_) #[true, true, true, true, true, true, true, true, true, true, true, true, true, false, false] rfl rfl (any_of HT_.out (by kernel_rfl)) (fun _ _ _ h => h) (Or.inr ⟨by rfl, rfl⟩) ?_ ?_
         rotate_left
         · simp only [Act.put, List.setIfInBounds_toArray, List.set_cons_zero, List.set_cons_succ, i64_w, i32_w]
           rfl
         refine pure_ (i := 13) (N := some 58) (v := undef) (a' := ?_) #[true, true, true, true, true, true, true, true, true, true, true, true, true, true, false] rfl rfl (any_of HT_.out (by kernel_rfl)) (fun _ _ _ h => h) (Or.inr ⟨by rfl, rfl⟩) ?_ ?_
         rotate_left
         · simp only [Act.put, List.setIfInBounds_toArray, List.set_cons_zero, List.set_cons_succ, i64_w, i32_w]
           rfl
         refine pure_ (i := 14) (N := some 59) (v := ?_) (a' := ?_) #[true, true, true, true, true, true, true, true, true, true, true, true, true, true, true] rfl rfl (any_of HT_.out (by kernel_rfl)) (fun _ _ _ h => h) (Or.inl ⟨by rfl, ?_⟩) ?_ ?_
         rotate_left
         · intro w'
           go_simp
           with_reducible rfl
         rotate_left
         · simp only [Act.put, List.setIfInBounds_toArray, List.set_cons_zero, List.set_cons_succ, i64_w, i32_w]
           rfl
         refine done_ (done_of HT_.out (by kernel_rfl)) ?_
         obtain ⟨hcz46_0, hcz46_1, hcz46_2, hcz46_3, hcz46_4⟩ := blkC5 BK110.out
         have hfz46_0 := blk_frozen BK110.out 0
         have hfz46_1 := blk_frozen BK110.out 1
         have hfz46_2 := blk_frozen BK110.out 2
         have hfz46_3 := blk_frozen BK110.out 3
         have hfz46_4 := blk_frozen BK110.out 4
         try go_wp2
         go_roundg k1
         case measure => have := HK1.out; omega
         case rel => exact ⟨(x13_1), ((rd_T96 t106 x40_1).f4), (wrap64 (x40_1 + 1)), d32p, d32p, H', ⟨by have := HK1.out; omega⟩, ⟨d32l⟩, ⟨d32h⟩, ⟨d32j⟩, ⟨d32e⟩⟩
     · rw [if_neg c18] at H
       have c18b0 : decide (x40_1 < (t106.length : Int)) = false := decide_eq_false c18
       clear c18
       by_cases c47 : a4 > 0
       · rw [if_pos c47] at H
         have c47b0 : decide (0 < a4) = true := decide_eq_true c47
         clear c47
         replace H := bindS H; obtain ⟨t115, A48, H⟩ := H
         replace H := bindS H; obtain ⟨t116, A49, H⟩ := H
         by_cases c50 : t115 = t116
         · rw [if_pos c50] at H
           have c50b0 : (t115 == t116) = true := beq_iff_eq.mpr c50
           have c50b1 : (t115 != t116) = false := bne_eq_false_iff_eq.mpr c50
           clear c50
           obtain ⟨ji51, hji51⟩ : ∃ j_ : Int, (wrap64 ((x13_1.length : Int) - 1)) = j_ := ⟨_, rfl⟩
           replace H : (if 0 ≤ (ji51) then (if (ji51) < (x13_1.length : Int) then (if ((rd_T42 x13_1 (ji51)).f0) < a4 then (if x13_1.length < 8796093022208 then (some ((x13_1 ++ [(⟨a4, x14_1⟩ : S42)]), 0)) else (none)) else (some (x13_1, 0))) else (none)) else (none)) = some (r1, r2) := by first | (rw [hji51] at H; exact H) | (simp only [hji51] at H ⊢; exact H)
           (try rw [hji51] at A48)
           (try rw [hji51] at A49)
           have hji51w : (IntKind.i64.wrap ((x13_1.length : Int) - 1)) = ji51 := (i64_w _).trans hji51
           replace H := guardT H; obtain ⟨c52, H⟩ := H
           have c52b0 : decide (0 ≤ (ji51)) = true := decide_eq_true c52
           clear c52
           replace H := guardT H; obtain ⟨c53, H⟩ := H
           have c53b0 : decide ((ji51) < (x13_1.length : Int)) = true := decide_eq_true c53
           clear c53
           by_cases c54 : ((rd_T42 x13_1 (ji51)).f0) < a4
           · rw [if_pos c54] at H
             have c54b0 : decide (((rd_T42 x13_1 (ji51)).f0) < a4) = true := decide_eq_true c54
             clear c54
             replace H := guardT H; obtain ⟨c55, H⟩ := H
             have LMc55 := Aside0.mk c55
             clear c55
             obtain ⟨y118, hy118⟩ : ∃ y_ : List (S42), y_ = (x13_1 ++ [(⟨a4, x14_1⟩ : S42)]) := ⟨_, rfl⟩
             replace H : (some (y118, 0)) = some (r1, r2) := by first | (rw [hy118]; with_reducible exact H) | (have H2_ := (Option.bind_some _ _).symm.trans H; rw [hy118]; with_reducible exact H2_) | (have H2_ := (Option.bind_some _ _).symm.trans H; with_reducible exact H2_) | with_reducible exact H | (rw [hy118]; exact H) | exact H
             have Ny118 := Aside0.mk hy118
             clear hy118
             simp only [Option.some.injEq, Prod.mk.injEq] at H
             obtain ⟨rfl, rfl⟩ := H
             try go_wp2
             have n0_ := Aside0.mk (Kd.R_drew HO_13.out)
             have n1_ := Aside0.mk (Kd.R_drew HO_38.out)
             have n2_ := Aside0.mk (blk_drew BK101.out)
             have n3_ := Aside0.mk (below_drew1 HB.out)
             clear HO_13
             clear HO_38
             clear BK101
             clear HB
             have HO_13 := n0_
             have HO_38 := n1_
             have BK101 := n2_
             have HB := n3_
             clear n0_ n1_ n2_ n3_
             refine start_ (n := 15) (S := fun w' => w'.cell? ⟨gb101, 0, none⟩ = some (.int .i64 a0_0) ∧ w'.cell? ⟨gb101, 1, none⟩ = some (.int .i64 a0_1) ∧ w'.cell? ⟨gb101, 2, none⟩ = some (.int .i64 a0_2) ∧ w'.cell? ⟨gb101, 3, none⟩ = some (.int .i64 a0_3) ∧ w'.cell? ⟨gb101, 4, none⟩ = some (.int .i64 a0_4)) (ds := []) #[false, false, false, false, false, false, false, false, false, false, false, false, false, false, false] (by kernel_rfl) rfl rfl ⟨(blk_cell BK101.out 0).trans rfl, (blk_cell BK101.out 1).trans rfl, (blk_cell BK101.out 2).trans rfl, (blk_cell BK101.out 3).trans rfl, (blk_cell BK101.out 4).trans rfl⟩ (fun hHeld => ?_); refine with_tabW perigeeref9_Follow.tab14 perigeeref9_Follow.bits14 (fun HT_ HW_ => ?_)
             generalize wr.drew = w56 at HO_13 HO_38 BK101 HB hHeld ⊢
             refine pure_ (i := 1) (N := some 74) (v := ?_) (a' := ?_) #[false, true, false, false, false, false, false, false, false, false, false, false, false, false, false] rfl rfl (any_of HT_.out (by kernel_rfl)) (fun _ _ _ h => h) (Or.inl ⟨by rfl, ?_⟩) ?_ ?_
             rotate_left
             · intro w'
               go_simp
               with_reducible rfl
             rotate_left
             · simp only [Act.put, List.setIfInBounds_toArray, List.set_cons_zero, List.set_cons_succ, i64_w, i32_w]
               rfl
             refine pure_ (i := 2) (N := some 75) (v := ?_) (a' := ?_) #[false, true, true, false, false, false, false, false, false, false, false, false, false, false, false] rfl rfl (any_of HT_.out (by kernel_rfl)) (fun _ _ _ h => h) (Or.inl ⟨by rfl, ?_⟩) ?_ ?_
             rotate_left
             · intro w'
               go_simp
               with_reducible rfl
             rotate_left
             · simp only [Act.put, List.setIfInBounds_toArray, List.set_cons_zero, List.set_cons_succ, i64_w, i32_w]
               rfl
             refine pure_ (i := 3) (N := some 76) (v := ?_) (a' := ?_) #[false, true, true, true, false, false, false, false, false, false, false, false, false, false, false] rfl rfl (any_of HT_.out (by kernel_rfl)) (fun _ _ _ h => h) (Or.inl ⟨by rfl, ?_⟩) ?_ ?_
             rotate_left
             · intro w'
               go_simp
               with_reducible rfl
             rotate_left
             · simp only [Act.put, List.setIfInBounds_toArray, List.set_cons_zero, List.set_cons_succ, i64_w, i32_w]
               rfl
             refine pure_ (i := 4) (N := some 77) (v := ?_) (a' := ?_) #[false, true, true, true, true, false, false, false, false, false, false, false, false, false, false] rfl rfl (any_of HT_.out (by kernel_rfl)) (fun _ _ _ h => h) (Or.inl ⟨by rfl, ?_⟩) ?_ ?_
             rotate_left
             · intro w'
               go_simp
               with_reducible rfl
             rotate_left
             · simp only [Act.put, List.setIfInBounds_toArray, List.set_cons_zero, List.set_cons_succ, i64_w, i32_w]
               rfl
             refine pure_ (i := 7) (N := some 80) (v := ?_) (a' := ?_) #[false, true, true, true, true, false, false, true, false, false, false, false, false, false, false] rfl rfl (any_of HT_.out (by kernel_rfl)) (fun _ _ _ h => h) (Or.inl ⟨by rfl, ?_⟩) ?_ ?_
             rotate_left
             · intro w'
               go_simp
               with_reducible rfl
             rotate_left
             · simp only [Act.put, List.setIfInBounds_toArray, List.set_cons_zero, List.set_cons_succ, i64_w, i32_w]
               rfl
             refine pure_ (i := 8) (N := some 81) (v := ?_) (a' := ?_) #[false, true, true, true, true, false, false, true, true, false, false, false, false, false, false] rfl rfl (any_of HT_.out (by kernel_rfl)) (fun _ _ _ h => h) (Or.inl ⟨by rfl, ?_⟩) ?_ ?_
             rotate_left
             · intro w'
               go_simp
               with_reducible rfl
             rotate_left
             · simp only [Act.put, List.setIfInBounds_toArray, List.set_cons_zero, List.set_cons_succ, i64_w, i32_w]
               rfl
             refine pure_ (i := 9) (N := some 82) (v := ?_) (a' := ?_) #[false, true, true, true, true, false, false, true, true, true, false, false, false, false, false] rfl rfl (any_of HT_.out (by kernel_rfl)) (fun _ _ _ h => h) (Or.inl ⟨by rfl, ?_⟩) ?_ ?_
             rotate_left
             · intro w'
               go_simp
               with_reducible rfl
             rotate_left
             · simp only [Act.put, List.setIfInBounds_toArray, List.set_cons_zero, List.set_cons_succ, i64_w, i32_w]
               rfl
             refine pure_ (i := 10) (N := some 83) (v := ?_) (a' := ?_) #[false, true, true, true, true, false, false, true, true, true, true, false, false, false, false] rfl rfl (any_of HT_.out (by kernel_rfl)) (fun _ _ _ h => h) (Or.inl ⟨by rfl, ?_⟩) ?_ ?_
             rotate_left
             · intro w'
               go_simp
               with_reducible rfl
             rotate_left
             · simp only [Act.put, List.setIfInBounds_toArray, List.set_cons_zero, List.set_cons_succ, i64_w, i32_w]
               rfl
             refine pure_ (i := 11) (N := some 84) (v := ?_) (a' := ?_) #[false, true, true, true, true, false, false, true, true, true, true, true, false, false, false] rfl rfl (any_of HT_.out (by kernel_rfl)) (fun _ _ _ h => h) (Or.inl ⟨by rfl, ?_⟩) ?_ ?_
             rotate_left
             · intro w'
               go_simp
               with_reducible rfl
             rotate_left
             · simp only [Act.put, List.setIfInBounds_toArray, List.set_cons_zero, List.set_cons_succ, i64_w, i32_w]
               rfl
             refine take_ (i := 0) (N := some 73) (v := ?_) (a' := ?_) #[true, true, true, true, true, false, false, true, true, true, true, true, false, false, false] rfl rfl (take_ofW HT_.out HW_.out (by kernel_rfl)) (fun _ _ _ h => h) (Or.inl ⟨by rfl, ?_⟩) hHeld ?_ ?_
             rotate_left
             · rintro w' ⟨s0, s1, s2, s3, s4⟩
               go_simp
               with_reducible rfl
             rotate_left
             · simp only [Act.put, List.setIfInBounds_toArray, List.set_cons_zero, List.set_cons_succ, i64_w, i32_w]
               rfl
             refine take_ (i := 6) (N := some 79) (v := ?_) (a' := ?_) #[true, true, true, true, true, false, true, true, true, true, true, true, false, false, false] rfl rfl (take_ofW HT_.out HW_.out (by kernel_rfl)) (fun _ _ _ h => h) (Or.inl ⟨by rfl, ?_⟩) hHeld ?_ ?_
             rotate_left
             · rintro w' ⟨s0, s1, s2, s3, s4⟩
               go_simp
               with_reducible rfl
             rotate_left
             · simp only [Act.put, List.setIfInBounds_toArray, List.set_cons_zero, List.set_cons_succ, i64_w, i32_w]
               rfl
             refine one_ (i := 5) (N := some 78) #[true, true, true, true, true, true, true, true, true, true, true, true, false, false, false] rfl rfl (one_of HT_.out (by kernel_rfl)) (by decide) (fun K hK => ?_)
             refine goes_ Try.func72 (by kernel_rfl) rfl #[.agg #[.int .i64 a0_0, .int .i64 a0_1, .int .i64 a0_2, .int .i64 a0_3, .int .i64 a0_4], .slice A1 l1.length c1, .slice A2 l2.length c2, .slice A3 l3.length c3, .int .i64 a4] (by rfl) rfl rfl d32g ?_
             with_reducible refine (perigeeref9_change.calls k1 a0_0 a0_1 a0_2 a0_3 a0_4 _ _ l1 _ _ l2 _ _ l3 a4 t115 _ ?side1 ?side2 ?side3 ?side4 ?side5 ?side6 A48.out).mono ?_
             (case side1 => exact d32r)
             (case side2 => exact HC1.out)
             (case side3 => exact d32s)
             (case side4 => exact HC2.out)
             (case side5 => exact d32t)
             (case side6 => exact HC3.out)
             rintro e w57 ⟨rfl, hb⟩
             refine ⟨_, rfl, ?_⟩
             have n0_ := Aside0.mk (Kd.R_below d32l hb)
             have n1_ := Aside0.mk (Kd.R_below d32m hb)
             have n2_ := Aside0.mk (blk_below (g := gb101) (o := .cells #[.int .i64 a0_0, .int .i64 a0_1, .int .i64 a0_2, .int .i64 a0_3, .int .i64 a0_4] 23 (0, 0)) d32j hb)
             have n3_ := Aside0.mk (below_step d32f hb)
             clear HO_13
             clear HO_38
             clear BK101
             clear HB
             have HO_13 := n0_
             have HO_38 := n1_
             have BK101 := n2_
             have HB := n3_
             clear n0_ n1_ n2_ n3_
             (try clear hb)
             skip
             skip
             skip
             refine hK.out _ _ ⟨(blk_cell BK101.out 0).trans rfl, (blk_cell BK101.out 1).trans rfl, (blk_cell BK101.out 2).trans rfl, (blk_cell BK101.out 3).trans rfl, (blk_cell BK101.out 4).trans rfl⟩ (fun hHeld => ?_)
             clear hK K
             refine norm_ (a' := ?_) ?_ ?_
             rotate_left
             · show Act.put _ (some 78) _ = _
               simp only [Act.put, List.setIfInBounds_toArray, List.set_cons_zero, List.set_cons_succ, i64_w, i32_w]
               rfl
             refine one_ (i := 12) (N := some 85) #[true, true, true, true, true, true, true, true, true, true, true, true, true, false, false] rfl rfl (one_of HT_.out (by kernel_rfl)) (by decide) (fun K hK => ?_)
             refine goes_ Try.func72 (by kernel_rfl) rfl #[.agg #[.int .i64 a0_0, .int .i64 a0_1, .int .i64 a0_2, .int .i64 a0_3, .int .i64 a0_4], .slice A1 l1.length c1, .slice A2 l2.length c2, .slice A3 l3.length c3, .int .i64 (wrap64 (a4 - 1))] (by rfl) rfl rfl d32g ?_
             with_reducible refine (perigeeref9_change.calls k1 a0_0 a0_1 a0_2 a0_3 a0_4 _ _ l1 _ _ l2 _ _ l3 (wrap64 (a4 - 1)) t116 _ ?side1 ?side2 ?side3 ?side4 ?side5 ?side6 A49.out).mono ?_
             (case side1 => exact d32r)
             (case side2 => exact HC1.out)
             (case side3 => exact d32s)
             (case side4 => exact HC2.out)
             (case side5 => exact d32t)
             (case side6 => exact HC3.out)
             rintro e w58 ⟨rfl, hb⟩
             refine ⟨_, rfl, ?_⟩
             have n0_ := Aside0.mk (Kd.R_below d32l hb)
             have n1_ := Aside0.mk (Kd.R_below d32m hb)
             have n2_ := Aside0.mk (blk_below (g := gb101) (o := .cells #[.int .i64 a0_0, .int .i64 a0_1, .int .i64 a0_2, .int .i64 a0_3, .int .i64 a0_4] 23 (0, 0)) d32j hb)
             have n3_ := Aside0.mk (below_step d32f hb)
             clear HO_13
             clear HO_38
             clear BK101
             clear HB
             have HO_13 := n0_
             have HO_38 := n1_
             have BK101 := n2_
             have HB := n3_
             clear n0_ n1_ n2_ n3_
             (try clear hb)
             skip
             skip
             skip
             refine hK.out _ _ ⟨(blk_cell BK101.out 0).trans rfl, (blk_cell BK101.out 1).trans rfl, (blk_cell BK101.out 2).trans rfl, (blk_cell BK101.out 3).trans rfl, (blk_cell BK101.out 4).trans rfl⟩ (fun hHeld => ?_)
             clear hK K
             refine norm_ (a' := ?_) ?_ ?_
             rotate_left
             · show Act.put _ (some 85) _ = _
               simp only [Act.put, List.setIfInBounds_toArray, List.set_cons_zero, List.set_cons_succ, i64_w, i32_w]
               rfl
             refine pure_ (i := 13) (N := some 86) (v := ?_) (a' := ?_) #[true, true, true, true, true, true, true, true, true, true, true, true, true, true, false] rfl rfl (any_of HT_.out (by kernel_rfl)) (fun _ _ _ h => h) (Or.inl ⟨by rfl, ?_⟩) ?_ ?_
             rotate_left
             · intro w'
               go_simp
               with_reducible rfl
             rotate_left
             · simp only [Act.put, List.setIfInBounds_toArray, List.set_cons_zero, List.set_cons_succ, i64_w, i32_w]
               rfl
             refine pure_ (i := 14) (N := some 17) (v := ?_) (a' := ?_) #[true, true, true, true, true, true, true, true, true, true, true, true, true, true, true] rfl rfl (any_of HT_.out (by kernel_rfl)) (fun _ _ _ h => h) (Or.inl ⟨by rfl, ?_⟩) ?_ ?_
             rotate_left
             · intro w'
               go_simp
               with_reducible rfl
             rotate_left
             · simp only [Act.put, List.setIfInBounds_toArray, List.set_cons_zero, List.set_cons_succ, i64_w, i32_w]
               rfl
             refine done_ (done_of HT_.out (by kernel_rfl)) ?_
             obtain ⟨Ao59, co59, eo59⟩ := Kd.R_slice HO_13.out
             subst eo59
             have p117 : 0 ≤ ((ji51) : Int) := of_decide_eq_true d32o
             have q117 : (ji51) < (x13_1.length : Int) := of_decide_eq_true d32o
             obtain ⟨ad117, e117, hx117_0, hx117_1⟩ := at_T42 (Kd.R_reads' HO_13.out).2.2 (ji51) p117 q117
             cases e117
             replace p117 := eq_true p117
             replace q117 := eq_true q117
             try go_wp2_with ((with_reducible refine gate_builtin (b := .append) (xs := #[.tmp 99, .tmp 103]) rfl ?_); (try (refine gate_guard (by rfl) ?_; dsimp only)); at_builtin; refine Kd.R_append k42 (w0 := w) w.heap.size rfl (.tmp 99) (.tmp 103) 38 42 (.agg #[(.int .i64 0), (.int .i64 0)]) 16 rfl Try.underlying38 info42 rfl (by decide) (by omega) (.slice (some ad117) x13_1.length co59) x13_1 (⟨a4, x14_1⟩ : S42) [.int .i64 a4, .int .i64 x14_1] (fun _ => True) (fun _ => False) rfl rfl ?aP (fun _ hk => hk.elim) ?aF ?aO ?aB ?aS ?aL ?_; (case aP => exact k42_mkM _ _ _ (⟨a4, x14_1⟩ : S42)); (case aB => exact d32f); (case aF => exact (fun _ _ => trivial)); (case aO => exact d32l); (case aS => exact (below_size d32f)); (case aL => have := LMc55.out; omega); intro v119 w60 ho hb hg hat; rw [← Ny118.out] at ho; have n0_ := Aside0.mk (Kd.R_over' d32m (Kd.R_typed d32l) (by decide) hg); have n1_ := Aside0.mk (blk_grown (g := gb101) (o := .cells #[.int .i64 a0_0, .int .i64 a0_1, .int .i64 a0_2, .int .i64 a0_3, .int .i64 a0_4] 23 (0, 0)) d32j hg (Kd.R_ne HO_13.out BK101.out (by decide))); have n2_ := Aside0.mk (hb); have n3_ := Aside0.mk (ho); clear HO_38; clear BK101; clear HB; clear HO_13; have HO_38 := n0_; have BK101 := n1_; have HB := n2_; have HO120 := n3_; clear n0_ n1_ n2_ n3_; clear ho hb hg hat)
             go_ret2
             exact ⟨_, by first | rfl | (simp [errW_none, errW_some] <;> rfl) | (simp only [← hji51]; first | rfl | (simp [errW_none, errW_some] <;> rfl)) | (simp [*, errW_none, errW_some] <;> rfl), by (with_reducible repeat (first | apply Kd.R_alloc | apply Kd.R_drewN | apply Kd.R_drew)); exact HO120.out, d32f⟩
           · rw [if_neg c54] at H
             have c54b0 : decide (((rd_T42 x13_1 (ji51)).f0) < a4) = false := decide_eq_false c54
             clear c54
             simp only [Option.some.injEq, Prod.mk.injEq] at H
             obtain ⟨rfl, rfl⟩ := H
             try go_wp2
             have n0_ := Aside0.mk (Kd.R_drew HO_13.out)
             have n1_ := Aside0.mk (Kd.R_drew HO_38.out)
             have n2_ := Aside0.mk (blk_drew BK101.out)
             have n3_ := Aside0.mk (below_drew1 HB.out)
             clear HO_13
             clear HO_38
             clear BK101
             clear HB
             have HO_13 := n0_
             have HO_38 := n1_
             have BK101 := n2_
             have HB := n3_
             clear n0_ n1_ n2_ n3_
             refine start_ (n := 15) (S := fun w' => w'.cell? ⟨gb101, 0, none⟩ = some (.int .i64 a0_0) ∧ w'.cell? ⟨gb101, 1, none⟩ = some (.int .i64 a0_1) ∧ w'.cell? ⟨gb101, 2, none⟩ = some (.int .i64 a0_2) ∧ w'.cell? ⟨gb101, 3, none⟩ = some (.int .i64 a0_3) ∧ w'.cell? ⟨gb101, 4, none⟩ = some (.int .i64 a0_4)) (ds := []) #[false, false, false, false, false, false, false, false, false, false, false, false, false, false, false] (by kernel_rfl) rfl rfl ⟨(blk_cell BK101.out 0).trans rfl, (blk_cell BK101.out 1).trans rfl, (blk_cell BK101.out 2).trans rfl, (blk_cell BK101.out 3).trans rfl, (blk_cell BK101.out 4).trans rfl⟩ (fun hHeld => ?_); refine with_tabW perigeeref9_Follow.tab14 perigeeref9_Follow.bits14 (fun HT_ HW_ => ?_)
             generalize wr.drew = w61 at HO_13 HO_38 BK101 HB hHeld ⊢
             refine pure_ (i := 1) (N := some 74) (v := ?_) (a' := ?_) #[false, true, false, false, false, false, false, false, false, false, false, false, false, false, false] rfl rfl (any_of HT_.out (by kernel_rfl)) (fun _ _ _ h => h) (Or.inl ⟨by rfl, ?_⟩) ?_ ?_
             rotate_left
             · intro w'
               go_simp
               with_reducible rfl
             rotate_left
             · simp only [Act.put, List.setIfInBounds_toArray, List.set_cons_zero, List.set_cons_succ, i64_w, i32_w]
               rfl
             refine pure_ (i := 2) (N := some 75) (v := ?_) (a' := ?_) #[false, true, true, false, false, false, false, false, false, false, false, false, false, false, false] rfl rfl (any_of HT_.out (by kernel_rfl)) (fun _ _ _ h => h) (Or.inl ⟨by rfl, ?_⟩) ?_ ?_
             rotate_left
             · intro w'
               go_simp
               with_reducible rfl
             rotate_left
             · simp only [Act.put, List.setIfInBounds_toArray, List.set_cons_zero, List.set_cons_succ, i64_w, i32_w]
               rfl
             refine pure_ (i := 3) (N := some 76) (v := ?_) (a' := ?_) #[false, true, true, true, false, false, false, false, false, false, false, false, false, false, false] rfl rfl (any_of HT_.out (by kernel_rfl)) (fun _ _ _ h => h) (Or.inl ⟨by rfl, ?_⟩) ?_ ?_
             rotate_left
             · intro w'
               go_simp
               with_reducible rfl
             rotate_left
             · simp only [Act.put, List.setIfInBounds_toArray, List.set_cons_zero, List.set_cons_succ, i64_w, i32_w]
               rfl
             refine pure_ (i := 4) (N := some 77) (v := ?_) (a' := ?_) #[false, true, true, true, true, false, false, false, false, false, false, false, false, false, false] rfl rfl (any_of HT_.out (by kernel_rfl)) (fun _ _ _ h => h) (Or.inl ⟨by rfl, ?_⟩) ?_ ?_
             rotate_left
             · intro w'
               go_simp
               with_reducible rfl
             rotate_left
             · simp only [Act.put, List.setIfInBounds_toArray, List.set_cons_zero, List.set_cons_succ, i64_w, i32_w]
               rfl
             refine pure_ (i := 7) (N := some 80) (v := ?_) (a' := ?_) #[false, true, true, true, true, false, false, true, false, false, false, false, false, false, false] rfl rfl (any_of HT_.out (by kernel_rfl)) (fun _ _ _ h => h) (Or.inl ⟨by rfl, ?_⟩) ?_ ?_
             rotate_left
             · intro w'
               go_simp
               with_reducible rfl
             rotate_left
             · simp only [Act.put, List.setIfInBounds_toArray, List.set_cons_zero, List.set_cons_succ, i64_w, i32_w]
               rfl
             refine pure_ (i := 8) (N := some 81) (v := ?_) (a' := ?_) #[false, true, true, true, true, false, false, true, true, false, false, false, false, false, false] rfl rfl (any_of HT_.out (by kernel_rfl)) (fun _ _ _ h => h) (Or.inl ⟨by rfl, ?_⟩) ?_ ?_
             rotate_left
             · intro w'
               go_simp
               with_reducible rfl
             rotate_left
             · simp only [Act.put, List.setIfInBounds_toArray, List.set_cons_zero, List.set_cons_succ, i64_w, i32_w]
               rfl
             refine pure_ (i := 9) (N := some 82) (v := ?_) (a' := ?_) #[false, true, true, true, true, false, false, true, true, true, false, false, false, false, false] rfl rfl (any_of HT_.out (by kernel_rfl)) (fun _ _ _ h => h) (Or.inl ⟨by rfl, ?_⟩) ?_ ?_
             rotate_left
             · intro w'
               go_simp
               with_reducible rfl
             rotate_left
             · simp only [Act.put, List.setIfInBounds_toArray, List.set_cons_zero, List.set_cons_succ, i64_w, i32_w]
               rfl
             refine pure_ (i := 10) (N := some 83) (v := ?_) (a' := ?_) #[false, true, true, true, true, false, false, true, true, true, true, false, false, false, false] rfl rfl (any_of HT_.out (by kernel_rfl)) (fun _ _ _ h => h) (Or.inl ⟨by rfl, ?_⟩) ?_ ?_
             rotate_left
             · intro w'
               go_simp
               with_reducible rfl
             rotate_left
             · simp only [Act.put, List.setIfInBounds_toArray, List.set_cons_zero, List.set_cons_succ, i64_w, i32_w]
               rfl
             refine pure_ (i := 11) (N := some 84) (v := ?_) (a' := ?_) #[false, true, true, true, true, false, false, true, true, true, true, true, false, false, false] rfl rfl (any_of HT_.out (by kernel_rfl)) (fun _ _ _ h => h) (Or.inl ⟨by rfl, ?_⟩) ?_ ?_
             rotate_left
             · intro w'
               go_simp
               with_reducible rfl
             rotate_left
             · simp only [Act.put, List.setIfInBounds_toArray, List.set_cons_zero, List.set_cons_succ, i64_w, i32_w]
               rfl
             refine take_ (i := 0) (N := some 73) (v := ?_) (a' := ?_) #[true, true, true, true, true, false, false, true, true, true, true, true, false, false, false] rfl rfl (take_ofW HT_.out HW_.out (by kernel_rfl)) (fun _ _ _ h => h) (Or.inl ⟨by rfl, ?_⟩) hHeld ?_ ?_
             rotate_left
             · rintro w' ⟨s0, s1, s2, s3, s4⟩
               go_simp
               with_reducible rfl
             rotate_left
             · simp only [Act.put, List.setIfInBounds_toArray, List.set_cons_zero, List.set_cons_succ, i64_w, i32_w]
               rfl
             refine take_ (i := 6) (N := some 79) (v := ?_) (a' := ?_) #[true, true, true, true, true, false, true, true, true, true, true, true, false, false, false] rfl rfl (take_ofW HT_.out HW_.out (by kernel_rfl)) (fun _ _ _ h => h) (Or.inl ⟨by rfl, ?_⟩) hHeld ?_ ?_
             rotate_left
             · rintro w' ⟨s0, s1, s2, s3, s4⟩
               go_simp
               with_reducible rfl
             rotate_left
             · simp only [Act.put, List.setIfInBounds_toArray, List.set_cons_zero, List.set_cons_succ, i64_w, i32_w]
               rfl
             refine one_ (i := 5) (N := some 78) #[true, true, true, true, true, true, true, true, true, true, true, true, false, false, false] rfl rfl (one_of HT_.out (by kernel_rfl)) (by decide) (fun K hK => ?_)
             refine goes_ Try.func72 (by kernel_rfl) rfl #[.agg #[.int .i64 a0_0, .int .i64 a0_1, .int .i64 a0_2, .int .i64 a0_3, .int .i64 a0_4], .slice A1 l1.length c1, .slice A2 l2.length c2, .slice A3 l3.length c3, .int .i64 a4] (by rfl) rfl rfl d32g ?_
             with_reducible refine (perigeeref9_change.calls k1 a0_0 a0_1 a0_2 a0_3 a0_4 _ _ l1 _ _ l2 _ _ l3 a4 t115 _ ?side1 ?side2 ?side3 ?side4 ?side5 ?side6 A48.out).mono ?_
             (case side1 => exact d32r)
             (case side2 => exact HC1.out)
             (case side3 => exact d32s)
             (case side4 => exact HC2.out)
             (case side5 => exact d32t)
             (case side6 => exact HC3.out)
             rintro e w62 ⟨rfl, hb⟩
             refine ⟨_, rfl, ?_⟩
             have n0_ := Aside0.mk (Kd.R_below d32l hb)
             have n1_ := Aside0.mk (Kd.R_below d32m hb)
             have n2_ := Aside0.mk (blk_below (g := gb101) (o := .cells #[.int .i64 a0_0, .int .i64 a0_1, .int .i64 a0_2, .int .i64 a0_3, .int .i64 a0_4] 23 (0, 0)) d32j hb)
             have n3_ := Aside0.mk (below_step d32f hb)
             clear HO_13
             clear HO_38
             clear BK101
             clear HB
             have HO_13 := n0_
             have HO_38 := n1_
             have BK101 := n2_
             have HB := n3_
             clear n0_ n1_ n2_ n3_
             (try clear hb)
             skip
             skip
             skip
             refine hK.out _ _ ⟨(blk_cell BK101.out 0).trans rfl, (blk_cell BK101.out 1).trans rfl, (blk_cell BK101.out 2).trans rfl, (blk_cell BK101.out 3).trans rfl, (blk_cell BK101.out 4).trans rfl⟩ (fun hHeld => ?_)
             clear hK K
             refine norm_ (a' := ?_) ?_ ?_
             rotate_left
             · show Act.put _ (some 78) _ = _
               simp only [Act.put, List.setIfInBounds_toArray, List.set_cons_zero, List.set_cons_succ, i64_w, i32_w]
               rfl
             refine one_ (i := 12) (N := some 85) #[true, true, true, true, true, true, true, true, true, true, true, true, true, false, false] rfl rfl (one_of HT_.out (by kernel_rfl)) (by decide) (fun K hK => ?_)
             refine goes_ Try.func72 (by kernel_rfl) rfl #[.agg #[.int .i64 a0_0, .int .i64 a0_1, .int .i64 a0_2, .int .i64 a0_3, .int .i64 a0_4], .slice A1 l1.length c1, .slice A2 l2.length c2, .slice A3 l3.length c3, .int .i64 (wrap64 (a4 - 1))] (by rfl) rfl rfl d32g ?_
             with_reducible refine (perigeeref9_change.calls k1 a0_0 a0_1 a0_2 a0_3 a0_4 _ _ l1 _ _ l2 _ _ l3 (wrap64 (a4 - 1)) t116 _ ?side1 ?side2 ?side3 ?side4 ?side5 ?side6 A49.out).mono ?_
             (case side1 => exact d32r)
             (case side2 => exact HC1.out)
             (case side3 => exact d32s)
             (case side4 => exact HC2.out)
             (case side5 => exact d32t)
             (case side6 => exact HC3.out)
             rintro e w63 ⟨rfl, hb⟩
             refine ⟨_, rfl, ?_⟩
             have n0_ := Aside0.mk (Kd.R_below d32l hb)
             have n1_ := Aside0.mk (Kd.R_below d32m hb)
             have n2_ := Aside0.mk (blk_below (g := gb101) (o := .cells #[.int .i64 a0_0, .int .i64 a0_1, .int .i64 a0_2, .int .i64 a0_3, .int .i64 a0_4] 23 (0, 0)) d32j hb)
             have n3_ := Aside0.mk (below_step d32f hb)
             clear HO_13
             clear HO_38
             clear BK101
             clear HB
             have HO_13 := n0_
             have HO_38 := n1_
             have BK101 := n2_
             have HB := n3_
             clear n0_ n1_ n2_ n3_
             (try clear hb)
             skip
             skip
             skip
             refine hK.out _ _ ⟨(blk_cell BK101.out 0).trans rfl, (blk_cell BK101.out 1).trans rfl, (blk_cell BK101.out 2).trans rfl, (blk_cell BK101.out 3).trans rfl, (blk_cell BK101.out 4).trans rfl⟩ (fun hHeld => ?_)
             clear hK K
             refine norm_ (a' := ?_) ?_ ?_
             rotate_left
             · show Act.put _ (some 85) _ = _
               simp only [Act.put, List.setIfInBounds_toArray, List.set_cons_zero, List.set_cons_succ, i64_w, i32_w]
               rfl
             refine pure_ (i := 13) (N := some 86) (v := ?_) (a' := ?_) #[true, true, true, true, true, true, true, true, true, true, true, true, true, true, false] rfl rfl (any_of HT_.out (by kernel_rfl)) (fun _ _ _ h => h) (Or.inl ⟨by rfl, ?_⟩) ?_ ?_
             rotate_left
             · intro w'
               go_simp
               with_reducible rfl
             rotate_left
             · simp only [Act.put, List.setIfInBounds_toArray, List.set_cons_zero, List.set_cons_succ, i64_w, i32_w]
               rfl
             refine pure_ (i := 14) (N := some 17) (v := ?_) (a' := ?_) #[true, true, true, true, true, true, true, true, true, true, true, true, true, true, true] rfl rfl (any_of HT_.out (by kernel_rfl)) (fun _ _ _ h => h) (Or.inl ⟨by rfl, ?_⟩) ?_ ?_
             rotate_left
             · intro w'
               go_simp
               with_reducible rfl
             rotate_left
             · simp only [Act.put, List.setIfInBounds_toArray, List.set_cons_zero, List.set_cons_succ, i64_w, i32_w]
               rfl
             refine done_ (done_of HT_.out (by kernel_rfl)) ?_
             obtain ⟨Ao64, co64, eo64⟩ := Kd.R_slice HO_13.out
             subst eo64
             have p117 : 0 ≤ ((ji51) : Int) := of_decide_eq_true d32o
             have q117 : (ji51) < (x13_1.length : Int) := of_decide_eq_true d32o
             obtain ⟨ad117, e117, hx117_0, hx117_1⟩ := at_T42 (Kd.R_reads' HO_13.out).2.2 (ji51) p117 q117
             cases e117
             replace p117 := eq_true p117
             replace q117 := eq_true q117
             try go_wp2
             go_ret2
             exact ⟨_, by first | rfl | (simp [errW_none, errW_some] <;> rfl) | (simp only [← hji51]; first | rfl | (simp [errW_none, errW_some] <;> rfl)) | (simp [*, errW_none, errW_some] <;> rfl), d32l, d32f⟩
         · rw [if_neg c50] at H
           have c50b0 : (t115 == t116) = false := beq_eq_false_iff_ne.mpr c50
           have c50b1 : (t115 != t116) = true := bne_iff_ne.mpr c50
           replace H := guardT H; obtain ⟨c65, H⟩ := H
           have LMc65 := Aside0.mk c65
           clear c65
           obtain ⟨y121, hy121⟩ : ∃ y_ : List (S42), y_ = (x13_1 ++ [(⟨a4, x14_1⟩ : S42)]) := ⟨_, rfl⟩
           replace H : (some (y121, 0)) = some (r1, r2) := by first | (rw [hy121]; with_reducible exact H) | (have H2_ := (Option.bind_some _ _).symm.trans H; rw [hy121]; with_reducible exact H2_) | (have H2_ := (Option.bind_some _ _).symm.trans H; with_reducible exact H2_) | with_reducible exact H | (rw [hy121]; exact H) | exact H
           have Ny121 := Aside0.mk hy121
           clear hy121
           simp only [Option.some.injEq, Prod.mk.injEq] at H
           obtain ⟨rfl, rfl⟩ := H
           try go_wp2
           have n0_ := Aside0.mk (Kd.R_drew HO_13.out)
           have n1_ := Aside0.mk (Kd.R_drew HO_38.out)
           have n2_ := Aside0.mk (blk_drew BK101.out)
           have n3_ := Aside0.mk (below_drew1 HB.out)
           clear HO_13
           clear HO_38
           clear BK101
           clear HB
           have HO_13 := n0_
           have HO_38 := n1_
           have BK101 := n2_
           have HB := n3_
           clear n0_ n1_ n2_ n3_
           refine start_ (n := 15) (S := fun w' => w'.cell? ⟨gb101, 0, none⟩ = some (.int .i64 a0_0) ∧ w'.cell? ⟨gb101, 1, none⟩ = some (.int .i64 a0_1) ∧ w'.cell? ⟨gb101, 2, none⟩ = some (.int .i64 a0_2) ∧ w'.cell? ⟨gb101, 3, none⟩ = some (.int .i64 a0_3) ∧ w'.cell? ⟨gb101, 4, none⟩ = some (.int .i64 a0_4)) (ds := []) #[false, false, false, false, false, false, false, false, false, false, false, false, false, false, false] (by kernel_rfl) rfl rfl ⟨(blk_cell BK101.out 0).trans rfl, (blk_cell BK101.out 1).trans rfl, (blk_cell BK101.out 2).trans rfl, (blk_cell BK101.out 3).trans rfl, (blk_cell BK101.out 4).trans rfl⟩ (fun hHeld => ?_); refine with_tabW perigeeref9_Follow.tab14 perigeeref9_Follow.bits14 (fun HT_ HW_ => ?_)
           generalize wr.drew = w66 at HO_13 HO_38 BK101 HB hHeld ⊢
           refine pure_ (i := 1) (N := some 74) (v := ?_) (a' := ?_) #[false, true, false, false, false, false, false, false, false, false, false, false, false, false, false] rfl rfl (any_of HT_.out (by kernel_rfl)) (fun _ _ _ h => h) (Or.inl ⟨by rfl, ?_⟩) ?_ ?_
           rotate_left
           · intro w'
             go_simp
             with_reducible rfl
           rotate_left
           · simp only [Act.put, List.setIfInBounds_toArray, List.set_cons_zero, List.set_cons_succ, i64_w, i32_w]
             rfl
           refine pure_ (i := 2) (N := some 75) (v := ?_) (a' := ?_) #[false, true, true, false, false, false, false, false, false, false, false, false, false, false, false] rfl rfl (any_of HT_.out (by kernel_rfl)) (fun _ _ _ h => h) (Or.inl ⟨by rfl, ?_⟩) ?_ ?_
           rotate_left
           · intro w'
             go_simp
             with_reducible rfl
           rotate_left
           · simp only [Act.put, List.setIfInBounds_toArray, List.set_cons_zero, List.set_cons_succ, i64_w, i32_w]
             rfl
           refine pure_ (i := 3) (N := some 76) (v := ?_) (a' := ?_) #[false, true, true, true, false, false, false, false, false, false, false, false, false, false, false] rfl rfl (any_of HT_.out (by kernel_rfl)) (fun _ _ _ h => h) (Or.inl ⟨by rfl, ?_⟩) ?_ ?_
           rotate_left
           · intro w'
             go_simp
             with_reducible rfl
           rotate_left
           · simp only [Act.put, List.setIfInBounds_toArray, List.set_cons_zero, List.set_cons_succ, i64_w, i32_w]
             rfl
           refine pure_ (i := 4) (N := some 77) (v := ?_) (a' := ?_) #[false, true, true, true, true, false, false, false, false, false, false, false, false, false, false] rfl rfl (any_of HT_.out (by kernel_rfl)) (fun _ _ _ h => h) (Or.inl ⟨by rfl, ?_⟩) ?_ ?_
           rotate_left
           · intro w'
             go_simp
             with_reducible rfl
           rotate_left
           · simp only [Act.put, List.setIfInBounds_toArray, List.set_cons_zero, List.set_cons_succ, i64_w, i32_w]
             rfl
           refine pure_ (i := 7) (N := some 80) (v := ?_) (a' := ?_) #[false, true, true, true, true, false, false, true, false, false, false, false, false, false, false] rfl rfl (any_of HT_.out (by kernel_rfl)) (fun _ _ _ h => h) (Or.inl ⟨by rfl, ?_⟩) ?_ ?_
           rotate_left
           · intro w'
             go_simp
             with_reducible rfl
           rotate_left
           · simp only [Act.put, List.setIfInBounds_toArray, List.set_cons_zero, List.set_cons_succ, i64_w, i32_w]
             rfl
           refine pure_ (i := 8) (N := some 81) (v := ?_) (a' := ?_) #[false, true, true, true, true, false, false, true, true, false, false, false, false, false, false] rfl rfl (any_of HT_.out (by kernel_rfl)) (fun _ _ _ h => h) (Or.inl ⟨by rfl, ?_⟩) ?_ ?_
           rotate_left
           · intro w'
             go_simp
             with_reducible rfl
           rotate_left
           · simp only [Act.put, List.setIfInBounds_toArray, List.set_cons_zero, List.set_cons_succ, i64_w, i32_w]
             rfl
           refine pure_ (i := 9) (N := some 82) (v := ?_) (a' := ?_) #[false, true, true, true, true, false, false, true, true, true, false, false, false, false, false] rfl rfl (any_of HT_.out (by kernel_rfl)) (fun _ _ _ h => h) (Or.inl ⟨by rfl, ?_⟩) ?_ ?_
           rotate_left
           · intro w'
             go_simp
             with_reducible rfl
           rotate_left
           · simp only [Act.put, List.setIfInBounds_toArray, List.set_cons_zero, List.set_cons_succ, i64_w, i32_w]
             rfl
           refine pure_ (i := 10) (N := some 83) (v := ?_) (a' := ?_) #[false, true, true, true, true, false, false, true, true, true, true, false, false, false, false] rfl rfl (any_of HT_.out (by kernel_rfl)) (fun _ _ _ h => h) (Or.inl ⟨by rfl, ?_⟩) ?_ ?_
           rotate_left
           · intro w'
             go_simp
             with_reducible rfl
           rotate_left
           · simp only [Act.put, List.setIfInBounds_toArray, List.set_cons_zero, List.set_cons_succ, i64_w, i32_w]
             rfl
           refine pure_ (i := 11) (N := some 84) (v := ?_) (a' := ?_) #[false, true, true, true, true, false, false, true, true, true, true, true, false, false, false] rfl rfl (any_of HT_.out (by kernel_rfl)) (fun _ _ _ h => h) (Or.inl ⟨by rfl, ?_⟩) ?_ ?_
           rotate_left
           · intro w'
             go_simp
             with_reducible rfl
           rotate_left
           · simp only [Act.put, List.setIfInBounds_toArray, List.set_cons_zero, List.set_cons_succ, i64_w, i32_w]
             rfl
           refine take_ (i := 0) (N := some 73) (v := ?_) (a' := ?_) #[true, true, true, true, true, false, false, true, true, true, true, true, false, false, false] rfl rfl (take_ofW HT_.out HW_.out (by kernel_rfl)) (fun _ _ _ h => h) (Or.inl ⟨by rfl, ?_⟩) hHeld ?_ ?_
           rotate_left
           · rintro w' ⟨s0, s1, s2, s3, s4⟩
             go_simp
             with_reducible rfl
           rotate_left
           · simp only [Act.put, List.setIfInBounds_toArray, List.set_cons_zero, List.set_cons_succ, i64_w, i32_w]
             rfl
           refine take_ (i := 6) (N := some 79) (v := ?_) (a' := ?_) #[true, true, true, true, true, false, true, true, true, true, true, true, false, false, false] rfl rfl (take_ofW HT_.out HW_.out (by kernel_rfl)) (fun _ _ _ h => h) (Or.inl ⟨by rfl, ?_⟩) hHeld ?_ ?_
           rotate_left
           · rintro w' ⟨s0, s1, s2, s3, s4⟩
             go_simp
             with_reducible rfl
           rotate_left
           · simp only [Act.put, List.setIfInBounds_toArray, List.set_cons_zero, List.set_cons_succ, i64_w, i32_w]
             rfl
           refine one_ (i := 5) (N := some 78) #[true, true, true, true, true, true, true, true, true, true, true, true, false, false, false] rfl rfl (one_of HT_.out (by kernel_rfl)) (by decide) (fun K hK => ?_)
           refine goes_ Try.func72 (by kernel_rfl) rfl #[.agg #[.int .i64 a0_0, .int .i64 a0_1, .int .i64 a0_2, .int .i64 a0_3, .int .i64 a0_4], .slice A1 l1.length c1, .slice A2 l2.length c2, .slice A3 l3.length c3, .int .i64 a4] (by rfl) rfl rfl d32g ?_
           with_reducible refine (perigeeref9_change.calls k1 a0_0 a0_1 a0_2 a0_3 a0_4 _ _ l1 _ _ l2 _ _ l3 a4 t115 _ ?side1 ?side2 ?side3 ?side4 ?side5 ?side6 A48.out).mono ?_
           (case side1 => exact d32r)
           (case side2 => exact HC1.out)
           (case side3 => exact d32s)
           (case side4 => exact HC2.out)
           (case side5 => exact d32t)
           (case side6 => exact HC3.out)
           rintro e w67 ⟨rfl, hb⟩
           refine ⟨_, rfl, ?_⟩
           have n0_ := Aside0.mk (Kd.R_below d32l hb)
           have n1_ := Aside0.mk (Kd.R_below d32m hb)
           have n2_ := Aside0.mk (blk_below (g := gb101) (o := .cells #[.int .i64 a0_0, .int .i64 a0_1, .int .i64 a0_2, .int .i64 a0_3, .int .i64 a0_4] 23 (0, 0)) d32j hb)
           have n3_ := Aside0.mk (below_step d32f hb)
           clear HO_13
           clear HO_38
           clear BK101
           clear HB
           have HO_13 := n0_
           have HO_38 := n1_
           have BK101 := n2_
           have HB := n3_
           clear n0_ n1_ n2_ n3_
           (try clear hb)
           skip
           skip
           skip
           refine hK.out _ _ ⟨(blk_cell BK101.out 0).trans rfl, (blk_cell BK101.out 1).trans rfl, (blk_cell BK101.out 2).trans rfl, (blk_cell BK101.out 3).trans rfl, (blk_cell BK101.out 4).trans rfl⟩ (fun hHeld => ?_)
           clear hK K
           refine norm_ (a' := ?_) ?_ ?_
           rotate_left
           · show Act.put _ (some 78) _ = _
             simp only [Act.put, List.setIfInBounds_toArray, List.set_cons_zero, List.set_cons_succ, i64_w, i32_w]
             rfl
           refine one_ (i := 12) (N := some 85) #[true, true, true, true, true, true, true, true, true, true, true, true, true, false, false] rfl rfl (one_of HT_.out (by kernel_rfl)) (by decide) (fun K hK => ?_)
           refine goes_ Try.func72 (by kernel_rfl) rfl #[.agg #[.int .i64 a0_0, .int .i64 a0_1, .int .i64 a0_2, .int .i64 a0_3, .int .i64 a0_4], .slice A1 l1.length c1, .slice A2 l2.length c2, .slice A3 l3.length c3, .int .i64 (wrap64 (a4 - 1))] (by rfl) rfl rfl d32g ?_
           with_reducible refine (perigeeref9_change.calls k1 a0_0 a0_1 a0_2 a0_3 a0_4 _ _ l1 _ _ l2 _ _ l3 (wrap64 (a4 - 1)) t116 _ ?side1 ?side2 ?side3 ?side4 ?side5 ?side6 A49.out).mono ?_
           (case side1 => exact d32r)
           (case side2 => exact HC1.out)
           (case side3 => exact d32s)
           (case side4 => exact HC2.out)
           (case side5 => exact d32t)
           (case side6 => exact HC3.out)
           rintro e w68 ⟨rfl, hb⟩
           refine ⟨_, rfl, ?_⟩
           have n0_ := Aside0.mk (Kd.R_below d32l hb)
           have n1_ := Aside0.mk (Kd.R_below d32m hb)
           have n2_ := Aside0.mk (blk_below (g := gb101) (o := .cells #[.int .i64 a0_0, .int .i64 a0_1, .int .i64 a0_2, .int .i64 a0_3, .int .i64 a0_4] 23 (0, 0)) d32j hb)
           have n3_ := Aside0.mk (below_step d32f hb)
           clear HO_13
           clear HO_38
           clear BK101
           clear HB
           have HO_13 := n0_
           have HO_38 := n1_
           have BK101 := n2_
           have HB := n3_
           clear n0_ n1_ n2_ n3_
           (try clear hb)
           skip
           skip
           skip
           refine hK.out _ _ ⟨(blk_cell BK101.out 0).trans rfl, (blk_cell BK101.out 1).trans rfl, (blk_cell BK101.out 2).trans rfl, (blk_cell BK101.out 3).trans rfl, (blk_cell BK101.out 4).trans rfl⟩ (fun hHeld => ?_)
           clear hK K
           refine norm_ (a' := ?_) ?_ ?_
           rotate_left
           · show Act.put _ (some 85) _ = _
             simp only [Act.put, List.setIfInBounds_toArray, List.set_cons_zero, List.set_cons_succ, i64_w, i32_w]
             rfl
           refine pure_ (i := 13) (N := some 86) (v := ?_) (a' := ?_) #[true, true, true, true, true, true, true, true, true, true, true, true, true, true, false] rfl rfl (any_of HT_.out (by kernel_rfl)) (fun _ _ _ h => h) (Or.inl ⟨by rfl, ?_⟩) ?_ ?_
           rotate_left
           · intro w'
             go_simp
             with_reducible rfl
           rotate_left
           · simp only [Act.put, List.setIfInBounds_toArray, List.set_cons_zero, List.set_cons_succ, i64_w, i32_w]
             rfl
           refine pure_ (i := 14) (N := some 17) (v := ?_) (a' := ?_) #[true, true, true, true, true, true, true, true, true, true, true, true, true, true, true] rfl rfl (any_of HT_.out (by kernel_rfl)) (fun _ _ _ h => h) (Or.inl ⟨by rfl, ?_⟩) ?_ ?_
           rotate_left
           · intro w'
             go_simp
             with_reducible rfl
           rotate_left
           · simp only [Act.put, List.setIfInBounds_toArray, List.set_cons_zero, List.set_cons_succ, i64_w, i32_w]
             rfl
           refine done_ (done_of HT_.out (by kernel_rfl)) ?_
           try go_wp2_with ((with_reducible refine gate_builtin (b := .append) (xs := #[.tmp 99, .tmp 103]) rfl ?_); (try (refine gate_guard (by rfl) ?_; dsimp only)); at_builtin; refine Kd.R_append k42 (w0 := w) w.heap.size rfl (.tmp 99) (.tmp 103) 38 42 (.agg #[(.int .i64 0), (.int .i64 0)]) 16 rfl Try.underlying38 info42 rfl (by decide) (by omega) u13 x13_1 (⟨a4, x14_1⟩ : S42) [.int .i64 a4, .int .i64 x14_1] (fun _ => True) (fun _ => False) rfl rfl ?aP (fun _ hk => hk.elim) ?aF ?aO ?aB ?aS ?aL ?_; (case aP => exact k42_mkM _ _ _ (⟨a4, x14_1⟩ : S42)); (case aB => exact d32f); (case aF => exact (fun _ _ => trivial)); (case aO => exact d32l); (case aS => exact (below_size d32f)); (case aL => have := LMc65.out; omega); intro v122 w69 ho hb hg hat; rw [← Ny121.out] at ho; have n0_ := Aside0.mk (Kd.R_over' d32m (Kd.R_typed d32l) (by decide) hg); have n1_ := Aside0.mk (blk_grown (g := gb101) (o := .cells #[.int .i64 a0_0, .int .i64 a0_1, .int .i64 a0_2, .int .i64 a0_3, .int .i64 a0_4] 23 (0, 0)) d32j hg (Kd.R_ne HO_13.out BK101.out (by decide))); have n2_ := Aside0.mk (hb); have n3_ := Aside0.mk (ho); clear HO_38; clear BK101; clear HB; clear HO_13; have HO_38 := n0_; have BK101 := n1_; have HB := n2_; have HO123 := n3_; clear n0_ n1_ n2_ n3_; clear ho hb hg hat)
           go_ret2
           exact ⟨_, d32n, by (with_reducible repeat (first | apply Kd.R_alloc | apply Kd.R_drewN | apply Kd.R_drew)); exact HO123.out, d32f⟩
       · rw [if_neg c47] at H
         have c47b0 : decide (0 < a4) = false := decide_eq_false c47
         clear c47
         simp only [Option.some.injEq, Prod.mk.injEq] at H
         obtain ⟨rfl, rfl⟩ := H
         go_wp2
         go_ret2
         exact ⟨_, d32n, d32l, d32f⟩
 · rw [if_neg c7] at H
   have c7b0 : (t102 == 0) = false := beq_eq_false_iff_ne.mpr c7
   have c7b1 : (t102 != 0) = true := bne_iff_ne.mpr c7
   simp only [Option.some.injEq, Prod.mk.injEq] at H
   obtain ⟨rfl, rfl⟩ := H
   go_enter Try.func32, Try.ntmps32
   go_wp2_with (first | ((with_reducible refine gate_dst (N := 5) rfl ?_); (try (refine gate_guard (by rfl) ?_; dsimp only)); refine box_event ?hg (N := 5) ?hd (cs := #[.int .i64 a0_0, .int .i64 a0_1, .int .i64 a0_2, .int .i64 a0_3, .int .i64 a0_4]) (t := 23) ?hr ?_; (case hd => rfl); (case hg => rfl); (case hr => exact d32q); intro gb101 hg w70 hbox hb; have n0_ := Aside0.mk (below_step d32i hb); have n1_ := Aside0.mk (hbox); have n2_ := Aside0.mk ((by rw [hg]; exact (below_size d32i) : w.heap.size ≤ gb101)); have n3_ := Aside0.mk ((by rw [hg]; exact (below_size d32i) : w.heap.size ≤ gb101)); clear HB; have HB := n0_; have BK101 := n1_; have GW101 := n2_; have GE101 := n3_; clear n0_ n1_ n2_ n3_; clear hb hbox hg; have hcz71_0 : w70.cell? ⟨gb101, 0, none⟩ = some (.int .i64 a0_0) := (blk_cell BK101.out 0).trans rfl; have hcz71_1 : w70.cell? ⟨gb101, 1, none⟩ = some (.int .i64 a0_1) := (blk_cell BK101.out 1).trans rfl; have hcz71_2 : w70.cell? ⟨gb101, 2, none⟩ = some (.int .i64 a0_2) := (blk_cell BK101.out 2).trans rfl; have hcz71_3 : w70.cell? ⟨gb101, 3, none⟩ = some (.int .i64 a0_3) := (blk_cell BK101.out 3).trans rfl; have hcz71_4 : w70.cell? ⟨gb101, 4, none⟩ = some (.int .i64 a0_4) := (blk_cell BK101.out 4).trans rfl; have hfz71_0 := blk_frozen BK101.out 0; have hfz71_1 := blk_frozen BK101.out 1; have hfz71_2 := blk_frozen BK101.out 2; have hfz71_3 := blk_frozen BK101.out 3; have hfz71_4 := blk_frozen BK101.out 4) | ((with_reducible refine gate_callee (f := 70) rfl ?_); refine goesL_ (some 23) rfl rfl Try.func70 (by kernel_rfl) rfl #[.agg #[.int .i64 a0_0, .int .i64 a0_1, .int .i64 a0_2, .int .i64 a0_3, .int .i64 a0_4], .slice A1 l1.length c1, .slice A2 l2.length c2, .slice A3 l3.length c3, .int .i64 a4] rfl d32g ?_; (with_reducible refine (perigeeref9_ask.calls k a0_0 a0_1 a0_2 a0_3 a0_4 _ _ l1 _ _ l2 _ _ l3 a4 t102 _ ?side1 ?side2 ?side3 ?side4 ?side5 ?side6 A6.out).mono ?_); (case side1 => exact d32r); (case side2 => exact HC1.out); (case side3 => exact d32s); (case side4 => exact HC2.out); (case side5 => exact d32t); (case side6 => exact HC3.out); rintro e w72 ⟨rfl, hb⟩; refine ⟨_, rfl, ?_⟩; have n0_ := Aside0.mk (blk_below (g := gb101) (o := .cells #[.int .i64 a0_0, .int .i64 a0_1, .int .i64 a0_2, .int .i64 a0_3, .int .i64 a0_4] 23 (0, 0)) d32j hb); have n1_ := Aside0.mk (below_step d32f hb); clear BK101; clear HB; have BK101 := n0_; have HB := n1_; clear n0_ n1_; (try clear hb)))
   go_ret2
   exact ⟨_, d32n, by first | exact Kd.R_nil _ _ _ _ _ | exact Kd.N_nil _ _ _ _ _ | exact Kd.V_nil _ _ _ _ _ | exact Kd.Q_nil _ _ _ _ _ | exact Kd.S_nil _ _ _ _ _, d32f⟩
end Go.Proofs.Ytplcdpiggpkppaa.Q
