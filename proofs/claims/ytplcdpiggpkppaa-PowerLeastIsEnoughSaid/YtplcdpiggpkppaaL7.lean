-- Made by wip/tools/pp.py (this session's) over the kit's print program; Lean checks it.
import Derived.Test.YtplcdpiggpkppaaQ0
import Derived.Test.YtplcdpiggpkppaaGb4
import Derived.Test.YtplcdpiggpkppaaGb7
namespace Go.Proofs.Ytplcdpiggpkppaa.Q
open Go.RowKit Go.Proofs.YtplcdpiggpkppaaW.PrintWords Go.Proofs.YtplcdpiggpkppaaW.PrintLast Go.Proofs.YtplcdpiggpkppaaW.PrintMore
attribute [local go_sem] max2_int min2_int max_two min_two max_three min_three max_four min_four
open Go.Proofs.Ytplcdpiggpkppaa.Base
attribute [local go_sem high] str_leq str_gtr str_geq
set_option linter.unusedVariables false
set_option linter.unusedSimpArgs false


/-! ### perigeelaw9_PowerLeastIsEnough: function 7 -/
mutual
def perigeelaw9_PowerLeastIsEnough.j0 : Nat → List (S72) → List (S76) → List (S47) → Int → Int → Bool → Int → Int → Int → Int → Int → Option (Bool)
  | 0, _, _, _, _, _, _, _, _, _, _, _ => none
  | k + 1, x1, x2, x3, x4, x11, x31, x102000, x102001, x102002, x102003, x102004 => if x31 = true then (if x11 = 0 then ((perigeelaw9_awake.f k).bind fun t105 => (some t105)) else (some false)) else ((power_Empty.f k x102000 x11 x102002 x102003 x102004 x1 x2 x3 x4).bind fun bt106 => (if bt106.2.2 = 0 then (perigeelaw9_PowerLeastIsEnough.j1 k x1 x2 x3 x4 x11 bt106.2.1 x102000 x11 x102002 x102003 x102004) else (perigeelaw9_PowerLeastIsEnough.j1 k x1 x2 x3 x4 x11 true x102000 x11 x102002 x102003 x102004)))
def perigeelaw9_PowerLeastIsEnough.j1 : Nat → List (S72) → List (S76) → List (S47) → Int → Int → Bool → Int → Int → Int → Int → Int → Option (Bool)
  | 0, _, _, _, _, _, _, _, _, _, _, _ => none
  | k + 1, x1, x2, x3, x4, x11, x53, x102000, x102001, x102002, x102003, x102004 => if x53 = true then (some false) else (if x11 = 0 then ((perigeelaw9_awake.f k).bind fun t109 => (some t109)) else ((power_Empty.f k x102000 (wrap64 (x11 - 1)) x102002 x102003 x102004 x1 x2 x3 x4).bind fun bt110 => (if bt110.2.2 = 0 then (if bt110.2.1 = true then ((perigeelaw9_awake.f k).bind fun t113 => (some t113)) else (some false)) else (some false))))
end
def perigeelaw9_PowerLeastIsEnough.f (k : Nat) (a0_0 : Int) (a0_1 : Int) (a0_2 : Int) (a0_3 : Int) (a0_4 : Int) (l1 : List (S72)) (l2 : List (S76)) (l3 : List (S47)) (a4 : Int) : Option (Bool) := (power_Least.f k a0_0 a0_1 a0_2 a0_3 a0_4 l1 l2 l3 a4).bind fun bt102 => (if bt102.2.2 = 0 then (perigeelaw9_PowerLeastIsEnough.j0 k l1 l2 l3 a4 bt102.1 (!bt102.2.1) a0_0 a0_1 a0_2 a0_3 a0_4) else (perigeelaw9_PowerLeastIsEnough.j0 k l1 l2 l3 a4 bt102.1 true a0_0 a0_1 a0_2 a0_3 a0_4))
theorem perigeelaw9_PowerLeastIsEnough.mono_l : ∀ k, (∀ y0 y1 y2 y3 y4 y5 y6 y7 y8 y9 y10, LeO (perigeelaw9_PowerLeastIsEnough.j0 k y0 y1 y2 y3 y4 y5 y6 y7 y8 y9 y10) (perigeelaw9_PowerLeastIsEnough.j0 (k + 1) y0 y1 y2 y3 y4 y5 y6 y7 y8 y9 y10)) ∧ (∀ y0 y1 y2 y3 y4 y5 y6 y7 y8 y9 y10, LeO (perigeelaw9_PowerLeastIsEnough.j1 k y0 y1 y2 y3 y4 y5 y6 y7 y8 y9 y10) (perigeelaw9_PowerLeastIsEnough.j1 (k + 1) y0 y1 y2 y3 y4 y5 y6 y7 y8 y9 y10))
  | 0 => ⟨fun _ _ _ _ _ _ _ _ _ _ _ r h => by simp [perigeelaw9_PowerLeastIsEnough.j0] at h, fun _ _ _ _ _ _ _ _ _ _ _ r h => by simp [perigeelaw9_PowerLeastIsEnough.j1] at h⟩
  | k + 1 => by
    obtain ⟨ih0, ih1⟩ := perigeelaw9_PowerLeastIsEnough.mono_l k
    refine ⟨?_, ?_⟩
    · intro y0 y1 y2 y3 y4 y5 y6 y7 y8 y9 y10
      unfold perigeelaw9_PowerLeastIsEnough.j0
      repeat' first
      | (with_reducible exact ih0 _ _ _ _ _ _ _ _ _ _ _)
      | (with_reducible exact ih1 _ _ _ _ _ _ _ _ _ _ _)
      | (with_reducible exact perigeelaw9_awake.mono _)
      | (with_reducible exact power_Empty.mono _ _ _ _ _ _ _ _ _ _)
      | (with_reducible exact power_Least.mono _ _ _ _ _ _ _ _ _ _)
      | (with_reducible exact LeO.refl _)
      | (with_reducible exact LeO.none _)
      | (with_reducible refine LeO.ite ?_ ?_)
      | (with_reducible refine LeO.bind ?_ (fun _ => ?_))
      | exact ih0 _ _ _ _ _ _ _ _ _ _ _
      | exact ih1 _ _ _ _ _ _ _ _ _ _ _
      | exact perigeelaw9_awake.mono _
      | exact power_Empty.mono _ _ _ _ _ _ _ _ _ _
      | exact power_Least.mono _ _ _ _ _ _ _ _ _ _
      | exact LeO.none _
      | refine LeO.ite ?_ ?_
      | refine LeO.bind ?_ (fun _ => ?_)
    · intro y0 y1 y2 y3 y4 y5 y6 y7 y8 y9 y10
      unfold perigeelaw9_PowerLeastIsEnough.j1
      repeat' first
      | (with_reducible exact ih0 _ _ _ _ _ _ _ _ _ _ _)
      | (with_reducible exact ih1 _ _ _ _ _ _ _ _ _ _ _)
      | (with_reducible exact perigeelaw9_awake.mono _)
      | (with_reducible exact power_Empty.mono _ _ _ _ _ _ _ _ _ _)
      | (with_reducible exact power_Least.mono _ _ _ _ _ _ _ _ _ _)
      | (with_reducible exact LeO.refl _)
      | (with_reducible exact LeO.none _)
      | (with_reducible refine LeO.ite ?_ ?_)
      | (with_reducible refine LeO.bind ?_ (fun _ => ?_))
      | exact ih0 _ _ _ _ _ _ _ _ _ _ _
      | exact ih1 _ _ _ _ _ _ _ _ _ _ _
      | exact perigeelaw9_awake.mono _
      | exact power_Empty.mono _ _ _ _ _ _ _ _ _ _
      | exact power_Least.mono _ _ _ _ _ _ _ _ _ _
      | exact LeO.none _
      | refine LeO.ite ?_ ?_
      | refine LeO.bind ?_ (fun _ => ?_)
theorem perigeelaw9_PowerLeastIsEnough.mono : ∀ a0 a1 a2 a3 a4 a5 a6 a7 a8 k, LeO (perigeelaw9_PowerLeastIsEnough.f k a0 a1 a2 a3 a4 a5 a6 a7 a8) (perigeelaw9_PowerLeastIsEnough.f (k + 1) a0 a1 a2 a3 a4 a5 a6 a7 a8) := by
  intro a0 a1 a2 a3 a4 a5 a6 a7 a8 k
  obtain ⟨ih0, ih1⟩ := perigeelaw9_PowerLeastIsEnough.mono_l k
  unfold perigeelaw9_PowerLeastIsEnough.f
  repeat' first
      | (with_reducible exact ih0 _ _ _ _ _ _ _ _ _ _ _)
      | (with_reducible exact ih1 _ _ _ _ _ _ _ _ _ _ _)
      | (with_reducible exact perigeelaw9_awake.mono _)
      | (with_reducible exact power_Empty.mono _ _ _ _ _ _ _ _ _ _)
      | (with_reducible exact power_Least.mono _ _ _ _ _ _ _ _ _ _)
      | (with_reducible exact LeO.refl _)
      | (with_reducible exact LeO.none _)
      | (with_reducible refine LeO.ite ?_ ?_)
      | (with_reducible refine LeO.bind ?_ (fun _ => ?_))
      | exact ih0 _ _ _ _ _ _ _ _ _ _ _
      | exact ih1 _ _ _ _ _ _ _ _ _ _ _
      | exact perigeelaw9_awake.mono _
      | exact power_Empty.mono _ _ _ _ _ _ _ _ _ _
      | exact power_Least.mono _ _ _ _ _ _ _ _ _ _
      | exact LeO.none _
      | refine LeO.ite ?_ ?_
      | refine LeO.bind ?_ (fun _ => ?_)
theorem d7a {p : Prop} (h : p := by (with_reducible repeat (first | refine blk_drewN ?_ _ | refine blk_drew ?_ | refine blk_alloc ?_ _)); refine blk_put (cs := #[.int .i64 a0_0, .int .i64 t102, .int .i64 a0_2, .int .i64 a0_3, .int .i64 a0_4]) ?_ 1 _ rfl; (with_reducible repeat (first | refine blk_drewN ?_ _ | refine blk_drew ?_ | refine blk_alloc ?_ _)); exact BK101.out) : p := h
theorem d7b {p : Prop} (h : p := by exact Kd.C_below HR1.out (by repeat (first | (with_reducible first | exact HB.out | apply below_alloc | apply pw_below_drewN | apply below_drew1 | refine below_set ?_ GE101.out) | exact HB.out))) : p := h
theorem d7c {p : Prop} (h : p := by exact Kd.C_below HR2.out (by repeat (first | (with_reducible first | exact HB.out | apply below_alloc | apply pw_below_drewN | apply below_drew1 | refine below_set ?_ GE101.out) | exact HB.out))) : p := h
theorem d7d {p : Prop} (h : p := by exact Kd.C_below HR3.out (by repeat (first | (with_reducible first | exact HB.out | apply below_alloc | apply pw_below_drewN | apply below_drew1 | refine below_set ?_ GE101.out) | exact HB.out))) : p := h
theorem d7e {p : Prop} (h : p := by repeat (first | (with_reducible first | exact HB.out | apply below_alloc | apply pw_below_drewN | apply below_drew1 | refine below_set ?_ GE101.out) | exact HB.out)) : p := h
theorem d7f {p : Prop} (h : p := by (try simp only [List.map_toArray, List.map_cons, List.map_nil]); first | done | rfl | (simp only [List.length_drop, List.length_take]; rfl)) : p := h
theorem d7g {p : Prop} (h : p := by repeat (first | (with_reducible first | exact HB.out | apply below_alloc | apply pw_below_drewN | apply below_drew1) | exact HB.out)) : p := h
theorem d7h {p : Prop} (h : p := by (with_reducible repeat (first | refine blk_drewN ?_ _ | refine blk_drew ?_ | refine blk_alloc ?_ _)); exact BK101.out) : p := h
theorem d7i {p : Prop} (h : p := by first | rfl | (simp [errW_none, errW_some] <;> rfl) | (simp [*, errW_none, errW_some] <;> rfl)) : p := h
theorem d7j {p : Prop} (h : p := by first | rfl | (simp; done) | (simp [*]; done)) : p := h
set_option maxHeartbeats 8000000 in
set_option maxRecDepth 100000 in
theorem perigeelaw9_PowerLeastIsEnough.calls (k : Nat) (a0_0 : Int) (a0_1 : Int) (a0_2 : Int) (a0_3 : Int) (a0_4 : Int) (A1 : Option Addr) (c1 : Nat) (l1 : List (S72)) (A2 : Option Addr) (c2 : Nat) (l2 : List (S76)) (A3 : Option Addr) (c3 : Nat) (l3 : List (S47)) (a4 : Int) (r : Bool) (w : World) (hr1 : Kd.C k72 w A1 l1.length l1) (hc1 : l1.length ≤ c1) (hr2 : Kd.C k76 w A2 l2.length l2) (hc2 : l2.length ≤ c2) (hr3 : Kd.C k47 w A3 l3.length l3) (hc3 : l3.length ≤ c3) (h : perigeelaw9_PowerLeastIsEnough.f k a0_0 a0_1 a0_2 a0_3 a0_4 l1 l2 l3 a4 = some r) :
 Calls Try.prog 7 #[.agg #[.int .i64 a0_0, .int .i64 a0_1, .int .i64 a0_2, .int .i64 a0_3, .int .i64 a0_4], .slice A1 l1.length c1, .slice A2 l2.length c2, .slice A3 l3.length c3, .int .i64 a4] w fun e w' => e = .returned (.bool r) ∧ Below w.heap.size w w' := by
 have hu23 := Try.underlying23
 have HR1 := Aside0.mk hr1
 have HC1 := Aside0.mk hc1
 clear hr1 hc1
 have HR2 := Aside0.mk hr2
 have HC2 := Aside0.mk hc2
 clear hr2 hc2
 have HR3 := Aside0.mk hr3
 have HC3 := Aside0.mk hc3
 clear hr3 hc3
 have HB := Aside0.mk (Below.refl w.heap.size w)
 have H : ((power_Least.f k a0_0 a0_1 a0_2 a0_3 a0_4 l1 l2 l3 a4).bind fun bt102 => (if bt102.2.2 = 0 then (perigeelaw9_PowerLeastIsEnough.j0 k l1 l2 l3 a4 bt102.1 (!bt102.2.1) a0_0 a0_1 a0_2 a0_3 a0_4) else (perigeelaw9_PowerLeastIsEnough.j0 k l1 l2 l3 a4 bt102.1 true a0_0 a0_1 a0_2 a0_3 a0_4))) = some r := h
 clear h
 replace H := bindS H; obtain ⟨⟨t102, t103, t104⟩, A6, H⟩ := H
 have HC7 := Aside0.mk H
 clear H
 go_enter Try.func7, Try.ntmps7
 go_upto_region 2 with (first | ((with_reducible refine gate_dst (N := 5) rfl ?_); refine box_event ?hg (N := 5) ?hd (cs := #[.int .i64 a0_0, .int .i64 a0_1, .int .i64 a0_2, .int .i64 a0_3, .int .i64 a0_4]) (t := 23) ?hr ?_; (case hd => rfl); (case hg => rfl); (case hr => first | (go_simp; done) | (go_simp; rfl)); intro gb101 hg w8 hbox hb; have n0_ := Aside0.mk (below_step d7g hb); have n1_ := Aside0.mk (hbox); have n2_ := Aside0.mk ((by rw [hg]; exact (below_size d7g) : w.heap.size ≤ gb101)); have n3_ := Aside0.mk ((by rw [hg]; exact (below_size d7g) : w.heap.size ≤ gb101)); clear HB; have HB := n0_; have BK101 := n1_; have GW101 := n2_; have GE101 := n3_; clear n0_ n1_ n2_ n3_; clear hb hbox hg; have hcz9_0 : w8.cell? ⟨gb101, 0, none⟩ = some (.int .i64 a0_0) := (blk_cell BK101.out 0).trans rfl; have hcz9_1 : w8.cell? ⟨gb101, 1, none⟩ = some (.int .i64 a0_1) := (blk_cell BK101.out 1).trans rfl; have hcz9_2 : w8.cell? ⟨gb101, 2, none⟩ = some (.int .i64 a0_2) := (blk_cell BK101.out 2).trans rfl; have hcz9_3 : w8.cell? ⟨gb101, 3, none⟩ = some (.int .i64 a0_3) := (blk_cell BK101.out 3).trans rfl; have hcz9_4 : w8.cell? ⟨gb101, 4, none⟩ = some (.int .i64 a0_4) := (blk_cell BK101.out 4).trans rfl; have hfz9_0 := blk_frozen BK101.out 0; have hfz9_1 := blk_frozen BK101.out 1; have hfz9_2 := blk_frozen BK101.out 2; have hfz9_3 := blk_frozen BK101.out 3; have hfz9_4 := blk_frozen BK101.out 4) | ((with_reducible refine gate_callee (f := 34) rfl ?_); refine goesL_ (some 22) rfl rfl Try.func34 (by kernel_rfl) rfl #[.agg #[.int .i64 a0_0, .int .i64 a0_1, .int .i64 a0_2, .int .i64 a0_3, .int .i64 a0_4], .slice A1 l1.length c1, .slice A2 l2.length c2, .slice A3 l3.length c3, .int .i64 a4] rfl d7f ?_; (with_reducible refine (power_Least.calls k a0_0 a0_1 a0_2 a0_3 a0_4 _ _ l1 _ _ l2 _ _ l3 a4 t102 t103 t104 _ ?side1 ?side2 ?side3 ?side4 ?side5 ?side6 A6.out).mono ?_); (case side1 => exact C_go (Kd.C_below HR1.out HB.out)); (case side2 => exact HC1.out); (case side3 => exact C_go (Kd.C_below HR2.out HB.out)); (case side4 => exact HC2.out); (case side5 => exact C_go (Kd.C_below HR3.out HB.out)); (case side6 => exact HC3.out); rintro e w10 ⟨rfl, hb⟩; refine ⟨_, rfl, ?_⟩; have n0_ := Aside0.mk (blk_below (g := gb101) (o := .cells #[.int .i64 a0_0, .int .i64 a0_1, .int .i64 a0_2, .int .i64 a0_3, .int .i64 a0_4] 23 (0, 0)) d7h hb); have n1_ := Aside0.mk (below_step d7e hb); clear BK101; clear HB; have BK101 := n0_; have HB := n1_; clear n0_ n1_; (try clear hb)))
 (try simp only [Act.put, List.setIfInBounds_toArray, List.set_cons_zero, List.set_cons_succ])
 go_cut [31] (fun v31 wc => ∃ (kq : Nat) (x31_6 : Bool), v31 = .bool x31_6 ∧ Aside0 (perigeelaw9_PowerLeastIsEnough.j0 kq l1 l2 l3 a4 t102 x31_6 a0_0 a0_1 a0_2 a0_3 a0_4 = some r) ∧ Aside0 (kq ≤ k) ∧ Aside0 (wc.heap[gb101]? = some (.cells #[.int .i64 a0_0, .int .i64 a0_1, .int .i64 a0_2, .int .i64 a0_3, .int .i64 a0_4] 23 (0, 0))) ∧ Aside0 (Below w.heap.size w wc))
 case first =>
  have H := HC7.out
  clear HC7
  by_cases c11 : t104 = 0
  · rw [if_pos c11] at H
    have c11b0 : (t104 == 0) = true := beq_iff_eq.mpr c11
    have c11b1 : (t104 != 0) = false := bne_eq_false_iff_eq.mpr c11
    clear c11
    (first | rw [c11b0] | (simp only [i64_w, i32_w]; rw [c11b0]) | skip)
    have H' := Aside0.mk H
    clear H
    go_wp2
    go_meet
    case rel => exact ⟨_, (!t103), d7j, H', ⟨by first | omega | exact Nat.le_refl _⟩, ⟨d7h⟩, ⟨d7e⟩⟩
  · rw [if_neg c11] at H
    have c11b0 : (t104 == 0) = false := beq_eq_false_iff_ne.mpr c11
    have c11b1 : (t104 != 0) = true := bne_iff_ne.mpr c11
    (first | rw [c11b0] | (simp only [i64_w, i32_w]; rw [c11b0]) | skip)
    have H' := Aside0.mk H
    clear H
    go_wp2
    go_meet
    case rel => exact ⟨_, (true), d7j, H', ⟨by first | omega | exact Nat.le_refl _⟩, ⟨d7h⟩, ⟨d7e⟩⟩
 case rest =>
  clear HC7
  try clear hcz9_0
  try clear hcz9_1
  try clear hcz9_2
  try clear hcz9_3
  try clear hcz9_4
  try clear hfz9_0
  try clear hfz9_1
  try clear hfz9_2
  try clear hfz9_3
  try clear hfz9_4
  obtain ⟨kq, x31_6, rfl, HA, HJ6, BK101, HB⟩ := hcut
  cases kq with
  | zero => exact absurd HA.out (by simp [perigeelaw9_PowerLeastIsEnough.j0])
  | succ kj6 =>
   have H := HA.out
   clear HA
   simp only [perigeelaw9_PowerLeastIsEnough.j0] at H
   by_cases c12 : x31_6 = true
   · subst c12
     replace H := iteT H
     by_cases c13 : t102 = 0
     · rw [if_pos c13] at H
       have c13b0 : (t102 == 0) = true := beq_iff_eq.mpr c13
       have c13b1 : (t102 != 0) = false := bne_eq_false_iff_eq.mpr c13
       clear c13
       replace H := bindS H; obtain ⟨t105, A14, H⟩ := H
       obtain rfl := Option.some.inj H
       go_wp2_with (go_at_call 27; (with_reducible refine (perigeelaw9_awake.calls kj6  t105 _ A14.out).mono ?_); rintro e w15 ⟨rfl, hb⟩; have n0_ := Aside0.mk (blk_below (g := gb101) (o := .cells #[.int .i64 a0_0, .int .i64 a0_1, .int .i64 a0_2, .int .i64 a0_3, .int .i64 a0_4] 23 (0, 0)) d7h hb); have n1_ := Aside0.mk (below_step d7e hb); clear BK101; clear HB; have BK101 := n0_; have HB := n1_; clear n0_ n1_; (try clear hb))
       go_ret
       exact ⟨d7i, d7e⟩
     · rw [if_neg c13] at H
       have c13b0 : (t102 == 0) = false := beq_eq_false_iff_ne.mpr c13
       have c13b1 : (t102 != 0) = true := bne_iff_ne.mpr c13
       obtain rfl := Option.some.inj H
       go_wp2
       go_ret
       exact ⟨d7i, d7e⟩
   · replace c12 := Bool.eq_false_iff.mpr c12
     subst c12
     replace H := iteF H
     replace H := bindS H; obtain ⟨⟨t106, t107, t108⟩, A16, H⟩ := H
     have HC17 := Aside0.mk H
     clear H
     obtain ⟨hcz18_0, hcz18_1, hcz18_2, hcz18_3, hcz18_4⟩ := blkC5 BK101.out
     have hfz18_0 := blk_frozen BK101.out 0
     have hfz18_1 := blk_frozen BK101.out 1
     have hfz18_2 := blk_frozen BK101.out 2
     have hfz18_3 := blk_frozen BK101.out 3
     have hfz18_4 := blk_frozen BK101.out 4
     go_upto_region 6 with ((with_reducible refine gate_callee (f := 35) rfl ?_); refine goesL_ (some 45) rfl rfl Try.func35 (by kernel_rfl) rfl #[.agg #[.int .i64 a0_0, .int .i64 t102, .int .i64 a0_2, .int .i64 a0_3, .int .i64 a0_4], .slice A1 l1.length c1, .slice A2 l2.length c2, .slice A3 l3.length c3, .int .i64 a4] rfl d7f ?_; (with_reducible refine (power_Empty.calls kj6 a0_0 t102 a0_2 a0_3 a0_4 _ _ l1 _ _ l2 _ _ l3 a4 t106 t107 t108 _ ?side1 ?side2 ?side3 ?side4 ?side5 ?side6 A16.out).mono ?_); (case side1 => exact d7b); (case side2 => exact HC1.out); (case side3 => exact d7c); (case side4 => exact HC2.out); (case side5 => exact d7d); (case side6 => exact HC3.out); rintro e w19 ⟨rfl, hb⟩; refine ⟨_, rfl, ?_⟩; have n0_ := Aside0.mk (blk_below (g := gb101) (o := .cells #[.int .i64 a0_0, .int .i64 t102, .int .i64 a0_2, .int .i64 a0_3, .int .i64 a0_4] 23 (0, 0)) (by (with_reducible repeat (first | refine blk_drewN ?_ _ | refine blk_drew ?_ | refine blk_alloc ?_ _)); refine blk_put (cs := #[.int .i64 a0_0, .int .i64 a0_1, .int .i64 a0_2, .int .i64 a0_3, .int .i64 a0_4]) ?_ 1 _ rfl; (with_reducible repeat (first | refine blk_drewN ?_ _ | refine blk_drew ?_ | refine blk_alloc ?_ _)); exact BK101.out) hb); have n1_ := Aside0.mk (below_step d7e hb); clear BK101; clear HB; have BK101 := n0_; have HB := n1_; clear n0_ n1_; (try clear hb))
     (try simp only [Act.put, List.setIfInBounds_toArray, List.set_cons_zero, List.set_cons_succ])
     go_cut [53] (fun v53 wc => ∃ (kq : Nat) (x53_16 : Bool), v53 = .bool x53_16 ∧ Aside0 (perigeelaw9_PowerLeastIsEnough.j1 kq l1 l2 l3 a4 t102 x53_16 a0_0 t102 a0_2 a0_3 a0_4 = some r) ∧ Aside0 (kq ≤ kj6) ∧ Aside0 (wc.heap[gb101]? = some (.cells #[.int .i64 a0_0, .int .i64 t102, .int .i64 a0_2, .int .i64 a0_3, .int .i64 a0_4] 23 (0, 0))) ∧ Aside0 (Below w.heap.size w wc))
     case first =>
      have H := HC17.out
      clear HC17
      by_cases c20 : t108 = 0
      · rw [if_pos c20] at H
        have c20b0 : (t108 == 0) = true := beq_iff_eq.mpr c20
        have c20b1 : (t108 != 0) = false := bne_eq_false_iff_eq.mpr c20
        clear c20
        (first | rw [c20b0] | (simp only [i64_w, i32_w]; rw [c20b0]) | skip)
        have H' := Aside0.mk H
        clear H
        go_wp2
        go_meet
        case rel => exact ⟨_, (t107), d7j, H', ⟨by have := HJ6.out; first | omega | exact Nat.le_refl _⟩, ⟨d7h⟩, ⟨d7e⟩⟩
      · rw [if_neg c20] at H
        have c20b0 : (t108 == 0) = false := beq_eq_false_iff_ne.mpr c20
        have c20b1 : (t108 != 0) = true := bne_iff_ne.mpr c20
        (first | rw [c20b0] | (simp only [i64_w, i32_w]; rw [c20b0]) | skip)
        have H' := Aside0.mk H
        clear H
        go_wp2
        go_meet
        case rel => exact ⟨_, (true), d7j, H', ⟨by have := HJ6.out; first | omega | exact Nat.le_refl _⟩, ⟨d7h⟩, ⟨d7e⟩⟩
     case rest =>
      clear HC17
      try clear hcz18_0
      try clear hcz18_1
      try clear hcz18_2
      try clear hcz18_3
      try clear hcz18_4
      try clear hfz18_0
      try clear hfz18_1
      try clear hfz18_2
      try clear hfz18_3
      try clear hfz18_4
      obtain ⟨kq, x53_16, rfl, HA, HJ16, BK101, HB⟩ := hcut
      cases kq with
      | zero => exact absurd HA.out (by simp [perigeelaw9_PowerLeastIsEnough.j1])
      | succ kj16 =>
       have H := HA.out
       clear HA
       simp only [perigeelaw9_PowerLeastIsEnough.j1] at H
       by_cases c21 : x53_16 = true
       · subst c21
         replace H := iteT H
         obtain rfl := Option.some.inj H
         go_wp2
         go_ret
         exact ⟨d7i, d7e⟩
       · replace c21 := Bool.eq_false_iff.mpr c21
         subst c21
         replace H := iteF H
         by_cases c22 : t102 = 0
         · rw [if_pos c22] at H
           have c22b0 : (t102 == 0) = true := beq_iff_eq.mpr c22
           have c22b1 : (t102 != 0) = false := bne_eq_false_iff_eq.mpr c22
           clear c22
           replace H := bindS H; obtain ⟨t109, A23, H⟩ := H
           obtain rfl := Option.some.inj H
           go_wp2_with ((with_reducible refine gate_callee (f := 27) rfl ?_); refine goesL_ (some 56) rfl rfl Try.func27 (by kernel_rfl) rfl #[] rfl d7f ?_; (with_reducible refine (perigeelaw9_awake.calls kj16  t109 _ A23.out).mono ?_); rintro e w24 ⟨rfl, hb⟩; refine ⟨_, rfl, ?_⟩; have n0_ := Aside0.mk (blk_below (g := gb101) (o := .cells #[.int .i64 a0_0, .int .i64 t102, .int .i64 a0_2, .int .i64 a0_3, .int .i64 a0_4] 23 (0, 0)) d7h hb); have n1_ := Aside0.mk (below_step d7e hb); clear BK101; clear HB; have BK101 := n0_; have HB := n1_; clear n0_ n1_; (try clear hb))
           go_ret
           exact ⟨d7i, d7e⟩
         · rw [if_neg c22] at H
           have c22b0 : (t102 == 0) = false := beq_eq_false_iff_ne.mpr c22
           have c22b1 : (t102 != 0) = true := bne_iff_ne.mpr c22
           replace H := bindS H; obtain ⟨⟨t110, t111, t112⟩, A25, H⟩ := H
           by_cases c26 : t112 = 0
           · rw [if_pos c26] at H
             have c26b0 : (t112 == 0) = true := beq_iff_eq.mpr c26
             have c26b1 : (t112 != 0) = false := bne_eq_false_iff_eq.mpr c26
             clear c26
             by_cases c27 : t111 = true
             · subst c27
               replace H := iteT H
               replace H := bindS H; obtain ⟨t113, A28, H⟩ := H
               obtain rfl := Option.some.inj H
               obtain ⟨hcz29_0, hcz29_1, hcz29_2, hcz29_3, hcz29_4⟩ := blkC5 BK101.out
               have hfz29_0 := blk_frozen BK101.out 0
               have hfz29_1 := blk_frozen BK101.out 1
               have hfz29_2 := blk_frozen BK101.out 2
               have hfz29_3 := blk_frozen BK101.out 3
               have hfz29_4 := blk_frozen BK101.out 4
               go_wp2_with (first | ((with_reducible refine gate_callee (f := 35) rfl ?_); refine goesL_ (some 66) rfl rfl Try.func35 (by kernel_rfl) rfl #[.agg #[.int .i64 a0_0, .int .i64 (wrap64 (t102 - 1)), .int .i64 a0_2, .int .i64 a0_3, .int .i64 a0_4], .slice A1 l1.length c1, .slice A2 l2.length c2, .slice A3 l3.length c3, .int .i64 a4] rfl d7f ?_; (with_reducible refine (power_Empty.calls kj16 a0_0 (wrap64 (t102 - 1)) a0_2 a0_3 a0_4 _ _ l1 _ _ l2 _ _ l3 a4 t110 true t112 _ ?side1 ?side2 ?side3 ?side4 ?side5 ?side6 A25.out).mono ?_); (case side1 => exact d7b); (case side2 => exact HC1.out); (case side3 => exact d7c); (case side4 => exact HC2.out); (case side5 => exact d7d); (case side6 => exact HC3.out); rintro e w30 ⟨rfl, hb⟩; refine ⟨_, rfl, ?_⟩; have n0_ := Aside0.mk (blk_below (g := gb101) (o := .cells #[.int .i64 a0_0, .int .i64 (wrap64 (t102 - 1)), .int .i64 a0_2, .int .i64 a0_3, .int .i64 a0_4] 23 (0, 0)) d7a hb); have n1_ := Aside0.mk (below_step d7e hb); clear BK101; clear HB; have BK101 := n0_; have HB := n1_; clear n0_ n1_; (try clear hb)) | (go_at_call 27; (with_reducible refine (perigeelaw9_awake.calls kj16  t113 _ A28.out).mono ?_); rintro e w31 ⟨rfl, hb⟩; have n0_ := Aside0.mk (blk_below (g := gb101) (o := .cells #[.int .i64 a0_0, .int .i64 (wrap64 (t102 - 1)), .int .i64 a0_2, .int .i64 a0_3, .int .i64 a0_4] 23 (0, 0)) d7h hb); have n1_ := Aside0.mk (below_step d7e hb); clear BK101; clear HB; have BK101 := n0_; have HB := n1_; clear n0_ n1_; (try clear hb)))
               go_ret
               exact ⟨d7i, d7e⟩
             · replace c27 := Bool.eq_false_iff.mpr c27
               subst c27
               replace H := iteF H
               obtain rfl := Option.some.inj H
               obtain ⟨hcz32_0, hcz32_1, hcz32_2, hcz32_3, hcz32_4⟩ := blkC5 BK101.out
               have hfz32_0 := blk_frozen BK101.out 0
               have hfz32_1 := blk_frozen BK101.out 1
               have hfz32_2 := blk_frozen BK101.out 2
               have hfz32_3 := blk_frozen BK101.out 3
               have hfz32_4 := blk_frozen BK101.out 4
               go_wp2_with ((with_reducible refine gate_callee (f := 35) rfl ?_); refine goesL_ (some 66) rfl rfl Try.func35 (by kernel_rfl) rfl #[.agg #[.int .i64 a0_0, .int .i64 (wrap64 (t102 - 1)), .int .i64 a0_2, .int .i64 a0_3, .int .i64 a0_4], .slice A1 l1.length c1, .slice A2 l2.length c2, .slice A3 l3.length c3, .int .i64 a4] rfl d7f ?_; (with_reducible refine (power_Empty.calls kj16 a0_0 (wrap64 (t102 - 1)) a0_2 a0_3 a0_4 _ _ l1 _ _ l2 _ _ l3 a4 t110 false t112 _ ?side1 ?side2 ?side3 ?side4 ?side5 ?side6 A25.out).mono ?_); (case side1 => exact d7b); (case side2 => exact HC1.out); (case side3 => exact d7c); (case side4 => exact HC2.out); (case side5 => exact d7d); (case side6 => exact HC3.out); rintro e w33 ⟨rfl, hb⟩; refine ⟨_, rfl, ?_⟩; have n0_ := Aside0.mk (blk_below (g := gb101) (o := .cells #[.int .i64 a0_0, .int .i64 (wrap64 (t102 - 1)), .int .i64 a0_2, .int .i64 a0_3, .int .i64 a0_4] 23 (0, 0)) d7a hb); have n1_ := Aside0.mk (below_step d7e hb); clear BK101; clear HB; have BK101 := n0_; have HB := n1_; clear n0_ n1_; (try clear hb))
               go_ret
               exact ⟨d7i, d7e⟩
           · rw [if_neg c26] at H
             have c26b0 : (t112 == 0) = false := beq_eq_false_iff_ne.mpr c26
             have c26b1 : (t112 != 0) = true := bne_iff_ne.mpr c26
             obtain rfl := Option.some.inj H
             obtain ⟨hcz34_0, hcz34_1, hcz34_2, hcz34_3, hcz34_4⟩ := blkC5 BK101.out
             have hfz34_0 := blk_frozen BK101.out 0
             have hfz34_1 := blk_frozen BK101.out 1
             have hfz34_2 := blk_frozen BK101.out 2
             have hfz34_3 := blk_frozen BK101.out 3
             have hfz34_4 := blk_frozen BK101.out 4
             go_wp2_with ((with_reducible refine gate_callee (f := 35) rfl ?_); refine goesL_ (some 66) rfl rfl Try.func35 (by kernel_rfl) rfl #[.agg #[.int .i64 a0_0, .int .i64 (wrap64 (t102 - 1)), .int .i64 a0_2, .int .i64 a0_3, .int .i64 a0_4], .slice A1 l1.length c1, .slice A2 l2.length c2, .slice A3 l3.length c3, .int .i64 a4] rfl d7f ?_; (with_reducible refine (power_Empty.calls kj16 a0_0 (wrap64 (t102 - 1)) a0_2 a0_3 a0_4 _ _ l1 _ _ l2 _ _ l3 a4 t110 t111 t112 _ ?side1 ?side2 ?side3 ?side4 ?side5 ?side6 A25.out).mono ?_); (case side1 => exact d7b); (case side2 => exact HC1.out); (case side3 => exact d7c); (case side4 => exact HC2.out); (case side5 => exact d7d); (case side6 => exact HC3.out); rintro e w35 ⟨rfl, hb⟩; refine ⟨_, rfl, ?_⟩; have n0_ := Aside0.mk (blk_below (g := gb101) (o := .cells #[.int .i64 a0_0, .int .i64 (wrap64 (t102 - 1)), .int .i64 a0_2, .int .i64 a0_3, .int .i64 a0_4] 23 (0, 0)) d7a hb); have n1_ := Aside0.mk (below_step d7e hb); clear BK101; clear HB; have BK101 := n0_; have HB := n1_; clear n0_ n1_; (try clear hb))
             go_ret
             exact ⟨d7i, d7e⟩
end Go.Proofs.Ytplcdpiggpkppaa.Q
