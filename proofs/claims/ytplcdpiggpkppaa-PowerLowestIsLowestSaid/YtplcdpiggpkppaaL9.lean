-- Made by wip/tools/pp.py (this session's) over the kit's print program; Lean checks it.
import Derived.Test.YtplcdpiggpkppaaQ0
import Derived.Test.YtplcdpiggpkppaaGb4
import Derived.Test.YtplcdpiggpkppaaGb5
import Derived.Test.YtplcdpiggpkppaaGb6
import Derived.Test.YtplcdpiggpkppaaGb7
namespace Go.Proofs.Ytplcdpiggpkppaa.Q
open Go.RowKit Go.Proofs.YtplcdpiggpkppaaW.PrintWords Go.Proofs.YtplcdpiggpkppaaW.PrintLast Go.Proofs.YtplcdpiggpkppaaW.PrintMore
attribute [local go_sem] max2_int min2_int max_two min_two max_three min_three max_four min_four
open Go.Proofs.Ytplcdpiggpkppaa.Base
attribute [local go_sem high] str_leq str_gtr str_geq
set_option linter.unusedVariables false
set_option linter.unusedSimpArgs false


/-! ### perigeelaw9_PowerLowestIsLowest: function 9 -/
mutual
def perigeelaw9_PowerLowestIsLowest.j0 : Nat → List (S72) → List (S76) → List (S47) → Int → Int → Int → Int → Int → Bool → Int → Int → Int → Int → Int → Option (Bool)
  | 0, _, _, _, _, _, _, _, _, _, _, _, _, _, _ => none
  | k + 1, x1, x2, x3, x4, x5, x13, x14, x15, x36, x102000, x102001, x102002, x102003, x102004 => if x36 = true then (if x15 = 0 then (some false) else (if x13 = 0 then ((perigeelaw9_awake.f k).bind fun t105 => (some t105)) else (some false))) else ((power_LevelAt.f k x102000 x102001 x102002 x102003 x102004 x1 x2 x3 x14).bind fun bt106 => ((perigeeref9_Below.f x5 (wrap64 (x4 + 1))).bind fun t108 => ((power_LevelAt.f k x102000 x102001 x102002 x102003 x102004 x1 x2 x3 t108).bind fun bt109 => (if bt106.2 = 0 then (if bt109.2 = 0 then (if bt106.1 = x13 then (if bt109.1 < x13 then (perigeelaw9_PowerLowestIsLowest.j1 k x1 x2 x3 x4 t108 x13 bt109.1 true x102000 x102001 x102002 x102003 x102004) else (if bt109.1 = x13 then (perigeelaw9_PowerLowestIsLowest.j1 k x1 x2 x3 x4 t108 x13 bt109.1 (decide (t108 < x14)) x102000 x102001 x102002 x102003 x102004) else (perigeelaw9_PowerLowestIsLowest.j1 k x1 x2 x3 x4 t108 x13 bt109.1 false x102000 x102001 x102002 x102003 x102004))) else (perigeelaw9_PowerLowestIsLowest.j1 k x1 x2 x3 x4 t108 x13 bt109.1 true x102000 x102001 x102002 x102003 x102004)) else (perigeelaw9_PowerLowestIsLowest.j1 k x1 x2 x3 x4 t108 x13 bt109.1 true x102000 x102001 x102002 x102003 x102004)) else (perigeelaw9_PowerLowestIsLowest.j1 k x1 x2 x3 x4 t108 x13 bt109.1 true x102000 x102001 x102002 x102003 x102004)))))
def perigeelaw9_PowerLowestIsLowest.j1 : Nat → List (S72) → List (S76) → List (S47) → Int → Int → Int → Int → Bool → Int → Int → Int → Int → Int → Option (Bool)
  | 0, _, _, _, _, _, _, _, _, _, _, _, _, _ => none
  | k + 1, x1, x2, x3, x4, x5, x13, x17, x93, x102000, x102001, x102002, x102003, x102004 => if x93 = true then (some false) else ((power_Empty.f k x102000 x102001 x102002 x102003 x102004 x1 x2 x3 x4).bind fun bt111 => (if bt111.2.2 = 0 then (perigeelaw9_PowerLowestIsLowest.j2 k x1 x2 x3 x5 x17 bt111.1 bt111.2.1 (bt111.2.1 != (decide (x13 < x102004))) x102000 x102001 x102002 x102003 x102004) else (perigeelaw9_PowerLowestIsLowest.j2 k x1 x2 x3 x5 x17 bt111.1 bt111.2.1 true x102000 x102001 x102002 x102003 x102004)))
def perigeelaw9_PowerLowestIsLowest.j2 : Nat → List (S72) → List (S76) → List (S47) → Int → Int → Int → Bool → Bool → Int → Int → Int → Int → Int → Option (Bool)
  | 0, _, _, _, _, _, _, _, _, _, _, _, _, _ => none
  | k + 1, x1, x2, x3, x5, x17, x19, x20, x113, x102000, x102001, x102002, x102003, x102004 => if x113 = true then (some false) else (if x20 = true then ((power_LevelAt.f k x102000 x102001 x102002 x102003 x102004 x1 x2 x3 x19).bind fun bt114 => (if bt114.2 = 0 then (if bt114.1 < x102004 then (if x5 ≥ x19 then ((perigeelaw9_awake.f k).bind fun t116 => (some t116)) else (if x17 ≥ x102004 then ((perigeelaw9_awake.f k).bind fun t117 => (some t117)) else (some false))) else (some false)) else (some false))) else ((perigeelaw9_awake.f k).bind fun t118 => (some t118)))
end
def perigeelaw9_PowerLowestIsLowest.f (k : Nat) (a0_0 : Int) (a0_1 : Int) (a0_2 : Int) (a0_3 : Int) (a0_4 : Int) (l1 : List (S72)) (l2 : List (S76)) (l3 : List (S47)) (a4 : Int) (a5 : Int) : Option (Bool) := (power_Lowest.f k a0_0 a0_1 a0_2 a0_3 a0_4 l1 l2 l3 a4).bind fun bt102 => (if bt102.2.2 = 0 then (perigeelaw9_PowerLowestIsLowest.j0 k l1 l2 l3 a4 a5 bt102.1 bt102.2.1 bt102.2.2 (decide (a4 < 0)) a0_0 a0_1 a0_2 a0_3 a0_4) else (perigeelaw9_PowerLowestIsLowest.j0 k l1 l2 l3 a4 a5 bt102.1 bt102.2.1 bt102.2.2 true a0_0 a0_1 a0_2 a0_3 a0_4))
theorem perigeelaw9_PowerLowestIsLowest.mono_l : ∀ k, (∀ y0 y1 y2 y3 y4 y5 y6 y7 y8 y9 y10 y11 y12 y13, LeO (perigeelaw9_PowerLowestIsLowest.j0 k y0 y1 y2 y3 y4 y5 y6 y7 y8 y9 y10 y11 y12 y13) (perigeelaw9_PowerLowestIsLowest.j0 (k + 1) y0 y1 y2 y3 y4 y5 y6 y7 y8 y9 y10 y11 y12 y13)) ∧ (∀ y0 y1 y2 y3 y4 y5 y6 y7 y8 y9 y10 y11 y12, LeO (perigeelaw9_PowerLowestIsLowest.j1 k y0 y1 y2 y3 y4 y5 y6 y7 y8 y9 y10 y11 y12) (perigeelaw9_PowerLowestIsLowest.j1 (k + 1) y0 y1 y2 y3 y4 y5 y6 y7 y8 y9 y10 y11 y12)) ∧ (∀ y0 y1 y2 y3 y4 y5 y6 y7 y8 y9 y10 y11 y12, LeO (perigeelaw9_PowerLowestIsLowest.j2 k y0 y1 y2 y3 y4 y5 y6 y7 y8 y9 y10 y11 y12) (perigeelaw9_PowerLowestIsLowest.j2 (k + 1) y0 y1 y2 y3 y4 y5 y6 y7 y8 y9 y10 y11 y12))
  | 0 => ⟨fun _ _ _ _ _ _ _ _ _ _ _ _ _ _ r h => by simp [perigeelaw9_PowerLowestIsLowest.j0] at h, fun _ _ _ _ _ _ _ _ _ _ _ _ _ r h => by simp [perigeelaw9_PowerLowestIsLowest.j1] at h, fun _ _ _ _ _ _ _ _ _ _ _ _ _ r h => by simp [perigeelaw9_PowerLowestIsLowest.j2] at h⟩
  | k + 1 => by
    obtain ⟨ih0, ih1, ih2⟩ := perigeelaw9_PowerLowestIsLowest.mono_l k
    refine ⟨?_, ?_, ?_⟩
    · intro y0 y1 y2 y3 y4 y5 y6 y7 y8 y9 y10 y11 y12 y13
      unfold perigeelaw9_PowerLowestIsLowest.j0
      repeat' first
      | (with_reducible exact ih0 _ _ _ _ _ _ _ _ _ _ _ _ _ _)
      | (with_reducible exact ih1 _ _ _ _ _ _ _ _ _ _ _ _ _)
      | (with_reducible exact ih2 _ _ _ _ _ _ _ _ _ _ _ _ _)
      | (with_reducible exact perigeelaw9_awake.mono _)
      | (with_reducible exact power_Empty.mono _ _ _ _ _ _ _ _ _ _)
      | (with_reducible exact power_LevelAt.mono _ _ _ _ _ _ _ _ _ _)
      | (with_reducible exact power_Lowest.mono _ _ _ _ _ _ _ _ _ _)
      | (with_reducible exact LeO.refl _)
      | (with_reducible exact LeO.none _)
      | (with_reducible refine LeO.ite ?_ ?_)
      | (with_reducible refine LeO.bind ?_ (fun _ => ?_))
      | exact ih0 _ _ _ _ _ _ _ _ _ _ _ _ _ _
      | exact ih1 _ _ _ _ _ _ _ _ _ _ _ _ _
      | exact ih2 _ _ _ _ _ _ _ _ _ _ _ _ _
      | exact perigeelaw9_awake.mono _
      | exact power_Empty.mono _ _ _ _ _ _ _ _ _ _
      | exact power_LevelAt.mono _ _ _ _ _ _ _ _ _ _
      | exact power_Lowest.mono _ _ _ _ _ _ _ _ _ _
      | exact LeO.none _
      | refine LeO.ite ?_ ?_
      | refine LeO.bind ?_ (fun _ => ?_)
    · intro y0 y1 y2 y3 y4 y5 y6 y7 y8 y9 y10 y11 y12
      unfold perigeelaw9_PowerLowestIsLowest.j1
      repeat' first
      | (with_reducible exact ih0 _ _ _ _ _ _ _ _ _ _ _ _ _ _)
      | (with_reducible exact ih1 _ _ _ _ _ _ _ _ _ _ _ _ _)
      | (with_reducible exact ih2 _ _ _ _ _ _ _ _ _ _ _ _ _)
      | (with_reducible exact perigeelaw9_awake.mono _)
      | (with_reducible exact power_Empty.mono _ _ _ _ _ _ _ _ _ _)
      | (with_reducible exact power_LevelAt.mono _ _ _ _ _ _ _ _ _ _)
      | (with_reducible exact power_Lowest.mono _ _ _ _ _ _ _ _ _ _)
      | (with_reducible exact LeO.refl _)
      | (with_reducible exact LeO.none _)
      | (with_reducible refine LeO.ite ?_ ?_)
      | (with_reducible refine LeO.bind ?_ (fun _ => ?_))
      | exact ih0 _ _ _ _ _ _ _ _ _ _ _ _ _ _
      | exact ih1 _ _ _ _ _ _ _ _ _ _ _ _ _
      | exact ih2 _ _ _ _ _ _ _ _ _ _ _ _ _
      | exact perigeelaw9_awake.mono _
      | exact power_Empty.mono _ _ _ _ _ _ _ _ _ _
      | exact power_LevelAt.mono _ _ _ _ _ _ _ _ _ _
      | exact power_Lowest.mono _ _ _ _ _ _ _ _ _ _
      | exact LeO.none _
      | refine LeO.ite ?_ ?_
      | refine LeO.bind ?_ (fun _ => ?_)
    · intro y0 y1 y2 y3 y4 y5 y6 y7 y8 y9 y10 y11 y12
      unfold perigeelaw9_PowerLowestIsLowest.j2
      repeat' first
      | (with_reducible exact ih0 _ _ _ _ _ _ _ _ _ _ _ _ _ _)
      | (with_reducible exact ih1 _ _ _ _ _ _ _ _ _ _ _ _ _)
      | (with_reducible exact ih2 _ _ _ _ _ _ _ _ _ _ _ _ _)
      | (with_reducible exact perigeelaw9_awake.mono _)
      | (with_reducible exact power_Empty.mono _ _ _ _ _ _ _ _ _ _)
      | (with_reducible exact power_LevelAt.mono _ _ _ _ _ _ _ _ _ _)
      | (with_reducible exact power_Lowest.mono _ _ _ _ _ _ _ _ _ _)
      | (with_reducible exact LeO.refl _)
      | (with_reducible exact LeO.none _)
      | (with_reducible refine LeO.ite ?_ ?_)
      | (with_reducible refine LeO.bind ?_ (fun _ => ?_))
      | exact ih0 _ _ _ _ _ _ _ _ _ _ _ _ _ _
      | exact ih1 _ _ _ _ _ _ _ _ _ _ _ _ _
      | exact ih2 _ _ _ _ _ _ _ _ _ _ _ _ _
      | exact perigeelaw9_awake.mono _
      | exact power_Empty.mono _ _ _ _ _ _ _ _ _ _
      | exact power_LevelAt.mono _ _ _ _ _ _ _ _ _ _
      | exact power_Lowest.mono _ _ _ _ _ _ _ _ _ _
      | exact LeO.none _
      | refine LeO.ite ?_ ?_
      | refine LeO.bind ?_ (fun _ => ?_)
theorem perigeelaw9_PowerLowestIsLowest.mono : ∀ a0 a1 a2 a3 a4 a5 a6 a7 a8 a9 k, LeO (perigeelaw9_PowerLowestIsLowest.f k a0 a1 a2 a3 a4 a5 a6 a7 a8 a9) (perigeelaw9_PowerLowestIsLowest.f (k + 1) a0 a1 a2 a3 a4 a5 a6 a7 a8 a9) := by
  intro a0 a1 a2 a3 a4 a5 a6 a7 a8 a9 k
  obtain ⟨ih0, ih1, ih2⟩ := perigeelaw9_PowerLowestIsLowest.mono_l k
  unfold perigeelaw9_PowerLowestIsLowest.f
  repeat' first
      | (with_reducible exact ih0 _ _ _ _ _ _ _ _ _ _ _ _ _ _)
      | (with_reducible exact ih1 _ _ _ _ _ _ _ _ _ _ _ _ _)
      | (with_reducible exact ih2 _ _ _ _ _ _ _ _ _ _ _ _ _)
      | (with_reducible exact perigeelaw9_awake.mono _)
      | (with_reducible exact power_Empty.mono _ _ _ _ _ _ _ _ _ _)
      | (with_reducible exact power_LevelAt.mono _ _ _ _ _ _ _ _ _ _)
      | (with_reducible exact power_Lowest.mono _ _ _ _ _ _ _ _ _ _)
      | (with_reducible exact LeO.refl _)
      | (with_reducible exact LeO.none _)
      | (with_reducible refine LeO.ite ?_ ?_)
      | (with_reducible refine LeO.bind ?_ (fun _ => ?_))
      | exact ih0 _ _ _ _ _ _ _ _ _ _ _ _ _ _
      | exact ih1 _ _ _ _ _ _ _ _ _ _ _ _ _
      | exact ih2 _ _ _ _ _ _ _ _ _ _ _ _ _
      | exact perigeelaw9_awake.mono _
      | exact power_Empty.mono _ _ _ _ _ _ _ _ _ _
      | exact power_LevelAt.mono _ _ _ _ _ _ _ _ _ _
      | exact power_Lowest.mono _ _ _ _ _ _ _ _ _ _
      | exact LeO.none _
      | refine LeO.ite ?_ ?_
      | refine LeO.bind ?_ (fun _ => ?_)
theorem d9a {p : Prop} (h : p := by repeat (first | (with_reducible first | exact HB.out | apply below_alloc | apply pw_below_drewN | apply below_drew1 | refine below_set ?_ GE101.out) | exact HB.out)) : p := h
theorem d9b {p : Prop} (h : p := by (try simp only [List.map_toArray, List.map_cons, List.map_nil]); first | done | rfl | (simp only [List.length_drop, List.length_take]; rfl)) : p := h
theorem d9c {p : Prop} (h : p := by repeat (first | (with_reducible first | exact HB.out | apply below_alloc | apply pw_below_drewN | apply below_drew1) | exact HB.out)) : p := h
theorem d9d {p : Prop} (h : p := by (with_reducible repeat (first | refine blk_drewN ?_ _ | refine blk_drew ?_ | refine blk_alloc ?_ _)); exact BK101.out) : p := h
theorem d9e {p : Prop} (h : p := by first | rfl | (simp [errW_none, errW_some] <;> rfl) | (simp [*, errW_none, errW_some] <;> rfl)) : p := h
theorem d9f {p : Prop} (h : p := by first | rfl | (simp; done) | (simp [*]; done)) : p := h
theorem d9g {p : Prop} (h : p := by exact C_go (Kd.C_below HR1.out HB.out)) : p := h
theorem d9h {p : Prop} (h : p := by exact C_go (Kd.C_below HR2.out HB.out)) : p := h
theorem d9i {p : Prop} (h : p := by exact C_go (Kd.C_below HR3.out HB.out)) : p := h
set_option maxHeartbeats 8000000 in
set_option maxRecDepth 100000 in
theorem perigeelaw9_PowerLowestIsLowest.calls (k : Nat) (a0_0 : Int) (a0_1 : Int) (a0_2 : Int) (a0_3 : Int) (a0_4 : Int) (A1 : Option Addr) (c1 : Nat) (l1 : List (S72)) (A2 : Option Addr) (c2 : Nat) (l2 : List (S76)) (A3 : Option Addr) (c3 : Nat) (l3 : List (S47)) (a4 : Int) (a5 : Int) (r : Bool) (w : World) (hr1 : Kd.C k72 w A1 l1.length l1) (hc1 : l1.length ≤ c1) (hr2 : Kd.C k76 w A2 l2.length l2) (hc2 : l2.length ≤ c2) (hr3 : Kd.C k47 w A3 l3.length l3) (hc3 : l3.length ≤ c3) (h : perigeelaw9_PowerLowestIsLowest.f k a0_0 a0_1 a0_2 a0_3 a0_4 l1 l2 l3 a4 a5 = some r) :
 Calls Try.prog 9 #[.agg #[.int .i64 a0_0, .int .i64 a0_1, .int .i64 a0_2, .int .i64 a0_3, .int .i64 a0_4], .slice A1 l1.length c1, .slice A2 l2.length c2, .slice A3 l3.length c3, .int .i64 a4, .int .i64 a5] w fun e w' => e = .returned (.bool r) ∧ Below w.heap.size w w' := by
 have hu23 := Try.underlying23
 have HR1 := Aside0.mk hr1
 have HC1 := Aside0.mk hc1
 clear hr1 hc1
 have HR2 := Aside0.mk hr2
 have HC2 := Aside0.mk hc2
 clear hr2 hc2
 have HR3 := Aside0.mk hr3
 have HC3 := Aside0.mk hc3
 clear hr3 hc3
 have HB := Aside0.mk (Below.refl w.heap.size w)
 have H : ((power_Lowest.f k a0_0 a0_1 a0_2 a0_3 a0_4 l1 l2 l3 a4).bind fun bt102 => (if bt102.2.2 = 0 then (perigeelaw9_PowerLowestIsLowest.j0 k l1 l2 l3 a4 a5 bt102.1 bt102.2.1 bt102.2.2 (decide (a4 < 0)) a0_0 a0_1 a0_2 a0_3 a0_4) else (perigeelaw9_PowerLowestIsLowest.j0 k l1 l2 l3 a4 a5 bt102.1 bt102.2.1 bt102.2.2 true a0_0 a0_1 a0_2 a0_3 a0_4))) = some r := h
 clear h
 replace H := bindS H; obtain ⟨⟨t102, t103, t104⟩, A7, H⟩ := H
 have HC8 := Aside0.mk H
 clear H
 go_enter Try.func9, Try.ntmps9
 go_upto_region 2 with (first | ((with_reducible refine gate_dst (N := 6) rfl ?_); refine box_event ?hg (N := 6) ?hd (cs := #[.int .i64 a0_0, .int .i64 a0_1, .int .i64 a0_2, .int .i64 a0_3, .int .i64 a0_4]) (t := 23) ?hr ?_; (case hd => rfl); (case hg => rfl); (case hr => first | (go_simp; done) | (go_simp; rfl)); intro gb101 hg w9 hbox hb; have n0_ := Aside0.mk (below_step d9c hb); have n1_ := Aside0.mk (hbox); have n2_ := Aside0.mk ((by rw [hg]; exact (below_size d9c) : w.heap.size ≤ gb101)); have n3_ := Aside0.mk ((by rw [hg]; exact (below_size d9c) : w.heap.size ≤ gb101)); clear HB; have HB := n0_; have BK101 := n1_; have GW101 := n2_; have GE101 := n3_; clear n0_ n1_ n2_ n3_; clear hb hbox hg; have hcz10_0 : w9.cell? ⟨gb101, 0, none⟩ = some (.int .i64 a0_0) := (blk_cell BK101.out 0).trans rfl; have hcz10_1 : w9.cell? ⟨gb101, 1, none⟩ = some (.int .i64 a0_1) := (blk_cell BK101.out 1).trans rfl; have hcz10_2 : w9.cell? ⟨gb101, 2, none⟩ = some (.int .i64 a0_2) := (blk_cell BK101.out 2).trans rfl; have hcz10_3 : w9.cell? ⟨gb101, 3, none⟩ = some (.int .i64 a0_3) := (blk_cell BK101.out 3).trans rfl; have hcz10_4 : w9.cell? ⟨gb101, 4, none⟩ = some (.int .i64 a0_4) := (blk_cell BK101.out 4).trans rfl; have hfz10_0 := blk_frozen BK101.out 0; have hfz10_1 := blk_frozen BK101.out 1; have hfz10_2 := blk_frozen BK101.out 2; have hfz10_3 := blk_frozen BK101.out 3; have hfz10_4 := blk_frozen BK101.out 4) | ((with_reducible refine gate_callee (f := 39) rfl ?_); refine goesL_ (some 27) rfl rfl Try.func39 (by kernel_rfl) rfl #[.agg #[.int .i64 a0_0, .int .i64 a0_1, .int .i64 a0_2, .int .i64 a0_3, .int .i64 a0_4], .slice A1 l1.length c1, .slice A2 l2.length c2, .slice A3 l3.length c3, .int .i64 a4] rfl d9b ?_; (with_reducible refine (power_Lowest.calls k a0_0 a0_1 a0_2 a0_3 a0_4 _ _ l1 _ _ l2 _ _ l3 a4 t102 t103 t104 _ ?side1 ?side2 ?side3 ?side4 ?side5 ?side6 A7.out).mono ?_); (case side1 => exact d9g); (case side2 => exact HC1.out); (case side3 => exact d9h); (case side4 => exact HC2.out); (case side5 => exact d9i); (case side6 => exact HC3.out); rintro e w11 ⟨rfl, hb⟩; refine ⟨_, rfl, ?_⟩; have n0_ := Aside0.mk (blk_below (g := gb101) (o := .cells #[.int .i64 a0_0, .int .i64 a0_1, .int .i64 a0_2, .int .i64 a0_3, .int .i64 a0_4] 23 (0, 0)) d9d hb); have n1_ := Aside0.mk (below_step d9a hb); clear BK101; clear HB; have BK101 := n0_; have HB := n1_; clear n0_ n1_; (try clear hb)))
 (try simp only [Act.put, List.setIfInBounds_toArray, List.set_cons_zero, List.set_cons_succ])
 go_cut [36] (fun v36 wc => ∃ (kq : Nat) (x36_7 : Bool), v36 = .bool x36_7 ∧ Aside0 (perigeelaw9_PowerLowestIsLowest.j0 kq l1 l2 l3 a4 a5 t102 t103 t104 x36_7 a0_0 a0_1 a0_2 a0_3 a0_4 = some r) ∧ Aside0 (kq ≤ k) ∧ Aside0 (wc.heap[gb101]? = some (.cells #[.int .i64 a0_0, .int .i64 a0_1, .int .i64 a0_2, .int .i64 a0_3, .int .i64 a0_4] 23 (0, 0))) ∧ Aside0 (Below w.heap.size w wc))
 case first =>
  have H := HC8.out
  clear HC8
  by_cases c12 : t104 = 0
  · rw [if_pos c12] at H
    have c12b0 : (t104 == 0) = true := beq_iff_eq.mpr c12
    have c12b1 : (t104 != 0) = false := bne_eq_false_iff_eq.mpr c12
    clear c12
    (first | rw [c12b0] | (simp only [i64_w, i32_w]; rw [c12b0]) | skip)
    have H' := Aside0.mk H
    clear H
    go_wp2
    go_meet
    case rel => exact ⟨_, (decide (a4 < 0)), d9f, H', ⟨by first | omega | exact Nat.le_refl _⟩, ⟨d9d⟩, ⟨d9a⟩⟩
  · rw [if_neg c12] at H
    have c12b0 : (t104 == 0) = false := beq_eq_false_iff_ne.mpr c12
    have c12b1 : (t104 != 0) = true := bne_iff_ne.mpr c12
    (first | rw [c12b0] | (simp only [i64_w, i32_w]; rw [c12b0]) | skip)
    have H' := Aside0.mk H
    clear H
    go_wp2
    go_meet
    case rel => exact ⟨_, (true), d9f, H', ⟨by first | omega | exact Nat.le_refl _⟩, ⟨d9d⟩, ⟨d9a⟩⟩
 case rest =>
  clear HC8
  try clear hcz10_0
  try clear hcz10_1
  try clear hcz10_2
  try clear hcz10_3
  try clear hcz10_4
  try clear hfz10_0
  try clear hfz10_1
  try clear hfz10_2
  try clear hfz10_3
  try clear hfz10_4
  obtain ⟨kq, x36_7, rfl, HA, HJ7, BK101, HB⟩ := hcut
  cases kq with
  | zero => exact absurd HA.out (by simp [perigeelaw9_PowerLowestIsLowest.j0])
  | succ kj7 =>
   have H := HA.out
   clear HA
   simp only [perigeelaw9_PowerLowestIsLowest.j0] at H
   by_cases c13 : x36_7 = true
   · subst c13
     replace H := iteT H
     by_cases c14 : t104 = 0
     · rw [if_pos c14] at H
       have c14b0 : (t104 == 0) = true := beq_iff_eq.mpr c14
       have c14b1 : (t104 != 0) = false := bne_eq_false_iff_eq.mpr c14
       clear c14
       obtain rfl := Option.some.inj H
       go_wp2
       go_ret
       exact ⟨d9e, d9a⟩
     · rw [if_neg c14] at H
       have c14b0 : (t104 == 0) = false := beq_eq_false_iff_ne.mpr c14
       have c14b1 : (t104 != 0) = true := bne_iff_ne.mpr c14
       by_cases c15 : t102 = 0
       · rw [if_pos c15] at H
         have c15b0 : (t102 == 0) = true := beq_iff_eq.mpr c15
         have c15b1 : (t102 != 0) = false := bne_eq_false_iff_eq.mpr c15
         clear c15
         replace H := bindS H; obtain ⟨t105, A16, H⟩ := H
         obtain rfl := Option.some.inj H
         go_wp2_with (go_at_call 27; (with_reducible refine (perigeelaw9_awake.calls kj7  t105 _ A16.out).mono ?_); rintro e w17 ⟨rfl, hb⟩; have n0_ := Aside0.mk (blk_below (g := gb101) (o := .cells #[.int .i64 a0_0, .int .i64 a0_1, .int .i64 a0_2, .int .i64 a0_3, .int .i64 a0_4] 23 (0, 0)) d9d hb); have n1_ := Aside0.mk (below_step d9a hb); clear BK101; clear HB; have BK101 := n0_; have HB := n1_; clear n0_ n1_; (try clear hb))
         go_ret
         exact ⟨d9e, d9a⟩
       · rw [if_neg c15] at H
         have c15b0 : (t102 == 0) = false := beq_eq_false_iff_ne.mpr c15
         have c15b1 : (t102 != 0) = true := bne_iff_ne.mpr c15
         obtain rfl := Option.some.inj H
         go_wp2
         go_ret
         exact ⟨d9e, d9a⟩
   · replace c13 := Bool.eq_false_iff.mpr c13
     subst c13
     replace H := iteF H
     replace H := bindS H; obtain ⟨⟨t106, t107⟩, A18, H⟩ := H
     replace H := bindS H; obtain ⟨t108, A19, H⟩ := H
     replace H := bindS H; obtain ⟨⟨t109, t110⟩, A20, H⟩ := H
     have HC21 := Aside0.mk H
     clear H
     obtain ⟨hcz22_0, hcz22_1, hcz22_2, hcz22_3, hcz22_4⟩ := blkC5 BK101.out
     have hfz22_0 := blk_frozen BK101.out 0
     have hfz22_1 := blk_frozen BK101.out 1
     have hfz22_2 := blk_frozen BK101.out 2
     have hfz22_3 := blk_frozen BK101.out 3
     have hfz22_4 := blk_frozen BK101.out 4
     go_upto_region 7 with (first | ((with_reducible refine gate_callee (f := 28) rfl ?_); refine goesL_ (some 52) rfl rfl Try.func28 (by kernel_rfl) rfl #[.agg #[.int .i64 a0_0, .int .i64 a0_1, .int .i64 a0_2, .int .i64 a0_3, .int .i64 a0_4], .slice A1 l1.length c1, .slice A2 l2.length c2, .slice A3 l3.length c3, .int .i64 t103] rfl d9b ?_; (with_reducible refine (power_LevelAt.calls kj7 a0_0 a0_1 a0_2 a0_3 a0_4 _ _ l1 _ _ l2 _ _ l3 t103 t106 t107 _ ?side1 ?side2 ?side3 ?side4 ?side5 ?side6 A18.out).mono ?_); (case side1 => exact d9g); (case side2 => exact HC1.out); (case side3 => exact d9h); (case side4 => exact HC2.out); (case side5 => exact d9i); (case side6 => exact HC3.out); rintro e w23 ⟨rfl, hb⟩; refine ⟨_, rfl, ?_⟩; have n0_ := Aside0.mk (blk_below (g := gb101) (o := .cells #[.int .i64 a0_0, .int .i64 a0_1, .int .i64 a0_2, .int .i64 a0_3, .int .i64 a0_4] 23 (0, 0)) d9d hb); have n1_ := Aside0.mk (below_step d9a hb); clear BK101; clear HB; have BK101 := n0_; have HB := n1_; clear n0_ n1_; (try clear hb)) | ((with_reducible refine gate_callee (f := 30) rfl ?_); refine goesL_ (some 58) rfl rfl Try.func30 (by kernel_rfl) rfl #[.int .i64 a5, .int .i64 (wrap64 (a4 + 1))] rfl d9b ?_; (with_reducible refine (perigeeref9_Below.calls a5 (wrap64 (a4 + 1)) t108 _ A19.out).mono ?_); rintro e w' ⟨rfl, ⟨nd, rfl⟩⟩; refine ⟨_, rfl, ?_⟩; have hcz24_0 : w23.cell? ⟨gb101, 0, none⟩ = some (.int .i64 a0_0) := (blk_cell BK101.out 0).trans rfl; have hcz24_1 : w23.cell? ⟨gb101, 1, none⟩ = some (.int .i64 a0_1) := (blk_cell BK101.out 1).trans rfl; have hcz24_2 : w23.cell? ⟨gb101, 2, none⟩ = some (.int .i64 a0_2) := (blk_cell BK101.out 2).trans rfl; have hcz24_3 : w23.cell? ⟨gb101, 3, none⟩ = some (.int .i64 a0_3) := (blk_cell BK101.out 3).trans rfl; have hcz24_4 : w23.cell? ⟨gb101, 4, none⟩ = some (.int .i64 a0_4) := (blk_cell BK101.out 4).trans rfl; have hfz24_0 := blk_frozen BK101.out 0; have hfz24_1 := blk_frozen BK101.out 1; have hfz24_2 := blk_frozen BK101.out 2; have hfz24_3 := blk_frozen BK101.out 3; have hfz24_4 := blk_frozen BK101.out 4) | ((with_reducible refine gate_callee (f := 28) rfl ?_); refine goesL_ (some 65) rfl rfl Try.func28 (by kernel_rfl) rfl #[.agg #[.int .i64 a0_0, .int .i64 a0_1, .int .i64 a0_2, .int .i64 a0_3, .int .i64 a0_4], .slice A1 l1.length c1, .slice A2 l2.length c2, .slice A3 l3.length c3, .int .i64 t108] rfl d9b ?_; (with_reducible refine (power_LevelAt.calls kj7 a0_0 a0_1 a0_2 a0_3 a0_4 _ _ l1 _ _ l2 _ _ l3 t108 t109 t110 _ ?side1 ?side2 ?side3 ?side4 ?side5 ?side6 A20.out).mono ?_); (case side1 => repeat (first | exact (Kd.C_below HR1.out d9a) | (with_reducible refine Kd.C_alloc ?_ _) | (with_reducible refine Kd.C_drewN ?_ _) | (with_reducible refine Kd.C_drew ?_))); (case side2 => exact HC1.out); (case side3 => repeat (first | exact (Kd.C_below HR2.out d9a) | (with_reducible refine Kd.C_alloc ?_ _) | (with_reducible refine Kd.C_drewN ?_ _) | (with_reducible refine Kd.C_drew ?_))); (case side4 => exact HC2.out); (case side5 => repeat (first | exact (Kd.C_below HR3.out d9a) | (with_reducible refine Kd.C_alloc ?_ _) | (with_reducible refine Kd.C_drewN ?_ _) | (with_reducible refine Kd.C_drew ?_))); (case side6 => exact HC3.out); rintro e w25 ⟨rfl, hb⟩; refine ⟨_, rfl, ?_⟩; have n0_ := Aside0.mk (blk_below (g := gb101) (o := .cells #[.int .i64 a0_0, .int .i64 a0_1, .int .i64 a0_2, .int .i64 a0_3, .int .i64 a0_4] 23 (0, 0)) d9d hb); have n1_ := Aside0.mk (below_step d9a hb); clear BK101; clear HB; have BK101 := n0_; have HB := n1_; clear n0_ n1_; (try clear hb)))
     (try simp only [Act.put, List.setIfInBounds_toArray, List.set_cons_zero, List.set_cons_succ])
     go_cut [93] (fun v93 wc => ∃ (kq : Nat) (x93_20 : Bool), v93 = .bool x93_20 ∧ Aside0 (perigeelaw9_PowerLowestIsLowest.j1 kq l1 l2 l3 a4 t108 t102 t109 x93_20 a0_0 a0_1 a0_2 a0_3 a0_4 = some r) ∧ Aside0 (kq ≤ kj7) ∧ Aside0 (wc.heap[gb101]? = some (.cells #[.int .i64 a0_0, .int .i64 a0_1, .int .i64 a0_2, .int .i64 a0_3, .int .i64 a0_4] 23 (0, 0))) ∧ Aside0 (Below w.heap.size w wc))
     case first =>
      have H := HC21.out
      clear HC21
      by_cases c26 : t107 = 0
      · rw [if_pos c26] at H
        have c26b0 : (t107 == 0) = true := beq_iff_eq.mpr c26
        have c26b1 : (t107 != 0) = false := bne_eq_false_iff_eq.mpr c26
        clear c26
        (first | rw [c26b0] | (simp only [i64_w, i32_w]; rw [c26b0]) | skip)
        by_cases c27 : t110 = 0
        · rw [if_pos c27] at H
          have c27b0 : (t110 == 0) = true := beq_iff_eq.mpr c27
          have c27b1 : (t110 != 0) = false := bne_eq_false_iff_eq.mpr c27
          clear c27
          by_cases c28 : t106 = t102
          · rw [if_pos c28] at H
            have c28b0 : (t106 == t102) = true := beq_iff_eq.mpr c28
            have c28b1 : (t106 != t102) = false := bne_eq_false_iff_eq.mpr c28
            clear c28
            by_cases c29 : t109 < t102
            · rw [if_pos c29] at H
              have c29b0 : decide (t109 < t102) = true := decide_eq_true c29
              clear c29
              have H' := Aside0.mk H
              clear H
              go_wp2
              go_meet
              case rel => exact ⟨_, (true), d9f, H', ⟨by have := HJ7.out; first | omega | exact Nat.le_refl _⟩, ⟨d9d⟩, ⟨d9a⟩⟩
            · rw [if_neg c29] at H
              have c29b0 : decide (t109 < t102) = false := decide_eq_false c29
              clear c29
              by_cases c30 : t109 = t102
              · rw [if_pos c30] at H
                have c30b0 : (t109 == t102) = true := beq_iff_eq.mpr c30
                have c30b1 : (t109 != t102) = false := bne_eq_false_iff_eq.mpr c30
                clear c30
                have H' := Aside0.mk H
                clear H
                go_wp2
                go_meet
                case rel => exact ⟨_, (decide (t108 < t103)), d9f, H', ⟨by have := HJ7.out; first | omega | exact Nat.le_refl _⟩, ⟨d9d⟩, ⟨d9a⟩⟩
              · rw [if_neg c30] at H
                have c30b0 : (t109 == t102) = false := beq_eq_false_iff_ne.mpr c30
                have c30b1 : (t109 != t102) = true := bne_iff_ne.mpr c30
                have H' := Aside0.mk H
                clear H
                go_wp2
                go_meet
                case rel => exact ⟨_, (false), d9f, H', ⟨by have := HJ7.out; first | omega | exact Nat.le_refl _⟩, ⟨d9d⟩, ⟨d9a⟩⟩
          · rw [if_neg c28] at H
            have c28b0 : (t106 == t102) = false := beq_eq_false_iff_ne.mpr c28
            have c28b1 : (t106 != t102) = true := bne_iff_ne.mpr c28
            have H' := Aside0.mk H
            clear H
            go_wp2
            go_meet
            case rel => exact ⟨_, (true), d9f, H', ⟨by have := HJ7.out; first | omega | exact Nat.le_refl _⟩, ⟨d9d⟩, ⟨d9a⟩⟩
        · rw [if_neg c27] at H
          have c27b0 : (t110 == 0) = false := beq_eq_false_iff_ne.mpr c27
          have c27b1 : (t110 != 0) = true := bne_iff_ne.mpr c27
          have H' := Aside0.mk H
          clear H
          go_wp2
          go_meet
          case rel => exact ⟨_, (true), d9f, H', ⟨by have := HJ7.out; first | omega | exact Nat.le_refl _⟩, ⟨d9d⟩, ⟨d9a⟩⟩
      · rw [if_neg c26] at H
        have c26b0 : (t107 == 0) = false := beq_eq_false_iff_ne.mpr c26
        have c26b1 : (t107 != 0) = true := bne_iff_ne.mpr c26
        (first | rw [c26b0] | (simp only [i64_w, i32_w]; rw [c26b0]) | skip)
        have H' := Aside0.mk H
        clear H
        go_wp2
        go_meet
        case rel => exact ⟨_, (true), d9f, H', ⟨by have := HJ7.out; first | omega | exact Nat.le_refl _⟩, ⟨d9d⟩, ⟨d9a⟩⟩
     case rest =>
      clear HC21
      try clear hcz22_0
      try clear hcz22_1
      try clear hcz22_2
      try clear hcz22_3
      try clear hcz22_4
      try clear hcz24_0
      try clear hcz24_1
      try clear hcz24_2
      try clear hcz24_3
      try clear hcz24_4
      try clear hfz22_0
      try clear hfz22_1
      try clear hfz22_2
      try clear hfz22_3
      try clear hfz22_4
      try clear hfz24_0
      try clear hfz24_1
      try clear hfz24_2
      try clear hfz24_3
      try clear hfz24_4
      obtain ⟨kq, x93_20, rfl, HA, HJ20, BK101, HB⟩ := hcut
      cases kq with
      | zero => exact absurd HA.out (by simp [perigeelaw9_PowerLowestIsLowest.j1])
      | succ kj20 =>
       have H := HA.out
       clear HA
       simp only [perigeelaw9_PowerLowestIsLowest.j1] at H
       by_cases c31 : x93_20 = true
       · subst c31
         replace H := iteT H
         obtain rfl := Option.some.inj H
         go_wp2
         go_ret
         exact ⟨d9e, d9a⟩
       · replace c31 := Bool.eq_false_iff.mpr c31
         subst c31
         replace H := iteF H
         replace H := bindS H; obtain ⟨⟨t111, t112, t113⟩, A32, H⟩ := H
         have HC33 := Aside0.mk H
         clear H
         obtain ⟨hcz34_0, hcz34_1, hcz34_2, hcz34_3, hcz34_4⟩ := blkC5 BK101.out
         have hfz34_0 := blk_frozen BK101.out 0
         have hfz34_1 := blk_frozen BK101.out 1
         have hfz34_2 := blk_frozen BK101.out 2
         have hfz34_3 := blk_frozen BK101.out 3
         have hfz34_4 := blk_frozen BK101.out 4
         go_upto_region 10 with ((with_reducible refine gate_callee (f := 35) rfl ?_); refine goesL_ (some 100) rfl rfl Try.func35 (by kernel_rfl) rfl #[.agg #[.int .i64 a0_0, .int .i64 a0_1, .int .i64 a0_2, .int .i64 a0_3, .int .i64 a0_4], .slice A1 l1.length c1, .slice A2 l2.length c2, .slice A3 l3.length c3, .int .i64 a4] rfl d9b ?_; (with_reducible refine (power_Empty.calls kj20 a0_0 a0_1 a0_2 a0_3 a0_4 _ _ l1 _ _ l2 _ _ l3 a4 t111 t112 t113 _ ?side1 ?side2 ?side3 ?side4 ?side5 ?side6 A32.out).mono ?_); (case side1 => exact d9g); (case side2 => exact HC1.out); (case side3 => exact d9h); (case side4 => exact HC2.out); (case side5 => exact d9i); (case side6 => exact HC3.out); rintro e w35 ⟨rfl, hb⟩; refine ⟨_, rfl, ?_⟩; have n0_ := Aside0.mk (blk_below (g := gb101) (o := .cells #[.int .i64 a0_0, .int .i64 a0_1, .int .i64 a0_2, .int .i64 a0_3, .int .i64 a0_4] 23 (0, 0)) d9d hb); have n1_ := Aside0.mk (below_step d9a hb); clear BK101; clear HB; have BK101 := n0_; have HB := n1_; clear n0_ n1_; (try clear hb))
         (try simp only [Act.put, List.setIfInBounds_toArray, List.set_cons_zero, List.set_cons_succ])
         go_cut [113] (fun v113 wc => ∃ (kq : Nat) (x113_32 : Bool), v113 = .bool x113_32 ∧ Aside0 (perigeelaw9_PowerLowestIsLowest.j2 kq l1 l2 l3 t108 t109 t111 t112 x113_32 a0_0 a0_1 a0_2 a0_3 a0_4 = some r) ∧ Aside0 (kq ≤ kj20) ∧ Aside0 (wc.heap[gb101]? = some (.cells #[.int .i64 a0_0, .int .i64 a0_1, .int .i64 a0_2, .int .i64 a0_3, .int .i64 a0_4] 23 (0, 0))) ∧ Aside0 (Below w.heap.size w wc))
         case first =>
          have H := HC33.out
          clear HC33
          by_cases c36 : t113 = 0
          · rw [if_pos c36] at H
            have c36b0 : (t113 == 0) = true := beq_iff_eq.mpr c36
            have c36b1 : (t113 != 0) = false := bne_eq_false_iff_eq.mpr c36
            clear c36
            (first | rw [c36b0] | (simp only [i64_w, i32_w]; rw [c36b0]) | skip)
            have H' := Aside0.mk H
            clear H
            obtain ⟨hcz37_0, hcz37_1, hcz37_2, hcz37_3, hcz37_4⟩ := blkC5 BK101.out
            have hfz37_0 := blk_frozen BK101.out 0
            have hfz37_1 := blk_frozen BK101.out 1
            have hfz37_2 := blk_frozen BK101.out 2
            have hfz37_3 := blk_frozen BK101.out 3
            have hfz37_4 := blk_frozen BK101.out 4
            go_wp2
            go_meet
            case rel => exact ⟨_, ((t112 != (decide (t102 < a0_4)))), d9f, H', ⟨by have := HJ7.out; have := HJ20.out; first | omega | exact Nat.le_refl _⟩, ⟨d9d⟩, ⟨d9a⟩⟩
          · rw [if_neg c36] at H
            have c36b0 : (t113 == 0) = false := beq_eq_false_iff_ne.mpr c36
            have c36b1 : (t113 != 0) = true := bne_iff_ne.mpr c36
            (first | rw [c36b0] | (simp only [i64_w, i32_w]; rw [c36b0]) | skip)
            have H' := Aside0.mk H
            clear H
            go_wp2
            go_meet
            case rel => exact ⟨_, (true), d9f, H', ⟨by have := HJ7.out; have := HJ20.out; first | omega | exact Nat.le_refl _⟩, ⟨d9d⟩, ⟨d9a⟩⟩
         case rest =>
          clear HC33
          try clear hcz34_0
          try clear hcz34_1
          try clear hcz34_2
          try clear hcz34_3
          try clear hcz34_4
          try clear hfz34_0
          try clear hfz34_1
          try clear hfz34_2
          try clear hfz34_3
          try clear hfz34_4
          obtain ⟨kq, x113_32, rfl, HA, HJ32, BK101, HB⟩ := hcut
          cases kq with
          | zero => exact absurd HA.out (by simp [perigeelaw9_PowerLowestIsLowest.j2])
          | succ kj32 =>
           have H := HA.out
           clear HA
           simp only [perigeelaw9_PowerLowestIsLowest.j2] at H
           by_cases c38 : x113_32 = true
           · subst c38
             replace H := iteT H
             obtain rfl := Option.some.inj H
             go_wp2
             go_ret
             exact ⟨d9e, d9a⟩
           · replace c38 := Bool.eq_false_iff.mpr c38
             subst c38
             replace H := iteF H
             by_cases c39 : t112 = true
             · subst c39
               replace H := iteT H
               replace H := bindS H; obtain ⟨⟨t114, t115⟩, A40, H⟩ := H
               by_cases c41 : t115 = 0
               · rw [if_pos c41] at H
                 have c41b0 : (t115 == 0) = true := beq_iff_eq.mpr c41
                 have c41b1 : (t115 != 0) = false := bne_eq_false_iff_eq.mpr c41
                 clear c41
                 by_cases c42 : t114 < a0_4
                 · rw [if_pos c42] at H
                   have c42b0 : decide (t114 < a0_4) = true := decide_eq_true c42
                   clear c42
                   by_cases c43 : t108 ≥ t111
                   · rw [if_pos c43] at H
                     have c43b0 : decide (t111 ≤ t108) = true := decide_eq_true c43
                     clear c43
                     replace H := bindS H; obtain ⟨t116, A44, H⟩ := H
                     obtain rfl := Option.some.inj H
                     obtain ⟨hcz45_0, hcz45_1, hcz45_2, hcz45_3, hcz45_4⟩ := blkC5 BK101.out
                     have hfz45_0 := blk_frozen BK101.out 0
                     have hfz45_1 := blk_frozen BK101.out 1
                     have hfz45_2 := blk_frozen BK101.out 2
                     have hfz45_3 := blk_frozen BK101.out 3
                     have hfz45_4 := blk_frozen BK101.out 4
                     go_wp2_with (first | ((with_reducible refine gate_callee (f := 28) rfl ?_); refine goesL_ (some 123) rfl rfl Try.func28 (by kernel_rfl) rfl #[.agg #[.int .i64 a0_0, .int .i64 a0_1, .int .i64 a0_2, .int .i64 a0_3, .int .i64 a0_4], .slice A1 l1.length c1, .slice A2 l2.length c2, .slice A3 l3.length c3, .int .i64 t111] rfl d9b ?_; (with_reducible refine (power_LevelAt.calls kj32 a0_0 a0_1 a0_2 a0_3 a0_4 _ _ l1 _ _ l2 _ _ l3 t111 t114 t115 _ ?side1 ?side2 ?side3 ?side4 ?side5 ?side6 A40.out).mono ?_); (case side1 => exact d9g); (case side2 => exact HC1.out); (case side3 => exact d9h); (case side4 => exact HC2.out); (case side5 => exact d9i); (case side6 => exact HC3.out); rintro e w46 ⟨rfl, hb⟩; refine ⟨_, rfl, ?_⟩; have n0_ := Aside0.mk (blk_below (g := gb101) (o := .cells #[.int .i64 a0_0, .int .i64 a0_1, .int .i64 a0_2, .int .i64 a0_3, .int .i64 a0_4] 23 (0, 0)) d9d hb); have n1_ := Aside0.mk (below_step d9a hb); clear BK101; clear HB; have BK101 := n0_; have HB := n1_; clear n0_ n1_; (try clear hb); have hcz47_0 : w46.cell? ⟨gb101, 0, none⟩ = some (.int .i64 a0_0) := (blk_cell BK101.out 0).trans rfl; have hcz47_1 : w46.cell? ⟨gb101, 1, none⟩ = some (.int .i64 a0_1) := (blk_cell BK101.out 1).trans rfl; have hcz47_2 : w46.cell? ⟨gb101, 2, none⟩ = some (.int .i64 a0_2) := (blk_cell BK101.out 2).trans rfl; have hcz47_3 : w46.cell? ⟨gb101, 3, none⟩ = some (.int .i64 a0_3) := (blk_cell BK101.out 3).trans rfl; have hcz47_4 : w46.cell? ⟨gb101, 4, none⟩ = some (.int .i64 a0_4) := (blk_cell BK101.out 4).trans rfl; have hfz47_0 := blk_frozen BK101.out 0; have hfz47_1 := blk_frozen BK101.out 1; have hfz47_2 := blk_frozen BK101.out 2; have hfz47_3 := blk_frozen BK101.out 3; have hfz47_4 := blk_frozen BK101.out 4) | (go_at_call 27; (with_reducible refine (perigeelaw9_awake.calls kj32  t116 _ A44.out).mono ?_); rintro e w48 ⟨rfl, hb⟩; have n0_ := Aside0.mk (blk_below (g := gb101) (o := .cells #[.int .i64 a0_0, .int .i64 a0_1, .int .i64 a0_2, .int .i64 a0_3, .int .i64 a0_4] 23 (0, 0)) d9d hb); have n1_ := Aside0.mk (below_step d9a hb); clear BK101; clear HB; have BK101 := n0_; have HB := n1_; clear n0_ n1_; (try clear hb)))
                     go_ret
                     exact ⟨d9e, d9a⟩
                   · rw [if_neg c43] at H
                     have c43b0 : decide (t111 ≤ t108) = false := decide_eq_false c43
                     clear c43
                     by_cases c49 : t109 ≥ a0_4
                     · rw [if_pos c49] at H
                       have c49b0 : decide (a0_4 ≤ t109) = true := decide_eq_true c49
                       clear c49
                       replace H := bindS H; obtain ⟨t117, A50, H⟩ := H
                       obtain rfl := Option.some.inj H
                       obtain ⟨hcz51_0, hcz51_1, hcz51_2, hcz51_3, hcz51_4⟩ := blkC5 BK101.out
                       have hfz51_0 := blk_frozen BK101.out 0
                       have hfz51_1 := blk_frozen BK101.out 1
                       have hfz51_2 := blk_frozen BK101.out 2
                       have hfz51_3 := blk_frozen BK101.out 3
                       have hfz51_4 := blk_frozen BK101.out 4
                       go_wp2_with (first | ((with_reducible refine gate_callee (f := 28) rfl ?_); refine goesL_ (some 123) rfl rfl Try.func28 (by kernel_rfl) rfl #[.agg #[.int .i64 a0_0, .int .i64 a0_1, .int .i64 a0_2, .int .i64 a0_3, .int .i64 a0_4], .slice A1 l1.length c1, .slice A2 l2.length c2, .slice A3 l3.length c3, .int .i64 t111] rfl d9b ?_; (with_reducible refine (power_LevelAt.calls kj32 a0_0 a0_1 a0_2 a0_3 a0_4 _ _ l1 _ _ l2 _ _ l3 t111 t114 t115 _ ?side1 ?side2 ?side3 ?side4 ?side5 ?side6 A40.out).mono ?_); (case side1 => exact d9g); (case side2 => exact HC1.out); (case side3 => exact d9h); (case side4 => exact HC2.out); (case side5 => exact d9i); (case side6 => exact HC3.out); rintro e w52 ⟨rfl, hb⟩; refine ⟨_, rfl, ?_⟩; have n0_ := Aside0.mk (blk_below (g := gb101) (o := .cells #[.int .i64 a0_0, .int .i64 a0_1, .int .i64 a0_2, .int .i64 a0_3, .int .i64 a0_4] 23 (0, 0)) d9d hb); have n1_ := Aside0.mk (below_step d9a hb); clear BK101; clear HB; have BK101 := n0_; have HB := n1_; clear n0_ n1_; (try clear hb); have hcz53_0 : w52.cell? ⟨gb101, 0, none⟩ = some (.int .i64 a0_0) := (blk_cell BK101.out 0).trans rfl; have hcz53_1 : w52.cell? ⟨gb101, 1, none⟩ = some (.int .i64 a0_1) := (blk_cell BK101.out 1).trans rfl; have hcz53_2 : w52.cell? ⟨gb101, 2, none⟩ = some (.int .i64 a0_2) := (blk_cell BK101.out 2).trans rfl; have hcz53_3 : w52.cell? ⟨gb101, 3, none⟩ = some (.int .i64 a0_3) := (blk_cell BK101.out 3).trans rfl; have hcz53_4 : w52.cell? ⟨gb101, 4, none⟩ = some (.int .i64 a0_4) := (blk_cell BK101.out 4).trans rfl; have hfz53_0 := blk_frozen BK101.out 0; have hfz53_1 := blk_frozen BK101.out 1; have hfz53_2 := blk_frozen BK101.out 2; have hfz53_3 := blk_frozen BK101.out 3; have hfz53_4 := blk_frozen BK101.out 4) | (go_at_call 27; (with_reducible refine (perigeelaw9_awake.calls kj32  t117 _ A50.out).mono ?_); rintro e w54 ⟨rfl, hb⟩; have n0_ := Aside0.mk (blk_below (g := gb101) (o := .cells #[.int .i64 a0_0, .int .i64 a0_1, .int .i64 a0_2, .int .i64 a0_3, .int .i64 a0_4] 23 (0, 0)) d9d hb); have n1_ := Aside0.mk (below_step d9a hb); clear BK101; clear HB; have BK101 := n0_; have HB := n1_; clear n0_ n1_; (try clear hb)))
                       go_ret
                       exact ⟨d9e, d9a⟩
                     · rw [if_neg c49] at H
                       have c49b0 : decide (a0_4 ≤ t109) = false := decide_eq_false c49
                       clear c49
                       obtain rfl := Option.some.inj H
                       obtain ⟨hcz55_0, hcz55_1, hcz55_2, hcz55_3, hcz55_4⟩ := blkC5 BK101.out
                       have hfz55_0 := blk_frozen BK101.out 0
                       have hfz55_1 := blk_frozen BK101.out 1
                       have hfz55_2 := blk_frozen BK101.out 2
                       have hfz55_3 := blk_frozen BK101.out 3
                       have hfz55_4 := blk_frozen BK101.out 4
                       go_wp2_with ((with_reducible refine gate_callee (f := 28) rfl ?_); refine goesL_ (some 123) rfl rfl Try.func28 (by kernel_rfl) rfl #[.agg #[.int .i64 a0_0, .int .i64 a0_1, .int .i64 a0_2, .int .i64 a0_3, .int .i64 a0_4], .slice A1 l1.length c1, .slice A2 l2.length c2, .slice A3 l3.length c3, .int .i64 t111] rfl d9b ?_; (with_reducible refine (power_LevelAt.calls kj32 a0_0 a0_1 a0_2 a0_3 a0_4 _ _ l1 _ _ l2 _ _ l3 t111 t114 t115 _ ?side1 ?side2 ?side3 ?side4 ?side5 ?side6 A40.out).mono ?_); (case side1 => exact d9g); (case side2 => exact HC1.out); (case side3 => exact d9h); (case side4 => exact HC2.out); (case side5 => exact d9i); (case side6 => exact HC3.out); rintro e w56 ⟨rfl, hb⟩; refine ⟨_, rfl, ?_⟩; have n0_ := Aside0.mk (blk_below (g := gb101) (o := .cells #[.int .i64 a0_0, .int .i64 a0_1, .int .i64 a0_2, .int .i64 a0_3, .int .i64 a0_4] 23 (0, 0)) d9d hb); have n1_ := Aside0.mk (below_step d9a hb); clear BK101; clear HB; have BK101 := n0_; have HB := n1_; clear n0_ n1_; (try clear hb); have hcz57_0 : w56.cell? ⟨gb101, 0, none⟩ = some (.int .i64 a0_0) := (blk_cell BK101.out 0).trans rfl; have hcz57_1 : w56.cell? ⟨gb101, 1, none⟩ = some (.int .i64 a0_1) := (blk_cell BK101.out 1).trans rfl; have hcz57_2 : w56.cell? ⟨gb101, 2, none⟩ = some (.int .i64 a0_2) := (blk_cell BK101.out 2).trans rfl; have hcz57_3 : w56.cell? ⟨gb101, 3, none⟩ = some (.int .i64 a0_3) := (blk_cell BK101.out 3).trans rfl; have hcz57_4 : w56.cell? ⟨gb101, 4, none⟩ = some (.int .i64 a0_4) := (blk_cell BK101.out 4).trans rfl; have hfz57_0 := blk_frozen BK101.out 0; have hfz57_1 := blk_frozen BK101.out 1; have hfz57_2 := blk_frozen BK101.out 2; have hfz57_3 := blk_frozen BK101.out 3; have hfz57_4 := blk_frozen BK101.out 4)
                       go_ret
                       exact ⟨d9e, d9a⟩
                 · rw [if_neg c42] at H
                   have c42b0 : decide (t114 < a0_4) = false := decide_eq_false c42
                   clear c42
                   obtain rfl := Option.some.inj H
                   obtain ⟨hcz58_0, hcz58_1, hcz58_2, hcz58_3, hcz58_4⟩ := blkC5 BK101.out
                   have hfz58_0 := blk_frozen BK101.out 0
                   have hfz58_1 := blk_frozen BK101.out 1
                   have hfz58_2 := blk_frozen BK101.out 2
                   have hfz58_3 := blk_frozen BK101.out 3
                   have hfz58_4 := blk_frozen BK101.out 4
                   go_wp2_with ((with_reducible refine gate_callee (f := 28) rfl ?_); refine goesL_ (some 123) rfl rfl Try.func28 (by kernel_rfl) rfl #[.agg #[.int .i64 a0_0, .int .i64 a0_1, .int .i64 a0_2, .int .i64 a0_3, .int .i64 a0_4], .slice A1 l1.length c1, .slice A2 l2.length c2, .slice A3 l3.length c3, .int .i64 t111] rfl d9b ?_; (with_reducible refine (power_LevelAt.calls kj32 a0_0 a0_1 a0_2 a0_3 a0_4 _ _ l1 _ _ l2 _ _ l3 t111 t114 t115 _ ?side1 ?side2 ?side3 ?side4 ?side5 ?side6 A40.out).mono ?_); (case side1 => exact d9g); (case side2 => exact HC1.out); (case side3 => exact d9h); (case side4 => exact HC2.out); (case side5 => exact d9i); (case side6 => exact HC3.out); rintro e w59 ⟨rfl, hb⟩; refine ⟨_, rfl, ?_⟩; have n0_ := Aside0.mk (blk_below (g := gb101) (o := .cells #[.int .i64 a0_0, .int .i64 a0_1, .int .i64 a0_2, .int .i64 a0_3, .int .i64 a0_4] 23 (0, 0)) d9d hb); have n1_ := Aside0.mk (below_step d9a hb); clear BK101; clear HB; have BK101 := n0_; have HB := n1_; clear n0_ n1_; (try clear hb); have hcz60_0 : w59.cell? ⟨gb101, 0, none⟩ = some (.int .i64 a0_0) := (blk_cell BK101.out 0).trans rfl; have hcz60_1 : w59.cell? ⟨gb101, 1, none⟩ = some (.int .i64 a0_1) := (blk_cell BK101.out 1).trans rfl; have hcz60_2 : w59.cell? ⟨gb101, 2, none⟩ = some (.int .i64 a0_2) := (blk_cell BK101.out 2).trans rfl; have hcz60_3 : w59.cell? ⟨gb101, 3, none⟩ = some (.int .i64 a0_3) := (blk_cell BK101.out 3).trans rfl; have hcz60_4 : w59.cell? ⟨gb101, 4, none⟩ = some (.int .i64 a0_4) := (blk_cell BK101.out 4).trans rfl; have hfz60_0 := blk_frozen BK101.out 0; have hfz60_1 := blk_frozen BK101.out 1; have hfz60_2 := blk_frozen BK101.out 2; have hfz60_3 := blk_frozen BK101.out 3; have hfz60_4 := blk_frozen BK101.out 4)
                   go_ret
                   exact ⟨d9e, d9a⟩
               · rw [if_neg c41] at H
                 have c41b0 : (t115 == 0) = false := beq_eq_false_iff_ne.mpr c41
                 have c41b1 : (t115 != 0) = true := bne_iff_ne.mpr c41
                 obtain rfl := Option.some.inj H
                 obtain ⟨hcz61_0, hcz61_1, hcz61_2, hcz61_3, hcz61_4⟩ := blkC5 BK101.out
                 have hfz61_0 := blk_frozen BK101.out 0
                 have hfz61_1 := blk_frozen BK101.out 1
                 have hfz61_2 := blk_frozen BK101.out 2
                 have hfz61_3 := blk_frozen BK101.out 3
                 have hfz61_4 := blk_frozen BK101.out 4
                 go_wp2_with ((with_reducible refine gate_callee (f := 28) rfl ?_); refine goesL_ (some 123) rfl rfl Try.func28 (by kernel_rfl) rfl #[.agg #[.int .i64 a0_0, .int .i64 a0_1, .int .i64 a0_2, .int .i64 a0_3, .int .i64 a0_4], .slice A1 l1.length c1, .slice A2 l2.length c2, .slice A3 l3.length c3, .int .i64 t111] rfl d9b ?_; (with_reducible refine (power_LevelAt.calls kj32 a0_0 a0_1 a0_2 a0_3 a0_4 _ _ l1 _ _ l2 _ _ l3 t111 t114 t115 _ ?side1 ?side2 ?side3 ?side4 ?side5 ?side6 A40.out).mono ?_); (case side1 => exact d9g); (case side2 => exact HC1.out); (case side3 => exact d9h); (case side4 => exact HC2.out); (case side5 => exact d9i); (case side6 => exact HC3.out); rintro e w62 ⟨rfl, hb⟩; refine ⟨_, rfl, ?_⟩; have n0_ := Aside0.mk (blk_below (g := gb101) (o := .cells #[.int .i64 a0_0, .int .i64 a0_1, .int .i64 a0_2, .int .i64 a0_3, .int .i64 a0_4] 23 (0, 0)) d9d hb); have n1_ := Aside0.mk (below_step d9a hb); clear BK101; clear HB; have BK101 := n0_; have HB := n1_; clear n0_ n1_; (try clear hb))
                 go_ret
                 exact ⟨d9e, d9a⟩
             · replace c39 := Bool.eq_false_iff.mpr c39
               subst c39
               replace H := iteF H
               replace H := bindS H; obtain ⟨t118, A63, H⟩ := H
               obtain rfl := Option.some.inj H
               go_wp2_with ((with_reducible refine gate_callee (f := 27) rfl ?_); refine goesL_ (some 116) rfl rfl Try.func27 (by kernel_rfl) rfl #[] rfl d9b ?_; (with_reducible refine (perigeelaw9_awake.calls kj32  t118 _ A63.out).mono ?_); rintro e w64 ⟨rfl, hb⟩; refine ⟨_, rfl, ?_⟩; have n0_ := Aside0.mk (blk_below (g := gb101) (o := .cells #[.int .i64 a0_0, .int .i64 a0_1, .int .i64 a0_2, .int .i64 a0_3, .int .i64 a0_4] 23 (0, 0)) d9d hb); have n1_ := Aside0.mk (below_step d9a hb); clear BK101; clear HB; have BK101 := n0_; have HB := n1_; clear n0_ n1_; (try clear hb))
               go_ret
               exact ⟨d9e, d9a⟩
end Go.Proofs.Ytplcdpiggpkppaa.Q
