-- Made by wip/tools/pp.py (this session's) over the kit's print program; Lean checks it.
import Derived.Test.YtplcdpiggpkppaaQ0
import Derived.Test.YtplcdpiggpkppaaGb1
import Derived.Test.YtplcdpiggpkppaaGb4
import Derived.Test.YtplcdpiggpkppaaGb5
import Derived.Test.YtplcdpiggpkppaaGb6
namespace Go.Proofs.Ytplcdpiggpkppaa.Q
open Go.RowKit Go.Proofs.YtplcdpiggpkppaaW.PrintWords Go.Proofs.YtplcdpiggpkppaaW.PrintLast Go.Proofs.YtplcdpiggpkppaaW.PrintMore
attribute [local go_sem] max2_int min2_int max_two min_two max_three min_three max_four min_four
open Go.Proofs.Ytplcdpiggpkppaa.Base
attribute [local go_sem high] str_leq str_gtr str_geq
set_option linter.unusedVariables false
set_option linter.unusedSimpArgs false

attribute [local go_sem high] eqA42

/-! ### perigeelaw9_PowerMillisecondByMillisecond: function 4 -/
mutual
def perigeelaw9_PowerMillisecondByMillisecond.j0 : Nat → List (S72) → List (S76) → List (S47) → Int → Int → Bool → Int → Int → Int → Int → Int → Option (Bool)
  | 0, _, _, _, _, _, _, _, _, _, _, _ => none
  | k + 1, x1, x2, x3, x4, x11, x95, x102000, x102001, x102002, x102003, x102004 => if x95 = true then (some false) else ((power_Follow.f k x102000 x102001 x102002 x102003 x102004 x1 x2 x3 x4).bind fun bt112 => (if bt112.2 = 0 then (if (bt112.1.length : Int) = 0 then (perigeelaw9_PowerMillisecondByMillisecond.j1 k x1 x2 x3 bt112.1 true x102000 x102001 x102002 x102003 x102004) else (if 0 ≤ (wrap64 ((bt112.1.length : Int) - 1)) then (if (wrap64 ((bt112.1.length : Int) - 1)) < (bt112.1.length : Int) then (perigeelaw9_PowerMillisecondByMillisecond.j1 k x1 x2 x3 bt112.1 (!(((rd_T42 bt112.1 (wrap64 ((bt112.1.length : Int) - 1))).f0) == x4) || (!(((rd_T42 bt112.1 (wrap64 ((bt112.1.length : Int) - 1))).f1) == x11))) x102000 x102001 x102002 x102003 x102004) else (none)) else (none))) else (perigeelaw9_PowerMillisecondByMillisecond.j1 k x1 x2 x3 bt112.1 true x102000 x102001 x102002 x102003 x102004)))
def perigeelaw9_PowerMillisecondByMillisecond.j1 : Nat → List (S72) → List (S76) → List (S47) → List (S42) → Bool → Int → Int → Int → Int → Int → Option (Bool)
  | 0, _, _, _, _, _, _, _, _, _, _ => none
  | k + 1, x1, x2, x3, x18, x123, x102000, x102001, x102002, x102003, x102004 => if x123 = true then (some false) else (perigeelaw9_PowerMillisecondByMillisecond.l0 k x1 x2 x3 x18 (x18.length : Int) 0 x102000 x102001 x102002 x102003 x102004)
def perigeelaw9_PowerMillisecondByMillisecond.l0 : Nat → List (S72) → List (S76) → List (S47) → List (S42) → Int → Int → Int → Int → Int → Int → Int → Option (Bool)
  | 0, _, _, _, _, _, _, _, _, _, _, _ => none
  | k + 1, x1, x2, x3, x124, x125, x126, x102000, x102001, x102002, x102003, x102004 => if x126 < x125 then (if 0 ≤ x126 then (if x126 < (x124.length : Int) then ((power_LevelAt.f k x102000 x102001 x102002 x102003 x102004 x1 x2 x3 ((rd_T42 x124 x126).f0)).bind fun bt119 => (if bt119.2 = 0 then (if bt119.1 = ((rd_T42 x124 x126).f1) then (perigeelaw9_PowerMillisecondByMillisecond.l0 k x1 x2 x3 x124 x125 (wrap64 (x126 + 1)) x102000 x102001 x102002 x102003 x102004) else (some false)) else (some false))) else (none)) else (none)) else ((perigeelaw9_awake.f k).bind fun t121 => (some t121))
end
def perigeelaw9_PowerMillisecondByMillisecond.f (k : Nat) (a0_0 : Int) (a0_1 : Int) (a0_2 : Int) (a0_3 : Int) (a0_4 : Int) (l1 : List (S72)) (l2 : List (S76)) (l3 : List (S47)) (a4 : Int) : Option (Bool) := if a4 ≥ 1000000000000 then ((perigeelaw9_awake.f k).bind fun t102 => (some t102)) else ((power_LevelAt.f k a0_0 a0_1 a0_2 a0_3 a0_4 l1 l2 l3 a4).bind fun bt103 => (if bt103.2 = 0 then ((power_LevelAt.f k a0_0 a0_1 a0_2 a0_3 a0_4 l1 l2 l3 (wrap64 (a4 + 1))).bind fun bt106 => ((power_Sunny.f k l1 a4 (wrap64 (a4 + 1))).bind fun bt108 => ((power_Draw.f k l2 l3 a4).bind fun bt110 => (if bt106.2 = 0 then (if bt108.2 = 0 then (if bt110.2 = 0 then (perigeelaw9_PowerMillisecondByMillisecond.j0 k l1 l2 l3 a4 bt103.1 (bt106.1 != (mx 0 (mn a0_0 (wrap64 ((wrap64 ((wrap64 (bt103.1 + (wrap64 (bt108.1 * a0_2)))) - a0_3)) - bt110.1))))) a0_0 a0_1 a0_2 a0_3 a0_4) else (perigeelaw9_PowerMillisecondByMillisecond.j0 k l1 l2 l3 a4 bt103.1 true a0_0 a0_1 a0_2 a0_3 a0_4)) else (perigeelaw9_PowerMillisecondByMillisecond.j0 k l1 l2 l3 a4 bt103.1 true a0_0 a0_1 a0_2 a0_3 a0_4)) else (perigeelaw9_PowerMillisecondByMillisecond.j0 k l1 l2 l3 a4 bt103.1 true a0_0 a0_1 a0_2 a0_3 a0_4))))) else (if bt103.1 = 0 then ((perigeelaw9_awake.f k).bind fun t105 => (some t105)) else (some false))))
theorem perigeelaw9_PowerMillisecondByMillisecond.mono_l : ∀ k, (∀ y0 y1 y2 y3 y4 y5 y6 y7 y8 y9 y10, LeO (perigeelaw9_PowerMillisecondByMillisecond.j0 k y0 y1 y2 y3 y4 y5 y6 y7 y8 y9 y10) (perigeelaw9_PowerMillisecondByMillisecond.j0 (k + 1) y0 y1 y2 y3 y4 y5 y6 y7 y8 y9 y10)) ∧ (∀ y0 y1 y2 y3 y4 y5 y6 y7 y8 y9, LeO (perigeelaw9_PowerMillisecondByMillisecond.j1 k y0 y1 y2 y3 y4 y5 y6 y7 y8 y9) (perigeelaw9_PowerMillisecondByMillisecond.j1 (k + 1) y0 y1 y2 y3 y4 y5 y6 y7 y8 y9)) ∧ (∀ y0 y1 y2 y3 y4 y5 y6 y7 y8 y9 y10, LeO (perigeelaw9_PowerMillisecondByMillisecond.l0 k y0 y1 y2 y3 y4 y5 y6 y7 y8 y9 y10) (perigeelaw9_PowerMillisecondByMillisecond.l0 (k + 1) y0 y1 y2 y3 y4 y5 y6 y7 y8 y9 y10))
  | 0 => ⟨fun _ _ _ _ _ _ _ _ _ _ _ r h => by simp [perigeelaw9_PowerMillisecondByMillisecond.j0] at h, fun _ _ _ _ _ _ _ _ _ _ r h => by simp [perigeelaw9_PowerMillisecondByMillisecond.j1] at h, fun _ _ _ _ _ _ _ _ _ _ _ r h => by simp [perigeelaw9_PowerMillisecondByMillisecond.l0] at h⟩
  | k + 1 => by
    obtain ⟨ih0, ih1, ih2⟩ := perigeelaw9_PowerMillisecondByMillisecond.mono_l k
    refine ⟨?_, ?_, ?_⟩
    · intro y0 y1 y2 y3 y4 y5 y6 y7 y8 y9 y10
      unfold perigeelaw9_PowerMillisecondByMillisecond.j0
      repeat' first
      | (with_reducible exact ih0 _ _ _ _ _ _ _ _ _ _ _)
      | (with_reducible exact ih1 _ _ _ _ _ _ _ _ _ _)
      | (with_reducible exact ih2 _ _ _ _ _ _ _ _ _ _ _)
      | (with_reducible exact perigeelaw9_awake.mono _)
      | (with_reducible exact power_Draw.mono _ _ _ _)
      | (with_reducible exact power_Follow.mono _ _ _ _ _ _ _ _ _ _)
      | (with_reducible exact power_LevelAt.mono _ _ _ _ _ _ _ _ _ _)
      | (with_reducible exact power_Sunny.mono _ _ _ _)
      | (with_reducible exact LeO.refl _)
      | (with_reducible exact LeO.none _)
      | (with_reducible refine LeO.ite ?_ ?_)
      | (with_reducible refine LeO.bind ?_ (fun _ => ?_))
      | exact ih0 _ _ _ _ _ _ _ _ _ _ _
      | exact ih1 _ _ _ _ _ _ _ _ _ _
      | exact ih2 _ _ _ _ _ _ _ _ _ _ _
      | exact perigeelaw9_awake.mono _
      | exact power_Draw.mono _ _ _ _
      | exact power_Follow.mono _ _ _ _ _ _ _ _ _ _
      | exact power_LevelAt.mono _ _ _ _ _ _ _ _ _ _
      | exact power_Sunny.mono _ _ _ _
      | exact LeO.none _
      | refine LeO.ite ?_ ?_
      | refine LeO.bind ?_ (fun _ => ?_)
    · intro y0 y1 y2 y3 y4 y5 y6 y7 y8 y9
      unfold perigeelaw9_PowerMillisecondByMillisecond.j1
      repeat' first
      | (with_reducible exact ih0 _ _ _ _ _ _ _ _ _ _ _)
      | (with_reducible exact ih1 _ _ _ _ _ _ _ _ _ _)
      | (with_reducible exact ih2 _ _ _ _ _ _ _ _ _ _ _)
      | (with_reducible exact perigeelaw9_awake.mono _)
      | (with_reducible exact power_Draw.mono _ _ _ _)
      | (with_reducible exact power_Follow.mono _ _ _ _ _ _ _ _ _ _)
      | (with_reducible exact power_LevelAt.mono _ _ _ _ _ _ _ _ _ _)
      | (with_reducible exact power_Sunny.mono _ _ _ _)
      | (with_reducible exact LeO.refl _)
      | (with_reducible exact LeO.none _)
      | (with_reducible refine LeO.ite ?_ ?_)
      | (with_reducible refine LeO.bind ?_ (fun _ => ?_))
      | exact ih0 _ _ _ _ _ _ _ _ _ _ _
      | exact ih1 _ _ _ _ _ _ _ _ _ _
      | exact ih2 _ _ _ _ _ _ _ _ _ _ _
      | exact perigeelaw9_awake.mono _
      | exact power_Draw.mono _ _ _ _
      | exact power_Follow.mono _ _ _ _ _ _ _ _ _ _
      | exact power_LevelAt.mono _ _ _ _ _ _ _ _ _ _
      | exact power_Sunny.mono _ _ _ _
      | exact LeO.none _
      | refine LeO.ite ?_ ?_
      | refine LeO.bind ?_ (fun _ => ?_)
    · intro y0 y1 y2 y3 y4 y5 y6 y7 y8 y9 y10
      unfold perigeelaw9_PowerMillisecondByMillisecond.l0
      repeat' first
      | (with_reducible exact ih0 _ _ _ _ _ _ _ _ _ _ _)
      | (with_reducible exact ih1 _ _ _ _ _ _ _ _ _ _)
      | (with_reducible exact ih2 _ _ _ _ _ _ _ _ _ _ _)
      | (with_reducible exact perigeelaw9_awake.mono _)
      | (with_reducible exact power_Draw.mono _ _ _ _)
      | (with_reducible exact power_Follow.mono _ _ _ _ _ _ _ _ _ _)
      | (with_reducible exact power_LevelAt.mono _ _ _ _ _ _ _ _ _ _)
      | (with_reducible exact power_Sunny.mono _ _ _ _)
      | (with_reducible exact LeO.refl _)
      | (with_reducible exact LeO.none _)
      | (with_reducible refine LeO.ite ?_ ?_)
      | (with_reducible refine LeO.bind ?_ (fun _ => ?_))
      | exact ih0 _ _ _ _ _ _ _ _ _ _ _
      | exact ih1 _ _ _ _ _ _ _ _ _ _
      | exact ih2 _ _ _ _ _ _ _ _ _ _ _
      | exact perigeelaw9_awake.mono _
      | exact power_Draw.mono _ _ _ _
      | exact power_Follow.mono _ _ _ _ _ _ _ _ _ _
      | exact power_LevelAt.mono _ _ _ _ _ _ _ _ _ _
      | exact power_Sunny.mono _ _ _ _
      | exact LeO.none _
      | refine LeO.ite ?_ ?_
      | refine LeO.bind ?_ (fun _ => ?_)
theorem perigeelaw9_PowerMillisecondByMillisecond.mono : ∀ a0 a1 a2 a3 a4 a5 a6 a7 a8 k, LeO (perigeelaw9_PowerMillisecondByMillisecond.f k a0 a1 a2 a3 a4 a5 a6 a7 a8) (perigeelaw9_PowerMillisecondByMillisecond.f (k + 1) a0 a1 a2 a3 a4 a5 a6 a7 a8) := by
  intro a0 a1 a2 a3 a4 a5 a6 a7 a8 k
  obtain ⟨ih0, ih1, ih2⟩ := perigeelaw9_PowerMillisecondByMillisecond.mono_l k
  unfold perigeelaw9_PowerMillisecondByMillisecond.f
  repeat' first
      | (with_reducible exact ih0 _ _ _ _ _ _ _ _ _ _ _)
      | (with_reducible exact ih1 _ _ _ _ _ _ _ _ _ _)
      | (with_reducible exact ih2 _ _ _ _ _ _ _ _ _ _ _)
      | (with_reducible exact perigeelaw9_awake.mono _)
      | (with_reducible exact power_Draw.mono _ _ _ _)
      | (with_reducible exact power_Follow.mono _ _ _ _ _ _ _ _ _ _)
      | (with_reducible exact power_LevelAt.mono _ _ _ _ _ _ _ _ _ _)
      | (with_reducible exact power_Sunny.mono _ _ _ _)
      | (with_reducible exact LeO.refl _)
      | (with_reducible exact LeO.none _)
      | (with_reducible refine LeO.ite ?_ ?_)
      | (with_reducible refine LeO.bind ?_ (fun _ => ?_))
      | exact ih0 _ _ _ _ _ _ _ _ _ _ _
      | exact ih1 _ _ _ _ _ _ _ _ _ _
      | exact ih2 _ _ _ _ _ _ _ _ _ _ _
      | exact perigeelaw9_awake.mono _
      | exact power_Draw.mono _ _ _ _
      | exact power_Follow.mono _ _ _ _ _ _ _ _ _ _
      | exact power_LevelAt.mono _ _ _ _ _ _ _ _ _ _
      | exact power_Sunny.mono _ _ _ _
      | exact LeO.none _
      | refine LeO.ite ?_ ?_
      | refine LeO.bind ?_ (fun _ => ?_)
theorem d4a {p : Prop} (h : p := by (with_reducible repeat (first | refine blk_drewN ?_ _ | refine blk_drew ?_ | refine blk_alloc ?_ _)); refine blk_put (cs := #[.int .i64 ((rd_T42 t112 x126_3).f0), .int .i64 0]) ?_ 1 _ rfl; (with_reducible repeat (first | refine blk_drewN ?_ _ | refine blk_drew ?_ | refine blk_alloc ?_ _)); refine blk_put (cs := #[.int .i64 0, .int .i64 0]) ?_ 0 _ rfl; (with_reducible repeat (first | refine blk_drewN ?_ _ | refine blk_drew ?_ | refine blk_alloc ?_ _)); exact BK118.out) : p := h
theorem d4b {p : Prop} (h : p := by (with_reducible repeat (first | refine blk_drewN ?_ _ | refine blk_drew ?_ | refine blk_alloc ?_ _)); refine blk_far ?_ NB101_118.out _; (with_reducible repeat (first | refine blk_drewN ?_ _ | refine blk_drew ?_ | refine blk_alloc ?_ _)); refine blk_far ?_ NB101_118.out _; (with_reducible repeat (first | refine blk_drewN ?_ _ | refine blk_drew ?_ | refine blk_alloc ?_ _)); exact BK101.out) : p := h
theorem d4c {p : Prop} (h : p := by (with_reducible repeat (first | apply Kd.R_alloc | apply Kd.R_drewN | apply Kd.R_drew)); exact (Kd.R_mono (Kd.R_far (p := ⟨gb118, 1, none⟩) (Kd.R_far (p := ⟨gb118, 0, none⟩) (Kd.R_mono HO_124.out (fun k_ hk => (⟨hk, hk.2⟩ : _ ∧ k_ ≠ gb118))) (fun _ hk => hk.2) (.int .i64 ((rd_T42 t112 x126_3).f0))) (fun _ hk => hk.2) (.int .i64 ((rd_T42 t112 x126_3).f1))) (fun _ h_ => h_.1))) : p := h
theorem d4d {p : Prop} (h : p := by exact Kd.C_below HR1.out (by repeat (first | (with_reducible first | exact HB.out | apply below_alloc | apply pw_below_drewN | apply below_drew1 | refine below_set ?_ GE101.out | refine below_set ?_ GE118.out) | exact HB.out))) : p := h
theorem d4e {p : Prop} (h : p := by exact Kd.C_below HR2.out (by repeat (first | (with_reducible first | exact HB.out | apply below_alloc | apply pw_below_drewN | apply below_drew1 | refine below_set ?_ GE101.out | refine below_set ?_ GE118.out) | exact HB.out))) : p := h
theorem d4f {p : Prop} (h : p := by exact Kd.C_below HR3.out (by repeat (first | (with_reducible first | exact HB.out | apply below_alloc | apply pw_below_drewN | apply below_drew1 | refine below_set ?_ GE101.out | refine below_set ?_ GE118.out) | exact HB.out))) : p := h
theorem d4g {p : Prop} (h : p := by repeat (first | (with_reducible first | exact HB.out | apply below_alloc | apply pw_below_drewN | apply below_drew1 | refine below_set ?_ GE101.out | refine below_set ?_ GE118.out) | exact HB.out)) : p := h
theorem d4h {p : Prop} (h : p := by repeat (first | (with_reducible first | exact HB.out | apply below_alloc | apply pw_below_drewN | apply below_drew1 | refine below_set ?_ GE101.out) | exact HB.out)) : p := h
theorem d4i {p : Prop} (h : p := by (try simp only [List.map_toArray, List.map_cons, List.map_nil]); first | done | rfl | (simp only [List.length_drop, List.length_take]; rfl)) : p := h
theorem d4j {p : Prop} (h : p := by repeat (first | (with_reducible first | exact HB.out | apply below_alloc | apply pw_below_drewN | apply below_drew1) | exact HB.out)) : p := h
theorem d4k {p : Prop} (h : p := by (with_reducible repeat (first | refine blk_drewN ?_ _ | refine blk_drew ?_ | refine blk_alloc ?_ _)); exact BK101.out) : p := h
theorem d4l {p : Prop} (h : p := by (with_reducible repeat (first | apply Kd.R_alloc | apply Kd.R_drewN | apply Kd.R_drew)); exact HO_124.out) : p := h
theorem d4m {p : Prop} (h : p := by (with_reducible repeat (first | apply Kd.R_alloc | apply Kd.R_drewN | apply Kd.R_drew)); exact HO114.out) : p := h
theorem d4n {p : Prop} (h : p := by first | rfl | (simp [errW_none, errW_some] <;> rfl) | (simp [*, errW_none, errW_some] <;> rfl)) : p := h
theorem d4o {p : Prop} (h : p := by first | (with_reducible assumption) | assumption) : p := h
theorem d4p {p : Prop} (h : p := by first | rfl | (simp; done) | (simp [*]; done)) : p := h
theorem d4q {p : Prop} (h : p := by first | (go_simp; done) | (go_simp; rfl)) : p := h
theorem d4r {p : Prop} (h : p := by exact C_go (Kd.C_below HR1.out HB.out)) : p := h
theorem d4s {p : Prop} (h : p := by exact C_go (Kd.C_below HR2.out HB.out)) : p := h
theorem d4t {p : Prop} (h : p := by exact C_go (Kd.C_below HR3.out HB.out)) : p := h
theorem d4u {p : Prop} (h : p := by first | omega | exact Nat.le_refl _) : p := h
set_option maxHeartbeats 8000000 in
set_option maxRecDepth 100000 in
theorem perigeelaw9_PowerMillisecondByMillisecond.calls (k : Nat) (a0_0 : Int) (a0_1 : Int) (a0_2 : Int) (a0_3 : Int) (a0_4 : Int) (A1 : Option Addr) (c1 : Nat) (l1 : List (S72)) (A2 : Option Addr) (c2 : Nat) (l2 : List (S76)) (A3 : Option Addr) (c3 : Nat) (l3 : List (S47)) (a4 : Int) (r : Bool) (w : World) (hr1 : Kd.C k72 w A1 l1.length l1) (hc1 : l1.length ≤ c1) (hr2 : Kd.C k76 w A2 l2.length l2) (hc2 : l2.length ≤ c2) (hr3 : Kd.C k47 w A3 l3.length l3) (hc3 : l3.length ≤ c3) (h : perigeelaw9_PowerMillisecondByMillisecond.f k a0_0 a0_1 a0_2 a0_3 a0_4 l1 l2 l3 a4 = some r) :
 Calls Try.prog 4 #[.agg #[.int .i64 a0_0, .int .i64 a0_1, .int .i64 a0_2, .int .i64 a0_3, .int .i64 a0_4], .slice A1 l1.length c1, .slice A2 l2.length c2, .slice A3 l3.length c3, .int .i64 a4] w fun e w' => e = .returned (.bool r) ∧ Below w.heap.size w w' := by
 have hu23 := Try.underlying23
 have hu42 := Try.underlying42
 have HR1 := Aside0.mk hr1
 have HC1 := Aside0.mk hc1
 clear hr1 hc1
 have HR2 := Aside0.mk hr2
 have HC2 := Aside0.mk hc2
 clear hr2 hc2
 have HR3 := Aside0.mk hr3
 have HC3 := Aside0.mk hc3
 clear hr3 hc3
 have HB := Aside0.mk (Below.refl w.heap.size w)
 have H : (if a4 ≥ 1000000000000 then ((perigeelaw9_awake.f k).bind fun t102 => (some t102)) else ((power_LevelAt.f k a0_0 a0_1 a0_2 a0_3 a0_4 l1 l2 l3 a4).bind fun bt103 => (if bt103.2 = 0 then ((power_LevelAt.f k a0_0 a0_1 a0_2 a0_3 a0_4 l1 l2 l3 (wrap64 (a4 + 1))).bind fun bt106 => ((power_Sunny.f k l1 a4 (wrap64 (a4 + 1))).bind fun bt108 => ((power_Draw.f k l2 l3 a4).bind fun bt110 => (if bt106.2 = 0 then (if bt108.2 = 0 then (if bt110.2 = 0 then (perigeelaw9_PowerMillisecondByMillisecond.j0 k l1 l2 l3 a4 bt103.1 (bt106.1 != (mx 0 (mn a0_0 (wrap64 ((wrap64 ((wrap64 (bt103.1 + (wrap64 (bt108.1 * a0_2)))) - a0_3)) - bt110.1))))) a0_0 a0_1 a0_2 a0_3 a0_4) else (perigeelaw9_PowerMillisecondByMillisecond.j0 k l1 l2 l3 a4 bt103.1 true a0_0 a0_1 a0_2 a0_3 a0_4)) else (perigeelaw9_PowerMillisecondByMillisecond.j0 k l1 l2 l3 a4 bt103.1 true a0_0 a0_1 a0_2 a0_3 a0_4)) else (perigeelaw9_PowerMillisecondByMillisecond.j0 k l1 l2 l3 a4 bt103.1 true a0_0 a0_1 a0_2 a0_3 a0_4))))) else (if bt103.1 = 0 then ((perigeelaw9_awake.f k).bind fun t105 => (some t105)) else (some false))))) = some r := h
 clear h
 by_cases c6 : a4 ≥ 1000000000000
 · rw [if_pos c6] at H
   have c6b0 : decide (1000000000000 ≤ a4) = true := decide_eq_true c6
   clear c6
   replace H := bindS H; obtain ⟨t102, A7, H⟩ := H
   obtain rfl := Option.some.inj H
   go_enter Try.func4, Try.ntmps4
   go_wp2_with (first | ((with_reducible refine gate_dst (N := 5) rfl ?_); (try (refine gate_guard (by rfl) ?_; dsimp only)); refine box_event ?hg (N := 5) ?hd (cs := #[.int .i64 a0_0, .int .i64 a0_1, .int .i64 a0_2, .int .i64 a0_3, .int .i64 a0_4]) (t := 23) ?hr ?_; (case hd => rfl); (case hg => rfl); (case hr => exact d4q); intro gb101 hg w8 hbox hb; have n0_ := Aside0.mk (below_step d4j hb); have n1_ := Aside0.mk (hbox); have n2_ := Aside0.mk ((by rw [hg]; exact (below_size d4j) : w.heap.size ≤ gb101)); have n3_ := Aside0.mk ((by rw [hg]; exact (below_size d4j) : w.heap.size ≤ gb101)); clear HB; have HB := n0_; have BK101 := n1_; have GW101 := n2_; have GE101 := n3_; clear n0_ n1_ n2_ n3_; clear hb hbox hg) | ((with_reducible refine gate_callee (f := 27) rfl ?_); refine goesL_ (some 25) rfl rfl Try.func27 (by kernel_rfl) rfl #[] rfl d4i ?_; (with_reducible refine (perigeelaw9_awake.calls k  t102 _ A7.out).mono ?_); rintro e w9 ⟨rfl, hb⟩; refine ⟨_, rfl, ?_⟩; have n0_ := Aside0.mk (blk_below (g := gb101) (o := .cells #[.int .i64 a0_0, .int .i64 a0_1, .int .i64 a0_2, .int .i64 a0_3, .int .i64 a0_4] 23 (0, 0)) d4k hb); have n1_ := Aside0.mk (below_step d4h hb); clear BK101; clear HB; have BK101 := n0_; have HB := n1_; clear n0_ n1_; (try clear hb)))
   go_ret
   exact ⟨d4n, d4h⟩
 · rw [if_neg c6] at H
   have c6b0 : decide (1000000000000 ≤ a4) = false := decide_eq_false c6
   clear c6
   replace H := bindS H; obtain ⟨⟨t103, t104⟩, A10, H⟩ := H
   by_cases c11 : t104 = 0
   · rw [if_pos c11] at H
     have c11b0 : (t104 == 0) = true := beq_iff_eq.mpr c11
     have c11b1 : (t104 != 0) = false := bne_eq_false_iff_eq.mpr c11
     clear c11
     replace H := bindS H; obtain ⟨⟨t106, t107⟩, A12, H⟩ := H
     replace H := bindS H; obtain ⟨⟨t108, t109⟩, A13, H⟩ := H
     replace H := bindS H; obtain ⟨⟨t110, t111⟩, A14, H⟩ := H
     have HC15 := Aside0.mk H
     clear H
     go_enter Try.func4, Try.ntmps4
     go_upto_region 9 with (first | ((with_reducible refine gate_dst (N := 5) rfl ?_); (try (refine gate_guard (by rfl) ?_; dsimp only)); refine box_event ?hg (N := 5) ?hd (cs := #[.int .i64 a0_0, .int .i64 a0_1, .int .i64 a0_2, .int .i64 a0_3, .int .i64 a0_4]) (t := 23) ?hr ?_; (case hd => rfl); (case hg => rfl); (case hr => exact d4q); intro gb101 hg w16 hbox hb; have n0_ := Aside0.mk (below_step d4j hb); have n1_ := Aside0.mk (hbox); have n2_ := Aside0.mk ((by rw [hg]; exact (below_size d4j) : w.heap.size ≤ gb101)); have n3_ := Aside0.mk ((by rw [hg]; exact (below_size d4j) : w.heap.size ≤ gb101)); clear HB; have HB := n0_; have BK101 := n1_; have GW101 := n2_; have GE101 := n3_; clear n0_ n1_ n2_ n3_; clear hb hbox hg; have hcz17_0 : w16.cell? ⟨gb101, 0, none⟩ = some (.int .i64 a0_0) := (blk_cell BK101.out 0).trans rfl; have hcz17_1 : w16.cell? ⟨gb101, 1, none⟩ = some (.int .i64 a0_1) := (blk_cell BK101.out 1).trans rfl; have hcz17_2 : w16.cell? ⟨gb101, 2, none⟩ = some (.int .i64 a0_2) := (blk_cell BK101.out 2).trans rfl; have hcz17_3 : w16.cell? ⟨gb101, 3, none⟩ = some (.int .i64 a0_3) := (blk_cell BK101.out 3).trans rfl; have hcz17_4 : w16.cell? ⟨gb101, 4, none⟩ = some (.int .i64 a0_4) := (blk_cell BK101.out 4).trans rfl; have hfz17_0 := blk_frozen BK101.out 0; have hfz17_1 := blk_frozen BK101.out 1; have hfz17_2 := blk_frozen BK101.out 2; have hfz17_3 := blk_frozen BK101.out 3; have hfz17_4 := blk_frozen BK101.out 4) | ((with_reducible refine gate_callee (f := 28) rfl ?_); refine goesL_ (some 32) rfl rfl Try.func28 (by kernel_rfl) rfl #[.agg #[.int .i64 a0_0, .int .i64 a0_1, .int .i64 a0_2, .int .i64 a0_3, .int .i64 a0_4], .slice A1 l1.length c1, .slice A2 l2.length c2, .slice A3 l3.length c3, .int .i64 a4] rfl d4i ?_; (with_reducible refine (power_LevelAt.calls k a0_0 a0_1 a0_2 a0_3 a0_4 _ _ l1 _ _ l2 _ _ l3 a4 t103 t104 _ ?side1 ?side2 ?side3 ?side4 ?side5 ?side6 A10.out).mono ?_); (case side1 => exact d4r); (case side2 => exact HC1.out); (case side3 => exact d4s); (case side4 => exact HC2.out); (case side5 => exact d4t); (case side6 => exact HC3.out); rintro e w18 ⟨rfl, hb⟩; refine ⟨_, rfl, ?_⟩; have n0_ := Aside0.mk (blk_below (g := gb101) (o := .cells #[.int .i64 a0_0, .int .i64 a0_1, .int .i64 a0_2, .int .i64 a0_3, .int .i64 a0_4] 23 (0, 0)) d4k hb); have n1_ := Aside0.mk (below_step d4h hb); clear BK101; clear HB; have BK101 := n0_; have HB := n1_; clear n0_ n1_; (try clear hb); have hcz19_0 : w18.cell? ⟨gb101, 0, none⟩ = some (.int .i64 a0_0) := (blk_cell BK101.out 0).trans rfl; have hcz19_1 : w18.cell? ⟨gb101, 1, none⟩ = some (.int .i64 a0_1) := (blk_cell BK101.out 1).trans rfl; have hcz19_2 : w18.cell? ⟨gb101, 2, none⟩ = some (.int .i64 a0_2) := (blk_cell BK101.out 2).trans rfl; have hcz19_3 : w18.cell? ⟨gb101, 3, none⟩ = some (.int .i64 a0_3) := (blk_cell BK101.out 3).trans rfl; have hcz19_4 : w18.cell? ⟨gb101, 4, none⟩ = some (.int .i64 a0_4) := (blk_cell BK101.out 4).trans rfl; have hfz19_0 := blk_frozen BK101.out 0; have hfz19_1 := blk_frozen BK101.out 1; have hfz19_2 := blk_frozen BK101.out 2; have hfz19_3 := blk_frozen BK101.out 3; have hfz19_4 := blk_frozen BK101.out 4) | ((with_reducible refine gate_callee (f := 28) rfl ?_); refine goesL_ (some 49) rfl rfl Try.func28 (by kernel_rfl) rfl #[.agg #[.int .i64 a0_0, .int .i64 a0_1, .int .i64 a0_2, .int .i64 a0_3, .int .i64 a0_4], .slice A1 l1.length c1, .slice A2 l2.length c2, .slice A3 l3.length c3, .int .i64 (wrap64 (a4 + 1))] rfl d4i ?_; (with_reducible refine (power_LevelAt.calls k a0_0 a0_1 a0_2 a0_3 a0_4 _ _ l1 _ _ l2 _ _ l3 (wrap64 (a4 + 1)) t106 t107 _ ?side1 ?side2 ?side3 ?side4 ?side5 ?side6 A12.out).mono ?_); (case side1 => exact d4r); (case side2 => exact HC1.out); (case side3 => exact d4s); (case side4 => exact HC2.out); (case side5 => exact d4t); (case side6 => exact HC3.out); rintro e w20 ⟨rfl, hb⟩; refine ⟨_, rfl, ?_⟩; have n0_ := Aside0.mk (blk_below (g := gb101) (o := .cells #[.int .i64 a0_0, .int .i64 a0_1, .int .i64 a0_2, .int .i64 a0_3, .int .i64 a0_4] 23 (0, 0)) d4k hb); have n1_ := Aside0.mk (below_step d4h hb); clear BK101; clear HB; have BK101 := n0_; have HB := n1_; clear n0_ n1_; (try clear hb)) | ((with_reducible refine gate_callee (f := 23) rfl ?_); refine goesL_ (some 57) rfl rfl Try.func23 (by kernel_rfl) rfl #[.slice A1 l1.length c1, .int .i64 a4, .int .i64 (wrap64 (a4 + 1))] rfl d4i ?_; (with_reducible refine (power_Sunny.calls k _ _ l1 a4 (wrap64 (a4 + 1)) t108 t109 _ ?side1 ?side2 A13.out).mono ?_); (case side1 => exact d4r); (case side2 => exact HC1.out); rintro e w21 ⟨rfl, hb⟩; refine ⟨_, rfl, ?_⟩; have n0_ := Aside0.mk (blk_below (g := gb101) (o := .cells #[.int .i64 a0_0, .int .i64 a0_1, .int .i64 a0_2, .int .i64 a0_3, .int .i64 a0_4] 23 (0, 0)) d4k hb); have n1_ := Aside0.mk (below_step d4h hb); clear BK101; clear HB; have BK101 := n0_; have HB := n1_; clear n0_ n1_; (try clear hb)) | ((with_reducible refine gate_callee (f := 25) rfl ?_); refine goesL_ (some 64) rfl rfl Try.func25 (by kernel_rfl) rfl #[.slice A2 l2.length c2, .slice A3 l3.length c3, .int .i64 a4] rfl d4i ?_; (with_reducible refine (power_Draw.calls k _ _ l2 _ _ l3 a4 t110 t111 _ ?side1 ?side2 ?side3 ?side4 A14.out).mono ?_); (case side1 => exact d4s); (case side2 => exact HC2.out); (case side3 => exact d4t); (case side4 => exact HC3.out); rintro e w22 ⟨rfl, hb⟩; refine ⟨_, rfl, ?_⟩; have n0_ := Aside0.mk (blk_below (g := gb101) (o := .cells #[.int .i64 a0_0, .int .i64 a0_1, .int .i64 a0_2, .int .i64 a0_3, .int .i64 a0_4] 23 (0, 0)) d4k hb); have n1_ := Aside0.mk (below_step d4h hb); clear BK101; clear HB; have BK101 := n0_; have HB := n1_; clear n0_ n1_; (try clear hb)))
     (try simp only [Act.put, List.setIfInBounds_toArray, List.set_cons_zero, List.set_cons_succ])
     go_cut [95] (fun v95 wc => ∃ (kq : Nat) (x95_14 : Bool), v95 = .bool x95_14 ∧ Aside0 (perigeelaw9_PowerMillisecondByMillisecond.j0 kq l1 l2 l3 a4 t103 x95_14 a0_0 a0_1 a0_2 a0_3 a0_4 = some r) ∧ Aside0 (kq ≤ k) ∧ Aside0 (wc.heap[gb101]? = some (.cells #[.int .i64 a0_0, .int .i64 a0_1, .int .i64 a0_2, .int .i64 a0_3, .int .i64 a0_4] 23 (0, 0))) ∧ Aside0 (Below w.heap.size w wc))
     case first =>
      have H := HC15.out
      clear HC15
      by_cases c23 : t107 = 0
      · rw [if_pos c23] at H
        have c23b0 : (t107 == 0) = true := beq_iff_eq.mpr c23
        have c23b1 : (t107 != 0) = false := bne_eq_false_iff_eq.mpr c23
        clear c23
        (first | rw [c23b0] | (simp only [i64_w, i32_w]; rw [c23b0]) | skip)
        by_cases c24 : t109 = 0
        · rw [if_pos c24] at H
          have c24b0 : (t109 == 0) = true := beq_iff_eq.mpr c24
          have c24b1 : (t109 != 0) = false := bne_eq_false_iff_eq.mpr c24
          clear c24
          by_cases c25 : t111 = 0
          · rw [if_pos c25] at H
            have c25b0 : (t111 == 0) = true := beq_iff_eq.mpr c25
            have c25b1 : (t111 != 0) = false := bne_eq_false_iff_eq.mpr c25
            clear c25
            obtain ⟨ji26, hji26⟩ : ∃ j_ : Int, (mn a0_0 (wrap64 ((wrap64 ((wrap64 (t103 + (wrap64 (t108 * a0_2)))) - a0_3)) - t110))) = j_ := ⟨_, rfl⟩
            replace H : (perigeelaw9_PowerMillisecondByMillisecond.j0 k l1 l2 l3 a4 t103 (t106 != (mx 0 (ji26))) a0_0 a0_1 a0_2 a0_3 a0_4) = some r := by first | (rw [hji26] at H; exact H) | (simp only [hji26] at H ⊢; exact H)
            have hji26_ : (if (wrap64 ((wrap64 ((wrap64 (t103 + (wrap64 (t108 * a0_2)))) - a0_3)) - t110)) < a0_0 then (wrap64 ((wrap64 ((wrap64 (t103 + (wrap64 (t108 * a0_2)))) - a0_3)) - t110)) else a0_0) = ji26 := hji26
            obtain ⟨ji27, hji27⟩ : ∃ j_ : Int, (mx 0 (ji26)) = j_ := ⟨_, rfl⟩
            replace H : (perigeelaw9_PowerMillisecondByMillisecond.j0 k l1 l2 l3 a4 t103 (t106 != (ji27)) a0_0 a0_1 a0_2 a0_3 a0_4) = some r := by first | (rw [hji27] at H; exact H) | (simp only [hji27] at H ⊢; exact H)
            have hji27_ : (if 0 < (ji26) then (ji26) else 0) = ji27 := hji27
            have H' := Aside0.mk H
            clear H
            obtain ⟨hcz28_0, hcz28_1, hcz28_2, hcz28_3, hcz28_4⟩ := blkC5 BK101.out
            have hfz28_0 := blk_frozen BK101.out 0
            have hfz28_1 := blk_frozen BK101.out 1
            have hfz28_2 := blk_frozen BK101.out 2
            have hfz28_3 := blk_frozen BK101.out 3
            have hfz28_4 := blk_frozen BK101.out 4
            go_wp2
            go_meet
            case rel => exact ⟨_, ((t106 != (ji27))), (by first | rfl | (simp; done) | (simp only [← hji27] <;> (first | rfl | simp)) | (simp [*]; done)), H', ⟨d4u⟩, ⟨d4k⟩, ⟨d4h⟩⟩
          · rw [if_neg c25] at H
            have c25b0 : (t111 == 0) = false := beq_eq_false_iff_ne.mpr c25
            have c25b1 : (t111 != 0) = true := bne_iff_ne.mpr c25
            have H' := Aside0.mk H
            clear H
            go_wp2
            go_meet
            case rel => exact ⟨_, (true), d4p, H', ⟨d4u⟩, ⟨d4k⟩, ⟨d4h⟩⟩
        · rw [if_neg c24] at H
          have c24b0 : (t109 == 0) = false := beq_eq_false_iff_ne.mpr c24
          have c24b1 : (t109 != 0) = true := bne_iff_ne.mpr c24
          have H' := Aside0.mk H
          clear H
          go_wp2
          go_meet
          case rel => exact ⟨_, (true), d4p, H', ⟨d4u⟩, ⟨d4k⟩, ⟨d4h⟩⟩
      · rw [if_neg c23] at H
        have c23b0 : (t107 == 0) = false := beq_eq_false_iff_ne.mpr c23
        have c23b1 : (t107 != 0) = true := bne_iff_ne.mpr c23
        (first | rw [c23b0] | (simp only [i64_w, i32_w]; rw [c23b0]) | skip)
        have H' := Aside0.mk H
        clear H
        go_wp2
        go_meet
        case rel => exact ⟨_, (true), d4p, H', ⟨d4u⟩, ⟨d4k⟩, ⟨d4h⟩⟩
     case rest =>
      clear HC15
      try clear c6b0
      try clear c11b0
      try clear c11b1
      try clear hcz17_0
      try clear hcz17_1
      try clear hcz17_2
      try clear hcz17_3
      try clear hcz17_4
      try clear hcz19_0
      try clear hcz19_1
      try clear hcz19_2
      try clear hcz19_3
      try clear hcz19_4
      try clear hfz17_0
      try clear hfz17_1
      try clear hfz17_2
      try clear hfz17_3
      try clear hfz17_4
      try clear hfz19_0
      try clear hfz19_1
      try clear hfz19_2
      try clear hfz19_3
      try clear hfz19_4
      obtain ⟨kq, x95_14, rfl, HA, HJ14, BK101, HB⟩ := hcut
      cases kq with
      | zero => exact absurd HA.out (by simp [perigeelaw9_PowerMillisecondByMillisecond.j0])
      | succ kj14 =>
       have H := HA.out
       clear HA
       simp only [perigeelaw9_PowerMillisecondByMillisecond.j0] at H
       by_cases c29 : x95_14 = true
       · subst c29
         replace H := iteT H
         obtain rfl := Option.some.inj H
         go_wp2
         go_ret
         exact ⟨d4n, d4h⟩
       · replace c29 := Bool.eq_false_iff.mpr c29
         subst c29
         replace H := iteF H
         replace H := bindS H; obtain ⟨⟨t112, t115⟩, A30, H⟩ := H
         have HC31 := Aside0.mk H
         clear H
         obtain ⟨hcz32_0, hcz32_1, hcz32_2, hcz32_3, hcz32_4⟩ := blkC5 BK101.out
         have hfz32_0 := blk_frozen BK101.out 0
         have hfz32_1 := blk_frozen BK101.out 1
         have hfz32_2 := blk_frozen BK101.out 2
         have hfz32_3 := blk_frozen BK101.out 3
         have hfz32_4 := blk_frozen BK101.out 4
         go_upto_region 12 with ((with_reducible refine gate_callee (f := 29) rfl ?_); refine goesL_ (some 102) rfl rfl Try.func29 (by kernel_rfl) rfl #[.agg #[.int .i64 a0_0, .int .i64 a0_1, .int .i64 a0_2, .int .i64 a0_3, .int .i64 a0_4], .slice A1 l1.length c1, .slice A2 l2.length c2, .slice A3 l3.length c3, .int .i64 a4] rfl d4i ?_; (with_reducible refine (power_Follow.calls kj14 a0_0 a0_1 a0_2 a0_3 a0_4 _ _ l1 _ _ l2 _ _ l3 a4 t112 t115 _ ?side1 ?side2 ?side3 ?side4 ?side5 ?side6 A30.out).mono ?_); (case side1 => exact d4r); (case side2 => exact HC1.out); (case side3 => exact d4s); (case side4 => exact HC2.out); (case side5 => exact d4t); (case side6 => exact HC3.out); rintro e w33 ⟨v113, rfl, ho0, hb⟩; refine ⟨_, rfl, ?_⟩; have n0_ := Aside0.mk (Kd.R_lower ho0 (below_size d4h)); have n1_ := Aside0.mk (blk_below (g := gb101) (o := .cells #[.int .i64 a0_0, .int .i64 a0_1, .int .i64 a0_2, .int .i64 a0_3, .int .i64 a0_4] 23 (0, 0)) d4k hb); have n2_ := Aside0.mk (below_step d4h hb); clear BK101; clear HB; have HO114 := n0_; have BK101 := n1_; have HB := n2_; clear n0_ n1_ n2_; (try clear hb); (try clear ho0))
         (try simp only [Act.put, List.setIfInBounds_toArray, List.set_cons_zero, List.set_cons_succ])
         go_cut [123] (fun v123 wc => ∃ (kq : Nat) (x123_30 : Bool), v123 = .bool x123_30 ∧ Aside0 (perigeelaw9_PowerMillisecondByMillisecond.j1 kq l1 l2 l3 t112 x123_30 a0_0 a0_1 a0_2 a0_3 a0_4 = some r) ∧ Aside0 (kq ≤ kj14) ∧ Aside0 (Kd.R k42 42 wc w.heap.size (fun _ => True) v113 t112) ∧ Aside0 (wc.heap[gb101]? = some (.cells #[.int .i64 a0_0, .int .i64 a0_1, .int .i64 a0_2, .int .i64 a0_3, .int .i64 a0_4] 23 (0, 0))) ∧ Aside0 (Below w.heap.size w wc))
         case first =>
          have H := HC31.out
          clear HC31
          by_cases c34 : t115 = 0
          · rw [if_pos c34] at H
            have c34b0 : (t115 == 0) = true := beq_iff_eq.mpr c34
            have c34b1 : (t115 != 0) = false := bne_eq_false_iff_eq.mpr c34
            clear c34
            (first | rw [c34b0] | (simp only [i64_w, i32_w]; rw [c34b0]) | skip)
            by_cases c35 : (t112.length : Int) = 0
            · rw [if_pos c35] at H
              have c35b0 : ((t112.length : Int) == 0) = true := beq_iff_eq.mpr c35
              have c35b1 : ((t112.length : Int) != 0) = false := bne_eq_false_iff_eq.mpr c35
              clear c35
              have H' := Aside0.mk H
              clear H
              obtain ⟨Ao36, co36, eo36⟩ := Kd.R_slice HO114.out
              subst eo36
              go_wp2
              go_meet
              case rel => exact ⟨_, (true), d4p, H', ⟨by have := HJ14.out; first | omega | exact Nat.le_refl _⟩, ⟨d4m⟩, ⟨d4k⟩, ⟨d4h⟩⟩
            · rw [if_neg c35] at H
              have c35b0 : ((t112.length : Int) == 0) = false := beq_eq_false_iff_ne.mpr c35
              have c35b1 : ((t112.length : Int) != 0) = true := bne_iff_ne.mpr c35
              have c35b2 : ¬ (t112 = []) := fun h_ => c35 (by rw [h_]; rfl)
              obtain ⟨ji37, hji37⟩ : ∃ j_ : Int, (wrap64 ((t112.length : Int) - 1)) = j_ := ⟨_, rfl⟩
              replace H : (if 0 ≤ (ji37) then (if (ji37) < (t112.length : Int) then (perigeelaw9_PowerMillisecondByMillisecond.j1 kj14 l1 l2 l3 t112 (!(((rd_T42 t112 (ji37)).f0) == a4) || (!(((rd_T42 t112 (ji37)).f1) == t103))) a0_0 a0_1 a0_2 a0_3 a0_4) else (none)) else (none)) = some r := by first | (rw [hji37] at H; exact H) | (simp only [hji37] at H ⊢; exact H)
              have hji37w : (IntKind.i64.wrap ((t112.length : Int) - 1)) = ji37 := (i64_w _).trans hji37
              replace H := guardT H; obtain ⟨c38, H⟩ := H
              have c38b0 : decide (0 ≤ (ji37)) = true := decide_eq_true c38
              clear c38
              replace H := guardT H; obtain ⟨c39, H⟩ := H
              have c39b0 : decide ((ji37) < (t112.length : Int)) = true := decide_eq_true c39
              clear c39
              have H' := Aside0.mk H
              clear H
              obtain ⟨Ao40, co40, eo40⟩ := Kd.R_slice HO114.out
              subst eo40
              have p116 : 0 ≤ ((ji37) : Int) := of_decide_eq_true d4o
              have q116 : (ji37) < (t112.length : Int) := of_decide_eq_true d4o
              obtain ⟨ad116, e116, hx116_0, hx116_1⟩ := at_T42 (Kd.R_reads' HO114.out).2.2 (ji37) p116 q116
              cases e116
              replace p116 := eq_true p116
              replace q116 := eq_true q116
              go_wp2
              go_meet
              case rel => exact ⟨_, ((!(((rd_T42 t112 (ji37)).f0) == a4) || (!(((rd_T42 t112 (ji37)).f1) == t103)))), (by first | rfl | (simp; done) | (simp only [← hji37] <;> (first | rfl | simp)) | (simp [*]; done)), H', ⟨by have := HJ14.out; first | omega | exact Nat.le_refl _⟩, ⟨d4m⟩, ⟨d4k⟩, ⟨d4h⟩⟩
          · rw [if_neg c34] at H
            have c34b0 : (t115 == 0) = false := beq_eq_false_iff_ne.mpr c34
            have c34b1 : (t115 != 0) = true := bne_iff_ne.mpr c34
            (first | rw [c34b0] | (simp only [i64_w, i32_w]; rw [c34b0]) | skip)
            have H' := Aside0.mk H
            clear H
            go_wp2
            go_meet
            case rel => exact ⟨_, (true), d4p, H', ⟨by have := HJ14.out; first | omega | exact Nat.le_refl _⟩, ⟨d4m⟩, ⟨d4k⟩, ⟨d4h⟩⟩
         case rest =>
          clear HC31
          try clear hcz32_0
          try clear hcz32_1
          try clear hcz32_2
          try clear hcz32_3
          try clear hcz32_4
          try clear hfz32_0
          try clear hfz32_1
          try clear hfz32_2
          try clear hfz32_3
          try clear hfz32_4
          obtain ⟨kq, x123_30, rfl, HA, HJ30, HO_18, BK101, HB⟩ := hcut
          cases kq with
          | zero => exact absurd HA.out (by simp [perigeelaw9_PowerMillisecondByMillisecond.j1])
          | succ kj30 =>
           have H := HA.out
           clear HA
           simp only [perigeelaw9_PowerMillisecondByMillisecond.j1] at H
           by_cases c41 : x123_30 = true
           · subst c41
             replace H := iteT H
             obtain rfl := Option.some.inj H
             go_wp2
             go_ret
             exact ⟨d4n, d4h⟩
           · replace c41 := Bool.eq_false_iff.mpr c41
             subst c41
             replace H := iteF H
             have H' := Aside0.mk H
             clear H
             obtain ⟨Ao42, co42, eo42⟩ := Kd.R_slice HO_18.out
             subst eo42
             go_wp2
             go_loopg [126] kj30 (fun kq v126 w' => ∃ (x126_3 : Int), v126 = .int .i64 x126_3 ∧ Aside0 (perigeelaw9_PowerMillisecondByMillisecond.l0 kq l1 l2 l3 t112 (t112.length : Int) x126_3 a0_0 a0_1 a0_2 a0_3 a0_4 = some r) ∧ Aside0 (kq ≤ kj30) ∧ Aside0 (Kd.R k42 42 w' w.heap.size (fun _ => True) (.slice Ao42 t112.length co42) t112) ∧ Aside0 (w'.heap[gb101]? = some (.cells #[.int .i64 a0_0, .int .i64 a0_1, .int .i64 a0_2, .int .i64 a0_3, .int .i64 a0_4] 23 (0, 0))) ∧ Aside0 (Below w.heap.size w w'))
             case atStart => exact ⟨(0), d4p, H', ⟨Nat.le_refl _⟩, ⟨by (with_reducible repeat (first | apply Kd.R_alloc | apply Kd.R_drewN | apply Kd.R_drew)); exact HO_18.out⟩, ⟨d4k⟩, ⟨d4h⟩⟩
             case round =>
              clear H'
              obtain ⟨x126_3, rfl, HA, HK3, HO_124, BK101, HB⟩ := hrel
              cases gk with
              | zero => exact absurd HA.out (by simp [perigeelaw9_PowerMillisecondByMillisecond.l0])
              | succ k3 =>
               have H := HA.out
               clear HA
               simp only [perigeelaw9_PowerMillisecondByMillisecond.l0] at H
               by_cases c43 : x126_3 < (t112.length : Int)
               · rw [if_pos c43] at H
                 have c43b0 : decide (x126_3 < (t112.length : Int)) = true := decide_eq_true c43
                 clear c43
                 replace H := guardT H; obtain ⟨c44, H⟩ := H
                 have c44b0 : decide (0 ≤ x126_3) = true := decide_eq_true c44
                 clear c44
                 replace H := guardT H; obtain ⟨c45, H⟩ := H
                 have c45b0 : decide (x126_3 < (t112.length : Int)) = true := decide_eq_true c45
                 clear c45
                 replace H := bindS H; obtain ⟨⟨t119, t120⟩, A46, H⟩ := H
                 by_cases c47 : t120 = 0
                 · rw [if_pos c47] at H
                   have c47b0 : (t120 == 0) = true := beq_iff_eq.mpr c47
                   have c47b1 : (t120 != 0) = false := bne_eq_false_iff_eq.mpr c47
                   clear c47
                   by_cases c48 : t119 = ((rd_T42 t112 x126_3).f1)
                   · rw [if_pos c48] at H
                     have c48b0 : (t119 == ((rd_T42 t112 x126_3).f1)) = true := beq_iff_eq.mpr c48
                     have c48b1 : (t119 != ((rd_T42 t112 x126_3).f1)) = false := bne_eq_false_iff_eq.mpr c48
                     clear c48
                     have H' := Aside0.mk H
                     clear H
                     have p117 : 0 ≤ (x126_3 : Int) := of_decide_eq_true d4o
                     have q117 : x126_3 < (t112.length : Int) := of_decide_eq_true d4o
                     obtain ⟨ad117, e117, hx117_0, hx117_1⟩ := at_T42 (Kd.R_reads' HO_124.out).2.2 x126_3 p117 q117
                     cases e117
                     replace p117 := eq_true p117
                     replace q117 := eq_true q117
                     go_wp2_with (first | ((with_reducible refine gate_dst (N := 20) rfl ?_); (try (refine gate_guard (by rfl) ?_; dsimp only)); refine box_event ?hg (N := 20) ?hd (cs := #[.int .i64 0, .int .i64 0]) (t := 42) ?hr ?_; (case hd => rfl); (case hg => rfl); (case hr => exact d4q); intro gb118 hg w49 hbox hb; have n0_ := Aside0.mk (Kd.R_below (Kd.R_elderB d4l gb118 (Nat.le_of_eq hg.symm)) hb); have n1_ := Aside0.mk (blk_below (g := gb101) (o := .cells #[.int .i64 a0_0, .int .i64 a0_1, .int .i64 a0_2, .int .i64 a0_3, .int .i64 a0_4] 23 (0, 0)) d4k hb); have n2_ := Aside0.mk (below_step d4h hb); have n3_ := Aside0.mk (hbox); have n4_ := Aside0.mk ((by rw [hg]; exact (below_size d4h) : w.heap.size ≤ gb118)); have n5_ := Aside0.mk ((by rw [hg]; exact (below_size d4h) : w.heap.size ≤ gb118)); have n6_ := Aside0.mk ((by rw [hg]; exact Nat.ne_of_lt (blk_lt (g := gb101) (o := .cells #[.int .i64 a0_0, .int .i64 a0_1, .int .i64 a0_2, .int .i64 a0_3, .int .i64 a0_4] 23 (0, 0)) d4k) : gb101 ≠ gb118)); have n7_ := Aside0.mk ((by rw [hg]; exact Nat.ne_of_gt (blk_lt (g := gb101) (o := .cells #[.int .i64 a0_0, .int .i64 a0_1, .int .i64 a0_2, .int .i64 a0_3, .int .i64 a0_4] 23 (0, 0)) d4k) : gb118 ≠ gb101)); clear HO_124; clear BK101; clear HB; have HO_124 := n0_; have BK101 := n1_; have HB := n2_; have BK118 := n3_; have GW118 := n4_; have GE118 := n5_; have NB101_118 := n6_; have NB118_101 := n7_; clear n0_ n1_ n2_ n3_ n4_ n5_ n6_ n7_; clear hb hbox hg; have hnb50 := NB118_101.out; have hnc50 := NB101_118.out; have hcz51_0 : w49.cell? ⟨gb118, 0, none⟩ = some (.int .i64 0) := (blk_cell BK118.out 0).trans rfl; have hcz51_1 : w49.cell? ⟨gb118, 1, none⟩ = some (.int .i64 0) := (blk_cell BK118.out 1).trans rfl; have hfz51_0 := blk_frozen BK118.out 0; have hfz51_1 := blk_frozen BK118.out 1; have hcz52_0 : w49.cell? ⟨gb101, 0, none⟩ = some (.int .i64 a0_0) := (blk_cell BK101.out 0).trans rfl; have hcz52_1 : w49.cell? ⟨gb101, 1, none⟩ = some (.int .i64 a0_1) := (blk_cell BK101.out 1).trans rfl; have hcz52_2 : w49.cell? ⟨gb101, 2, none⟩ = some (.int .i64 a0_2) := (blk_cell BK101.out 2).trans rfl; have hcz52_3 : w49.cell? ⟨gb101, 3, none⟩ = some (.int .i64 a0_3) := (blk_cell BK101.out 3).trans rfl; have hcz52_4 : w49.cell? ⟨gb101, 4, none⟩ = some (.int .i64 a0_4) := (blk_cell BK101.out 4).trans rfl; have hfz52_0 := blk_frozen BK101.out 0; have hfz52_1 := blk_frozen BK101.out 1; have hfz52_2 := blk_frozen BK101.out 2; have hfz52_3 := blk_frozen BK101.out 3; have hfz52_4 := blk_frozen BK101.out 4) | ((with_reducible refine gate_callee (f := 28) rfl ?_); refine goesL_ (some 137) rfl rfl Try.func28 (by kernel_rfl) rfl #[.agg #[.int .i64 a0_0, .int .i64 a0_1, .int .i64 a0_2, .int .i64 a0_3, .int .i64 a0_4], .slice A1 l1.length c1, .slice A2 l2.length c2, .slice A3 l3.length c3, .int .i64 ((rd_T42 t112 x126_3).f0)] rfl d4i ?_; (with_reducible refine (power_LevelAt.calls k3 a0_0 a0_1 a0_2 a0_3 a0_4 _ _ l1 _ _ l2 _ _ l3 ((rd_T42 t112 x126_3).f0) t119 t120 _ ?side1 ?side2 ?side3 ?side4 ?side5 ?side6 A46.out).mono ?_); (case side1 => exact d4d); (case side2 => exact HC1.out); (case side3 => exact d4e); (case side4 => exact HC2.out); (case side5 => exact d4f); (case side6 => exact HC3.out); rintro e w53 ⟨rfl, hb⟩; refine ⟨_, rfl, ?_⟩; have n0_ := Aside0.mk (Kd.R_below d4c hb); have n1_ := Aside0.mk (blk_below (g := gb101) (o := .cells #[.int .i64 a0_0, .int .i64 a0_1, .int .i64 a0_2, .int .i64 a0_3, .int .i64 a0_4] 23 (0, 0)) d4b hb); have n2_ := Aside0.mk (blk_below (g := gb118) (o := .cells #[.int .i64 ((rd_T42 t112 x126_3).f0), .int .i64 ((rd_T42 t112 x126_3).f1)] 42 (0, 0)) d4a hb); have n3_ := Aside0.mk (below_step d4g hb); clear HO_124; clear BK101; clear BK118; clear HB; have HO_124 := n0_; have BK101 := n1_; have BK118 := n2_; have HB := n3_; clear n0_ n1_ n2_ n3_; (try clear hb); have hcz54_0 : w53.cell? ⟨gb118, 0, none⟩ = some (.int .i64 ((rd_T42 t112 x126_3).f0)) := (blk_cell BK118.out 0).trans rfl; have hcz54_1 : w53.cell? ⟨gb118, 1, none⟩ = some (.int .i64 ((rd_T42 t112 x126_3).f1)) := (blk_cell BK118.out 1).trans rfl; have hfz54_0 := blk_frozen BK118.out 0; have hfz54_1 := blk_frozen BK118.out 1))
                     go_roundg k3
                     case measure => have := HJ14.out; have := HJ30.out; have := HK3.out; omega
                     case rel => exact ⟨(wrap64 (x126_3 + 1)), d4p, H', ⟨by have := HJ14.out; have := HJ30.out; have := HK3.out; omega⟩, ⟨by (with_reducible repeat (first | apply Kd.R_alloc | apply Kd.R_drewN | apply Kd.R_drew)); exact Kd.R_mono HO_124.out (fun _ hk => trivial)⟩, ⟨d4k⟩, ⟨d4g⟩⟩
                   · rw [if_neg c48] at H
                     have c48b0 : (t119 == ((rd_T42 t112 x126_3).f1)) = false := beq_eq_false_iff_ne.mpr c48
                     have c48b1 : (t119 != ((rd_T42 t112 x126_3).f1)) = true := bne_iff_ne.mpr c48
                     obtain rfl := Option.some.inj H
                     have p117 : 0 ≤ (x126_3 : Int) := of_decide_eq_true d4o
                     have q117 : x126_3 < (t112.length : Int) := of_decide_eq_true d4o
                     obtain ⟨ad117, e117, hx117_0, hx117_1⟩ := at_T42 (Kd.R_reads' HO_124.out).2.2 x126_3 p117 q117
                     cases e117
                     replace p117 := eq_true p117
                     replace q117 := eq_true q117
                     go_wp2_with (first | ((with_reducible refine gate_dst (N := 20) rfl ?_); (try (refine gate_guard (by rfl) ?_; dsimp only)); refine box_event ?hg (N := 20) ?hd (cs := #[.int .i64 0, .int .i64 0]) (t := 42) ?hr ?_; (case hd => rfl); (case hg => rfl); (case hr => exact d4q); intro gb118 hg w55 hbox hb; have n0_ := Aside0.mk (Kd.R_below (Kd.R_elderB d4l gb118 (Nat.le_of_eq hg.symm)) hb); have n1_ := Aside0.mk (blk_below (g := gb101) (o := .cells #[.int .i64 a0_0, .int .i64 a0_1, .int .i64 a0_2, .int .i64 a0_3, .int .i64 a0_4] 23 (0, 0)) d4k hb); have n2_ := Aside0.mk (below_step d4h hb); have n3_ := Aside0.mk (hbox); have n4_ := Aside0.mk ((by rw [hg]; exact (below_size d4h) : w.heap.size ≤ gb118)); have n5_ := Aside0.mk ((by rw [hg]; exact (below_size d4h) : w.heap.size ≤ gb118)); have n6_ := Aside0.mk ((by rw [hg]; exact Nat.ne_of_lt (blk_lt (g := gb101) (o := .cells #[.int .i64 a0_0, .int .i64 a0_1, .int .i64 a0_2, .int .i64 a0_3, .int .i64 a0_4] 23 (0, 0)) d4k) : gb101 ≠ gb118)); have n7_ := Aside0.mk ((by rw [hg]; exact Nat.ne_of_gt (blk_lt (g := gb101) (o := .cells #[.int .i64 a0_0, .int .i64 a0_1, .int .i64 a0_2, .int .i64 a0_3, .int .i64 a0_4] 23 (0, 0)) d4k) : gb118 ≠ gb101)); clear HO_124; clear BK101; clear HB; have HO_124 := n0_; have BK101 := n1_; have HB := n2_; have BK118 := n3_; have GW118 := n4_; have GE118 := n5_; have NB101_118 := n6_; have NB118_101 := n7_; clear n0_ n1_ n2_ n3_ n4_ n5_ n6_ n7_; clear hb hbox hg; have hnb56 := NB118_101.out; have hnc56 := NB101_118.out; have hcz57_0 : w55.cell? ⟨gb118, 0, none⟩ = some (.int .i64 0) := (blk_cell BK118.out 0).trans rfl; have hcz57_1 : w55.cell? ⟨gb118, 1, none⟩ = some (.int .i64 0) := (blk_cell BK118.out 1).trans rfl; have hfz57_0 := blk_frozen BK118.out 0; have hfz57_1 := blk_frozen BK118.out 1; have hcz58_0 : w55.cell? ⟨gb101, 0, none⟩ = some (.int .i64 a0_0) := (blk_cell BK101.out 0).trans rfl; have hcz58_1 : w55.cell? ⟨gb101, 1, none⟩ = some (.int .i64 a0_1) := (blk_cell BK101.out 1).trans rfl; have hcz58_2 : w55.cell? ⟨gb101, 2, none⟩ = some (.int .i64 a0_2) := (blk_cell BK101.out 2).trans rfl; have hcz58_3 : w55.cell? ⟨gb101, 3, none⟩ = some (.int .i64 a0_3) := (blk_cell BK101.out 3).trans rfl; have hcz58_4 : w55.cell? ⟨gb101, 4, none⟩ = some (.int .i64 a0_4) := (blk_cell BK101.out 4).trans rfl; have hfz58_0 := blk_frozen BK101.out 0; have hfz58_1 := blk_frozen BK101.out 1; have hfz58_2 := blk_frozen BK101.out 2; have hfz58_3 := blk_frozen BK101.out 3; have hfz58_4 := blk_frozen BK101.out 4) | ((with_reducible refine gate_callee (f := 28) rfl ?_); refine goesL_ (some 137) rfl rfl Try.func28 (by kernel_rfl) rfl #[.agg #[.int .i64 a0_0, .int .i64 a0_1, .int .i64 a0_2, .int .i64 a0_3, .int .i64 a0_4], .slice A1 l1.length c1, .slice A2 l2.length c2, .slice A3 l3.length c3, .int .i64 ((rd_T42 t112 x126_3).f0)] rfl d4i ?_; (with_reducible refine (power_LevelAt.calls k3 a0_0 a0_1 a0_2 a0_3 a0_4 _ _ l1 _ _ l2 _ _ l3 ((rd_T42 t112 x126_3).f0) t119 t120 _ ?side1 ?side2 ?side3 ?side4 ?side5 ?side6 A46.out).mono ?_); (case side1 => exact d4d); (case side2 => exact HC1.out); (case side3 => exact d4e); (case side4 => exact HC2.out); (case side5 => exact d4f); (case side6 => exact HC3.out); rintro e w59 ⟨rfl, hb⟩; refine ⟨_, rfl, ?_⟩; have n0_ := Aside0.mk (Kd.R_below d4c hb); have n1_ := Aside0.mk (blk_below (g := gb101) (o := .cells #[.int .i64 a0_0, .int .i64 a0_1, .int .i64 a0_2, .int .i64 a0_3, .int .i64 a0_4] 23 (0, 0)) d4b hb); have n2_ := Aside0.mk (blk_below (g := gb118) (o := .cells #[.int .i64 ((rd_T42 t112 x126_3).f0), .int .i64 ((rd_T42 t112 x126_3).f1)] 42 (0, 0)) d4a hb); have n3_ := Aside0.mk (below_step d4g hb); clear HO_124; clear BK101; clear BK118; clear HB; have HO_124 := n0_; have BK101 := n1_; have BK118 := n2_; have HB := n3_; clear n0_ n1_ n2_ n3_; (try clear hb); have hcz60_0 : w59.cell? ⟨gb118, 0, none⟩ = some (.int .i64 ((rd_T42 t112 x126_3).f0)) := (blk_cell BK118.out 0).trans rfl; have hcz60_1 : w59.cell? ⟨gb118, 1, none⟩ = some (.int .i64 ((rd_T42 t112 x126_3).f1)) := (blk_cell BK118.out 1).trans rfl; have hfz60_0 := blk_frozen BK118.out 0; have hfz60_1 := blk_frozen BK118.out 1))
                     go_ret
                     exact ⟨d4n, d4g⟩
                 · rw [if_neg c47] at H
                   have c47b0 : (t120 == 0) = false := beq_eq_false_iff_ne.mpr c47
                   have c47b1 : (t120 != 0) = true := bne_iff_ne.mpr c47
                   obtain rfl := Option.some.inj H
                   have p117 : 0 ≤ (x126_3 : Int) := of_decide_eq_true d4o
                   have q117 : x126_3 < (t112.length : Int) := of_decide_eq_true d4o
                   obtain ⟨ad117, e117, hx117_0, hx117_1⟩ := at_T42 (Kd.R_reads' HO_124.out).2.2 x126_3 p117 q117
                   cases e117
                   replace p117 := eq_true p117
                   replace q117 := eq_true q117
                   go_wp2_with (first | ((with_reducible refine gate_dst (N := 20) rfl ?_); (try (refine gate_guard (by rfl) ?_; dsimp only)); refine box_event ?hg (N := 20) ?hd (cs := #[.int .i64 0, .int .i64 0]) (t := 42) ?hr ?_; (case hd => rfl); (case hg => rfl); (case hr => exact d4q); intro gb118 hg w61 hbox hb; have n0_ := Aside0.mk (Kd.R_below (Kd.R_elderB d4l gb118 (Nat.le_of_eq hg.symm)) hb); have n1_ := Aside0.mk (blk_below (g := gb101) (o := .cells #[.int .i64 a0_0, .int .i64 a0_1, .int .i64 a0_2, .int .i64 a0_3, .int .i64 a0_4] 23 (0, 0)) d4k hb); have n2_ := Aside0.mk (below_step d4h hb); have n3_ := Aside0.mk (hbox); have n4_ := Aside0.mk ((by rw [hg]; exact (below_size d4h) : w.heap.size ≤ gb118)); have n5_ := Aside0.mk ((by rw [hg]; exact (below_size d4h) : w.heap.size ≤ gb118)); have n6_ := Aside0.mk ((by rw [hg]; exact Nat.ne_of_lt (blk_lt (g := gb101) (o := .cells #[.int .i64 a0_0, .int .i64 a0_1, .int .i64 a0_2, .int .i64 a0_3, .int .i64 a0_4] 23 (0, 0)) d4k) : gb101 ≠ gb118)); have n7_ := Aside0.mk ((by rw [hg]; exact Nat.ne_of_gt (blk_lt (g := gb101) (o := .cells #[.int .i64 a0_0, .int .i64 a0_1, .int .i64 a0_2, .int .i64 a0_3, .int .i64 a0_4] 23 (0, 0)) d4k) : gb118 ≠ gb101)); clear HO_124; clear BK101; clear HB; have HO_124 := n0_; have BK101 := n1_; have HB := n2_; have BK118 := n3_; have GW118 := n4_; have GE118 := n5_; have NB101_118 := n6_; have NB118_101 := n7_; clear n0_ n1_ n2_ n3_ n4_ n5_ n6_ n7_; clear hb hbox hg; have hnb62 := NB118_101.out; have hnc62 := NB101_118.out; have hcz63_0 : w61.cell? ⟨gb118, 0, none⟩ = some (.int .i64 0) := (blk_cell BK118.out 0).trans rfl; have hcz63_1 : w61.cell? ⟨gb118, 1, none⟩ = some (.int .i64 0) := (blk_cell BK118.out 1).trans rfl; have hfz63_0 := blk_frozen BK118.out 0; have hfz63_1 := blk_frozen BK118.out 1; have hcz64_0 : w61.cell? ⟨gb101, 0, none⟩ = some (.int .i64 a0_0) := (blk_cell BK101.out 0).trans rfl; have hcz64_1 : w61.cell? ⟨gb101, 1, none⟩ = some (.int .i64 a0_1) := (blk_cell BK101.out 1).trans rfl; have hcz64_2 : w61.cell? ⟨gb101, 2, none⟩ = some (.int .i64 a0_2) := (blk_cell BK101.out 2).trans rfl; have hcz64_3 : w61.cell? ⟨gb101, 3, none⟩ = some (.int .i64 a0_3) := (blk_cell BK101.out 3).trans rfl; have hcz64_4 : w61.cell? ⟨gb101, 4, none⟩ = some (.int .i64 a0_4) := (blk_cell BK101.out 4).trans rfl; have hfz64_0 := blk_frozen BK101.out 0; have hfz64_1 := blk_frozen BK101.out 1; have hfz64_2 := blk_frozen BK101.out 2; have hfz64_3 := blk_frozen BK101.out 3; have hfz64_4 := blk_frozen BK101.out 4) | ((with_reducible refine gate_callee (f := 28) rfl ?_); refine goesL_ (some 137) rfl rfl Try.func28 (by kernel_rfl) rfl #[.agg #[.int .i64 a0_0, .int .i64 a0_1, .int .i64 a0_2, .int .i64 a0_3, .int .i64 a0_4], .slice A1 l1.length c1, .slice A2 l2.length c2, .slice A3 l3.length c3, .int .i64 ((rd_T42 t112 x126_3).f0)] rfl d4i ?_; (with_reducible refine (power_LevelAt.calls k3 a0_0 a0_1 a0_2 a0_3 a0_4 _ _ l1 _ _ l2 _ _ l3 ((rd_T42 t112 x126_3).f0) t119 t120 _ ?side1 ?side2 ?side3 ?side4 ?side5 ?side6 A46.out).mono ?_); (case side1 => exact d4d); (case side2 => exact HC1.out); (case side3 => exact d4e); (case side4 => exact HC2.out); (case side5 => exact d4f); (case side6 => exact HC3.out); rintro e w65 ⟨rfl, hb⟩; refine ⟨_, rfl, ?_⟩; have n0_ := Aside0.mk (Kd.R_below d4c hb); have n1_ := Aside0.mk (blk_below (g := gb101) (o := .cells #[.int .i64 a0_0, .int .i64 a0_1, .int .i64 a0_2, .int .i64 a0_3, .int .i64 a0_4] 23 (0, 0)) d4b hb); have n2_ := Aside0.mk (blk_below (g := gb118) (o := .cells #[.int .i64 ((rd_T42 t112 x126_3).f0), .int .i64 ((rd_T42 t112 x126_3).f1)] 42 (0, 0)) d4a hb); have n3_ := Aside0.mk (below_step d4g hb); clear HO_124; clear BK101; clear BK118; clear HB; have HO_124 := n0_; have BK101 := n1_; have BK118 := n2_; have HB := n3_; clear n0_ n1_ n2_ n3_; (try clear hb)))
                   go_ret
                   exact ⟨d4n, d4g⟩
               · rw [if_neg c43] at H
                 have c43b0 : decide (x126_3 < (t112.length : Int)) = false := decide_eq_false c43
                 clear c43
                 replace H := bindS H; obtain ⟨t121, A66, H⟩ := H
                 obtain rfl := Option.some.inj H
                 go_wp2_with ((with_reducible refine gate_callee (f := 27) rfl ?_); refine goesL_ (some 149) rfl rfl Try.func27 (by kernel_rfl) rfl #[] rfl d4i ?_; (with_reducible refine (perigeelaw9_awake.calls k3  t121 _ A66.out).mono ?_); rintro e w67 ⟨rfl, hb⟩; refine ⟨_, rfl, ?_⟩; have n0_ := Aside0.mk (Kd.R_below d4l hb); have n1_ := Aside0.mk (blk_below (g := gb101) (o := .cells #[.int .i64 a0_0, .int .i64 a0_1, .int .i64 a0_2, .int .i64 a0_3, .int .i64 a0_4] 23 (0, 0)) d4k hb); have n2_ := Aside0.mk (below_step d4h hb); clear HO_124; clear BK101; clear HB; have HO_124 := n0_; have BK101 := n1_; have HB := n2_; clear n0_ n1_ n2_; (try clear hb))
                 go_ret
                 exact ⟨d4n, d4h⟩
   · rw [if_neg c11] at H
     have c11b0 : (t104 == 0) = false := beq_eq_false_iff_ne.mpr c11
     have c11b1 : (t104 != 0) = true := bne_iff_ne.mpr c11
     by_cases c68 : t103 = 0
     · rw [if_pos c68] at H
       have c68b0 : (t103 == 0) = true := beq_iff_eq.mpr c68
       have c68b1 : (t103 != 0) = false := bne_eq_false_iff_eq.mpr c68
       clear c68
       replace H := bindS H; obtain ⟨t105, A69, H⟩ := H
       obtain rfl := Option.some.inj H
       go_enter Try.func4, Try.ntmps4
       go_wp2_with (first | ((with_reducible refine gate_dst (N := 5) rfl ?_); (try (refine gate_guard (by rfl) ?_; dsimp only)); refine box_event ?hg (N := 5) ?hd (cs := #[.int .i64 a0_0, .int .i64 a0_1, .int .i64 a0_2, .int .i64 a0_3, .int .i64 a0_4]) (t := 23) ?hr ?_; (case hd => rfl); (case hg => rfl); (case hr => exact d4q); intro gb101 hg w70 hbox hb; have n0_ := Aside0.mk (below_step d4j hb); have n1_ := Aside0.mk (hbox); have n2_ := Aside0.mk ((by rw [hg]; exact (below_size d4j) : w.heap.size ≤ gb101)); have n3_ := Aside0.mk ((by rw [hg]; exact (below_size d4j) : w.heap.size ≤ gb101)); clear HB; have HB := n0_; have BK101 := n1_; have GW101 := n2_; have GE101 := n3_; clear n0_ n1_ n2_ n3_; clear hb hbox hg; have hcz71_0 : w70.cell? ⟨gb101, 0, none⟩ = some (.int .i64 a0_0) := (blk_cell BK101.out 0).trans rfl; have hcz71_1 : w70.cell? ⟨gb101, 1, none⟩ = some (.int .i64 a0_1) := (blk_cell BK101.out 1).trans rfl; have hcz71_2 : w70.cell? ⟨gb101, 2, none⟩ = some (.int .i64 a0_2) := (blk_cell BK101.out 2).trans rfl; have hcz71_3 : w70.cell? ⟨gb101, 3, none⟩ = some (.int .i64 a0_3) := (blk_cell BK101.out 3).trans rfl; have hcz71_4 : w70.cell? ⟨gb101, 4, none⟩ = some (.int .i64 a0_4) := (blk_cell BK101.out 4).trans rfl; have hfz71_0 := blk_frozen BK101.out 0; have hfz71_1 := blk_frozen BK101.out 1; have hfz71_2 := blk_frozen BK101.out 2; have hfz71_3 := blk_frozen BK101.out 3; have hfz71_4 := blk_frozen BK101.out 4) | ((with_reducible refine gate_callee (f := 28) rfl ?_); refine goesL_ (some 32) rfl rfl Try.func28 (by kernel_rfl) rfl #[.agg #[.int .i64 a0_0, .int .i64 a0_1, .int .i64 a0_2, .int .i64 a0_3, .int .i64 a0_4], .slice A1 l1.length c1, .slice A2 l2.length c2, .slice A3 l3.length c3, .int .i64 a4] rfl d4i ?_; (with_reducible refine (power_LevelAt.calls k a0_0 a0_1 a0_2 a0_3 a0_4 _ _ l1 _ _ l2 _ _ l3 a4 t103 t104 _ ?side1 ?side2 ?side3 ?side4 ?side5 ?side6 A10.out).mono ?_); (case side1 => exact d4r); (case side2 => exact HC1.out); (case side3 => exact d4s); (case side4 => exact HC2.out); (case side5 => exact d4t); (case side6 => exact HC3.out); rintro e w72 ⟨rfl, hb⟩; refine ⟨_, rfl, ?_⟩; have n0_ := Aside0.mk (blk_below (g := gb101) (o := .cells #[.int .i64 a0_0, .int .i64 a0_1, .int .i64 a0_2, .int .i64 a0_3, .int .i64 a0_4] 23 (0, 0)) d4k hb); have n1_ := Aside0.mk (below_step d4h hb); clear BK101; clear HB; have BK101 := n0_; have HB := n1_; clear n0_ n1_; (try clear hb)) | (go_at_call 27; (with_reducible refine (perigeelaw9_awake.calls k  t105 _ A69.out).mono ?_); rintro e w73 ⟨rfl, hb⟩; have n0_ := Aside0.mk (blk_below (g := gb101) (o := .cells #[.int .i64 a0_0, .int .i64 a0_1, .int .i64 a0_2, .int .i64 a0_3, .int .i64 a0_4] 23 (0, 0)) d4k hb); have n1_ := Aside0.mk (below_step d4h hb); clear BK101; clear HB; have BK101 := n0_; have HB := n1_; clear n0_ n1_; (try clear hb)))
       go_ret
       exact ⟨d4n, d4h⟩
     · rw [if_neg c68] at H
       have c68b0 : (t103 == 0) = false := beq_eq_false_iff_ne.mpr c68
       have c68b1 : (t103 != 0) = true := bne_iff_ne.mpr c68
       obtain rfl := Option.some.inj H
       go_enter Try.func4, Try.ntmps4
       go_wp2_with (first | ((with_reducible refine gate_dst (N := 5) rfl ?_); (try (refine gate_guard (by rfl) ?_; dsimp only)); refine box_event ?hg (N := 5) ?hd (cs := #[.int .i64 a0_0, .int .i64 a0_1, .int .i64 a0_2, .int .i64 a0_3, .int .i64 a0_4]) (t := 23) ?hr ?_; (case hd => rfl); (case hg => rfl); (case hr => exact d4q); intro gb101 hg w74 hbox hb; have n0_ := Aside0.mk (below_step d4j hb); have n1_ := Aside0.mk (hbox); have n2_ := Aside0.mk ((by rw [hg]; exact (below_size d4j) : w.heap.size ≤ gb101)); have n3_ := Aside0.mk ((by rw [hg]; exact (below_size d4j) : w.heap.size ≤ gb101)); clear HB; have HB := n0_; have BK101 := n1_; have GW101 := n2_; have GE101 := n3_; clear n0_ n1_ n2_ n3_; clear hb hbox hg; have hcz75_0 : w74.cell? ⟨gb101, 0, none⟩ = some (.int .i64 a0_0) := (blk_cell BK101.out 0).trans rfl; have hcz75_1 : w74.cell? ⟨gb101, 1, none⟩ = some (.int .i64 a0_1) := (blk_cell BK101.out 1).trans rfl; have hcz75_2 : w74.cell? ⟨gb101, 2, none⟩ = some (.int .i64 a0_2) := (blk_cell BK101.out 2).trans rfl; have hcz75_3 : w74.cell? ⟨gb101, 3, none⟩ = some (.int .i64 a0_3) := (blk_cell BK101.out 3).trans rfl; have hcz75_4 : w74.cell? ⟨gb101, 4, none⟩ = some (.int .i64 a0_4) := (blk_cell BK101.out 4).trans rfl; have hfz75_0 := blk_frozen BK101.out 0; have hfz75_1 := blk_frozen BK101.out 1; have hfz75_2 := blk_frozen BK101.out 2; have hfz75_3 := blk_frozen BK101.out 3; have hfz75_4 := blk_frozen BK101.out 4) | ((with_reducible refine gate_callee (f := 28) rfl ?_); refine goesL_ (some 32) rfl rfl Try.func28 (by kernel_rfl) rfl #[.agg #[.int .i64 a0_0, .int .i64 a0_1, .int .i64 a0_2, .int .i64 a0_3, .int .i64 a0_4], .slice A1 l1.length c1, .slice A2 l2.length c2, .slice A3 l3.length c3, .int .i64 a4] rfl d4i ?_; (with_reducible refine (power_LevelAt.calls k a0_0 a0_1 a0_2 a0_3 a0_4 _ _ l1 _ _ l2 _ _ l3 a4 t103 t104 _ ?side1 ?side2 ?side3 ?side4 ?side5 ?side6 A10.out).mono ?_); (case side1 => exact d4r); (case side2 => exact HC1.out); (case side3 => exact d4s); (case side4 => exact HC2.out); (case side5 => exact d4t); (case side6 => exact HC3.out); rintro e w76 ⟨rfl, hb⟩; refine ⟨_, rfl, ?_⟩; have n0_ := Aside0.mk (blk_below (g := gb101) (o := .cells #[.int .i64 a0_0, .int .i64 a0_1, .int .i64 a0_2, .int .i64 a0_3, .int .i64 a0_4] 23 (0, 0)) d4k hb); have n1_ := Aside0.mk (below_step d4h hb); clear BK101; clear HB; have BK101 := n0_; have HB := n1_; clear n0_ n1_; (try clear hb)))
       go_ret
       exact ⟨d4n, d4h⟩
end Go.Proofs.Ytplcdpiggpkppaa.Q
