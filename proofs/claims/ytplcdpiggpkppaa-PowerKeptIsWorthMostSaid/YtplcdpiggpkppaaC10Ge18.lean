-- Made by wip/tools/claimp.py of this session's texts; Lean checks it.
import Derived.Test.YtplcdpiggpkppaaC10Q0
import Derived.Test.YtplcdpiggpkppaaC10Ge13
import Derived.Test.YtplcdpiggpkppaaC10Ge15
import Derived.Test.YtplcdpiggpkppaaC10Ge3
import Derived.Test.YtplcdpiggpkppaaC10Ge8
namespace Go.Proofs.Ytplcdpiggpkppaa.Q
open Go.RowKit Go.Proofs.YtplcdpiggpkppaaW.PrintWords Go.Proofs.YtplcdpiggpkppaaW.PrintLast Go.Proofs.YtplcdpiggpkppaaW.PrintMore
attribute [local go_sem] max2_int min2_int max_two min_two max_three min_three max_four min_four
open Go.Proofs.Ytplcdpiggpkppaa.Base
attribute [local go_sem high] str_leq str_gtr str_geq
set_option linter.unusedVariables false
set_option linter.unusedSimpArgs false
mutual
def power_Kept.l0 : Nat → List (S72) → List (S76) → List (S47) → Int → List Int → Int → Int → Int → Int → Int → Int → Int → Int → Option (List Int × Int × Int)
  | 0, _, _, _, _, _, _, _, _, _, _, _, _, _ => none
  | k + 1, x1, x2, x3, x4, x14, x15, x38, x39, x102000, x102001, x102002, x102003, x102004 => if x39 < x38 then (power_Kept.l1 k x1 x2 x3 x4 x14 x15 x39 ([] : List (S47)) ([] : List Int) 0 x38 x39 x3 (x3.length : Int) 0 x102000 x102001 x102002 x102003 x102004) else (some (x14, mx x15 0, 0))
def power_Kept.l1 : Nat → List (S72) → List (S76) → List (S47) → Int → List Int → Int → Int → List (S47) → List Int → Int → Int → Int → List (S47) → Int → Int → Int → Int → Int → Int → Int → Option (List Int × Int × Int)
  | 0, _, _, _, _, _, _, _, _, _, _, _, _, _, _, _, _, _, _, _, _ => none
  | k + 1, x1, x2, x3, x4, x14, x15, x16, x17, x18, x19, x38, x39, x42, x43, x44, x102000, x102001, x102002, x102003, x102004 => if x44 < x43 then (if 0 ≤ x44 then (if x44 < (x42.length : Int) then (if (Go.bits .and .i64 (shr .i64 x16 x44) 1) = 1 then ((power_load.f k x2 ((rd_T47 x42 x44).f0)).bind fun bt105 => ((some (([(⟨(rd_T47 x42 x44).f0, (rd_T47 x42 x44).f1, (rd_T47 x42 x44).f2⟩ : S47)] : List (S47)) : List (S47))).bind fun y110 => (if x17.length + y110.length < 4398046511104 then ((some (([x44] : List Int) : List Int)).bind fun y116 => (if x18.length + y116.length < 17592186044416 then (power_Kept.l1 k x1 x2 x3 x4 x14 x15 x16 (x17 ++ y110) (x18 ++ y116) (wrap64 (x19 + bt105.2.2.1)) x38 x39 x42 x43 (wrap64 (x44 + 1)) x102000 x102001 x102002 x102003 x102004) else (none))) else (none)))) else (power_Kept.l1 k x1 x2 x3 x4 x14 x15 x16 x17 x18 x19 x38 x39 x42 x43 (wrap64 (x44 + 1)) x102000 x102001 x102002 x102003 x102004)) else (none)) else (none)) else (if x19 < x15 then (power_Kept.j2 k x1 x2 x3 x4 x14 x15 x17 x18 x19 x38 x39 true x102000 x102001 x102002 x102003 x102004) else (if x19 = x15 then (if (x18.length : Int) > (x14.length : Int) then (power_Kept.j2 k x1 x2 x3 x4 x14 x15 x17 x18 x19 x38 x39 true x102000 x102001 x102002 x102003 x102004) else (if (x18.length : Int) = (x14.length : Int) then ((slices_Compare_int_int.f k x18 x14).bind fun t122 => (power_Kept.j2 k x1 x2 x3 x4 x14 x15 x17 x18 x19 x38 x39 (decide (t122 ≥ 0)) x102000 x102001 x102002 x102003 x102004)) else (power_Kept.j2 k x1 x2 x3 x4 x14 x15 x17 x18 x19 x38 x39 false x102000 x102001 x102002 x102003 x102004))) else (power_Kept.j2 k x1 x2 x3 x4 x14 x15 x17 x18 x19 x38 x39 false x102000 x102001 x102002 x102003 x102004)))
def power_Kept.j2 : Nat → List (S72) → List (S76) → List (S47) → Int → List Int → Int → List (S47) → List Int → Int → Int → Int → Bool → Int → Int → Int → Int → Int → Option (List Int × Int × Int)
  | 0, _, _, _, _, _, _, _, _, _, _, _, _, _, _, _, _, _ => none
  | k + 1, x1, x2, x3, x4, x14, x15, x17, x18, x19, x38, x39, x101, x102000, x102001, x102002, x102003, x102004 => if x101 = true then (power_Kept.l0 k x1 x2 x3 x4 x14 x15 x38 (wrap64 (x39 + 1)) x102000 x102001 x102002 x102003 x102004) else ((power_empty.f k x102000 x102001 x102002 x102003 x102004 x1 x2 x17 x4).bind fun t123 => (if t123 < 0 then (power_Kept.l0 k x1 x2 x3 x4 x18 x19 x38 (wrap64 (x39 + 1)) x102000 x102001 x102002 x102003 x102004) else (power_Kept.l0 k x1 x2 x3 x4 x14 x15 x38 (wrap64 (x39 + 1)) x102000 x102001 x102002 x102003 x102004)))
end
def power_Kept.f (k : Nat) (a0_0 : Int) (a0_1 : Int) (a0_2 : Int) (a0_3 : Int) (a0_4 : Int) (l1 : List (S72)) (l2 : List (S76)) (l3 : List (S47)) (a4 : Int) : Option (List Int × Int × Int) := (power_check.f k a0_0 a0_1 a0_2 a0_3 a0_4 l1 l2 l3 a4).bind fun t102 => (if t102 = 0 then (if (l3.length : Int) > 12 then (some (([] : List Int), 0, 2)) else (power_Kept.l0 k l1 l2 l3 a4 ([] : List Int) (-1) (shl .i64 1 (l3.length : Int)) 0 a0_0 a0_1 a0_2 a0_3 a0_4)) else (some (([] : List Int), 0, t102)))
def power_Kept.T19 : Bool × List (List Nat × List Nat) := (true, [([], []), ([], []), ([1], [1]), ([0, 2], [0, 2]), ([], []), ([], []), ([5], [5]), ([4, 6, 3], [4, 6]), ([], []), ([], []), ([9], [9]), ([8, 10], [8, 10]), ([3, 7, 0, 1, 2, 3], [0, 3]), ([7, 12, 0, 1, 2, 3, 4, 5, 6, 7, 12], [4, 7]), ([11, 13, 0, 1, 2, 3, 4, 5, 6, 7, 8, 9, 10, 11, 12, 13], [8, 11])])
def power_Kept.B19 : List Nat := [0, 0, 2, 7, 0, 0, 32, 127, 0, 0, 512, 1792, 255, 4351, 16383]
theorem power_Kept.tab19 : rtab .any (opsOf Try.f49 19) = power_Kept.T19 := by kernel_rfl
theorem power_Kept.bits19 : waitsOk power_Kept.T19.2 power_Kept.B19 = true := by kernel_rfl
theorem d49a {p : Prop} (h : p := by repeat (first | (with_reducible first | exact HB.out | apply below_alloc | apply pw_below_drewN | apply below_drew1 | refine below_set ?_ GE101.out | refine below_set ?_ GE104.out | refine below_set ?_ GE109.out) | exact HB.out)) : p := h
theorem d49b {p : Prop} (h : p := by repeat (first | (with_reducible first | exact HB.out | apply below_alloc | apply pw_below_drewN | apply below_drew1 | refine below_set ?_ GE101.out | refine below_set ?_ GE104.out) | exact HB.out)) : p := h
theorem d49c {p : Prop} (h : p := by repeat (first | (with_reducible first | exact HB.out | apply below_alloc | apply pw_below_drewN | apply below_drew1 | refine below_set ?_ GE101.out) | exact HB.out)) : p := h
theorem d49d {p : Prop} (h : p := by (with_reducible repeat (first | apply Kd.R_alloc | apply Kd.R_drewN | apply Kd.R_drew)); exact Kd.R_mono HO112.out (fun _ hk => ⟨hk.2, hk.1.2⟩)) : p := h
theorem d49e {p : Prop} (h : p := by (with_reducible repeat (first | apply Kd.R_alloc | apply Kd.R_drewN | apply Kd.R_drew)); exact Kd.R_mono HO118.out (fun _ hk => ⟨hk.1.2, hk.2⟩)) : p := h
theorem d49f {p : Prop} (h : p := by (with_reducible repeat (first | apply Kd.R_alloc | apply Kd.R_drewN | apply Kd.R_drew)); exact Kd.R_mono HO_17.out (fun _ hk => ⟨hk.2, hk.1⟩)) : p := h
theorem d49g {p : Prop} (h : p := by (with_reducible repeat (first | apply Kd.R_alloc | apply Kd.R_drewN | apply Kd.R_drew)); exact Kd.R_mono HO112.out (fun _ hk => ⟨hk.2, hk.1⟩)) : p := h
theorem d49h {p : Prop} (h : p := by (with_reducible repeat (first | apply Kd.R_alloc | apply Kd.R_drewN | apply Kd.R_drew)); exact Kd.R_mono HO_14.out (fun _ hk => ⟨hk.2, hk.1⟩)) : p := h
theorem d49i {p : Prop} (h : p := by (with_reducible repeat (first | apply Kd.R_alloc | apply Kd.R_drewN | apply Kd.R_drew)); exact Kd.R_mono HO_18.out (fun _ hk => ⟨hk.2, hk.1⟩)) : p := h
theorem d49j {p : Prop} (h : p := by first | exact Kd.R_nil _ _ _ _ _ | exact Kd.N_nil _ _ _ _ _ | exact Kd.V_nil _ _ _ _ _ | exact Kd.Q_nil _ _ _ _ _ | exact Kd.S_nil _ _ _ _ _) : p := h
theorem d49k {p : Prop} (h : p := by (try simp only [List.map_toArray, List.map_cons, List.map_nil]); first | done | rfl | (simp only [List.length_drop, List.length_take]; rfl)) : p := h
theorem d49l {p : Prop} (h : p := by repeat (first | (with_reducible first | exact HB.out | apply below_alloc | apply pw_below_drewN | apply below_drew1) | exact HB.out)) : p := h
theorem d49m {p : Prop} (h : p := by (with_reducible repeat (first | refine blk_drewN ?_ _ | refine blk_drew ?_ | refine blk_alloc ?_ _)); exact BK101.out) : p := h
theorem d49n {p : Prop} (h : p := by (with_reducible repeat (first | refine blk_drewN ?_ _ | refine blk_drew ?_ | refine blk_alloc ?_ _)); exact BK104.out) : p := h
theorem d49o {p : Prop} (h : p := by (with_reducible repeat (first | refine blk_drewN ?_ _ | refine blk_drew ?_ | refine blk_alloc ?_ _)); exact BK109.out) : p := h
theorem d49p {p : Prop} (h : p := by (with_reducible repeat (first | apply Kd.R_alloc | apply Kd.R_drewN | apply Kd.R_drew)); exact HO_14.out) : p := h
theorem d49q {p : Prop} (h : p := by (with_reducible repeat (first | apply Kd.R_alloc | apply Kd.R_drewN | apply Kd.R_drew)); exact HO_17.out) : p := h
theorem d49r {p : Prop} (h : p := by (with_reducible repeat (first | apply Kd.R_alloc | apply Kd.R_drewN | apply Kd.R_drew)); exact HO_18.out) : p := h
theorem d49s {p : Prop} (h : p := by (with_reducible repeat (first | apply Kd.R_alloc | apply Kd.R_drewN | apply Kd.R_drew)); exact HO112.out) : p := h
theorem d49t {p : Prop} (h : p := by (with_reducible repeat (first | apply Kd.R_alloc | apply Kd.R_drewN | apply Kd.R_drew)); exact HO115.out) : p := h
theorem d49u {p : Prop} (h : p := by (with_reducible repeat (first | apply Kd.R_alloc | apply Kd.R_drewN | apply Kd.R_drew)); exact HO118.out) : p := h
theorem d49v {p : Prop} (h : p := by simp only [putAll, Act.put, List.setIfInBounds_toArray, List.set_cons_zero, List.set_cons_succ]) : p := h
theorem d49w {p : Prop} (h : p := by first | (with_reducible assumption) | assumption) : p := h
theorem d49x {p : Prop} (h : p := by first | rfl | (simp; done) | (simp [*]; done)) : p := h
theorem d49y {p : Prop} (h : p := by first | (go_simp; done) | (go_simp; rfl)) : p := h
theorem d49z {p : Prop} (h : p := by exact C_go (Kd.C_below HR1.out HB.out)) : p := h
theorem d49a1 {p : Prop} (h : p := by exact C_go (Kd.C_below HR2.out HB.out)) : p := h
set_option maxHeartbeats 8000000 in
set_option maxRecDepth 100000 in
theorem power_Kept.calls (k : Nat) (a0_0 : Int) (a0_1 : Int) (a0_2 : Int) (a0_3 : Int) (a0_4 : Int) (A1 : Option Addr) (c1 : Nat) (l1 : List (S72)) (A2 : Option Addr) (c2 : Nat) (l2 : List (S76)) (A3 : Option Addr) (c3 : Nat) (l3 : List (S47)) (a4 : Int) (r1 : List Int) (r2 : Int) (r3 : Int) (w : World) (hr1 : Kd.C k72 w A1 l1.length l1) (hc1 : l1.length ≤ c1) (hr2 : Kd.C k76 w A2 l2.length l2) (hc2 : l2.length ≤ c2) (hr3 : Kd.C k47 w A3 l3.length l3) (hc3 : l3.length ≤ c3) (h : power_Kept.f k a0_0 a0_1 a0_2 a0_3 a0_4 l1 l2 l3 a4 = some (r1, r2, r3)) :
 Calls Try.prog 49 #[.agg #[.int .i64 a0_0, .int .i64 a0_1, .int .i64 a0_2, .int .i64 a0_3, .int .i64 a0_4], .slice A1 l1.length c1, .slice A2 l2.length c2, .slice A3 l3.length c3, .int .i64 a4] w fun e w' => ∃ v0_ : Value, e = .returned (.tuple #[v0_, .int .i64 r2, .int .i64 r3]) ∧ Kd.R (Kd.int .i64) 3 w' w.heap.size (fun _ => True) v0_ r1 ∧ Below w.heap.size w w' := by
 have hu23 := Try.underlying23
 have hu47 := Try.underlying47
 have hu76 := Try.underlying76
 have HR1 := Aside0.mk hr1
 have HC1 := Aside0.mk hc1
 clear hr1 hc1
 have HR2 := Aside0.mk hr2
 have HC2 := Aside0.mk hc2
 clear hr2 hc2
 have HR3 := Aside0.mk hr3
 have HC3 := Aside0.mk hc3
 clear hr3 hc3
 have HB := Aside0.mk (Below.refl w.heap.size w)
 have H : ((power_check.f k a0_0 a0_1 a0_2 a0_3 a0_4 l1 l2 l3 a4).bind fun t102 => (if t102 = 0 then (if (l3.length : Int) > 12 then (some (([] : List Int), 0, 2)) else (power_Kept.l0 k l1 l2 l3 a4 ([] : List Int) (-1) (shl .i64 1 (l3.length : Int)) 0 a0_0 a0_1 a0_2 a0_3 a0_4)) else (some (([] : List Int), 0, t102)))) = some (r1, r2, r3) := h
 clear h
 replace H := bindS H; obtain ⟨t102, A6, H⟩ := H
 by_cases c7 : t102 = 0
 · rw [if_pos c7] at H
   have c7b0 : (t102 == 0) = true := beq_iff_eq.mpr c7
   have c7b1 : (t102 != 0) = false := bne_eq_false_iff_eq.mpr c7
   clear c7
   by_cases c8 : (l3.length : Int) > 12
   · rw [if_pos c8] at H
     have c8b0 : decide (12 < (l3.length : Int)) = true := decide_eq_true c8
     have c8b1 : decide (12 < l3.length) = true := decide_eq_true (by omega)
     clear c8
     simp only [Option.some.injEq, Prod.mk.injEq] at H
     obtain ⟨rfl, rfl, rfl⟩ := H
     go_enter Try.func49, Try.ntmps49
     go_wp2_with (first | ((with_reducible refine gate_dst (N := 5) rfl ?_); (try (refine gate_guard (by rfl) ?_; dsimp only)); refine box_event ?hg (N := 5) ?hd (cs := #[.int .i64 a0_0, .int .i64 a0_1, .int .i64 a0_2, .int .i64 a0_3, .int .i64 a0_4]) (t := 23) ?hr ?_; (case hd => rfl); (case hg => rfl); (case hr => exact d49y); intro gb101 hg w9 hbox hb; have n0_ := Aside0.mk (below_step d49l hb); have n1_ := Aside0.mk (hbox); have n2_ := Aside0.mk ((by rw [hg]; exact (below_size d49l) : w.heap.size ≤ gb101)); have n3_ := Aside0.mk ((by rw [hg]; exact (below_size d49l) : w.heap.size ≤ gb101)); clear HB; have HB := n0_; have BK101 := n1_; have GW101 := n2_; have GE101 := n3_; clear n0_ n1_ n2_ n3_; clear hb hbox hg; have hcz10_0 : w9.cell? ⟨gb101, 0, none⟩ = some (.int .i64 a0_0) := (blk_cell BK101.out 0).trans rfl; have hcz10_1 : w9.cell? ⟨gb101, 1, none⟩ = some (.int .i64 a0_1) := (blk_cell BK101.out 1).trans rfl; have hcz10_2 : w9.cell? ⟨gb101, 2, none⟩ = some (.int .i64 a0_2) := (blk_cell BK101.out 2).trans rfl; have hcz10_3 : w9.cell? ⟨gb101, 3, none⟩ = some (.int .i64 a0_3) := (blk_cell BK101.out 3).trans rfl; have hcz10_4 : w9.cell? ⟨gb101, 4, none⟩ = some (.int .i64 a0_4) := (blk_cell BK101.out 4).trans rfl; have hfz10_0 := blk_frozen BK101.out 0; have hfz10_1 := blk_frozen BK101.out 1; have hfz10_2 := blk_frozen BK101.out 2; have hfz10_3 := blk_frozen BK101.out 3; have hfz10_4 := blk_frozen BK101.out 4) | ((with_reducible refine gate_callee (f := 66) rfl ?_); refine goesL_ (some 29) rfl rfl Try.func66 (by kernel_rfl) rfl #[.agg #[.int .i64 a0_0, .int .i64 a0_1, .int .i64 a0_2, .int .i64 a0_3, .int .i64 a0_4], .slice A1 l1.length c1, .slice A2 l2.length c2, .slice A3 l3.length c3, .int .i64 a4] rfl d49k ?_; (with_reducible refine (power_check.calls k a0_0 a0_1 a0_2 a0_3 a0_4 _ _ l1 _ _ l2 _ _ l3 a4 t102 _ ?side1 ?side2 ?side3 ?side4 ?side5 ?side6 A6.out).mono ?_); (case side1 => exact d49z); (case side2 => exact HC1.out); (case side3 => exact d49a1); (case side4 => exact HC2.out); (case side5 => exact C_go (Kd.C_below HR3.out HB.out)); (case side6 => exact HC3.out); rintro e w11 ⟨rfl, hb⟩; refine ⟨_, rfl, ?_⟩; have n0_ := Aside0.mk (blk_below (g := gb101) (o := .cells #[.int .i64 a0_0, .int .i64 a0_1, .int .i64 a0_2, .int .i64 a0_3, .int .i64 a0_4] 23 (0, 0)) d49m hb); have n1_ := Aside0.mk (below_step d49c hb); clear BK101; clear HB; have BK101 := n0_; have HB := n1_; clear n0_ n1_; (try clear hb)))
     go_ret3
     exact ⟨_, by first | rfl | (simp [errW_none, errW_some] <;> rfl) | (simp [*, errW_none, errW_some] <;> rfl), d49j, d49c⟩
   · rw [if_neg c8] at H
     have c8b0 : decide (12 < (l3.length : Int)) = false := decide_eq_false c8
     have c8b1 : decide (12 < l3.length) = false := decide_eq_false (by omega)
     clear c8
     obtain ⟨ji12, hji12⟩ : ∃ j_ : Int, (shl .i64 1 (l3.length : Int)) = j_ := ⟨_, rfl⟩
     replace H : (power_Kept.l0 k l1 l2 l3 a4 ([] : List Int) (-1) ji12 0 a0_0 a0_1 a0_2 a0_3 a0_4) = some (r1, r2, r3) := by first | (rw [hji12] at H; exact H) | (simp only [hji12] at H ⊢; exact H)
     (try rw [hji12] at A6)
     have hji12_ : (IntKind.i64.wrap (1 * 2 ^ min (l3.length : Int).toNat 64)) = ji12 := hji12
     have hji12z : (l3.length : Int) ≤ 64 → (IntKind.i64.wrap (1 * 2 ^ (l3.length : Int).toNat)) = ji12 := shl_small hji12
     have hji12p : (IntKind.i64.wrap (1 * 2 ^ min l3.length 64)) = ji12 := hji12_
     have hji12q : (l3.length : Int) ≤ 64 → (IntKind.i64.wrap (1 * 2 ^ l3.length)) = ji12 := hji12z
     have hji12r : (IntKind.i64.wrap (2 ^ min l3.length 64)) = ji12 := by have h_ := hji12p; rw [Int.one_mul] at h_; exact h_
     have hji12s : (l3.length : Int) ≤ 64 → (IntKind.i64.wrap (2 ^ l3.length)) = ji12 := fun hle_ => by have h_ := hji12q hle_; rw [Int.one_mul] at h_; exact h_
     have hji12u : (IntKind.i64.wrap (2 ^ min (l3.length : Int).toNat 64)) = ji12 := by have h_ := hji12_; rw [Int.one_mul] at h_; exact h_
     have hji12v : (l3.length : Int) ≤ 64 → (IntKind.i64.wrap (2 ^ (l3.length : Int).toNat)) = ji12 := fun hle_ => by have h_ := hji12z hle_; rw [Int.one_mul] at h_; exact h_
     have hji12y : (wrap64 (1 * 2 ^ min (l3.length : Int).toNat 64)) = ji12 := (i64_w _).symm.trans hji12_
     have hji12x : (l3.length : Int) ≤ 64 → (wrap64 (1 * 2 ^ (l3.length : Int).toNat)) = ji12 := fun h_ => (i64_w _).symm.trans (hji12z h_)
     have H' := Aside0.mk H
     clear H
     go_enter Try.func49, Try.ntmps49
     go_wp2_with (first | ((with_reducible refine gate_dst (N := 5) rfl ?_); (try (refine gate_guard (by rfl) ?_; dsimp only)); refine box_event ?hg (N := 5) ?hd (cs := #[.int .i64 a0_0, .int .i64 a0_1, .int .i64 a0_2, .int .i64 a0_3, .int .i64 a0_4]) (t := 23) ?hr ?_; (case hd => rfl); (case hg => rfl); (case hr => exact d49y); intro gb101 hg w13 hbox hb; have n0_ := Aside0.mk (below_step d49l hb); have n1_ := Aside0.mk (hbox); have n2_ := Aside0.mk ((by rw [hg]; exact (below_size d49l) : w.heap.size ≤ gb101)); have n3_ := Aside0.mk ((by rw [hg]; exact (below_size d49l) : w.heap.size ≤ gb101)); clear HB; have HB := n0_; have BK101 := n1_; have GW101 := n2_; have GE101 := n3_; clear n0_ n1_ n2_ n3_; clear hb hbox hg; have hcz14_0 : w13.cell? ⟨gb101, 0, none⟩ = some (.int .i64 a0_0) := (blk_cell BK101.out 0).trans rfl; have hcz14_1 : w13.cell? ⟨gb101, 1, none⟩ = some (.int .i64 a0_1) := (blk_cell BK101.out 1).trans rfl; have hcz14_2 : w13.cell? ⟨gb101, 2, none⟩ = some (.int .i64 a0_2) := (blk_cell BK101.out 2).trans rfl; have hcz14_3 : w13.cell? ⟨gb101, 3, none⟩ = some (.int .i64 a0_3) := (blk_cell BK101.out 3).trans rfl; have hcz14_4 : w13.cell? ⟨gb101, 4, none⟩ = some (.int .i64 a0_4) := (blk_cell BK101.out 4).trans rfl; have hfz14_0 := blk_frozen BK101.out 0; have hfz14_1 := blk_frozen BK101.out 1; have hfz14_2 := blk_frozen BK101.out 2; have hfz14_3 := blk_frozen BK101.out 3; have hfz14_4 := blk_frozen BK101.out 4) | ((with_reducible refine gate_callee (f := 66) rfl ?_); refine goesL_ (some 29) rfl rfl Try.func66 (by kernel_rfl) rfl #[.agg #[.int .i64 a0_0, .int .i64 a0_1, .int .i64 a0_2, .int .i64 a0_3, .int .i64 a0_4], .slice A1 l1.length c1, .slice A2 l2.length c2, .slice A3 l3.length c3, .int .i64 a4] rfl d49k ?_; (with_reducible refine (power_check.calls k a0_0 a0_1 a0_2 a0_3 a0_4 _ _ l1 _ _ l2 _ _ l3 a4 t102 _ ?side1 ?side2 ?side3 ?side4 ?side5 ?side6 A6.out).mono ?_); (case side1 => exact d49z); (case side2 => exact HC1.out); (case side3 => exact d49a1); (case side4 => exact HC2.out); (case side5 => exact C_go (Kd.C_below HR3.out HB.out)); (case side6 => exact HC3.out); rintro e w15 ⟨rfl, hb⟩; refine ⟨_, rfl, ?_⟩; have n0_ := Aside0.mk (blk_below (g := gb101) (o := .cells #[.int .i64 a0_0, .int .i64 a0_1, .int .i64 a0_2, .int .i64 a0_3, .int .i64 a0_4] 23 (0, 0)) d49m hb); have n1_ := Aside0.mk (below_step d49c hb); clear BK101; clear HB; have BK101 := n0_; have HB := n1_; clear n0_ n1_; (try clear hb)))
     go_loopg [14, 15, 39] k (fun kq v14 v15 v39 w' => ∃ (x14_1 : List Int) (x15_1 : Int) (x39_1 : Int), v15 = .int .i64 x15_1 ∧ v39 = .int .i64 x39_1 ∧ Aside0 (power_Kept.l0 kq l1 l2 l3 a4 x14_1 x15_1 ji12 x39_1 a0_0 a0_1 a0_2 a0_3 a0_4 = some (r1, r2, r3)) ∧ Aside0 (kq ≤ k) ∧ Aside0 (Kd.R (Kd.int .i64) 3 w' w.heap.size (fun _ => True) v14 x14_1) ∧ Aside0 (w'.heap[gb101]? = some (.cells #[.int .i64 a0_0, .int .i64 a0_1, .int .i64 a0_2, .int .i64 a0_3, .int .i64 a0_4] 23 (0, 0))) ∧ Aside0 (Below w.heap.size w w'))
     case atStart => exact ⟨(([] : List Int)), ((-1)), (0), d49x, d49x, H', ⟨Nat.le_refl _⟩, ⟨d49j⟩, ⟨d49m⟩, ⟨d49c⟩⟩
     case round =>
      clear H'
      try clear c7b0
      try clear c7b1
      try clear c8b0
      try clear c8b1
      try clear hcz14_0
      try clear hcz14_1
      try clear hcz14_2
      try clear hcz14_3
      try clear hcz14_4
      try clear hfz14_0
      try clear hfz14_1
      try clear hfz14_2
      try clear hfz14_3
      try clear hfz14_4
      obtain ⟨x14_1, x15_1, x39_1, rfl, rfl, HA, HK1, HO_14, BK101, HB⟩ := hrel
      cases gk with
      | zero => exact absurd HA.out (by simp [power_Kept.l0])
      | succ k1 =>
       have H := HA.out
       clear HA
       simp only [power_Kept.l0] at H
       by_cases c16 : x39_1 < ji12
       · rw [if_pos c16] at H
         have c16b0 : decide (x39_1 < ji12) = true := decide_eq_true c16
         clear c16
         have H' := Aside0.mk H
         clear H
         go_wp2
         go_loopg [17, 18, 19, 44] k1 (fun kq v17 v18 v19 v44 w' => ∃ (x17_2 : List (S47)) (x18_2 : List Int) (x19_2 : Int) (x44_2 : Int), v19 = .int .i64 x19_2 ∧ v44 = .int .i64 x44_2 ∧ Aside0 (power_Kept.l1 kq l1 l2 l3 a4 x14_1 x15_1 x39_1 x17_2 x18_2 x19_2 ji12 x39_1 l3 (l3.length : Int) x44_2 a0_0 a0_1 a0_2 a0_3 a0_4 = some (r1, r2, r3)) ∧ Aside0 (kq ≤ k1) ∧ Aside0 (Kd.R (Kd.int .i64) 3 w' w.heap.size (fun k_ => some k_ ≠ (v18 : Value).ownBlock) u14 x14_1) ∧ Aside0 (Kd.R k47 47 w' w.heap.size (fun _ => True) v17 x17_2) ∧ Aside0 (Kd.R (Kd.int .i64) 3 w' w.heap.size (fun k_ => some k_ ≠ (u14 : Value).ownBlock) v18 x18_2) ∧ Aside0 (w'.heap[gb101]? = some (.cells #[.int .i64 a0_0, .int .i64 a0_1, .int .i64 a0_2, .int .i64 a0_3, .int .i64 a0_4] 23 (0, 0))) ∧ Aside0 (Below w.heap.size w w'))
         case atStart => exact ⟨(([] : List (S47))), (([] : List Int)), (0), (0), d49x, d49x, H', ⟨Nat.le_refl _⟩, ⟨by (with_reducible repeat (first | apply Kd.R_alloc | apply Kd.R_drewN | apply Kd.R_drew)); exact Kd.R_mono HO_14.out (fun _ hk => (by simp [Value.ownBlock]))⟩, ⟨d49j⟩, ⟨d49j⟩, ⟨d49m⟩, ⟨d49c⟩⟩
         case round =>
          clear H'
          try clear c16b0
          obtain ⟨x17_2, x18_2, x19_2, x44_2, rfl, rfl, HA, HK2, HO_14, HO_17, HO_18, BK101, HB⟩ := hrel
          cases gk with
          | zero => exact absurd HA.out (by simp [power_Kept.l1])
          | succ k2 =>
           have H := HA.out
           clear HA
           simp only [power_Kept.l1] at H
           by_cases c17 : x44_2 < (l3.length : Int)
           · rw [if_pos c17] at H
             have c17b0 : decide (x44_2 < (l3.length : Int)) = true := decide_eq_true c17
             clear c17
             replace H := guardT H; obtain ⟨c18, H⟩ := H
             have c18b0 : decide (0 ≤ x44_2) = true := decide_eq_true c18
             clear c18
             replace H := guardT H; obtain ⟨c19, H⟩ := H
             have c19b0 : decide (x44_2 < (l3.length : Int)) = true := decide_eq_true c19
             clear c19
             have c20b0 := eq_true (of_decide_eq_true d49w : 0 ≤ x44_2)
             obtain ⟨ji21, hji21⟩ : ∃ j_ : Int, (shr .i64 x39_1 x44_2) = j_ := ⟨_, rfl⟩
             replace H : (if (Go.bits .and .i64 (ji21) 1) = 1 then ((power_load.f k2 l2 ((rd_T47 l3 x44_2).f0)).bind fun bt105 => ((some (([(⟨(rd_T47 l3 x44_2).f0, (rd_T47 l3 x44_2).f1, (rd_T47 l3 x44_2).f2⟩ : S47)] : List (S47)) : List (S47))).bind fun y110 => (if x17_2.length + y110.length < 4398046511104 then ((some (([x44_2] : List Int) : List Int)).bind fun y116 => (if x18_2.length + y116.length < 17592186044416 then (power_Kept.l1 k2 l1 l2 l3 a4 x14_1 x15_1 x39_1 (x17_2 ++ y110) (x18_2 ++ y116) (wrap64 (x19_2 + bt105.2.2.1)) ji12 x39_1 l3 (l3.length : Int) (wrap64 (x44_2 + 1)) a0_0 a0_1 a0_2 a0_3 a0_4) else (none))) else (none)))) else (power_Kept.l1 k2 l1 l2 l3 a4 x14_1 x15_1 x39_1 x17_2 x18_2 x19_2 ji12 x39_1 l3 (l3.length : Int) (wrap64 (x44_2 + 1)) a0_0 a0_1 a0_2 a0_3 a0_4)) = some (r1, r2, r3) := by first | (rw [hji21] at H; exact H) | (simp only [hji21] at H ⊢; exact H)
             have hji21_ : (x39_1 / 2 ^ min x44_2.toNat 64) = ji21 := hji21
             have hji21z : x44_2 ≤ 64 → (x39_1 / 2 ^ x44_2.toNat) = ji21 := shr_small hji21
             by_cases c22 : (Go.bits .and .i64 (ji21) 1) = 1
             · rw [if_pos c22] at H
               have c22b0 : ((Go.bits .and .i64 (ji21) 1) == 1) = true := beq_iff_eq.mpr c22
               have c22b1 : ((Go.bits .and .i64 (ji21) 1) != 1) = false := bne_eq_false_iff_eq.mpr c22
               clear c22
               replace H := bindS H; obtain ⟨⟨t105, t106, t107, t108⟩, A23, H⟩ := H
               obtain ⟨y110, hy110⟩ : ∃ y_ : List (S47), y_ = (([(⟨(rd_T47 l3 x44_2).f0, (rd_T47 l3 x44_2).f1, (rd_T47 l3 x44_2).f2⟩ : S47)] : List (S47))) := ⟨_, rfl⟩
               replace H : (if x17_2.length + y110.length < 4398046511104 then ((some (([x44_2] : List Int) : List Int)).bind fun y116 => (if x18_2.length + y116.length < 17592186044416 then (power_Kept.l1 k2 l1 l2 l3 a4 x14_1 x15_1 x39_1 (x17_2 ++ y110) (x18_2 ++ y116) (wrap64 (x19_2 + t107)) ji12 x39_1 l3 (l3.length : Int) (wrap64 (x44_2 + 1)) a0_0 a0_1 a0_2 a0_3 a0_4) else (none))) else (none)) = some (r1, r2, r3) := by first | (rw [hy110]; with_reducible exact H) | (have H2_ := (Option.bind_some _ _).symm.trans H; rw [hy110]; with_reducible exact H2_) | (have H2_ := (Option.bind_some _ _).symm.trans H; with_reducible exact H2_) | with_reducible exact H | (rw [hy110]; exact H) | exact H
               have Ny110 := Aside0.mk hy110
               clear hy110
               replace H := guardT H; obtain ⟨c24, H⟩ := H
               have LMc24 := Aside0.mk c24
               clear c24
               obtain ⟨y113, hy113⟩ : ∃ y_ : List (S47), y_ = (x17_2 ++ y110) := ⟨_, rfl⟩
               replace H : ((some (([x44_2] : List Int) : List Int)).bind fun y116 => (if x18_2.length + y116.length < 17592186044416 then (power_Kept.l1 k2 l1 l2 l3 a4 x14_1 x15_1 x39_1 y113 (x18_2 ++ y116) (wrap64 (x19_2 + t107)) ji12 x39_1 l3 (l3.length : Int) (wrap64 (x44_2 + 1)) a0_0 a0_1 a0_2 a0_3 a0_4) else (none))) = some (r1, r2, r3) := by first | (rw [hy113]; with_reducible exact H) | (have H2_ := (Option.bind_some _ _).symm.trans H; rw [hy113]; with_reducible exact H2_) | (have H2_ := (Option.bind_some _ _).symm.trans H; with_reducible exact H2_) | with_reducible exact H | (rw [hy113]; exact H) | exact H
               have Ny113 := Aside0.mk hy113
               clear hy113
               obtain ⟨y116, hy116⟩ : ∃ y_ : List Int, y_ = (([x44_2] : List Int)) := ⟨_, rfl⟩
               replace H : (if x18_2.length + y116.length < 17592186044416 then (power_Kept.l1 k2 l1 l2 l3 a4 x14_1 x15_1 x39_1 y113 (x18_2 ++ y116) (wrap64 (x19_2 + t107)) ji12 x39_1 l3 (l3.length : Int) (wrap64 (x44_2 + 1)) a0_0 a0_1 a0_2 a0_3 a0_4) else (none)) = some (r1, r2, r3) := by first | (rw [hy116]; with_reducible exact H) | (have H2_ := (Option.bind_some _ _).symm.trans H; rw [hy116]; with_reducible exact H2_) | (have H2_ := (Option.bind_some _ _).symm.trans H; with_reducible exact H2_) | with_reducible exact H | (rw [hy116]; exact H) | exact H
               have Ny116 := Aside0.mk hy116
               clear hy116
               replace H := guardT H; obtain ⟨c25, H⟩ := H
               have LMc25 := Aside0.mk c25
               clear c25
               obtain ⟨y119, hy119⟩ : ∃ y_ : List Int, y_ = (x18_2 ++ y116) := ⟨_, rfl⟩
               replace H : (power_Kept.l1 k2 l1 l2 l3 a4 x14_1 x15_1 x39_1 y113 y119 (wrap64 (x19_2 + t107)) ji12 x39_1 l3 (l3.length : Int) (wrap64 (x44_2 + 1)) a0_0 a0_1 a0_2 a0_3 a0_4) = some (r1, r2, r3) := by first | (rw [hy119]; with_reducible exact H) | (have H2_ := (Option.bind_some _ _).symm.trans H; rw [hy119]; with_reducible exact H2_) | (have H2_ := (Option.bind_some _ _).symm.trans H; with_reducible exact H2_) | with_reducible exact H | (rw [hy119]; exact H) | exact H
               have Ny119 := Aside0.mk hy119
               clear hy119
               have H' := Aside0.mk H
               clear H
               have p103 : 0 ≤ (x44_2 : Int) := of_decide_eq_true d49w
               have q103 : x44_2 < (l3.length : Int) := of_decide_eq_true d49w
               obtain ⟨ad103, e103, hx103_0, hx103_1, hx103_2⟩ := at_T47 HR3.out x44_2 p103 q103
               cases e103
               replace hx103_0 := cellB HB.out hx103_0
               replace hx103_1 := cellB HB.out hx103_1
               replace hx103_2 := cellB HB.out hx103_2
               replace p103 := eq_true p103
               replace q103 := eq_true q103
               try go_wp2_with (first | ((with_reducible refine gate_dst (N := 21) rfl ?_); (try (refine gate_guard (by rfl) ?_; dsimp only)); refine box_event ?hg (N := 21) ?hd (cs := #[.string (⟨#[]⟩ : ByteArray), .int .i64 0, .int .i64 0]) (t := 47) ?hr ?_; (case hd => rfl); (case hg => rfl); (case hr => exact d49y); intro gb104 hg w26 hbox hb; have n0_ := Aside0.mk (Kd.R_below d49p hb); have n1_ := Aside0.mk (Kd.R_below (Kd.R_elderB d49q gb104 (Nat.le_of_eq hg.symm)) hb); have n2_ := Aside0.mk (Kd.R_below d49r hb); have n3_ := Aside0.mk (blk_below (g := gb101) (o := .cells #[.int .i64 a0_0, .int .i64 a0_1, .int .i64 a0_2, .int .i64 a0_3, .int .i64 a0_4] 23 (0, 0)) d49m hb); have n4_ := Aside0.mk (below_step d49c hb); have n5_ := Aside0.mk (hbox); have n6_ := Aside0.mk ((by rw [hg]; exact (below_size d49c) : w.heap.size ≤ gb104)); have n7_ := Aside0.mk ((by rw [hg]; exact (below_size d49c) : w.heap.size ≤ gb104)); have n8_ := Aside0.mk ((by rw [hg]; exact Nat.ne_of_lt (blk_lt (g := gb101) (o := .cells #[.int .i64 a0_0, .int .i64 a0_1, .int .i64 a0_2, .int .i64 a0_3, .int .i64 a0_4] 23 (0, 0)) d49m) : gb101 ≠ gb104)); have n9_ := Aside0.mk ((by rw [hg]; exact Nat.ne_of_gt (blk_lt (g := gb101) (o := .cells #[.int .i64 a0_0, .int .i64 a0_1, .int .i64 a0_2, .int .i64 a0_3, .int .i64 a0_4] 23 (0, 0)) d49m) : gb104 ≠ gb101)); clear HO_14; clear HO_17; clear HO_18; clear BK101; clear HB; have HO_14 := n0_; have HO_17 := n1_; have HO_18 := n2_; have BK101 := n3_; have HB := n4_; have BK104 := n5_; have GW104 := n6_; have GE104 := n7_; have NB101_104 := n8_; have NB104_101 := n9_; clear n0_ n1_ n2_ n3_ n4_ n5_ n6_ n7_ n8_ n9_; clear hb hbox hg; have hnb27 := NB104_101.out; have hnc27 := NB101_104.out; have hcz28_0 : w26.cell? ⟨gb104, 0, none⟩ = some (.string (⟨#[]⟩ : ByteArray)) := (blk_cell BK104.out 0).trans rfl; have hcz28_1 : w26.cell? ⟨gb104, 1, none⟩ = some (.int .i64 0) := (blk_cell BK104.out 1).trans rfl; have hcz28_2 : w26.cell? ⟨gb104, 2, none⟩ = some (.int .i64 0) := (blk_cell BK104.out 2).trans rfl; have hfz28_0 := blk_frozen BK104.out 0; have hfz28_1 := blk_frozen BK104.out 1; have hfz28_2 := blk_frozen BK104.out 2) | ((with_reducible refine gate_callee (f := 58) rfl ?_); refine goesL_ (some 58) rfl rfl Try.func58 (by kernel_rfl) rfl #[.slice A2 l2.length c2, .string ((rd_T47 l3 x44_2).f0)] rfl d49k ?_; (with_reducible refine (power_load.calls k2 _ _ l2 ((rd_T47 l3 x44_2).f0) t105 t106 t107 t108 _ ?side1 ?side2 A23.out).mono ?_); (case side1 => exact Kd.C_below HR2.out d49b); (case side2 => exact HC2.out); rintro e w29 ⟨rfl, hb⟩; refine ⟨_, rfl, ?_⟩; have n0_ := Aside0.mk (Kd.R_below (by (with_reducible repeat (first | apply Kd.R_alloc | apply Kd.R_drewN | apply Kd.R_drew)); exact (Kd.R_mono (Kd.R_far (p := ⟨gb104, 2, none⟩) (Kd.R_far (p := ⟨gb104, 1, none⟩) (Kd.R_far (p := ⟨gb104, 0, none⟩) (Kd.R_types HO_14.out BK104.out (by decide)) (fun _ hk => hk.2) (.string ((rd_T47 l3 x44_2).f0))) (fun _ hk => hk.2) (.int .i64 ((rd_T47 l3 x44_2).f1))) (fun _ hk => hk.2) (.int .i64 ((rd_T47 l3 x44_2).f2))) (fun _ h_ => h_.1))) hb); have n1_ := Aside0.mk (Kd.R_below (by (with_reducible repeat (first | apply Kd.R_alloc | apply Kd.R_drewN | apply Kd.R_drew)); exact (Kd.R_mono (Kd.R_far (p := ⟨gb104, 2, none⟩) (Kd.R_far (p := ⟨gb104, 1, none⟩) (Kd.R_far (p := ⟨gb104, 0, none⟩) (Kd.R_mono HO_17.out (fun k_ hk => (⟨hk, hk.2⟩ : _ ∧ k_ ≠ gb104))) (fun _ hk => hk.2) (.string ((rd_T47 l3 x44_2).f0))) (fun _ hk => hk.2) (.int .i64 ((rd_T47 l3 x44_2).f1))) (fun _ hk => hk.2) (.int .i64 ((rd_T47 l3 x44_2).f2))) (fun _ h_ => h_.1))) hb); have n2_ := Aside0.mk (Kd.R_below (by (with_reducible repeat (first | apply Kd.R_alloc | apply Kd.R_drewN | apply Kd.R_drew)); exact (Kd.R_mono (Kd.R_far (p := ⟨gb104, 2, none⟩) (Kd.R_far (p := ⟨gb104, 1, none⟩) (Kd.R_far (p := ⟨gb104, 0, none⟩) (Kd.R_types HO_18.out BK104.out (by decide)) (fun _ hk => hk.2) (.string ((rd_T47 l3 x44_2).f0))) (fun _ hk => hk.2) (.int .i64 ((rd_T47 l3 x44_2).f1))) (fun _ hk => hk.2) (.int .i64 ((rd_T47 l3 x44_2).f2))) (fun _ h_ => h_.1))) hb); have n3_ := Aside0.mk (blk_below (g := gb101) (o := .cells #[.int .i64 a0_0, .int .i64 a0_1, .int .i64 a0_2, .int .i64 a0_3, .int .i64 a0_4] 23 (0, 0)) (by (with_reducible repeat (first | refine blk_drewN ?_ _ | refine blk_drew ?_ | refine blk_alloc ?_ _)); refine blk_far ?_ NB101_104.out _; (with_reducible repeat (first | refine blk_drewN ?_ _ | refine blk_drew ?_ | refine blk_alloc ?_ _)); refine blk_far ?_ NB101_104.out _; (with_reducible repeat (first | refine blk_drewN ?_ _ | refine blk_drew ?_ | refine blk_alloc ?_ _)); refine blk_far ?_ NB101_104.out _; (with_reducible repeat (first | refine blk_drewN ?_ _ | refine blk_drew ?_ | refine blk_alloc ?_ _)); exact BK101.out) hb); have n4_ := Aside0.mk (blk_below (g := gb104) (o := .cells #[.string ((rd_T47 l3 x44_2).f0), .int .i64 ((rd_T47 l3 x44_2).f1), .int .i64 ((rd_T47 l3 x44_2).f2)] 47 (0, 0)) (by (with_reducible repeat (first | refine blk_drewN ?_ _ | refine blk_drew ?_ | refine blk_alloc ?_ _)); refine blk_put (cs := #[.string ((rd_T47 l3 x44_2).f0), .int .i64 ((rd_T47 l3 x44_2).f1), .int .i64 0]) ?_ 2 _ rfl; (with_reducible repeat (first | refine blk_drewN ?_ _ | refine blk_drew ?_ | refine blk_alloc ?_ _)); refine blk_put (cs := #[.string ((rd_T47 l3 x44_2).f0), .int .i64 0, .int .i64 0]) ?_ 1 _ rfl; (with_reducible repeat (first | refine blk_drewN ?_ _ | refine blk_drew ?_ | refine blk_alloc ?_ _)); refine blk_put (cs := #[.string (⟨#[]⟩ : ByteArray), .int .i64 0, .int .i64 0]) ?_ 0 _ rfl; (with_reducible repeat (first | refine blk_drewN ?_ _ | refine blk_drew ?_ | refine blk_alloc ?_ _)); exact BK104.out) hb); have n5_ := Aside0.mk (below_step d49b hb); clear HO_14; clear HO_17; clear HO_18; clear BK101; clear BK104; clear HB; have HO_14 := n0_; have HO_17 := n1_; have HO_18 := n2_; have BK101 := n3_; have BK104 := n4_; have HB := n5_; clear n0_ n1_ n2_ n3_ n4_ n5_; (try clear hb)) | ((with_reducible refine gate_dst (N := 22) rfl ?_); (try (refine gate_guard (by rfl) ?_; dsimp only)); refine box_event ?hg (N := 22) ?hd (cs := #[.string (⟨#[]⟩ : ByteArray), .int .i64 0, .int .i64 0]) (t := 76) ?hr ?_; (case hd => rfl); (case hg => rfl); (case hr => exact d49y); intro gb109 hg w30 hbox hb; have n0_ := Aside0.mk (Kd.R_below d49p hb); have n1_ := Aside0.mk (Kd.R_below d49q hb); have n2_ := Aside0.mk (Kd.R_below d49r hb); have n3_ := Aside0.mk (blk_below (g := gb101) (o := .cells #[.int .i64 a0_0, .int .i64 a0_1, .int .i64 a0_2, .int .i64 a0_3, .int .i64 a0_4] 23 (0, 0)) d49m hb); have n4_ := Aside0.mk (blk_below (g := gb104) (o := .cells #[.string ((rd_T47 l3 x44_2).f0), .int .i64 ((rd_T47 l3 x44_2).f1), .int .i64 ((rd_T47 l3 x44_2).f2)] 47 (0, 0)) d49n hb); have n5_ := Aside0.mk (below_step d49b hb); have n6_ := Aside0.mk (hbox); have n7_ := Aside0.mk ((by rw [hg]; exact (below_size d49b) : w.heap.size ≤ gb109)); have n8_ := Aside0.mk ((by rw [hg]; exact (below_size d49b) : w.heap.size ≤ gb109)); have n9_ := Aside0.mk ((by rw [hg]; exact Nat.ne_of_lt (blk_lt (g := gb101) (o := .cells #[.int .i64 a0_0, .int .i64 a0_1, .int .i64 a0_2, .int .i64 a0_3, .int .i64 a0_4] 23 (0, 0)) d49m) : gb101 ≠ gb109)); have n10_ := Aside0.mk ((by rw [hg]; exact Nat.ne_of_gt (blk_lt (g := gb101) (o := .cells #[.int .i64 a0_0, .int .i64 a0_1, .int .i64 a0_2, .int .i64 a0_3, .int .i64 a0_4] 23 (0, 0)) d49m) : gb109 ≠ gb101)); have n11_ := Aside0.mk ((by rw [hg]; exact Nat.ne_of_lt (blk_lt (g := gb104) (o := .cells #[.string ((rd_T47 l3 x44_2).f0), .int .i64 ((rd_T47 l3 x44_2).f1), .int .i64 ((rd_T47 l3 x44_2).f2)] 47 (0, 0)) d49n) : gb104 ≠ gb109)); have n12_ := Aside0.mk ((by rw [hg]; exact Nat.ne_of_gt (blk_lt (g := gb104) (o := .cells #[.string ((rd_T47 l3 x44_2).f0), .int .i64 ((rd_T47 l3 x44_2).f1), .int .i64 ((rd_T47 l3 x44_2).f2)] 47 (0, 0)) d49n) : gb109 ≠ gb104)); clear HO_14; clear HO_17; clear HO_18; clear BK101; clear BK104; clear HB; have HO_14 := n0_; have HO_17 := n1_; have HO_18 := n2_; have BK101 := n3_; have BK104 := n4_; have HB := n5_; have BK109 := n6_; have GW109 := n7_; have GE109 := n8_; have NB101_109 := n9_; have NB109_101 := n10_; have NB104_109 := n11_; have NB109_104 := n12_; clear n0_ n1_ n2_ n3_ n4_ n5_ n6_ n7_ n8_ n9_ n10_ n11_ n12_; clear hb hbox hg; have hnb31 := NB109_101.out; have hnc31 := NB101_109.out; have hnb32 := NB109_104.out; have hnc32 := NB104_109.out; have hcz33_0 : w30.cell? ⟨gb109, 0, none⟩ = some (.string (⟨#[]⟩ : ByteArray)) := (blk_cell BK109.out 0).trans rfl; have hcz33_1 : w30.cell? ⟨gb109, 1, none⟩ = some (.int .i64 0) := (blk_cell BK109.out 1).trans rfl; have hcz33_2 : w30.cell? ⟨gb109, 2, none⟩ = some (.int .i64 0) := (blk_cell BK109.out 2).trans rfl; have hfz33_0 := blk_frozen BK109.out 0; have hfz33_1 := blk_frozen BK109.out 1; have hfz33_2 := blk_frozen BK109.out 2; obtain ⟨Ao34, co34, eo34⟩ := Kd.R_slice HO_17.out; subst eo34; obtain ⟨Ao35, co35, eo35⟩ := Kd.R_slice HO_18.out; subst eo35))
               have n0_ : Aside0 (Kd.R (Kd.int .i64) 3 (((w30.setCell ⟨gb109, 0, none⟩ (.string t105)).setCell ⟨gb109, 1, none⟩ (.int .i64 t106)).setCell ⟨gb109, 2, none⟩ (.int .i64 t107)) w.heap.size (fun k_ => some k_ ≠ (.slice Ao35 x18_2.length co35 : Value).ownBlock) u14 x14_1) := ⟨by (with_reducible repeat (first | apply Kd.R_alloc | apply Kd.R_drewN | apply Kd.R_drew)); exact Kd.R_mono (Kd.R_far (p := ⟨gb109, 2, none⟩) (Kd.R_far (p := ⟨gb109, 1, none⟩) (Kd.R_far (p := ⟨gb109, 0, none⟩) (Kd.R_types HO_14.out BK109.out (by decide)) (fun _ hk => hk.2) (.string t105)) (fun _ hk => hk.2) (.int .i64 t106)) (fun _ hk => hk.2) (.int .i64 t107)) (fun _ hk => hk.1)⟩
               have n1_ : Aside0 (Kd.R k47 47 (((w30.setCell ⟨gb109, 0, none⟩ (.string t105)).setCell ⟨gb109, 1, none⟩ (.int .i64 t106)).setCell ⟨gb109, 2, none⟩ (.int .i64 t107)) w.heap.size (fun k_ => k_ ≠ gb104) (.slice Ao34 x17_2.length co34) x17_2) := ⟨by (with_reducible repeat (first | apply Kd.R_alloc | apply Kd.R_drewN | apply Kd.R_drew)); exact Kd.R_mono (Kd.R_far (p := ⟨gb109, 2, none⟩) (Kd.R_far (p := ⟨gb109, 1, none⟩) (Kd.R_far (p := ⟨gb109, 0, none⟩) (Kd.R_types HO_17.out BK109.out (by decide)) (fun _ hk => hk.2) (.string t105)) (fun _ hk => hk.2) (.int .i64 t106)) (fun _ hk => hk.2) (.int .i64 t107)) (fun _ hk => hk.1.2)⟩
               have n2_ : Aside0 (Kd.R (Kd.int .i64) 3 (((w30.setCell ⟨gb109, 0, none⟩ (.string t105)).setCell ⟨gb109, 1, none⟩ (.int .i64 t106)).setCell ⟨gb109, 2, none⟩ (.int .i64 t107)) w.heap.size (fun k_ => some k_ ≠ (u14 : Value).ownBlock) (.slice Ao35 x18_2.length co35) x18_2) := ⟨by (with_reducible repeat (first | apply Kd.R_alloc | apply Kd.R_drewN | apply Kd.R_drew)); exact Kd.R_mono (Kd.R_far (p := ⟨gb109, 2, none⟩) (Kd.R_far (p := ⟨gb109, 1, none⟩) (Kd.R_far (p := ⟨gb109, 0, none⟩) (Kd.R_types HO_18.out BK109.out (by decide)) (fun _ hk => hk.2) (.string t105)) (fun _ hk => hk.2) (.int .i64 t106)) (fun _ hk => hk.2) (.int .i64 t107)) (fun _ hk => hk.1)⟩
               have n3_ : Aside0 ((((w30.setCell ⟨gb109, 0, none⟩ (.string t105)).setCell ⟨gb109, 1, none⟩ (.int .i64 t106)).setCell ⟨gb109, 2, none⟩ (.int .i64 t107)).heap[gb101]? = some (.cells #[.int .i64 a0_0, .int .i64 a0_1, .int .i64 a0_2, .int .i64 a0_3, .int .i64 a0_4] 23 (0, 0))) := ⟨by (with_reducible repeat (first | refine blk_drewN ?_ _ | refine blk_drew ?_ | refine blk_alloc ?_ _)); refine blk_far ?_ NB101_109.out _; (with_reducible repeat (first | refine blk_drewN ?_ _ | refine blk_drew ?_ | refine blk_alloc ?_ _)); refine blk_far ?_ NB101_109.out _; (with_reducible repeat (first | refine blk_drewN ?_ _ | refine blk_drew ?_ | refine blk_alloc ?_ _)); refine blk_far ?_ NB101_109.out _; (with_reducible repeat (first | refine blk_drewN ?_ _ | refine blk_drew ?_ | refine blk_alloc ?_ _)); exact BK101.out⟩
               have n4_ : Aside0 ((((w30.setCell ⟨gb109, 0, none⟩ (.string t105)).setCell ⟨gb109, 1, none⟩ (.int .i64 t106)).setCell ⟨gb109, 2, none⟩ (.int .i64 t107)).heap[gb104]? = some (.cells #[.string ((rd_T47 l3 x44_2).f0), .int .i64 ((rd_T47 l3 x44_2).f1), .int .i64 ((rd_T47 l3 x44_2).f2)] 47 (0, 0))) := ⟨by (with_reducible repeat (first | refine blk_drewN ?_ _ | refine blk_drew ?_ | refine blk_alloc ?_ _)); refine blk_far ?_ NB104_109.out _; (with_reducible repeat (first | refine blk_drewN ?_ _ | refine blk_drew ?_ | refine blk_alloc ?_ _)); refine blk_far ?_ NB104_109.out _; (with_reducible repeat (first | refine blk_drewN ?_ _ | refine blk_drew ?_ | refine blk_alloc ?_ _)); refine blk_far ?_ NB104_109.out _; (with_reducible repeat (first | refine blk_drewN ?_ _ | refine blk_drew ?_ | refine blk_alloc ?_ _)); exact BK104.out⟩
               have n5_ : Aside0 ((((w30.setCell ⟨gb109, 0, none⟩ (.string t105)).setCell ⟨gb109, 1, none⟩ (.int .i64 t106)).setCell ⟨gb109, 2, none⟩ (.int .i64 t107)).heap[gb109]? = some (.cells #[.string t105, .int .i64 t106, .int .i64 t107] 76 (0, 0))) := ⟨by (with_reducible repeat (first | refine blk_drewN ?_ _ | refine blk_drew ?_ | refine blk_alloc ?_ _)); refine blk_put (cs := #[.string t105, .int .i64 t106, .int .i64 0]) ?_ 2 _ rfl; (with_reducible repeat (first | refine blk_drewN ?_ _ | refine blk_drew ?_ | refine blk_alloc ?_ _)); refine blk_put (cs := #[.string t105, .int .i64 0, .int .i64 0]) ?_ 1 _ rfl; (with_reducible repeat (first | refine blk_drewN ?_ _ | refine blk_drew ?_ | refine blk_alloc ?_ _)); refine blk_put (cs := #[.string (⟨#[]⟩ : ByteArray), .int .i64 0, .int .i64 0]) ?_ 0 _ rfl; (with_reducible repeat (first | refine blk_drewN ?_ _ | refine blk_drew ?_ | refine blk_alloc ?_ _)); exact BK109.out⟩
               have n6_ : Aside0 (Below w.heap.size w (((w30.setCell ⟨gb109, 0, none⟩ (.string t105)).setCell ⟨gb109, 1, none⟩ (.int .i64 t106)).setCell ⟨gb109, 2, none⟩ (.int .i64 t107))) := ⟨d49a⟩
               (try clear HO_14)
               (try clear HO_17)
               (try clear HO_18)
               (try clear BK101)
               (try clear BK104)
               (try clear BK109)
               (try clear HB)
               generalize (((w30.setCell ⟨gb109, 0, none⟩ (.string t105)).setCell ⟨gb109, 1, none⟩ (.int .i64 t106)).setCell ⟨gb109, 2, none⟩ (.int .i64 t107)) = w36 at n0_ n1_ n2_ n3_ n4_ n5_ n6_ ⊢
               have HO_14 := n0_
               have HO_17 := n1_
               have HO_18 := n2_
               have BK101 := n3_
               have BK104 := n4_
               have BK109 := n5_
               have HB := n6_
               clear n0_ n1_ n2_ n3_ n4_ n5_ n6_
               have n0_ := Aside0.mk (Kd.R_drew HO_14.out)
               have n1_ := Aside0.mk (Kd.R_drew HO_17.out)
               have n2_ := Aside0.mk (Kd.R_drew HO_18.out)
               have n3_ := Aside0.mk (blk_drew BK101.out)
               have n4_ := Aside0.mk (blk_drew BK104.out)
               have n5_ := Aside0.mk (blk_drew BK109.out)
               have n6_ := Aside0.mk (below_drew1 HB.out)
               clear HO_14
               clear HO_17
               clear HO_18
               clear BK101
               clear BK104
               clear BK109
               clear HB
               have HO_14 := n0_
               have HO_17 := n1_
               have HO_18 := n2_
               have BK101 := n3_
               have BK104 := n4_
               have BK109 := n5_
               have HB := n6_
               clear n0_ n1_ n2_ n3_ n4_ n5_ n6_
               refine start_ (n := 15) (S := fun w' => w'.cell? ⟨gb104, 0, none⟩ = some (.string ((rd_T47 l3 x44_2).f0)) ∧ w'.cell? ⟨gb104, 1, none⟩ = some (.int .i64 ((rd_T47 l3 x44_2).f1)) ∧ w'.cell? ⟨gb104, 2, none⟩ = some (.int .i64 ((rd_T47 l3 x44_2).f2)) ∧ w'.cell? ⟨gb109, 0, none⟩ = some (.string t105) ∧ w'.cell? ⟨gb109, 1, none⟩ = some (.int .i64 t106) ∧ w'.cell? ⟨gb109, 2, none⟩ = some (.int .i64 t107)) (ds := []) #[false, false, false, false, false, false, false, false, false, false, false, false, false, false, false] (by kernel_rfl) rfl rfl ⟨(blk_cell BK104.out 0).trans rfl, (blk_cell BK104.out 1).trans rfl, (blk_cell BK104.out 2).trans rfl, (blk_cell BK109.out 0).trans rfl, (blk_cell BK109.out 1).trans rfl, (blk_cell BK109.out 2).trans rfl⟩ (fun hHeld => ?_); refine with_tabW power_Kept.tab19 power_Kept.bits19 (fun HT_ HW_ => ?_)
               generalize w36.drew = w37 at HO_14 HO_17 HO_18 BK101 BK104 BK109 HB hHeld ⊢
               refine pure_ (i := 0) (N := some 61) (v := ?_) (a' := ?_) #[true, false, false, false, false, false, false, false, false, false, false, false, false, false, false] rfl rfl (any_of HT_.out (by kernel_rfl)) (fun _ _ _ h => h) (Or.inl ⟨by rfl, ?_⟩) ?_ ?_
               rotate_left
               · intro w'
                 go_simp
                 with_reducible rfl
               rotate_left
               · simp only [Act.put, List.setIfInBounds_toArray, List.set_cons_zero, List.set_cons_succ, i64_w, i32_w]
                 rfl
               refine pure_ (i := 4) (N := some 65) (v := ?_) (a' := ?_) #[true, false, false, false, true, false, false, false, false, false, false, false, false, false, false] rfl rfl (any_of HT_.out (by kernel_rfl)) (fun _ _ _ h => h) (Or.inl ⟨by rfl, ?_⟩) ?_ ?_
               rotate_left
               · intro w'
                 go_simp
                 with_reducible rfl
               rotate_left
               · simp only [Act.put, List.setIfInBounds_toArray, List.set_cons_zero, List.set_cons_succ, i64_w, i32_w]
                 rfl
               refine pure_ (i := 5) (N := some 66) (v := ?_) (a' := ?_) #[true, false, false, false, true, true, false, false, false, false, false, false, false, false, false] rfl rfl (any_of HT_.out (by kernel_rfl)) (fun _ _ _ h => h) (Or.inl ⟨by rfl, ?_⟩) ?_ ?_
               rotate_left
               · intro w'
                 go_simp
                 with_reducible rfl
               rotate_left
               · simp only [Act.put, List.setIfInBounds_toArray, List.set_cons_zero, List.set_cons_succ, i64_w, i32_w]
                 rfl
               refine pure_ (i := 8) (N := some 69) (v := ?_) (a' := ?_) #[true, false, false, false, true, true, false, false, true, false, false, false, false, false, false] rfl rfl (any_of HT_.out (by kernel_rfl)) (fun _ _ _ h => h) (Or.inl ⟨by rfl, ?_⟩) ?_ ?_
               rotate_left
               · intro w'
                 go_simp
                 with_reducible rfl
               rotate_left
               · simp only [Act.put, List.setIfInBounds_toArray, List.set_cons_zero, List.set_cons_succ, i64_w, i32_w]
                 rfl
               refine pure_ (i := 9) (N := some 70) (v := ?_) (a' := ?_) #[true, false, false, false, true, true, false, false, true, true, false, false, false, false, false] rfl rfl (any_of HT_.out (by kernel_rfl)) (fun _ _ _ h => h) (Or.inl ⟨by rfl, ?_⟩) ?_ ?_
               rotate_left
               · intro w'
                 go_simp
                 with_reducible rfl
               rotate_left
               · simp only [Act.put, List.setIfInBounds_toArray, List.set_cons_zero, List.set_cons_succ, i64_w, i32_w]
                 rfl
               refine take_ (i := 1) (N := some 62) (v := ?_) (a' := ?_) #[true, true, false, false, true, true, false, false, true, true, false, false, false, false, false] rfl rfl (take_ofW HT_.out HW_.out (by kernel_rfl)) (fun _ _ _ h => h) (Or.inl ⟨by rfl, ?_⟩) hHeld ?_ ?_
               rotate_left
               · rintro w' ⟨s0, s1, s2, s3, s4, s5⟩
                 go_simp
                 with_reducible rfl
               rotate_left
               · simp only [Act.put, List.setIfInBounds_toArray, List.set_cons_zero, List.set_cons_succ, i64_w, i32_w]
                 rfl
               refine take_ (i := 10) (N := some 71) (v := ?_) (a' := ?_) #[true, true, false, false, true, true, false, false, true, true, true, false, false, false, false] rfl rfl (take_ofW HT_.out HW_.out (by kernel_rfl)) (fun _ _ _ h => h) (Or.inl ⟨by rfl, ?_⟩) hHeld ?_ ?_
               rotate_left
               · rintro w' ⟨s0, s1, s2, s3, s4, s5⟩
                 go_simp
                 with_reducible rfl
               rotate_left
               · simp only [Act.put, List.setIfInBounds_toArray, List.set_cons_zero, List.set_cons_succ, i64_w, i32_w]
                 rfl
               refine pure_ (i := 11) (N := some 72) (v := ?_) (a' := ?_) #[true, true, false, false, true, true, false, false, true, true, true, true, false, false, false] rfl rfl (any_of HT_.out (by kernel_rfl)) (fun _ _ _ h => h) (Or.inl ⟨by rfl, ?_⟩) ?_ ?_
               rotate_left
               · intro w'
                 go_simp
                 with_reducible rfl
               rotate_left
               · simp only [Act.put, List.setIfInBounds_toArray, List.set_cons_zero, List.set_cons_succ, i64_w, i32_w]
                 rfl
               refine join_ (σ := Value × Value × Value) 4 #[true, true, true, true, true, true, true, false, true, true, true, true, false, false, false] (fun s_ => [(63, s_.1), (64, s_.2.1), (67, s_.2.2)]) (fun s_ w' => (w'.cell? ⟨gb104, 0, none⟩ = some (.string ((rd_T47 l3 x44_2).f0)) ∧ w'.cell? ⟨gb104, 1, none⟩ = some (.int .i64 ((rd_T47 l3 x44_2).f1)) ∧ w'.cell? ⟨gb104, 2, none⟩ = some (.int .i64 ((rd_T47 l3 x44_2).f2)) ∧ w'.cell? ⟨gb109, 0, none⟩ = some (.string t105) ∧ w'.cell? ⟨gb109, 1, none⟩ = some (.int .i64 t106) ∧ w'.cell? ⟨gb109, 2, none⟩ = some (.int .i64 t107)) ∧ (Kd.R k47 47 w' w.heap.size (fun k_ => some k_ ≠ (s_.2.1 : Value).ownBlock ∧ k_ ≠ gb104) s_.1 y110) ∧ (Kd.R k47 47 w' w.heap.size (fun k_ => some k_ ≠ (s_.1 : Value).ownBlock ∧ k_ ≠ gb104) s_.2.1 y113) ∧ (Kd.R (Kd.int .i64) 3 w' w.heap.size (fun k_ => some k_ ≠ (u14 : Value).ownBlock ∧ some k_ ≠ (.slice Ao35 x18_2.length co35 : Value).ownBlock) s_.2.2 y116) ∧ (Kd.R (Kd.int .i64) 3 w' w.heap.size (fun k_ => some k_ ≠ (s_.2.2 : Value).ownBlock ∧ some k_ ≠ (.slice Ao35 x18_2.length co35 : Value).ownBlock) u14 x14_1) ∧ (Kd.R (Kd.int .i64) 3 w' w.heap.size (fun k_ => some k_ ≠ (s_.2.2 : Value).ownBlock ∧ some k_ ≠ (u14 : Value).ownBlock) (.slice Ao35 x18_2.length co35) x18_2) ∧ (w'.heap[gb101]? = some (.cells #[.int .i64 a0_0, .int .i64 a0_1, .int .i64 a0_2, .int .i64 a0_3, .int .i64 a0_4] 23 (0, 0))) ∧ (w'.heap[gb104]? = some (.cells #[.string ((rd_T47 l3 x44_2).f0), .int .i64 ((rd_T47 l3 x44_2).f1), .int .i64 ((rd_T47 l3 x44_2).f2)] 47 (0, 0))) ∧ (w'.heap[gb109]? = some (.cells #[.string t105, .int .i64 t106, .int .i64 t107] 76 (0, 0))) ∧ (Below w.heap.size w w')) ?_ ?_
               rotate_left
               · intro hCont
                 refine two_ (i := 2) (j := 6) (Ni := some 63) (Nj := some 67) #[true, true, true, false, true, true, false, false, true, true, true, true, false, false, false] #[true, true, false, false, true, true, true, false, true, true, true, true, false, false, false] rfl rfl rfl rfl (two_of HT_.out (by kernel_rfl)) (by decide) (by decide) (fun K hK => ?_) (fun K hK => ?_)
                 · skip
                   refine Kd.R_lit_step k47 _ 47 ?hg (N := 63) ?hd (xs := ([(⟨(rd_T47 l3 x44_2).f0, (rd_T47 l3 x44_2).f1, (rd_T47 l3 x44_2).f2⟩ : S47)] : List (S47))) (inner := [.string ((rd_T47 l3 x44_2).f0), .int .i64 ((rd_T47 l3 x44_2).f1), .int .i64 ((rd_T47 l3 x44_2).f2)]) (ok := fun _ => True) (okp := fun _ => True) ?hr ?hp (fun _ hk => hk) trivial (Below.refl _ _) (Nat.le_refl _) (by simp) ?_; (case hd => rfl); (case hg => rfl); (case hr => exact d49y); (case hp => exact (Reps.c3 (show Kd.M k47 _ _ _ (⟨(rd_T47 l3 x44_2).f0, (rd_T47 l3 x44_2).f1, (rd_T47 l3 x44_2).f2⟩ : S47) [.string ((rd_T47 l3 x44_2).f0), .int .i64 ((rd_T47 l3 x44_2).f1), .int .i64 ((rd_T47 l3 x44_2).f2)] from (k47_mkM _ _ _ (⟨(rd_T47 l3 x44_2).f0, (rd_T47 l3 x44_2).f1, (rd_T47 l3 x44_2).f2⟩ : S47) )) (Reps.none _ _)))
                   intro v111 w38 ho39 hb hg_ hnew_
                   clear hg_ hnew_
                   (first | rw [← Ny110.out] at ho39 | (simp only [Int.reduceToNat] at ho39; rw [← Ny110.out] at ho39))
                   have n0_ := Aside0.mk (Kd.R_below d49p hb)
                   have n1_ := Aside0.mk (Kd.R_elder' d49q (Kd.R_base ho39) hb)
                   have n2_ := Aside0.mk (Kd.R_below d49r hb)
                   have n3_ := Aside0.mk (Kd.R_lower (Kd.R_newB (Kd.R_new' ho39 (Kd.R_lt d49q)) (g := gb104) (o := .cells #[.string ((rd_T47 l3 x44_2).f0), .int .i64 ((rd_T47 l3 x44_2).f1), .int .i64 ((rd_T47 l3 x44_2).f2)] 47 (0, 0)) d49n) (below_size d49a))
                   have n4_ := Aside0.mk (blk_below (g := gb101) (o := .cells #[.int .i64 a0_0, .int .i64 a0_1, .int .i64 a0_2, .int .i64 a0_3, .int .i64 a0_4] 23 (0, 0)) d49m hb)
                   have n5_ := Aside0.mk (blk_below (g := gb104) (o := .cells #[.string ((rd_T47 l3 x44_2).f0), .int .i64 ((rd_T47 l3 x44_2).f1), .int .i64 ((rd_T47 l3 x44_2).f2)] 47 (0, 0)) d49n hb)
                   have n6_ := Aside0.mk (blk_below (g := gb109) (o := .cells #[.string t105, .int .i64 t106, .int .i64 t107] 76 (0, 0)) d49o hb)
                   have n7_ := Aside0.mk (below_step d49a hb)
                   clear HO_14
                   clear HO_17
                   clear HO_18
                   clear BK101
                   clear BK104
                   clear BK109
                   clear HB
                   have HO_14 := n0_
                   have HO_17 := n1_
                   have HO_18 := n2_
                   have HO112 := n3_
                   have BK101 := n4_
                   have BK104 := n5_
                   have BK109 := n6_
                   have HB := n7_
                   clear n0_ n1_ n2_ n3_ n4_ n5_ n6_ n7_
                   clear hb ho39
                   obtain ⟨Ao41, co41, eo41⟩ := Kd.R_slice HO112.out
                   (first | subst eo41 | (injection eo41 with f1_ f2_ f3_; have f4_ := f1_.symm; have f5_ := f3_.symm; clear f1_ f2_ f3_; subst f4_; subst f5_))
                   refine hK.out _ _ ⟨(blk_cell BK104.out 0).trans rfl, (blk_cell BK104.out 1).trans rfl, (blk_cell BK104.out 2).trans rfl, (blk_cell BK109.out 0).trans rfl, (blk_cell BK109.out 1).trans rfl, (blk_cell BK109.out 2).trans rfl⟩ (fun hHeld => ?_)
                   clear hK K
                   refine norm_ (a' := ?_) ?_ ?_
                   rotate_left
                   · show Act.put _ (some 63) _ = _
                     simp only [Act.put, List.setIfInBounds_toArray, List.set_cons_zero, List.set_cons_succ, i64_w, i32_w]
                     rfl
                   refine two_ (i := 3) (j := 6) (Ni := some 64) (Nj := some 67) #[true, true, true, true, true, true, false, false, true, true, true, true, false, false, false] #[true, true, true, false, true, true, true, false, true, true, true, true, false, false, false] rfl rfl rfl rfl (two_of HT_.out (by kernel_rfl)) (by decide) (by decide) (fun K hK => ?_) (fun K hK => ?_)
                   · skip
                     refine Kd.R_append_rows_step k47 (w0 := w) w.heap.size (by rfl) (.tmp 61) (.tmp 63) 26 47 (.agg #[(.string ⟨#[]⟩), (.int .i64 0), (.int .i64 0)]) 32 rfl Try.underlying26 info47 rfl (by decide) (by omega) (.slice Ao34 x17_2.length co34) x17_2 y110 _ _ _ (fun k_ => some k_ ≠ (.slice Ao41 y110.length co41 : Value).ownBlock ∧ k_ ≠ gb104) (fun _ => False) rfl rfl ?aO ?aR (fun _ _ h => h) (fun _ h => h.elim) ?aF ?aB ?aS ?aL ?_
                     (case aR => exact C_go (Kd.R_reads' HO112.out).2.2)
                     (case aB => exact d49a)
                     (case aF => exact (fun k_ hk => ⟨Kd.fresh' (Kd.R_lt d49s) k_ hk, Kd.freshB (g := gb104) (o := .cells #[.string ((rd_T47 l3 x44_2).f0), .int .i64 ((rd_T47 l3 x44_2).f1), .int .i64 ((rd_T47 l3 x44_2).f2)] 47 (0, 0)) d49n k_ hk⟩))
                     (case aO => exact d49f)
                     (case aS => exact (below_size d49a))
                     (case aL => have := LMc24.out; omega)
                     intro v114 w40 ho hb hg hat
                     rw [← Ny113.out] at ho
                     have n0_ := Aside0.mk (Kd.R_over' d49p (Kd.R_typed d49q) (by decide) hg)
                     have n1_ := Aside0.mk (Kd.R_over' d49r (Kd.R_typed d49q) (by decide) hg)
                     have n2_ := Aside0.mk (blk_grown (g := gb101) (o := .cells #[.int .i64 a0_0, .int .i64 a0_1, .int .i64 a0_2, .int .i64 a0_3, .int .i64 a0_4] 23 (0, 0)) d49m hg (Kd.R_ne HO_17.out BK101.out (by decide)))
                     have n3_ := Aside0.mk (blk_grown (g := gb104) (o := .cells #[.string ((rd_T47 l3 x44_2).f0), .int .i64 ((rd_T47 l3 x44_2).f1), .int .i64 ((rd_T47 l3 x44_2).f2)] 47 (0, 0)) d49n hg (Kd.R_away HO_17.out (fun _ hk => hk.1)))
                     have n4_ := Aside0.mk (blk_grown (g := gb109) (o := .cells #[.string t105, .int .i64 t106, .int .i64 t107] 76 (0, 0)) d49o hg (Kd.R_ne HO_17.out BK109.out (by decide)))
                     have n5_ := Aside0.mk (Kd.R_after (ok := (fun k_ => k_ ≠ gb104)) d49d hg hat)
                     have n6_ := Aside0.mk (hb)
                     have n7_ := Aside0.mk (ho)
                     clear HO_14
                     clear HO_18
                     clear BK101
                     clear BK104
                     clear BK109
                     clear HO112
                     clear HB
                     clear HO_17
                     have HO_14 := n0_
                     have HO_18 := n1_
                     have BK101 := n2_
                     have BK104 := n3_
                     have BK109 := n4_
                     have HO112 := n5_
                     have HB := n6_
                     have HO115 := n7_
                     clear n0_ n1_ n2_ n3_ n4_ n5_ n6_ n7_
                     clear ho hb hg hat
                     refine hK.out _ _ ⟨(blk_cell BK104.out 0).trans rfl, (blk_cell BK104.out 1).trans rfl, (blk_cell BK104.out 2).trans rfl, (blk_cell BK109.out 0).trans rfl, (blk_cell BK109.out 1).trans rfl, (blk_cell BK109.out 2).trans rfl⟩ (fun hHeld => ?_)
                     clear hK K
                     refine norm_ (a' := ?_) ?_ ?_
                     rotate_left
                     · show Act.put _ (some 64) _ = _
                       simp only [Act.put, List.setIfInBounds_toArray, List.set_cons_zero, List.set_cons_succ, i64_w, i32_w]
                       rfl
                     refine one_ (i := 6) (N := some 67) #[true, true, true, true, true, true, true, false, true, true, true, true, false, false, false] rfl rfl (one_of HT_.out (by kernel_rfl)) (by decide) (fun K hK => ?_)
                     refine Kd.R_lit_step (Kd.int .i64) _ 3 ?hg (N := 67) ?hd (xs := ([x44_2] : List Int)) (inner := [.int .i64 x44_2]) (ok := fun _ => True) (okp := fun _ => True) ?hr ?hp (fun _ hk => hk) trivial (Below.refl _ _) (Nat.le_refl _) (by simp) ?_; (case hd => rfl); (case hg => rfl); (case hr => exact d49y); (case hp => exact (Reps.one (show Kd.M (Kd.int .i64) _ _ _ x44_2 [.int .i64 x44_2] from rfl) (Reps.none _ _)))
                     intro v117 w42 ho43 hb hg_ hnew_
                     clear hg_ hnew_
                     (first | rw [← Ny116.out] at ho43 | (simp only [Int.reduceToNat] at ho43; rw [← Ny116.out] at ho43))
                     have n0_ := Aside0.mk (Kd.R_elder' d49p (Kd.R_base ho43) hb)
                     have n1_ := Aside0.mk (Kd.R_elder' d49r (Kd.R_base ho43) hb)
                     have n2_ := Aside0.mk (Kd.R_below d49s hb)
                     have n3_ := Aside0.mk (Kd.R_below d49t hb)
                     have n4_ := Aside0.mk (Kd.R_lower (Kd.R_new' (Kd.R_new' ho43 (Kd.R_lt d49p)) (Kd.R_lt d49r)) (below_size d49a))
                     have n5_ := Aside0.mk (blk_below (g := gb101) (o := .cells #[.int .i64 a0_0, .int .i64 a0_1, .int .i64 a0_2, .int .i64 a0_3, .int .i64 a0_4] 23 (0, 0)) d49m hb)
                     have n6_ := Aside0.mk (blk_below (g := gb104) (o := .cells #[.string ((rd_T47 l3 x44_2).f0), .int .i64 ((rd_T47 l3 x44_2).f1), .int .i64 ((rd_T47 l3 x44_2).f2)] 47 (0, 0)) d49n hb)
                     have n7_ := Aside0.mk (blk_below (g := gb109) (o := .cells #[.string t105, .int .i64 t106, .int .i64 t107] 76 (0, 0)) d49o hb)
                     have n8_ := Aside0.mk (below_step d49a hb)
                     clear HO_14
                     clear HO_18
                     clear HO112
                     clear HO115
                     clear BK101
                     clear BK104
                     clear BK109
                     clear HB
                     have HO_14 := n0_
                     have HO_18 := n1_
                     have HO112 := n2_
                     have HO115 := n3_
                     have HO118 := n4_
                     have BK101 := n5_
                     have BK104 := n6_
                     have BK109 := n7_
                     have HB := n8_
                     clear n0_ n1_ n2_ n3_ n4_ n5_ n6_ n7_ n8_
                     clear hb ho43
                     refine hK.out _ _ ⟨(blk_cell BK104.out 0).trans rfl, (blk_cell BK104.out 1).trans rfl, (blk_cell BK104.out 2).trans rfl, (blk_cell BK109.out 0).trans rfl, (blk_cell BK109.out 1).trans rfl, (blk_cell BK109.out 2).trans rfl⟩ (fun hHeld => ?_)
                     clear hK K
                     refine norm_ (a' := ?_) ?_ ?_
                     rotate_left
                     · show Act.put _ (some 67) _ = _
                       simp only [Act.put, List.setIfInBounds_toArray, List.set_cons_zero, List.set_cons_succ, i64_w, i32_w]
                       rfl
                     exact norm_ d49v (hCont (.slice Ao41 y110.length co41, v114, v117) _ ⟨hHeld, d49g, d49t, d49e, d49h, d49i, d49m, d49n, d49o, d49a⟩)
                   · skip
                     refine Kd.R_lit_step (Kd.int .i64) _ 3 ?hg (N := 67) ?hd (xs := ([x44_2] : List Int)) (inner := [.int .i64 x44_2]) (ok := fun _ => True) (okp := fun _ => True) ?hr ?hp (fun _ hk => hk) trivial (Below.refl _ _) (Nat.le_refl _) (by simp) ?_; (case hd => rfl); (case hg => rfl); (case hr => exact d49y); (case hp => exact (Reps.one (show Kd.M (Kd.int .i64) _ _ _ x44_2 [.int .i64 x44_2] from rfl) (Reps.none _ _)))
                     intro v117 w40 ho41 hb hg_ hnew_
                     clear hg_ hnew_
                     (first | rw [← Ny116.out] at ho41 | (simp only [Int.reduceToNat] at ho41; rw [← Ny116.out] at ho41))
                     have n0_ := Aside0.mk (Kd.R_elder' d49p (Kd.R_base ho41) hb)
                     have n1_ := Aside0.mk (Kd.R_below d49q hb)
                     have n2_ := Aside0.mk (Kd.R_elder' d49r (Kd.R_base ho41) hb)
                     have n3_ := Aside0.mk (Kd.R_below d49s hb)
                     have n4_ := Aside0.mk (Kd.R_lower (Kd.R_new' (Kd.R_new' ho41 (Kd.R_lt d49p)) (Kd.R_lt d49r)) (below_size d49a))
                     have n5_ := Aside0.mk (blk_below (g := gb101) (o := .cells #[.int .i64 a0_0, .int .i64 a0_1, .int .i64 a0_2, .int .i64 a0_3, .int .i64 a0_4] 23 (0, 0)) d49m hb)
                     have n6_ := Aside0.mk (blk_below (g := gb104) (o := .cells #[.string ((rd_T47 l3 x44_2).f0), .int .i64 ((rd_T47 l3 x44_2).f1), .int .i64 ((rd_T47 l3 x44_2).f2)] 47 (0, 0)) d49n hb)
                     have n7_ := Aside0.mk (blk_below (g := gb109) (o := .cells #[.string t105, .int .i64 t106, .int .i64 t107] 76 (0, 0)) d49o hb)
                     have n8_ := Aside0.mk (below_step d49a hb)
                     clear HO_14
                     clear HO_17
                     clear HO_18
                     clear HO112
                     clear BK101
                     clear BK104
                     clear BK109
                     clear HB
                     have HO_14 := n0_
                     have HO_17 := n1_
                     have HO_18 := n2_
                     have HO112 := n3_
                     have HO118 := n4_
                     have BK101 := n5_
                     have BK104 := n6_
                     have BK109 := n7_
                     have HB := n8_
                     clear n0_ n1_ n2_ n3_ n4_ n5_ n6_ n7_ n8_
                     clear hb ho41
                     obtain ⟨Ao43, co43, eo43⟩ := Kd.R_slice HO112.out
                     (first | subst eo43 | (injection eo43 with f1_ f2_ f3_; have f4_ := f1_.symm; have f5_ := f3_.symm; clear f1_ f2_ f3_; subst f4_; subst f5_))
                     refine hK.out _ _ ⟨(blk_cell BK104.out 0).trans rfl, (blk_cell BK104.out 1).trans rfl, (blk_cell BK104.out 2).trans rfl, (blk_cell BK109.out 0).trans rfl, (blk_cell BK109.out 1).trans rfl, (blk_cell BK109.out 2).trans rfl⟩ (fun hHeld => ?_)
                     clear hK K
                     refine norm_ (a' := ?_) ?_ ?_
                     rotate_left
                     · show Act.put _ (some 67) _ = _
                       simp only [Act.put, List.setIfInBounds_toArray, List.set_cons_zero, List.set_cons_succ, i64_w, i32_w]
                       rfl
                     refine one_ (i := 3) (N := some 64) #[true, true, true, true, true, true, true, false, true, true, true, true, false, false, false] rfl rfl (one_of HT_.out (by kernel_rfl)) (by decide) (fun K hK => ?_)
                     refine Kd.R_append_rows_step k47 (w0 := w) w.heap.size (by rfl) (.tmp 61) (.tmp 63) 26 47 (.agg #[(.string ⟨#[]⟩), (.int .i64 0), (.int .i64 0)]) 32 rfl Try.underlying26 info47 rfl (by decide) (by omega) (.slice Ao34 x17_2.length co34) x17_2 y110 _ _ _ (fun k_ => some k_ ≠ (.slice Ao43 y110.length co43 : Value).ownBlock ∧ k_ ≠ gb104) (fun _ => False) rfl rfl ?aO ?aR (fun _ _ h => h) (fun _ h => h.elim) ?aF ?aB ?aS ?aL ?_
                     (case aR => exact C_go (Kd.R_reads' HO112.out).2.2)
                     (case aB => exact d49a)
                     (case aF => exact (fun k_ hk => ⟨Kd.fresh' (Kd.R_lt d49s) k_ hk, Kd.freshB (g := gb104) (o := .cells #[.string ((rd_T47 l3 x44_2).f0), .int .i64 ((rd_T47 l3 x44_2).f1), .int .i64 ((rd_T47 l3 x44_2).f2)] 47 (0, 0)) d49n k_ hk⟩))
                     (case aO => exact d49f)
                     (case aS => exact (below_size d49a))
                     (case aL => have := LMc24.out; omega)
                     intro v114 w42 ho hb hg hat
                     rw [← Ny113.out] at ho
                     have n0_ := Aside0.mk (Kd.R_over' d49p (Kd.R_typed d49q) (by decide) hg)
                     have n1_ := Aside0.mk (Kd.R_over' d49r (Kd.R_typed d49q) (by decide) hg)
                     have n2_ := Aside0.mk (blk_grown (g := gb101) (o := .cells #[.int .i64 a0_0, .int .i64 a0_1, .int .i64 a0_2, .int .i64 a0_3, .int .i64 a0_4] 23 (0, 0)) d49m hg (Kd.R_ne HO_17.out BK101.out (by decide)))
                     have n3_ := Aside0.mk (blk_grown (g := gb104) (o := .cells #[.string ((rd_T47 l3 x44_2).f0), .int .i64 ((rd_T47 l3 x44_2).f1), .int .i64 ((rd_T47 l3 x44_2).f2)] 47 (0, 0)) d49n hg (Kd.R_away HO_17.out (fun _ hk => hk.1)))
                     have n4_ := Aside0.mk (blk_grown (g := gb109) (o := .cells #[.string t105, .int .i64 t106, .int .i64 t107] 76 (0, 0)) d49o hg (Kd.R_ne HO_17.out BK109.out (by decide)))
                     have n5_ := Aside0.mk (Kd.R_after (ok := (fun k_ => k_ ≠ gb104)) d49d hg hat)
                     have n6_ := Aside0.mk (Kd.R_over' d49u (Kd.R_typed d49q) (by decide) hg)
                     have n7_ := Aside0.mk (hb)
                     have n8_ := Aside0.mk (ho)
                     clear HO_14
                     clear HO_18
                     clear BK101
                     clear BK104
                     clear BK109
                     clear HO112
                     clear HO118
                     clear HB
                     clear HO_17
                     have HO_14 := n0_
                     have HO_18 := n1_
                     have BK101 := n2_
                     have BK104 := n3_
                     have BK109 := n4_
                     have HO112 := n5_
                     have HO118 := n6_
                     have HB := n7_
                     have HO115 := n8_
                     clear n0_ n1_ n2_ n3_ n4_ n5_ n6_ n7_ n8_
                     clear ho hb hg hat
                     refine hK.out _ _ ⟨(blk_cell BK104.out 0).trans rfl, (blk_cell BK104.out 1).trans rfl, (blk_cell BK104.out 2).trans rfl, (blk_cell BK109.out 0).trans rfl, (blk_cell BK109.out 1).trans rfl, (blk_cell BK109.out 2).trans rfl⟩ (fun hHeld => ?_)
                     clear hK K
                     refine norm_ (a' := ?_) ?_ ?_
                     rotate_left
                     · show Act.put _ (some 64) _ = _
                       simp only [Act.put, List.setIfInBounds_toArray, List.set_cons_zero, List.set_cons_succ, i64_w, i32_w]
                       rfl
                     exact norm_ d49v (hCont (.slice Ao43 y110.length co43, v114, v117) _ ⟨hHeld, d49g, d49t, d49e, d49h, d49i, d49m, d49n, d49o, d49a⟩)
                 · skip
                   refine Kd.R_lit_step (Kd.int .i64) _ 3 ?hg (N := 67) ?hd (xs := ([x44_2] : List Int)) (inner := [.int .i64 x44_2]) (ok := fun _ => True) (okp := fun _ => True) ?hr ?hp (fun _ hk => hk) trivial (Below.refl _ _) (Nat.le_refl _) (by simp) ?_; (case hd => rfl); (case hg => rfl); (case hr => exact d49y); (case hp => exact (Reps.one (show Kd.M (Kd.int .i64) _ _ _ x44_2 [.int .i64 x44_2] from rfl) (Reps.none _ _)))
                   intro v117 w38 ho39 hb hg_ hnew_
                   clear hg_ hnew_
                   (first | rw [← Ny116.out] at ho39 | (simp only [Int.reduceToNat] at ho39; rw [← Ny116.out] at ho39))
                   have n0_ := Aside0.mk (Kd.R_elder' d49p (Kd.R_base ho39) hb)
                   have n1_ := Aside0.mk (Kd.R_below d49q hb)
                   have n2_ := Aside0.mk (Kd.R_elder' d49r (Kd.R_base ho39) hb)
                   have n3_ := Aside0.mk (Kd.R_lower (Kd.R_new' (Kd.R_new' ho39 (Kd.R_lt d49p)) (Kd.R_lt d49r)) (below_size d49a))
                   have n4_ := Aside0.mk (blk_below (g := gb101) (o := .cells #[.int .i64 a0_0, .int .i64 a0_1, .int .i64 a0_2, .int .i64 a0_3, .int .i64 a0_4] 23 (0, 0)) d49m hb)
                   have n5_ := Aside0.mk (blk_below (g := gb104) (o := .cells #[.string ((rd_T47 l3 x44_2).f0), .int .i64 ((rd_T47 l3 x44_2).f1), .int .i64 ((rd_T47 l3 x44_2).f2)] 47 (0, 0)) d49n hb)
                   have n6_ := Aside0.mk (blk_below (g := gb109) (o := .cells #[.string t105, .int .i64 t106, .int .i64 t107] 76 (0, 0)) d49o hb)
                   have n7_ := Aside0.mk (below_step d49a hb)
                   clear HO_14
                   clear HO_17
                   clear HO_18
                   clear BK101
                   clear BK104
                   clear BK109
                   clear HB
                   have HO_14 := n0_
                   have HO_17 := n1_
                   have HO_18 := n2_
                   have HO118 := n3_
                   have BK101 := n4_
                   have BK104 := n5_
                   have BK109 := n6_
                   have HB := n7_
                   clear n0_ n1_ n2_ n3_ n4_ n5_ n6_ n7_
                   clear hb ho39
                   refine hK.out _ _ ⟨(blk_cell BK104.out 0).trans rfl, (blk_cell BK104.out 1).trans rfl, (blk_cell BK104.out 2).trans rfl, (blk_cell BK109.out 0).trans rfl, (blk_cell BK109.out 1).trans rfl, (blk_cell BK109.out 2).trans rfl⟩ (fun hHeld => ?_)
                   clear hK K
                   refine norm_ (a' := ?_) ?_ ?_
                   rotate_left
                   · show Act.put _ (some 67) _ = _
                     simp only [Act.put, List.setIfInBounds_toArray, List.set_cons_zero, List.set_cons_succ, i64_w, i32_w]
                     rfl
                   refine one_ (i := 2) (N := some 63) #[true, true, true, false, true, true, true, false, true, true, true, true, false, false, false] rfl rfl (one_of HT_.out (by kernel_rfl)) (by decide) (fun K hK => ?_)
                   refine Kd.R_lit_step k47 _ 47 ?hg (N := 63) ?hd (xs := ([(⟨(rd_T47 l3 x44_2).f0, (rd_T47 l3 x44_2).f1, (rd_T47 l3 x44_2).f2⟩ : S47)] : List (S47))) (inner := [.string ((rd_T47 l3 x44_2).f0), .int .i64 ((rd_T47 l3 x44_2).f1), .int .i64 ((rd_T47 l3 x44_2).f2)]) (ok := fun _ => True) (okp := fun _ => True) ?hr ?hp (fun _ hk => hk) trivial (Below.refl _ _) (Nat.le_refl _) (by simp) ?_; (case hd => rfl); (case hg => rfl); (case hr => exact d49y); (case hp => exact (Reps.c3 (show Kd.M k47 _ _ _ (⟨(rd_T47 l3 x44_2).f0, (rd_T47 l3 x44_2).f1, (rd_T47 l3 x44_2).f2⟩ : S47) [.string ((rd_T47 l3 x44_2).f0), .int .i64 ((rd_T47 l3 x44_2).f1), .int .i64 ((rd_T47 l3 x44_2).f2)] from (k47_mkM _ _ _ (⟨(rd_T47 l3 x44_2).f0, (rd_T47 l3 x44_2).f1, (rd_T47 l3 x44_2).f2⟩ : S47) )) (Reps.none _ _)))
                   intro v111 w40 ho41 hb hg_ hnew_
                   clear hg_ hnew_
                   (first | rw [← Ny110.out] at ho41 | (simp only [Int.reduceToNat] at ho41; rw [← Ny110.out] at ho41))
                   have n0_ := Aside0.mk (Kd.R_below d49p hb)
                   have n1_ := Aside0.mk (Kd.R_elder' d49q (Kd.R_base ho41) hb)
                   have n2_ := Aside0.mk (Kd.R_below d49r hb)
                   have n3_ := Aside0.mk (Kd.R_below d49u hb)
                   have n4_ := Aside0.mk (Kd.R_lower (Kd.R_newB (Kd.R_new' ho41 (Kd.R_lt d49q)) (g := gb104) (o := .cells #[.string ((rd_T47 l3 x44_2).f0), .int .i64 ((rd_T47 l3 x44_2).f1), .int .i64 ((rd_T47 l3 x44_2).f2)] 47 (0, 0)) d49n) (below_size d49a))
                   have n5_ := Aside0.mk (blk_below (g := gb101) (o := .cells #[.int .i64 a0_0, .int .i64 a0_1, .int .i64 a0_2, .int .i64 a0_3, .int .i64 a0_4] 23 (0, 0)) d49m hb)
                   have n6_ := Aside0.mk (blk_below (g := gb104) (o := .cells #[.string ((rd_T47 l3 x44_2).f0), .int .i64 ((rd_T47 l3 x44_2).f1), .int .i64 ((rd_T47 l3 x44_2).f2)] 47 (0, 0)) d49n hb)
                   have n7_ := Aside0.mk (blk_below (g := gb109) (o := .cells #[.string t105, .int .i64 t106, .int .i64 t107] 76 (0, 0)) d49o hb)
                   have n8_ := Aside0.mk (below_step d49a hb)
                   clear HO_14
                   clear HO_17
                   clear HO_18
                   clear HO118
                   clear BK101
                   clear BK104
                   clear BK109
                   clear HB
                   have HO_14 := n0_
                   have HO_17 := n1_
                   have HO_18 := n2_
                   have HO118 := n3_
                   have HO112 := n4_
                   have BK101 := n5_
                   have BK104 := n6_
                   have BK109 := n7_
                   have HB := n8_
                   clear n0_ n1_ n2_ n3_ n4_ n5_ n6_ n7_ n8_
                   clear hb ho41
                   obtain ⟨Ao43, co43, eo43⟩ := Kd.R_slice HO112.out
                   (first | subst eo43 | (injection eo43 with f1_ f2_ f3_; have f4_ := f1_.symm; have f5_ := f3_.symm; clear f1_ f2_ f3_; subst f4_; subst f5_))
                   refine hK.out _ _ ⟨(blk_cell BK104.out 0).trans rfl, (blk_cell BK104.out 1).trans rfl, (blk_cell BK104.out 2).trans rfl, (blk_cell BK109.out 0).trans rfl, (blk_cell BK109.out 1).trans rfl, (blk_cell BK109.out 2).trans rfl⟩ (fun hHeld => ?_)
                   clear hK K
                   refine norm_ (a' := ?_) ?_ ?_
                   rotate_left
                   · show Act.put _ (some 63) _ = _
                     simp only [Act.put, List.setIfInBounds_toArray, List.set_cons_zero, List.set_cons_succ, i64_w, i32_w]
                     rfl
                   refine one_ (i := 3) (N := some 64) #[true, true, true, true, true, true, true, false, true, true, true, true, false, false, false] rfl rfl (one_of HT_.out (by kernel_rfl)) (by decide) (fun K hK => ?_)
                   refine Kd.R_append_rows_step k47 (w0 := w) w.heap.size (by rfl) (.tmp 61) (.tmp 63) 26 47 (.agg #[(.string ⟨#[]⟩), (.int .i64 0), (.int .i64 0)]) 32 rfl Try.underlying26 info47 rfl (by decide) (by omega) (.slice Ao34 x17_2.length co34) x17_2 y110 _ _ _ (fun k_ => some k_ ≠ (.slice Ao43 y110.length co43 : Value).ownBlock ∧ k_ ≠ gb104) (fun _ => False) rfl rfl ?aO ?aR (fun _ _ h => h) (fun _ h => h.elim) ?aF ?aB ?aS ?aL ?_
                   (case aR => exact C_go (Kd.R_reads' HO112.out).2.2)
                   (case aB => exact d49a)
                   (case aF => exact (fun k_ hk => ⟨Kd.fresh' (Kd.R_lt d49s) k_ hk, Kd.freshB (g := gb104) (o := .cells #[.string ((rd_T47 l3 x44_2).f0), .int .i64 ((rd_T47 l3 x44_2).f1), .int .i64 ((rd_T47 l3 x44_2).f2)] 47 (0, 0)) d49n k_ hk⟩))
                   (case aO => exact d49f)
                   (case aS => exact (below_size d49a))
                   (case aL => have := LMc24.out; omega)
                   intro v114 w42 ho hb hg hat
                   rw [← Ny113.out] at ho
                   have n0_ := Aside0.mk (Kd.R_over' d49p (Kd.R_typed d49q) (by decide) hg)
                   have n1_ := Aside0.mk (Kd.R_over' d49r (Kd.R_typed d49q) (by decide) hg)
                   have n2_ := Aside0.mk (blk_grown (g := gb101) (o := .cells #[.int .i64 a0_0, .int .i64 a0_1, .int .i64 a0_2, .int .i64 a0_3, .int .i64 a0_4] 23 (0, 0)) d49m hg (Kd.R_ne HO_17.out BK101.out (by decide)))
                   have n3_ := Aside0.mk (blk_grown (g := gb104) (o := .cells #[.string ((rd_T47 l3 x44_2).f0), .int .i64 ((rd_T47 l3 x44_2).f1), .int .i64 ((rd_T47 l3 x44_2).f2)] 47 (0, 0)) d49n hg (Kd.R_away HO_17.out (fun _ hk => hk.1)))
                   have n4_ := Aside0.mk (blk_grown (g := gb109) (o := .cells #[.string t105, .int .i64 t106, .int .i64 t107] 76 (0, 0)) d49o hg (Kd.R_ne HO_17.out BK109.out (by decide)))
                   have n5_ := Aside0.mk (Kd.R_over' d49u (Kd.R_typed d49q) (by decide) hg)
                   have n6_ := Aside0.mk (Kd.R_after (ok := (fun k_ => k_ ≠ gb104)) d49d hg hat)
                   have n7_ := Aside0.mk (hb)
                   have n8_ := Aside0.mk (ho)
                   clear HO_14
                   clear HO_18
                   clear BK101
                   clear BK104
                   clear BK109
                   clear HO118
                   clear HO112
                   clear HB
                   clear HO_17
                   have HO_14 := n0_
                   have HO_18 := n1_
                   have BK101 := n2_
                   have BK104 := n3_
                   have BK109 := n4_
                   have HO118 := n5_
                   have HO112 := n6_
                   have HB := n7_
                   have HO115 := n8_
                   clear n0_ n1_ n2_ n3_ n4_ n5_ n6_ n7_ n8_
                   clear ho hb hg hat
                   refine hK.out _ _ ⟨(blk_cell BK104.out 0).trans rfl, (blk_cell BK104.out 1).trans rfl, (blk_cell BK104.out 2).trans rfl, (blk_cell BK109.out 0).trans rfl, (blk_cell BK109.out 1).trans rfl, (blk_cell BK109.out 2).trans rfl⟩ (fun hHeld => ?_)
                   clear hK K
                   refine norm_ (a' := ?_) ?_ ?_
                   rotate_left
                   · show Act.put _ (some 64) _ = _
                     simp only [Act.put, List.setIfInBounds_toArray, List.set_cons_zero, List.set_cons_succ, i64_w, i32_w]
                     rfl
                   exact norm_ d49v (hCont (.slice Ao43 y110.length co43, v114, v117) _ ⟨hHeld, d49g, d49t, d49e, d49h, d49i, d49m, d49n, d49o, d49a⟩)
               rintro ⟨v111, v114, v117⟩ w44 ⟨hS_, h0_, h1_, h2_, h3_, h4_, h5_, h6_, h7_, h8_⟩
               have n0_ : Aside0 (Kd.R k47 47 w44 w.heap.size (fun k_ => some k_ ≠ (v114 : Value).ownBlock ∧ k_ ≠ gb104) v111 y110) := ⟨h0_⟩
               have n1_ : Aside0 (Kd.R k47 47 w44 w.heap.size (fun k_ => some k_ ≠ (v111 : Value).ownBlock ∧ k_ ≠ gb104) v114 y113) := ⟨h1_⟩
               have n2_ : Aside0 (Kd.R (Kd.int .i64) 3 w44 w.heap.size (fun k_ => some k_ ≠ (u14 : Value).ownBlock ∧ some k_ ≠ (.slice Ao35 x18_2.length co35 : Value).ownBlock) v117 y116) := ⟨h2_⟩
               have n3_ : Aside0 (Kd.R (Kd.int .i64) 3 w44 w.heap.size (fun k_ => some k_ ≠ (v117 : Value).ownBlock ∧ some k_ ≠ (.slice Ao35 x18_2.length co35 : Value).ownBlock) u14 x14_1) := ⟨h3_⟩
               have n4_ : Aside0 (Kd.R (Kd.int .i64) 3 w44 w.heap.size (fun k_ => some k_ ≠ (v117 : Value).ownBlock ∧ some k_ ≠ (u14 : Value).ownBlock) (.slice Ao35 x18_2.length co35) x18_2) := ⟨h4_⟩
               have n5_ : Aside0 (w44.heap[gb101]? = some (.cells #[.int .i64 a0_0, .int .i64 a0_1, .int .i64 a0_2, .int .i64 a0_3, .int .i64 a0_4] 23 (0, 0))) := ⟨h5_⟩
               have n6_ : Aside0 (w44.heap[gb104]? = some (.cells #[.string ((rd_T47 l3 x44_2).f0), .int .i64 ((rd_T47 l3 x44_2).f1), .int .i64 ((rd_T47 l3 x44_2).f2)] 47 (0, 0))) := ⟨h6_⟩
               have n7_ : Aside0 (w44.heap[gb109]? = some (.cells #[.string t105, .int .i64 t106, .int .i64 t107] 76 (0, 0))) := ⟨h7_⟩
               have n8_ : Aside0 (Below w.heap.size w w44) := ⟨h8_⟩
               clear HO_14
               clear HO_17
               clear HO_18
               clear BK101
               clear BK104
               clear BK109
               clear HB
               clear h0_ h1_ h2_ h3_ h4_ h5_ h6_ h7_ h8_
               have HO112 := n0_
               have HO115 := n1_
               have HO118 := n2_
               have HO_14 := n3_
               have HO_18 := n4_
               have BK101 := n5_
               have BK104 := n6_
               have BK109 := n7_
               have HB := n8_
               clear n0_ n1_ n2_ n3_ n4_ n5_ n6_ n7_ n8_
               have hHeld : w44.cell? ⟨gb104, 0, none⟩ = some (.string ((rd_T47 l3 x44_2).f0)) ∧ w44.cell? ⟨gb104, 1, none⟩ = some (.int .i64 ((rd_T47 l3 x44_2).f1)) ∧ w44.cell? ⟨gb104, 2, none⟩ = some (.int .i64 ((rd_T47 l3 x44_2).f2)) ∧ w44.cell? ⟨gb109, 0, none⟩ = some (.string t105) ∧ w44.cell? ⟨gb109, 1, none⟩ = some (.int .i64 t106) ∧ w44.cell? ⟨gb109, 2, none⟩ = some (.int .i64 t107) := hS_
               obtain ⟨Ao46, co46, eo46⟩ := Kd.R_slice HO118.out
               (first | subst eo46 | (injection eo46 with f1_ f2_ f3_; have f4_ := f1_.symm; have f5_ := f3_.symm; clear f1_ f2_ f3_; subst f4_; subst f5_))
               refine norm_ (a' := ?_) ?_ ?_
               rotate_left
               · simp only [putAll, Act.put, List.setIfInBounds_toArray, List.set_cons_zero, List.set_cons_succ]
                 rfl
               refine one_ (i := 7) (N := some 68) #[true, true, true, true, true, true, true, true, true, true, true, true, false, false, false] rfl rfl (one_of HT_.out (by kernel_rfl)) (by decide) (fun K hK => ?_)
               refine Kd.R_append_rows_step (Kd.int .i64) (w0 := w) w.heap.size (by rfl) (.tmp 65) (.tmp 67) 66 3 (.int .i64 0) 8 rfl Try.underlying66 info3 rfl (by decide) (by omega) (.slice Ao35 x18_2.length co35) x18_2 y116 _ _ _ (fun k_ => some k_ ≠ (u14 : Value).ownBlock ∧ some k_ ≠ (.slice Ao46 y116.length co46 : Value).ownBlock) (fun _ => False) rfl rfl ?aO ?aR (fun _ _ h => h) (fun _ h => h.elim) ?aF ?aB ?aS ?aL ?_
               (case aR => exact C_go (Kd.R_reads' HO118.out).2.2)
               (case aB => exact d49a)
               (case aF => exact (fun k_ hk => ⟨Kd.fresh' (Kd.R_lt d49p) k_ hk, Kd.fresh' (Kd.R_lt d49u) k_ hk⟩))
               (case aO => exact d49i)
               (case aS => exact (below_size d49a))
               (case aL => have := LMc25.out; omega)
               intro v120 w45 ho hb hg hat
               rw [← Ny119.out] at ho
               have n0_ := Aside0.mk (Kd.R_after (ok := (fun k_ => some k_ ≠ (.slice Ao46 y116.length co46 : Value).ownBlock)) d49p hg hat)
               have n1_ := Aside0.mk (blk_grown (g := gb101) (o := .cells #[.int .i64 a0_0, .int .i64 a0_1, .int .i64 a0_2, .int .i64 a0_3, .int .i64 a0_4] 23 (0, 0)) d49m hg (Kd.R_ne HO_18.out BK101.out (by decide)))
               have n2_ := Aside0.mk (blk_grown (g := gb104) (o := .cells #[.string ((rd_T47 l3 x44_2).f0), .int .i64 ((rd_T47 l3 x44_2).f1), .int .i64 ((rd_T47 l3 x44_2).f2)] 47 (0, 0)) d49n hg (Kd.R_ne HO_18.out BK104.out (by decide)))
               have n3_ := Aside0.mk (blk_grown (g := gb109) (o := .cells #[.string t105, .int .i64 t106, .int .i64 t107] 76 (0, 0)) d49o hg (Kd.R_ne HO_18.out BK109.out (by decide)))
               have n4_ := Aside0.mk (Kd.R_over' d49s (Kd.R_typed d49r) (by decide) hg)
               have n5_ := Aside0.mk (Kd.R_over' d49t (Kd.R_typed d49r) (by decide) hg)
               have n6_ := Aside0.mk (Kd.R_after (ok := (fun k_ => some k_ ≠ (u14 : Value).ownBlock)) d49u hg hat)
               have n7_ := Aside0.mk (hb)
               have n8_ := Aside0.mk (ho)
               clear HO_14
               clear BK101
               clear BK104
               clear BK109
               clear HO112
               clear HO115
               clear HO118
               clear HB
               clear HO_18
               have HO_14 := n0_
               have BK101 := n1_
               have BK104 := n2_
               have BK109 := n3_
               have HO112 := n4_
               have HO115 := n5_
               have HO118 := n6_
               have HB := n7_
               have HO121 := n8_
               clear n0_ n1_ n2_ n3_ n4_ n5_ n6_ n7_ n8_
               clear ho hb hg hat
               refine hK.out _ _ ⟨(blk_cell BK104.out 0).trans rfl, (blk_cell BK104.out 1).trans rfl, (blk_cell BK104.out 2).trans rfl, (blk_cell BK109.out 0).trans rfl, (blk_cell BK109.out 1).trans rfl, (blk_cell BK109.out 2).trans rfl⟩ (fun hHeld => ?_)
               clear hK K
               refine norm_ (a' := ?_) ?_ ?_
               rotate_left
               · show Act.put _ (some 68) _ = _
                 simp only [Act.put, List.setIfInBounds_toArray, List.set_cons_zero, List.set_cons_succ, i64_w, i32_w]
                 rfl
               refine pure_ (i := 12) (N := some 17) (v := ?_) (a' := ?_) #[true, true, true, true, true, true, true, true, true, true, true, true, true, false, false] rfl rfl (any_of HT_.out (by kernel_rfl)) (fun _ _ _ h => h) (Or.inl ⟨by rfl, ?_⟩) ?_ ?_
               rotate_left
               · intro w'
                 go_simp
                 with_reducible rfl
               rotate_left
               · simp only [Act.put, List.setIfInBounds_toArray, List.set_cons_zero, List.set_cons_succ, i64_w, i32_w]
                 rfl
               refine pure_ (i := 13) (N := some 18) (v := ?_) (a' := ?_) #[true, true, true, true, true, true, true, true, true, true, true, true, true, true, false] rfl rfl (any_of HT_.out (by kernel_rfl)) (fun _ _ _ h => h) (Or.inl ⟨by rfl, ?_⟩) ?_ ?_
               rotate_left
               · intro w'
                 go_simp
                 with_reducible rfl
               rotate_left
               · simp only [Act.put, List.setIfInBounds_toArray, List.set_cons_zero, List.set_cons_succ, i64_w, i32_w]
                 rfl
               refine pure_ (i := 14) (N := some 19) (v := ?_) (a' := ?_) #[true, true, true, true, true, true, true, true, true, true, true, true, true, true, true] rfl rfl (any_of HT_.out (by kernel_rfl)) (fun _ _ _ h => h) (Or.inl ⟨by rfl, ?_⟩) ?_ ?_
               rotate_left
               · intro w'
                 go_simp
                 with_reducible rfl
               rotate_left
               · simp only [Act.put, List.setIfInBounds_toArray, List.set_cons_zero, List.set_cons_succ, i64_w, i32_w]
                 rfl
               refine done_ (done_of HT_.out (by kernel_rfl)) ?_
               try go_wp2
               go_roundg k2
               case measure => have := HK1.out; have := HK2.out; omega
               case rel => exact ⟨(y113), (y119), (wrap64 (x19_2 + t107)), (wrap64 (x44_2 + 1)), d49x, d49x, H', ⟨by have := HK1.out; have := HK2.out; omega⟩, ⟨by (with_reducible repeat (first | apply Kd.R_alloc | apply Kd.R_drewN | apply Kd.R_drew)); exact Kd.R_mono HO_14.out (fun _ hk => hk.2)⟩, ⟨by (with_reducible repeat (first | apply Kd.R_alloc | apply Kd.R_drewN | apply Kd.R_drew)); exact Kd.R_mono HO115.out (fun _ hk => trivial)⟩, ⟨by (with_reducible repeat (first | apply Kd.R_alloc | apply Kd.R_drewN | apply Kd.R_drew)); exact Kd.R_mono HO121.out (fun _ hk => hk.1)⟩, ⟨d49m⟩, ⟨d49a⟩⟩
             · rw [if_neg c22] at H
               have c22b0 : ((Go.bits .and .i64 (ji21) 1) == 1) = false := beq_eq_false_iff_ne.mpr c22
               have c22b1 : ((Go.bits .and .i64 (ji21) 1) != 1) = true := bne_iff_ne.mpr c22
               have H' := Aside0.mk H
               clear H
               have p103 : 0 ≤ (x44_2 : Int) := of_decide_eq_true d49w
               have q103 : x44_2 < (l3.length : Int) := of_decide_eq_true d49w
               obtain ⟨ad103, e103, hx103_0, hx103_1, hx103_2⟩ := at_T47 HR3.out x44_2 p103 q103
               cases e103
               replace hx103_0 := cellB HB.out hx103_0
               replace hx103_1 := cellB HB.out hx103_1
               replace hx103_2 := cellB HB.out hx103_2
               replace p103 := eq_true p103
               replace q103 := eq_true q103
               go_wp2_with ((with_reducible refine gate_dst (N := 21) rfl ?_); (try (refine gate_guard (by rfl) ?_; dsimp only)); refine box_event ?hg (N := 21) ?hd (cs := #[.string (⟨#[]⟩ : ByteArray), .int .i64 0, .int .i64 0]) (t := 47) ?hr ?_; (case hd => rfl); (case hg => rfl); (case hr => exact d49y); intro gb104 hg w47 hbox hb; have n0_ := Aside0.mk (Kd.R_below d49p hb); have n1_ := Aside0.mk (Kd.R_below (Kd.R_elderB d49q gb104 (Nat.le_of_eq hg.symm)) hb); have n2_ := Aside0.mk (Kd.R_below d49r hb); have n3_ := Aside0.mk (blk_below (g := gb101) (o := .cells #[.int .i64 a0_0, .int .i64 a0_1, .int .i64 a0_2, .int .i64 a0_3, .int .i64 a0_4] 23 (0, 0)) d49m hb); have n4_ := Aside0.mk (below_step d49c hb); have n5_ := Aside0.mk (hbox); have n6_ := Aside0.mk ((by rw [hg]; exact (below_size d49c) : w.heap.size ≤ gb104)); have n7_ := Aside0.mk ((by rw [hg]; exact (below_size d49c) : w.heap.size ≤ gb104)); have n8_ := Aside0.mk ((by rw [hg]; exact Nat.ne_of_lt (blk_lt (g := gb101) (o := .cells #[.int .i64 a0_0, .int .i64 a0_1, .int .i64 a0_2, .int .i64 a0_3, .int .i64 a0_4] 23 (0, 0)) d49m) : gb101 ≠ gb104)); have n9_ := Aside0.mk ((by rw [hg]; exact Nat.ne_of_gt (blk_lt (g := gb101) (o := .cells #[.int .i64 a0_0, .int .i64 a0_1, .int .i64 a0_2, .int .i64 a0_3, .int .i64 a0_4] 23 (0, 0)) d49m) : gb104 ≠ gb101)); clear HO_14; clear HO_17; clear HO_18; clear BK101; clear HB; have HO_14 := n0_; have HO_17 := n1_; have HO_18 := n2_; have BK101 := n3_; have HB := n4_; have BK104 := n5_; have GW104 := n6_; have GE104 := n7_; have NB101_104 := n8_; have NB104_101 := n9_; clear n0_ n1_ n2_ n3_ n4_ n5_ n6_ n7_ n8_ n9_; clear hb hbox hg; have hnb48 := NB104_101.out; have hnc48 := NB101_104.out; have hcz49_0 : w47.cell? ⟨gb104, 0, none⟩ = some (.string (⟨#[]⟩ : ByteArray)) := (blk_cell BK104.out 0).trans rfl; have hcz49_1 : w47.cell? ⟨gb104, 1, none⟩ = some (.int .i64 0) := (blk_cell BK104.out 1).trans rfl; have hcz49_2 : w47.cell? ⟨gb104, 2, none⟩ = some (.int .i64 0) := (blk_cell BK104.out 2).trans rfl; have hfz49_0 := blk_frozen BK104.out 0; have hfz49_1 := blk_frozen BK104.out 1; have hfz49_2 := blk_frozen BK104.out 2)
               go_roundg k2
               case measure => have := HK1.out; have := HK2.out; omega
               case rel => exact ⟨(x17_2), (x18_2), (x19_2), (wrap64 (x44_2 + 1)), d49x, d49x, H', ⟨by have := HK1.out; have := HK2.out; omega⟩, ⟨by (with_reducible repeat (first | apply Kd.R_alloc | apply Kd.R_drewN | apply Kd.R_drew)); exact Kd.R_mono (Kd.R_far (p := ⟨gb104, 2, none⟩) (Kd.R_far (p := ⟨gb104, 1, none⟩) (Kd.R_far (p := ⟨gb104, 0, none⟩) (Kd.R_types HO_14.out BK104.out (by decide)) (fun _ hk => hk.2) (.string ((rd_T47 l3 x44_2).f0))) (fun _ hk => hk.2) (.int .i64 ((rd_T47 l3 x44_2).f1))) (fun _ hk => hk.2) (.int .i64 ((rd_T47 l3 x44_2).f2))) (fun _ hk => hk.1)⟩, ⟨by (with_reducible repeat (first | apply Kd.R_alloc | apply Kd.R_drewN | apply Kd.R_drew)); exact Kd.R_mono (Kd.R_far (p := ⟨gb104, 2, none⟩) (Kd.R_far (p := ⟨gb104, 1, none⟩) (Kd.R_far (p := ⟨gb104, 0, none⟩) (Kd.R_mono HO_17.out (fun k_ hk => (⟨hk, hk.2⟩ : _ ∧ k_ ≠ gb104))) (fun _ hk => hk.2) (.string ((rd_T47 l3 x44_2).f0))) (fun _ hk => hk.2) (.int .i64 ((rd_T47 l3 x44_2).f1))) (fun _ hk => hk.2) (.int .i64 ((rd_T47 l3 x44_2).f2))) (fun _ hk => trivial)⟩, ⟨by (with_reducible repeat (first | apply Kd.R_alloc | apply Kd.R_drewN | apply Kd.R_drew)); exact Kd.R_mono (Kd.R_far (p := ⟨gb104, 2, none⟩) (Kd.R_far (p := ⟨gb104, 1, none⟩) (Kd.R_far (p := ⟨gb104, 0, none⟩) (Kd.R_types HO_18.out BK104.out (by decide)) (fun _ hk => hk.2) (.string ((rd_T47 l3 x44_2).f0))) (fun _ hk => hk.2) (.int .i64 ((rd_T47 l3 x44_2).f1))) (fun _ hk => hk.2) (.int .i64 ((rd_T47 l3 x44_2).f2))) (fun _ hk => hk.1)⟩, ⟨by (with_reducible repeat (first | refine blk_drewN ?_ _ | refine blk_drew ?_ | refine blk_alloc ?_ _)); refine blk_far ?_ NB101_104.out _; (with_reducible repeat (first | refine blk_drewN ?_ _ | refine blk_drew ?_ | refine blk_alloc ?_ _)); refine blk_far ?_ NB101_104.out _; (with_reducible repeat (first | refine blk_drewN ?_ _ | refine blk_drew ?_ | refine blk_alloc ?_ _)); refine blk_far ?_ NB101_104.out _; (with_reducible repeat (first | refine blk_drewN ?_ _ | refine blk_drew ?_ | refine blk_alloc ?_ _)); exact BK101.out⟩, ⟨d49b⟩⟩
           · rw [if_neg c17] at H
             have c17b0 : decide (x44_2 < (l3.length : Int)) = false := decide_eq_false c17
             clear c17
             have HC50 := Aside0.mk H
             clear H
             go_upto_region 21 with (fail)
             go_cut [101] (fun v101 wc => ∃ (kq : Nat) (x101_49 : Bool), v101 = .bool x101_49 ∧ Aside0 (power_Kept.j2 kq l1 l2 l3 a4 x14_1 x15_1 x17_2 x18_2 x19_2 ji12 x39_1 x101_49 a0_0 a0_1 a0_2 a0_3 a0_4 = some (r1, r2, r3)) ∧ Aside0 (kq ≤ k2) ∧ Aside0 (Kd.R (Kd.int .i64) 3 wc w.heap.size (fun k_ => some k_ ≠ (u18 : Value).ownBlock) u14 x14_1) ∧ Aside0 (Kd.R k47 47 wc w.heap.size (fun _ => True) u17 x17_2) ∧ Aside0 (Kd.R (Kd.int .i64) 3 wc w.heap.size (fun k_ => some k_ ≠ (u14 : Value).ownBlock) u18 x18_2) ∧ Aside0 (wc.heap[gb101]? = some (.cells #[.int .i64 a0_0, .int .i64 a0_1, .int .i64 a0_2, .int .i64 a0_3, .int .i64 a0_4] 23 (0, 0))) ∧ Aside0 (Below w.heap.size w wc))
             case first =>
              have H := HC50.out
              clear HC50
              by_cases c51 : x19_2 < x15_1
              · rw [if_pos c51] at H
                have c51b0 : decide (x19_2 < x15_1) = true := decide_eq_true c51
                clear c51
                (first | rw [c51b0] | (simp only [i64_w, i32_w]; rw [c51b0]) | skip)
                have H' := Aside0.mk H
                clear H
                go_wp2
                go_meet
                case rel => exact ⟨_, (true), d49x, H', ⟨by have := HK1.out; have := HK2.out; first | omega | exact Nat.le_refl _⟩, ⟨d49p⟩, ⟨d49q⟩, ⟨d49r⟩, ⟨d49m⟩, ⟨d49c⟩⟩
              · rw [if_neg c51] at H
                have c51b0 : decide (x19_2 < x15_1) = false := decide_eq_false c51
                clear c51
                (first | rw [c51b0] | (simp only [i64_w, i32_w]; rw [c51b0]) | skip)
                by_cases c52 : x19_2 = x15_1
                · rw [if_pos c52] at H
                  have c52b0 : (x19_2 == x15_1) = true := beq_iff_eq.mpr c52
                  have c52b1 : (x19_2 != x15_1) = false := bne_eq_false_iff_eq.mpr c52
                  clear c52
                  by_cases c53 : (x18_2.length : Int) > (x14_1.length : Int)
                  · rw [if_pos c53] at H
                    have c53b0 : decide ((x14_1.length : Int) < (x18_2.length : Int)) = true := decide_eq_true c53
                    have c53b1 : decide (x14_1.length < x18_2.length) = true := decide_eq_true (Int.ofNat_lt.mp c53)
                    clear c53
                    have H' := Aside0.mk H
                    clear H
                    obtain ⟨Ao54, co54, eo54⟩ := Kd.R_slice HO_18.out
                    subst eo54
                    obtain ⟨Ao55, co55, eo55⟩ := Kd.R_slice HO_14.out
                    subst eo55
                    go_wp2
                    go_meet
                    case rel => exact ⟨_, (true), d49x, H', ⟨by have := HK1.out; have := HK2.out; first | omega | exact Nat.le_refl _⟩, ⟨d49p⟩, ⟨d49q⟩, ⟨d49r⟩, ⟨d49m⟩, ⟨d49c⟩⟩
                  · rw [if_neg c53] at H
                    have c53b0 : decide ((x14_1.length : Int) < (x18_2.length : Int)) = false := decide_eq_false c53
                    have c53b1 : decide (x14_1.length < x18_2.length) = false := decide_eq_false (fun h => c53 (Int.ofNat_lt.mpr h))
                    clear c53
                    by_cases c56 : (x18_2.length : Int) = (x14_1.length : Int)
                    · rw [if_pos c56] at H
                      have c56b0 : ((x18_2.length : Int) == (x14_1.length : Int)) = true := beq_iff_eq.mpr c56
                      have c56b1 : ((x18_2.length : Int) != (x14_1.length : Int)) = false := bne_eq_false_iff_eq.mpr c56
                      have c56b2 : (x18_2.length == x14_1.length) = true := by first | simpa using c56 | (simp at c56 ⊢; omega)
                      clear c56
                      replace H := bindS H; obtain ⟨t122, A57, H⟩ := H
                      have H' := Aside0.mk H
                      clear H
                      obtain ⟨Ao58, co58, eo58⟩ := Kd.R_slice HO_18.out
                      subst eo58
                      obtain ⟨Ao59, co59, eo59⟩ := Kd.R_slice HO_14.out
                      subst eo59
                      go_wp2_with (go_at_call 83; (with_reducible refine (slices_Compare_int_int.calls k2 _ _ x18_2 _ _ x14_1 t122 _ ?side1 ?side2 ?side3 ?side4 A57.out).mono ?_); (case side1 => exact C_go (Kd.R_reads' HO_18.out).2.2); (case side2 => exact (Kd.R_reads' HO_18.out).2.1); (case side3 => exact C_go (Kd.R_reads' HO_14.out).2.2); (case side4 => exact (Kd.R_reads' HO_14.out).2.1); rintro e w' ⟨rfl, ⟨nd, rfl⟩⟩)
                      go_meet
                      case rel => exact ⟨_, (decide (t122 ≥ 0)), d49x, H', ⟨by have := HK1.out; have := HK2.out; first | omega | exact Nat.le_refl _⟩, ⟨d49p⟩, ⟨d49q⟩, ⟨d49r⟩, ⟨d49m⟩, ⟨d49c⟩⟩
                    · rw [if_neg c56] at H
                      have c56b0 : ((x18_2.length : Int) == (x14_1.length : Int)) = false := beq_eq_false_iff_ne.mpr c56
                      have c56b1 : ((x18_2.length : Int) != (x14_1.length : Int)) = true := bne_iff_ne.mpr c56
                      have c56b2 : (x18_2.length == x14_1.length) = false := by first | simpa using c56 | (simp at c56 ⊢; omega)
                      have H' := Aside0.mk H
                      clear H
                      obtain ⟨Ao60, co60, eo60⟩ := Kd.R_slice HO_18.out
                      subst eo60
                      obtain ⟨Ao61, co61, eo61⟩ := Kd.R_slice HO_14.out
                      subst eo61
                      go_wp2
                      go_meet
                      case rel => exact ⟨_, (false), d49x, H', ⟨by have := HK1.out; have := HK2.out; first | omega | exact Nat.le_refl _⟩, ⟨d49p⟩, ⟨d49q⟩, ⟨d49r⟩, ⟨d49m⟩, ⟨d49c⟩⟩
                · rw [if_neg c52] at H
                  have c52b0 : (x19_2 == x15_1) = false := beq_eq_false_iff_ne.mpr c52
                  have c52b1 : (x19_2 != x15_1) = true := bne_iff_ne.mpr c52
                  have H' := Aside0.mk H
                  clear H
                  go_wp2
                  go_meet
                  case rel => exact ⟨_, (false), d49x, H', ⟨by have := HK1.out; have := HK2.out; first | omega | exact Nat.le_refl _⟩, ⟨d49p⟩, ⟨d49q⟩, ⟨d49r⟩, ⟨d49m⟩, ⟨d49c⟩⟩
             case rest =>
              clear HC50
              try clear c17b0
              obtain ⟨kq, x101_49, rfl, HA, HJ49, HO_14, HO_17, HO_18, BK101, HB⟩ := hcut
              cases kq with
              | zero => exact absurd HA.out (by simp [power_Kept.j2])
              | succ kj49 =>
               have H := HA.out
               clear HA
               simp only [power_Kept.j2] at H
               by_cases c62 : x101_49 = true
               · subst c62
                 replace H := iteT H
                 have H' := Aside0.mk H
                 clear H
                 go_wp2
                 go_roundg kj49
                 case measure => have := HK1.out; have := HK2.out; have := HJ49.out; omega
                 case rel => exact ⟨(x14_1), (x15_1), (wrap64 (x39_1 + 1)), d49x, d49x, H', ⟨by have := HK1.out; have := HK2.out; have := HJ49.out; omega⟩, ⟨by (with_reducible repeat (first | apply Kd.R_alloc | apply Kd.R_drewN | apply Kd.R_drew)); exact Kd.R_mono HO_14.out (fun _ hk => trivial)⟩, ⟨d49m⟩, ⟨d49c⟩⟩
               · replace c62 := Bool.eq_false_iff.mpr c62
                 subst c62
                 replace H := iteF H
                 replace H := bindS H; obtain ⟨t123, A63, H⟩ := H
                 by_cases c64 : t123 < 0
                 · rw [if_pos c64] at H
                   have c64b0 : decide (t123 < 0) = true := decide_eq_true c64
                   clear c64
                   have H' := Aside0.mk H
                   clear H
                   obtain ⟨hcz65_0, hcz65_1, hcz65_2, hcz65_3, hcz65_4⟩ := blkC5 BK101.out
                   have hfz65_0 := blk_frozen BK101.out 0
                   have hfz65_1 := blk_frozen BK101.out 1
                   have hfz65_2 := blk_frozen BK101.out 2
                   have hfz65_3 := blk_frozen BK101.out 3
                   have hfz65_4 := blk_frozen BK101.out 4
                   obtain ⟨Ao66, co66, eo66⟩ := Kd.R_slice HO_17.out
                   subst eo66
                   go_wp2_with ((with_reducible refine gate_callee (f := 73) rfl ?_); refine goesL_ (some 107) rfl rfl Try.func73 (by kernel_rfl) rfl #[.agg #[.int .i64 a0_0, .int .i64 a0_1, .int .i64 a0_2, .int .i64 a0_3, .int .i64 a0_4], .slice A1 l1.length c1, .slice A2 l2.length c2, .slice Ao66 x17_2.length co66, .int .i64 a4] rfl d49k ?_; (with_reducible refine (power_empty.calls kj49 a0_0 a0_1 a0_2 a0_3 a0_4 _ _ l1 _ _ l2 _ _ x17_2 a4 t123 _ ?side1 ?side2 ?side3 ?side4 ?side5 ?side6 A63.out).mono ?_); (case side1 => exact d49z); (case side2 => exact HC1.out); (case side3 => exact d49a1); (case side4 => exact HC2.out); (case side5 => exact C_go (Kd.R_reads' HO_17.out).2.2); (case side6 => exact (Kd.R_reads' HO_17.out).2.1); rintro e w67 ⟨rfl, hb⟩; refine ⟨_, rfl, ?_⟩; have n0_ := Aside0.mk (Kd.R_below d49p hb); have n1_ := Aside0.mk (Kd.R_below d49q hb); have n2_ := Aside0.mk (Kd.R_below d49r hb); have n3_ := Aside0.mk (blk_below (g := gb101) (o := .cells #[.int .i64 a0_0, .int .i64 a0_1, .int .i64 a0_2, .int .i64 a0_3, .int .i64 a0_4] 23 (0, 0)) d49m hb); have n4_ := Aside0.mk (below_step d49c hb); clear HO_14; clear HO_17; clear HO_18; clear BK101; clear HB; have HO_14 := n0_; have HO_17 := n1_; have HO_18 := n2_; have BK101 := n3_; have HB := n4_; clear n0_ n1_ n2_ n3_ n4_; (try clear hb))
                   go_roundg kj49
                   case measure => have := HK1.out; have := HK2.out; have := HJ49.out; omega
                   case rel => exact ⟨(x18_2), (x19_2), (wrap64 (x39_1 + 1)), d49x, d49x, H', ⟨by have := HK1.out; have := HK2.out; have := HJ49.out; omega⟩, ⟨by (with_reducible repeat (first | apply Kd.R_alloc | apply Kd.R_drewN | apply Kd.R_drew)); exact Kd.R_mono HO_18.out (fun _ hk => trivial)⟩, ⟨d49m⟩, ⟨d49c⟩⟩
                 · rw [if_neg c64] at H
                   have c64b0 : decide (t123 < 0) = false := decide_eq_false c64
                   clear c64
                   have H' := Aside0.mk H
                   clear H
                   obtain ⟨hcz68_0, hcz68_1, hcz68_2, hcz68_3, hcz68_4⟩ := blkC5 BK101.out
                   have hfz68_0 := blk_frozen BK101.out 0
                   have hfz68_1 := blk_frozen BK101.out 1
                   have hfz68_2 := blk_frozen BK101.out 2
                   have hfz68_3 := blk_frozen BK101.out 3
                   have hfz68_4 := blk_frozen BK101.out 4
                   obtain ⟨Ao69, co69, eo69⟩ := Kd.R_slice HO_17.out
                   subst eo69
                   go_wp2_with ((with_reducible refine gate_callee (f := 73) rfl ?_); refine goesL_ (some 107) rfl rfl Try.func73 (by kernel_rfl) rfl #[.agg #[.int .i64 a0_0, .int .i64 a0_1, .int .i64 a0_2, .int .i64 a0_3, .int .i64 a0_4], .slice A1 l1.length c1, .slice A2 l2.length c2, .slice Ao69 x17_2.length co69, .int .i64 a4] rfl d49k ?_; (with_reducible refine (power_empty.calls kj49 a0_0 a0_1 a0_2 a0_3 a0_4 _ _ l1 _ _ l2 _ _ x17_2 a4 t123 _ ?side1 ?side2 ?side3 ?side4 ?side5 ?side6 A63.out).mono ?_); (case side1 => exact d49z); (case side2 => exact HC1.out); (case side3 => exact d49a1); (case side4 => exact HC2.out); (case side5 => exact C_go (Kd.R_reads' HO_17.out).2.2); (case side6 => exact (Kd.R_reads' HO_17.out).2.1); rintro e w70 ⟨rfl, hb⟩; refine ⟨_, rfl, ?_⟩; have n0_ := Aside0.mk (Kd.R_below d49p hb); have n1_ := Aside0.mk (Kd.R_below d49q hb); have n2_ := Aside0.mk (Kd.R_below d49r hb); have n3_ := Aside0.mk (blk_below (g := gb101) (o := .cells #[.int .i64 a0_0, .int .i64 a0_1, .int .i64 a0_2, .int .i64 a0_3, .int .i64 a0_4] 23 (0, 0)) d49m hb); have n4_ := Aside0.mk (below_step d49c hb); clear HO_14; clear HO_17; clear HO_18; clear BK101; clear HB; have HO_14 := n0_; have HO_17 := n1_; have HO_18 := n2_; have BK101 := n3_; have HB := n4_; clear n0_ n1_ n2_ n3_ n4_; (try clear hb))
                   go_roundg kj49
                   case measure => have := HK1.out; have := HK2.out; have := HJ49.out; omega
                   case rel => exact ⟨(x14_1), (x15_1), (wrap64 (x39_1 + 1)), d49x, d49x, H', ⟨by have := HK1.out; have := HK2.out; have := HJ49.out; omega⟩, ⟨by (with_reducible repeat (first | apply Kd.R_alloc | apply Kd.R_drewN | apply Kd.R_drew)); exact Kd.R_mono HO_14.out (fun _ hk => trivial)⟩, ⟨d49m⟩, ⟨d49c⟩⟩
       · rw [if_neg c16] at H
         have c16b0 : decide (x39_1 < ji12) = false := decide_eq_false c16
         clear c16
         obtain ⟨ji71, hji71⟩ : ∃ j_ : Int, (mx x15_1 0) = j_ := ⟨_, rfl⟩
         replace H : (some (x14_1, ji71, 0)) = some (r1, r2, r3) := by first | (rw [hji71] at H; exact H) | (simp only [hji71] at H ⊢; exact H)
         have hji71_ : (if x15_1 < 0 then 0 else x15_1) = ji71 := hji71
         simp only [Option.some.injEq, Prod.mk.injEq] at H
         obtain ⟨rfl, rfl, rfl⟩ := H
         go_wp2
         go_ret3
         exact ⟨_, by first | rfl | (simp [errW_none, errW_some] <;> rfl) | (simp only [← hji12, ← hji71]; first | rfl | (simp [errW_none, errW_some] <;> rfl)) | (simp [*, errW_none, errW_some] <;> rfl), d49p, d49c⟩
 · rw [if_neg c7] at H
   have c7b0 : (t102 == 0) = false := beq_eq_false_iff_ne.mpr c7
   have c7b1 : (t102 != 0) = true := bne_iff_ne.mpr c7
   simp only [Option.some.injEq, Prod.mk.injEq] at H
   obtain ⟨rfl, rfl, rfl⟩ := H
   go_enter Try.func49, Try.ntmps49
   go_wp2_with (first | ((with_reducible refine gate_dst (N := 5) rfl ?_); (try (refine gate_guard (by rfl) ?_; dsimp only)); refine box_event ?hg (N := 5) ?hd (cs := #[.int .i64 a0_0, .int .i64 a0_1, .int .i64 a0_2, .int .i64 a0_3, .int .i64 a0_4]) (t := 23) ?hr ?_; (case hd => rfl); (case hg => rfl); (case hr => exact d49y); intro gb101 hg w72 hbox hb; have n0_ := Aside0.mk (below_step d49l hb); have n1_ := Aside0.mk (hbox); have n2_ := Aside0.mk ((by rw [hg]; exact (below_size d49l) : w.heap.size ≤ gb101)); have n3_ := Aside0.mk ((by rw [hg]; exact (below_size d49l) : w.heap.size ≤ gb101)); clear HB; have HB := n0_; have BK101 := n1_; have GW101 := n2_; have GE101 := n3_; clear n0_ n1_ n2_ n3_; clear hb hbox hg; have hcz73_0 : w72.cell? ⟨gb101, 0, none⟩ = some (.int .i64 a0_0) := (blk_cell BK101.out 0).trans rfl; have hcz73_1 : w72.cell? ⟨gb101, 1, none⟩ = some (.int .i64 a0_1) := (blk_cell BK101.out 1).trans rfl; have hcz73_2 : w72.cell? ⟨gb101, 2, none⟩ = some (.int .i64 a0_2) := (blk_cell BK101.out 2).trans rfl; have hcz73_3 : w72.cell? ⟨gb101, 3, none⟩ = some (.int .i64 a0_3) := (blk_cell BK101.out 3).trans rfl; have hcz73_4 : w72.cell? ⟨gb101, 4, none⟩ = some (.int .i64 a0_4) := (blk_cell BK101.out 4).trans rfl; have hfz73_0 := blk_frozen BK101.out 0; have hfz73_1 := blk_frozen BK101.out 1; have hfz73_2 := blk_frozen BK101.out 2; have hfz73_3 := blk_frozen BK101.out 3; have hfz73_4 := blk_frozen BK101.out 4) | ((with_reducible refine gate_callee (f := 66) rfl ?_); refine goesL_ (some 29) rfl rfl Try.func66 (by kernel_rfl) rfl #[.agg #[.int .i64 a0_0, .int .i64 a0_1, .int .i64 a0_2, .int .i64 a0_3, .int .i64 a0_4], .slice A1 l1.length c1, .slice A2 l2.length c2, .slice A3 l3.length c3, .int .i64 a4] rfl d49k ?_; (with_reducible refine (power_check.calls k a0_0 a0_1 a0_2 a0_3 a0_4 _ _ l1 _ _ l2 _ _ l3 a4 t102 _ ?side1 ?side2 ?side3 ?side4 ?side5 ?side6 A6.out).mono ?_); (case side1 => exact d49z); (case side2 => exact HC1.out); (case side3 => exact d49a1); (case side4 => exact HC2.out); (case side5 => exact C_go (Kd.C_below HR3.out HB.out)); (case side6 => exact HC3.out); rintro e w74 ⟨rfl, hb⟩; refine ⟨_, rfl, ?_⟩; have n0_ := Aside0.mk (blk_below (g := gb101) (o := .cells #[.int .i64 a0_0, .int .i64 a0_1, .int .i64 a0_2, .int .i64 a0_3, .int .i64 a0_4] 23 (0, 0)) d49m hb); have n1_ := Aside0.mk (below_step d49c hb); clear BK101; clear HB; have BK101 := n0_; have HB := n1_; clear n0_ n1_; (try clear hb)))
   go_ret3
   exact ⟨_, by first | rfl | (simp [errW_none, errW_some] <;> rfl) | (simp [*, errW_none, errW_some] <;> rfl), d49j, d49c⟩
end Go.Proofs.Ytplcdpiggpkppaa.Q
