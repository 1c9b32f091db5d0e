-- Made by wip/tools/claimp.py of this session's texts; Lean checks it.
import Derived.Test.YtplcdpiggpkppaaC13Q0
import Derived.Test.YtplcdpiggpkppaaC13Ge13
import Derived.Test.YtplcdpiggpkppaaC13Ge22
import Derived.Test.YtplcdpiggpkppaaC13Ge23
import Derived.Test.YtplcdpiggpkppaaC13Ge24
import Derived.Test.YtplcdpiggpkppaaC13Ge8
namespace Go.Proofs.Ytplcdpiggpkppaa.Q
open Go.RowKit Go.Proofs.YtplcdpiggpkppaaW.PrintWords Go.Proofs.YtplcdpiggpkppaaW.PrintLast Go.Proofs.YtplcdpiggpkppaaW.PrintMore
attribute [local go_sem] max2_int min2_int max_two min_two max_three min_three max_four min_four
open Go.Proofs.Ytplcdpiggpkppaa.Base
attribute [local go_sem high] str_leq str_gtr str_geq
set_option linter.unusedVariables false
set_option linter.unusedSimpArgs false
mutual
def perigeelaw9_PowerShedMatchesSpec.j0 : Nat → List (S72) → List (S76) → Int → List (S47) → Int → Bool → Int → Int → Int → Int → Int → Option (Bool)
  | 0, _, _, _, _, _, _, _, _, _, _, _ => none
  | k + 1, x1, x2, x4, x11, x12, x49, x102000, x102001, x102002, x102003, x102004 => if x49 = true then (some false) else (if x12 = 0 then ((power_Empty.f k x102000 x102001 x102002 x102003 x102004 x1 x2 x11 x4).bind fun bt112 => (perigeelaw9_PowerShedMatchesSpec.l0 k bt112.2.2 bt112.1 bt112.2.1 x11 (x11.length : Int) 0)) else (some true))
def perigeelaw9_PowerShedMatchesSpec.l0 : Nat → Int → Int → Bool → List (S47) → Int → Int → Option (Bool)
  | 0, _, _, _, _, _, _ => none
  | k + 1, x12, x15, x16, x62, x63, x64 => if x64 < x63 then (if 0 ≤ x64 then (if x64 < (x62.length : Int) then (if x16 = true then (if ((rd_T47 x62 x64).f1) < x15 then (some false) else (perigeelaw9_PowerShedMatchesSpec.l0 k x12 x15 x16 x62 x63 (wrap64 (x64 + 1)))) else (perigeelaw9_PowerShedMatchesSpec.l0 k x12 x15 x16 x62 x63 (wrap64 (x64 + 1)))) else (none)) else (none)) else (some (x12 == 0))
end
def perigeelaw9_PowerShedMatchesSpec.f (k : Nat) (a0_0 : Int) (a0_1 : Int) (a0_2 : Int) (a0_3 : Int) (a0_4 : Int) (l1 : List (S72)) (l2 : List (S76)) (l3 : List (S47)) (a4 : Int) : Option (Bool) := (power_Shed.f k a0_0 a0_1 a0_2 a0_3 a0_4 l1 l2 l3 a4).bind fun bt102 => ((perigeeref9_Shed.f k a0_0 a0_1 a0_2 a0_3 a0_4 l1 l2 l3 a4).bind fun bt106 => (if bt102.2 = bt106.2 then ((api_Use_48.f k bt102.1 bt106.1).bind fun t110 => (if t110 = true then ((perigeelaw9_awake.f k).bind fun t111 => (perigeelaw9_PowerShedMatchesSpec.j0 k l1 l2 a4 bt102.1 bt102.2 (!t111) a0_0 a0_1 a0_2 a0_3 a0_4)) else (perigeelaw9_PowerShedMatchesSpec.j0 k l1 l2 a4 bt102.1 bt102.2 true a0_0 a0_1 a0_2 a0_3 a0_4))) else (perigeelaw9_PowerShedMatchesSpec.j0 k l1 l2 a4 bt102.1 bt102.2 true a0_0 a0_1 a0_2 a0_3 a0_4)))
theorem d12a {p : Prop} (h : p := by repeat (first | (with_reducible first | exact HB.out | apply below_alloc | apply pw_below_drewN | apply below_drew1 | refine below_set ?_ GE101.out | refine below_set ?_ GE116.out) | exact HB.out)) : p := h
theorem d12b {p : Prop} (h : p := by repeat (first | (with_reducible first | exact HB.out | apply below_alloc | apply pw_below_drewN | apply below_drew1 | refine below_set ?_ GE101.out) | exact HB.out)) : p := h
theorem d12c {p : Prop} (h : p := by (try simp only [List.map_toArray, List.map_cons, List.map_nil]); first | done | rfl | (simp only [List.length_drop, List.length_take]; rfl)) : p := h
theorem d12d {p : Prop} (h : p := by (with_reducible repeat (first | apply Kd.R_alloc | apply Kd.R_drewN | apply Kd.R_drew)); exact Kd.R_mono HO104.out (fun _ hk => trivial)) : p := h
theorem d12e {p : Prop} (h : p := by repeat (first | (with_reducible first | exact HB.out | apply below_alloc | apply pw_below_drewN | apply below_drew1) | exact HB.out)) : p := h
theorem d12f {p : Prop} (h : p := by (with_reducible repeat (first | refine blk_drewN ?_ _ | refine blk_drew ?_ | refine blk_alloc ?_ _)); exact BK101.out) : p := h
theorem d12g {p : Prop} (h : p := by (with_reducible repeat (first | apply Kd.R_alloc | apply Kd.R_drewN | apply Kd.R_drew)); exact HO104.out) : p := h
theorem d12h {p : Prop} (h : p := by (with_reducible repeat (first | apply Kd.R_alloc | apply Kd.R_drewN | apply Kd.R_drew)); exact HO_62.out) : p := h
theorem d12i {p : Prop} (h : p := by first | rfl | (simp [errW_none, errW_some] <;> rfl) | (simp [*, errW_none, errW_some] <;> rfl)) : p := h
theorem d12j {p : Prop} (h : p := by first | (with_reducible assumption) | assumption) : p := h
theorem d12k {p : Prop} (h : p := by first | rfl | (simp; done) | (simp [*]; done)) : p := h
theorem d12l {p : Prop} (h : p := by first | (go_simp; done) | (go_simp; rfl)) : p := h
set_option maxHeartbeats 8000000 in
set_option maxRecDepth 100000 in
theorem perigeelaw9_PowerShedMatchesSpec.calls (k : Nat) (a0_0 : Int) (a0_1 : Int) (a0_2 : Int) (a0_3 : Int) (a0_4 : Int) (A1 : Option Addr) (c1 : Nat) (l1 : List (S72)) (A2 : Option Addr) (c2 : Nat) (l2 : List (S76)) (A3 : Option Addr) (c3 : Nat) (l3 : List (S47)) (a4 : Int) (r : Bool) (w : World) (hr1 : Kd.C k72 w A1 l1.length l1) (hc1 : l1.length ≤ c1) (hr2 : Kd.C k76 w A2 l2.length l2) (hc2 : l2.length ≤ c2) (hr3 : Kd.C k47 w A3 l3.length l3) (hc3 : l3.length ≤ c3) (h : perigeelaw9_PowerShedMatchesSpec.f k a0_0 a0_1 a0_2 a0_3 a0_4 l1 l2 l3 a4 = some r) :
 Calls Try.prog 12 #[.agg #[.int .i64 a0_0, .int .i64 a0_1, .int .i64 a0_2, .int .i64 a0_3, .int .i64 a0_4], .slice A1 l1.length c1, .slice A2 l2.length c2, .slice A3 l3.length c3, .int .i64 a4] w fun e w' => e = .returned (.bool r) ∧ Below w.heap.size w w' := by
 have hu23 := Try.underlying23
 have hu47 := Try.underlying47
 have HR1 := Aside0.mk hr1
 have HC1 := Aside0.mk hc1
 clear hr1 hc1
 have HR2 := Aside0.mk hr2
 have HC2 := Aside0.mk hc2
 clear hr2 hc2
 have HR3 := Aside0.mk hr3
 have HC3 := Aside0.mk hc3
 clear hr3 hc3
 have HB := Aside0.mk (Below.refl w.heap.size w)
 have H : ((power_Shed.f k a0_0 a0_1 a0_2 a0_3 a0_4 l1 l2 l3 a4).bind fun bt102 => ((perigeeref9_Shed.f k a0_0 a0_1 a0_2 a0_3 a0_4 l1 l2 l3 a4).bind fun bt106 => (if bt102.2 = bt106.2 then ((api_Use_48.f k bt102.1 bt106.1).bind fun t110 => (if t110 = true then ((perigeelaw9_awake.f k).bind fun t111 => (perigeelaw9_PowerShedMatchesSpec.j0 k l1 l2 a4 bt102.1 bt102.2 (!t111) a0_0 a0_1 a0_2 a0_3 a0_4)) else (perigeelaw9_PowerShedMatchesSpec.j0 k l1 l2 a4 bt102.1 bt102.2 true a0_0 a0_1 a0_2 a0_3 a0_4))) else (perigeelaw9_PowerShedMatchesSpec.j0 k l1 l2 a4 bt102.1 bt102.2 true a0_0 a0_1 a0_2 a0_3 a0_4)))) = some r := h
 clear h
 replace H := bindS H; obtain ⟨⟨t102, t105⟩, A6, H⟩ := H
 replace H := bindS H; obtain ⟨⟨t106, t109⟩, A7, H⟩ := H
 have HC8 := Aside0.mk H
 clear H
 go_enter Try.func12, Try.ntmps12
 go_upto_region 3 with (first | ((with_reducible refine gate_dst (N := 5) rfl ?_); refine box_event ?hg (N := 5) ?hd (cs := #[.int .i64 a0_0, .int .i64 a0_1, .int .i64 a0_2, .int .i64 a0_3, .int .i64 a0_4]) (t := 23) ?hr ?_; (case hd => rfl); (case hg => rfl); (case hr => exact d12l); intro gb101 hg w9 hbox hb; have n0_ := Aside0.mk (below_step d12e hb); have n1_ := Aside0.mk (hbox); have n2_ := Aside0.mk ((by rw [hg]; exact (below_size d12e) : w.heap.size ≤ gb101)); have n3_ := Aside0.mk ((by rw [hg]; exact (below_size d12e) : w.heap.size ≤ gb101)); clear HB; have HB := n0_; have BK101 := n1_; have GW101 := n2_; have GE101 := n3_; clear n0_ n1_ n2_ n3_; clear hb hbox hg; have hcz10_0 : w9.cell? ⟨gb101, 0, none⟩ = some (.int .i64 a0_0) := (blk_cell BK101.out 0).trans rfl; have hcz10_1 : w9.cell? ⟨gb101, 1, none⟩ = some (.int .i64 a0_1) := (blk_cell BK101.out 1).trans rfl; have hcz10_2 : w9.cell? ⟨gb101, 2, none⟩ = some (.int .i64 a0_2) := (blk_cell BK101.out 2).trans rfl; have hcz10_3 : w9.cell? ⟨gb101, 3, none⟩ = some (.int .i64 a0_3) := (blk_cell BK101.out 3).trans rfl; have hcz10_4 : w9.cell? ⟨gb101, 4, none⟩ = some (.int .i64 a0_4) := (blk_cell BK101.out 4).trans rfl; have hfz10_0 := blk_frozen BK101.out 0; have hfz10_1 := blk_frozen BK101.out 1; have hfz10_2 := blk_frozen BK101.out 2; have hfz10_3 := blk_frozen BK101.out 3; have hfz10_4 := blk_frozen BK101.out 4) | ((with_reducible refine gate_callee (f := 46) rfl ?_); refine goesL_ (some 25) rfl rfl Try.func46 (by kernel_rfl) rfl #[.agg #[.int .i64 a0_0, .int .i64 a0_1, .int .i64 a0_2, .int .i64 a0_3, .int .i64 a0_4], .slice A1 l1.length c1, .slice A2 l2.length c2, .slice A3 l3.length c3, .int .i64 a4] rfl d12c ?_; (with_reducible refine (power_Shed.calls k a0_0 a0_1 a0_2 a0_3 a0_4 _ _ l1 _ _ l2 _ _ l3 a4 t102 t105 _ ?side1 ?side2 ?side3 ?side4 ?side5 ?side6 A6.out).mono ?_); (case side1 => exact C_go (Kd.C_below HR1.out HB.out)); (case side2 => exact HC1.out); (case side3 => exact C_go (Kd.C_below HR2.out HB.out)); (case side4 => exact HC2.out); (case side5 => exact C_go (Kd.C_below HR3.out HB.out)); (case side6 => exact HC3.out); rintro e w11 ⟨v103, rfl, ho0, hb⟩; refine ⟨_, rfl, ?_⟩; have n0_ := Aside0.mk (Kd.R_lower ho0 (below_size d12b)); have n1_ := Aside0.mk (blk_below (g := gb101) (o := .cells #[.int .i64 a0_0, .int .i64 a0_1, .int .i64 a0_2, .int .i64 a0_3, .int .i64 a0_4] 23 (0, 0)) d12f hb); have n2_ := Aside0.mk (below_step d12b hb); clear BK101; clear HB; have HO104 := n0_; have BK101 := n1_; have HB := n2_; clear n0_ n1_ n2_; (try clear hb); (try clear ho0); have hcz12_0 : w11.cell? ⟨gb101, 0, none⟩ = some (.int .i64 a0_0) := (blk_cell BK101.out 0).trans rfl; have hcz12_1 : w11.cell? ⟨gb101, 1, none⟩ = some (.int .i64 a0_1) := (blk_cell BK101.out 1).trans rfl; have hcz12_2 : w11.cell? ⟨gb101, 2, none⟩ = some (.int .i64 a0_2) := (blk_cell BK101.out 2).trans rfl; have hcz12_3 : w11.cell? ⟨gb101, 3, none⟩ = some (.int .i64 a0_3) := (blk_cell BK101.out 3).trans rfl; have hcz12_4 : w11.cell? ⟨gb101, 4, none⟩ = some (.int .i64 a0_4) := (blk_cell BK101.out 4).trans rfl; have hfz12_0 := blk_frozen BK101.out 0; have hfz12_1 := blk_frozen BK101.out 1; have hfz12_2 := blk_frozen BK101.out 2; have hfz12_3 := blk_frozen BK101.out 3; have hfz12_4 := blk_frozen BK101.out 4) | ((with_reducible refine gate_callee (f := 47) rfl ?_); refine goesL_ (some 34) rfl rfl Try.func47 (by kernel_rfl) rfl #[.agg #[.int .i64 a0_0, .int .i64 a0_1, .int .i64 a0_2, .int .i64 a0_3, .int .i64 a0_4], .slice A1 l1.length c1, .slice A2 l2.length c2, .slice A3 l3.length c3, .int .i64 a4] rfl d12c ?_; (with_reducible refine (perigeeref9_Shed.calls k a0_0 a0_1 a0_2 a0_3 a0_4 _ _ l1 _ _ l2 _ _ l3 a4 t106 t109 _ ?side1 ?side2 ?side3 ?side4 ?side5 ?side6 A7.out).mono ?_); (case side1 => exact C_go (Kd.C_below HR1.out HB.out)); (case side2 => exact HC1.out); (case side3 => exact C_go (Kd.C_below HR2.out HB.out)); (case side4 => exact HC2.out); (case side5 => exact C_go (Kd.C_below HR3.out HB.out)); (case side6 => exact HC3.out); rintro e w13 ⟨v107, rfl, ho0, hb⟩; refine ⟨_, rfl, ?_⟩; have n0_ := Aside0.mk (Kd.R_elder' d12g (Kd.R_base ho0) hb); have n1_ := Aside0.mk (Kd.R_lower (Kd.R_new' ho0 (Kd.R_lt d12g)) (below_size d12b)); have n2_ := Aside0.mk (blk_below (g := gb101) (o := .cells #[.int .i64 a0_0, .int .i64 a0_1, .int .i64 a0_2, .int .i64 a0_3, .int .i64 a0_4] 23 (0, 0)) d12f hb); have n3_ := Aside0.mk (below_step d12b hb); clear HO104; clear BK101; clear HB; have HO104 := n0_; have HO108 := n1_; have BK101 := n2_; have HB := n3_; clear n0_ n1_ n2_ n3_; (try clear hb); (try clear ho0)))
 (try simp only [Act.put, List.setIfInBounds_toArray, List.set_cons_zero, List.set_cons_succ])
 go_cut [49] (fun v49 wc => ∃ (kq : Nat) (x49_7 : Bool), v49 = .bool x49_7 ∧ Aside0 (perigeelaw9_PowerShedMatchesSpec.j0 kq l1 l2 a4 t102 t105 x49_7 a0_0 a0_1 a0_2 a0_3 a0_4 = some r) ∧ Aside0 (kq ≤ k) ∧ Aside0 (Kd.R k47 47 wc w.heap.size (fun _ => True) v103 t102) ∧ Aside0 (wc.heap[gb101]? = some (.cells #[.int .i64 a0_0, .int .i64 a0_1, .int .i64 a0_2, .int .i64 a0_3, .int .i64 a0_4] 23 (0, 0))) ∧ Aside0 (Below w.heap.size w wc))
 case first =>
  have H := HC8.out
  clear HC8
  by_cases c14 : t105 = t109
  · rw [if_pos c14] at H
    have c14b0 : (t105 == t109) = true := beq_iff_eq.mpr c14
    have c14b1 : (t105 != t109) = false := bne_eq_false_iff_eq.mpr c14
    clear c14
    (first | rw [c14b0] | (simp only [i64_w, i32_w]; rw [c14b0]) | skip)
    replace H := bindS H; obtain ⟨t110, A15, H⟩ := H
    by_cases c16 : t110 = true
    · subst c16
      replace H := iteT H
      replace H := bindS H; obtain ⟨t111, A17, H⟩ := H
      have H' := Aside0.mk H
      clear H
      obtain ⟨Ao18, co18, eo18⟩ := Kd.R_slice HO104.out
      subst eo18
      obtain ⟨Ao19, co19, eo19⟩ := Kd.R_slice HO108.out
      subst eo19
      go_wp2_with (first | (go_at_call 48; (with_reducible refine (api_Use_48.calls k _ _ t102 _ _ t106 true _ ?side1 ?side2 ?side3 ?side4 A15.out).mono ?_); (case side1 => exact C_go (Kd.R_reads' HO104.out).2.2); (case side2 => exact (Kd.R_reads' HO104.out).2.1); (case side3 => exact C_go (Kd.R_reads' HO108.out).2.2); (case side4 => exact (Kd.R_reads' HO108.out).2.1); rintro e w' ⟨rfl, ⟨nd, rfl⟩⟩) | (go_at_call 27; (with_reducible refine (perigeelaw9_awake.calls k  t111 _ A17.out).mono ?_); rintro e w20 ⟨rfl, hb⟩; have n0_ := Aside0.mk (Kd.R_below d12g hb); have n1_ := Aside0.mk (Kd.R_below (by (with_reducible repeat (first | apply Kd.R_alloc | apply Kd.R_drewN | apply Kd.R_drew)); exact HO108.out) hb); have n2_ := Aside0.mk (blk_below (g := gb101) (o := .cells #[.int .i64 a0_0, .int .i64 a0_1, .int .i64 a0_2, .int .i64 a0_3, .int .i64 a0_4] 23 (0, 0)) d12f hb); have n3_ := Aside0.mk (below_step d12b hb); clear HO104; clear HO108; clear BK101; clear HB; have HO104 := n0_; have HO108 := n1_; have BK101 := n2_; have HB := n3_; clear n0_ n1_ n2_ n3_; (try clear hb)))
      go_meet
      case rel => exact ⟨_, (!t111), d12k, H', ⟨by first | omega | exact Nat.le_refl _⟩, ⟨d12d⟩, ⟨d12f⟩, ⟨d12b⟩⟩
    · replace c16 := Bool.eq_false_iff.mpr c16
      subst c16
      replace H := iteF H
      have H' := Aside0.mk H
      clear H
      obtain ⟨Ao21, co21, eo21⟩ := Kd.R_slice HO104.out
      subst eo21
      obtain ⟨Ao22, co22, eo22⟩ := Kd.R_slice HO108.out
      subst eo22
      go_wp2_with (go_at_call 48; (with_reducible refine (api_Use_48.calls k _ _ t102 _ _ t106 false _ ?side1 ?side2 ?side3 ?side4 A15.out).mono ?_); (case side1 => exact C_go (Kd.R_reads' HO104.out).2.2); (case side2 => exact (Kd.R_reads' HO104.out).2.1); (case side3 => exact C_go (Kd.R_reads' HO108.out).2.2); (case side4 => exact (Kd.R_reads' HO108.out).2.1); rintro e w' ⟨rfl, ⟨nd, rfl⟩⟩)
      go_meet
      case rel => exact ⟨_, (true), d12k, H', ⟨by first | omega | exact Nat.le_refl _⟩, ⟨d12d⟩, ⟨d12f⟩, ⟨d12b⟩⟩
  · rw [if_neg c14] at H
    have c14b0 : (t105 == t109) = false := beq_eq_false_iff_ne.mpr c14
    have c14b1 : (t105 != t109) = true := bne_iff_ne.mpr c14
    (first | rw [c14b0] | (simp only [i64_w, i32_w]; rw [c14b0]) | skip)
    have H' := Aside0.mk H
    clear H
    go_wp2
    go_meet
    case rel => exact ⟨_, (true), d12k, H', ⟨by first | omega | exact Nat.le_refl _⟩, ⟨d12d⟩, ⟨d12f⟩, ⟨d12b⟩⟩
 case rest =>
  clear HC8
  try clear hcz10_0
  try clear hcz10_1
  try clear hcz10_2
  try clear hcz10_3
  try clear hcz10_4
  try clear hcz12_0
  try clear hcz12_1
  try clear hcz12_2
  try clear hcz12_3
  try clear hcz12_4
  try clear hfz10_0
  try clear hfz10_1
  try clear hfz10_2
  try clear hfz10_3
  try clear hfz10_4
  try clear hfz12_0
  try clear hfz12_1
  try clear hfz12_2
  try clear hfz12_3
  try clear hfz12_4
  obtain ⟨kq, x49_7, rfl, HA, HJ7, HO_11, BK101, HB⟩ := hcut
  cases kq with
  | zero => exact absurd HA.out (by simp [perigeelaw9_PowerShedMatchesSpec.j0])
  | succ kj7 =>
   have H := HA.out
   clear HA
   simp only [perigeelaw9_PowerShedMatchesSpec.j0] at H
   by_cases c23 : x49_7 = true
   · subst c23
     replace H := iteT H
     obtain rfl := Option.some.inj H
     go_wp2
     go_ret
     exact ⟨d12i, d12b⟩
   · replace c23 := Bool.eq_false_iff.mpr c23
     subst c23
     replace H := iteF H
     by_cases c24 : t105 = 0
     · rw [if_pos c24] at H
       have c24b0 : (t105 == 0) = true := beq_iff_eq.mpr c24
       have c24b1 : (t105 != 0) = false := bne_eq_false_iff_eq.mpr c24
       clear c24
       replace H := bindS H; obtain ⟨⟨t112, t113, t114⟩, A25, H⟩ := H
       have H' := Aside0.mk H
       clear H
       obtain ⟨hcz26_0, hcz26_1, hcz26_2, hcz26_3, hcz26_4⟩ := blkC5 BK101.out
       have hfz26_0 := blk_frozen BK101.out 0
       have hfz26_1 := blk_frozen BK101.out 1
       have hfz26_2 := blk_frozen BK101.out 2
       have hfz26_3 := blk_frozen BK101.out 3
       have hfz26_4 := blk_frozen BK101.out 4
       obtain ⟨Ao27, co27, eo27⟩ := Kd.R_slice HO_11.out
       subst eo27
       go_wp2_with ((with_reducible refine gate_callee (f := 35) rfl ?_); refine goesL_ (some 58) rfl rfl Try.func35 (by kernel_rfl) rfl #[.agg #[.int .i64 a0_0, .int .i64 a0_1, .int .i64 a0_2, .int .i64 a0_3, .int .i64 a0_4], .slice A1 l1.length c1, .slice A2 l2.length c2, .slice Ao27 t102.length co27, .int .i64 a4] rfl d12c ?_; (with_reducible refine (power_Empty.calls kj7 a0_0 a0_1 a0_2 a0_3 a0_4 _ _ l1 _ _ l2 _ _ t102 a4 t112 t113 t114 _ ?side1 ?side2 ?side3 ?side4 ?side5 ?side6 A25.out).mono ?_); (case side1 => exact C_go (Kd.C_below HR1.out HB.out)); (case side2 => exact HC1.out); (case side3 => exact C_go (Kd.C_below HR2.out HB.out)); (case side4 => exact HC2.out); (case side5 => exact C_go (Kd.R_reads' HO_11.out).2.2); (case side6 => exact (Kd.R_reads' HO_11.out).2.1); rintro e w28 ⟨rfl, hb⟩; refine ⟨_, rfl, ?_⟩; have n0_ := Aside0.mk (Kd.R_below (by (with_reducible repeat (first | apply Kd.R_alloc | apply Kd.R_drewN | apply Kd.R_drew)); exact HO_11.out) hb); have n1_ := Aside0.mk (blk_below (g := gb101) (o := .cells #[.int .i64 a0_0, .int .i64 a0_1, .int .i64 a0_2, .int .i64 a0_3, .int .i64 a0_4] 23 (0, 0)) d12f hb); have n2_ := Aside0.mk (below_step d12b hb); clear HO_11; clear BK101; clear HB; have HO_11 := n0_; have BK101 := n1_; have HB := n2_; clear n0_ n1_ n2_; (try clear hb))
       go_loopg [64] kj7 (fun kq v64 w' => ∃ (x64_2 : Int), v64 = .int .i64 x64_2 ∧ Aside0 (perigeelaw9_PowerShedMatchesSpec.l0 kq t114 t112 t113 t102 (t102.length : Int) x64_2 = some r) ∧ Aside0 (kq ≤ kj7) ∧ Aside0 (Kd.R k47 47 w' w.heap.size (fun _ => True) (.slice Ao27 t102.length co27) t102) ∧ Aside0 (w'.heap[gb101]? = some (.cells #[.int .i64 a0_0, .int .i64 a0_1, .int .i64 a0_2, .int .i64 a0_3, .int .i64 a0_4] 23 (0, 0))) ∧ Aside0 (Below w.heap.size w w'))
       case atStart => exact ⟨(0), d12k, H', ⟨Nat.le_refl _⟩, ⟨by (with_reducible repeat (first | apply Kd.R_alloc | apply Kd.R_drewN | apply Kd.R_drew)); exact HO_11.out⟩, ⟨d12f⟩, ⟨d12b⟩⟩
       case round =>
        clear H'
        try clear c24b0
        try clear c24b1
        try clear hcz26_0
        try clear hcz26_1
        try clear hcz26_2
        try clear hcz26_3
        try clear hcz26_4
        try clear hfz26_0
        try clear hfz26_1
        try clear hfz26_2
        try clear hfz26_3
        try clear hfz26_4
        obtain ⟨x64_2, rfl, HA, HK2, HO_62, BK101, HB⟩ := hrel
        cases gk with
        | zero => exact absurd HA.out (by simp [perigeelaw9_PowerShedMatchesSpec.l0])
        | succ k2 =>
         have H := HA.out
         clear HA
         simp only [perigeelaw9_PowerShedMatchesSpec.l0] at H
         by_cases c29 : x64_2 < (t102.length : Int)
         · rw [if_pos c29] at H
           have c29b0 : decide (x64_2 < (t102.length : Int)) = true := decide_eq_true c29
           clear c29
           replace H := guardT H; obtain ⟨c30, H⟩ := H
           have c30b0 : decide (0 ≤ x64_2) = true := decide_eq_true c30
           clear c30
           replace H := guardT H; obtain ⟨c31, H⟩ := H
           have c31b0 : decide (x64_2 < (t102.length : Int)) = true := decide_eq_true c31
           clear c31
           by_cases c32 : t113 = true
           · subst c32
             replace H := iteT H
             by_cases c33 : ((rd_T47 t102 x64_2).f1) < t112
             · rw [if_pos c33] at H
               have c33b0 : decide (((rd_T47 t102 x64_2).f1) < t112) = true := decide_eq_true c33
               clear c33
               obtain rfl := Option.some.inj H
               have p115 : 0 ≤ (x64_2 : Int) := of_decide_eq_true d12j
               have q115 : x64_2 < (t102.length : Int) := of_decide_eq_true d12j
               obtain ⟨ad115, e115, hx115_0, hx115_1, hx115_2⟩ := at_T47 (Kd.R_reads' HO_62.out).2.2 x64_2 p115 q115
               cases e115
               replace p115 := eq_true p115
               replace q115 := eq_true q115
               go_wp2_with ((with_reducible refine gate_dst (N := 18) rfl ?_); refine box_event ?hg (N := 18) ?hd (cs := #[.string (⟨#[]⟩ : ByteArray), .int .i64 0, .int .i64 0]) (t := 47) ?hr ?_; (case hd => rfl); (case hg => rfl); (case hr => exact d12l); intro gb116 hg w34 hbox hb; have n0_ := Aside0.mk (Kd.R_below (Kd.R_elderB d12h gb116 (Nat.le_of_eq hg.symm)) hb); have n1_ := Aside0.mk (blk_below (g := gb101) (o := .cells #[.int .i64 a0_0, .int .i64 a0_1, .int .i64 a0_2, .int .i64 a0_3, .int .i64 a0_4] 23 (0, 0)) d12f hb); have n2_ := Aside0.mk (below_step d12b hb); have n3_ := Aside0.mk (hbox); have n4_ := Aside0.mk ((by rw [hg]; exact (below_size d12b) : w.heap.size ≤ gb116)); have n5_ := Aside0.mk ((by rw [hg]; exact (below_size d12b) : w.heap.size ≤ gb116)); have n6_ := Aside0.mk ((by rw [hg]; exact Nat.ne_of_lt (blk_lt (g := gb101) (o := .cells #[.int .i64 a0_0, .int .i64 a0_1, .int .i64 a0_2, .int .i64 a0_3, .int .i64 a0_4] 23 (0, 0)) d12f) : gb101 ≠ gb116)); have n7_ := Aside0.mk ((by rw [hg]; exact Nat.ne_of_gt (blk_lt (g := gb101) (o := .cells #[.int .i64 a0_0, .int .i64 a0_1, .int .i64 a0_2, .int .i64 a0_3, .int .i64 a0_4] 23 (0, 0)) d12f) : gb116 ≠ gb101)); clear HO_62; clear BK101; clear HB; have HO_62 := n0_; have BK101 := n1_; have HB := n2_; have BK116 := n3_; have GW116 := n4_; have GE116 := n5_; have NB101_116 := n6_; have NB116_101 := n7_; clear n0_ n1_ n2_ n3_ n4_ n5_ n6_ n7_; clear hb hbox hg; have hnb35 := NB116_101.out; have hnc35 := NB101_116.out; have hcz36_0 : w34.cell? ⟨gb116, 0, none⟩ = some (.string (⟨#[]⟩ : ByteArray)) := (blk_cell BK116.out 0).trans rfl; have hcz36_1 : w34.cell? ⟨gb116, 1, none⟩ = some (.int .i64 0) := (blk_cell BK116.out 1).trans rfl; have hcz36_2 : w34.cell? ⟨gb116, 2, none⟩ = some (.int .i64 0) := (blk_cell BK116.out 2).trans rfl; have hfz36_0 := blk_frozen BK116.out 0; have hfz36_1 := blk_frozen BK116.out 1; have hfz36_2 := blk_frozen BK116.out 2)
               go_ret
               exact ⟨d12i, d12a⟩
             · rw [if_neg c33] at H
               have c33b0 : decide (((rd_T47 t102 x64_2).f1) < t112) = false := decide_eq_false c33
               clear c33
               have H' := Aside0.mk H
               clear H
               have p115 : 0 ≤ (x64_2 : Int) := of_decide_eq_true d12j
               have q115 : x64_2 < (t102.length : Int) := of_decide_eq_true d12j
               obtain ⟨ad115, e115, hx115_0, hx115_1, hx115_2⟩ := at_T47 (Kd.R_reads' HO_62.out).2.2 x64_2 p115 q115
               cases e115
               replace p115 := eq_true p115
               replace q115 := eq_true q115
               go_wp2_with ((with_reducible refine gate_dst (N := 18) rfl ?_); refine box_event ?hg (N := 18) ?hd (cs := #[.string (⟨#[]⟩ : ByteArray), .int .i64 0, .int .i64 0]) (t := 47) ?hr ?_; (case hd => rfl); (case hg => rfl); (case hr => exact d12l); intro gb116 hg w37 hbox hb; have n0_ := Aside0.mk (Kd.R_below (Kd.R_elderB d12h gb116 (Nat.le_of_eq hg.symm)) hb); have n1_ := Aside0.mk (blk_below (g := gb101) (o := .cells #[.int .i64 a0_0, .int .i64 a0_1, .int .i64 a0_2, .int .i64 a0_3, .int .i64 a0_4] 23 (0, 0)) d12f hb); have n2_ := Aside0.mk (below_step d12b hb); have n3_ := Aside0.mk (hbox); have n4_ := Aside0.mk ((by rw [hg]; exact (below_size d12b) : w.heap.size ≤ gb116)); have n5_ := Aside0.mk ((by rw [hg]; exact (below_size d12b) : w.heap.size ≤ gb116)); have n6_ := Aside0.mk ((by rw [hg]; exact Nat.ne_of_lt (blk_lt (g := gb101) (o := .cells #[.int .i64 a0_0, .int .i64 a0_1, .int .i64 a0_2, .int .i64 a0_3, .int .i64 a0_4] 23 (0, 0)) d12f) : gb101 ≠ gb116)); have n7_ := Aside0.mk ((by rw [hg]; exact Nat.ne_of_gt (blk_lt (g := gb101) (o := .cells #[.int .i64 a0_0, .int .i64 a0_1, .int .i64 a0_2, .int .i64 a0_3, .int .i64 a0_4] 23 (0, 0)) d12f) : gb116 ≠ gb101)); clear HO_62; clear BK101; clear HB; have HO_62 := n0_; have BK101 := n1_; have HB := n2_; have BK116 := n3_; have GW116 := n4_; have GE116 := n5_; have NB101_116 := n6_; have NB116_101 := n7_; clear n0_ n1_ n2_ n3_ n4_ n5_ n6_ n7_; clear hb hbox hg; have hnb38 := NB116_101.out; have hnc38 := NB101_116.out; have hcz39_0 : w37.cell? ⟨gb116, 0, none⟩ = some (.string (⟨#[]⟩ : ByteArray)) := (blk_cell BK116.out 0).trans rfl; have hcz39_1 : w37.cell? ⟨gb116, 1, none⟩ = some (.int .i64 0) := (blk_cell BK116.out 1).trans rfl; have hcz39_2 : w37.cell? ⟨gb116, 2, none⟩ = some (.int .i64 0) := (blk_cell BK116.out 2).trans rfl; have hfz39_0 := blk_frozen BK116.out 0; have hfz39_1 := blk_frozen BK116.out 1; have hfz39_2 := blk_frozen BK116.out 2)
               go_roundg k2
               case measure => have := HJ7.out; have := HK2.out; omega
               case rel => exact ⟨(wrap64 (x64_2 + 1)), d12k, H', ⟨by have := HJ7.out; have := HK2.out; omega⟩, ⟨by (with_reducible repeat (first | apply Kd.R_alloc | apply Kd.R_drewN | apply Kd.R_drew)); exact Kd.R_mono (Kd.R_far (p := ⟨gb116, 2, none⟩) (Kd.R_far (p := ⟨gb116, 1, none⟩) (Kd.R_far (p := ⟨gb116, 0, none⟩) (Kd.R_mono HO_62.out (fun k_ hk => (⟨hk, hk.2⟩ : _ ∧ k_ ≠ gb116))) (fun _ hk => hk.2) (.string ((rd_T47 t102 x64_2).f0))) (fun _ hk => hk.2) (.int .i64 ((rd_T47 t102 x64_2).f1))) (fun _ hk => hk.2) (.int .i64 ((rd_T47 t102 x64_2).f2))) (fun _ hk => trivial)⟩, ⟨by (with_reducible repeat (first | refine blk_drewN ?_ _ | refine blk_drew ?_ | refine blk_alloc ?_ _)); refine blk_far ?_ NB101_116.out _; (with_reducible repeat (first | refine blk_drewN ?_ _ | refine blk_drew ?_ | refine blk_alloc ?_ _)); refine blk_far ?_ NB101_116.out _; (with_reducible repeat (first | refine blk_drewN ?_ _ | refine blk_drew ?_ | refine blk_alloc ?_ _)); refine blk_far ?_ NB101_116.out _; (with_reducible repeat (first | refine blk_drewN ?_ _ | refine blk_drew ?_ | refine blk_alloc ?_ _)); exact BK101.out⟩, ⟨d12a⟩⟩
           · replace c32 := Bool.eq_false_iff.mpr c32
             subst c32
             replace H := iteF H
             have H' := Aside0.mk H
             clear H
             have p115 : 0 ≤ (x64_2 : Int) := of_decide_eq_true d12j
             have q115 : x64_2 < (t102.length : Int) := of_decide_eq_true d12j
             obtain ⟨ad115, e115, hx115_0, hx115_1, hx115_2⟩ := at_T47 (Kd.R_reads' HO_62.out).2.2 x64_2 p115 q115
             cases e115
             replace p115 := eq_true p115
             replace q115 := eq_true q115
             go_wp2_with ((with_reducible refine gate_dst (N := 18) rfl ?_); refine box_event ?hg (N := 18) ?hd (cs := #[.string (⟨#[]⟩ : ByteArray), .int .i64 0, .int .i64 0]) (t := 47) ?hr ?_; (case hd => rfl); (case hg => rfl); (case hr => exact d12l); intro gb116 hg w40 hbox hb; have n0_ := Aside0.mk (Kd.R_below (Kd.R_elderB d12h gb116 (Nat.le_of_eq hg.symm)) hb); have n1_ := Aside0.mk (blk_below (g := gb101) (o := .cells #[.int .i64 a0_0, .int .i64 a0_1, .int .i64 a0_2, .int .i64 a0_3, .int .i64 a0_4] 23 (0, 0)) d12f hb); have n2_ := Aside0.mk (below_step d12b hb); have n3_ := Aside0.mk (hbox); have n4_ := Aside0.mk ((by rw [hg]; exact (below_size d12b) : w.heap.size ≤ gb116)); have n5_ := Aside0.mk ((by rw [hg]; exact (below_size d12b) : w.heap.size ≤ gb116)); have n6_ := Aside0.mk ((by rw [hg]; exact Nat.ne_of_lt (blk_lt (g := gb101) (o := .cells #[.int .i64 a0_0, .int .i64 a0_1, .int .i64 a0_2, .int .i64 a0_3, .int .i64 a0_4] 23 (0, 0)) d12f) : gb101 ≠ gb116)); have n7_ := Aside0.mk ((by rw [hg]; exact Nat.ne_of_gt (blk_lt (g := gb101) (o := .cells #[.int .i64 a0_0, .int .i64 a0_1, .int .i64 a0_2, .int .i64 a0_3, .int .i64 a0_4] 23 (0, 0)) d12f) : gb116 ≠ gb101)); clear HO_62; clear BK101; clear HB; have HO_62 := n0_; have BK101 := n1_; have HB := n2_; have BK116 := n3_; have GW116 := n4_; have GE116 := n5_; have NB101_116 := n6_; have NB116_101 := n7_; clear n0_ n1_ n2_ n3_ n4_ n5_ n6_ n7_; clear hb hbox hg; have hnb41 := NB116_101.out; have hnc41 := NB101_116.out; have hcz42_0 : w40.cell? ⟨gb116, 0, none⟩ = some (.string (⟨#[]⟩ : ByteArray)) := (blk_cell BK116.out 0).trans rfl; have hcz42_1 : w40.cell? ⟨gb116, 1, none⟩ = some (.int .i64 0) := (blk_cell BK116.out 1).trans rfl; have hcz42_2 : w40.cell? ⟨gb116, 2, none⟩ = some (.int .i64 0) := (blk_cell BK116.out 2).trans rfl; have hfz42_0 := blk_frozen BK116.out 0; have hfz42_1 := blk_frozen BK116.out 1; have hfz42_2 := blk_frozen BK116.out 2)
             go_roundg k2
             case measure => have := HJ7.out; have := HK2.out; omega
             case rel => exact ⟨(wrap64 (x64_2 + 1)), d12k, H', ⟨by have := HJ7.out; have := HK2.out; omega⟩, ⟨by (with_reducible repeat (first | apply Kd.R_alloc | apply Kd.R_drewN | apply Kd.R_drew)); exact Kd.R_mono (Kd.R_far (p := ⟨gb116, 2, none⟩) (Kd.R_far (p := ⟨gb116, 1, none⟩) (Kd.R_far (p := ⟨gb116, 0, none⟩) (Kd.R_mono HO_62.out (fun k_ hk => (⟨hk, hk.2⟩ : _ ∧ k_ ≠ gb116))) (fun _ hk => hk.2) (.string ((rd_T47 t102 x64_2).f0))) (fun _ hk => hk.2) (.int .i64 ((rd_T47 t102 x64_2).f1))) (fun _ hk => hk.2) (.int .i64 ((rd_T47 t102 x64_2).f2))) (fun _ hk => trivial)⟩, ⟨by (with_reducible repeat (first | refine blk_drewN ?_ _ | refine blk_drew ?_ | refine blk_alloc ?_ _)); refine blk_far ?_ NB101_116.out _; (with_reducible repeat (first | refine blk_drewN ?_ _ | refine blk_drew ?_ | refine blk_alloc ?_ _)); refine blk_far ?_ NB101_116.out _; (with_reducible repeat (first | refine blk_drewN ?_ _ | refine blk_drew ?_ | refine blk_alloc ?_ _)); refine blk_far ?_ NB101_116.out _; (with_reducible repeat (first | refine blk_drewN ?_ _ | refine blk_drew ?_ | refine blk_alloc ?_ _)); exact BK101.out⟩, ⟨d12a⟩⟩
         · rw [if_neg c29] at H
           have c29b0 : decide (x64_2 < (t102.length : Int)) = false := decide_eq_false c29
           clear c29
           obtain rfl := Option.some.inj H
           go_wp2
           go_ret
           exact ⟨d12i, d12b⟩
     · rw [if_neg c24] at H
       have c24b0 : (t105 == 0) = false := beq_eq_false_iff_ne.mpr c24
       have c24b1 : (t105 != 0) = true := bne_iff_ne.mpr c24
       obtain rfl := Option.some.inj H
       go_wp2
       go_ret
       exact ⟨d12i, d12b⟩
end Go.Proofs.Ytplcdpiggpkppaa.Q
