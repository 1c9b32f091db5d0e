-- Made by wip/tools/claimp.py of this session's texts; Lean checks it.
import Derived.Test.YtbngmblgkkdhpaaC9Q0
import Derived.Test.YtbngmblgkkdhpaaC9Gs13
import Derived.Test.YtbngmblgkkdhpaaC9Gs19
import Derived.Test.YtbngmblgkkdhpaaC9Gs2
namespace Go.Proofs.Ytbngmblgkkdhpaa.Q
open Go.RowKit Go.Proofs.YtbngmblgkkdhpaaW.PrintWords Go.Proofs.YtbngmblgkkdhpaaW.PrintLast Go.Proofs.YtbngmblgkkdhpaaW.PrintMore
attribute [local go_sem] max2_int min2_int max_two min_two max_three min_three max_four min_four
open Go.Proofs.Ytbngmblgkkdhpaa.Base
attribute [local go_sem high] str_leq str_gtr str_geq
set_option linter.unusedVariables false
set_option linter.unusedSimpArgs false
mutual
def perigeelaw10_SendingWastesNothing.j0 : Nat → List (S33) → List Int → List (S63) → Int → List (S65) → Int → List (S61) → Bool → Option (Bool)
  | 0, _, _, _, _, _, _, _, _ => none
  | k + 1, x0, x1, x2, x3, x9, x10, x11, x50 => if x50 = true then (if x10 = 0 then ((perigeelaw10_awake.f k).bind fun t109 => (some t109)) else (if (x9.length : Int) = 0 then ((perigeelaw10_awake.f k).bind fun t110 => (some t110)) else (some false))) else (if (x9.length : Int) = (x2.length : Int) then (if 0 ≤ x3 then (if x3 < (x9.length : Int) then (if ((rd_T65 x9 x3).f2) ≥ 0 then ((perigeelaw10_awake.f k).bind fun t112 => (some t112)) else (perigeelaw10_SendingWastesNothing.l0 k x0 x1 x2 x3 x11 0 0)) else (none)) else (none)) else (some false))
def perigeelaw10_SendingWastesNothing.l0 : Nat → List (S33) → List Int → List (S63) → Int → List (S61) → Int → Int → Option (Bool)
  | 0, _, _, _, _, _, _, _ => none
  | k + 1, x0, x1, x2, x3, x11, x13, x14 => if x14 < (x1.length : Int) then (if 0 ≤ x14 then (if (rd x1 x14) < 0 then (perigeelaw10_SendingWastesNothing.j2 k x0 x1 x2 x3 x11 x13 x14 true) else (perigeelaw10_SendingWastesNothing.j2 k x0 x1 x2 x3 x11 x13 x14 (decide ((rd x1 x14) ≥ (x0.length : Int))))) else (none)) else (if 0 ≤ x3 then (if x3 < (x2.length : Int) then ((contact_Backlog.f k x0 x1 x2 ((rd_T63 x2 x3).f3)).bind fun bt122 => ((contact_Backlog.f k x0 x1 x2 1000000000000).bind fun bt124 => (if bt122.2 = 0 then (perigeelaw10_SendingWastesNothing.j3 k x2 x3 x11 x13 bt122.1 bt124.1 (bt124.2 != 0)) else (perigeelaw10_SendingWastesNothing.j3 k x2 x3 x11 x13 bt122.1 bt124.1 true)))) else (none)) else (none))
def perigeelaw10_SendingWastesNothing.j2 : Nat → List (S33) → List Int → List (S63) → Int → List (S61) → Int → Int → Bool → Option (Bool)
  | 0, _, _, _, _, _, _, _, _ => none
  | k + 1, x0, x1, x2, x3, x11, x13, x14, x92 => if x92 = true then (some false) else (if 0 ≤ x14 then (if x14 < (x1.length : Int) then (if 0 ≤ x3 then (if x3 < (x2.length : Int) then (if 0 ≤ (rd x1 x14) then (if (rd x1 x14) < (x0.length : Int) then ((contact_Volume.f k x0 (rd x1 x14) ((rd_T63 x2 x3).f3) ((rd_T33 x0 (rd x1 x14)).f2)).bind fun bt119 => (if bt119.2 = 0 then (perigeelaw10_SendingWastesNothing.l0 k x0 x1 x2 x3 x11 (wrap64 (x13 + bt119.1)) (wrap64 (x14 + 1))) else (some false))) else (none)) else (none)) else (none)) else (none)) else (none)) else (none))
def perigeelaw10_SendingWastesNothing.j3 : Nat → List (S63) → Int → List (S61) → Int → Int → Int → Bool → Option (Bool)
  | 0, _, _, _, _, _, _, _ => none
  | k + 1, x2, x3, x11, x13, x17, x18, x144 => if x144 = true then (some false) else (perigeelaw10_SendingWastesNothing.l1 k x2 x3 x11 x13 x17 x18 0 0)
def perigeelaw10_SendingWastesNothing.l1 : Nat → List (S63) → Int → List (S61) → Int → Int → Int → Int → Int → Option (Bool)
  | 0, _, _, _, _, _, _, _, _ => none
  | k + 1, x2, x3, x11, x13, x17, x18, x19, x20 => if x20 < (x2.length : Int) then (if 0 ≤ x20 then (if 0 ≤ x3 then (if x3 < (x2.length : Int) then (if ((rd_T63 x2 x20).f3) ≥ ((rd_T63 x2 x3).f3) then (if ((rd_T63 x2 x20).f3) < 1000000000000 then (perigeelaw10_SendingWastesNothing.l1 k x2 x3 x11 x13 x17 x18 (wrap64 (x19 + ((rd_T63 x2 x20).f1))) (wrap64 (x20 + 1))) else (perigeelaw10_SendingWastesNothing.l1 k x2 x3 x11 x13 x17 x18 x19 (wrap64 (x20 + 1)))) else (perigeelaw10_SendingWastesNothing.l1 k x2 x3 x11 x13 x17 x18 x19 (wrap64 (x20 + 1)))) else (none)) else (none)) else (none)) else (if 0 ≤ x3 then (if x3 < (x2.length : Int) then (if ((rd_T63 x2 x3).f3) = 1000000000000 then (if (x11.length : Int) ≥ 0 then ((perigeelaw10_awake.f k).bind fun t131 => (some t131)) else (some false)) else (if (wrap64 ((wrap64 (x17 + x19)) - x18)) = x13 then (if (x11.length : Int) ≥ 0 then ((perigeelaw10_awake.f k).bind fun t132 => (some t132)) else (some false)) else (some false))) else (none)) else (none))
end
def perigeelaw10_SendingWastesNothing.f (k : Nat) (l0 : List (S33)) (l1 : List Int) (l2 : List (S63)) (a3 : Int) : Option (Bool) := (contact_Result.f k l0 l1 l2).bind fun bt101 => ((contact_Send.f k l0 l1 l2).bind fun bt105 => (if bt101.2 = 0 then (if bt105.2 = 0 then (if a3 < 0 then (perigeelaw10_SendingWastesNothing.j0 k l0 l1 l2 a3 bt101.1 bt101.2 bt105.1 true) else (perigeelaw10_SendingWastesNothing.j0 k l0 l1 l2 a3 bt101.1 bt101.2 bt105.1 (decide (a3 ≥ (l2.length : Int))))) else (perigeelaw10_SendingWastesNothing.j0 k l0 l1 l2 a3 bt101.1 bt101.2 bt105.1 true)) else (perigeelaw10_SendingWastesNothing.j0 k l0 l1 l2 a3 bt101.1 bt101.2 bt105.1 true)))
def perigeelaw10_SendingWastesNothing.T15 : Bool × List (List Nat × List Nat) := (true, [([], []), ([], []), ([], []), ([1, 2], [1, 2]), ([3], [3]), ([], []), ([], []), ([5, 6], [5, 6]), ([7], [7]), ([8], [8]), ([], []), ([], []), ([], []), ([11, 12], [11, 12]), ([13], [13]), ([10, 14], [10, 14]), ([15], [15]), ([16], [16]), ([0, 4, 9, 17], [0, 4, 9, 17]), ([18], [18]), ([19], [19]), ([19], [19]), ([20, 18, 0, 1, 2, 3, 4, 5, 6, 7, 8, 9, 10, 11, 12, 13, 14, 15, 16, 17, 18, 19, 20], [20]), ([21, 22, 0, 1, 2, 3, 4, 5, 6, 7, 8, 9, 10, 11, 12, 13, 14, 15, 16, 17, 18, 19, 20, 21, 22], [21])])
def perigeelaw10_SendingWastesNothing.B15 : List Nat := [0, 0, 0, 6, 14, 0, 0, 96, 224, 480, 0, 0, 0, 6144, 14336, 31744, 64512, 130048, 262143, 524287, 1048575, 1048575, 2097151, 8388607]
theorem perigeelaw10_SendingWastesNothing.tab15 : rtab .any (opsOf Try.f11 15) = perigeelaw10_SendingWastesNothing.T15 := by kernel_rfl
theorem perigeelaw10_SendingWastesNothing.bits15 : waitsOk perigeelaw10_SendingWastesNothing.T15.2 perigeelaw10_SendingWastesNothing.B15 = true := by kernel_rfl
def perigeelaw10_SendingWastesNothing.T27 : Bool × List (List Nat × List Nat) := (true, [([], []), ([], []), ([0, 1], [0, 1]), ([2], [2]), ([3], [3]), ([], []), ([], []), ([5, 6], [5, 6]), ([7], [7]), ([8], [8]), ([4, 9], [4, 9]), ([10], [10]), ([11], [11]), ([11], [11]), ([12, 13, 11], [11, 12, 13]), ([14, 11], [11, 14]), ([15, 11], [11, 15]), ([16, 11], [11, 16]), ([11, 17], [11, 17])])
def perigeelaw10_SendingWastesNothing.B27 : List Nat := [0, 0, 3, 7, 15, 0, 0, 96, 224, 480, 1023, 2047, 4095, 4095, 16383, 32767, 65535, 131071, 262143]
theorem perigeelaw10_SendingWastesNothing.tab27 : rtab .any (opsOf Try.f11 27) = perigeelaw10_SendingWastesNothing.T27 := by kernel_rfl
theorem perigeelaw10_SendingWastesNothing.bits27 : waitsOk perigeelaw10_SendingWastesNothing.T27.2 perigeelaw10_SendingWastesNothing.B27 = true := by kernel_rfl
theorem d11a {p : Prop} (h : p := by (try simp only [List.map_toArray, List.map_cons, List.map_nil]); first | done | rfl | (simp only [List.length_drop, List.length_take]; rfl)) : p := h
theorem d11b {p : Prop} (h : p := by repeat (first | (with_reducible first | exact HB.out | apply below_alloc | apply pw_below_drewN | apply below_drew1) | exact HB.out)) : p := h
theorem d11c {p : Prop} (h : p := by (with_reducible repeat (first | apply Kd.R_alloc | apply Kd.R_drewN | apply Kd.R_drew)); exact HO104.out) : p := h
theorem d11d {p : Prop} (h : p := by (with_reducible repeat (first | apply Kd.R_alloc | apply Kd.R_drewN | apply Kd.R_drew)); exact HO_11.out) : p := h
theorem d11e {p : Prop} (h : p := by (with_reducible repeat (first | apply Kd.R_alloc | apply Kd.R_drewN | apply Kd.R_drew)); exact HO108.out) : p := h
theorem d11f {p : Prop} (h : p := by (with_reducible repeat (first | apply Kd.R_alloc | apply Kd.R_drewN | apply Kd.R_drew)); exact HO_9.out) : p := h
theorem d11g {p : Prop} (h : p := by first | rfl | (simp [errW_none, errW_some] <;> rfl) | (simp [*, errW_none, errW_some] <;> rfl)) : p := h
theorem d11h {p : Prop} (h : p := by first | (with_reducible assumption) | assumption) : p := h
theorem d11i {p : Prop} (h : p := by first | rfl | (simp; done) | (simp [*]; done)) : p := h
theorem d11j {p : Prop} (h : p := by exact C_go (Kd.C_below HR0.out HB.out)) : p := h
set_option maxHeartbeats 8000000 in
set_option maxRecDepth 100000 in
theorem perigeelaw10_SendingWastesNothing.calls (k : Nat) (A0 : Option Addr) (c0 : Nat) (l0 : List (S33)) (A1 : Option Addr) (c1 : Nat) (l1 : List Int) (A2 : Option Addr) (c2 : Nat) (l2 : List (S63)) (a3 : Int) (r : Bool) (w : World) (hr0 : Kd.C k33 w A0 l0.length l0) (hc0 : l0.length ≤ c0) (hr1 : Kd.C (Kd.int .i64) w A1 l1.length l1) (hc1 : l1.length ≤ c1) (hr2 : Kd.C k63 w A2 l2.length l2) (hc2 : l2.length ≤ c2) (h : perigeelaw10_SendingWastesNothing.f k l0 l1 l2 a3 = some r) :
 Calls Try.prog 11 #[.slice A0 l0.length c0, .slice A1 l1.length c1, .slice A2 l2.length c2, .int .i64 a3] w fun e w' => e = .returned (.bool r) ∧ Below w.heap.size w w' := by
 have HR0 := Aside0.mk hr0
 have HC0 := Aside0.mk hc0
 clear hr0 hc0
 have HR1 := Aside0.mk hr1
 have HC1 := Aside0.mk hc1
 clear hr1 hc1
 have HR2 := Aside0.mk hr2
 have HC2 := Aside0.mk hc2
 clear hr2 hc2
 have HB := Aside0.mk (Below.refl w.heap.size w)
 have H : ((contact_Result.f k l0 l1 l2).bind fun bt101 => ((contact_Send.f k l0 l1 l2).bind fun bt105 => (if bt101.2 = 0 then (if bt105.2 = 0 then (if a3 < 0 then (perigeelaw10_SendingWastesNothing.j0 k l0 l1 l2 a3 bt101.1 bt101.2 bt105.1 true) else (perigeelaw10_SendingWastesNothing.j0 k l0 l1 l2 a3 bt101.1 bt101.2 bt105.1 (decide (a3 ≥ (l2.length : Int))))) else (perigeelaw10_SendingWastesNothing.j0 k l0 l1 l2 a3 bt101.1 bt101.2 bt105.1 true)) else (perigeelaw10_SendingWastesNothing.j0 k l0 l1 l2 a3 bt101.1 bt101.2 bt105.1 true)))) = some r := h
 clear h
 replace H := bindS H; obtain ⟨⟨t101, t102⟩, A5, H⟩ := H
 replace H := bindS H; obtain ⟨⟨t105, t106⟩, A6, H⟩ := H
 have HC7 := Aside0.mk H
 clear H
 go_enter Try.func11, Try.ntmps11
 go_upto_region 3 with (first | ((with_reducible refine gate_callee (f := 36) rfl ?_); refine goesL_ (some 25) rfl rfl Try.func36 (by kernel_rfl) rfl #[.slice A0 l0.length c0, .slice A1 l1.length c1, .slice A2 l2.length c2] rfl d11a ?_; (with_reducible refine (contact_Result.calls k _ _ l0 _ _ l1 _ _ l2 t101 t102 _ ?side1 ?side2 ?side3 ?side4 ?side5 ?side6 A5.out).mono ?_); (case side1 => exact C_go HR0.out); (case side2 => exact HC0.out); (case side3 => exact C_go HR1.out); (case side4 => exact HC1.out); (case side5 => exact C_go HR2.out); (case side6 => exact HC2.out); rintro e w8 ⟨v103, rfl, ho0, hb⟩; refine ⟨_, rfl, ?_⟩; have n0_ := Aside0.mk (Kd.R_lower ho0 (below_size d11b)); have n1_ := Aside0.mk (below_step d11b hb); clear HB; have HO104 := n0_; have HB := n1_; clear n0_ n1_; (try clear hb); (try clear ho0)) | ((with_reducible refine gate_callee (f := 35) rfl ?_); refine goesL_ (some 32) rfl rfl Try.func35 (by kernel_rfl) rfl #[.slice A0 l0.length c0, .slice A1 l1.length c1, .slice A2 l2.length c2] rfl d11a ?_; (with_reducible refine (contact_Send.calls k _ _ l0 _ _ l1 _ _ l2 t105 t106 _ ?side1 ?side2 ?side3 ?side4 ?side5 ?side6 A6.out).mono ?_); (case side1 => exact d11j); (case side2 => exact HC0.out); (case side3 => exact C_go (Kd.C_below HR1.out HB.out)); (case side4 => exact HC1.out); (case side5 => exact C_go (Kd.C_below HR2.out HB.out)); (case side6 => exact HC2.out); rintro e w9 ⟨v107, rfl, ho0, hb⟩; refine ⟨_, rfl, ?_⟩; have n0_ := Aside0.mk (Kd.R_below d11c hb); have n1_ := Aside0.mk (Kd.R_lower ho0 (below_size d11b)); have n2_ := Aside0.mk (below_step d11b hb); clear HO104; clear HB; have HO104 := n0_; have HO108 := n1_; have HB := n2_; clear n0_ n1_ n2_; (try clear hb); (try clear ho0)))
 (try simp only [Act.put, List.setIfInBounds_toArray, List.set_cons_zero, List.set_cons_succ])
 go_cut [50] (fun v50 wc => ∃ (kq : Nat) (x50_6 : Bool), v50 = .bool x50_6 ∧ Aside0 (perigeelaw10_SendingWastesNothing.j0 kq l0 l1 l2 a3 t101 t102 t105 x50_6 = some r) ∧ Aside0 (kq ≤ k) ∧ Aside0 (Kd.R k65 65 wc w.heap.size (fun _ => True) v103 t101) ∧ Aside0 (Kd.R k61 61 wc w.heap.size (fun _ => True) v107 t105) ∧ Aside0 (Below w.heap.size w wc))
 case first =>
  have H := HC7.out
  clear HC7
  by_cases c10 : t102 = 0
  · rw [if_pos c10] at H
    have c10b0 : (t102 == 0) = true := beq_iff_eq.mpr c10
    have c10b1 : (t102 != 0) = false := bne_eq_false_iff_eq.mpr c10
    clear c10
    (first | rw [c10b0] | (simp only [i64_w, i32_w]; rw [c10b0]) | skip)
    by_cases c11 : t106 = 0
    · rw [if_pos c11] at H
      have c11b0 : (t106 == 0) = true := beq_iff_eq.mpr c11
      have c11b1 : (t106 != 0) = false := bne_eq_false_iff_eq.mpr c11
      clear c11
      by_cases c12 : a3 < 0
      · rw [if_pos c12] at H
        have c12b0 : decide (a3 < 0) = true := decide_eq_true c12
        clear c12
        have H' := Aside0.mk H
        clear H
        go_wp2
        go_meet
        case rel => exact ⟨_, (true), d11i, H', ⟨by first | omega | exact Nat.le_refl _⟩, ⟨d11c⟩, ⟨d11e⟩, ⟨d11b⟩⟩
      · rw [if_neg c12] at H
        have c12b0 : decide (a3 < 0) = false := decide_eq_false c12
        clear c12
        have H' := Aside0.mk H
        clear H
        go_wp2
        go_meet
        case rel => exact ⟨_, (decide (a3 ≥ (l2.length : Int))), d11i, H', ⟨by first | omega | exact Nat.le_refl _⟩, ⟨d11c⟩, ⟨d11e⟩, ⟨d11b⟩⟩
    · rw [if_neg c11] at H
      have c11b0 : (t106 == 0) = false := beq_eq_false_iff_ne.mpr c11
      have c11b1 : (t106 != 0) = true := bne_iff_ne.mpr c11
      have H' := Aside0.mk H
      clear H
      go_wp2
      go_meet
      case rel => exact ⟨_, (true), d11i, H', ⟨by first | omega | exact Nat.le_refl _⟩, ⟨d11c⟩, ⟨d11e⟩, ⟨d11b⟩⟩
  · rw [if_neg c10] at H
    have c10b0 : (t102 == 0) = false := beq_eq_false_iff_ne.mpr c10
    have c10b1 : (t102 != 0) = true := bne_iff_ne.mpr c10
    (first | rw [c10b0] | (simp only [i64_w, i32_w]; rw [c10b0]) | skip)
    have H' := Aside0.mk H
    clear H
    go_wp2
    go_meet
    case rel => exact ⟨_, (true), d11i, H', ⟨by first | omega | exact Nat.le_refl _⟩, ⟨d11c⟩, ⟨d11e⟩, ⟨d11b⟩⟩
 case rest =>
  clear HC7
  obtain ⟨kq, x50_6, rfl, HA, HJ6, HO_9, HO_11, HB⟩ := hcut
  cases kq with
  | zero => exact absurd HA.out (by simp [perigeelaw10_SendingWastesNothing.j0])
  | succ kj6 =>
   have H := HA.out
   clear HA
   simp only [perigeelaw10_SendingWastesNothing.j0] at H
   by_cases c13 : x50_6 = true
   · subst c13
     replace H := iteT H
     by_cases c14 : t102 = 0
     · rw [if_pos c14] at H
       have c14b0 : (t102 == 0) = true := beq_iff_eq.mpr c14
       have c14b1 : (t102 != 0) = false := bne_eq_false_iff_eq.mpr c14
       clear c14
       replace H := bindS H; obtain ⟨t109, A15, H⟩ := H
       obtain rfl := Option.some.inj H
       go_wp2_with (go_at_call 14; (with_reducible refine (perigeelaw10_awake.calls kj6  t109 _ A15.out).mono ?_); rintro e w16 ⟨rfl, hb⟩; have n0_ := Aside0.mk (Kd.R_below d11f hb); have n1_ := Aside0.mk (Kd.R_below d11d hb); have n2_ := Aside0.mk (below_step d11b hb); clear HO_9; clear HO_11; clear HB; have HO_9 := n0_; have HO_11 := n1_; have HB := n2_; clear n0_ n1_ n2_; (try clear hb))
       go_ret
       exact ⟨d11g, d11b⟩
     · rw [if_neg c14] at H
       have c14b0 : (t102 == 0) = false := beq_eq_false_iff_ne.mpr c14
       have c14b1 : (t102 != 0) = true := bne_iff_ne.mpr c14
       by_cases c17 : (t101.length : Int) = 0
       · rw [if_pos c17] at H
         have c17b0 : ((t101.length : Int) == 0) = true := beq_iff_eq.mpr c17
         have c17b1 : ((t101.length : Int) != 0) = false := bne_eq_false_iff_eq.mpr c17
         clear c17
         replace H := bindS H; obtain ⟨t110, A18, H⟩ := H
         obtain rfl := Option.some.inj H
         obtain ⟨Ao19, co19, eo19⟩ := Kd.R_slice HO_9.out
         subst eo19
         go_wp2_with (go_at_call 14; (with_reducible refine (perigeelaw10_awake.calls kj6  t110 _ A18.out).mono ?_); rintro e w20 ⟨rfl, hb⟩; have n0_ := Aside0.mk (Kd.R_below d11f hb); have n1_ := Aside0.mk (Kd.R_below d11d hb); have n2_ := Aside0.mk (below_step d11b hb); clear HO_9; clear HO_11; clear HB; have HO_9 := n0_; have HO_11 := n1_; have HB := n2_; clear n0_ n1_ n2_; (try clear hb))
         go_ret
         exact ⟨d11g, d11b⟩
       · rw [if_neg c17] at H
         have c17b0 : ((t101.length : Int) == 0) = false := beq_eq_false_iff_ne.mpr c17
         have c17b1 : ((t101.length : Int) != 0) = true := bne_iff_ne.mpr c17
         have c17b2 : ¬ (t101 = []) := fun h_ => c17 (by rw [h_]; rfl)
         obtain rfl := Option.some.inj H
         obtain ⟨Ao21, co21, eo21⟩ := Kd.R_slice HO_9.out
         subst eo21
         go_wp2
         go_ret
         exact ⟨d11g, d11b⟩
   · replace c13 := Bool.eq_false_iff.mpr c13
     subst c13
     replace H := iteF H
     by_cases c22 : (t101.length : Int) = (l2.length : Int)
     · rw [if_pos c22] at H
       have c22b0 : ((t101.length : Int) == (l2.length : Int)) = true := beq_iff_eq.mpr c22
       have c22b1 : ((t101.length : Int) != (l2.length : Int)) = false := bne_eq_false_iff_eq.mpr c22
       have c22b2 : (t101.length == l2.length) = true := by first | simpa using c22 | (simp at c22 ⊢; omega)
       clear c22
       replace H := guardT H; obtain ⟨c23, H⟩ := H
       have c23b0 : decide (0 ≤ a3) = true := decide_eq_true c23
       clear c23
       replace H := guardT H; obtain ⟨c24, H⟩ := H
       have c24b0 : decide (a3 < (t101.length : Int)) = true := decide_eq_true c24
       clear c24
       by_cases c25 : ((rd_T65 t101 a3).f2) ≥ 0
       · rw [if_pos c25] at H
         have c25b0 : decide (0 ≤ ((rd_T65 t101 a3).f2)) = true := decide_eq_true c25
         clear c25
         replace H := bindS H; obtain ⟨t112, A26, H⟩ := H
         obtain rfl := Option.some.inj H
         obtain ⟨Ao27, co27, eo27⟩ := Kd.R_slice HO_9.out
         subst eo27
         have p111 : 0 ≤ (a3 : Int) := of_decide_eq_true d11h
         have q111 : a3 < (t101.length : Int) := of_decide_eq_true d11h
         obtain ⟨ad111, e111, hx111_0, hx111_1, hx111_2⟩ := at_T65 (Kd.R_reads' HO_9.out).2.2 a3 p111 q111
         cases e111
         replace p111 := eq_true p111
         replace q111 := eq_true q111
         go_wp2_with ((with_reducible refine gate_callee (f := 14) rfl ?_); refine goesL_ (some 72) rfl rfl Try.func14 (by kernel_rfl) rfl #[] rfl d11a ?_; (with_reducible refine (perigeelaw10_awake.calls kj6  t112 _ A26.out).mono ?_); rintro e w28 ⟨rfl, hb⟩; refine ⟨_, rfl, ?_⟩; have n0_ := Aside0.mk (Kd.R_below d11f hb); have n1_ := Aside0.mk (Kd.R_below d11d hb); have n2_ := Aside0.mk (below_step d11b hb); clear HO_9; clear HO_11; clear HB; have HO_9 := n0_; have HO_11 := n1_; have HB := n2_; clear n0_ n1_ n2_; (try clear hb))
         go_ret
         exact ⟨d11g, d11b⟩
       · rw [if_neg c25] at H
         have c25b0 : decide (0 ≤ ((rd_T65 t101 a3).f2)) = false := decide_eq_false c25
         clear c25
         have H' := Aside0.mk H
         clear H
         obtain ⟨Ao29, co29, eo29⟩ := Kd.R_slice HO_9.out
         subst eo29
         have p111 : 0 ≤ (a3 : Int) := of_decide_eq_true d11h
         have q111 : a3 < (t101.length : Int) := of_decide_eq_true d11h
         obtain ⟨ad111, e111, hx111_0, hx111_1, hx111_2⟩ := at_T65 (Kd.R_reads' HO_9.out).2.2 a3 p111 q111
         cases e111
         replace p111 := eq_true p111
         replace q111 := eq_true q111
         go_wp2
         go_loopg [13, 14] kj6 (fun kq v13 v14 w' => ∃ (x13_2 : Int) (x14_2 : Int), v13 = .int .i64 x13_2 ∧ v14 = .int .i64 x14_2 ∧ Aside0 (perigeelaw10_SendingWastesNothing.l0 kq l0 l1 l2 a3 t105 x13_2 x14_2 = some r) ∧ Aside0 (kq ≤ kj6) ∧ Aside0 (Kd.R k61 61 w' w.heap.size (fun _ => True) v107 t105) ∧ Aside0 (Below w.heap.size w w'))
         case atStart => exact ⟨(0), (0), d11i, d11i, H', ⟨Nat.le_refl _⟩, ⟨d11d⟩, ⟨d11b⟩⟩
         case round => as_aux_lemma =>
          clear H'
          try clear c22b0
          try clear c22b1
          try clear c22b2
          try clear c23b0
          try clear c24b0
          try clear c25b0
          try clear hx111_0
          try clear hx111_1
          try clear hx111_2
          try clear p111
          try clear q111
          obtain ⟨x13_2, x14_2, rfl, rfl, HA, HK2, HO_11, HB⟩ := hrel
          cases gk with
          | zero => exact absurd HA.out (by simp [perigeelaw10_SendingWastesNothing.l0])
          | succ k2 =>
           have H := HA.out
           clear HA
           simp only [perigeelaw10_SendingWastesNothing.l0] at H
           by_cases c30 : x14_2 < (l1.length : Int)
           · rw [if_pos c30] at H
             have c30b0 : decide (x14_2 < (l1.length : Int)) = true := decide_eq_true c30
             clear c30
             have HC31 := Aside0.mk H
             clear H
             go_upto_region 13 with (fail)
             go_cut [92] (fun v92 wc => ∃ (kq : Nat) (x92_30 : Bool), v92 = .bool x92_30 ∧ Aside0 (perigeelaw10_SendingWastesNothing.j2 kq l0 l1 l2 a3 t105 x13_2 x14_2 x92_30 = some r) ∧ Aside0 (kq ≤ k2) ∧ Aside0 (Kd.R k61 61 wc w.heap.size (fun _ => True) v107 t105) ∧ Aside0 (Below w.heap.size w wc))
             case first =>
              have H := HC31.out
              clear HC31
              replace H := guardT H; obtain ⟨c32, H⟩ := H
              have c32b0 : decide (0 ≤ x14_2) = true := decide_eq_true c32
              clear c32
              (first | rw [c32b0] | (simp only [i64_w, i32_w]; rw [c32b0]) | skip)
              by_cases c33 : (rd l1 x14_2) < 0
              · rw [if_pos c33] at H
                have c33b0 : decide ((rd l1 x14_2) < 0) = true := decide_eq_true c33
                clear c33
                have H' := Aside0.mk H
                clear H
                have p113 : 0 ≤ (x14_2 : Int) := of_decide_eq_true d11h
                have q113 : x14_2 < (l1.length : Int) := of_decide_eq_true d11h
                obtain ⟨ad113, e113, hx113_0⟩ := Kd.at_int HR1.out x14_2 p113 q113
                cases e113
                replace hx113_0 := cellB HB.out hx113_0
                replace p113 := eq_true p113
                replace q113 := eq_true q113
                go_wp2
                go_meet
                case rel => exact ⟨_, (true), d11i, H', ⟨by have := HJ6.out; have := HK2.out; first | omega | exact Nat.le_refl _⟩, ⟨d11d⟩, ⟨d11b⟩⟩
              · rw [if_neg c33] at H
                have c33b0 : decide ((rd l1 x14_2) < 0) = false := decide_eq_false c33
                clear c33
                have H' := Aside0.mk H
                clear H
                have p113 : 0 ≤ (x14_2 : Int) := of_decide_eq_true d11h
                have q113 : x14_2 < (l1.length : Int) := of_decide_eq_true d11h
                obtain ⟨ad113, e113, hx113_0⟩ := Kd.at_int HR1.out x14_2 p113 q113
                cases e113
                replace hx113_0 := cellB HB.out hx113_0
                replace p113 := eq_true p113
                replace q113 := eq_true q113
                have p114 : 0 ≤ (x14_2 : Int) := of_decide_eq_true d11h
                have q114 : x14_2 < (l1.length : Int) := of_decide_eq_true d11h
                obtain ⟨ad114, e114, hx114_0⟩ := Kd.at_int HR1.out x14_2 p114 q114
                obtain rfl : ad113 = ad114 := (by injection e114)
                replace hx114_0 := cellB HB.out hx114_0
                replace p114 := eq_true p114
                replace q114 := eq_true q114
                go_wp2
                go_meet
                case rel => exact ⟨_, (decide ((rd l1 x14_2) ≥ (l0.length : Int))), d11i, H', ⟨by have := HJ6.out; have := HK2.out; first | omega | exact Nat.le_refl _⟩, ⟨d11d⟩, ⟨d11b⟩⟩
             case rest =>
              clear HC31
              try clear c30b0
              obtain ⟨kq, x92_30, rfl, HA, HJ30, HO_11, HB⟩ := hcut
              cases kq with
              | zero => exact absurd HA.out (by simp [perigeelaw10_SendingWastesNothing.j2])
              | succ kj30 =>
               have H := HA.out
               clear HA
               simp only [perigeelaw10_SendingWastesNothing.j2] at H
               by_cases c34 : x92_30 = true
               · subst c34
                 replace H := iteT H
                 obtain rfl := Option.some.inj H
                 go_wp2
                 go_ret
                 exact ⟨d11g, d11b⟩
               · replace c34 := Bool.eq_false_iff.mpr c34
                 subst c34
                 replace H := iteF H
                 replace H := guardT H; obtain ⟨c35, H⟩ := H
                 have c35b0 : decide (0 ≤ x14_2) = true := decide_eq_true c35
                 clear c35
                 replace H := guardT H; obtain ⟨c36, H⟩ := H
                 have c36b0 : decide (x14_2 < (l1.length : Int)) = true := decide_eq_true c36
                 clear c36
                 replace H := guardT H; obtain ⟨c37, H⟩ := H
                 have c37b0 : decide (0 ≤ a3) = true := decide_eq_true c37
                 clear c37
                 replace H := guardT H; obtain ⟨c38, H⟩ := H
                 have c38b0 : decide (a3 < (l2.length : Int)) = true := decide_eq_true c38
                 clear c38
                 replace H := guardT H; obtain ⟨c39, H⟩ := H
                 have c39b0 : decide (0 ≤ (rd l1 x14_2)) = true := decide_eq_true c39
                 clear c39
                 replace H := guardT H; obtain ⟨c40, H⟩ := H
                 have c40b0 : decide ((rd l1 x14_2) < (l0.length : Int)) = true := decide_eq_true c40
                 clear c40
                 replace H := bindS H; obtain ⟨⟨t119, t120⟩, A41, H⟩ := H
                 by_cases c42 : t120 = 0
                 · rw [if_pos c42] at H
                   have c42b0 : (t120 == 0) = true := beq_iff_eq.mpr c42
                   have c42b1 : (t120 != 0) = false := bne_eq_false_iff_eq.mpr c42
                   clear c42
                   have H' := Aside0.mk H
                   clear H
                   try go_wp2
                   have n0_ := Aside0.mk (Kd.R_drew HO_11.out)
                   have n1_ := Aside0.mk (below_drew1 HB.out)
                   clear HO_11
                   clear HB
                   have HO_11 := n0_
                   have HB := n1_
                   clear n0_ n1_
                   have p115 : 0 ≤ (x14_2 : Int) := of_decide_eq_true d11h
                   have q115 : x14_2 < (l1.length : Int) := of_decide_eq_true d11h
                   obtain ⟨ad115, e115, hx115_0⟩ := Kd.at_int HR1.out x14_2 p115 q115
                   have hw115_0 := hx115_0
                   cases e115
                   replace hx115_0 := cellB HB.out hx115_0
                   replace p115 := eq_true p115
                   replace q115 := eq_true q115
                   have p116 : 0 ≤ (a3 : Int) := of_decide_eq_true d11h
                   have q116 : a3 < (l2.length : Int) := of_decide_eq_true d11h
                   obtain ⟨ad116, e116, hx116_0, hx116_1, hx116_2, hx116_3, hx116_4⟩ := at_T63 HR2.out a3 p116 q116
                   have hw116_4 := hx116_4
                   have hw116_3 := hx116_3
                   have hw116_2 := hx116_2
                   have hw116_1 := hx116_1
                   have hw116_0 := hx116_0
                   cases e116
                   replace hx116_0 := cellB HB.out hx116_0
                   replace hx116_1 := cellB HB.out hx116_1
                   replace hx116_2 := cellB HB.out hx116_2
                   replace hx116_3 := cellB HB.out hx116_3
                   replace hx116_4 := cellB HB.out hx116_4
                   replace p116 := eq_true p116
                   replace q116 := eq_true q116
                   have p117 : 0 ≤ (x14_2 : Int) := of_decide_eq_true d11h
                   have q117 : x14_2 < (l1.length : Int) := of_decide_eq_true d11h
                   obtain ⟨ad117, e117, hx117_0⟩ := Kd.at_int HR1.out x14_2 p117 q117
                   have hw117_0 := hx117_0
                   obtain rfl : ad115 = ad117 := (by injection e117)
                   replace hx117_0 := cellB HB.out hx117_0
                   replace p117 := eq_true p117
                   replace q117 := eq_true q117
                   have p118 : 0 ≤ ((rd l1 x14_2) : Int) := of_decide_eq_true d11h
                   have q118 : (rd l1 x14_2) < (l0.length : Int) := of_decide_eq_true d11h
                   obtain ⟨ad118, A118_3, c118_3, e118, hx118_0, hx118_1, hx118_2, hx118_3, hl118_3, hi118_3⟩ := at_T33 HR0.out (rd l1 x14_2) p118 q118
                   have hw118_3 := hx118_3
                   have hw118_2 := hx118_2
                   have hw118_1 := hx118_1
                   have hw118_0 := hx118_0
                   cases e118
                   replace hx118_0 := cellB HB.out hx118_0
                   replace hx118_1 := cellB HB.out hx118_1
                   replace hx118_2 := cellB HB.out hx118_2
                   replace hx118_3 := cellB HB.out hx118_3
                   have HR118_3 := Aside0.mk hi118_3
                   have HC118_3 := Aside0.mk hl118_3
                   clear hi118_3 hl118_3
                   replace p118 := eq_true p118
                   replace q118 := eq_true q118
                   refine start_ (n := 24) (S := fun w' => w'.cell? (ad115.add (x14_2).toNat) = some (.int .i64 (rd l1 x14_2)) ∧ w'.cell? (ad116.add ((a3).toNat * 5)) = some (.string ((rd_T63 l2 a3).f0)) ∧ w'.cell? ⟨(ad116.add ((a3).toNat * 5)).block, (ad116.add ((a3).toNat * 5)).off + 1, none⟩ = some (.int .i64 ((rd_T63 l2 a3).f1)) ∧ w'.cell? ⟨(ad116.add ((a3).toNat * 5)).block, (ad116.add ((a3).toNat * 5)).off + 2, none⟩ = some (.int .i64 ((rd_T63 l2 a3).f2)) ∧ w'.cell? ⟨(ad116.add ((a3).toNat * 5)).block, (ad116.add ((a3).toNat * 5)).off + 3, none⟩ = some (.int .i64 ((rd_T63 l2 a3).f3)) ∧ w'.cell? ⟨(ad116.add ((a3).toNat * 5)).block, (ad116.add ((a3).toNat * 5)).off + 4, none⟩ = some (.int .i64 ((rd_T63 l2 a3).f4)) ∧ w'.cell? (ad115.add (x14_2).toNat) = some (.int .i64 (rd l1 x14_2)) ∧ w'.cell? (ad118.add (((rd l1 x14_2)).toNat * 4)) = some (.string ((rd_T33 l0 (rd l1 x14_2)).f0)) ∧ w'.cell? ⟨(ad118.add (((rd l1 x14_2)).toNat * 4)).block, (ad118.add (((rd l1 x14_2)).toNat * 4)).off + 1, none⟩ = some (.int .i64 ((rd_T33 l0 (rd l1 x14_2)).f1)) ∧ w'.cell? ⟨(ad118.add (((rd l1 x14_2)).toNat * 4)).block, (ad118.add (((rd l1 x14_2)).toNat * 4)).off + 2, none⟩ = some (.int .i64 ((rd_T33 l0 (rd l1 x14_2)).f2)) ∧ w'.cell? ⟨(ad118.add (((rd l1 x14_2)).toNat * 4)).block, (ad118.add (((rd l1 x14_2)).toNat * 4)).off + 3, none⟩ = some (.slice A118_3 ((rd_T33 l0 (rd l1 x14_2)).f3).length c118_3)) (ds := []) #[false, false, false, false, false, false, false, false, false, false, false, false, false, false, false, false, false, false, false, false, false, false, false, false] (by kernel_rfl) rfl rfl ⟨((HB.out.cell (World.block_lt_of_cell? w _ hw115_0)).trans hw115_0), ((HB.out.cell (World.block_lt_of_cell? w _ hw116_0)).trans hw116_0), ((HB.out.cell (World.block_lt_of_cell? w _ hw116_1)).trans hw116_1), ((HB.out.cell (World.block_lt_of_cell? w _ hw116_2)).trans hw116_2), ((HB.out.cell (World.block_lt_of_cell? w _ hw116_3)).trans hw116_3), ((HB.out.cell (World.block_lt_of_cell? w _ hw116_4)).trans hw116_4), ((HB.out.cell (World.block_lt_of_cell? w _ hw117_0)).trans hw117_0), ((HB.out.cell (World.block_lt_of_cell? w _ hw118_0)).trans hw118_0), ((HB.out.cell (World.block_lt_of_cell? w _ hw118_1)).trans hw118_1), ((HB.out.cell (World.block_lt_of_cell? w _ hw118_2)).trans hw118_2), ((HB.out.cell (World.block_lt_of_cell? w _ hw118_3)).trans hw118_3)⟩ (fun hHeld => ?_); refine with_tabW perigeelaw10_SendingWastesNothing.tab15 perigeelaw10_SendingWastesNothing.bits15 (fun HT_ HW_ => ?_)
                   generalize wc.drew = w43 at HO_11 HB HR118_3 hx115_0 hx116_0 hx116_1 hx116_2 hx116_3 hx116_4 hx117_0 hx118_0 hx118_1 hx118_2 hx118_3 hHeld ⊢
                   refine pure_ (i := 0) (N := some 94) (v := ?_) (a' := ?_) #[true, false, false, false, false, false, false, false, false, false, false, false, false, false, false, false, false, false, false, false, false, false, false, false] rfl rfl (any_of HT_.out (by kernel_rfl)) (fun _ _ _ h => h) (Or.inl ⟨by rfl, ?_⟩) ?_ ?_
                   rotate_left
                   · intro w'
                     go_simp
                     with_reducible rfl
                   rotate_left
                   · simp only [Act.put, List.setIfInBounds_toArray, List.set_cons_zero, List.set_cons_succ, i64_w, i32_w]
                     rfl
                   refine pure_ (i := 1) (N := some 95) (v := ?_) (a' := ?_) #[true, true, false, false, false, false, false, false, false, false, false, false, false, false, false, false, false, false, false, false, false, false, false, false] rfl rfl (any_of HT_.out (by kernel_rfl)) (fun _ _ _ h => h) (Or.inl ⟨by rfl, ?_⟩) ?_ ?_
                   rotate_left
                   · intro w'
                     go_simp
                     with_reducible rfl
                   rotate_left
                   · simp only [Act.put, List.setIfInBounds_toArray, List.set_cons_zero, List.set_cons_succ, i64_w, i32_w]
                     rfl
                   refine pure_ (i := 2) (N := some 96) (v := ?_) (a' := ?_) #[true, true, true, false, false, false, false, false, false, false, false, false, false, false, false, false, false, false, false, false, false, false, false, false] rfl rfl (any_of HT_.out (by kernel_rfl)) (fun _ _ _ h => h) (Or.inl ⟨by rfl, ?_⟩) ?_ ?_
                   rotate_left
                   · intro w'
                     go_simp
                     with_reducible rfl
                   rotate_left
                   · simp only [Act.put, List.setIfInBounds_toArray, List.set_cons_zero, List.set_cons_succ, i64_w, i32_w]
                     rfl
                   refine pure_ (i := 3) (N := some 97) (v := ?_) (a' := ?_) #[true, true, true, true, false, false, false, false, false, false, false, false, false, false, false, false, false, false, false, false, false, false, false, false] rfl rfl (any_of HT_.out (by kernel_rfl)) (fun _ _ _ h => h) (Or.inl ⟨by rfl, ?_⟩) ?_ ?_
                   rotate_left
                   · intro w'
                     go_simp
                     with_reducible rfl
                   rotate_left
                   · simp only [Act.put, List.setIfInBounds_toArray, List.set_cons_zero, List.set_cons_succ, i64_w, i32_w]
                     rfl
                   refine pure_ (i := 5) (N := some 99) (v := ?_) (a' := ?_) #[true, true, true, true, false, true, false, false, false, false, false, false, false, false, false, false, false, false, false, false, false, false, false, false] rfl rfl (any_of HT_.out (by kernel_rfl)) (fun _ _ _ h => h) (Or.inl ⟨by rfl, ?_⟩) ?_ ?_
                   rotate_left
                   · intro w'
                     go_simp
                     with_reducible rfl
                   rotate_left
                   · simp only [Act.put, List.setIfInBounds_toArray, List.set_cons_zero, List.set_cons_succ, i64_w, i32_w]
                     rfl
                   refine pure_ (i := 6) (N := some 100) (v := ?_) (a' := ?_) #[true, true, true, true, false, true, true, false, false, false, false, false, false, false, false, false, false, false, false, false, false, false, false, false] rfl rfl (any_of HT_.out (by kernel_rfl)) (fun _ _ _ h => h) (Or.inl ⟨by rfl, ?_⟩) ?_ ?_
                   rotate_left
                   · intro w'
                     go_simp
                     with_reducible rfl
                   rotate_left
                   · simp only [Act.put, List.setIfInBounds_toArray, List.set_cons_zero, List.set_cons_succ, i64_w, i32_w]
                     rfl
                   refine pure_ (i := 7) (N := some 101) (v := ?_) (a' := ?_) #[true, true, true, true, false, true, true, true, false, false, false, false, false, false, false, false, false, false, false, false, false, false, false, false] rfl rfl (any_of HT_.out (by kernel_rfl)) (fun _ _ _ h => h) (Or.inl ⟨by rfl, ?_⟩) ?_ ?_
                   rotate_left
                   · intro w'
                     go_simp
                     with_reducible rfl
                   rotate_left
                   · simp only [Act.put, List.setIfInBounds_toArray, List.set_cons_zero, List.set_cons_succ, i64_w, i32_w]
                     rfl
                   refine pure_ (i := 8) (N := some 102) (v := ?_) (a' := ?_) #[true, true, true, true, false, true, true, true, true, false, false, false, false, false, false, false, false, false, false, false, false, false, false, false] rfl rfl (any_of HT_.out (by kernel_rfl)) (fun _ _ _ h => h) (Or.inl ⟨by rfl, ?_⟩) ?_ ?_
                   rotate_left
                   · intro w'
                     go_simp
                     with_reducible rfl
                   rotate_left
                   · simp only [Act.put, List.setIfInBounds_toArray, List.set_cons_zero, List.set_cons_succ, i64_w, i32_w]
                     rfl
                   refine pure_ (i := 10) (N := some 104) (v := ?_) (a' := ?_) #[true, true, true, true, false, true, true, true, true, false, true, false, false, false, false, false, false, false, false, false, false, false, false, false] rfl rfl (any_of HT_.out (by kernel_rfl)) (fun _ _ _ h => h) (Or.inl ⟨by rfl, ?_⟩) ?_ ?_
                   rotate_left
                   · intro w'
                     go_simp
                     with_reducible rfl
                   rotate_left
                   · simp only [Act.put, List.setIfInBounds_toArray, List.set_cons_zero, List.set_cons_succ, i64_w, i32_w]
                     rfl
                   refine pure_ (i := 11) (N := some 105) (v := ?_) (a' := ?_) #[true, true, true, true, false, true, true, true, true, false, true, true, false, false, false, false, false, false, false, false, false, false, false, false] rfl rfl (any_of HT_.out (by kernel_rfl)) (fun _ _ _ h => h) (Or.inl ⟨by rfl, ?_⟩) ?_ ?_
                   rotate_left
                   · intro w'
                     go_simp
                     with_reducible rfl
                   rotate_left
                   · simp only [Act.put, List.setIfInBounds_toArray, List.set_cons_zero, List.set_cons_succ, i64_w, i32_w]
                     rfl
                   refine pure_ (i := 12) (N := some 106) (v := ?_) (a' := ?_) #[true, true, true, true, false, true, true, true, true, false, true, true, true, false, false, false, false, false, false, false, false, false, false, false] rfl rfl (any_of HT_.out (by kernel_rfl)) (fun _ _ _ h => h) (Or.inl ⟨by rfl, ?_⟩) ?_ ?_
                   rotate_left
                   · intro w'
                     go_simp
                     with_reducible rfl
                   rotate_left
                   · simp only [Act.put, List.setIfInBounds_toArray, List.set_cons_zero, List.set_cons_succ, i64_w, i32_w]
                     rfl
                   refine pure_ (i := 13) (N := some 107) (v := ?_) (a' := ?_) #[true, true, true, true, false, true, true, true, true, false, true, true, true, true, false, false, false, false, false, false, false, false, false, false] rfl rfl (any_of HT_.out (by kernel_rfl)) (fun _ _ _ h => h) (Or.inl ⟨by rfl, ?_⟩) ?_ ?_
                   rotate_left
                   · intro w'
                     go_simp
                     with_reducible rfl
                   rotate_left
                   · simp only [Act.put, List.setIfInBounds_toArray, List.set_cons_zero, List.set_cons_succ, i64_w, i32_w]
                     rfl
                   refine take_ (i := 4) (N := some 98) (v := ?_) (a' := ?_) #[true, true, true, true, true, true, true, true, true, false, true, true, true, true, false, false, false, false, false, false, false, false, false, false] rfl rfl (take_ofW HT_.out HW_.out (by kernel_rfl)) (fun _ _ _ h => h) (Or.inl ⟨by rfl, ?_⟩) hHeld ?_ ?_
                   rotate_left
                   · rintro w' ⟨s0, s1, s2, s3, s4, s5, s6, s7, s8, s9, s10⟩
                     go_simp
                     with_reducible rfl
                   rotate_left
                   · simp only [Act.put, List.setIfInBounds_toArray, List.set_cons_zero, List.set_cons_succ, i64_w, i32_w]
                     rfl
                   refine take_ (i := 9) (N := some 103) (v := ?_) (a' := ?_) #[true, true, true, true, true, true, true, true, true, true, true, true, true, true, false, false, false, false, false, false, false, false, false, false] rfl rfl (take_ofW HT_.out HW_.out (by kernel_rfl)) (fun _ _ _ h => h) (Or.inl ⟨by rfl, ?_⟩) hHeld ?_ ?_
                   rotate_left
                   · rintro w' ⟨s0, s1, s2, s3, s4, s5, s6, s7, s8, s9, s10⟩
                     go_simp
                     with_reducible rfl
                   rotate_left
                   · simp only [Act.put, List.setIfInBounds_toArray, List.set_cons_zero, List.set_cons_succ, i64_w, i32_w]
                     rfl
                   refine take_ (i := 14) (N := some 108) (v := ?_) (a' := ?_) #[true, true, true, true, true, true, true, true, true, true, true, true, true, true, true, false, false, false, false, false, false, false, false, false] rfl rfl (take_ofW HT_.out HW_.out (by kernel_rfl)) (fun _ _ _ h => h) (Or.inl ⟨by rfl, ?_⟩) hHeld ?_ ?_
                   rotate_left
                   · rintro w' ⟨s0, s1, s2, s3, s4, s5, s6, s7, s8, s9, s10⟩
                     go_simp
                     with_reducible rfl
                   rotate_left
                   · simp only [Act.put, List.setIfInBounds_toArray, List.set_cons_zero, List.set_cons_succ, i64_w, i32_w]
                     rfl
                   refine pure_ (i := 15) (N := some 109) (v := ?_) (a' := ?_) #[true, true, true, true, true, true, true, true, true, true, true, true, true, true, true, true, false, false, false, false, false, false, false, false] rfl rfl (any_of HT_.out (by kernel_rfl)) (fun _ _ _ h => h) (Or.inl ⟨by rfl, ?_⟩) ?_ ?_
                   rotate_left
                   · intro w'
                     go_simp
                     with_reducible rfl
                   rotate_left
                   · simp only [Act.put, List.setIfInBounds_toArray, List.set_cons_zero, List.set_cons_succ, i64_w, i32_w]
                     rfl
                   refine pure_ (i := 16) (N := some 110) (v := ?_) (a' := ?_) #[true, true, true, true, true, true, true, true, true, true, true, true, true, true, true, true, true, false, false, false, false, false, false, false] rfl rfl (any_of HT_.out (by kernel_rfl)) (fun _ _ _ h => h) (Or.inl ⟨by rfl, ?_⟩) ?_ ?_
                   rotate_left
                   · intro w'
                     go_simp
                     with_reducible rfl
                   rotate_left
                   · simp only [Act.put, List.setIfInBounds_toArray, List.set_cons_zero, List.set_cons_succ, i64_w, i32_w]
                     rfl
                   refine take_ (i := 17) (N := some 111) (v := ?_) (a' := ?_) #[true, true, true, true, true, true, true, true, true, true, true, true, true, true, true, true, true, true, false, false, false, false, false, false] rfl rfl (take_ofW HT_.out HW_.out (by kernel_rfl)) (fun _ _ _ h => h) (Or.inl ⟨by rfl, ?_⟩) hHeld ?_ ?_
                   rotate_left
                   · rintro w' ⟨s0, s1, s2, s3, s4, s5, s6, s7, s8, s9, s10⟩
                     go_simp
                     with_reducible rfl
                   rotate_left
                   · simp only [Act.put, List.setIfInBounds_toArray, List.set_cons_zero, List.set_cons_succ, i64_w, i32_w]
                     rfl
                   refine one_ (i := 18) (N := some 112) #[true, true, true, true, true, true, true, true, true, true, true, true, true, true, true, true, true, true, true, false, false, false, false, false] rfl rfl (one_of HT_.out (by kernel_rfl)) (by decide) (fun K hK => ?_)
                   refine goes_ Try.func13 (by kernel_rfl) rfl #[.slice (some ad118) l0.length c0, .int .i64 (rd l1 x14_2), .int .i64 ((rd_T63 l2 a3).f3), .int .i64 ((rd_T33 l0 (rd l1 x14_2)).f2)] (by rfl) rfl rfl d11a ?_
                   with_reducible refine (contact_Volume.calls kj30 _ _ l0 (rd l1 x14_2) ((rd_T63 l2 a3).f3) ((rd_T33 l0 (rd l1 x14_2)).f2) t119 t120 _ ?side1 ?side2 A41.out).mono ?_
                   (case side1 => exact d11j)
                   (case side2 => exact HC0.out)
                   rintro e w44 ⟨rfl, hb⟩
                   refine ⟨_, rfl, ?_⟩
                   have n0_ := Aside0.mk (Kd.R_below d11d hb)
                   have n1_ := Aside0.mk (below_step d11b hb)
                   clear HO_11
                   clear HB
                   have HO_11 := n0_
                   have HB := n1_
                   clear n0_ n1_
                   (try clear hb)
                   skip
                   skip
                   skip
                   refine hK.out _ _ ⟨((HB.out.cell (World.block_lt_of_cell? w _ hw115_0)).trans hw115_0), ((HB.out.cell (World.block_lt_of_cell? w _ hw116_0)).trans hw116_0), ((HB.out.cell (World.block_lt_of_cell? w _ hw116_1)).trans hw116_1), ((HB.out.cell (World.block_lt_of_cell? w _ hw116_2)).trans hw116_2), ((HB.out.cell (World.block_lt_of_cell? w _ hw116_3)).trans hw116_3), ((HB.out.cell (World.block_lt_of_cell? w _ hw116_4)).trans hw116_4), ((HB.out.cell (World.block_lt_of_cell? w _ hw117_0)).trans hw117_0), ((HB.out.cell (World.block_lt_of_cell? w _ hw118_0)).trans hw118_0), ((HB.out.cell (World.block_lt_of_cell? w _ hw118_1)).trans hw118_1), ((HB.out.cell (World.block_lt_of_cell? w _ hw118_2)).trans hw118_2), ((HB.out.cell (World.block_lt_of_cell? w _ hw118_3)).trans hw118_3)⟩ (fun hHeld => ?_)
                   clear hK K
                   refine norm_ (a' := ?_) ?_ ?_
                   rotate_left
                   · show Act.put _ (some 112) _ = _
                     simp only [Act.put, List.setIfInBounds_toArray, List.set_cons_zero, List.set_cons_succ, i64_w, i32_w]
                     rfl
                   refine pure_ (i := 19) (N := some 93) (v := ?_) (a' := ?_) #[true, true, true, true, true, true, true, true, true, true, true, true, true, true, true, true, true, true, true, true, false, false, false, false] rfl rfl (any_of HT_.out (by kernel_rfl)) (fun _ _ _ h => h) (Or.inl ⟨by rfl, ?_⟩) ?_ ?_
                   rotate_left
                   · intro w'
                     go_simp
                     with_reducible rfl
                   rotate_left
                   · simp only [Act.put, List.setIfInBounds_toArray, List.set_cons_zero, List.set_cons_succ, i64_w, i32_w]
                     rfl
                   refine pure_ (i := 20) (N := some 113) (v := ?_) (a' := ?_) #[true, true, true, true, true, true, true, true, true, true, true, true, true, true, true, true, true, true, true, true, true, false, false, false] rfl rfl (any_of HT_.out (by kernel_rfl)) (fun _ _ _ h => h) (Or.inl ⟨by rfl, ?_⟩) ?_ ?_
                   rotate_left
                   · intro w'
                     go_simp
                     with_reducible rfl
                   rotate_left
                   · simp only [Act.put, List.setIfInBounds_toArray, List.set_cons_zero, List.set_cons_succ, i64_w, i32_w]
                     rfl
                   refine pure_ (i := 21) (N := some 114) (v := ?_) (a' := ?_) #[true, true, true, true, true, true, true, true, true, true, true, true, true, true, true, true, true, true, true, true, true, true, false, false] rfl rfl (any_of HT_.out (by kernel_rfl)) (fun _ _ _ h => h) (Or.inl ⟨by rfl, ?_⟩) ?_ ?_
                   rotate_left
                   · intro w'
                     go_simp
                     with_reducible rfl
                   rotate_left
                   · simp only [Act.put, List.setIfInBounds_toArray, List.set_cons_zero, List.set_cons_succ, i64_w, i32_w]
                     rfl
                   refine pure_ (i := 22) (N := some 15) (v := ?_) (a' := ?_) #[true, true, true, true, true, true, true, true, true, true, true, true, true, true, true, true, true, true, true, true, true, true, true, false] rfl rfl (any_of HT_.out (by kernel_rfl)) (fun _ _ _ h => h) (Or.inl ⟨by rfl, ?_⟩) ?_ ?_
                   rotate_left
                   · intro w'
                     go_simp
                     with_reducible rfl
                   rotate_left
                   · simp only [Act.put, List.setIfInBounds_toArray, List.set_cons_zero, List.set_cons_succ, i64_w, i32_w]
                     rfl
                   refine pure_ (i := 23) (N := some 16) (v := ?_) (a' := ?_) #[true, true, true, true, true, true, true, true, true, true, true, true, true, true, true, true, true, true, true, true, true, true, true, true] rfl rfl (any_of HT_.out (by kernel_rfl)) (fun _ _ _ h => h) (Or.inl ⟨by rfl, ?_⟩) ?_ ?_
                   rotate_left
                   · intro w'
                     go_simp
                     with_reducible rfl
                   rotate_left
                   · simp only [Act.put, List.setIfInBounds_toArray, List.set_cons_zero, List.set_cons_succ, i64_w, i32_w]
                     rfl
                   refine done_ (done_of HT_.out (by kernel_rfl)) ?_
                   try go_wp2
                   go_roundg kj30
                   case measure => have := HJ6.out; have := HK2.out; have := HJ30.out; omega
                   case rel => exact ⟨(wrap64 (x13_2 + t119)), (wrap64 (x14_2 + 1)), d11i, d11i, H', ⟨by have := HJ6.out; have := HK2.out; have := HJ30.out; omega⟩, ⟨d11d⟩, ⟨d11b⟩⟩
                 · rw [if_neg c42] at H
                   have c42b0 : (t120 == 0) = false := beq_eq_false_iff_ne.mpr c42
                   have c42b1 : (t120 != 0) = true := bne_iff_ne.mpr c42
                   obtain rfl := Option.some.inj H
                   try go_wp2
                   have n0_ := Aside0.mk (Kd.R_drew HO_11.out)
                   have n1_ := Aside0.mk (below_drew1 HB.out)
                   clear HO_11
                   clear HB
                   have HO_11 := n0_
                   have HB := n1_
                   clear n0_ n1_
                   have p115 : 0 ≤ (x14_2 : Int) := of_decide_eq_true d11h
                   have q115 : x14_2 < (l1.length : Int) := of_decide_eq_true d11h
                   obtain ⟨ad115, e115, hx115_0⟩ := Kd.at_int HR1.out x14_2 p115 q115
                   have hw115_0 := hx115_0
                   cases e115
                   replace hx115_0 := cellB HB.out hx115_0
                   replace p115 := eq_true p115
                   replace q115 := eq_true q115
                   have p116 : 0 ≤ (a3 : Int) := of_decide_eq_true d11h
                   have q116 : a3 < (l2.length : Int) := of_decide_eq_true d11h
                   obtain ⟨ad116, e116, hx116_0, hx116_1, hx116_2, hx116_3, hx116_4⟩ := at_T63 HR2.out a3 p116 q116
                   have hw116_4 := hx116_4
                   have hw116_3 := hx116_3
                   have hw116_2 := hx116_2
                   have hw116_1 := hx116_1
                   have hw116_0 := hx116_0
                   cases e116
                   replace hx116_0 := cellB HB.out hx116_0
                   replace hx116_1 := cellB HB.out hx116_1
                   replace hx116_2 := cellB HB.out hx116_2
                   replace hx116_3 := cellB HB.out hx116_3
                   replace hx116_4 := cellB HB.out hx116_4
                   replace p116 := eq_true p116
                   replace q116 := eq_true q116
                   have p117 : 0 ≤ (x14_2 : Int) := of_decide_eq_true d11h
                   have q117 : x14_2 < (l1.length : Int) := of_decide_eq_true d11h
                   obtain ⟨ad117, e117, hx117_0⟩ := Kd.at_int HR1.out x14_2 p117 q117
                   have hw117_0 := hx117_0
                   obtain rfl : ad115 = ad117 := (by injection e117)
                   replace hx117_0 := cellB HB.out hx117_0
                   replace p117 := eq_true p117
                   replace q117 := eq_true q117
                   have p118 : 0 ≤ ((rd l1 x14_2) : Int) := of_decide_eq_true d11h
                   have q118 : (rd l1 x14_2) < (l0.length : Int) := of_decide_eq_true d11h
                   obtain ⟨ad118, A118_3, c118_3, e118, hx118_0, hx118_1, hx118_2, hx118_3, hl118_3, hi118_3⟩ := at_T33 HR0.out (rd l1 x14_2) p118 q118
                   have hw118_3 := hx118_3
                   have hw118_2 := hx118_2
                   have hw118_1 := hx118_1
                   have hw118_0 := hx118_0
                   cases e118
                   replace hx118_0 := cellB HB.out hx118_0
                   replace hx118_1 := cellB HB.out hx118_1
                   replace hx118_2 := cellB HB.out hx118_2
                   replace hx118_3 := cellB HB.out hx118_3
                   have HR118_3 := Aside0.mk hi118_3
                   have HC118_3 := Aside0.mk hl118_3
                   clear hi118_3 hl118_3
                   replace p118 := eq_true p118
                   replace q118 := eq_true q118
                   refine start_ (n := 24) (S := fun w' => w'.cell? (ad115.add (x14_2).toNat) = some (.int .i64 (rd l1 x14_2)) ∧ w'.cell? (ad116.add ((a3).toNat * 5)) = some (.string ((rd_T63 l2 a3).f0)) ∧ w'.cell? ⟨(ad116.add ((a3).toNat * 5)).block, (ad116.add ((a3).toNat * 5)).off + 1, none⟩ = some (.int .i64 ((rd_T63 l2 a3).f1)) ∧ w'.cell? ⟨(ad116.add ((a3).toNat * 5)).block, (ad116.add ((a3).toNat * 5)).off + 2, none⟩ = some (.int .i64 ((rd_T63 l2 a3).f2)) ∧ w'.cell? ⟨(ad116.add ((a3).toNat * 5)).block, (ad116.add ((a3).toNat * 5)).off + 3, none⟩ = some (.int .i64 ((rd_T63 l2 a3).f3)) ∧ w'.cell? ⟨(ad116.add ((a3).toNat * 5)).block, (ad116.add ((a3).toNat * 5)).off + 4, none⟩ = some (.int .i64 ((rd_T63 l2 a3).f4)) ∧ w'.cell? (ad115.add (x14_2).toNat) = some (.int .i64 (rd l1 x14_2)) ∧ w'.cell? (ad118.add (((rd l1 x14_2)).toNat * 4)) = some (.string ((rd_T33 l0 (rd l1 x14_2)).f0)) ∧ w'.cell? ⟨(ad118.add (((rd l1 x14_2)).toNat * 4)).block, (ad118.add (((rd l1 x14_2)).toNat * 4)).off + 1, none⟩ = some (.int .i64 ((rd_T33 l0 (rd l1 x14_2)).f1)) ∧ w'.cell? ⟨(ad118.add (((rd l1 x14_2)).toNat * 4)).block, (ad118.add (((rd l1 x14_2)).toNat * 4)).off + 2, none⟩ = some (.int .i64 ((rd_T33 l0 (rd l1 x14_2)).f2)) ∧ w'.cell? ⟨(ad118.add (((rd l1 x14_2)).toNat * 4)).block, (ad118.add (((rd l1 x14_2)).toNat * 4)).off + 3, none⟩ = some (.slice A118_3 ((rd_T33 l0 (rd l1 x14_2)).f3).length c118_3)) (ds := []) #[false, false, false, false, false, false, false, false, false, false, false, false, false, false, false, false, false, false, false, false, false, false, false, false] (by kernel_rfl) rfl rfl ⟨((HB.out.cell (World.block_lt_of_cell? w _ hw115_0)).trans hw115_0), ((HB.out.cell (World.block_lt_of_cell? w _ hw116_0)).trans hw116_0), ((HB.out.cell (World.block_lt_of_cell? w _ hw116_1)).trans hw116_1), ((HB.out.cell (World.block_lt_of_cell? w _ hw116_2)).trans hw116_2), ((HB.out.cell (World.block_lt_of_cell? w _ hw116_3)).trans hw116_3), ((HB.out.cell (World.block_lt_of_cell? w _ hw116_4)).trans hw116_4), ((HB.out.cell (World.block_lt_of_cell? w _ hw117_0)).trans hw117_0), ((HB.out.cell (World.block_lt_of_cell? w _ hw118_0)).trans hw118_0), ((HB.out.cell (World.block_lt_of_cell? w _ hw118_1)).trans hw118_1), ((HB.out.cell (World.block_lt_of_cell? w _ hw118_2)).trans hw118_2), ((HB.out.cell (World.block_lt_of_cell? w _ hw118_3)).trans hw118_3)⟩ (fun hHeld => ?_); refine with_tabW perigeelaw10_SendingWastesNothing.tab15 perigeelaw10_SendingWastesNothing.bits15 (fun HT_ HW_ => ?_)
                   generalize wc.drew = w45 at HO_11 HB HR118_3 hx115_0 hx116_0 hx116_1 hx116_2 hx116_3 hx116_4 hx117_0 hx118_0 hx118_1 hx118_2 hx118_3 hHeld ⊢
                   refine pure_ (i := 0) (N := some 94) (v := ?_) (a' := ?_) #[true, false, false, false, false, false, false, false, false, false, false, false, false, false, false, false, false, false, false, false, false, false, false, false] rfl rfl (any_of HT_.out (by kernel_rfl)) (fun _ _ _ h => h) (Or.inl ⟨by rfl, ?_⟩) ?_ ?_
                   rotate_left
                   · intro w'
                     go_simp
                     with_reducible rfl
                   rotate_left
                   · simp only [Act.put, List.setIfInBounds_toArray, List.set_cons_zero, List.set_cons_succ, i64_w, i32_w]
                     rfl
                   refine pure_ (i := 1) (N := some 95) (v := ?_) (a' := ?_) #[true, true, false, false, false, false, false, false, false, false, false, false, false, false, false, false, false, false, false, false, false, false, false, false] rfl rfl (any_of HT_.out (by kernel_rfl)) (fun _ _ _ h => h) (Or.inl ⟨by rfl, ?_⟩) ?_ ?_
                   rotate_left
                   · intro w'
                     go_simp
                     with_reducible rfl
                   rotate_left
                   · simp only [Act.put, List.setIfInBounds_toArray, List.set_cons_zero, List.set_cons_succ, i64_w, i32_w]
                     rfl
                   refine pure_ (i := 2) (N := some 96) (v := ?_) (a' := ?_) #[true, true, true, false, false, false, false, false, false, false, false, false, false, false, false, false, false, false, false, false, false, false, false, false] rfl rfl (any_of HT_.out (by kernel_rfl)) (fun _ _ _ h => h) (Or.inl ⟨by rfl, ?_⟩) ?_ ?_
                   rotate_left
                   · intro w'
                     go_simp
                     with_reducible rfl
                   rotate_left
                   · simp only [Act.put, List.setIfInBounds_toArray, List.set_cons_zero, List.set_cons_succ, i64_w, i32_w]
                     rfl
                   refine pure_ (i := 3) (N := some 97) (v := ?_) (a' := ?_) #[true, true, true, true, false, false, false, false, false, false, false, false, false, false, false, false, false, false, false, false, false, false, false, false] rfl rfl (any_of HT_.out (by kernel_rfl)) (fun _ _ _ h => h) (Or.inl ⟨by rfl, ?_⟩) ?_ ?_
                   rotate_left
                   · intro w'
                     go_simp
                     with_reducible rfl
                   rotate_left
                   · simp only [Act.put, List.setIfInBounds_toArray, List.set_cons_zero, List.set_cons_succ, i64_w, i32_w]
                     rfl
                   refine pure_ (i := 5) (N := some 99) (v := ?_) (a' := ?_) #[true, true, true, true, false, true, false, false, false, false, false, false, false, false, false, false, false, false, false, false, false, false, false, false] rfl rfl (any_of HT_.out (by kernel_rfl)) (fun _ _ _ h => h) (Or.inl ⟨by rfl, ?_⟩) ?_ ?_
                   rotate_left
                   · intro w'
                     go_simp
                     with_reducible rfl
                   rotate_left
                   · simp only [Act.put, List.setIfInBounds_toArray, List.set_cons_zero, List.set_cons_succ, i64_w, i32_w]
                     rfl
                   refine pure_ (i := 6) (N := some 100) (v := ?_) (a' := ?_) #[true, true, true, true, false, true, true, false, false, false, false, false, false, false, false, false, false, false, false, false, false, false, false, false] rfl rfl (any_of HT_.out (by kernel_rfl)) (fun _ _ _ h => h) (Or.inl ⟨by rfl, ?_⟩) ?_ ?_
                   rotate_left
                   · intro w'
                     go_simp
                     with_reducible rfl
                   rotate_left
                   · simp only [Act.put, List.setIfInBounds_toArray, List.set_cons_zero, List.set_cons_succ, i64_w, i32_w]
                     rfl
                   refine pure_ (i := 7) (N := some 101) (v := ?_) (a' := ?_) #[true, true, true, true, false, true, true, true, false, false, false, false, false, false, false, false, false, false, false, false, false, false, false, false] rfl rfl (any_of HT_.out (by kernel_rfl)) (fun _ _ _ h => h) (Or.inl ⟨by rfl, ?_⟩) ?_ ?_
                   rotate_left
                   · intro w'
                     go_simp
                     with_reducible rfl
                   rotate_left
                   · simp only [Act.put, List.setIfInBounds_toArray, List.set_cons_zero, List.set_cons_succ, i64_w, i32_w]
                     rfl
                   refine pure_ (i := 8) (N := some 102) (v := ?_) (a' := ?_) #[true, true, true, true, false, true, true, true, true, false, false, false, false, false, false, false, false, false, false, false, false, false, false, false] rfl rfl (any_of HT_.out (by kernel_rfl)) (fun _ _ _ h => h) (Or.inl ⟨by rfl, ?_⟩) ?_ ?_
                   rotate_left
                   · intro w'
                     go_simp
                     with_reducible rfl
                   rotate_left
                   · simp only [Act.put, List.setIfInBounds_toArray, List.set_cons_zero, List.set_cons_succ, i64_w, i32_w]
                     rfl
                   refine pure_ (i := 10) (N := some 104) (v := ?_) (a' := ?_) #[true, true, true, true, false, true, true, true, true, false, true, false, false, false, false, false, false, false, false, false, false, false, false, false] rfl rfl (any_of HT_.out (by kernel_rfl)) (fun _ _ _ h => h) (Or.inl ⟨by rfl, ?_⟩) ?_ ?_
                   rotate_left
                   · intro w'
                     go_simp
                     with_reducible rfl
                   rotate_left
                   · simp only [Act.put, List.setIfInBounds_toArray, List.set_cons_zero, List.set_cons_succ, i64_w, i32_w]
                     rfl
                   refine pure_ (i := 11) (N := some 105) (v := ?_) (a' := ?_) #[true, true, true, true, false, true, true, true, true, false, true, true, false, false, false, false, false, false, false, false, false, false, false, false] rfl rfl (any_of HT_.out (by kernel_rfl)) (fun _ _ _ h => h) (Or.inl ⟨by rfl, ?_⟩) ?_ ?_
                   rotate_left
                   · intro w'
                     go_simp
                     with_reducible rfl
                   rotate_left
                   · simp only [Act.put, List.setIfInBounds_toArray, List.set_cons_zero, List.set_cons_succ, i64_w, i32_w]
                     rfl
                   refine pure_ (i := 12) (N := some 106) (v := ?_) (a' := ?_) #[true, true, true, true, false, true, true, true, true, false, true, true, true, false, false, false, false, false, false, false, false, false, false, false] rfl rfl (any_of HT_.out (by kernel_rfl)) (fun _ _ _ h => h) (Or.inl ⟨by rfl, ?_⟩) ?_ ?_
                   rotate_left
                   · intro w'
                     go_simp
                     with_reducible rfl
                   rotate_left
                   · simp only [Act.put, List.setIfInBounds_toArray, List.set_cons_zero, List.set_cons_succ, i64_w, i32_w]
                     rfl
                   refine pure_ (i := 13) (N := some 107) (v := ?_) (a' := ?_) #[true, true, true, true, false, true, true, true, true, false, true, true, true, true, false, false, false, false, false, false, false, false, false, false] rfl rfl (any_of HT_.out (by kernel_rfl)) (fun _ _ _ h => h) (Or.inl ⟨by rfl, ?_⟩) ?_ ?_
                   rotate_left
                   · intro w'
                     go_simp
                     with_reducible rfl
                   rotate_left
                   · simp only [Act.put, List.setIfInBounds_toArray, List.set_cons_zero, List.set_cons_succ, i64_w, i32_w]
                     rfl
                   refine take_ (i := 4) (N := some 98) (v := ?_) (a' := ?_) #[true, true, true, true, true, true, true, true, true, false, true, true, true, true, false, false, false, false, false, false, false, false, false, false] rfl rfl (take_ofW HT_.out HW_.out (by kernel_rfl)) (fun _ _ _ h => h) (Or.inl ⟨by rfl, ?_⟩) hHeld ?_ ?_
                   rotate_left
                   · rintro w' ⟨s0, s1, s2, s3, s4, s5, s6, s7, s8, s9, s10⟩
                     go_simp
                     with_reducible rfl
                   rotate_left
                   · simp only [Act.put, List.setIfInBounds_toArray, List.set_cons_zero, List.set_cons_succ, i64_w, i32_w]
                     rfl
                   refine take_ (i := 9) (N := some 103) (v := ?_) (a' := ?_) #[true, true, true, true, true, true, true, true, true, true, true, true, true, true, false, false, false, false, false, false, false, false, false, false] rfl rfl (take_ofW HT_.out HW_.out (by kernel_rfl)) (fun _ _ _ h => h) (Or.inl ⟨by rfl, ?_⟩) hHeld ?_ ?_
                   rotate_left
                   · rintro w' ⟨s0, s1, s2, s3, s4, s5, s6, s7, s8, s9, s10⟩
                     go_simp
                     with_reducible rfl
                   rotate_left
                   · simp only [Act.put, List.setIfInBounds_toArray, List.set_cons_zero, List.set_cons_succ, i64_w, i32_w]
                     rfl
                   refine take_ (i := 14) (N := some 108) (v := ?_) (a' := ?_) #[true, true, true, true, true, true, true, true, true, true, true, true, true, true, true, false, false, false, false, false, false, false, false, false] rfl rfl (take_ofW HT_.out HW_.out (by kernel_rfl)) (fun _ _ _ h => h) (Or.inl ⟨by rfl, ?_⟩) hHeld ?_ ?_
                   rotate_left
                   · rintro w' ⟨s0, s1, s2, s3, s4, s5, s6, s7, s8, s9, s10⟩
                     go_simp
                     with_reducible rfl
                   rotate_left
                   · simp only [Act.put, List.setIfInBounds_toArray, List.set_cons_zero, List.set_cons_succ, i64_w, i32_w]
                     rfl
                   refine pure_ (i := 15) (N := some 109) (v := ?_) (a' := ?_) #[true, true, true, true, true, true, true, true, true, true, true, true, true, true, true, true, false, false, false, false, false, false, false, false] rfl rfl (any_of HT_.out (by kernel_rfl)) (fun _ _ _ h => h) (Or.inl ⟨by rfl, ?_⟩) ?_ ?_
                   rotate_left
                   · intro w'
                     go_simp
                     with_reducible rfl
                   rotate_left
                   · simp only [Act.put, List.setIfInBounds_toArray, List.set_cons_zero, List.set_cons_succ, i64_w, i32_w]
                     rfl
                   refine pure_ (i := 16) (N := some 110) (v := ?_) (a' := ?_) #[true, true, true, true, true, true, true, true, true, true, true, true, true, true, true, true, true, false, false, false, false, false, false, false] rfl rfl (any_of HT_.out (by kernel_rfl)) (fun _ _ _ h => h) (Or.inl ⟨by rfl, ?_⟩) ?_ ?_
                   rotate_left
                   · intro w'
                     go_simp
                     with_reducible rfl
                   rotate_left
                   · simp only [Act.put, List.setIfInBounds_toArray, List.set_cons_zero, List.set_cons_succ, i64_w, i32_w]
                     rfl
                   refine take_ (i := 17) (N := some 111) (v := ?_) (a' := ?_) #[true, true, true, true, true, true, true, true, true, true, true, true, true, true, true, true, true, true, false, false, false, false, false, false] rfl rfl (take_ofW HT_.out HW_.out (by kernel_rfl)) (fun _ _ _ h => h) (Or.inl ⟨by rfl, ?_⟩) hHeld ?_ ?_
                   rotate_left
                   · rintro w' ⟨s0, s1, s2, s3, s4, s5, s6, s7, s8, s9, s10⟩
                     go_simp
                     with_reducible rfl
                   rotate_left
                   · simp only [Act.put, List.setIfInBounds_toArray, List.set_cons_zero, List.set_cons_succ, i64_w, i32_w]
                     rfl
                   refine one_ (i := 18) (N := some 112) #[true, true, true, true, true, true, true, true, true, true, true, true, true, true, true, true, true, true, true, false, false, false, false, false] rfl rfl (one_of HT_.out (by kernel_rfl)) (by decide) (fun K hK => ?_)
                   refine goes_ Try.func13 (by kernel_rfl) rfl #[.slice (some ad118) l0.length c0, .int .i64 (rd l1 x14_2), .int .i64 ((rd_T63 l2 a3).f3), .int .i64 ((rd_T33 l0 (rd l1 x14_2)).f2)] (by rfl) rfl rfl d11a ?_
                   with_reducible refine (contact_Volume.calls kj30 _ _ l0 (rd l1 x14_2) ((rd_T63 l2 a3).f3) ((rd_T33 l0 (rd l1 x14_2)).f2) t119 t120 _ ?side1 ?side2 A41.out).mono ?_
                   (case side1 => exact d11j)
                   (case side2 => exact HC0.out)
                   rintro e w46 ⟨rfl, hb⟩
                   refine ⟨_, rfl, ?_⟩
                   have n0_ := Aside0.mk (Kd.R_below d11d hb)
                   have n1_ := Aside0.mk (below_step d11b hb)
                   clear HO_11
                   clear HB
                   have HO_11 := n0_
                   have HB := n1_
                   clear n0_ n1_
                   (try clear hb)
                   skip
                   skip
                   skip
                   refine hK.out _ _ ⟨((HB.out.cell (World.block_lt_of_cell? w _ hw115_0)).trans hw115_0), ((HB.out.cell (World.block_lt_of_cell? w _ hw116_0)).trans hw116_0), ((HB.out.cell (World.block_lt_of_cell? w _ hw116_1)).trans hw116_1), ((HB.out.cell (World.block_lt_of_cell? w _ hw116_2)).trans hw116_2), ((HB.out.cell (World.block_lt_of_cell? w _ hw116_3)).trans hw116_3), ((HB.out.cell (World.block_lt_of_cell? w _ hw116_4)).trans hw116_4), ((HB.out.cell (World.block_lt_of_cell? w _ hw117_0)).trans hw117_0), ((HB.out.cell (World.block_lt_of_cell? w _ hw118_0)).trans hw118_0), ((HB.out.cell (World.block_lt_of_cell? w _ hw118_1)).trans hw118_1), ((HB.out.cell (World.block_lt_of_cell? w _ hw118_2)).trans hw118_2), ((HB.out.cell (World.block_lt_of_cell? w _ hw118_3)).trans hw118_3)⟩ (fun hHeld => ?_)
                   clear hK K
                   refine norm_ (a' := ?_) ?_ ?_
                   rotate_left
                   · show Act.put _ (some 112) _ = _
                     simp only [Act.put, List.setIfInBounds_toArray, List.set_cons_zero, List.set_cons_succ, i64_w, i32_w]
                     rfl
                   refine pure_ (i := 19) (N := some 93) (v := ?_) (a' := ?_) #[true, true, true, true, true, true, true, true, true, true, true, true, true, true, true, true, true, true, true, true, false, false, false, false] rfl rfl (any_of HT_.out (by kernel_rfl)) (fun _ _ _ h => h) (Or.inl ⟨by rfl, ?_⟩) ?_ ?_
                   rotate_left
                   · intro w'
                     go_simp
                     with_reducible rfl
                   rotate_left
                   · simp only [Act.put, List.setIfInBounds_toArray, List.set_cons_zero, List.set_cons_succ, i64_w, i32_w]
                     rfl
                   refine pure_ (i := 20) (N := some 113) (v := ?_) (a' := ?_) #[true, true, true, true, true, true, true, true, true, true, true, true, true, true, true, true, true, true, true, true, true, false, false, false] rfl rfl (any_of HT_.out (by kernel_rfl)) (fun _ _ _ h => h) (Or.inl ⟨by rfl, ?_⟩) ?_ ?_
                   rotate_left
                   · intro w'
                     go_simp
                     with_reducible rfl
                   rotate_left
                   · simp only [Act.put, List.setIfInBounds_toArray, List.set_cons_zero, List.set_cons_succ, i64_w, i32_w]
                     rfl
                   refine pure_ (i := 21) (N := some 114) (v := ?_) (a' := ?_) #[true, true, true, true, true, true, true, true, true, true, true, true, true, true, true, true, true, true, true, true, true, true, false, false] rfl rfl (any_of HT_.out (by kernel_rfl)) (fun _ _ _ h => h) (Or.inl ⟨by rfl, ?_⟩) ?_ ?_
                   rotate_left
                   · intro w'
                     go_simp
                     with_reducible rfl
                   rotate_left
                   · simp only [Act.put, List.setIfInBounds_toArray, List.set_cons_zero, List.set_cons_succ, i64_w, i32_w]
                     rfl
                   refine pure_ (i := 22) (N := some 15) (v := ?_) (a' := ?_) #[true, true, true, true, true, true, true, true, true, true, true, true, true, true, true, true, true, true, true, true, true, true, true, false] rfl rfl (any_of HT_.out (by kernel_rfl)) (fun _ _ _ h => h) (Or.inl ⟨by rfl, ?_⟩) ?_ ?_
                   rotate_left
                   · intro w'
                     go_simp
                     with_reducible rfl
                   rotate_left
                   · simp only [Act.put, List.setIfInBounds_toArray, List.set_cons_zero, List.set_cons_succ, i64_w, i32_w]
                     rfl
                   refine pure_ (i := 23) (N := some 16) (v := ?_) (a' := ?_) #[true, true, true, true, true, true, true, true, true, true, true, true, true, true, true, true, true, true, true, true, true, true, true, true] rfl rfl (any_of HT_.out (by kernel_rfl)) (fun _ _ _ h => h) (Or.inl ⟨by rfl, ?_⟩) ?_ ?_
                   rotate_left
                   · intro w'
                     go_simp
                     with_reducible rfl
                   rotate_left
                   · simp only [Act.put, List.setIfInBounds_toArray, List.set_cons_zero, List.set_cons_succ, i64_w, i32_w]
                     rfl
                   refine done_ (done_of HT_.out (by kernel_rfl)) ?_
                   try go_wp2
                   go_ret
                   exact ⟨d11g, d11b⟩
           · rw [if_neg c30] at H
             have c30b0 : decide (x14_2 < (l1.length : Int)) = false := decide_eq_false c30
             clear c30
             replace H := guardT H; obtain ⟨c47, H⟩ := H
             have c47b0 : decide (0 ≤ a3) = true := decide_eq_true c47
             clear c47
             replace H := guardT H; obtain ⟨c48, H⟩ := H
             have c48b0 : decide (a3 < (l2.length : Int)) = true := decide_eq_true c48
             clear c48
             replace H := bindS H; obtain ⟨⟨t122, t123⟩, A49, H⟩ := H
             replace H := bindS H; obtain ⟨⟨t124, t125⟩, A50, H⟩ := H
             have HC51 := Aside0.mk H
             clear H
             have p121 : 0 ≤ (a3 : Int) := of_decide_eq_true d11h
             have q121 : a3 < (l2.length : Int) := of_decide_eq_true d11h
             obtain ⟨ad121, e121, hx121_0, hx121_1, hx121_2, hx121_3, hx121_4⟩ := at_T63 HR2.out a3 p121 q121
             cases e121
             replace hx121_0 := cellB HB.out hx121_0
             replace hx121_1 := cellB HB.out hx121_1
             replace hx121_2 := cellB HB.out hx121_2
             replace hx121_3 := cellB HB.out hx121_3
             replace hx121_4 := cellB HB.out hx121_4
             replace p121 := eq_true p121
             replace q121 := eq_true q121
             go_upto_region 21 with (first | ((with_reducible refine gate_callee (f := 32) rfl ?_); refine goesL_ (some 129) rfl rfl Try.func32 (by kernel_rfl) rfl #[.slice A0 l0.length c0, .slice A1 l1.length c1, .slice (some ad121) l2.length c2, .int .i64 ((rd_T63 l2 a3).f3)] rfl d11a ?_; (with_reducible refine (contact_Backlog.calls k2 _ _ l0 _ _ l1 _ _ l2 ((rd_T63 l2 a3).f3) t122 t123 _ ?side1 ?side2 ?side3 ?side4 ?side5 ?side6 A49.out).mono ?_); (case side1 => exact d11j); (case side2 => exact HC0.out); (case side3 => exact C_go (Kd.C_below HR1.out HB.out)); (case side4 => exact HC1.out); (case side5 => exact C_go (Kd.C_below HR2.out HB.out)); (case side6 => exact HC2.out); rintro e w52 ⟨rfl, hb⟩; refine ⟨_, rfl, ?_⟩; have n0_ := Aside0.mk (Kd.R_below d11d hb); have n1_ := Aside0.mk (below_step d11b hb); clear HO_11; clear HB; have HO_11 := n0_; have HB := n1_; clear n0_ n1_; (try clear hb)) | ((with_reducible refine gate_callee (f := 32) rfl ?_); refine goesL_ (some 136) rfl rfl Try.func32 (by kernel_rfl) rfl #[.slice A0 l0.length c0, .slice A1 l1.length c1, .slice (some ad121) l2.length c2, .int .i64 1000000000000] rfl d11a ?_; (with_reducible refine (contact_Backlog.calls k2 _ _ l0 _ _ l1 _ _ l2 1000000000000 t124 t125 _ ?side1 ?side2 ?side3 ?side4 ?side5 ?side6 A50.out).mono ?_); (case side1 => exact d11j); (case side2 => exact HC0.out); (case side3 => exact C_go (Kd.C_below HR1.out HB.out)); (case side4 => exact HC1.out); (case side5 => exact C_go (Kd.C_below HR2.out HB.out)); (case side6 => exact HC2.out); rintro e w53 ⟨rfl, hb⟩; refine ⟨_, rfl, ?_⟩; have n0_ := Aside0.mk (Kd.R_below d11d hb); have n1_ := Aside0.mk (below_step d11b hb); clear HO_11; clear HB; have HO_11 := n0_; have HB := n1_; clear n0_ n1_; (try clear hb)))
             (try simp only [Act.put, List.setIfInBounds_toArray, List.set_cons_zero, List.set_cons_succ])
             go_cut [144] (fun v144 wc => ∃ (kq : Nat) (x144_50 : Bool), v144 = .bool x144_50 ∧ Aside0 (perigeelaw10_SendingWastesNothing.j3 kq l2 a3 t105 x13_2 t122 t124 x144_50 = some r) ∧ Aside0 (kq ≤ k2) ∧ Aside0 (Kd.R k61 61 wc w.heap.size (fun _ => True) v107 t105) ∧ Aside0 (Below w.heap.size w wc))
             case first =>
              have H := HC51.out
              clear HC51
              by_cases c54 : t123 = 0
              · rw [if_pos c54] at H
                have c54b0 : (t123 == 0) = true := beq_iff_eq.mpr c54
                have c54b1 : (t123 != 0) = false := bne_eq_false_iff_eq.mpr c54
                clear c54
                (first | rw [c54b0] | (simp only [i64_w, i32_w]; rw [c54b0]) | skip)
                have H' := Aside0.mk H
                clear H
                go_wp2
                go_meet
                case rel => exact ⟨_, ((t125 != 0)), d11i, H', ⟨by have := HJ6.out; have := HK2.out; first | omega | exact Nat.le_refl _⟩, ⟨d11d⟩, ⟨d11b⟩⟩
              · rw [if_neg c54] at H
                have c54b0 : (t123 == 0) = false := beq_eq_false_iff_ne.mpr c54
                have c54b1 : (t123 != 0) = true := bne_iff_ne.mpr c54
                (first | rw [c54b0] | (simp only [i64_w, i32_w]; rw [c54b0]) | skip)
                have H' := Aside0.mk H
                clear H
                go_wp2
                go_meet
                case rel => exact ⟨_, (true), d11i, H', ⟨by have := HJ6.out; have := HK2.out; first | omega | exact Nat.le_refl _⟩, ⟨d11d⟩, ⟨d11b⟩⟩
             case rest =>
              clear HC51
              try clear c30b0
              try clear c47b0
              try clear c48b0
              try clear hx121_0
              try clear hx121_1
              try clear hx121_2
              try clear hx121_3
              try clear hx121_4
              try clear p121
              try clear q121
              obtain ⟨kq, x144_50, rfl, HA, HJ50, HO_11, HB⟩ := hcut
              cases kq with
              | zero => exact absurd HA.out (by simp [perigeelaw10_SendingWastesNothing.j3])
              | succ kj50 =>
               have H := HA.out
               clear HA
               simp only [perigeelaw10_SendingWastesNothing.j3] at H
               by_cases c55 : x144_50 = true
               · subst c55
                 replace H := iteT H
                 obtain rfl := Option.some.inj H
                 go_wp2
                 go_ret
                 exact ⟨d11g, d11b⟩
               · replace c55 := Bool.eq_false_iff.mpr c55
                 subst c55
                 replace H := iteF H
                 have H' := Aside0.mk H
                 clear H
                 go_wp2
                 go_loopg [19, 20] kj50 (fun kq v19 v20 w' => ∃ (x19_4 : Int) (x20_4 : Int), v19 = .int .i64 x19_4 ∧ v20 = .int .i64 x20_4 ∧ Aside0 (perigeelaw10_SendingWastesNothing.l1 kq l2 a3 t105 x13_2 t122 t124 x19_4 x20_4 = some r) ∧ Aside0 (kq ≤ kj50) ∧ Aside0 (Kd.R k61 61 w' w.heap.size (fun _ => True) v107 t105) ∧ Aside0 (Below w.heap.size w w'))
                 case atStart => exact ⟨(0), (0), d11i, d11i, H', ⟨Nat.le_refl _⟩, ⟨d11d⟩, ⟨d11b⟩⟩
                 case round => as_aux_lemma =>
                  clear H'
                  obtain ⟨x19_4, x20_4, rfl, rfl, HA, HK4, HO_11, HB⟩ := hrel
                  cases gk with
                  | zero => exact absurd HA.out (by simp [perigeelaw10_SendingWastesNothing.l1])
                  | succ k4 =>
                   have H := HA.out
                   clear HA
                   simp only [perigeelaw10_SendingWastesNothing.l1] at H
                   by_cases c56 : x20_4 < (l2.length : Int)
                   · rw [if_pos c56] at H
                     have c56b0 : decide (x20_4 < (l2.length : Int)) = true := decide_eq_true c56
                     clear c56
                     replace H := guardT H; obtain ⟨c57, H⟩ := H
                     have c57b0 : decide (0 ≤ x20_4) = true := decide_eq_true c57
                     clear c57
                     replace H := guardT H; obtain ⟨c58, H⟩ := H
                     have c58b0 : decide (0 ≤ a3) = true := decide_eq_true c58
                     clear c58
                     replace H := guardT H; obtain ⟨c59, H⟩ := H
                     have c59b0 : decide (a3 < (l2.length : Int)) = true := decide_eq_true c59
                     clear c59
                     by_cases c60 : ((rd_T63 l2 x20_4).f3) ≥ ((rd_T63 l2 a3).f3)
                     · rw [if_pos c60] at H
                       have c60b0 : decide (((rd_T63 l2 a3).f3) ≤ ((rd_T63 l2 x20_4).f3)) = true := decide_eq_true c60
                       clear c60
                       by_cases c61 : ((rd_T63 l2 x20_4).f3) < 1000000000000
                       · rw [if_pos c61] at H
                         have c61b0 : decide (((rd_T63 l2 x20_4).f3) < 1000000000000) = true := decide_eq_true c61
                         clear c61
                         have H' := Aside0.mk H
                         clear H
                         try go_wp2
                         have n0_ := Aside0.mk (Kd.R_drew HO_11.out)
                         have n1_ := Aside0.mk (below_drew1 HB.out)
                         clear HO_11
                         clear HB
                         have HO_11 := n0_
                         have HB := n1_
                         clear n0_ n1_
                         have p126 : 0 ≤ (x20_4 : Int) := of_decide_eq_true d11h
                         have q126 : x20_4 < (l2.length : Int) := of_decide_eq_true d11h
                         obtain ⟨ad126, e126, hx126_0, hx126_1, hx126_2, hx126_3, hx126_4⟩ := at_T63 HR2.out x20_4 p126 q126
                         have hw126_4 := hx126_4
                         have hw126_3 := hx126_3
                         have hw126_2 := hx126_2
                         have hw126_1 := hx126_1
                         have hw126_0 := hx126_0
                         obtain rfl : ad121 = ad126 := (by injection e126)
                         replace hx126_0 := cellB HB.out hx126_0
                         replace hx126_1 := cellB HB.out hx126_1
                         replace hx126_2 := cellB HB.out hx126_2
                         replace hx126_3 := cellB HB.out hx126_3
                         replace hx126_4 := cellB HB.out hx126_4
                         replace p126 := eq_true p126
                         replace q126 := eq_true q126
                         have p127 : 0 ≤ (a3 : Int) := of_decide_eq_true d11h
                         have q127 : a3 < (l2.length : Int) := of_decide_eq_true d11h
                         obtain ⟨ad127, e127, hx127_0, hx127_1, hx127_2, hx127_3, hx127_4⟩ := at_T63 HR2.out a3 p127 q127
                         have hw127_4 := hx127_4
                         have hw127_3 := hx127_3
                         have hw127_2 := hx127_2
                         have hw127_1 := hx127_1
                         have hw127_0 := hx127_0
                         obtain rfl : ad121 = ad127 := (by injection e127)
                         replace hx127_0 := cellB HB.out hx127_0
                         replace hx127_1 := cellB HB.out hx127_1
                         replace hx127_2 := cellB HB.out hx127_2
                         replace hx127_3 := cellB HB.out hx127_3
                         replace hx127_4 := cellB HB.out hx127_4
                         replace p127 := eq_true p127
                         replace q127 := eq_true q127
                         have p128 : 0 ≤ (x20_4 : Int) := of_decide_eq_true d11h
                         have q128 : x20_4 < (l2.length : Int) := of_decide_eq_true d11h
                         obtain ⟨ad128, e128, hx128_0, hx128_1, hx128_2, hx128_3, hx128_4⟩ := at_T63 HR2.out x20_4 p128 q128
                         have hw128_4 := hx128_4
                         have hw128_3 := hx128_3
                         have hw128_2 := hx128_2
                         have hw128_1 := hx128_1
                         have hw128_0 := hx128_0
                         obtain rfl : ad121 = ad128 := (by injection e128)
                         replace hx128_0 := cellB HB.out hx128_0
                         replace hx128_1 := cellB HB.out hx128_1
                         replace hx128_2 := cellB HB.out hx128_2
                         replace hx128_3 := cellB HB.out hx128_3
                         replace hx128_4 := cellB HB.out hx128_4
                         replace p128 := eq_true p128
                         replace q128 := eq_true q128
                         refine start_ (n := 19) (S := fun w' => w'.cell? (ad121.add ((x20_4).toNat * 5)) = some (.string ((rd_T63 l2 x20_4).f0)) ∧ w'.cell? ⟨(ad121.add ((x20_4).toNat * 5)).block, (ad121.add ((x20_4).toNat * 5)).off + 1, none⟩ = some (.int .i64 ((rd_T63 l2 x20_4).f1)) ∧ w'.cell? ⟨(ad121.add ((x20_4).toNat * 5)).block, (ad121.add ((x20_4).toNat * 5)).off + 2, none⟩ = some (.int .i64 ((rd_T63 l2 x20_4).f2)) ∧ w'.cell? ⟨(ad121.add ((x20_4).toNat * 5)).block, (ad121.add ((x20_4).toNat * 5)).off + 3, none⟩ = some (.int .i64 ((rd_T63 l2 x20_4).f3)) ∧ w'.cell? ⟨(ad121.add ((x20_4).toNat * 5)).block, (ad121.add ((x20_4).toNat * 5)).off + 4, none⟩ = some (.int .i64 ((rd_T63 l2 x20_4).f4)) ∧ w'.cell? (ad121.add ((a3).toNat * 5)) = some (.string ((rd_T63 l2 a3).f0)) ∧ w'.cell? ⟨(ad121.add ((a3).toNat * 5)).block, (ad121.add ((a3).toNat * 5)).off + 1, none⟩ = some (.int .i64 ((rd_T63 l2 a3).f1)) ∧ w'.cell? ⟨(ad121.add ((a3).toNat * 5)).block, (ad121.add ((a3).toNat * 5)).off + 2, none⟩ = some (.int .i64 ((rd_T63 l2 a3).f2)) ∧ w'.cell? ⟨(ad121.add ((a3).toNat * 5)).block, (ad121.add ((a3).toNat * 5)).off + 3, none⟩ = some (.int .i64 ((rd_T63 l2 a3).f3)) ∧ w'.cell? ⟨(ad121.add ((a3).toNat * 5)).block, (ad121.add ((a3).toNat * 5)).off + 4, none⟩ = some (.int .i64 ((rd_T63 l2 a3).f4)) ∧ w'.cell? (ad121.add ((x20_4).toNat * 5)) = some (.string ((rd_T63 l2 x20_4).f0)) ∧ w'.cell? ⟨(ad121.add ((x20_4).toNat * 5)).block, (ad121.add ((x20_4).toNat * 5)).off + 1, none⟩ = some (.int .i64 ((rd_T63 l2 x20_4).f1)) ∧ w'.cell? ⟨(ad121.add ((x20_4).toNat * 5)).block, (ad121.add ((x20_4).toNat * 5)).off + 2, none⟩ = some (.int .i64 ((rd_T63 l2 x20_4).f2)) ∧ w'.cell? ⟨(ad121.add ((x20_4).toNat * 5)).block, (ad121.add ((x20_4).toNat * 5)).off + 3, none⟩ = some (.int .i64 ((rd_T63 l2 x20_4).f3)) ∧ w'.cell? ⟨(ad121.add ((x20_4).toNat * 5)).block, (ad121.add ((x20_4).toNat * 5)).off + 4, none⟩ = some (.int .i64 ((rd_T63 l2 x20_4).f4))) (ds := []) #[false, false, false, false, false, false, false, false, false, false, false, false, false, false, false, false, false, false, false] (by kernel_rfl) rfl rfl ⟨((HB.out.cell (World.block_lt_of_cell? w _ hw126_0)).trans hw126_0), ((HB.out.cell (World.block_lt_of_cell? w _ hw126_1)).trans hw126_1), ((HB.out.cell (World.block_lt_of_cell? w _ hw126_2)).trans hw126_2), ((HB.out.cell (World.block_lt_of_cell? w _ hw126_3)).trans hw126_3), ((HB.out.cell (World.block_lt_of_cell? w _ hw126_4)).trans hw126_4), ((HB.out.cell (World.block_lt_of_cell? w _ hw127_0)).trans hw127_0), ((HB.out.cell (World.block_lt_of_cell? w _ hw127_1)).trans hw127_1), ((HB.out.cell (World.block_lt_of_cell? w _ hw127_2)).trans hw127_2), ((HB.out.cell (World.block_lt_of_cell? w _ hw127_3)).trans hw127_3), ((HB.out.cell (World.block_lt_of_cell? w _ hw127_4)).trans hw127_4), ((HB.out.cell (World.block_lt_of_cell? w _ hw128_0)).trans hw128_0), ((HB.out.cell (World.block_lt_of_cell? w _ hw128_1)).trans hw128_1), ((HB.out.cell (World.block_lt_of_cell? w _ hw128_2)).trans hw128_2), ((HB.out.cell (World.block_lt_of_cell? w _ hw128_3)).trans hw128_3), ((HB.out.cell (World.block_lt_of_cell? w _ hw128_4)).trans hw128_4)⟩ (fun hHeld => ?_); refine with_tabW perigeelaw10_SendingWastesNothing.tab27 perigeelaw10_SendingWastesNothing.bits27 (fun HT_ HW_ => ?_)
                         generalize wr.drew = w62 at HO_11 HB hx126_0 hx126_1 hx126_2 hx126_3 hx126_4 hx127_0 hx127_1 hx127_2 hx127_3 hx127_4 hx128_0 hx128_1 hx128_2 hx128_3 hx128_4 hHeld ⊢
                         refine pure_ (i := 0) (N := some 151) (v := ?_) (a' := ?_) #[true, false, false, false, false, false, false, false, false, false, false, false, false, false, false, false, false, false, false] rfl rfl (any_of HT_.out (by kernel_rfl)) (fun _ _ _ h => h) (Or.inl ⟨by rfl, ?_⟩) ?_ ?_
                         rotate_left
                         · intro w'
                           go_simp
                           with_reducible rfl
                         rotate_left
                         · simp only [Act.put, List.setIfInBounds_toArray, List.set_cons_zero, List.set_cons_succ, i64_w, i32_w]
                           rfl
                         refine pure_ (i := 1) (N := some 152) (v := ?_) (a' := ?_) #[true, true, false, false, false, false, false, false, false, false, false, false, false, false, false, false, false, false, false] rfl rfl (any_of HT_.out (by kernel_rfl)) (fun _ _ _ h => h) (Or.inl ⟨by rfl, ?_⟩) ?_ ?_
                         rotate_left
                         · intro w'
                           go_simp
                           with_reducible rfl
                         rotate_left
                         · simp only [Act.put, List.setIfInBounds_toArray, List.set_cons_zero, List.set_cons_succ, i64_w, i32_w]
                           rfl
                         refine pure_ (i := 2) (N := some 153) (v := ?_) (a' := ?_) #[true, true, true, false, false, false, false, false, false, false, false, false, false, false, false, false, false, false, false] rfl rfl (any_of HT_.out (by kernel_rfl)) (fun _ _ _ h => h) (Or.inl ⟨by rfl, ?_⟩) ?_ ?_
                         rotate_left
                         · intro w'
                           go_simp
                           with_reducible rfl
                         rotate_left
                         · simp only [Act.put, List.setIfInBounds_toArray, List.set_cons_zero, List.set_cons_succ, i64_w, i32_w]
                           rfl
                         refine pure_ (i := 3) (N := some 154) (v := ?_) (a' := ?_) #[true, true, true, true, false, false, false, false, false, false, false, false, false, false, false, false, false, false, false] rfl rfl (any_of HT_.out (by kernel_rfl)) (fun _ _ _ h => h) (Or.inl ⟨by rfl, ?_⟩) ?_ ?_
                         rotate_left
                         · intro w'
                           go_simp
                           with_reducible rfl
                         rotate_left
                         · simp only [Act.put, List.setIfInBounds_toArray, List.set_cons_zero, List.set_cons_succ, i64_w, i32_w]
                           rfl
                         refine pure_ (i := 5) (N := some 156) (v := ?_) (a' := ?_) #[true, true, true, true, false, true, false, false, false, false, false, false, false, false, false, false, false, false, false] rfl rfl (any_of HT_.out (by kernel_rfl)) (fun _ _ _ h => h) (Or.inl ⟨by rfl, ?_⟩) ?_ ?_
                         rotate_left
                         · intro w'
                           go_simp
                           with_reducible rfl
                         rotate_left
                         · simp only [Act.put, List.setIfInBounds_toArray, List.set_cons_zero, List.set_cons_succ, i64_w, i32_w]
                           rfl
                         refine pure_ (i := 6) (N := some 157) (v := ?_) (a' := ?_) #[true, true, true, true, false, true, true, false, false, false, false, false, false, false, false, false, false, false, false] rfl rfl (any_of HT_.out (by kernel_rfl)) (fun _ _ _ h => h) (Or.inl ⟨by rfl, ?_⟩) ?_ ?_
                         rotate_left
                         · intro w'
                           go_simp
                           with_reducible rfl
                         rotate_left
                         · simp only [Act.put, List.setIfInBounds_toArray, List.set_cons_zero, List.set_cons_succ, i64_w, i32_w]
                           rfl
                         refine pure_ (i := 7) (N := some 158) (v := ?_) (a' := ?_) #[true, true, true, true, false, true, true, true, false, false, false, false, false, false, false, false, false, false, false] rfl rfl (any_of HT_.out (by kernel_rfl)) (fun _ _ _ h => h) (Or.inl ⟨by rfl, ?_⟩) ?_ ?_
                         rotate_left
                         · intro w'
                           go_simp
                           with_reducible rfl
                         rotate_left
                         · simp only [Act.put, List.setIfInBounds_toArray, List.set_cons_zero, List.set_cons_succ, i64_w, i32_w]
                           rfl
                         refine pure_ (i := 8) (N := some 159) (v := ?_) (a' := ?_) #[true, true, true, true, false, true, true, true, true, false, false, false, false, false, false, false, false, false, false] rfl rfl (any_of HT_.out (by kernel_rfl)) (fun _ _ _ h => h) (Or.inl ⟨by rfl, ?_⟩) ?_ ?_
                         rotate_left
                         · intro w'
                           go_simp
                           with_reducible rfl
                         rotate_left
                         · simp only [Act.put, List.setIfInBounds_toArray, List.set_cons_zero, List.set_cons_succ, i64_w, i32_w]
                           rfl
                         refine take_ (i := 4) (N := some 155) (v := ?_) (a' := ?_) #[true, true, true, true, true, true, true, true, true, false, false, false, false, false, false, false, false, false, false] rfl rfl (take_ofW HT_.out HW_.out (by kernel_rfl)) (fun _ _ _ h => h) (Or.inl ⟨by rfl, ?_⟩) hHeld ?_ ?_
                         rotate_left
                         · rintro w' ⟨s0, s1, s2, s3, s4, s5, s6, s7, s8, s9, s10, s11, s12, s13, s14⟩
                           go_simp
                           with_reducible rfl
                         rotate_left
                         · simp only [Act.put, List.setIfInBounds_toArray, List.set_cons_zero, List.set_cons_succ, i64_w, i32_w]
                           rfl
                         refine take_ (i := 9) (N := some 160) (v := ?_) (a' := ?_) #[true, true, true, true, true, true, true, true, true, true, false, false, false, false, false, false, false, false, false] rfl rfl (take_ofW HT_.out HW_.out (by kernel_rfl)) (fun _ _ _ h => h) (Or.inl ⟨by rfl, ?_⟩) hHeld ?_ ?_
                         rotate_left
                         · rintro w' ⟨s0, s1, s2, s3, s4, s5, s6, s7, s8, s9, s10, s11, s12, s13, s14⟩
                           go_simp
                           with_reducible rfl
                         rotate_left
                         · simp only [Act.put, List.setIfInBounds_toArray, List.set_cons_zero, List.set_cons_succ, i64_w, i32_w]
                           rfl
                         refine pure_ (i := 10) (N := some 161) (v := ?_) (a' := ?_) #[true, true, true, true, true, true, true, true, true, true, true, false, false, false, false, false, false, false, false] rfl rfl (any_of HT_.out (by kernel_rfl)) (fun _ _ _ h => h) (Or.inl ⟨by rfl, ?_⟩) ?_ ?_
                         rotate_left
                         · intro w'
                           go_simp
                           with_reducible rfl
                         rotate_left
                         · simp only [Act.put, List.setIfInBounds_toArray, List.set_cons_zero, List.set_cons_succ, i64_w, i32_w]
                           rfl
                         refine pure_ (i := 11) (N := some 162) (v := ?_) (a' := ?_) #[true, true, true, true, true, true, true, true, true, true, true, true, false, false, false, false, false, false, false] rfl rfl (any_of HT_.out (by kernel_rfl)) (fun _ _ _ h => h) (Or.inl ⟨by rfl, ?_⟩) ?_ ?_
                         rotate_left
                         · intro w'
                           go_simp
                           with_reducible rfl
                         rotate_left
                         · simp only [Act.put, List.setIfInBounds_toArray, List.set_cons_zero, List.set_cons_succ, i64_w, i32_w]
                           rfl
                         refine pure_ (i := 12) (N := some 163) (v := ?_) (a' := ?_) #[true, true, true, true, true, true, true, true, true, true, true, true, true, false, false, false, false, false, false] rfl rfl (any_of HT_.out (by kernel_rfl)) (fun _ _ _ h => h) (Or.inl ⟨by rfl, ?_⟩) ?_ ?_
                         rotate_left
                         · intro w'
                           go_simp
                           with_reducible rfl
                         rotate_left
                         · simp only [Act.put, List.setIfInBounds_toArray, List.set_cons_zero, List.set_cons_succ, i64_w, i32_w]
                           rfl
                         refine pure_ (i := 13) (N := some 164) (v := ?_) (a' := ?_) #[true, true, true, true, true, true, true, true, true, true, true, true, true, true, false, false, false, false, false] rfl rfl (any_of HT_.out (by kernel_rfl)) (fun _ _ _ h => h) (Or.inl ⟨by rfl, ?_⟩) ?_ ?_
                         rotate_left
                         · intro w'
                           go_simp
                           with_reducible rfl
                         rotate_left
                         · simp only [Act.put, List.setIfInBounds_toArray, List.set_cons_zero, List.set_cons_succ, i64_w, i32_w]
                           rfl
                         refine pure_ (i := 14) (N := some 165) (v := ?_) (a' := ?_) #[true, true, true, true, true, true, true, true, true, true, true, true, true, true, true, false, false, false, false] rfl rfl (any_of HT_.out (by kernel_rfl)) (fun _ _ _ h => h) (Or.inl ⟨by rfl, ?_⟩) ?_ ?_
                         rotate_left
                         · intro w'
                           go_simp
                           with_reducible rfl
                         rotate_left
                         · simp only [Act.put, List.setIfInBounds_toArray, List.set_cons_zero, List.set_cons_succ, i64_w, i32_w]
                           rfl
                         refine pure_ (i := 15) (N := some 166) (v := ?_) (a' := ?_) #[true, true, true, true, true, true, true, true, true, true, true, true, true, true, true, true, false, false, false] rfl rfl (any_of HT_.out (by kernel_rfl)) (fun _ _ _ h => h) (Or.inl ⟨by rfl, ?_⟩) ?_ ?_
                         rotate_left
                         · intro w'
                           go_simp
                           with_reducible rfl
                         rotate_left
                         · simp only [Act.put, List.setIfInBounds_toArray, List.set_cons_zero, List.set_cons_succ, i64_w, i32_w]
                           rfl
                         refine take_ (i := 16) (N := some 167) (v := ?_) (a' := ?_) #[true, true, true, true, true, true, true, true, true, true, true, true, true, true, true, true, true, false, false] rfl rfl (take_ofW HT_.out HW_.out (by kernel_rfl)) (fun _ _ _ h => h) (Or.inl ⟨by rfl, ?_⟩) hHeld ?_ ?_
                         rotate_left
                         · rintro w' ⟨s0, s1, s2, s3, s4, s5, s6, s7, s8, s9, s10, s11, s12, s13, s14⟩
                           go_simp
                           with_reducible rfl
                         rotate_left
                         · simp only [Act.put, List.setIfInBounds_toArray, List.set_cons_zero, List.set_cons_succ, i64_w, i32_w]
                           rfl
                         refine pure_ (i := 17) (N := some 168) (v := ?_) (a' := ?_) #[true, true, true, true, true, true, true, true, true, true, true, true, true, true, true, true, true, true, false] rfl rfl (any_of HT_.out (by kernel_rfl)) (fun _ _ _ h => h) (Or.inl ⟨by rfl, ?_⟩) ?_ ?_
                         rotate_left
                         · intro w'
                           go_simp
                           with_reducible rfl
                         rotate_left
                         · simp only [Act.put, List.setIfInBounds_toArray, List.set_cons_zero, List.set_cons_succ, i64_w, i32_w]
                           rfl
                         refine pure_ (i := 18) (N := some 169) (v := ?_) (a' := ?_) #[true, true, true, true, true, true, true, true, true, true, true, true, true, true, true, true, true, true, true] rfl rfl (any_of HT_.out (by kernel_rfl)) (fun _ _ _ h => h) (Or.inl ⟨by rfl, ?_⟩) ?_ ?_
                         rotate_left
                         · intro w'
                           go_simp
                           with_reducible rfl
                         rotate_left
                         · simp only [Act.put, List.setIfInBounds_toArray, List.set_cons_zero, List.set_cons_succ, i64_w, i32_w]
                           rfl
                         refine done_ (done_of HT_.out (by kernel_rfl)) ?_
                         have p129 : 0 ≤ (x20_4 : Int) := of_decide_eq_true d11h
                         have q129 : x20_4 < (l2.length : Int) := of_decide_eq_true d11h
                         obtain ⟨ad129, e129, hx129_0, hx129_1, hx129_2, hx129_3, hx129_4⟩ := at_T63 HR2.out x20_4 p129 q129
                         obtain rfl : ad121 = ad129 := (by injection e129)
                         replace hx129_0 := cellB HB.out hx129_0
                         replace hx129_1 := cellB HB.out hx129_1
                         replace hx129_2 := cellB HB.out hx129_2
                         replace hx129_3 := cellB HB.out hx129_3
                         replace hx129_4 := cellB HB.out hx129_4
                         replace p129 := eq_true p129
                         replace q129 := eq_true q129
                         try go_wp2
                         go_roundg k4
                         case measure => have := HJ6.out; have := HK2.out; have := HJ50.out; have := HK4.out; omega
                         case rel => exact ⟨(wrap64 (x19_4 + ((rd_T63 l2 x20_4).f1))), (wrap64 (x20_4 + 1)), d11i, d11i, H', ⟨by have := HJ6.out; have := HK2.out; have := HJ50.out; have := HK4.out; omega⟩, ⟨d11d⟩, ⟨d11b⟩⟩
                       · rw [if_neg c61] at H
                         have c61b0 : decide (((rd_T63 l2 x20_4).f3) < 1000000000000) = false := decide_eq_false c61
                         clear c61
                         have H' := Aside0.mk H
                         clear H
                         try go_wp2
                         have n0_ := Aside0.mk (Kd.R_drew HO_11.out)
                         have n1_ := Aside0.mk (below_drew1 HB.out)
                         clear HO_11
                         clear HB
                         have HO_11 := n0_
                         have HB := n1_
                         clear n0_ n1_
                         have p126 : 0 ≤ (x20_4 : Int) := of_decide_eq_true d11h
                         have q126 : x20_4 < (l2.length : Int) := of_decide_eq_true d11h
                         obtain ⟨ad126, e126, hx126_0, hx126_1, hx126_2, hx126_3, hx126_4⟩ := at_T63 HR2.out x20_4 p126 q126
                         have hw126_4 := hx126_4
                         have hw126_3 := hx126_3
                         have hw126_2 := hx126_2
                         have hw126_1 := hx126_1
                         have hw126_0 := hx126_0
                         obtain rfl : ad121 = ad126 := (by injection e126)
                         replace hx126_0 := cellB HB.out hx126_0
                         replace hx126_1 := cellB HB.out hx126_1
                         replace hx126_2 := cellB HB.out hx126_2
                         replace hx126_3 := cellB HB.out hx126_3
                         replace hx126_4 := cellB HB.out hx126_4
                         replace p126 := eq_true p126
                         replace q126 := eq_true q126
                         have p127 : 0 ≤ (a3 : Int) := of_decide_eq_true d11h
                         have q127 : a3 < (l2.length : Int) := of_decide_eq_true d11h
                         obtain ⟨ad127, e127, hx127_0, hx127_1, hx127_2, hx127_3, hx127_4⟩ := at_T63 HR2.out a3 p127 q127
                         have hw127_4 := hx127_4
                         have hw127_3 := hx127_3
                         have hw127_2 := hx127_2
                         have hw127_1 := hx127_1
                         have hw127_0 := hx127_0
                         obtain rfl : ad121 = ad127 := (by injection e127)
                         replace hx127_0 := cellB HB.out hx127_0
                         replace hx127_1 := cellB HB.out hx127_1
                         replace hx127_2 := cellB HB.out hx127_2
                         replace hx127_3 := cellB HB.out hx127_3
                         replace hx127_4 := cellB HB.out hx127_4
                         replace p127 := eq_true p127
                         replace q127 := eq_true q127
                         have p128 : 0 ≤ (x20_4 : Int) := of_decide_eq_true d11h
                         have q128 : x20_4 < (l2.length : Int) := of_decide_eq_true d11h
                         obtain ⟨ad128, e128, hx128_0, hx128_1, hx128_2, hx128_3, hx128_4⟩ := at_T63 HR2.out x20_4 p128 q128
                         have hw128_4 := hx128_4
                         have hw128_3 := hx128_3
                         have hw128_2 := hx128_2
                         have hw128_1 := hx128_1
                         have hw128_0 := hx128_0
                         obtain rfl : ad121 = ad128 := (by injection e128)
                         replace hx128_0 := cellB HB.out hx128_0
                         replace hx128_1 := cellB HB.out hx128_1
                         replace hx128_2 := cellB HB.out hx128_2
                         replace hx128_3 := cellB HB.out hx128_3
                         replace hx128_4 := cellB HB.out hx128_4
                         replace p128 := eq_true p128
                         replace q128 := eq_true q128
                         refine start_ (n := 19) (S := fun w' => w'.cell? (ad121.add ((x20_4).toNat * 5)) = some (.string ((rd_T63 l2 x20_4).f0)) ∧ w'.cell? ⟨(ad121.add ((x20_4).toNat * 5)).block, (ad121.add ((x20_4).toNat * 5)).off + 1, none⟩ = some (.int .i64 ((rd_T63 l2 x20_4).f1)) ∧ w'.cell? ⟨(ad121.add ((x20_4).toNat * 5)).block, (ad121.add ((x20_4).toNat * 5)).off + 2, none⟩ = some (.int .i64 ((rd_T63 l2 x20_4).f2)) ∧ w'.cell? ⟨(ad121.add ((x20_4).toNat * 5)).block, (ad121.add ((x20_4).toNat * 5)).off + 3, none⟩ = some (.int .i64 ((rd_T63 l2 x20_4).f3)) ∧ w'.cell? ⟨(ad121.add ((x20_4).toNat * 5)).block, (ad121.add ((x20_4).toNat * 5)).off + 4, none⟩ = some (.int .i64 ((rd_T63 l2 x20_4).f4)) ∧ w'.cell? (ad121.add ((a3).toNat * 5)) = some (.string ((rd_T63 l2 a3).f0)) ∧ w'.cell? ⟨(ad121.add ((a3).toNat * 5)).block, (ad121.add ((a3).toNat * 5)).off + 1, none⟩ = some (.int .i64 ((rd_T63 l2 a3).f1)) ∧ w'.cell? ⟨(ad121.add ((a3).toNat * 5)).block, (ad121.add ((a3).toNat * 5)).off + 2, none⟩ = some (.int .i64 ((rd_T63 l2 a3).f2)) ∧ w'.cell? ⟨(ad121.add ((a3).toNat * 5)).block, (ad121.add ((a3).toNat * 5)).off + 3, none⟩ = some (.int .i64 ((rd_T63 l2 a3).f3)) ∧ w'.cell? ⟨(ad121.add ((a3).toNat * 5)).block, (ad121.add ((a3).toNat * 5)).off + 4, none⟩ = some (.int .i64 ((rd_T63 l2 a3).f4)) ∧ w'.cell? (ad121.add ((x20_4).toNat * 5)) = some (.string ((rd_T63 l2 x20_4).f0)) ∧ w'.cell? ⟨(ad121.add ((x20_4).toNat * 5)).block, (ad121.add ((x20_4).toNat * 5)).off + 1, none⟩ = some (.int .i64 ((rd_T63 l2 x20_4).f1)) ∧ w'.cell? ⟨(ad121.add ((x20_4).toNat * 5)).block, (ad121.add ((x20_4).toNat * 5)).off + 2, none⟩ = some (.int .i64 ((rd_T63 l2 x20_4).f2)) ∧ w'.cell? ⟨(ad121.add ((x20_4).toNat * 5)).block, (ad121.add ((x20_4).toNat * 5)).off + 3, none⟩ = some (.int .i64 ((rd_T63 l2 x20_4).f3)) ∧ w'.cell? ⟨(ad121.add ((x20_4).toNat * 5)).block, (ad121.add ((x20_4).toNat * 5)).off + 4, none⟩ = some (.int .i64 ((rd_T63 l2 x20_4).f4))) (ds := []) #[false, false, false, false, false, false, false, false, false, false, false, false, false, false, false, false, false, false, false] (by kernel_rfl) rfl rfl ⟨((HB.out.cell (World.block_lt_of_cell? w _ hw126_0)).trans hw126_0), ((HB.out.cell (World.block_lt_of_cell? w _ hw126_1)).trans hw126_1), ((HB.out.cell (World.block_lt_of_cell? w _ hw126_2)).trans hw126_2), ((HB.out.cell (World.block_lt_of_cell? w _ hw126_3)).trans hw126_3), ((HB.out.cell (World.block_lt_of_cell? w _ hw126_4)).trans hw126_4), ((HB.out.cell (World.block_lt_of_cell? w _ hw127_0)).trans hw127_0), ((HB.out.cell (World.block_lt_of_cell? w _ hw127_1)).trans hw127_1), ((HB.out.cell (World.block_lt_of_cell? w _ hw127_2)).trans hw127_2), ((HB.out.cell (World.block_lt_of_cell? w _ hw127_3)).trans hw127_3), ((HB.out.cell (World.block_lt_of_cell? w _ hw127_4)).trans hw127_4), ((HB.out.cell (World.block_lt_of_cell? w _ hw128_0)).trans hw128_0), ((HB.out.cell (World.block_lt_of_cell? w _ hw128_1)).trans hw128_1), ((HB.out.cell (World.block_lt_of_cell? w _ hw128_2)).trans hw128_2), ((HB.out.cell (World.block_lt_of_cell? w _ hw128_3)).trans hw128_3), ((HB.out.cell (World.block_lt_of_cell? w _ hw128_4)).trans hw128_4)⟩ (fun hHeld => ?_); refine with_tabW perigeelaw10_SendingWastesNothing.tab27 perigeelaw10_SendingWastesNothing.bits27 (fun HT_ HW_ => ?_)
                         generalize wr.drew = w63 at HO_11 HB hx126_0 hx126_1 hx126_2 hx126_3 hx126_4 hx127_0 hx127_1 hx127_2 hx127_3 hx127_4 hx128_0 hx128_1 hx128_2 hx128_3 hx128_4 hHeld ⊢
                         refine pure_ (i := 0) (N := some 151) (v := ?_) (a' := ?_) #[true, false, false, false, false, false, false, false, false, false, false, false, false, false, false, false, false, false, false] rfl rfl (any_of HT_.out (by kernel_rfl)) (fun _ _ _ h => h) (Or.inl ⟨by rfl, ?_⟩) ?_ ?_
                         rotate_left
                         · intro w'
                           go_simp
                           with_reducible rfl
                         rotate_left
                         · simp only [Act.put, List.setIfInBounds_toArray, List.set_cons_zero, List.set_cons_succ, i64_w, i32_w]
                           rfl
                         refine pure_ (i := 1) (N := some 152) (v := ?_) (a' := ?_) #[true, true, false, false, false, false, false, false, false, false, false, false, false, false, false, false, false, false, false] rfl rfl (any_of HT_.out (by kernel_rfl)) (fun _ _ _ h => h) (Or.inl ⟨by rfl, ?_⟩) ?_ ?_
                         rotate_left
                         · intro w'
                           go_simp
                           with_reducible rfl
                         rotate_left
                         · simp only [Act.put, List.setIfInBounds_toArray, List.set_cons_zero, List.set_cons_succ, i64_w, i32_w]
                           rfl
                         refine pure_ (i := 2) (N := some 153) (v := ?_) (a' := ?_) #[true, true, true, false, false, false, false, false, false, false, false, false, false, false, false, false, false, false, false] rfl rfl (any_of HT_.out (by kernel_rfl)) (fun _ _ _ h => h) (Or.inl ⟨by rfl, ?_⟩) ?_ ?_
                         rotate_left
                         · intro w'
                           go_simp
                           with_reducible rfl
                         rotate_left
                         · simp only [Act.put, List.setIfInBounds_toArray, List.set_cons_zero, List.set_cons_succ, i64_w, i32_w]
                           rfl
                         refine pure_ (i := 3) (N := some 154) (v := ?_) (a' := ?_) #[true, true, true, true, false, false, false, false, false, false, false, false, false, false, false, false, false, false, false] rfl rfl (any_of HT_.out (by kernel_rfl)) (fun _ _ _ h => h) (Or.inl ⟨by rfl, ?_⟩) ?_ ?_
                         rotate_left
                         · intro w'
                           go_simp
                           with_reducible rfl
                         rotate_left
                         · simp only [Act.put, List.setIfInBounds_toArray, List.set_cons_zero, List.set_cons_succ, i64_w, i32_w]
                           rfl
                         refine pure_ (i := 5) (N := some 156) (v := ?_) (a' := ?_) #[true, true, true, true, false, true, false, false, false, false, false, false, false, false, false, false, false, false, false] rfl rfl (any_of HT_.out (by kernel_rfl)) (fun _ _ _ h => h) (Or.inl ⟨by rfl, ?_⟩) ?_ ?_
                         rotate_left
                         · intro w'
                           go_simp
                           with_reducible rfl
                         rotate_left
                         · simp only [Act.put, List.setIfInBounds_toArray, List.set_cons_zero, List.set_cons_succ, i64_w, i32_w]
                           rfl
                         refine pure_ (i := 6) (N := some 157) (v := ?_) (a' := ?_) #[true, true, true, true, false, true, true, false, false, false, false, false, false, false, false, false, false, false, false] rfl rfl (any_of HT_.out (by kernel_rfl)) (fun _ _ _ h => h) (Or.inl ⟨by rfl, ?_⟩) ?_ ?_
                         rotate_left
                         · intro w'
                           go_simp
                           with_reducible rfl
                         rotate_left
                         · simp only [Act.put, List.setIfInBounds_toArray, List.set_cons_zero, List.set_cons_succ, i64_w, i32_w]
                           rfl
                         refine pure_ (i := 7) (N := some 158) (v := ?_) (a' := ?_) #[true, true, true, true, false, true, true, true, false, false, false, false, false, false, false, false, false, false, false] rfl rfl (any_of HT_.out (by kernel_rfl)) (fun _ _ _ h => h) (Or.inl ⟨by rfl, ?_⟩) ?_ ?_
                         rotate_left
                         · intro w'
                           go_simp
                           with_reducible rfl
                         rotate_left
                         · simp only [Act.put, List.setIfInBounds_toArray, List.set_cons_zero, List.set_cons_succ, i64_w, i32_w]
                           rfl
                         refine pure_ (i := 8) (N := some 159) (v := ?_) (a' := ?_) #[true, true, true, true, false, true, true, true, true, false, false, false, false, false, false, false, false, false, false] rfl rfl (any_of HT_.out (by kernel_rfl)) (fun _ _ _ h => h) (Or.inl ⟨by rfl, ?_⟩) ?_ ?_
                         rotate_left
                         · intro w'
                           go_simp
                           with_reducible rfl
                         rotate_left
                         · simp only [Act.put, List.setIfInBounds_toArray, List.set_cons_zero, List.set_cons_succ, i64_w, i32_w]
                           rfl
                         refine take_ (i := 4) (N := some 155) (v := ?_) (a' := ?_) #[true, true, true, true, true, true, true, true, true, false, false, false, false, false, false, false, false, false, false] rfl rfl (take_ofW HT_.out HW_.out (by kernel_rfl)) (fun _ _ _ h => h) (Or.inl ⟨by rfl, ?_⟩) hHeld ?_ ?_
                         rotate_left
                         · rintro w' ⟨s0, s1, s2, s3, s4, s5, s6, s7, s8, s9, s10, s11, s12, s13, s14⟩
                           go_simp
                           with_reducible rfl
                         rotate_left
                         · simp only [Act.put, List.setIfInBounds_toArray, List.set_cons_zero, List.set_cons_succ, i64_w, i32_w]
                           rfl
                         refine take_ (i := 9) (N := some 160) (v := ?_) (a' := ?_) #[true, true, true, true, true, true, true, true, true, true, false, false, false, false, false, false, false, false, false] rfl rfl (take_ofW HT_.out HW_.out (by kernel_rfl)) (fun _ _ _ h => h) (Or.inl ⟨by rfl, ?_⟩) hHeld ?_ ?_
                         rotate_left
                         · rintro w' ⟨s0, s1, s2, s3, s4, s5, s6, s7, s8, s9, s10, s11, s12, s13, s14⟩
                           go_simp
                           with_reducible rfl
                         rotate_left
                         · simp only [Act.put, List.setIfInBounds_toArray, List.set_cons_zero, List.set_cons_succ, i64_w, i32_w]
                           rfl
                         refine pure_ (i := 10) (N := some 161) (v := ?_) (a' := ?_) #[true, true, true, true, true, true, true, true, true, true, true, false, false, false, false, false, false, false, false] rfl rfl (any_of HT_.out (by kernel_rfl)) (fun _ _ _ h => h) (Or.inl ⟨by rfl, ?_⟩) ?_ ?_
                         rotate_left
                         · intro w'
                           go_simp
                           with_reducible rfl
                         rotate_left
                         · simp only [Act.put, List.setIfInBounds_toArray, List.set_cons_zero, List.set_cons_succ, i64_w, i32_w]
                           rfl
                         refine pure_ (i := 11) (N := some 162) (v := ?_) (a' := ?_) #[true, true, true, true, true, true, true, true, true, true, true, true, false, false, false, false, false, false, false] rfl rfl (any_of HT_.out (by kernel_rfl)) (fun _ _ _ h => h) (Or.inl ⟨by rfl, ?_⟩) ?_ ?_
                         rotate_left
                         · intro w'
                           go_simp
                           with_reducible rfl
                         rotate_left
                         · simp only [Act.put, List.setIfInBounds_toArray, List.set_cons_zero, List.set_cons_succ, i64_w, i32_w]
                           rfl
                         refine pure_ (i := 12) (N := some 163) (v := ?_) (a' := ?_) #[true, true, true, true, true, true, true, true, true, true, true, true, true, false, false, false, false, false, false] rfl rfl (any_of HT_.out (by kernel_rfl)) (fun _ _ _ h => h) (Or.inl ⟨by rfl, ?_⟩) ?_ ?_
                         rotate_left
                         · intro w'
                           go_simp
                           with_reducible rfl
                         rotate_left
                         · simp only [Act.put, List.setIfInBounds_toArray, List.set_cons_zero, List.set_cons_succ, i64_w, i32_w]
                           rfl
                         refine pure_ (i := 13) (N := some 164) (v := ?_) (a' := ?_) #[true, true, true, true, true, true, true, true, true, true, true, true, true, true, false, false, false, false, false] rfl rfl (any_of HT_.out (by kernel_rfl)) (fun _ _ _ h => h) (Or.inl ⟨by rfl, ?_⟩) ?_ ?_
                         rotate_left
                         · intro w'
                           go_simp
                           with_reducible rfl
                         rotate_left
                         · simp only [Act.put, List.setIfInBounds_toArray, List.set_cons_zero, List.set_cons_succ, i64_w, i32_w]
                           rfl
                         refine pure_ (i := 14) (N := some 165) (v := ?_) (a' := ?_) #[true, true, true, true, true, true, true, true, true, true, true, true, true, true, true, false, false, false, false] rfl rfl (any_of HT_.out (by kernel_rfl)) (fun _ _ _ h => h) (Or.inl ⟨by rfl, ?_⟩) ?_ ?_
                         rotate_left
                         · intro w'
                           go_simp
                           with_reducible rfl
                         rotate_left
                         · simp only [Act.put, List.setIfInBounds_toArray, List.set_cons_zero, List.set_cons_succ, i64_w, i32_w]
                           rfl
                         refine pure_ (i := 15) (N := some 166) (v := ?_) (a' := ?_) #[true, true, true, true, true, true, true, true, true, true, true, true, true, true, true, true, false, false, false] rfl rfl (any_of HT_.out (by kernel_rfl)) (fun _ _ _ h => h) (Or.inl ⟨by rfl, ?_⟩) ?_ ?_
                         rotate_left
                         · intro w'
                           go_simp
                           with_reducible rfl
                         rotate_left
                         · simp only [Act.put, List.setIfInBounds_toArray, List.set_cons_zero, List.set_cons_succ, i64_w, i32_w]
                           rfl
                         refine take_ (i := 16) (N := some 167) (v := ?_) (a' := ?_) #[true, true, true, true, true, true, true, true, true, true, true, true, true, true, true, true, true, false, false] rfl rfl (take_ofW HT_.out HW_.out (by kernel_rfl)) (fun _ _ _ h => h) (Or.inl ⟨by rfl, ?_⟩) hHeld ?_ ?_
                         rotate_left
                         · rintro w' ⟨s0, s1, s2, s3, s4, s5, s6, s7, s8, s9, s10, s11, s12, s13, s14⟩
                           go_simp
                           with_reducible rfl
                         rotate_left
                         · simp only [Act.put, List.setIfInBounds_toArray, List.set_cons_zero, List.set_cons_succ, i64_w, i32_w]
                           rfl
                         refine pure_ (i := 17) (N := some 168) (v := ?_) (a' := ?_) #[true, true, true, true, true, true, true, true, true, true, true, true, true, true, true, true, true, true, false] rfl rfl (any_of HT_.out (by kernel_rfl)) (fun _ _ _ h => h) (Or.inl ⟨by rfl, ?_⟩) ?_ ?_
                         rotate_left
                         · intro w'
                           go_simp
                           with_reducible rfl
                         rotate_left
                         · simp only [Act.put, List.setIfInBounds_toArray, List.set_cons_zero, List.set_cons_succ, i64_w, i32_w]
                           rfl
                         refine pure_ (i := 18) (N := some 169) (v := ?_) (a' := ?_) #[true, true, true, true, true, true, true, true, true, true, true, true, true, true, true, true, true, true, true] rfl rfl (any_of HT_.out (by kernel_rfl)) (fun _ _ _ h => h) (Or.inl ⟨by rfl, ?_⟩) ?_ ?_
                         rotate_left
                         · intro w'
                           go_simp
                           with_reducible rfl
                         rotate_left
                         · simp only [Act.put, List.setIfInBounds_toArray, List.set_cons_zero, List.set_cons_succ, i64_w, i32_w]
                           rfl
                         refine done_ (done_of HT_.out (by kernel_rfl)) ?_
                         try go_wp2
                         go_roundg k4
                         case measure => have := HJ6.out; have := HK2.out; have := HJ50.out; have := HK4.out; omega
                         case rel => exact ⟨(x19_4), (wrap64 (x20_4 + 1)), d11i, d11i, H', ⟨by have := HJ6.out; have := HK2.out; have := HJ50.out; have := HK4.out; omega⟩, ⟨d11d⟩, ⟨d11b⟩⟩
                     · rw [if_neg c60] at H
                       have c60b0 : decide (((rd_T63 l2 a3).f3) ≤ ((rd_T63 l2 x20_4).f3)) = false := decide_eq_false c60
                       clear c60
                       have H' := Aside0.mk H
                       clear H
                       try go_wp2
                       have n0_ := Aside0.mk (Kd.R_drew HO_11.out)
                       have n1_ := Aside0.mk (below_drew1 HB.out)
                       clear HO_11
                       clear HB
                       have HO_11 := n0_
                       have HB := n1_
                       clear n0_ n1_
                       have p126 : 0 ≤ (x20_4 : Int) := of_decide_eq_true d11h
                       have q126 : x20_4 < (l2.length : Int) := of_decide_eq_true d11h
                       obtain ⟨ad126, e126, hx126_0, hx126_1, hx126_2, hx126_3, hx126_4⟩ := at_T63 HR2.out x20_4 p126 q126
                       have hw126_4 := hx126_4
                       have hw126_3 := hx126_3
                       have hw126_2 := hx126_2
                       have hw126_1 := hx126_1
                       have hw126_0 := hx126_0
                       obtain rfl : ad121 = ad126 := (by injection e126)
                       replace hx126_0 := cellB HB.out hx126_0
                       replace hx126_1 := cellB HB.out hx126_1
                       replace hx126_2 := cellB HB.out hx126_2
                       replace hx126_3 := cellB HB.out hx126_3
                       replace hx126_4 := cellB HB.out hx126_4
                       replace p126 := eq_true p126
                       replace q126 := eq_true q126
                       have p127 : 0 ≤ (a3 : Int) := of_decide_eq_true d11h
                       have q127 : a3 < (l2.length : Int) := of_decide_eq_true d11h
                       obtain ⟨ad127, e127, hx127_0, hx127_1, hx127_2, hx127_3, hx127_4⟩ := at_T63 HR2.out a3 p127 q127
                       have hw127_4 := hx127_4
                       have hw127_3 := hx127_3
                       have hw127_2 := hx127_2
                       have hw127_1 := hx127_1
                       have hw127_0 := hx127_0
                       obtain rfl : ad121 = ad127 := (by injection e127)
                       replace hx127_0 := cellB HB.out hx127_0
                       replace hx127_1 := cellB HB.out hx127_1
                       replace hx127_2 := cellB HB.out hx127_2
                       replace hx127_3 := cellB HB.out hx127_3
                       replace hx127_4 := cellB HB.out hx127_4
                       replace p127 := eq_true p127
                       replace q127 := eq_true q127
                       refine start_ (n := 19) (S := fun w' => w'.cell? (ad121.add ((x20_4).toNat * 5)) = some (.string ((rd_T63 l2 x20_4).f0)) ∧ w'.cell? ⟨(ad121.add ((x20_4).toNat * 5)).block, (ad121.add ((x20_4).toNat * 5)).off + 1, none⟩ = some (.int .i64 ((rd_T63 l2 x20_4).f1)) ∧ w'.cell? ⟨(ad121.add ((x20_4).toNat * 5)).block, (ad121.add ((x20_4).toNat * 5)).off + 2, none⟩ = some (.int .i64 ((rd_T63 l2 x20_4).f2)) ∧ w'.cell? ⟨(ad121.add ((x20_4).toNat * 5)).block, (ad121.add ((x20_4).toNat * 5)).off + 3, none⟩ = some (.int .i64 ((rd_T63 l2 x20_4).f3)) ∧ w'.cell? ⟨(ad121.add ((x20_4).toNat * 5)).block, (ad121.add ((x20_4).toNat * 5)).off + 4, none⟩ = some (.int .i64 ((rd_T63 l2 x20_4).f4)) ∧ w'.cell? (ad121.add ((a3).toNat * 5)) = some (.string ((rd_T63 l2 a3).f0)) ∧ w'.cell? ⟨(ad121.add ((a3).toNat * 5)).block, (ad121.add ((a3).toNat * 5)).off + 1, none⟩ = some (.int .i64 ((rd_T63 l2 a3).f1)) ∧ w'.cell? ⟨(ad121.add ((a3).toNat * 5)).block, (ad121.add ((a3).toNat * 5)).off + 2, none⟩ = some (.int .i64 ((rd_T63 l2 a3).f2)) ∧ w'.cell? ⟨(ad121.add ((a3).toNat * 5)).block, (ad121.add ((a3).toNat * 5)).off + 3, none⟩ = some (.int .i64 ((rd_T63 l2 a3).f3)) ∧ w'.cell? ⟨(ad121.add ((a3).toNat * 5)).block, (ad121.add ((a3).toNat * 5)).off + 4, none⟩ = some (.int .i64 ((rd_T63 l2 a3).f4))) (ds := []) #[false, false, false, false, false, false, false, false, false, false, false, false, false, false, false, false, false, false, false] (by kernel_rfl) rfl rfl ⟨((HB.out.cell (World.block_lt_of_cell? w _ hw126_0)).trans hw126_0), ((HB.out.cell (World.block_lt_of_cell? w _ hw126_1)).trans hw126_1), ((HB.out.cell (World.block_lt_of_cell? w _ hw126_2)).trans hw126_2), ((HB.out.cell (World.block_lt_of_cell? w _ hw126_3)).trans hw126_3), ((HB.out.cell (World.block_lt_of_cell? w _ hw126_4)).trans hw126_4), ((HB.out.cell (World.block_lt_of_cell? w _ hw127_0)).trans hw127_0), ((HB.out.cell (World.block_lt_of_cell? w _ hw127_1)).trans hw127_1), ((HB.out.cell (World.block_lt_of_cell? w _ hw127_2)).trans hw127_2), ((HB.out.cell (World.block_lt_of_cell? w _ hw127_3)).trans hw127_3), ((HB.out.cell (World.block_lt_of_cell? w _ hw127_4)).trans hw127_4)⟩ (fun hHeld => ?_); refine with_tabW perigeelaw10_SendingWastesNothing.tab27 perigeelaw10_SendingWastesNothing.bits27 (fun HT_ HW_ => ?_)
                       generalize wr.drew = w64 at HO_11 HB hx126_0 hx126_1 hx126_2 hx126_3 hx126_4 hx127_0 hx127_1 hx127_2 hx127_3 hx127_4 hHeld ⊢
                       refine pure_ (i := 0) (N := some 151) (v := ?_) (a' := ?_) #[true, false, false, false, false, false, false, false, false, false, false, false, false, false, false, false, false, false, false] rfl rfl (any_of HT_.out (by kernel_rfl)) (fun _ _ _ h => h) (Or.inl ⟨by rfl, ?_⟩) ?_ ?_
                       rotate_left
                       · intro w'
                         go_simp
                         with_reducible rfl
                       rotate_left
                       · simp only [Act.put, List.setIfInBounds_toArray, List.set_cons_zero, List.set_cons_succ, i64_w, i32_w]
                         rfl
                       refine pure_ (i := 1) (N := some 152) (v := ?_) (a' := ?_) #[true, true, false, false, false, false, false, false, false, false, false, false, false, false, false, false, false, false, false] rfl rfl (any_of HT_.out (by kernel_rfl)) (fun _ _ _ h => h) (Or.inl ⟨by rfl, ?_⟩) ?_ ?_
                       rotate_left
                       · intro w'
                         go_simp
                         with_reducible rfl
                       rotate_left
                       · simp only [Act.put, List.setIfInBounds_toArray, List.set_cons_zero, List.set_cons_succ, i64_w, i32_w]
                         rfl
                       refine pure_ (i := 2) (N := some 153) (v := ?_) (a' := ?_) #[true, true, true, false, false, false, false, false, false, false, false, false, false, false, false, false, false, false, false] rfl rfl (any_of HT_.out (by kernel_rfl)) (fun _ _ _ h => h) (Or.inl ⟨by rfl, ?_⟩) ?_ ?_
                       rotate_left
                       · intro w'
                         go_simp
                         with_reducible rfl
                       rotate_left
                       · simp only [Act.put, List.setIfInBounds_toArray, List.set_cons_zero, List.set_cons_succ, i64_w, i32_w]
                         rfl
                       refine pure_ (i := 3) (N := some 154) (v := ?_) (a' := ?_) #[true, true, true, true, false, false, false, false, false, false, false, false, false, false, false, false, false, false, false] rfl rfl (any_of HT_.out (by kernel_rfl)) (fun _ _ _ h => h) (Or.inl ⟨by rfl, ?_⟩) ?_ ?_
                       rotate_left
                       · intro w'
                         go_simp
                         with_reducible rfl
                       rotate_left
                       · simp only [Act.put, List.setIfInBounds_toArray, List.set_cons_zero, List.set_cons_succ, i64_w, i32_w]
                         rfl
                       refine pure_ (i := 5) (N := some 156) (v := ?_) (a' := ?_) #[true, true, true, true, false, true, false, false, false, false, false, false, false, false, false, false, false, false, false] rfl rfl (any_of HT_.out (by kernel_rfl)) (fun _ _ _ h => h) (Or.inl ⟨by rfl, ?_⟩) ?_ ?_
                       rotate_left
                       · intro w'
                         go_simp
                         with_reducible rfl
                       rotate_left
                       · simp only [Act.put, List.setIfInBounds_toArray, List.set_cons_zero, List.set_cons_succ, i64_w, i32_w]
                         rfl
                       refine pure_ (i := 6) (N := some 157) (v := ?_) (a' := ?_) #[true, true, true, true, false, true, true, false, false, false, false, false, false, false, false, false, false, false, false] rfl rfl (any_of HT_.out (by kernel_rfl)) (fun _ _ _ h => h) (Or.inl ⟨by rfl, ?_⟩) ?_ ?_
                       rotate_left
                       · intro w'
                         go_simp
                         with_reducible rfl
                       rotate_left
                       · simp only [Act.put, List.setIfInBounds_toArray, List.set_cons_zero, List.set_cons_succ, i64_w, i32_w]
                         rfl
                       refine pure_ (i := 7) (N := some 158) (v := ?_) (a' := ?_) #[true, true, true, true, false, true, true, true, false, false, false, false, false, false, false, false, false, false, false] rfl rfl (any_of HT_.out (by kernel_rfl)) (fun _ _ _ h => h) (Or.inl ⟨by rfl, ?_⟩) ?_ ?_
                       rotate_left
                       · intro w'
                         go_simp
                         with_reducible rfl
                       rotate_left
                       · simp only [Act.put, List.setIfInBounds_toArray, List.set_cons_zero, List.set_cons_succ, i64_w, i32_w]
                         rfl
                       refine pure_ (i := 8) (N := some 159) (v := ?_) (a' := ?_) #[true, true, true, true, false, true, true, true, true, false, false, false, false, false, false, false, false, false, false] rfl rfl (any_of HT_.out (by kernel_rfl)) (fun _ _ _ h => h) (Or.inl ⟨by rfl, ?_⟩) ?_ ?_
                       rotate_left
                       · intro w'
                         go_simp
                         with_reducible rfl
                       rotate_left
                       · simp only [Act.put, List.setIfInBounds_toArray, List.set_cons_zero, List.set_cons_succ, i64_w, i32_w]
                         rfl
                       refine take_ (i := 4) (N := some 155) (v := ?_) (a' := ?_) #[true, true, true, true, true, true, true, true, true, false, false, false, false, false, false, false, false, false, false] rfl rfl (take_ofW HT_.out HW_.out (by kernel_rfl)) (fun _ _ _ h => h) (Or.inl ⟨by rfl, ?_⟩) hHeld ?_ ?_
                       rotate_left
                       · rintro w' ⟨s0, s1, s2, s3, s4, s5, s6, s7, s8, s9⟩
                         go_simp
                         with_reducible rfl
                       rotate_left
                       · simp only [Act.put, List.setIfInBounds_toArray, List.set_cons_zero, List.set_cons_succ, i64_w, i32_w]
                         rfl
                       refine take_ (i := 9) (N := some 160) (v := ?_) (a' := ?_) #[true, true, true, true, true, true, true, true, true, true, false, false, false, false, false, false, false, false, false] rfl rfl (take_ofW HT_.out HW_.out (by kernel_rfl)) (fun _ _ _ h => h) (Or.inl ⟨by rfl, ?_⟩) hHeld ?_ ?_
                       rotate_left
                       · rintro w' ⟨s0, s1, s2, s3, s4, s5, s6, s7, s8, s9⟩
                         go_simp
                         with_reducible rfl
                       rotate_left
                       · simp only [Act.put, List.setIfInBounds_toArray, List.set_cons_zero, List.set_cons_succ, i64_w, i32_w]
                         rfl
                       refine pure_ (i := 10) (N := some 161) (v := ?_) (a' := ?_) #[true, true, true, true, true, true, true, true, true, true, true, false, false, false, false, false, false, false, false] rfl rfl (any_of HT_.out (by kernel_rfl)) (fun _ _ _ h => h) (Or.inl ⟨by rfl, ?_⟩) ?_ ?_
                       rotate_left
                       · intro w'
                         go_simp
                         with_reducible rfl
                       rotate_left
                       · simp only [Act.put, List.setIfInBounds_toArray, List.set_cons_zero, List.set_cons_succ, i64_w, i32_w]
                         rfl
                       refine pure_ (i := 11) (N := some 162) (v := ?_) (a' := ?_) #[true, true, true, true, true, true, true, true, true, true, true, true, false, false, false, false, false, false, false] rfl rfl (any_of HT_.out (by kernel_rfl)) (fun _ _ _ h => h) (Or.inl ⟨by rfl, ?_⟩) ?_ ?_
                       rotate_left
                       · intro w'
                         go_simp
                         with_reducible rfl
                       rotate_left
                       · simp only [Act.put, List.setIfInBounds_toArray, List.set_cons_zero, List.set_cons_succ, i64_w, i32_w]
                         rfl
                       refine pure_ (i := 12) (N := some 163) (v := undef) (a' := ?_) #[true, true, true, true, true, true, true, true, true, true, true, true, true, false, false, false, false, false, false] rfl rfl (any_of HT_.out (by kernel_rfl)) (fun _ _ _ h => h) (Or.inr ⟨by rfl, rfl⟩) ?_ ?_
                       rotate_left
                       · simp only [Act.put, List.setIfInBounds_toArray, List.set_cons_zero, List.set_cons_succ, i64_w, i32_w]
                         rfl
                       refine pure_ (i := 13) (N := some 164) (v := undef) (a' := ?_) #[true, true, true, true, true, true, true, true, true, true, true, true, true, true, false, false, false, false, false] rfl rfl (any_of HT_.out (by kernel_rfl)) (fun _ _ _ h => h) (Or.inr ⟨by rfl, rfl⟩) ?_ ?_
                       rotate_left
                       · simp only [Act.put, List.setIfInBounds_toArray, List.set_cons_zero, List.set_cons_succ, i64_w, i32_w]
                         rfl
                       refine pure_ (i := 14) (N := some 165) (v := undef) (a' := ?_) #[true, true, true, true, true, true, true, true, true, true, true, true, true, true, true, false, false, false, false] rfl rfl (any_of HT_.out (by kernel_rfl)) (fun _ _ _ h => h) (Or.inr ⟨by rfl, rfl⟩) ?_ ?_
                       rotate_left
                       · simp only [Act.put, List.setIfInBounds_toArray, List.set_cons_zero, List.set_cons_succ, i64_w, i32_w]
                         rfl
                       refine pure_ (i := 15) (N := some 166) (v := undef) (a' := ?_) #[true, true, true, true, true, true, true, true, true, true, true, true, true, true, true, true, false, false, false] rfl rfl (any_of HT_.out (by kernel_rfl)) (fun _ _ _ h => h) (Or.inr ⟨by rfl, rfl⟩) ?_ ?_
                       rotate_left
                       · simp only [Act.put, List.setIfInBounds_toArray, List.set_cons_zero, List.set_cons_succ, i64_w, i32_w]
                         rfl
                       refine pure_ (i := 16) (N := some 167) (v := undef) (a' := ?_) #[true, true, true, true, true, true, true, true, true, true, true, true, true, true, true, true, true, false, false] rfl rfl (any_of HT_.out (by kernel_rfl)) (fun _ _ _ h => h) (Or.inr ⟨by rfl, rfl⟩) ?_ ?_
                       rotate_left
                       · simp only [Act.put, List.setIfInBounds_toArray, List.set_cons_zero, List.set_cons_succ, i64_w, i32_w]
                         rfl
                       refine pure_ (i := 17) (N := some 168) (v := undef) (a' := ?_) #[true, true, true, true, true, true, true, true, true, true, true, true, true, true, true, true, true, true, false] rfl rfl (any_of HT_.out (by kernel_rfl)) (fun _ _ _ h => h) (Or.inr ⟨by rfl, rfl⟩) ?_ ?_
                       rotate_left
                       · simp only [Act.put, List.setIfInBounds_toArray, List.set_cons_zero, List.set_cons_succ, i64_w, i32_w]
                         rfl
                       refine pure_ (i := 18) (N := some 169) (v := ?_) (a' := ?_) #[true, true, true, true, true, true, true, true, true, true, true, true, true, true, true, true, true, true, true] rfl rfl (any_of HT_.out (by kernel_rfl)) (fun _ _ _ h => h) (Or.inl ⟨by rfl, ?_⟩) ?_ ?_
                       rotate_left
                       · intro w'
                         go_simp
                         with_reducible rfl
                       rotate_left
                       · simp only [Act.put, List.setIfInBounds_toArray, List.set_cons_zero, List.set_cons_succ, i64_w, i32_w]
                         rfl
                       refine done_ (done_of HT_.out (by kernel_rfl)) ?_
                       try go_wp2
                       go_roundg k4
                       case measure => have := HJ6.out; have := HK2.out; have := HJ50.out; have := HK4.out; omega
                       case rel => exact ⟨(x19_4), (wrap64 (x20_4 + 1)), d11i, d11i, H', ⟨by have := HJ6.out; have := HK2.out; have := HJ50.out; have := HK4.out; omega⟩, ⟨d11d⟩, ⟨d11b⟩⟩
                   · rw [if_neg c56] at H
                     have c56b0 : decide (x20_4 < (l2.length : Int)) = false := decide_eq_false c56
                     clear c56
                     replace H := guardT H; obtain ⟨c65, H⟩ := H
                     have c65b0 : decide (0 ≤ a3) = true := decide_eq_true c65
                     clear c65
                     replace H := guardT H; obtain ⟨c66, H⟩ := H
                     have c66b0 : decide (a3 < (l2.length : Int)) = true := decide_eq_true c66
                     clear c66
                     by_cases c67 : ((rd_T63 l2 a3).f3) = 1000000000000
                     · rw [if_pos c67] at H
                       have c67b0 : (((rd_T63 l2 a3).f3) == 1000000000000) = true := beq_iff_eq.mpr c67
                       have c67b1 : (((rd_T63 l2 a3).f3) != 1000000000000) = false := bne_eq_false_iff_eq.mpr c67
                       clear c67
                       by_cases c68 : (t105.length : Int) ≥ 0
                       · rw [if_pos c68] at H
                         have c68b0 : decide (0 ≤ (t105.length : Int)) = true := decide_eq_true c68
                         have c68b1 : decide (0 ≤ t105.length) = true := decide_eq_true (by omega)
                         clear c68
                         replace H := bindS H; obtain ⟨t131, A69, H⟩ := H
                         obtain rfl := Option.some.inj H
                         have p130 : 0 ≤ (a3 : Int) := of_decide_eq_true d11h
                         have q130 : a3 < (l2.length : Int) := of_decide_eq_true d11h
                         obtain ⟨ad130, e130, hx130_0, hx130_1, hx130_2, hx130_3, hx130_4⟩ := at_T63 HR2.out a3 p130 q130
                         obtain rfl : ad121 = ad130 := (by injection e130)
                         replace hx130_0 := cellB HB.out hx130_0
                         replace hx130_1 := cellB HB.out hx130_1
                         replace hx130_2 := cellB HB.out hx130_2
                         replace hx130_3 := cellB HB.out hx130_3
                         replace hx130_4 := cellB HB.out hx130_4
                         replace p130 := eq_true p130
                         replace q130 := eq_true q130
                         obtain ⟨Ao70, co70, eo70⟩ := Kd.R_slice HO_11.out
                         subst eo70
                         go_wp2_with (go_at_call 14; (with_reducible refine (perigeelaw10_awake.calls k4  t131 _ A69.out).mono ?_); rintro e w71 ⟨rfl, hb⟩; have n0_ := Aside0.mk (Kd.R_below d11d hb); have n1_ := Aside0.mk (below_step d11b hb); clear HO_11; clear HB; have HO_11 := n0_; have HB := n1_; clear n0_ n1_; (try clear hb))
                         go_ret
                         exact ⟨d11g, d11b⟩
                       · exact absurd (Int.natCast_nonneg _) c68
                     · rw [if_neg c67] at H
                       have c67b0 : (((rd_T63 l2 a3).f3) == 1000000000000) = false := beq_eq_false_iff_ne.mpr c67
                       have c67b1 : (((rd_T63 l2 a3).f3) != 1000000000000) = true := bne_iff_ne.mpr c67
                       by_cases c73 : (wrap64 ((wrap64 (t122 + x19_4)) - t124)) = x13_2
                       · rw [if_pos c73] at H
                         have c73b0 : ((wrap64 ((wrap64 (t122 + x19_4)) - t124)) == x13_2) = true := beq_iff_eq.mpr c73
                         have c73b1 : ((wrap64 ((wrap64 (t122 + x19_4)) - t124)) != x13_2) = false := bne_eq_false_iff_eq.mpr c73
                         clear c73
                         by_cases c74 : (t105.length : Int) ≥ 0
                         · rw [if_pos c74] at H
                           have c74b0 : decide (0 ≤ (t105.length : Int)) = true := decide_eq_true c74
                           have c74b1 : decide (0 ≤ t105.length) = true := decide_eq_true (by omega)
                           clear c74
                           replace H := bindS H; obtain ⟨t132, A75, H⟩ := H
                           obtain rfl := Option.some.inj H
                           have p130 : 0 ≤ (a3 : Int) := of_decide_eq_true d11h
                           have q130 : a3 < (l2.length : Int) := of_decide_eq_true d11h
                           obtain ⟨ad130, e130, hx130_0, hx130_1, hx130_2, hx130_3, hx130_4⟩ := at_T63 HR2.out a3 p130 q130
                           obtain rfl : ad121 = ad130 := (by injection e130)
                           replace hx130_0 := cellB HB.out hx130_0
                           replace hx130_1 := cellB HB.out hx130_1
                           replace hx130_2 := cellB HB.out hx130_2
                           replace hx130_3 := cellB HB.out hx130_3
                           replace hx130_4 := cellB HB.out hx130_4
                           replace p130 := eq_true p130
                           replace q130 := eq_true q130
                           obtain ⟨Ao76, co76, eo76⟩ := Kd.R_slice HO_11.out
                           subst eo76
                           go_wp2_with (go_at_call 14; (with_reducible refine (perigeelaw10_awake.calls k4  t132 _ A75.out).mono ?_); rintro e w77 ⟨rfl, hb⟩; have n0_ := Aside0.mk (Kd.R_below d11d hb); have n1_ := Aside0.mk (below_step d11b hb); clear HO_11; clear HB; have HO_11 := n0_; have HB := n1_; clear n0_ n1_; (try clear hb))
                           go_ret
                           exact ⟨d11g, d11b⟩
                         · exact absurd (Int.natCast_nonneg _) c74
                       · rw [if_neg c73] at H
                         have c73b0 : ((wrap64 ((wrap64 (t122 + x19_4)) - t124)) == x13_2) = false := beq_eq_false_iff_ne.mpr c73
                         have c73b1 : ((wrap64 ((wrap64 (t122 + x19_4)) - t124)) != x13_2) = true := bne_iff_ne.mpr c73
                         obtain rfl := Option.some.inj H
                         have p130 : 0 ≤ (a3 : Int) := of_decide_eq_true d11h
                         have q130 : a3 < (l2.length : Int) := of_decide_eq_true d11h
                         obtain ⟨ad130, e130, hx130_0, hx130_1, hx130_2, hx130_3, hx130_4⟩ := at_T63 HR2.out a3 p130 q130
                         obtain rfl : ad121 = ad130 := (by injection e130)
                         replace hx130_0 := cellB HB.out hx130_0
                         replace hx130_1 := cellB HB.out hx130_1
                         replace hx130_2 := cellB HB.out hx130_2
                         replace hx130_3 := cellB HB.out hx130_3
                         replace hx130_4 := cellB HB.out hx130_4
                         replace p130 := eq_true p130
                         replace q130 := eq_true q130
                         go_wp2
                         go_ret
                         exact ⟨d11g, d11b⟩
     · rw [if_neg c22] at H
       have c22b0 : ((t101.length : Int) == (l2.length : Int)) = false := beq_eq_false_iff_ne.mpr c22
       have c22b1 : ((t101.length : Int) != (l2.length : Int)) = true := bne_iff_ne.mpr c22
       have c22b2 : (t101.length == l2.length) = false := by first | simpa using c22 | (simp at c22 ⊢; omega)
       obtain rfl := Option.some.inj H
       obtain ⟨Ao79, co79, eo79⟩ := Kd.R_slice HO_9.out
       subst eo79
       go_wp2
       go_ret
       exact ⟨d11g, d11b⟩
end Go.Proofs.Ytbngmblgkkdhpaa.Q
