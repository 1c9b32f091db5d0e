-- Made by wip/tools/claimp.py of this session's texts; Lean checks it.
import Derived.Test.YtbngmblgkkdhpaaC10Q0
import Derived.Test.YtbngmblgkkdhpaaC10Gs17
import Derived.Test.YtbngmblgkkdhpaaC10Gs19
import Derived.Test.YtbngmblgkkdhpaaC10Gs2
namespace Go.Proofs.Ytbngmblgkkdhpaa.Q
open Go.RowKit Go.Proofs.YtbngmblgkkdhpaaW.PrintWords Go.Proofs.YtbngmblgkkdhpaaW.PrintLast Go.Proofs.YtbngmblgkkdhpaaW.PrintMore
attribute [local go_sem] max2_int min2_int max_two min_two max_three min_three max_four min_four
open Go.Proofs.Ytbngmblgkkdhpaa.Base
attribute [local go_sem high] str_leq str_gtr str_geq
set_option linter.unusedVariables false
set_option linter.unusedSimpArgs false
mutual
def perigeelaw10_SendingAddsUp.j0 : Nat → List (S33) → List Int → List (S63) → List (S61) → Int → List (S65) → Int → Bool → Option (Bool)
  | 0, _, _, _, _, _, _, _, _ => none
  | k + 1, x0, x1, x2, x7, x8, x9, x10, x38 => if x38 = true then (if x8 = 0 then (if x10 = 0 then ((perigeelaw10_awake.f k).bind fun t109 => (some t109)) else (if (x9.length : Int) = 0 then ((perigeelaw10_awake.f k).bind fun t110 => (some t110)) else (some false))) else (if (x7.length : Int) = 0 then (if x10 = 0 then ((perigeelaw10_awake.f k).bind fun t111 => (some t111)) else (if (x9.length : Int) = 0 then ((perigeelaw10_awake.f k).bind fun t112 => (some t112)) else (some false))) else (some false))) else (if (x9.length : Int) = (x2.length : Int) then (perigeelaw10_SendingAddsUp.l0 k x0 x1 x2 x7 x9 0) else (some false))
def perigeelaw10_SendingAddsUp.l0 : Nat → List (S33) → List Int → List (S63) → List (S61) → List (S65) → Int → Option (Bool)
  | 0, _, _, _, _, _, _ => none
  | k + 1, x0, x1, x2, x7, x9, x11 => if x11 < (x2.length : Int) then (perigeelaw10_SendingAddsUp.l1 k x0 x1 x2 x7 x9 x11 0 0) else (perigeelaw10_SendingAddsUp.l2 k x0 x1 x7 0)
def perigeelaw10_SendingAddsUp.l1 : Nat → List (S33) → List Int → List (S63) → List (S61) → List (S65) → Int → Int → Int → Option (Bool)
  | 0, _, _, _, _, _, _, _, _ => none
  | k + 1, x0, x1, x2, x7, x9, x11, x12, x13 => if x13 < (x7.length : Int) then (if 0 ≤ x13 then (if 0 ≤ x11 then (if x11 < (x2.length : Int) then (if ((rd_T61 x7 x13).f0).toList = ((rd_T63 x2 x11).f0).toList then (if ((rd_T61 x7 x13).f2) < ((rd_T63 x2 x11).f3) then (some false) else (if ((rd_T61 x7 x13).f4) < 1 then (some false) else (if x11 < (x9.length : Int) then (if ((rd_T65 x9 x11).f2) ≥ 0 then (if ((rd_T61 x7 x13).f3) > ((rd_T65 x9 x11).f2) then (some false) else (perigeelaw10_SendingAddsUp.l1 k x0 x1 x2 x7 x9 x11 (wrap64 (x12 + ((rd_T61 x7 x13).f4))) (wrap64 (x13 + 1)))) else (perigeelaw10_SendingAddsUp.l1 k x0 x1 x2 x7 x9 x11 (wrap64 (x12 + ((rd_T61 x7 x13).f4))) (wrap64 (x13 + 1)))) else (none)))) else (perigeelaw10_SendingAddsUp.l1 k x0 x1 x2 x7 x9 x11 x12 (wrap64 (x13 + 1)))) else (none)) else (none)) else (none)) else (if 0 ≤ x11 then (if x11 < (x9.length : Int) then (if x11 < (x2.length : Int) then (if ((rd_T65 x9 x11).f0).toList = ((rd_T63 x2 x11).f0).toList then (if ((rd_T65 x9 x11).f1) = x12 then (if x12 > ((rd_T63 x2 x11).f1) then (some false) else (if ((decide (((rd_T65 x9 x11).f2) ≥ 0)) != (x12 == ((rd_T63 x2 x11).f1))) = true then (some false) else (perigeelaw10_SendingAddsUp.l0 k x0 x1 x2 x7 x9 (wrap64 (x11 + 1))))) else (some false)) else (some false)) else (none)) else (none)) else (none))
def perigeelaw10_SendingAddsUp.l2 : Nat → List (S33) → List Int → List (S61) → Int → Option (Bool)
  | 0, _, _, _, _ => none
  | k + 1, x0, x1, x7, x14 => if x14 < (x1.length : Int) then (perigeelaw10_SendingAddsUp.l3 k x0 x1 x7 x14 0 0) else ((perigeelaw10_awake.f k).bind fun t128 => (some t128))
def perigeelaw10_SendingAddsUp.l3 : Nat → List (S33) → List Int → List (S61) → Int → Int → Int → Option (Bool)
  | 0, _, _, _, _, _, _ => none
  | k + 1, x0, x1, x7, x14, x15, x16 => if x16 < (x7.length : Int) then (if 0 ≤ x16 then (if 0 ≤ x14 then (if x14 < (x1.length : Int) then (if ((rd_T61 x7 x16).f1) = (rd x1 x14) then (if 0 ≤ (rd x1 x14) then (if (rd x1 x14) < (x0.length : Int) then (if ((rd_T61 x7 x16).f2) < ((rd_T33 x0 (rd x1 x14)).f1) then (some false) else (if ((rd_T61 x7 x16).f3) > ((rd_T33 x0 (rd x1 x14)).f2) then (some false) else (if ((rd_T61 x7 x16).f2) ≥ ((rd_T61 x7 x16).f3) then (some false) else (perigeelaw10_SendingAddsUp.l3 k x0 x1 x7 x14 (wrap64 (x15 + ((rd_T61 x7 x16).f4))) (wrap64 (x16 + 1)))))) else (none)) else (none)) else (perigeelaw10_SendingAddsUp.l3 k x0 x1 x7 x14 x15 (wrap64 (x16 + 1)))) else (none)) else (none)) else (none)) else (if 0 ≤ x14 then (if x14 ≤ (wrap64 (x14 + 1)) then (if (wrap64 (x14 + 1)) ≤ (x1.length : Int) then ((contact_Total.f k x0 ((x1.take ((wrap64 (x14 + 1)) : Int).toNat).drop (x14 : Int).toNat)).bind fun bt130 => (if bt130.2 = 0 then (if x15 > bt130.1 then (some false) else (perigeelaw10_SendingAddsUp.l2 k x0 x1 x7 (wrap64 (x14 + 1)))) else (some false))) else (none)) else (none)) else (none))
end
def perigeelaw10_SendingAddsUp.f (k : Nat) (l0 : List (S33)) (l1 : List Int) (l2 : List (S63)) : Option (Bool) := (contact_Send.f k l0 l1 l2).bind fun bt101 => ((contact_Result.f k l0 l1 l2).bind fun bt105 => (if bt101.2 = 0 then (perigeelaw10_SendingAddsUp.j0 k l0 l1 l2 bt101.1 bt101.2 bt105.1 bt105.2 (bt105.2 != 0)) else (perigeelaw10_SendingAddsUp.j0 k l0 l1 l2 bt101.1 bt101.2 bt105.1 bt105.2 true)))
theorem d10a {p : Prop} (h : p := by repeat (first | (with_reducible first | exact HB.out | apply below_alloc | apply pw_below_drewN | apply below_drew1) | exact HB.out)) : p := h
theorem d10b {p : Prop} (h : p := by (with_reducible repeat (first | apply Kd.R_alloc | apply Kd.R_drewN | apply Kd.R_drew)); exact HO104.out) : p := h
theorem d10c {p : Prop} (h : p := by (with_reducible repeat (first | apply Kd.R_alloc | apply Kd.R_drewN | apply Kd.R_drew)); exact HO_7.out) : p := h
theorem d10d {p : Prop} (h : p := by (with_reducible repeat (first | apply Kd.R_alloc | apply Kd.R_drewN | apply Kd.R_drew)); exact HO_9.out) : p := h
theorem d10e {p : Prop} (h : p := by first | rfl | (simp [errW_none, errW_some] <;> rfl) | (simp [*, errW_none, errW_some] <;> rfl)) : p := h
theorem d10f {p : Prop} (h : p := by first | omega | exact of_decide_eq_true (by first | (with_reducible assumption) | assumption)) : p := h
theorem d10g {p : Prop} (h : p := by first | (with_reducible assumption) | assumption) : p := h
theorem d10h {p : Prop} (h : p := by first | rfl | (simp; done) | (simp [*]; done)) : p := h
theorem d10i {p : Prop} (h : p := by exact C_go (Kd.C_below HR0.out HB.out)) : p := h
set_option maxHeartbeats 8000000 in
set_option maxRecDepth 100000 in
theorem perigeelaw10_SendingAddsUp.calls (k : Nat) (A0 : Option Addr) (c0 : Nat) (l0 : List (S33)) (A1 : Option Addr) (c1 : Nat) (l1 : List Int) (A2 : Option Addr) (c2 : Nat) (l2 : List (S63)) (r : Bool) (w : World) (hr0 : Kd.C k33 w A0 l0.length l0) (hc0 : l0.length ≤ c0) (hr1 : Kd.C (Kd.int .i64) w A1 l1.length l1) (hc1 : l1.length ≤ c1) (hr2 : Kd.C k63 w A2 l2.length l2) (hc2 : l2.length ≤ c2) (h : perigeelaw10_SendingAddsUp.f k l0 l1 l2 = some r) :
 Calls Try.prog 10 #[.slice A0 l0.length c0, .slice A1 l1.length c1, .slice A2 l2.length c2] w fun e w' => e = .returned (.bool r) ∧ Below w.heap.size w w' := by
 have HR0 := Aside0.mk hr0
 have HC0 := Aside0.mk hc0
 clear hr0 hc0
 have HR1 := Aside0.mk hr1
 have HC1 := Aside0.mk hc1
 clear hr1 hc1
 have HR2 := Aside0.mk hr2
 have HC2 := Aside0.mk hc2
 clear hr2 hc2
 have HB := Aside0.mk (Below.refl w.heap.size w)
 have H : ((contact_Send.f k l0 l1 l2).bind fun bt101 => ((contact_Result.f k l0 l1 l2).bind fun bt105 => (if bt101.2 = 0 then (perigeelaw10_SendingAddsUp.j0 k l0 l1 l2 bt101.1 bt101.2 bt105.1 bt105.2 (bt105.2 != 0)) else (perigeelaw10_SendingAddsUp.j0 k l0 l1 l2 bt101.1 bt101.2 bt105.1 bt105.2 true)))) = some r := h
 clear h
 replace H := bindS H; obtain ⟨⟨t101, t102⟩, A4, H⟩ := H
 replace H := bindS H; obtain ⟨⟨t105, t106⟩, A5, H⟩ := H
 have HC6 := Aside0.mk H
 clear H
 go_enter Try.func10, Try.ntmps10
 go_upto_region 3 with (first | (go_at_call 35; (with_reducible refine (contact_Send.calls k _ _ l0 _ _ l1 _ _ l2 t101 t102 _ ?side1 ?side2 ?side3 ?side4 ?side5 ?side6 A4.out).mono ?_); (case side1 => exact C_go HR0.out); (case side2 => exact HC0.out); (case side3 => exact C_go HR1.out); (case side4 => exact HC1.out); (case side5 => exact C_go HR2.out); (case side6 => exact HC2.out); rintro e w7 ⟨v103, rfl, ho0, hb⟩; have n0_ := Aside0.mk (Kd.R_lower ho0 (below_size d10a)); have n1_ := Aside0.mk (below_step d10a hb); clear HB; have HO104 := n0_; have HB := n1_; clear n0_ n1_; (try clear hb); (try clear ho0)) | (go_at_call 36; (with_reducible refine (contact_Result.calls k _ _ l0 _ _ l1 _ _ l2 t105 t106 _ ?side1 ?side2 ?side3 ?side4 ?side5 ?side6 A5.out).mono ?_); (case side1 => exact d10i); (case side2 => exact HC0.out); (case side3 => exact C_go (Kd.C_below HR1.out HB.out)); (case side4 => exact HC1.out); (case side5 => exact C_go (Kd.C_below HR2.out HB.out)); (case side6 => exact HC2.out); rintro e w8 ⟨v107, rfl, ho0, hb⟩; have n0_ := Aside0.mk (Kd.R_below d10b hb); have n1_ := Aside0.mk (Kd.R_lower ho0 (below_size d10a)); have n2_ := Aside0.mk (below_step d10a hb); clear HO104; clear HB; have HO104 := n0_; have HO108 := n1_; have HB := n2_; clear n0_ n1_ n2_; (try clear hb); (try clear ho0)))
 (try simp only [Act.put, List.setIfInBounds_toArray, List.set_cons_zero, List.set_cons_succ])
 go_cut [38] (fun v38 wc => ∃ (kq : Nat) (x38_5 : Bool), v38 = .bool x38_5 ∧ Aside0 (perigeelaw10_SendingAddsUp.j0 kq l0 l1 l2 t101 t102 t105 t106 x38_5 = some r) ∧ Aside0 (kq ≤ k) ∧ Aside0 (Kd.R k61 61 wc w.heap.size (fun _ => True) v103 t101) ∧ Aside0 (Kd.R k65 65 wc w.heap.size (fun _ => True) v107 t105) ∧ Aside0 (Below w.heap.size w wc))
 case first =>
  have H := HC6.out
  clear HC6
  by_cases c9 : t102 = 0
  · rw [if_pos c9] at H
    have c9b0 : (t102 == 0) = true := beq_iff_eq.mpr c9
    have c9b1 : (t102 != 0) = false := bne_eq_false_iff_eq.mpr c9
    clear c9
    (first | rw [c9b0] | (simp only [i64_w, i32_w]; rw [c9b0]) | skip)
    have H' := Aside0.mk H
    clear H
    go_wp2
    go_meet
    case rel => exact ⟨_, ((t106 != 0)), d10h, H', ⟨by first | omega | exact Nat.le_refl _⟩, ⟨d10b⟩, ⟨by (with_reducible repeat (first | apply Kd.R_alloc | apply Kd.R_drewN | apply Kd.R_drew)); exact HO108.out⟩, ⟨d10a⟩⟩
  · rw [if_neg c9] at H
    have c9b0 : (t102 == 0) = false := beq_eq_false_iff_ne.mpr c9
    have c9b1 : (t102 != 0) = true := bne_iff_ne.mpr c9
    (first | rw [c9b0] | (simp only [i64_w, i32_w]; rw [c9b0]) | skip)
    have H' := Aside0.mk H
    clear H
    go_wp2
    go_meet
    case rel => exact ⟨_, (true), d10h, H', ⟨by first | omega | exact Nat.le_refl _⟩, ⟨d10b⟩, ⟨by (with_reducible repeat (first | apply Kd.R_alloc | apply Kd.R_drewN | apply Kd.R_drew)); exact HO108.out⟩, ⟨d10a⟩⟩
 case rest =>
  clear HC6
  obtain ⟨kq, x38_5, rfl, HA, HJ5, HO_7, HO_9, HB⟩ := hcut
  cases kq with
  | zero => exact absurd HA.out (by simp [perigeelaw10_SendingAddsUp.j0])
  | succ kj5 =>
   have H := HA.out
   clear HA
   simp only [perigeelaw10_SendingAddsUp.j0] at H
   by_cases c10 : x38_5 = true
   · subst c10
     replace H := iteT H
     by_cases c11 : t102 = 0
     · rw [if_pos c11] at H
       have c11b0 : (t102 == 0) = true := beq_iff_eq.mpr c11
       have c11b1 : (t102 != 0) = false := bne_eq_false_iff_eq.mpr c11
       clear c11
       by_cases c12 : t106 = 0
       · rw [if_pos c12] at H
         have c12b0 : (t106 == 0) = true := beq_iff_eq.mpr c12
         have c12b1 : (t106 != 0) = false := bne_eq_false_iff_eq.mpr c12
         clear c12
         replace H := bindS H; obtain ⟨t109, A13, H⟩ := H
         obtain rfl := Option.some.inj H
         go_wp2_with (go_at_call 14; (with_reducible refine (perigeelaw10_awake.calls kj5  t109 _ A13.out).mono ?_); rintro e w14 ⟨rfl, hb⟩; have n0_ := Aside0.mk (Kd.R_below d10c hb); have n1_ := Aside0.mk (Kd.R_below d10d hb); have n2_ := Aside0.mk (below_step d10a hb); clear HO_7; clear HO_9; clear HB; have HO_7 := n0_; have HO_9 := n1_; have HB := n2_; clear n0_ n1_ n2_; (try clear hb))
         go_ret
         exact ⟨d10e, d10a⟩
       · rw [if_neg c12] at H
         have c12b0 : (t106 == 0) = false := beq_eq_false_iff_ne.mpr c12
         have c12b1 : (t106 != 0) = true := bne_iff_ne.mpr c12
         by_cases c15 : (t105.length : Int) = 0
         · rw [if_pos c15] at H
           have c15b0 : ((t105.length : Int) == 0) = true := beq_iff_eq.mpr c15
           have c15b1 : ((t105.length : Int) != 0) = false := bne_eq_false_iff_eq.mpr c15
           clear c15
           replace H := bindS H; obtain ⟨t110, A16, H⟩ := H
           obtain rfl := Option.some.inj H
           obtain ⟨Ao17, co17, eo17⟩ := Kd.R_slice HO_9.out
           subst eo17
           go_wp2_with (go_at_call 14; (with_reducible refine (perigeelaw10_awake.calls kj5  t110 _ A16.out).mono ?_); rintro e w18 ⟨rfl, hb⟩; have n0_ := Aside0.mk (Kd.R_below d10c hb); have n1_ := Aside0.mk (Kd.R_below d10d hb); have n2_ := Aside0.mk (below_step d10a hb); clear HO_7; clear HO_9; clear HB; have HO_7 := n0_; have HO_9 := n1_; have HB := n2_; clear n0_ n1_ n2_; (try clear hb))
           go_ret
           exact ⟨d10e, d10a⟩
         · rw [if_neg c15] at H
           have c15b0 : ((t105.length : Int) == 0) = false := beq_eq_false_iff_ne.mpr c15
           have c15b1 : ((t105.length : Int) != 0) = true := bne_iff_ne.mpr c15
           have c15b2 : ¬ (t105 = []) := fun h_ => c15 (by rw [h_]; rfl)
           obtain rfl := Option.some.inj H
           obtain ⟨Ao19, co19, eo19⟩ := Kd.R_slice HO_9.out
           subst eo19
           go_wp2
           go_ret
           exact ⟨d10e, d10a⟩
     · rw [if_neg c11] at H
       have c11b0 : (t102 == 0) = false := beq_eq_false_iff_ne.mpr c11
       have c11b1 : (t102 != 0) = true := bne_iff_ne.mpr c11
       by_cases c20 : (t101.length : Int) = 0
       · rw [if_pos c20] at H
         have c20b0 : ((t101.length : Int) == 0) = true := beq_iff_eq.mpr c20
         have c20b1 : ((t101.length : Int) != 0) = false := bne_eq_false_iff_eq.mpr c20
         clear c20
         by_cases c21 : t106 = 0
         · rw [if_pos c21] at H
           have c21b0 : (t106 == 0) = true := beq_iff_eq.mpr c21
           have c21b1 : (t106 != 0) = false := bne_eq_false_iff_eq.mpr c21
           clear c21
           replace H := bindS H; obtain ⟨t111, A22, H⟩ := H
           obtain rfl := Option.some.inj H
           obtain ⟨Ao23, co23, eo23⟩ := Kd.R_slice HO_7.out
           subst eo23
           go_wp2_with (go_at_call 14; (with_reducible refine (perigeelaw10_awake.calls kj5  t111 _ A22.out).mono ?_); rintro e w24 ⟨rfl, hb⟩; have n0_ := Aside0.mk (Kd.R_below d10c hb); have n1_ := Aside0.mk (Kd.R_below d10d hb); have n2_ := Aside0.mk (below_step d10a hb); clear HO_7; clear HO_9; clear HB; have HO_7 := n0_; have HO_9 := n1_; have HB := n2_; clear n0_ n1_ n2_; (try clear hb))
           go_ret
           exact ⟨d10e, d10a⟩
         · rw [if_neg c21] at H
           have c21b0 : (t106 == 0) = false := beq_eq_false_iff_ne.mpr c21
           have c21b1 : (t106 != 0) = true := bne_iff_ne.mpr c21
           by_cases c25 : (t105.length : Int) = 0
           · rw [if_pos c25] at H
             have c25b0 : ((t105.length : Int) == 0) = true := beq_iff_eq.mpr c25
             have c25b1 : ((t105.length : Int) != 0) = false := bne_eq_false_iff_eq.mpr c25
             clear c25
             replace H := bindS H; obtain ⟨t112, A26, H⟩ := H
             obtain rfl := Option.some.inj H
             obtain ⟨Ao27, co27, eo27⟩ := Kd.R_slice HO_7.out
             subst eo27
             obtain ⟨Ao28, co28, eo28⟩ := Kd.R_slice HO_9.out
             subst eo28
             go_wp2_with (go_at_call 14; (with_reducible refine (perigeelaw10_awake.calls kj5  t112 _ A26.out).mono ?_); rintro e w29 ⟨rfl, hb⟩; have n0_ := Aside0.mk (Kd.R_below d10c hb); have n1_ := Aside0.mk (Kd.R_below d10d hb); have n2_ := Aside0.mk (below_step d10a hb); clear HO_7; clear HO_9; clear HB; have HO_7 := n0_; have HO_9 := n1_; have HB := n2_; clear n0_ n1_ n2_; (try clear hb))
             go_ret
             exact ⟨d10e, d10a⟩
           · rw [if_neg c25] at H
             have c25b0 : ((t105.length : Int) == 0) = false := beq_eq_false_iff_ne.mpr c25
             have c25b1 : ((t105.length : Int) != 0) = true := bne_iff_ne.mpr c25
             have c25b2 : ¬ (t105 = []) := fun h_ => c25 (by rw [h_]; rfl)
             obtain rfl := Option.some.inj H
             obtain ⟨Ao30, co30, eo30⟩ := Kd.R_slice HO_7.out
             subst eo30
             obtain ⟨Ao31, co31, eo31⟩ := Kd.R_slice HO_9.out
             subst eo31
             go_wp2
             go_ret
             exact ⟨d10e, d10a⟩
       · rw [if_neg c20] at H
         have c20b0 : ((t101.length : Int) == 0) = false := beq_eq_false_iff_ne.mpr c20
         have c20b1 : ((t101.length : Int) != 0) = true := bne_iff_ne.mpr c20
         have c20b2 : ¬ (t101 = []) := fun h_ => c20 (by rw [h_]; rfl)
         obtain rfl := Option.some.inj H
         obtain ⟨Ao32, co32, eo32⟩ := Kd.R_slice HO_7.out
         subst eo32
         go_wp2
         go_ret
         exact ⟨d10e, d10a⟩
   · replace c10 := Bool.eq_false_iff.mpr c10
     subst c10
     replace H := iteF H
     by_cases c33 : (t105.length : Int) = (l2.length : Int)
     · rw [if_pos c33] at H
       have c33b0 : ((t105.length : Int) == (l2.length : Int)) = true := beq_iff_eq.mpr c33
       have c33b1 : ((t105.length : Int) != (l2.length : Int)) = false := bne_eq_false_iff_eq.mpr c33
       have c33b2 : (t105.length == l2.length) = true := by first | simpa using c33 | (simp at c33 ⊢; omega)
       clear c33
       have H' := Aside0.mk H
       clear H
       obtain ⟨Ao34, co34, eo34⟩ := Kd.R_slice HO_9.out
       subst eo34
       go_wp2
       go_loopg [11] kj5 (fun kq v11 w' => ∃ (x11_2 : Int), v11 = .int .i64 x11_2 ∧ Aside0 (perigeelaw10_SendingAddsUp.l0 kq l0 l1 l2 t101 t105 x11_2 = some r) ∧ Aside0 (kq ≤ kj5) ∧ Aside0 (Kd.R k61 61 w' w.heap.size (fun _ => True) v103 t101) ∧ Aside0 (Kd.R k65 65 w' w.heap.size (fun _ => True) (.slice Ao34 t105.length co34) t105) ∧ Aside0 (Below w.heap.size w w'))
       case atStart => exact ⟨(0), d10h, H', ⟨Nat.le_refl _⟩, ⟨d10c⟩, ⟨d10d⟩, ⟨d10a⟩⟩
       case round => as_aux_lemma =>
        clear H'
        try clear c33b0
        try clear c33b1
        try clear c33b2
        obtain ⟨x11_2, rfl, HA, HK2, HO_7, HO_9, HB⟩ := hrel
        cases gk with
        | zero => exact absurd HA.out (by simp [perigeelaw10_SendingAddsUp.l0])
        | succ k2 =>
         have H := HA.out
         clear HA
         simp only [perigeelaw10_SendingAddsUp.l0] at H
         by_cases c35 : x11_2 < (l2.length : Int)
         · rw [if_pos c35] at H
           have c35b0 : decide (x11_2 < (l2.length : Int)) = true := decide_eq_true c35
           clear c35
           have H' := Aside0.mk H
           clear H
           go_wp2
           go_loopg [12, 13] k2 (fun kq v12 v13 w' => ∃ (x12_3 : Int) (x13_3 : Int), v12 = .int .i64 x12_3 ∧ v13 = .int .i64 x13_3 ∧ Aside0 (perigeelaw10_SendingAddsUp.l1 kq l0 l1 l2 t101 t105 x11_2 x12_3 x13_3 = some r) ∧ Aside0 (kq ≤ k2) ∧ Aside0 (Kd.R k61 61 w' w.heap.size (fun _ => True) v103 t101) ∧ Aside0 (Kd.R k65 65 w' w.heap.size (fun _ => True) (.slice Ao34 t105.length co34) t105) ∧ Aside0 (Below w.heap.size w w'))
           case atStart => exact ⟨(0), (0), d10h, d10h, H', ⟨Nat.le_refl _⟩, ⟨d10c⟩, ⟨d10d⟩, ⟨d10a⟩⟩
           case round => as_aux_lemma =>
            clear H'
            try clear c35b0
            obtain ⟨x12_3, x13_3, rfl, rfl, HA, HK3, HO_7, HO_9, HB⟩ := hrel
            cases gk with
            | zero => exact absurd HA.out (by simp [perigeelaw10_SendingAddsUp.l1])
            | succ k3 =>
             have H := HA.out
             clear HA
             simp only [perigeelaw10_SendingAddsUp.l1] at H
             by_cases c36 : x13_3 < (t101.length : Int)
             · rw [if_pos c36] at H
               have c36b0 : decide (x13_3 < (t101.length : Int)) = true := decide_eq_true c36
               clear c36
               replace H := guardT H; obtain ⟨c37, H⟩ := H
               have c37b0 : decide (0 ≤ x13_3) = true := decide_eq_true c37
               clear c37
               replace H := guardT H; obtain ⟨c38, H⟩ := H
               have c38b0 : decide (0 ≤ x11_2) = true := decide_eq_true c38
               clear c38
               replace H := guardT H; obtain ⟨c39, H⟩ := H
               have c39b0 : decide (x11_2 < (l2.length : Int)) = true := decide_eq_true c39
               clear c39
               by_cases c40 : ((rd_T61 t101 x13_3).f0).toList = ((rd_T63 l2 x11_2).f0).toList
               · rw [if_pos c40] at H
                 have c40b0 : (((rd_T61 t101 x13_3).f0).toList == ((rd_T63 l2 x11_2).f0).toList) = true := beq_iff_eq.mpr c40
                 have c40b1 : (((rd_T61 t101 x13_3).f0).toList != ((rd_T63 l2 x11_2).f0).toList) = false := bne_eq_false_iff_eq.mpr c40
                 clear c40
                 by_cases c41 : ((rd_T61 t101 x13_3).f2) < ((rd_T63 l2 x11_2).f3)
                 · rw [if_pos c41] at H
                   have c41b0 : decide (((rd_T61 t101 x13_3).f2) < ((rd_T63 l2 x11_2).f3)) = true := decide_eq_true c41
                   clear c41
                   obtain rfl := Option.some.inj H
                   obtain ⟨Ao42, co42, eo42⟩ := Kd.R_slice HO_7.out
                   subst eo42
                   have p119 : 0 ≤ (x13_3 : Int) := of_decide_eq_true d10g
                   have q119 : x13_3 < (t101.length : Int) := of_decide_eq_true d10g
                   obtain ⟨ad119, e119, hx119_0, hx119_1, hx119_2, hx119_3, hx119_4⟩ := at_T61 (Kd.R_reads' HO_7.out).2.2 x13_3 p119 q119
                   cases e119
                   replace p119 := eq_true p119
                   replace q119 := eq_true q119
                   have p120 : 0 ≤ (x11_2 : Int) := of_decide_eq_true d10g
                   have q120 : x11_2 < (l2.length : Int) := of_decide_eq_true d10g
                   obtain ⟨ad120, e120, hx120_0, hx120_1, hx120_2, hx120_3, hx120_4⟩ := at_T63 HR2.out x11_2 p120 q120
                   cases e120
                   replace hx120_0 := cellB HB.out hx120_0
                   replace hx120_1 := cellB HB.out hx120_1
                   replace hx120_2 := cellB HB.out hx120_2
                   replace hx120_3 := cellB HB.out hx120_3
                   replace hx120_4 := cellB HB.out hx120_4
                   replace p120 := eq_true p120
                   replace q120 := eq_true q120
                   have p121 : 0 ≤ (x13_3 : Int) := of_decide_eq_true d10g
                   have q121 : x13_3 < (t101.length : Int) := of_decide_eq_true d10g
                   obtain ⟨ad121, e121, hx121_0, hx121_1, hx121_2, hx121_3, hx121_4⟩ := at_T61 (Kd.R_reads' HO_7.out).2.2 x13_3 p121 q121
                   obtain rfl : ad119 = ad121 := (by injection e121)
                   replace p121 := eq_true p121
                   replace q121 := eq_true q121
                   have p122 : 0 ≤ (x13_3 : Int) := of_decide_eq_true d10g
                   have q122 : x13_3 < (t101.length : Int) := of_decide_eq_true d10g
                   obtain ⟨ad122, e122, hx122_0, hx122_1, hx122_2, hx122_3, hx122_4⟩ := at_T61 (Kd.R_reads' HO_7.out).2.2 x13_3 p122 q122
                   obtain rfl : ad119 = ad122 := (by injection e122)
                   replace p122 := eq_true p122
                   replace q122 := eq_true q122
                   have p123 : 0 ≤ (x11_2 : Int) := of_decide_eq_true d10g
                   have q123 : x11_2 < (l2.length : Int) := of_decide_eq_true d10g
                   obtain ⟨ad123, e123, hx123_0, hx123_1, hx123_2, hx123_3, hx123_4⟩ := at_T63 HR2.out x11_2 p123 q123
                   obtain rfl : ad120 = ad123 := (by injection e123)
                   replace hx123_0 := cellB HB.out hx123_0
                   replace hx123_1 := cellB HB.out hx123_1
                   replace hx123_2 := cellB HB.out hx123_2
                   replace hx123_3 := cellB HB.out hx123_3
                   replace hx123_4 := cellB HB.out hx123_4
                   replace p123 := eq_true p123
                   replace q123 := eq_true q123
                   go_wp2
                   repeat (go_quiet (fail); try go_wp2)
                   go_ret
                   exact ⟨d10e, d10a⟩
                 · rw [if_neg c41] at H
                   have c41b0 : decide (((rd_T61 t101 x13_3).f2) < ((rd_T63 l2 x11_2).f3)) = false := decide_eq_false c41
                   clear c41
                   by_cases c43 : ((rd_T61 t101 x13_3).f4) < 1
                   · rw [if_pos c43] at H
                     have c43b0 : decide (((rd_T61 t101 x13_3).f4) < 1) = true := decide_eq_true c43
                     clear c43
                     obtain rfl := Option.some.inj H
                     obtain ⟨Ao44, co44, eo44⟩ := Kd.R_slice HO_7.out
                     subst eo44
                     have p119 : 0 ≤ (x13_3 : Int) := of_decide_eq_true d10g
                     have q119 : x13_3 < (t101.length : Int) := of_decide_eq_true d10g
                     obtain ⟨ad119, e119, hx119_0, hx119_1, hx119_2, hx119_3, hx119_4⟩ := at_T61 (Kd.R_reads' HO_7.out).2.2 x13_3 p119 q119
                     cases e119
                     replace p119 := eq_true p119
                     replace q119 := eq_true q119
                     have p120 : 0 ≤ (x11_2 : Int) := of_decide_eq_true d10g
                     have q120 : x11_2 < (l2.length : Int) := of_decide_eq_true d10g
                     obtain ⟨ad120, e120, hx120_0, hx120_1, hx120_2, hx120_3, hx120_4⟩ := at_T63 HR2.out x11_2 p120 q120
                     cases e120
                     replace hx120_0 := cellB HB.out hx120_0
                     replace hx120_1 := cellB HB.out hx120_1
                     replace hx120_2 := cellB HB.out hx120_2
                     replace hx120_3 := cellB HB.out hx120_3
                     replace hx120_4 := cellB HB.out hx120_4
                     replace p120 := eq_true p120
                     replace q120 := eq_true q120
                     have p121 : 0 ≤ (x13_3 : Int) := of_decide_eq_true d10g
                     have q121 : x13_3 < (t101.length : Int) := of_decide_eq_true d10g
                     obtain ⟨ad121, e121, hx121_0, hx121_1, hx121_2, hx121_3, hx121_4⟩ := at_T61 (Kd.R_reads' HO_7.out).2.2 x13_3 p121 q121
                     obtain rfl : ad119 = ad121 := (by injection e121)
                     replace p121 := eq_true p121
                     replace q121 := eq_true q121
                     have p122 : 0 ≤ (x13_3 : Int) := of_decide_eq_true d10g
                     have q122 : x13_3 < (t101.length : Int) := of_decide_eq_true d10g
                     obtain ⟨ad122, e122, hx122_0, hx122_1, hx122_2, hx122_3, hx122_4⟩ := at_T61 (Kd.R_reads' HO_7.out).2.2 x13_3 p122 q122
                     obtain rfl : ad119 = ad122 := (by injection e122)
                     replace p122 := eq_true p122
                     replace q122 := eq_true q122
                     have p123 : 0 ≤ (x11_2 : Int) := of_decide_eq_true d10g
                     have q123 : x11_2 < (l2.length : Int) := of_decide_eq_true d10g
                     obtain ⟨ad123, e123, hx123_0, hx123_1, hx123_2, hx123_3, hx123_4⟩ := at_T63 HR2.out x11_2 p123 q123
                     obtain rfl : ad120 = ad123 := (by injection e123)
                     replace hx123_0 := cellB HB.out hx123_0
                     replace hx123_1 := cellB HB.out hx123_1
                     replace hx123_2 := cellB HB.out hx123_2
                     replace hx123_3 := cellB HB.out hx123_3
                     replace hx123_4 := cellB HB.out hx123_4
                     replace p123 := eq_true p123
                     replace q123 := eq_true q123
                     have p124 : 0 ≤ (x13_3 : Int) := of_decide_eq_true d10g
                     have q124 : x13_3 < (t101.length : Int) := of_decide_eq_true d10g
                     obtain ⟨ad124, e124, hx124_0, hx124_1, hx124_2, hx124_3, hx124_4⟩ := at_T61 (Kd.R_reads' HO_7.out).2.2 x13_3 p124 q124
                     obtain rfl : ad119 = ad124 := (by injection e124)
                     replace p124 := eq_true p124
                     replace q124 := eq_true q124
                     go_wp2
                     repeat (go_quiet (fail); try go_wp2)
                     go_ret
                     exact ⟨d10e, d10a⟩
                   · rw [if_neg c43] at H
                     have c43b0 : decide (((rd_T61 t101 x13_3).f4) < 1) = false := decide_eq_false c43
                     clear c43
                     replace H := guardT H; obtain ⟨c45, H⟩ := H
                     have c45b0 : decide (x11_2 < (t105.length : Int)) = true := decide_eq_true c45
                     clear c45
                     by_cases c46 : ((rd_T65 t105 x11_2).f2) ≥ 0
                     · rw [if_pos c46] at H
                       have c46b0 : decide (0 ≤ ((rd_T65 t105 x11_2).f2)) = true := decide_eq_true c46
                       clear c46
                       by_cases c47 : ((rd_T61 t101 x13_3).f3) > ((rd_T65 t105 x11_2).f2)
                       · rw [if_pos c47] at H
                         have c47b0 : decide (((rd_T65 t105 x11_2).f2) < ((rd_T61 t101 x13_3).f3)) = true := decide_eq_true c47
                         clear c47
                         obtain rfl := Option.some.inj H
                         obtain ⟨Ao48, co48, eo48⟩ := Kd.R_slice HO_7.out
                         subst eo48
                         have p119 : 0 ≤ (x13_3 : Int) := of_decide_eq_true d10g
                         have q119 : x13_3 < (t101.length : Int) := of_decide_eq_true d10g
                         obtain ⟨ad119, e119, hx119_0, hx119_1, hx119_2, hx119_3, hx119_4⟩ := at_T61 (Kd.R_reads' HO_7.out).2.2 x13_3 p119 q119
                         cases e119
                         replace p119 := eq_true p119
                         replace q119 := eq_true q119
                         have p120 : 0 ≤ (x11_2 : Int) := of_decide_eq_true d10g
                         have q120 : x11_2 < (l2.length : Int) := of_decide_eq_true d10g
                         obtain ⟨ad120, e120, hx120_0, hx120_1, hx120_2, hx120_3, hx120_4⟩ := at_T63 HR2.out x11_2 p120 q120
                         cases e120
                         replace hx120_0 := cellB HB.out hx120_0
                         replace hx120_1 := cellB HB.out hx120_1
                         replace hx120_2 := cellB HB.out hx120_2
                         replace hx120_3 := cellB HB.out hx120_3
                         replace hx120_4 := cellB HB.out hx120_4
                         replace p120 := eq_true p120
                         replace q120 := eq_true q120
                         have p121 : 0 ≤ (x13_3 : Int) := of_decide_eq_true d10g
                         have q121 : x13_3 < (t101.length : Int) := of_decide_eq_true d10g
                         obtain ⟨ad121, e121, hx121_0, hx121_1, hx121_2, hx121_3, hx121_4⟩ := at_T61 (Kd.R_reads' HO_7.out).2.2 x13_3 p121 q121
                         obtain rfl : ad119 = ad121 := (by injection e121)
                         replace p121 := eq_true p121
                         replace q121 := eq_true q121
                         have p122 : 0 ≤ (x13_3 : Int) := of_decide_eq_true d10g
                         have q122 : x13_3 < (t101.length : Int) := of_decide_eq_true d10g
                         obtain ⟨ad122, e122, hx122_0, hx122_1, hx122_2, hx122_3, hx122_4⟩ := at_T61 (Kd.R_reads' HO_7.out).2.2 x13_3 p122 q122
                         obtain rfl : ad119 = ad122 := (by injection e122)
                         replace p122 := eq_true p122
                         replace q122 := eq_true q122
                         have p123 : 0 ≤ (x11_2 : Int) := of_decide_eq_true d10g
                         have q123 : x11_2 < (l2.length : Int) := of_decide_eq_true d10g
                         obtain ⟨ad123, e123, hx123_0, hx123_1, hx123_2, hx123_3, hx123_4⟩ := at_T63 HR2.out x11_2 p123 q123
                         obtain rfl : ad120 = ad123 := (by injection e123)
                         replace hx123_0 := cellB HB.out hx123_0
                         replace hx123_1 := cellB HB.out hx123_1
                         replace hx123_2 := cellB HB.out hx123_2
                         replace hx123_3 := cellB HB.out hx123_3
                         replace hx123_4 := cellB HB.out hx123_4
                         replace p123 := eq_true p123
                         replace q123 := eq_true q123
                         have p124 : 0 ≤ (x13_3 : Int) := of_decide_eq_true d10g
                         have q124 : x13_3 < (t101.length : Int) := of_decide_eq_true d10g
                         obtain ⟨ad124, e124, hx124_0, hx124_1, hx124_2, hx124_3, hx124_4⟩ := at_T61 (Kd.R_reads' HO_7.out).2.2 x13_3 p124 q124
                         obtain rfl : ad119 = ad124 := (by injection e124)
                         replace p124 := eq_true p124
                         replace q124 := eq_true q124
                         have p125 : 0 ≤ (x11_2 : Int) := of_decide_eq_true d10g
                         have q125 : x11_2 < (t105.length : Int) := of_decide_eq_true d10g
                         obtain ⟨ad125, e125, hx125_0, hx125_1, hx125_2⟩ := at_T65 (Kd.R_reads' HO_9.out).2.2 x11_2 p125 q125
                         cases e125
                         replace p125 := eq_true p125
                         replace q125 := eq_true q125
                         have p126 : 0 ≤ (x13_3 : Int) := of_decide_eq_true d10g
                         have q126 : x13_3 < (t101.length : Int) := of_decide_eq_true d10g
                         obtain ⟨ad126, e126, hx126_0, hx126_1, hx126_2, hx126_3, hx126_4⟩ := at_T61 (Kd.R_reads' HO_7.out).2.2 x13_3 p126 q126
                         obtain rfl : ad119 = ad126 := (by injection e126)
                         replace p126 := eq_true p126
                         replace q126 := eq_true q126
                         have p127 : 0 ≤ (x11_2 : Int) := of_decide_eq_true d10g
                         have q127 : x11_2 < (t105.length : Int) := of_decide_eq_true d10g
                         obtain ⟨ad127, e127, hx127_0, hx127_1, hx127_2⟩ := at_T65 (Kd.R_reads' HO_9.out).2.2 x11_2 p127 q127
                         obtain rfl : ad125 = ad127 := (by injection e127)
                         replace p127 := eq_true p127
                         replace q127 := eq_true q127
                         go_wp2
                         repeat (go_quiet (fail); try go_wp2)
                         go_ret
                         exact ⟨d10e, d10a⟩
                       · rw [if_neg c47] at H
                         have c47b0 : decide (((rd_T65 t105 x11_2).f2) < ((rd_T61 t101 x13_3).f3)) = false := decide_eq_false c47
                         clear c47
                         have H' := Aside0.mk H
                         clear H
                         obtain ⟨Ao49, co49, eo49⟩ := Kd.R_slice HO_7.out
                         subst eo49
                         have p119 : 0 ≤ (x13_3 : Int) := of_decide_eq_true d10g
                         have q119 : x13_3 < (t101.length : Int) := of_decide_eq_true d10g
                         obtain ⟨ad119, e119, hx119_0, hx119_1, hx119_2, hx119_3, hx119_4⟩ := at_T61 (Kd.R_reads' HO_7.out).2.2 x13_3 p119 q119
                         cases e119
                         replace p119 := eq_true p119
                         replace q119 := eq_true q119
                         have p120 : 0 ≤ (x11_2 : Int) := of_decide_eq_true d10g
                         have q120 : x11_2 < (l2.length : Int) := of_decide_eq_true d10g
                         obtain ⟨ad120, e120, hx120_0, hx120_1, hx120_2, hx120_3, hx120_4⟩ := at_T63 HR2.out x11_2 p120 q120
                         cases e120
                         replace hx120_0 := cellB HB.out hx120_0
                         replace hx120_1 := cellB HB.out hx120_1
                         replace hx120_2 := cellB HB.out hx120_2
                         replace hx120_3 := cellB HB.out hx120_3
                         replace hx120_4 := cellB HB.out hx120_4
                         replace p120 := eq_true p120
                         replace q120 := eq_true q120
                         have p121 : 0 ≤ (x13_3 : Int) := of_decide_eq_true d10g
                         have q121 : x13_3 < (t101.length : Int) := of_decide_eq_true d10g
                         obtain ⟨ad121, e121, hx121_0, hx121_1, hx121_2, hx121_3, hx121_4⟩ := at_T61 (Kd.R_reads' HO_7.out).2.2 x13_3 p121 q121
                         obtain rfl : ad119 = ad121 := (by injection e121)
                         replace p121 := eq_true p121
                         replace q121 := eq_true q121
                         have p122 : 0 ≤ (x13_3 : Int) := of_decide_eq_true d10g
                         have q122 : x13_3 < (t101.length : Int) := of_decide_eq_true d10g
                         obtain ⟨ad122, e122, hx122_0, hx122_1, hx122_2, hx122_3, hx122_4⟩ := at_T61 (Kd.R_reads' HO_7.out).2.2 x13_3 p122 q122
                         obtain rfl : ad119 = ad122 := (by injection e122)
                         replace p122 := eq_true p122
                         replace q122 := eq_true q122
                         have p123 : 0 ≤ (x11_2 : Int) := of_decide_eq_true d10g
                         have q123 : x11_2 < (l2.length : Int) := of_decide_eq_true d10g
                         obtain ⟨ad123, e123, hx123_0, hx123_1, hx123_2, hx123_3, hx123_4⟩ := at_T63 HR2.out x11_2 p123 q123
                         obtain rfl : ad120 = ad123 := (by injection e123)
                         replace hx123_0 := cellB HB.out hx123_0
                         replace hx123_1 := cellB HB.out hx123_1
                         replace hx123_2 := cellB HB.out hx123_2
                         replace hx123_3 := cellB HB.out hx123_3
                         replace hx123_4 := cellB HB.out hx123_4
                         replace p123 := eq_true p123
                         replace q123 := eq_true q123
                         have p124 : 0 ≤ (x13_3 : Int) := of_decide_eq_true d10g
                         have q124 : x13_3 < (t101.length : Int) := of_decide_eq_true d10g
                         obtain ⟨ad124, e124, hx124_0, hx124_1, hx124_2, hx124_3, hx124_4⟩ := at_T61 (Kd.R_reads' HO_7.out).2.2 x13_3 p124 q124
                         obtain rfl : ad119 = ad124 := (by injection e124)
                         replace p124 := eq_true p124
                         replace q124 := eq_true q124
                         have p125 : 0 ≤ (x11_2 : Int) := of_decide_eq_true d10g
                         have q125 : x11_2 < (t105.length : Int) := of_decide_eq_true d10g
                         obtain ⟨ad125, e125, hx125_0, hx125_1, hx125_2⟩ := at_T65 (Kd.R_reads' HO_9.out).2.2 x11_2 p125 q125
                         cases e125
                         replace p125 := eq_true p125
                         replace q125 := eq_true q125
                         have p126 : 0 ≤ (x13_3 : Int) := of_decide_eq_true d10g
                         have q126 : x13_3 < (t101.length : Int) := of_decide_eq_true d10g
                         obtain ⟨ad126, e126, hx126_0, hx126_1, hx126_2, hx126_3, hx126_4⟩ := at_T61 (Kd.R_reads' HO_7.out).2.2 x13_3 p126 q126
                         obtain rfl : ad119 = ad126 := (by injection e126)
                         replace p126 := eq_true p126
                         replace q126 := eq_true q126
                         have p127 : 0 ≤ (x11_2 : Int) := of_decide_eq_true d10g
                         have q127 : x11_2 < (t105.length : Int) := of_decide_eq_true d10g
                         obtain ⟨ad127, e127, hx127_0, hx127_1, hx127_2⟩ := at_T65 (Kd.R_reads' HO_9.out).2.2 x11_2 p127 q127
                         obtain rfl : ad125 = ad127 := (by injection e127)
                         replace p127 := eq_true p127
                         replace q127 := eq_true q127
                         go_wp2
                         repeat (go_quiet (fail); try go_wp2)
                         go_roundg k3
                         case measure => have := HJ5.out; have := HK2.out; have := HK3.out; omega
                         case rel => exact ⟨(wrap64 (x12_3 + ((rd_T61 t101 x13_3).f4))), (wrap64 (x13_3 + 1)), d10h, d10h, H', ⟨by have := HJ5.out; have := HK2.out; have := HK3.out; omega⟩, ⟨d10c⟩, ⟨d10d⟩, ⟨d10a⟩⟩
                     · rw [if_neg c46] at H
                       have c46b0 : decide (0 ≤ ((rd_T65 t105 x11_2).f2)) = false := decide_eq_false c46
                       clear c46
                       have H' := Aside0.mk H
                       clear H
                       obtain ⟨Ao50, co50, eo50⟩ := Kd.R_slice HO_7.out
                       subst eo50
                       have p119 : 0 ≤ (x13_3 : Int) := of_decide_eq_true d10g
                       have q119 : x13_3 < (t101.length : Int) := of_decide_eq_true d10g
                       obtain ⟨ad119, e119, hx119_0, hx119_1, hx119_2, hx119_3, hx119_4⟩ := at_T61 (Kd.R_reads' HO_7.out).2.2 x13_3 p119 q119
                       cases e119
                       replace p119 := eq_true p119
                       replace q119 := eq_true q119
                       have p120 : 0 ≤ (x11_2 : Int) := of_decide_eq_true d10g
                       have q120 : x11_2 < (l2.length : Int) := of_decide_eq_true d10g
                       obtain ⟨ad120, e120, hx120_0, hx120_1, hx120_2, hx120_3, hx120_4⟩ := at_T63 HR2.out x11_2 p120 q120
                       cases e120
                       replace hx120_0 := cellB HB.out hx120_0
                       replace hx120_1 := cellB HB.out hx120_1
                       replace hx120_2 := cellB HB.out hx120_2
                       replace hx120_3 := cellB HB.out hx120_3
                       replace hx120_4 := cellB HB.out hx120_4
                       replace p120 := eq_true p120
                       replace q120 := eq_true q120
                       have p121 : 0 ≤ (x13_3 : Int) := of_decide_eq_true d10g
                       have q121 : x13_3 < (t101.length : Int) := of_decide_eq_true d10g
                       obtain ⟨ad121, e121, hx121_0, hx121_1, hx121_2, hx121_3, hx121_4⟩ := at_T61 (Kd.R_reads' HO_7.out).2.2 x13_3 p121 q121
                       obtain rfl : ad119 = ad121 := (by injection e121)
                       replace p121 := eq_true p121
                       replace q121 := eq_true q121
                       have p122 : 0 ≤ (x13_3 : Int) := of_decide_eq_true d10g
                       have q122 : x13_3 < (t101.length : Int) := of_decide_eq_true d10g
                       obtain ⟨ad122, e122, hx122_0, hx122_1, hx122_2, hx122_3, hx122_4⟩ := at_T61 (Kd.R_reads' HO_7.out).2.2 x13_3 p122 q122
                       obtain rfl : ad119 = ad122 := (by injection e122)
                       replace p122 := eq_true p122
                       replace q122 := eq_true q122
                       have p123 : 0 ≤ (x11_2 : Int) := of_decide_eq_true d10g
                       have q123 : x11_2 < (l2.length : Int) := of_decide_eq_true d10g
                       obtain ⟨ad123, e123, hx123_0, hx123_1, hx123_2, hx123_3, hx123_4⟩ := at_T63 HR2.out x11_2 p123 q123
                       obtain rfl : ad120 = ad123 := (by injection e123)
                       replace hx123_0 := cellB HB.out hx123_0
                       replace hx123_1 := cellB HB.out hx123_1
                       replace hx123_2 := cellB HB.out hx123_2
                       replace hx123_3 := cellB HB.out hx123_3
                       replace hx123_4 := cellB HB.out hx123_4
                       replace p123 := eq_true p123
                       replace q123 := eq_true q123
                       have p124 : 0 ≤ (x13_3 : Int) := of_decide_eq_true d10g
                       have q124 : x13_3 < (t101.length : Int) := of_decide_eq_true d10g
                       obtain ⟨ad124, e124, hx124_0, hx124_1, hx124_2, hx124_3, hx124_4⟩ := at_T61 (Kd.R_reads' HO_7.out).2.2 x13_3 p124 q124
                       obtain rfl : ad119 = ad124 := (by injection e124)
                       replace p124 := eq_true p124
                       replace q124 := eq_true q124
                       have p125 : 0 ≤ (x11_2 : Int) := of_decide_eq_true d10g
                       have q125 : x11_2 < (t105.length : Int) := of_decide_eq_true d10g
                       obtain ⟨ad125, e125, hx125_0, hx125_1, hx125_2⟩ := at_T65 (Kd.R_reads' HO_9.out).2.2 x11_2 p125 q125
                       cases e125
                       replace p125 := eq_true p125
                       replace q125 := eq_true q125
                       go_wp2
                       repeat (go_quiet (fail); try go_wp2)
                       go_roundg k3
                       case measure => have := HJ5.out; have := HK2.out; have := HK3.out; omega
                       case rel => exact ⟨(wrap64 (x12_3 + ((rd_T61 t101 x13_3).f4))), (wrap64 (x13_3 + 1)), d10h, d10h, H', ⟨by have := HJ5.out; have := HK2.out; have := HK3.out; omega⟩, ⟨d10c⟩, ⟨d10d⟩, ⟨d10a⟩⟩
               · rw [if_neg c40] at H
                 have c40b0 : (((rd_T61 t101 x13_3).f0).toList == ((rd_T63 l2 x11_2).f0).toList) = false := beq_eq_false_iff_ne.mpr c40
                 have c40b1 : (((rd_T61 t101 x13_3).f0).toList != ((rd_T63 l2 x11_2).f0).toList) = true := bne_iff_ne.mpr c40
                 have H' := Aside0.mk H
                 clear H
                 obtain ⟨Ao51, co51, eo51⟩ := Kd.R_slice HO_7.out
                 subst eo51
                 have p119 : 0 ≤ (x13_3 : Int) := of_decide_eq_true d10g
                 have q119 : x13_3 < (t101.length : Int) := of_decide_eq_true d10g
                 obtain ⟨ad119, e119, hx119_0, hx119_1, hx119_2, hx119_3, hx119_4⟩ := at_T61 (Kd.R_reads' HO_7.out).2.2 x13_3 p119 q119
                 cases e119
                 replace p119 := eq_true p119
                 replace q119 := eq_true q119
                 have p120 : 0 ≤ (x11_2 : Int) := of_decide_eq_true d10g
                 have q120 : x11_2 < (l2.length : Int) := of_decide_eq_true d10g
                 obtain ⟨ad120, e120, hx120_0, hx120_1, hx120_2, hx120_3, hx120_4⟩ := at_T63 HR2.out x11_2 p120 q120
                 cases e120
                 replace hx120_0 := cellB HB.out hx120_0
                 replace hx120_1 := cellB HB.out hx120_1
                 replace hx120_2 := cellB HB.out hx120_2
                 replace hx120_3 := cellB HB.out hx120_3
                 replace hx120_4 := cellB HB.out hx120_4
                 replace p120 := eq_true p120
                 replace q120 := eq_true q120
                 go_wp2
                 repeat (go_quiet (fail); try go_wp2)
                 go_roundg k3
                 case measure => have := HJ5.out; have := HK2.out; have := HK3.out; omega
                 case rel => exact ⟨(x12_3), (wrap64 (x13_3 + 1)), d10h, d10h, H', ⟨by have := HJ5.out; have := HK2.out; have := HK3.out; omega⟩, ⟨d10c⟩, ⟨d10d⟩, ⟨d10a⟩⟩
             · rw [if_neg c36] at H
               have c36b0 : decide (x13_3 < (t101.length : Int)) = false := decide_eq_false c36
               clear c36
               replace H := guardT H; obtain ⟨c52, H⟩ := H
               have c52b0 : decide (0 ≤ x11_2) = true := decide_eq_true c52
               clear c52
               replace H := guardT H; obtain ⟨c53, H⟩ := H
               have c53b0 : decide (x11_2 < (t105.length : Int)) = true := decide_eq_true c53
               clear c53
               replace H := guardT H; obtain ⟨c54, H⟩ := H
               have c54b0 : decide (x11_2 < (l2.length : Int)) = true := decide_eq_true c54
               clear c54
               by_cases c55 : ((rd_T65 t105 x11_2).f0).toList = ((rd_T63 l2 x11_2).f0).toList
               · rw [if_pos c55] at H
                 have c55b0 : (((rd_T65 t105 x11_2).f0).toList == ((rd_T63 l2 x11_2).f0).toList) = true := beq_iff_eq.mpr c55
                 have c55b1 : (((rd_T65 t105 x11_2).f0).toList != ((rd_T63 l2 x11_2).f0).toList) = false := bne_eq_false_iff_eq.mpr c55
                 clear c55
                 by_cases c56 : ((rd_T65 t105 x11_2).f1) = x12_3
                 · rw [if_pos c56] at H
                   have c56b0 : (((rd_T65 t105 x11_2).f1) == x12_3) = true := beq_iff_eq.mpr c56
                   have c56b1 : (((rd_T65 t105 x11_2).f1) != x12_3) = false := bne_eq_false_iff_eq.mpr c56
                   clear c56
                   by_cases c57 : x12_3 > ((rd_T63 l2 x11_2).f1)
                   · rw [if_pos c57] at H
                     have c57b0 : decide (((rd_T63 l2 x11_2).f1) < x12_3) = true := decide_eq_true c57
                     clear c57
                     obtain rfl := Option.some.inj H
                     obtain ⟨Ao58, co58, eo58⟩ := Kd.R_slice HO_7.out
                     subst eo58
                     have p113 : 0 ≤ (x11_2 : Int) := of_decide_eq_true d10g
                     have q113 : x11_2 < (t105.length : Int) := of_decide_eq_true d10g
                     obtain ⟨ad113, e113, hx113_0, hx113_1, hx113_2⟩ := at_T65 (Kd.R_reads' HO_9.out).2.2 x11_2 p113 q113
                     cases e113
                     replace p113 := eq_true p113
                     replace q113 := eq_true q113
                     have p114 : 0 ≤ (x11_2 : Int) := of_decide_eq_true d10g
                     have q114 : x11_2 < (l2.length : Int) := of_decide_eq_true d10g
                     obtain ⟨ad114, e114, hx114_0, hx114_1, hx114_2, hx114_3, hx114_4⟩ := at_T63 HR2.out x11_2 p114 q114
                     cases e114
                     replace hx114_0 := cellB HB.out hx114_0
                     replace hx114_1 := cellB HB.out hx114_1
                     replace hx114_2 := cellB HB.out hx114_2
                     replace hx114_3 := cellB HB.out hx114_3
                     replace hx114_4 := cellB HB.out hx114_4
                     replace p114 := eq_true p114
                     replace q114 := eq_true q114
                     have p115 : 0 ≤ (x11_2 : Int) := of_decide_eq_true d10g
                     have q115 : x11_2 < (t105.length : Int) := of_decide_eq_true d10g
                     obtain ⟨ad115, e115, hx115_0, hx115_1, hx115_2⟩ := at_T65 (Kd.R_reads' HO_9.out).2.2 x11_2 p115 q115
                     obtain rfl : ad113 = ad115 := (by injection e115)
                     replace p115 := eq_true p115
                     replace q115 := eq_true q115
                     have p116 : 0 ≤ (x11_2 : Int) := of_decide_eq_true d10g
                     have q116 : x11_2 < (l2.length : Int) := of_decide_eq_true d10g
                     obtain ⟨ad116, e116, hx116_0, hx116_1, hx116_2, hx116_3, hx116_4⟩ := at_T63 HR2.out x11_2 p116 q116
                     obtain rfl : ad114 = ad116 := (by injection e116)
                     replace hx116_0 := cellB HB.out hx116_0
                     replace hx116_1 := cellB HB.out hx116_1
                     replace hx116_2 := cellB HB.out hx116_2
                     replace hx116_3 := cellB HB.out hx116_3
                     replace hx116_4 := cellB HB.out hx116_4
                     replace p116 := eq_true p116
                     replace q116 := eq_true q116
                     go_wp2
                     repeat (go_quiet (fail); try go_wp2)
                     go_ret
                     exact ⟨d10e, d10a⟩
                   · rw [if_neg c57] at H
                     have c57b0 : decide (((rd_T63 l2 x11_2).f1) < x12_3) = false := decide_eq_false c57
                     clear c57
                     by_cases c59 : ((decide (((rd_T65 t105 x11_2).f2) ≥ 0)) != (x12_3 == ((rd_T63 l2 x11_2).f1))) = true
                     · rw [if_pos c59] at H
                       have c59b0 : ((decide (((rd_T65 t105 x11_2).f2) ≥ 0)) != (x12_3 == ((rd_T63 l2 x11_2).f1))) = true := c59
                       (try (have c59b1 : decide ((decide (((rd_T65 t105 x11_2).f2) ≥ 0)) = (x12_3 == ((rd_T63 l2 x11_2).f1))) = false := by simpa using c59))
                       (try (have c59b2 : ((decide (((rd_T65 t105 x11_2).f2) ≥ 0)) == (x12_3 == ((rd_T63 l2 x11_2).f1))) = false := by simpa using c59))
                       (try (have c59b3 : ¬ ((decide (((rd_T65 t105 x11_2).f2) ≥ 0)) = (x12_3 == ((rd_T63 l2 x11_2).f1))) := by simpa using c59))
                       clear c59
                       obtain rfl := Option.some.inj H
                       obtain ⟨Ao60, co60, eo60⟩ := Kd.R_slice HO_7.out
                       subst eo60
                       have p113 : 0 ≤ (x11_2 : Int) := of_decide_eq_true d10g
                       have q113 : x11_2 < (t105.length : Int) := of_decide_eq_true d10g
                       obtain ⟨ad113, e113, hx113_0, hx113_1, hx113_2⟩ := at_T65 (Kd.R_reads' HO_9.out).2.2 x11_2 p113 q113
                       cases e113
                       replace p113 := eq_true p113
                       replace q113 := eq_true q113
                       have p114 : 0 ≤ (x11_2 : Int) := of_decide_eq_true d10g
                       have q114 : x11_2 < (l2.length : Int) := of_decide_eq_true d10g
                       obtain ⟨ad114, e114, hx114_0, hx114_1, hx114_2, hx114_3, hx114_4⟩ := at_T63 HR2.out x11_2 p114 q114
                       cases e114
                       replace hx114_0 := cellB HB.out hx114_0
                       replace hx114_1 := cellB HB.out hx114_1
                       replace hx114_2 := cellB HB.out hx114_2
                       replace hx114_3 := cellB HB.out hx114_3
                       replace hx114_4 := cellB HB.out hx114_4
                       replace p114 := eq_true p114
                       replace q114 := eq_true q114
                       have p115 : 0 ≤ (x11_2 : Int) := of_decide_eq_true d10g
                       have q115 : x11_2 < (t105.length : Int) := of_decide_eq_true d10g
                       obtain ⟨ad115, e115, hx115_0, hx115_1, hx115_2⟩ := at_T65 (Kd.R_reads' HO_9.out).2.2 x11_2 p115 q115
                       obtain rfl : ad113 = ad115 := (by injection e115)
                       replace p115 := eq_true p115
                       replace q115 := eq_true q115
                       have p116 : 0 ≤ (x11_2 : Int) := of_decide_eq_true d10g
                       have q116 : x11_2 < (l2.length : Int) := of_decide_eq_true d10g
                       obtain ⟨ad116, e116, hx116_0, hx116_1, hx116_2, hx116_3, hx116_4⟩ := at_T63 HR2.out x11_2 p116 q116
                       obtain rfl : ad114 = ad116 := (by injection e116)
                       replace hx116_0 := cellB HB.out hx116_0
                       replace hx116_1 := cellB HB.out hx116_1
                       replace hx116_2 := cellB HB.out hx116_2
                       replace hx116_3 := cellB HB.out hx116_3
                       replace hx116_4 := cellB HB.out hx116_4
                       replace p116 := eq_true p116
                       replace q116 := eq_true q116
                       have p117 : 0 ≤ (x11_2 : Int) := of_decide_eq_true d10g
                       have q117 : x11_2 < (t105.length : Int) := of_decide_eq_true d10g
                       obtain ⟨ad117, e117, hx117_0, hx117_1, hx117_2⟩ := at_T65 (Kd.R_reads' HO_9.out).2.2 x11_2 p117 q117
                       obtain rfl : ad113 = ad117 := (by injection e117)
                       replace p117 := eq_true p117
                       replace q117 := eq_true q117
                       have p118 : 0 ≤ (x11_2 : Int) := of_decide_eq_true d10g
                       have q118 : x11_2 < (l2.length : Int) := of_decide_eq_true d10g
                       obtain ⟨ad118, e118, hx118_0, hx118_1, hx118_2, hx118_3, hx118_4⟩ := at_T63 HR2.out x11_2 p118 q118
                       obtain rfl : ad114 = ad118 := (by injection e118)
                       replace hx118_0 := cellB HB.out hx118_0
                       replace hx118_1 := cellB HB.out hx118_1
                       replace hx118_2 := cellB HB.out hx118_2
                       replace hx118_3 := cellB HB.out hx118_3
                       replace hx118_4 := cellB HB.out hx118_4
                       replace p118 := eq_true p118
                       replace q118 := eq_true q118
                       go_wp2
                       repeat (go_quiet (fail); try go_wp2)
                       go_ret
                       exact ⟨d10e, d10a⟩
                     · rw [if_neg c59] at H
                       have c59b0 : ((decide (((rd_T65 t105 x11_2).f2) ≥ 0)) != (x12_3 == ((rd_T63 l2 x11_2).f1))) = false := by simpa using c59
                       (try (have c59b1 : decide ((decide (((rd_T65 t105 x11_2).f2) ≥ 0)) = (x12_3 == ((rd_T63 l2 x11_2).f1))) = true := by simpa using c59))
                       (try (have c59b2 : ((decide (((rd_T65 t105 x11_2).f2) ≥ 0)) == (x12_3 == ((rd_T63 l2 x11_2).f1))) = true := by simpa using c59))
                       clear c59
                       have H' := Aside0.mk H
                       clear H
                       obtain ⟨Ao61, co61, eo61⟩ := Kd.R_slice HO_7.out
                       subst eo61
                       have p113 : 0 ≤ (x11_2 : Int) := of_decide_eq_true d10g
                       have q113 : x11_2 < (t105.length : Int) := of_decide_eq_true d10g
                       obtain ⟨ad113, e113, hx113_0, hx113_1, hx113_2⟩ := at_T65 (Kd.R_reads' HO_9.out).2.2 x11_2 p113 q113
                       cases e113
                       replace p113 := eq_true p113
                       replace q113 := eq_true q113
                       have p114 : 0 ≤ (x11_2 : Int) := of_decide_eq_true d10g
                       have q114 : x11_2 < (l2.length : Int) := of_decide_eq_true d10g
                       obtain ⟨ad114, e114, hx114_0, hx114_1, hx114_2, hx114_3, hx114_4⟩ := at_T63 HR2.out x11_2 p114 q114
                       cases e114
                       replace hx114_0 := cellB HB.out hx114_0
                       replace hx114_1 := cellB HB.out hx114_1
                       replace hx114_2 := cellB HB.out hx114_2
                       replace hx114_3 := cellB HB.out hx114_3
                       replace hx114_4 := cellB HB.out hx114_4
                       replace p114 := eq_true p114
                       replace q114 := eq_true q114
                       have p115 : 0 ≤ (x11_2 : Int) := of_decide_eq_true d10g
                       have q115 : x11_2 < (t105.length : Int) := of_decide_eq_true d10g
                       obtain ⟨ad115, e115, hx115_0, hx115_1, hx115_2⟩ := at_T65 (Kd.R_reads' HO_9.out).2.2 x11_2 p115 q115
                       obtain rfl : ad113 = ad115 := (by injection e115)
                       replace p115 := eq_true p115
                       replace q115 := eq_true q115
                       have p116 : 0 ≤ (x11_2 : Int) := of_decide_eq_true d10g
                       have q116 : x11_2 < (l2.length : Int) := of_decide_eq_true d10g
                       obtain ⟨ad116, e116, hx116_0, hx116_1, hx116_2, hx116_3, hx116_4⟩ := at_T63 HR2.out x11_2 p116 q116
                       obtain rfl : ad114 = ad116 := (by injection e116)
                       replace hx116_0 := cellB HB.out hx116_0
                       replace hx116_1 := cellB HB.out hx116_1
                       replace hx116_2 := cellB HB.out hx116_2
                       replace hx116_3 := cellB HB.out hx116_3
                       replace hx116_4 := cellB HB.out hx116_4
                       replace p116 := eq_true p116
                       replace q116 := eq_true q116
                       have p117 : 0 ≤ (x11_2 : Int) := of_decide_eq_true d10g
                       have q117 : x11_2 < (t105.length : Int) := of_decide_eq_true d10g
                       obtain ⟨ad117, e117, hx117_0, hx117_1, hx117_2⟩ := at_T65 (Kd.R_reads' HO_9.out).2.2 x11_2 p117 q117
                       obtain rfl : ad113 = ad117 := (by injection e117)
                       replace p117 := eq_true p117
                       replace q117 := eq_true q117
                       have p118 : 0 ≤ (x11_2 : Int) := of_decide_eq_true d10g
                       have q118 : x11_2 < (l2.length : Int) := of_decide_eq_true d10g
                       obtain ⟨ad118, e118, hx118_0, hx118_1, hx118_2, hx118_3, hx118_4⟩ := at_T63 HR2.out x11_2 p118 q118
                       obtain rfl : ad114 = ad118 := (by injection e118)
                       replace hx118_0 := cellB HB.out hx118_0
                       replace hx118_1 := cellB HB.out hx118_1
                       replace hx118_2 := cellB HB.out hx118_2
                       replace hx118_3 := cellB HB.out hx118_3
                       replace hx118_4 := cellB HB.out hx118_4
                       replace p118 := eq_true p118
                       replace q118 := eq_true q118
                       go_wp2
                       repeat (go_quiet (fail); try go_wp2)
                       go_roundg k3
                       case measure => have := HJ5.out; have := HK2.out; have := HK3.out; omega
                       case rel => exact ⟨(wrap64 (x11_2 + 1)), d10h, H', ⟨by have := HJ5.out; have := HK2.out; have := HK3.out; omega⟩, ⟨d10c⟩, ⟨d10d⟩, ⟨d10a⟩⟩
                 · rw [if_neg c56] at H
                   have c56b0 : (((rd_T65 t105 x11_2).f1) == x12_3) = false := beq_eq_false_iff_ne.mpr c56
                   have c56b1 : (((rd_T65 t105 x11_2).f1) != x12_3) = true := bne_iff_ne.mpr c56
                   obtain rfl := Option.some.inj H
                   obtain ⟨Ao62, co62, eo62⟩ := Kd.R_slice HO_7.out
                   subst eo62
                   have p113 : 0 ≤ (x11_2 : Int) := of_decide_eq_true d10g
                   have q113 : x11_2 < (t105.length : Int) := of_decide_eq_true d10g
                   obtain ⟨ad113, e113, hx113_0, hx113_1, hx113_2⟩ := at_T65 (Kd.R_reads' HO_9.out).2.2 x11_2 p113 q113
                   cases e113
                   replace p113 := eq_true p113
                   replace q113 := eq_true q113
                   have p114 : 0 ≤ (x11_2 : Int) := of_decide_eq_true d10g
                   have q114 : x11_2 < (l2.length : Int) := of_decide_eq_true d10g
                   obtain ⟨ad114, e114, hx114_0, hx114_1, hx114_2, hx114_3, hx114_4⟩ := at_T63 HR2.out x11_2 p114 q114
                   cases e114
                   replace hx114_0 := cellB HB.out hx114_0
                   replace hx114_1 := cellB HB.out hx114_1
                   replace hx114_2 := cellB HB.out hx114_2
                   replace hx114_3 := cellB HB.out hx114_3
                   replace hx114_4 := cellB HB.out hx114_4
                   replace p114 := eq_true p114
                   replace q114 := eq_true q114
                   have p115 : 0 ≤ (x11_2 : Int) := of_decide_eq_true d10g
                   have q115 : x11_2 < (t105.length : Int) := of_decide_eq_true d10g
                   obtain ⟨ad115, e115, hx115_0, hx115_1, hx115_2⟩ := at_T65 (Kd.R_reads' HO_9.out).2.2 x11_2 p115 q115
                   obtain rfl : ad113 = ad115 := (by injection e115)
                   replace p115 := eq_true p115
                   replace q115 := eq_true q115
                   go_wp2
                   repeat (go_quiet (fail); try go_wp2)
                   go_ret
                   exact ⟨d10e, d10a⟩
               · rw [if_neg c55] at H
                 have c55b0 : (((rd_T65 t105 x11_2).f0).toList == ((rd_T63 l2 x11_2).f0).toList) = false := beq_eq_false_iff_ne.mpr c55
                 have c55b1 : (((rd_T65 t105 x11_2).f0).toList != ((rd_T63 l2 x11_2).f0).toList) = true := bne_iff_ne.mpr c55
                 obtain rfl := Option.some.inj H
                 obtain ⟨Ao63, co63, eo63⟩ := Kd.R_slice HO_7.out
                 subst eo63
                 have p113 : 0 ≤ (x11_2 : Int) := of_decide_eq_true d10g
                 have q113 : x11_2 < (t105.length : Int) := of_decide_eq_true d10g
                 obtain ⟨ad113, e113, hx113_0, hx113_1, hx113_2⟩ := at_T65 (Kd.R_reads' HO_9.out).2.2 x11_2 p113 q113
                 cases e113
                 replace p113 := eq_true p113
                 replace q113 := eq_true q113
                 have p114 : 0 ≤ (x11_2 : Int) := of_decide_eq_true d10g
                 have q114 : x11_2 < (l2.length : Int) := of_decide_eq_true d10g
                 obtain ⟨ad114, e114, hx114_0, hx114_1, hx114_2, hx114_3, hx114_4⟩ := at_T63 HR2.out x11_2 p114 q114
                 cases e114
                 replace hx114_0 := cellB HB.out hx114_0
                 replace hx114_1 := cellB HB.out hx114_1
                 replace hx114_2 := cellB HB.out hx114_2
                 replace hx114_3 := cellB HB.out hx114_3
                 replace hx114_4 := cellB HB.out hx114_4
                 replace p114 := eq_true p114
                 replace q114 := eq_true q114
                 go_wp2
                 repeat (go_quiet (fail); try go_wp2)
                 go_ret
                 exact ⟨d10e, d10a⟩
         · rw [if_neg c35] at H
           have c35b0 : decide (x11_2 < (l2.length : Int)) = false := decide_eq_false c35
           clear c35
           have H' := Aside0.mk H
           clear H
           go_wp2
           go_loopg [14] k2 (fun kq v14 w' => ∃ (x14_3 : Int), v14 = .int .i64 x14_3 ∧ Aside0 (perigeelaw10_SendingAddsUp.l2 kq l0 l1 t101 x14_3 = some r) ∧ Aside0 (kq ≤ k2) ∧ Aside0 (Kd.R k61 61 w' w.heap.size (fun _ => True) v103 t101) ∧ Aside0 (Below w.heap.size w w'))
           case atStart => exact ⟨(0), d10h, H', ⟨Nat.le_refl _⟩, ⟨d10c⟩, ⟨d10a⟩⟩
           case round => as_aux_lemma =>
            clear H'
            try clear c35b0
            obtain ⟨x14_3, rfl, HA, HK3, HO_7, HB⟩ := hrel
            cases gk with
            | zero => exact absurd HA.out (by simp [perigeelaw10_SendingAddsUp.l2])
            | succ k3 =>
             have H := HA.out
             clear HA
             simp only [perigeelaw10_SendingAddsUp.l2] at H
             by_cases c64 : x14_3 < (l1.length : Int)
             · rw [if_pos c64] at H
               have c64b0 : decide (x14_3 < (l1.length : Int)) = true := decide_eq_true c64
               clear c64
               have H' := Aside0.mk H
               clear H
               go_wp2
               go_loopg [15, 16] k3 (fun kq v15 v16 w' => ∃ (x15_4 : Int) (x16_4 : Int), v15 = .int .i64 x15_4 ∧ v16 = .int .i64 x16_4 ∧ Aside0 (perigeelaw10_SendingAddsUp.l3 kq l0 l1 t101 x14_3 x15_4 x16_4 = some r) ∧ Aside0 (kq ≤ k3) ∧ Aside0 (Kd.R k61 61 w' w.heap.size (fun _ => True) v103 t101) ∧ Aside0 (Below w.heap.size w w'))
               case atStart => exact ⟨(0), (0), d10h, d10h, H', ⟨Nat.le_refl _⟩, ⟨d10c⟩, ⟨d10a⟩⟩
               case round => as_aux_lemma =>
                clear H'
                try clear c64b0
                obtain ⟨x15_4, x16_4, rfl, rfl, HA, HK4, HO_7, HB⟩ := hrel
                cases gk with
                | zero => exact absurd HA.out (by simp [perigeelaw10_SendingAddsUp.l3])
                | succ k4 =>
                 have H := HA.out
                 clear HA
                 simp only [perigeelaw10_SendingAddsUp.l3] at H
                 by_cases c65 : x16_4 < (t101.length : Int)
                 · rw [if_pos c65] at H
                   have c65b0 : decide (x16_4 < (t101.length : Int)) = true := decide_eq_true c65
                   clear c65
                   replace H := guardT H; obtain ⟨c66, H⟩ := H
                   have c66b0 : decide (0 ≤ x16_4) = true := decide_eq_true c66
                   clear c66
                   replace H := guardT H; obtain ⟨c67, H⟩ := H
                   have c67b0 : decide (0 ≤ x14_3) = true := decide_eq_true c67
                   clear c67
                   replace H := guardT H; obtain ⟨c68, H⟩ := H
                   have c68b0 : decide (x14_3 < (l1.length : Int)) = true := decide_eq_true c68
                   clear c68
                   by_cases c69 : ((rd_T61 t101 x16_4).f1) = (rd l1 x14_3)
                   · rw [if_pos c69] at H
                     have c69b0 : (((rd_T61 t101 x16_4).f1) == (rd l1 x14_3)) = true := beq_iff_eq.mpr c69
                     have c69b1 : (((rd_T61 t101 x16_4).f1) != (rd l1 x14_3)) = false := bne_eq_false_iff_eq.mpr c69
                     clear c69
                     replace H := guardT H; obtain ⟨c70, H⟩ := H
                     have c70b0 : decide (0 ≤ (rd l1 x14_3)) = true := decide_eq_true c70
                     clear c70
                     replace H := guardT H; obtain ⟨c71, H⟩ := H
                     have c71b0 : decide ((rd l1 x14_3) < (l0.length : Int)) = true := decide_eq_true c71
                     clear c71
                     by_cases c72 : ((rd_T61 t101 x16_4).f2) < ((rd_T33 l0 (rd l1 x14_3)).f1)
                     · rw [if_pos c72] at H
                       have c72b0 : decide (((rd_T61 t101 x16_4).f2) < ((rd_T33 l0 (rd l1 x14_3)).f1)) = true := decide_eq_true c72
                       clear c72
                       obtain rfl := Option.some.inj H
                       obtain ⟨Ao73, co73, eo73⟩ := Kd.R_slice HO_7.out
                       subst eo73
                       have p132 : 0 ≤ (x16_4 : Int) := of_decide_eq_true d10g
                       have q132 : x16_4 < (t101.length : Int) := of_decide_eq_true d10g
                       obtain ⟨ad132, e132, hx132_0, hx132_1, hx132_2, hx132_3, hx132_4⟩ := at_T61 (Kd.R_reads' HO_7.out).2.2 x16_4 p132 q132
                       cases e132
                       replace p132 := eq_true p132
                       replace q132 := eq_true q132
                       have p133 : 0 ≤ (x14_3 : Int) := of_decide_eq_true d10g
                       have q133 : x14_3 < (l1.length : Int) := of_decide_eq_true d10g
                       obtain ⟨ad133, e133, hx133_0⟩ := Kd.at_int HR1.out x14_3 p133 q133
                       cases e133
                       replace hx133_0 := cellB HB.out hx133_0
                       replace p133 := eq_true p133
                       replace q133 := eq_true q133
                       have p134 : 0 ≤ (x16_4 : Int) := of_decide_eq_true d10g
                       have q134 : x16_4 < (t101.length : Int) := of_decide_eq_true d10g
                       obtain ⟨ad134, e134, hx134_0, hx134_1, hx134_2, hx134_3, hx134_4⟩ := at_T61 (Kd.R_reads' HO_7.out).2.2 x16_4 p134 q134
                       obtain rfl : ad132 = ad134 := (by injection e134)
                       replace p134 := eq_true p134
                       replace q134 := eq_true q134
                       have p135 : 0 ≤ (x16_4 : Int) := of_decide_eq_true d10g
                       have q135 : x16_4 < (t101.length : Int) := of_decide_eq_true d10g
                       obtain ⟨ad135, e135, hx135_0, hx135_1, hx135_2, hx135_3, hx135_4⟩ := at_T61 (Kd.R_reads' HO_7.out).2.2 x16_4 p135 q135
                       obtain rfl : ad132 = ad135 := (by injection e135)
                       replace p135 := eq_true p135
                       replace q135 := eq_true q135
                       have p136 : 0 ≤ (x14_3 : Int) := of_decide_eq_true d10g
                       have q136 : x14_3 < (l1.length : Int) := of_decide_eq_true d10g
                       obtain ⟨ad136, e136, hx136_0⟩ := Kd.at_int HR1.out x14_3 p136 q136
                       obtain rfl : ad133 = ad136 := (by injection e136)
                       replace hx136_0 := cellB HB.out hx136_0
                       replace p136 := eq_true p136
                       replace q136 := eq_true q136
                       have p137 : 0 ≤ ((rd l1 x14_3) : Int) := of_decide_eq_true d10g
                       have q137 : (rd l1 x14_3) < (l0.length : Int) := of_decide_eq_true d10g
                       obtain ⟨ad137, A137_3, c137_3, e137, hx137_0, hx137_1, hx137_2, hx137_3, hl137_3, hi137_3⟩ := at_T33 HR0.out (rd l1 x14_3) p137 q137
                       cases e137
                       replace hx137_0 := cellB HB.out hx137_0
                       replace hx137_1 := cellB HB.out hx137_1
                       replace hx137_2 := cellB HB.out hx137_2
                       replace hx137_3 := cellB HB.out hx137_3
                       have HR137_3 := Aside0.mk hi137_3
                       have HC137_3 := Aside0.mk hl137_3
                       clear hi137_3 hl137_3
                       replace p137 := eq_true p137
                       replace q137 := eq_true q137
                       go_wp2
                       repeat (go_quiet (fail); try go_wp2)
                       go_ret
                       exact ⟨d10e, d10a⟩
                     · rw [if_neg c72] at H
                       have c72b0 : decide (((rd_T61 t101 x16_4).f2) < ((rd_T33 l0 (rd l1 x14_3)).f1)) = false := decide_eq_false c72
                       clear c72
                       by_cases c74 : ((rd_T61 t101 x16_4).f3) > ((rd_T33 l0 (rd l1 x14_3)).f2)
                       · rw [if_pos c74] at H
                         have c74b0 : decide (((rd_T33 l0 (rd l1 x14_3)).f2) < ((rd_T61 t101 x16_4).f3)) = true := decide_eq_true c74
                         clear c74
                         obtain rfl := Option.some.inj H
                         obtain ⟨Ao75, co75, eo75⟩ := Kd.R_slice HO_7.out
                         subst eo75
                         have p132 : 0 ≤ (x16_4 : Int) := of_decide_eq_true d10g
                         have q132 : x16_4 < (t101.length : Int) := of_decide_eq_true d10g
                         obtain ⟨ad132, e132, hx132_0, hx132_1, hx132_2, hx132_3, hx132_4⟩ := at_T61 (Kd.R_reads' HO_7.out).2.2 x16_4 p132 q132
                         cases e132
                         replace p132 := eq_true p132
                         replace q132 := eq_true q132
                         have p133 : 0 ≤ (x14_3 : Int) := of_decide_eq_true d10g
                         have q133 : x14_3 < (l1.length : Int) := of_decide_eq_true d10g
                         obtain ⟨ad133, e133, hx133_0⟩ := Kd.at_int HR1.out x14_3 p133 q133
                         cases e133
                         replace hx133_0 := cellB HB.out hx133_0
                         replace p133 := eq_true p133
                         replace q133 := eq_true q133
                         have p134 : 0 ≤ (x16_4 : Int) := of_decide_eq_true d10g
                         have q134 : x16_4 < (t101.length : Int) := of_decide_eq_true d10g
                         obtain ⟨ad134, e134, hx134_0, hx134_1, hx134_2, hx134_3, hx134_4⟩ := at_T61 (Kd.R_reads' HO_7.out).2.2 x16_4 p134 q134
                         obtain rfl : ad132 = ad134 := (by injection e134)
                         replace p134 := eq_true p134
                         replace q134 := eq_true q134
                         have p135 : 0 ≤ (x16_4 : Int) := of_decide_eq_true d10g
                         have q135 : x16_4 < (t101.length : Int) := of_decide_eq_true d10g
                         obtain ⟨ad135, e135, hx135_0, hx135_1, hx135_2, hx135_3, hx135_4⟩ := at_T61 (Kd.R_reads' HO_7.out).2.2 x16_4 p135 q135
                         obtain rfl : ad132 = ad135 := (by injection e135)
                         replace p135 := eq_true p135
                         replace q135 := eq_true q135
                         have p136 : 0 ≤ (x14_3 : Int) := of_decide_eq_true d10g
                         have q136 : x14_3 < (l1.length : Int) := of_decide_eq_true d10g
                         obtain ⟨ad136, e136, hx136_0⟩ := Kd.at_int HR1.out x14_3 p136 q136
                         obtain rfl : ad133 = ad136 := (by injection e136)
                         replace hx136_0 := cellB HB.out hx136_0
                         replace p136 := eq_true p136
                         replace q136 := eq_true q136
                         have p137 : 0 ≤ ((rd l1 x14_3) : Int) := of_decide_eq_true d10g
                         have q137 : (rd l1 x14_3) < (l0.length : Int) := of_decide_eq_true d10g
                         obtain ⟨ad137, A137_3, c137_3, e137, hx137_0, hx137_1, hx137_2, hx137_3, hl137_3, hi137_3⟩ := at_T33 HR0.out (rd l1 x14_3) p137 q137
                         cases e137
                         replace hx137_0 := cellB HB.out hx137_0
                         replace hx137_1 := cellB HB.out hx137_1
                         replace hx137_2 := cellB HB.out hx137_2
                         replace hx137_3 := cellB HB.out hx137_3
                         have HR137_3 := Aside0.mk hi137_3
                         have HC137_3 := Aside0.mk hl137_3
                         clear hi137_3 hl137_3
                         replace p137 := eq_true p137
                         replace q137 := eq_true q137
                         have p138 : 0 ≤ (x16_4 : Int) := of_decide_eq_true d10g
                         have q138 : x16_4 < (t101.length : Int) := of_decide_eq_true d10g
                         obtain ⟨ad138, e138, hx138_0, hx138_1, hx138_2, hx138_3, hx138_4⟩ := at_T61 (Kd.R_reads' HO_7.out).2.2 x16_4 p138 q138
                         obtain rfl : ad132 = ad138 := (by injection e138)
                         replace p138 := eq_true p138
                         replace q138 := eq_true q138
                         have p139 : 0 ≤ (x14_3 : Int) := of_decide_eq_true d10g
                         have q139 : x14_3 < (l1.length : Int) := of_decide_eq_true d10g
                         obtain ⟨ad139, e139, hx139_0⟩ := Kd.at_int HR1.out x14_3 p139 q139
                         obtain rfl : ad133 = ad139 := (by injection e139)
                         replace hx139_0 := cellB HB.out hx139_0
                         replace p139 := eq_true p139
                         replace q139 := eq_true q139
                         have p140 : 0 ≤ ((rd l1 x14_3) : Int) := of_decide_eq_true d10g
                         have q140 : (rd l1 x14_3) < (l0.length : Int) := of_decide_eq_true d10g
                         obtain ⟨ad140, A140_3, c140_3, e140, hx140_0, hx140_1, hx140_2, hx140_3, hl140_3, hi140_3⟩ := at_T33 HR0.out (rd l1 x14_3) p140 q140
                         obtain rfl : ad137 = ad140 := (by injection e140)
                         replace hx140_0 := cellB HB.out hx140_0
                         replace hx140_1 := cellB HB.out hx140_1
                         replace hx140_2 := cellB HB.out hx140_2
                         replace hx140_3 := cellB HB.out hx140_3
                         have HR140_3 := Aside0.mk hi140_3
                         have HC140_3 := Aside0.mk hl140_3
                         clear hi140_3 hl140_3
                         replace p140 := eq_true p140
                         replace q140 := eq_true q140
                         have ea_ := Option.some.inj (hx137_3.symm.trans hx140_3)
                         injection ea_ with ea_ en_ ec_
                         subst ea_
                         subst ec_
                         clear en_
                         go_wp2
                         repeat (go_quiet (fail); try go_wp2)
                         go_ret
                         exact ⟨d10e, d10a⟩
                       · rw [if_neg c74] at H
                         have c74b0 : decide (((rd_T33 l0 (rd l1 x14_3)).f2) < ((rd_T61 t101 x16_4).f3)) = false := decide_eq_false c74
                         clear c74
                         by_cases c76 : ((rd_T61 t101 x16_4).f2) ≥ ((rd_T61 t101 x16_4).f3)
                         · rw [if_pos c76] at H
                           have c76b0 : decide (((rd_T61 t101 x16_4).f3) ≤ ((rd_T61 t101 x16_4).f2)) = true := decide_eq_true c76
                           clear c76
                           obtain rfl := Option.some.inj H
                           obtain ⟨Ao77, co77, eo77⟩ := Kd.R_slice HO_7.out
                           subst eo77
                           have p132 : 0 ≤ (x16_4 : Int) := of_decide_eq_true d10g
                           have q132 : x16_4 < (t101.length : Int) := of_decide_eq_true d10g
                           obtain ⟨ad132, e132, hx132_0, hx132_1, hx132_2, hx132_3, hx132_4⟩ := at_T61 (Kd.R_reads' HO_7.out).2.2 x16_4 p132 q132
                           cases e132
                           replace p132 := eq_true p132
                           replace q132 := eq_true q132
                           have p133 : 0 ≤ (x14_3 : Int) := of_decide_eq_true d10g
                           have q133 : x14_3 < (l1.length : Int) := of_decide_eq_true d10g
                           obtain ⟨ad133, e133, hx133_0⟩ := Kd.at_int HR1.out x14_3 p133 q133
                           cases e133
                           replace hx133_0 := cellB HB.out hx133_0
                           replace p133 := eq_true p133
                           replace q133 := eq_true q133
                           have p134 : 0 ≤ (x16_4 : Int) := of_decide_eq_true d10g
                           have q134 : x16_4 < (t101.length : Int) := of_decide_eq_true d10g
                           obtain ⟨ad134, e134, hx134_0, hx134_1, hx134_2, hx134_3, hx134_4⟩ := at_T61 (Kd.R_reads' HO_7.out).2.2 x16_4 p134 q134
                           obtain rfl : ad132 = ad134 := (by injection e134)
                           replace p134 := eq_true p134
                           replace q134 := eq_true q134
                           have p135 : 0 ≤ (x16_4 : Int) := of_decide_eq_true d10g
                           have q135 : x16_4 < (t101.length : Int) := of_decide_eq_true d10g
                           obtain ⟨ad135, e135, hx135_0, hx135_1, hx135_2, hx135_3, hx135_4⟩ := at_T61 (Kd.R_reads' HO_7.out).2.2 x16_4 p135 q135
                           obtain rfl : ad132 = ad135 := (by injection e135)
                           replace p135 := eq_true p135
                           replace q135 := eq_true q135
                           have p136 : 0 ≤ (x14_3 : Int) := of_decide_eq_true d10g
                           have q136 : x14_3 < (l1.length : Int) := of_decide_eq_true d10g
                           obtain ⟨ad136, e136, hx136_0⟩ := Kd.at_int HR1.out x14_3 p136 q136
                           obtain rfl : ad133 = ad136 := (by injection e136)
                           replace hx136_0 := cellB HB.out hx136_0
                           replace p136 := eq_true p136
                           replace q136 := eq_true q136
                           have p137 : 0 ≤ ((rd l1 x14_3) : Int) := of_decide_eq_true d10g
                           have q137 : (rd l1 x14_3) < (l0.length : Int) := of_decide_eq_true d10g
                           obtain ⟨ad137, A137_3, c137_3, e137, hx137_0, hx137_1, hx137_2, hx137_3, hl137_3, hi137_3⟩ := at_T33 HR0.out (rd l1 x14_3) p137 q137
                           cases e137
                           replace hx137_0 := cellB HB.out hx137_0
                           replace hx137_1 := cellB HB.out hx137_1
                           replace hx137_2 := cellB HB.out hx137_2
                           replace hx137_3 := cellB HB.out hx137_3
                           have HR137_3 := Aside0.mk hi137_3
                           have HC137_3 := Aside0.mk hl137_3
                           clear hi137_3 hl137_3
                           replace p137 := eq_true p137
                           replace q137 := eq_true q137
                           have p138 : 0 ≤ (x16_4 : Int) := of_decide_eq_true d10g
                           have q138 : x16_4 < (t101.length : Int) := of_decide_eq_true d10g
                           obtain ⟨ad138, e138, hx138_0, hx138_1, hx138_2, hx138_3, hx138_4⟩ := at_T61 (Kd.R_reads' HO_7.out).2.2 x16_4 p138 q138
                           obtain rfl : ad132 = ad138 := (by injection e138)
                           replace p138 := eq_true p138
                           replace q138 := eq_true q138
                           have p139 : 0 ≤ (x14_3 : Int) := of_decide_eq_true d10g
                           have q139 : x14_3 < (l1.length : Int) := of_decide_eq_true d10g
                           obtain ⟨ad139, e139, hx139_0⟩ := Kd.at_int HR1.out x14_3 p139 q139
                           obtain rfl : ad133 = ad139 := (by injection e139)
                           replace hx139_0 := cellB HB.out hx139_0
                           replace p139 := eq_true p139
                           replace q139 := eq_true q139
                           have p140 : 0 ≤ ((rd l1 x14_3) : Int) := of_decide_eq_true d10g
                           have q140 : (rd l1 x14_3) < (l0.length : Int) := of_decide_eq_true d10g
                           obtain ⟨ad140, A140_3, c140_3, e140, hx140_0, hx140_1, hx140_2, hx140_3, hl140_3, hi140_3⟩ := at_T33 HR0.out (rd l1 x14_3) p140 q140
                           obtain rfl : ad137 = ad140 := (by injection e140)
                           replace hx140_0 := cellB HB.out hx140_0
                           replace hx140_1 := cellB HB.out hx140_1
                           replace hx140_2 := cellB HB.out hx140_2
                           replace hx140_3 := cellB HB.out hx140_3
                           have HR140_3 := Aside0.mk hi140_3
                           have HC140_3 := Aside0.mk hl140_3
                           clear hi140_3 hl140_3
                           replace p140 := eq_true p140
                           replace q140 := eq_true q140
                           have ea_ := Option.some.inj (hx137_3.symm.trans hx140_3)
                           injection ea_ with ea_ en_ ec_
                           subst ea_
                           subst ec_
                           clear en_
                           have p141 : 0 ≤ (x16_4 : Int) := of_decide_eq_true d10g
                           have q141 : x16_4 < (t101.length : Int) := of_decide_eq_true d10g
                           obtain ⟨ad141, e141, hx141_0, hx141_1, hx141_2, hx141_3, hx141_4⟩ := at_T61 (Kd.R_reads' HO_7.out).2.2 x16_4 p141 q141
                           obtain rfl : ad132 = ad141 := (by injection e141)
                           replace p141 := eq_true p141
                           replace q141 := eq_true q141
                           have p142 : 0 ≤ (x16_4 : Int) := of_decide_eq_true d10g
                           have q142 : x16_4 < (t101.length : Int) := of_decide_eq_true d10g
                           obtain ⟨ad142, e142, hx142_0, hx142_1, hx142_2, hx142_3, hx142_4⟩ := at_T61 (Kd.R_reads' HO_7.out).2.2 x16_4 p142 q142
                           obtain rfl : ad132 = ad142 := (by injection e142)
                           replace p142 := eq_true p142
                           replace q142 := eq_true q142
                           go_wp2
                           repeat (go_quiet (fail); try go_wp2)
                           go_ret
                           exact ⟨d10e, d10a⟩
                         · rw [if_neg c76] at H
                           have c76b0 : decide (((rd_T61 t101 x16_4).f3) ≤ ((rd_T61 t101 x16_4).f2)) = false := decide_eq_false c76
                           clear c76
                           have H' := Aside0.mk H
                           clear H
                           obtain ⟨Ao78, co78, eo78⟩ := Kd.R_slice HO_7.out
                           subst eo78
                           have p132 : 0 ≤ (x16_4 : Int) := of_decide_eq_true d10g
                           have q132 : x16_4 < (t101.length : Int) := of_decide_eq_true d10g
                           obtain ⟨ad132, e132, hx132_0, hx132_1, hx132_2, hx132_3, hx132_4⟩ := at_T61 (Kd.R_reads' HO_7.out).2.2 x16_4 p132 q132
                           cases e132
                           replace p132 := eq_true p132
                           replace q132 := eq_true q132
                           have p133 : 0 ≤ (x14_3 : Int) := of_decide_eq_true d10g
                           have q133 : x14_3 < (l1.length : Int) := of_decide_eq_true d10g
                           obtain ⟨ad133, e133, hx133_0⟩ := Kd.at_int HR1.out x14_3 p133 q133
                           cases e133
                           replace hx133_0 := cellB HB.out hx133_0
                           replace p133 := eq_true p133
                           replace q133 := eq_true q133
                           have p134 : 0 ≤ (x16_4 : Int) := of_decide_eq_true d10g
                           have q134 : x16_4 < (t101.length : Int) := of_decide_eq_true d10g
                           obtain ⟨ad134, e134, hx134_0, hx134_1, hx134_2, hx134_3, hx134_4⟩ := at_T61 (Kd.R_reads' HO_7.out).2.2 x16_4 p134 q134
                           obtain rfl : ad132 = ad134 := (by injection e134)
                           replace p134 := eq_true p134
                           replace q134 := eq_true q134
                           have p135 : 0 ≤ (x16_4 : Int) := of_decide_eq_true d10g
                           have q135 : x16_4 < (t101.length : Int) := of_decide_eq_true d10g
                           obtain ⟨ad135, e135, hx135_0, hx135_1, hx135_2, hx135_3, hx135_4⟩ := at_T61 (Kd.R_reads' HO_7.out).2.2 x16_4 p135 q135
                           obtain rfl : ad132 = ad135 := (by injection e135)
                           replace p135 := eq_true p135
                           replace q135 := eq_true q135
                           have p136 : 0 ≤ (x14_3 : Int) := of_decide_eq_true d10g
                           have q136 : x14_3 < (l1.length : Int) := of_decide_eq_true d10g
                           obtain ⟨ad136, e136, hx136_0⟩ := Kd.at_int HR1.out x14_3 p136 q136
                           obtain rfl : ad133 = ad136 := (by injection e136)
                           replace hx136_0 := cellB HB.out hx136_0
                           replace p136 := eq_true p136
                           replace q136 := eq_true q136
                           have p137 : 0 ≤ ((rd l1 x14_3) : Int) := of_decide_eq_true d10g
                           have q137 : (rd l1 x14_3) < (l0.length : Int) := of_decide_eq_true d10g
                           obtain ⟨ad137, A137_3, c137_3, e137, hx137_0, hx137_1, hx137_2, hx137_3, hl137_3, hi137_3⟩ := at_T33 HR0.out (rd l1 x14_3) p137 q137
                           cases e137
                           replace hx137_0 := cellB HB.out hx137_0
                           replace hx137_1 := cellB HB.out hx137_1
                           replace hx137_2 := cellB HB.out hx137_2
                           replace hx137_3 := cellB HB.out hx137_3
                           have HR137_3 := Aside0.mk hi137_3
                           have HC137_3 := Aside0.mk hl137_3
                           clear hi137_3 hl137_3
                           replace p137 := eq_true p137
                           replace q137 := eq_true q137
                           have p138 : 0 ≤ (x16_4 : Int) := of_decide_eq_true d10g
                           have q138 : x16_4 < (t101.length : Int) := of_decide_eq_true d10g
                           obtain ⟨ad138, e138, hx138_0, hx138_1, hx138_2, hx138_3, hx138_4⟩ := at_T61 (Kd.R_reads' HO_7.out).2.2 x16_4 p138 q138
                           obtain rfl : ad132 = ad138 := (by injection e138)
                           replace p138 := eq_true p138
                           replace q138 := eq_true q138
                           have p139 : 0 ≤ (x14_3 : Int) := of_decide_eq_true d10g
                           have q139 : x14_3 < (l1.length : Int) := of_decide_eq_true d10g
                           obtain ⟨ad139, e139, hx139_0⟩ := Kd.at_int HR1.out x14_3 p139 q139
                           obtain rfl : ad133 = ad139 := (by injection e139)
                           replace hx139_0 := cellB HB.out hx139_0
                           replace p139 := eq_true p139
                           replace q139 := eq_true q139
                           have p140 : 0 ≤ ((rd l1 x14_3) : Int) := of_decide_eq_true d10g
                           have q140 : (rd l1 x14_3) < (l0.length : Int) := of_decide_eq_true d10g
                           obtain ⟨ad140, A140_3, c140_3, e140, hx140_0, hx140_1, hx140_2, hx140_3, hl140_3, hi140_3⟩ := at_T33 HR0.out (rd l1 x14_3) p140 q140
                           obtain rfl : ad137 = ad140 := (by injection e140)
                           replace hx140_0 := cellB HB.out hx140_0
                           replace hx140_1 := cellB HB.out hx140_1
                           replace hx140_2 := cellB HB.out hx140_2
                           replace hx140_3 := cellB HB.out hx140_3
                           have HR140_3 := Aside0.mk hi140_3
                           have HC140_3 := Aside0.mk hl140_3
                           clear hi140_3 hl140_3
                           replace p140 := eq_true p140
                           replace q140 := eq_true q140
                           have ea_ := Option.some.inj (hx137_3.symm.trans hx140_3)
                           injection ea_ with ea_ en_ ec_
                           subst ea_
                           subst ec_
                           clear en_
                           have p141 : 0 ≤ (x16_4 : Int) := of_decide_eq_true d10g
                           have q141 : x16_4 < (t101.length : Int) := of_decide_eq_true d10g
                           obtain ⟨ad141, e141, hx141_0, hx141_1, hx141_2, hx141_3, hx141_4⟩ := at_T61 (Kd.R_reads' HO_7.out).2.2 x16_4 p141 q141
                           obtain rfl : ad132 = ad141 := (by injection e141)
                           replace p141 := eq_true p141
                           replace q141 := eq_true q141
                           have p142 : 0 ≤ (x16_4 : Int) := of_decide_eq_true d10g
                           have q142 : x16_4 < (t101.length : Int) := of_decide_eq_true d10g
                           obtain ⟨ad142, e142, hx142_0, hx142_1, hx142_2, hx142_3, hx142_4⟩ := at_T61 (Kd.R_reads' HO_7.out).2.2 x16_4 p142 q142
                           obtain rfl : ad132 = ad142 := (by injection e142)
                           replace p142 := eq_true p142
                           replace q142 := eq_true q142
                           go_wp2
                           repeat (go_quiet (fail); try go_wp2)
                           go_roundg k4
                           case measure => have := HJ5.out; have := HK2.out; have := HK3.out; have := HK4.out; omega
                           case rel => exact ⟨(wrap64 (x15_4 + ((rd_T61 t101 x16_4).f4))), (wrap64 (x16_4 + 1)), d10h, d10h, H', ⟨by have := HJ5.out; have := HK2.out; have := HK3.out; have := HK4.out; omega⟩, ⟨d10c⟩, ⟨d10a⟩⟩
                   · rw [if_neg c69] at H
                     have c69b0 : (((rd_T61 t101 x16_4).f1) == (rd l1 x14_3)) = false := beq_eq_false_iff_ne.mpr c69
                     have c69b1 : (((rd_T61 t101 x16_4).f1) != (rd l1 x14_3)) = true := bne_iff_ne.mpr c69
                     have H' := Aside0.mk H
                     clear H
                     obtain ⟨Ao79, co79, eo79⟩ := Kd.R_slice HO_7.out
                     subst eo79
                     have p132 : 0 ≤ (x16_4 : Int) := of_decide_eq_true d10g
                     have q132 : x16_4 < (t101.length : Int) := of_decide_eq_true d10g
                     obtain ⟨ad132, e132, hx132_0, hx132_1, hx132_2, hx132_3, hx132_4⟩ := at_T61 (Kd.R_reads' HO_7.out).2.2 x16_4 p132 q132
                     cases e132
                     replace p132 := eq_true p132
                     replace q132 := eq_true q132
                     have p133 : 0 ≤ (x14_3 : Int) := of_decide_eq_true d10g
                     have q133 : x14_3 < (l1.length : Int) := of_decide_eq_true d10g
                     obtain ⟨ad133, e133, hx133_0⟩ := Kd.at_int HR1.out x14_3 p133 q133
                     cases e133
                     replace hx133_0 := cellB HB.out hx133_0
                     replace p133 := eq_true p133
                     replace q133 := eq_true q133
                     go_wp2
                     repeat (go_quiet (fail); try go_wp2)
                     go_roundg k4
                     case measure => have := HJ5.out; have := HK2.out; have := HK3.out; have := HK4.out; omega
                     case rel => exact ⟨(x15_4), (wrap64 (x16_4 + 1)), d10h, d10h, H', ⟨by have := HJ5.out; have := HK2.out; have := HK3.out; have := HK4.out; omega⟩, ⟨d10c⟩, ⟨d10a⟩⟩
                 · rw [if_neg c65] at H
                   have c65b0 : decide (x16_4 < (t101.length : Int)) = false := decide_eq_false c65
                   clear c65
                   replace H := guardT H; obtain ⟨c80, H⟩ := H
                   have c80b0 := eq_true c80
                   have c80b1 : decide (0 ≤ x14_3) = true := decide_eq_true c80
                   clear c80
                   replace H := guardT H; obtain ⟨c81, H⟩ := H
                   have c81b0 := eq_true c81
                   have c81b1 : decide (x14_3 ≤ (wrap64 (x14_3 + 1))) = true := decide_eq_true c81
                   replace H := guardT H; obtain ⟨c82, H⟩ := H
                   have c82b0 := eq_true c82
                   have c82b1 : decide ((wrap64 (x14_3 + 1)) ≤ (l1.length : Int)) = true := decide_eq_true c82
                   replace H := bindS H; obtain ⟨⟨t130, t131⟩, A83, H⟩ := H
                   by_cases c84 : t131 = 0
                   · rw [if_pos c84] at H
                     have c84b0 : (t131 == 0) = true := beq_iff_eq.mpr c84
                     have c84b1 : (t131 != 0) = false := bne_eq_false_iff_eq.mpr c84
                     clear c84
                     by_cases c85 : x15_4 > t130
                     · rw [if_pos c85] at H
                       have c85b0 : decide (t130 < x15_4) = true := decide_eq_true c85
                       clear c85
                       obtain rfl := Option.some.inj H
                       obtain ⟨Ao86, co86, eo86⟩ := Kd.R_slice HO_7.out
                       subst eo86
                       obtain ⟨i087, hi087, _, hsz87, _⟩ := info_parts info3
                       obtain ⟨A87, hcut87, hA87, hC87⟩ := print_mid_of (P := Try.prog) (Value.int .i64) 0 35 3 .i64 .i64 Try.underlying35 hi087 hsz87 A1 c1 l1 x14_3 (wrap64 (x14_3 + 1)) (of_decide_eq_true d10g) d10f (of_decide_eq_true d10g) HC1.out
                       obtain ⟨tk87, htk87⟩ : ∃ tk_ : List _, ((l1.take ((wrap64 (x14_3 + 1)) : Int).toNat).drop (x14_3 : Int).toNat) = tk_ := ⟨_, rfl⟩
                       rw [htk87] at hcut87 hA87 hC87
                       (try (have q_ := A83.out; rw [htk87] at q_; have A83 := Aside0.mk q_; clear q_))
                       have Htk87 := Aside0.mk htk87
                       clear htk87
                       have HR129 := Aside0.mk (Kd.C_of_reads (h1 := fun _ => rfl) (hA87 _ (Kd.reads_of_C HR1.out)))
                       have HC129 := Aside0.mk hC87
                       clear hA87 hC87 hi087 hsz87
                       go_wp2_with (go_at_call 24; (with_reducible refine (contact_Total.calls k4 _ _ l0 _ _ tk87 t130 t131 _ ?side1 ?side2 ?side3 ?side4 A83.out).mono ?_); (case side1 => exact d10i); (case side2 => exact HC0.out); (case side3 => exact C_go (Kd.C_below HR129.out HB.out)); (case side4 => exact HC129.out); rintro e w88 ⟨rfl, hb⟩; have n0_ := Aside0.mk (Kd.R_below d10c hb); have n1_ := Aside0.mk (below_step d10a hb); clear HO_7; clear HB; have HO_7 := n0_; have HB := n1_; clear n0_ n1_; (try clear hb))
                       go_ret
                       exact ⟨d10e, d10a⟩
                     · rw [if_neg c85] at H
                       have c85b0 : decide (t130 < x15_4) = false := decide_eq_false c85
                       clear c85
                       have H' := Aside0.mk H
                       clear H
                       obtain ⟨Ao89, co89, eo89⟩ := Kd.R_slice HO_7.out
                       subst eo89
                       obtain ⟨i090, hi090, _, hsz90, _⟩ := info_parts info3
                       obtain ⟨A90, hcut90, hA90, hC90⟩ := print_mid_of (P := Try.prog) (Value.int .i64) 0 35 3 .i64 .i64 Try.underlying35 hi090 hsz90 A1 c1 l1 x14_3 (wrap64 (x14_3 + 1)) (of_decide_eq_true d10g) d10f (of_decide_eq_true d10g) HC1.out
                       obtain ⟨tk90, htk90⟩ : ∃ tk_ : List _, ((l1.take ((wrap64 (x14_3 + 1)) : Int).toNat).drop (x14_3 : Int).toNat) = tk_ := ⟨_, rfl⟩
                       rw [htk90] at hcut90 hA90 hC90
                       (try (have q_ := A83.out; rw [htk90] at q_; have A83 := Aside0.mk q_; clear q_))
                       have Htk90 := Aside0.mk htk90
                       clear htk90
                       have HR129 := Aside0.mk (Kd.C_of_reads (h1 := fun _ => rfl) (hA90 _ (Kd.reads_of_C HR1.out)))
                       have HC129 := Aside0.mk hC90
                       clear hA90 hC90 hi090 hsz90
                       go_wp2_with (go_at_call 24; (with_reducible refine (contact_Total.calls k4 _ _ l0 _ _ tk90 t130 t131 _ ?side1 ?side2 ?side3 ?side4 A83.out).mono ?_); (case side1 => exact d10i); (case side2 => exact HC0.out); (case side3 => exact C_go (Kd.C_below HR129.out HB.out)); (case side4 => exact HC129.out); rintro e w91 ⟨rfl, hb⟩; have n0_ := Aside0.mk (Kd.R_below d10c hb); have n1_ := Aside0.mk (below_step d10a hb); clear HO_7; clear HB; have HO_7 := n0_; have HB := n1_; clear n0_ n1_; (try clear hb))
                       go_roundg k4
                       case measure => have := HJ5.out; have := HK2.out; have := HK3.out; have := HK4.out; omega
                       case rel => exact ⟨(wrap64 (x14_3 + 1)), d10h, H', ⟨by have := HJ5.out; have := HK2.out; have := HK3.out; have := HK4.out; omega⟩, ⟨d10c⟩, ⟨d10a⟩⟩
                   · rw [if_neg c84] at H
                     have c84b0 : (t131 == 0) = false := beq_eq_false_iff_ne.mpr c84
                     have c84b1 : (t131 != 0) = true := bne_iff_ne.mpr c84
                     obtain rfl := Option.some.inj H
                     obtain ⟨Ao92, co92, eo92⟩ := Kd.R_slice HO_7.out
                     subst eo92
                     obtain ⟨i093, hi093, _, hsz93, _⟩ := info_parts info3
                     obtain ⟨A93, hcut93, hA93, hC93⟩ := print_mid_of (P := Try.prog) (Value.int .i64) 0 35 3 .i64 .i64 Try.underlying35 hi093 hsz93 A1 c1 l1 x14_3 (wrap64 (x14_3 + 1)) (of_decide_eq_true d10g) d10f (of_decide_eq_true d10g) HC1.out
                     obtain ⟨tk93, htk93⟩ : ∃ tk_ : List _, ((l1.take ((wrap64 (x14_3 + 1)) : Int).toNat).drop (x14_3 : Int).toNat) = tk_ := ⟨_, rfl⟩
                     rw [htk93] at hcut93 hA93 hC93
                     (try (have q_ := A83.out; rw [htk93] at q_; have A83 := Aside0.mk q_; clear q_))
                     have Htk93 := Aside0.mk htk93
                     clear htk93
                     have HR129 := Aside0.mk (Kd.C_of_reads (h1 := fun _ => rfl) (hA93 _ (Kd.reads_of_C HR1.out)))
                     have HC129 := Aside0.mk hC93
                     clear hA93 hC93 hi093 hsz93
                     go_wp2_with (go_at_call 24; (with_reducible refine (contact_Total.calls k4 _ _ l0 _ _ tk93 t130 t131 _ ?side1 ?side2 ?side3 ?side4 A83.out).mono ?_); (case side1 => exact d10i); (case side2 => exact HC0.out); (case side3 => exact C_go (Kd.C_below HR129.out HB.out)); (case side4 => exact HC129.out); rintro e w94 ⟨rfl, hb⟩; have n0_ := Aside0.mk (Kd.R_below d10c hb); have n1_ := Aside0.mk (below_step d10a hb); clear HO_7; clear HB; have HO_7 := n0_; have HB := n1_; clear n0_ n1_; (try clear hb))
                     go_ret
                     exact ⟨d10e, d10a⟩
             · rw [if_neg c64] at H
               have c64b0 : decide (x14_3 < (l1.length : Int)) = false := decide_eq_false c64
               clear c64
               replace H := bindS H; obtain ⟨t128, A95, H⟩ := H
               obtain rfl := Option.some.inj H
               go_wp2_with (go_at_call 14; (with_reducible refine (perigeelaw10_awake.calls k3  t128 _ A95.out).mono ?_); rintro e w96 ⟨rfl, hb⟩; have n0_ := Aside0.mk (Kd.R_below d10c hb); have n1_ := Aside0.mk (below_step d10a hb); clear HO_7; clear HB; have HO_7 := n0_; have HB := n1_; clear n0_ n1_; (try clear hb))
               go_ret
               exact ⟨d10e, d10a⟩
     · rw [if_neg c33] at H
       have c33b0 : ((t105.length : Int) == (l2.length : Int)) = false := beq_eq_false_iff_ne.mpr c33
       have c33b1 : ((t105.length : Int) != (l2.length : Int)) = true := bne_iff_ne.mpr c33
       have c33b2 : (t105.length == l2.length) = false := by first | simpa using c33 | (simp at c33 ⊢; omega)
       obtain rfl := Option.some.inj H
       obtain ⟨Ao97, co97, eo97⟩ := Kd.R_slice HO_9.out
       subst eo97
       go_wp2
       go_ret
       exact ⟨d10e, d10a⟩
end Go.Proofs.Ytbngmblgkkdhpaa.Q
