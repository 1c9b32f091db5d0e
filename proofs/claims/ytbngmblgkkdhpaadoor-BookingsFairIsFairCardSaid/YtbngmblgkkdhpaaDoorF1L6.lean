-- Made by wip/tools/claimp.py of this session's texts; Lean checks it.
import Derived.Test.YtbngmblgkkdhpaaDoorF1Q0
import Derived.Test.YtbngmblgkkdhpaaDoorF1Gd10
import Derived.Test.YtbngmblgkkdhpaaDoorF1Gd12
import Derived.Test.YtbngmblgkkdhpaaDoorF1Gd13
import Derived.Test.YtbngmblgkkdhpaaDoorF1Gd5
namespace Go.Proofs.YtbngmblgkkdhpaaDoor.Q
open Go.RowKit Go.Proofs.YtbngmblgkkdhpaaDoorW.PrintWords Go.Proofs.YtbngmblgkkdhpaaDoorW.PrintLast Go.Proofs.YtbngmblgkkdhpaaDoorW.PrintMore
attribute [local go_sem] max2_int min2_int max_two min_two max_three min_three max_four min_four
open Go.Proofs.YtbngmblgkkdhpaaDoor.Base
attribute [local go_sem high] str_leq str_gtr str_geq
set_option linter.unusedVariables false
set_option linter.unusedSimpArgs false
mutual
def perigeelaw10_BookingsFairIsFair.j0 : Nat → List (S55) → Int → List Int → List Int → Int → Bool → Int → Bool → Option (Bool)
  | 0, _, _, _, _, _, _, _, _ => none
  | k + 1, x0, x1, x2, x7, x8, x9, x10, x28 => if x28 = true then (if (x7.length : Int) = 0 then (if x8 = 0 then (if x9 = true then (some false) else (if x10 = 0 then (if (x0.length : Int) > 12 then ((perigeelaw10_awake.f k).bind fun t107 => (some t107)) else (some false)) else ((perigeelaw10_awake.f k).bind fun t108 => (some t108)))) else (some false)) else (some false)) else ((contact_CheckBooking.f k x0 x1 x7).bind fun t109 => (if t109 = 0 then ((perigeelaw10_worst.f k x0 x7).bind fun t110 => (perigeelaw10_BookingsFairIsFair.j1 k x0 x1 x2 x7 x8 (t110 != x8))) else (perigeelaw10_BookingsFairIsFair.j1 k x0 x1 x2 x7 x8 true)))
def perigeelaw10_BookingsFairIsFair.j1 : Nat → List (S55) → Int → List Int → List Int → Int → Bool → Option (Bool)
  | 0, _, _, _, _, _, _ => none
  | k + 1, x0, x1, x2, x7, x8, x63 => if x63 = true then (some false) else ((contact_Best.f k x0 x1).bind fun bt111 => ((contact_Total.f k x0 x7).bind fun bt116 => (if bt111.2.2 = 0 then (if bt116.2 = 0 then (perigeelaw10_BookingsFairIsFair.j2 k x0 x1 x2 x8 (decide (bt116.1 > bt111.2.1))) else (perigeelaw10_BookingsFairIsFair.j2 k x0 x1 x2 x8 true)) else (perigeelaw10_BookingsFairIsFair.j2 k x0 x1 x2 x8 true))))
def perigeelaw10_BookingsFairIsFair.j2 : Nat → List (S55) → Int → List Int → Int → Bool → Option (Bool)
  | 0, _, _, _, _, _ => none
  | k + 1, x0, x1, x2, x8, x87 => if x87 = true then (some false) else ((contact_CheckBooking.f k x0 x1 x2).bind fun t118 => (if t118 = 0 then ((perigeelaw10_worst.f k x0 x2).bind fun t119 => (if t119 ≤ x8 then ((perigeelaw10_awake.f k).bind fun t120 => (some t120)) else (some false))) else ((perigeelaw10_awake.f k).bind fun t121 => (some t121))))
end
def perigeelaw10_BookingsFairIsFair.f (k : Nat) (l0 : List (S55)) (a1 : Int) (l2 : List Int) : Option (Bool) := (contact_Fair.f k l0 a1).bind fun bt101 => (if bt101.2.2.2 = 0 then (perigeelaw10_BookingsFairIsFair.j0 k l0 a1 l2 bt101.1 bt101.2.1 bt101.2.2.1 bt101.2.2.2 (!bt101.2.2.1)) else (perigeelaw10_BookingsFairIsFair.j0 k l0 a1 l2 bt101.1 bt101.2.1 bt101.2.2.1 bt101.2.2.2 true))
theorem d6a {p : Prop} (h : p := by (try simp only [List.map_toArray, List.map_cons, List.map_nil]); first | done | rfl | (simp only [List.length_drop, List.length_take]; rfl)) : p := h
theorem d6b {p : Prop} (h : p := by repeat (first | (with_reducible first | exact HB.out | apply below_alloc | apply pw_below_drewN | apply below_drew1) | exact HB.out)) : p := h
theorem d6c {p : Prop} (h : p := by (with_reducible repeat (first | apply Kd.R_alloc | apply Kd.R_drewN | apply Kd.R_drew)); exact HO_7.out) : p := h
theorem d6d {p : Prop} (h : p := by first | rfl | (simp [errW_none, errW_some] <;> rfl) | (simp [*, errW_none, errW_some] <;> rfl)) : p := h
theorem d6e {p : Prop} (h : p := by first | rfl | (simp; done) | (simp [*]; done)) : p := h
theorem d6f {p : Prop} (h : p := by exact C_go (Kd.C_below HR0.out HB.out)) : p := h
theorem d6g {p : Prop} (h : p := by exact C_go (Kd.C_below HR2.out HB.out)) : p := h
theorem d6h {p : Prop} (h : p := by exact C_go (Kd.R_reads' HO_7.out).2.2) : p := h
set_option maxHeartbeats 8000000 in
set_option maxRecDepth 100000 in
theorem perigeelaw10_BookingsFairIsFair.calls (k : Nat) (A0 : Option Addr) (c0 : Nat) (l0 : List (S55)) (a1 : Int) (A2 : Option Addr) (c2 : Nat) (l2 : List Int) (r : Bool) (w : World) (hr0 : Kd.C k55 w A0 l0.length l0) (hc0 : l0.length ≤ c0) (hr2 : Kd.C (Kd.int .i64) w A2 l2.length l2) (hc2 : l2.length ≤ c2) (hV : VarsOK w) (h : perigeelaw10_BookingsFairIsFair.f k l0 a1 l2 = some r) :
 Calls Tryd.prog 6 #[.slice A0 l0.length c0, .int .i64 a1, .slice A2 l2.length c2] w fun e w' => e = .returned (.bool r) ∧ Below w.heap.size w w' := by
 have HV := Aside0.mk hV
 clear hV
 have HR0 := Aside0.mk hr0
 have HC0 := Aside0.mk hc0
 clear hr0 hc0
 have HR2 := Aside0.mk hr2
 have HC2 := Aside0.mk hc2
 clear hr2 hc2
 have HB := Aside0.mk (Below.refl w.heap.size w)
 have H : ((contact_Fair.f k l0 a1).bind fun bt101 => (if bt101.2.2.2 = 0 then (perigeelaw10_BookingsFairIsFair.j0 k l0 a1 l2 bt101.1 bt101.2.1 bt101.2.2.1 bt101.2.2.2 (!bt101.2.2.1)) else (perigeelaw10_BookingsFairIsFair.j0 k l0 a1 l2 bt101.1 bt101.2.1 bt101.2.2.1 bt101.2.2.2 true))) = some r := h
 clear h
 replace H := bindS H; obtain ⟨⟨t101, t102, t103, t104⟩, A4, H⟩ := H
 have HC5 := Aside0.mk H
 clear H
 go_enter Tryd.func6, Tryd.ntmps6
 go_upto_region 2 with ((with_reducible refine gate_callee (f := 16) rfl ?_); refine goesL_ (some 18) rfl rfl Tryd.func16 (by kernel_rfl) rfl #[.slice A0 l0.length c0, .int .i64 a1] rfl d6a ?_; (with_reducible refine (contact_Fair.calls k _ _ l0 a1 t101 t102 t103 t104 _ ?side1 ?side2 A4.out).mono ?_); (case side1 => exact C_go HR0.out); (case side2 => exact HC0.out); rintro e w6 ⟨v105, rfl, ho0, hb⟩; refine ⟨_, rfl, ?_⟩; have n0_ := Aside0.mk (Kd.R_lower ho0 (below_size d6b)); have n1_ := Aside0.mk (below_step d6b hb); clear HB; have HO106 := n0_; have HB := n1_; clear n0_ n1_; (try clear hb); (try clear ho0))
 (try simp only [Act.put, List.setIfInBounds_toArray, List.set_cons_zero, List.set_cons_succ])
 go_cut [28] (fun v28 wc => ∃ (kq : Nat) (x28_4 : Bool), v28 = .bool x28_4 ∧ Aside0 (perigeelaw10_BookingsFairIsFair.j0 kq l0 a1 l2 t101 t102 t103 t104 x28_4 = some r) ∧ Aside0 (kq ≤ k) ∧ Aside0 (Kd.R (Kd.int .i64) 3 wc w.heap.size (fun _ => True) v105 t101) ∧ Aside0 (Below w.heap.size w wc))
 case first =>
  have H := HC5.out
  clear HC5
  by_cases c7 : t104 = 0
  · rw [if_pos c7] at H
    have c7b0 : (t104 == 0) = true := beq_iff_eq.mpr c7
    have c7b1 : (t104 != 0) = false := bne_eq_false_iff_eq.mpr c7
    clear c7
    (first | rw [c7b0] | (simp only [i64_w, i32_w]; rw [c7b0]) | skip)
    have H' := Aside0.mk H
    clear H
    go_wp2
    go_meet
    case rel => exact ⟨_, (!t103), d6e, H', ⟨by first | omega | exact Nat.le_refl _⟩, ⟨by (with_reducible repeat (first | apply Kd.R_alloc | apply Kd.R_drewN | apply Kd.R_drew)); exact HO106.out⟩, ⟨d6b⟩⟩
  · rw [if_neg c7] at H
    have c7b0 : (t104 == 0) = false := beq_eq_false_iff_ne.mpr c7
    have c7b1 : (t104 != 0) = true := bne_iff_ne.mpr c7
    (first | rw [c7b0] | (simp only [i64_w, i32_w]; rw [c7b0]) | skip)
    have H' := Aside0.mk H
    clear H
    go_wp2
    go_meet
    case rel => exact ⟨_, (true), d6e, H', ⟨by first | omega | exact Nat.le_refl _⟩, ⟨by (with_reducible repeat (first | apply Kd.R_alloc | apply Kd.R_drewN | apply Kd.R_drew)); exact HO106.out⟩, ⟨d6b⟩⟩
 case rest =>
  clear HC5
  obtain ⟨kq, x28_4, rfl, HA, HJ4, HO_7, HB⟩ := hcut
  cases kq with
  | zero => exact absurd HA.out (by simp [perigeelaw10_BookingsFairIsFair.j0])
  | succ kj4 =>
   have H := HA.out
   clear HA
   simp only [perigeelaw10_BookingsFairIsFair.j0] at H
   by_cases c8 : x28_4 = true
   · subst c8
     replace H := iteT H
     by_cases c9 : (t101.length : Int) = 0
     · rw [if_pos c9] at H
       have c9b0 : ((t101.length : Int) == 0) = true := beq_iff_eq.mpr c9
       have c9b1 : ((t101.length : Int) != 0) = false := bne_eq_false_iff_eq.mpr c9
       clear c9
       by_cases c10 : t102 = 0
       · rw [if_pos c10] at H
         have c10b0 : (t102 == 0) = true := beq_iff_eq.mpr c10
         have c10b1 : (t102 != 0) = false := bne_eq_false_iff_eq.mpr c10
         clear c10
         by_cases c11 : t103 = true
         · subst c11
           replace H := iteT H
           obtain rfl := Option.some.inj H
           obtain ⟨Ao12, co12, eo12⟩ := Kd.R_slice HO_7.out
           subst eo12
           go_wp2
           go_ret
           exact ⟨d6d, d6b⟩
         · replace c11 := Bool.eq_false_iff.mpr c11
           subst c11
           replace H := iteF H
           by_cases c13 : t104 = 0
           · rw [if_pos c13] at H
             have c13b0 : (t104 == 0) = true := beq_iff_eq.mpr c13
             have c13b1 : (t104 != 0) = false := bne_eq_false_iff_eq.mpr c13
             clear c13
             by_cases c14 : (l0.length : Int) > 12
             · rw [if_pos c14] at H
               have c14b0 : decide (12 < (l0.length : Int)) = true := decide_eq_true c14
               have c14b1 : decide (12 < l0.length) = true := decide_eq_true (by omega)
               clear c14
               replace H := bindS H; obtain ⟨t107, A15, H⟩ := H
               obtain rfl := Option.some.inj H
               obtain ⟨Ao16, co16, eo16⟩ := Kd.R_slice HO_7.out
               subst eo16
               go_wp2_with (go_at_call 10; (with_reducible refine (perigeelaw10_awake.calls kj4  t107 _ A15.out).mono ?_); rintro e w17 ⟨rfl, hb⟩; have n0_ := Aside0.mk (Kd.R_below d6c hb); have n1_ := Aside0.mk (below_step d6b hb); clear HO_7; clear HB; have HO_7 := n0_; have HB := n1_; clear n0_ n1_; (try clear hb))
               go_ret
               exact ⟨d6d, d6b⟩
             · rw [if_neg c14] at H
               have c14b0 : decide (12 < (l0.length : Int)) = false := decide_eq_false c14
               have c14b1 : decide (12 < l0.length) = false := decide_eq_false (by omega)
               clear c14
               obtain rfl := Option.some.inj H
               obtain ⟨Ao18, co18, eo18⟩ := Kd.R_slice HO_7.out
               subst eo18
               go_wp2
               go_ret
               exact ⟨d6d, d6b⟩
           · rw [if_neg c13] at H
             have c13b0 : (t104 == 0) = false := beq_eq_false_iff_ne.mpr c13
             have c13b1 : (t104 != 0) = true := bne_iff_ne.mpr c13
             replace H := bindS H; obtain ⟨t108, A19, H⟩ := H
             obtain rfl := Option.some.inj H
             obtain ⟨Ao20, co20, eo20⟩ := Kd.R_slice HO_7.out
             subst eo20
             go_wp2_with (go_at_call 10; (with_reducible refine (perigeelaw10_awake.calls kj4  t108 _ A19.out).mono ?_); rintro e w21 ⟨rfl, hb⟩; have n0_ := Aside0.mk (Kd.R_below d6c hb); have n1_ := Aside0.mk (below_step d6b hb); clear HO_7; clear HB; have HO_7 := n0_; have HB := n1_; clear n0_ n1_; (try clear hb))
             go_ret
             exact ⟨d6d, d6b⟩
       · rw [if_neg c10] at H
         have c10b0 : (t102 == 0) = false := beq_eq_false_iff_ne.mpr c10
         have c10b1 : (t102 != 0) = true := bne_iff_ne.mpr c10
         obtain rfl := Option.some.inj H
         obtain ⟨Ao22, co22, eo22⟩ := Kd.R_slice HO_7.out
         subst eo22
         go_wp2
         go_ret
         exact ⟨d6d, d6b⟩
     · rw [if_neg c9] at H
       have c9b0 : ((t101.length : Int) == 0) = false := beq_eq_false_iff_ne.mpr c9
       have c9b1 : ((t101.length : Int) != 0) = true := bne_iff_ne.mpr c9
       have c9b2 : ¬ (t101 = []) := fun h_ => c9 (by rw [h_]; rfl)
       obtain rfl := Option.some.inj H
       obtain ⟨Ao23, co23, eo23⟩ := Kd.R_slice HO_7.out
       subst eo23
       go_wp2
       go_ret
       exact ⟨d6d, d6b⟩
   · replace c8 := Bool.eq_false_iff.mpr c8
     subst c8
     replace H := iteF H
     have HC24 := Aside0.mk H
     clear H
     go_upto_region 4 with (fail)
     go_cut [63] (fun v63 wc => ∃ (kq : Nat) (x63_23 : Bool), v63 = .bool x63_23 ∧ Aside0 (perigeelaw10_BookingsFairIsFair.j1 kq l0 a1 l2 t101 t102 x63_23 = some r) ∧ Aside0 (kq ≤ kj4) ∧ Aside0 (Kd.R (Kd.int .i64) 3 wc w.heap.size (fun _ => True) v105 t101) ∧ Aside0 (Below w.heap.size w wc))
     case first =>
      have H := HC24.out
      clear HC24
      replace H := bindS H; obtain ⟨t109, A25, H⟩ := H
      by_cases c26 : t109 = 0
      · rw [if_pos c26] at H
        have c26b0 : (t109 == 0) = true := beq_iff_eq.mpr c26
        have c26b1 : (t109 != 0) = false := bne_eq_false_iff_eq.mpr c26
        clear c26
        (first | rw [c26b0] | (simp only [i64_w, i32_w]; rw [c26b0]) | skip)
        replace H := bindS H; obtain ⟨t110, A27, H⟩ := H
        have H' := Aside0.mk H
        clear H
        obtain ⟨Ao28, co28, eo28⟩ := Kd.R_slice HO_7.out
        subst eo28
        go_wp2_with (first | ((with_reducible refine gate_callee (f := 21) rfl ?_); refine goesL_ (some 55) rfl rfl Tryd.func21 (by kernel_rfl) rfl #[.slice A0 l0.length c0, .int .i64 a1, .slice Ao28 t101.length co28] rfl d6a ?_; (with_reducible refine (contact_CheckBooking.calls kj4 _ _ l0 a1 _ _ t101 t109 _ ?side1 ?side2 ?side3 ?side4 A25.out).mono ?_); (case side1 => exact d6f); (case side2 => exact HC0.out); (case side3 => exact d6h); (case side4 => exact (Kd.R_reads' HO_7.out).2.1); rintro e w29 ⟨rfl, hb⟩; refine ⟨_, rfl, ?_⟩; have n0_ := Aside0.mk (Kd.R_below d6c hb); have n1_ := Aside0.mk (below_step d6b hb); clear HO_7; clear HB; have HO_7 := n0_; have HB := n1_; clear n0_ n1_; (try clear hb)) | (go_at_call 22; (with_reducible refine (perigeelaw10_worst.calls kj4 _ _ l0 _ _ t101 t110 _ ?side1 ?side2 ?side3 ?side4 (HV.out.below d6b) A27.out).mono ?_); (case side1 => exact d6f); (case side2 => exact HC0.out); (case side3 => exact d6h); (case side4 => exact (Kd.R_reads' HO_7.out).2.1); rintro e w30 ⟨rfl, hb⟩; have n0_ := Aside0.mk (Kd.R_below d6c hb); have n1_ := Aside0.mk (below_step d6b hb); clear HO_7; clear HB; have HO_7 := n0_; have HB := n1_; clear n0_ n1_; (try clear hb)))
        go_meet
        case rel => exact ⟨_, ((t110 != t102)), d6e, H', ⟨by have := HJ4.out; first | omega | exact Nat.le_refl _⟩, ⟨d6c⟩, ⟨d6b⟩⟩
      · rw [if_neg c26] at H
        have c26b0 : (t109 == 0) = false := beq_eq_false_iff_ne.mpr c26
        have c26b1 : (t109 != 0) = true := bne_iff_ne.mpr c26
        (first | rw [c26b0] | (simp only [i64_w, i32_w]; rw [c26b0]) | skip)
        have H' := Aside0.mk H
        clear H
        obtain ⟨Ao31, co31, eo31⟩ := Kd.R_slice HO_7.out
        subst eo31
        go_wp2_with ((with_reducible refine gate_callee (f := 21) rfl ?_); refine goesL_ (some 55) rfl rfl Tryd.func21 (by kernel_rfl) rfl #[.slice A0 l0.length c0, .int .i64 a1, .slice Ao31 t101.length co31] rfl d6a ?_; (with_reducible refine (contact_CheckBooking.calls kj4 _ _ l0 a1 _ _ t101 t109 _ ?side1 ?side2 ?side3 ?side4 A25.out).mono ?_); (case side1 => exact d6f); (case side2 => exact HC0.out); (case side3 => exact d6h); (case side4 => exact (Kd.R_reads' HO_7.out).2.1); rintro e w32 ⟨rfl, hb⟩; refine ⟨_, rfl, ?_⟩; have n0_ := Aside0.mk (Kd.R_below d6c hb); have n1_ := Aside0.mk (below_step d6b hb); clear HO_7; clear HB; have HO_7 := n0_; have HB := n1_; clear n0_ n1_; (try clear hb))
        go_meet
        case rel => exact ⟨_, (true), d6e, H', ⟨by have := HJ4.out; first | omega | exact Nat.le_refl _⟩, ⟨d6c⟩, ⟨d6b⟩⟩
     case rest =>
      clear HC24
      obtain ⟨kq, x63_23, rfl, HA, HJ23, HO_7, HB⟩ := hcut
      cases kq with
      | zero => exact absurd HA.out (by simp [perigeelaw10_BookingsFairIsFair.j1])
      | succ kj23 =>
       have H := HA.out
       clear HA
       simp only [perigeelaw10_BookingsFairIsFair.j1] at H
       by_cases c33 : x63_23 = true
       · subst c33
         replace H := iteT H
         obtain rfl := Option.some.inj H
         go_wp2
         go_ret
         exact ⟨d6d, d6b⟩
       · replace c33 := Bool.eq_false_iff.mpr c33
         subst c33
         replace H := iteF H
         replace H := bindS H; obtain ⟨⟨t111, t112, t113⟩, A34, H⟩ := H
         replace H := bindS H; obtain ⟨⟨t116, t117⟩, A35, H⟩ := H
         have HC36 := Aside0.mk H
         clear H
         go_upto_region 8 with (first | ((with_reducible refine gate_callee (f := 13) rfl ?_); refine goesL_ (some 67) rfl rfl Tryd.func13 (by kernel_rfl) rfl #[.slice A0 l0.length c0, .int .i64 a1] rfl d6a ?_; (with_reducible refine (contact_Best.calls kj23 _ _ l0 a1 t111 t112 t113 _ ?side1 ?side2 A34.out).mono ?_); (case side1 => exact d6f); (case side2 => exact HC0.out); rintro e w37 ⟨v114, rfl, ho0, hb⟩; refine ⟨_, rfl, ?_⟩; have n0_ := Aside0.mk (Kd.R_elder' d6c (Kd.R_base ho0) hb); have n1_ := Aside0.mk (Kd.R_lower (Kd.R_new' ho0 (Kd.R_lt d6c)) (below_size d6b)); have n2_ := Aside0.mk (below_step d6b hb); clear HO_7; clear HB; have HO_7 := n0_; have HO115 := n1_; have HB := n2_; clear n0_ n1_ n2_; (try clear hb); (try clear ho0); obtain ⟨Ao38, co38, eo38⟩ := Kd.R_slice HO_7.out; subst eo38) | ((with_reducible refine gate_callee (f := 23) rfl ?_); refine goesL_ (some 74) rfl rfl Tryd.func23 (by kernel_rfl) rfl #[.slice A0 l0.length c0, .slice Ao38 t101.length co38] rfl d6a ?_; (with_reducible refine (contact_Total.calls kj23 _ _ l0 _ _ t101 t116 t117 _ ?side1 ?side2 ?side3 ?side4 A35.out).mono ?_); (case side1 => exact d6f); (case side2 => exact HC0.out); (case side3 => exact d6h); (case side4 => exact (Kd.R_reads' HO_7.out).2.1); rintro e w39 ⟨rfl, hb⟩; refine ⟨_, rfl, ?_⟩; have n0_ := Aside0.mk (Kd.R_below d6c hb); have n1_ := Aside0.mk (Kd.R_below (by (with_reducible repeat (first | apply Kd.R_alloc | apply Kd.R_drewN | apply Kd.R_drew)); exact HO115.out) hb); have n2_ := Aside0.mk (below_step d6b hb); clear HO_7; clear HO115; clear HB; have HO_7 := n0_; have HO115 := n1_; have HB := n2_; clear n0_ n1_ n2_; (try clear hb)))
         (try simp only [Act.put, List.setIfInBounds_toArray, List.set_cons_zero, List.set_cons_succ])
         go_cut [87] (fun v87 wc => ∃ (kq : Nat) (x87_35 : Bool), v87 = .bool x87_35 ∧ Aside0 (perigeelaw10_BookingsFairIsFair.j2 kq l0 a1 l2 t102 x87_35 = some r) ∧ Aside0 (kq ≤ kj23) ∧ Aside0 (Below w.heap.size w wc))
         case first =>
          have H := HC36.out
          clear HC36
          by_cases c40 : t113 = 0
          · rw [if_pos c40] at H
            have c40b0 : (t113 == 0) = true := beq_iff_eq.mpr c40
            have c40b1 : (t113 != 0) = false := bne_eq_false_iff_eq.mpr c40
            clear c40
            (first | rw [c40b0] | (simp only [i64_w, i32_w]; rw [c40b0]) | skip)
            by_cases c41 : t117 = 0
            · rw [if_pos c41] at H
              have c41b0 : (t117 == 0) = true := beq_iff_eq.mpr c41
              have c41b1 : (t117 != 0) = false := bne_eq_false_iff_eq.mpr c41
              clear c41
              have H' := Aside0.mk H
              clear H
              go_wp2
              go_meet
              case rel => exact ⟨_, (decide (t116 > t112)), d6e, H', ⟨by have := HJ4.out; have := HJ23.out; first | omega | exact Nat.le_refl _⟩, ⟨d6b⟩⟩
            · rw [if_neg c41] at H
              have c41b0 : (t117 == 0) = false := beq_eq_false_iff_ne.mpr c41
              have c41b1 : (t117 != 0) = true := bne_iff_ne.mpr c41
              have H' := Aside0.mk H
              clear H
              go_wp2
              go_meet
              case rel => exact ⟨_, (true), d6e, H', ⟨by have := HJ4.out; have := HJ23.out; first | omega | exact Nat.le_refl _⟩, ⟨d6b⟩⟩
          · rw [if_neg c40] at H
            have c40b0 : (t113 == 0) = false := beq_eq_false_iff_ne.mpr c40
            have c40b1 : (t113 != 0) = true := bne_iff_ne.mpr c40
            (first | rw [c40b0] | (simp only [i64_w, i32_w]; rw [c40b0]) | skip)
            have H' := Aside0.mk H
            clear H
            go_wp2
            go_meet
            case rel => exact ⟨_, (true), d6e, H', ⟨by have := HJ4.out; have := HJ23.out; first | omega | exact Nat.le_refl _⟩, ⟨d6b⟩⟩
         case rest =>
          clear HC36
          obtain ⟨kq, x87_35, rfl, HA, HJ35, HB⟩ := hcut
          cases kq with
          | zero => exact absurd HA.out (by simp [perigeelaw10_BookingsFairIsFair.j2])
          | succ kj35 =>
           have H := HA.out
           clear HA
           simp only [perigeelaw10_BookingsFairIsFair.j2] at H
           by_cases c42 : x87_35 = true
           · subst c42
             replace H := iteT H
             obtain rfl := Option.some.inj H
             go_wp2
             go_ret
             exact ⟨d6d, d6b⟩
           · replace c42 := Bool.eq_false_iff.mpr c42
             subst c42
             replace H := iteF H
             replace H := bindS H; obtain ⟨t118, A43, H⟩ := H
             by_cases c44 : t118 = 0
             · rw [if_pos c44] at H
               have c44b0 : (t118 == 0) = true := beq_iff_eq.mpr c44
               have c44b1 : (t118 != 0) = false := bne_eq_false_iff_eq.mpr c44
               clear c44
               replace H := bindS H; obtain ⟨t119, A45, H⟩ := H
               by_cases c46 : t119 ≤ t102
               · rw [if_pos c46] at H
                 have c46b0 : decide (t119 ≤ t102) = true := decide_eq_true c46
                 clear c46
                 replace H := bindS H; obtain ⟨t120, A47, H⟩ := H
                 obtain rfl := Option.some.inj H
                 go_wp2_with (first | ((with_reducible refine gate_callee (f := 21) rfl ?_); refine goesL_ (some 91) rfl rfl Tryd.func21 (by kernel_rfl) rfl #[.slice A0 l0.length c0, .int .i64 a1, .slice A2 l2.length c2] rfl d6a ?_; (with_reducible refine (contact_CheckBooking.calls kj35 _ _ l0 a1 _ _ l2 t118 _ ?side1 ?side2 ?side3 ?side4 A43.out).mono ?_); (case side1 => exact d6f); (case side2 => exact HC0.out); (case side3 => exact d6g); (case side4 => exact HC2.out); rintro e w48 ⟨rfl, hb⟩; refine ⟨_, rfl, ?_⟩; replace HB := Aside0.mk (below_step d6b hb); (try clear hb)) | (go_at_call 22; (with_reducible refine (perigeelaw10_worst.calls kj35 _ _ l0 _ _ l2 t119 _ ?side1 ?side2 ?side3 ?side4 (HV.out.below d6b) A45.out).mono ?_); (case side1 => exact d6f); (case side2 => exact HC0.out); (case side3 => exact d6g); (case side4 => exact HC2.out); rintro e w49 ⟨rfl, hb⟩; replace HB := Aside0.mk (below_step d6b hb); (try clear hb)) | (go_at_call 10; (with_reducible refine (perigeelaw10_awake.calls kj35  t120 _ A47.out).mono ?_); rintro e w50 ⟨rfl, hb⟩; replace HB := Aside0.mk (below_step d6b hb); (try clear hb)))
                 go_ret
                 exact ⟨d6d, d6b⟩
               · rw [if_neg c46] at H
                 have c46b0 : decide (t119 ≤ t102) = false := decide_eq_false c46
                 clear c46
                 obtain rfl := Option.some.inj H
                 go_wp2_with (first | ((with_reducible refine gate_callee (f := 21) rfl ?_); refine goesL_ (some 91) rfl rfl Tryd.func21 (by kernel_rfl) rfl #[.slice A0 l0.length c0, .int .i64 a1, .slice A2 l2.length c2] rfl d6a ?_; (with_reducible refine (contact_CheckBooking.calls kj35 _ _ l0 a1 _ _ l2 t118 _ ?side1 ?side2 ?side3 ?side4 A43.out).mono ?_); (case side1 => exact d6f); (case side2 => exact HC0.out); (case side3 => exact d6g); (case side4 => exact HC2.out); rintro e w51 ⟨rfl, hb⟩; refine ⟨_, rfl, ?_⟩; replace HB := Aside0.mk (below_step d6b hb); (try clear hb)) | (go_at_call 22; (with_reducible refine (perigeelaw10_worst.calls kj35 _ _ l0 _ _ l2 t119 _ ?side1 ?side2 ?side3 ?side4 (HV.out.below d6b) A45.out).mono ?_); (case side1 => exact d6f); (case side2 => exact HC0.out); (case side3 => exact d6g); (case side4 => exact HC2.out); rintro e w52 ⟨rfl, hb⟩; replace HB := Aside0.mk (below_step d6b hb); (try clear hb)))
                 go_ret
                 exact ⟨d6d, d6b⟩
             · rw [if_neg c44] at H
               have c44b0 : (t118 == 0) = false := beq_eq_false_iff_ne.mpr c44
               have c44b1 : (t118 != 0) = true := bne_iff_ne.mpr c44
               replace H := bindS H; obtain ⟨t121, A53, H⟩ := H
               obtain rfl := Option.some.inj H
               go_wp2_with (first | ((with_reducible refine gate_callee (f := 21) rfl ?_); refine goesL_ (some 91) rfl rfl Tryd.func21 (by kernel_rfl) rfl #[.slice A0 l0.length c0, .int .i64 a1, .slice A2 l2.length c2] rfl d6a ?_; (with_reducible refine (contact_CheckBooking.calls kj35 _ _ l0 a1 _ _ l2 t118 _ ?side1 ?side2 ?side3 ?side4 A43.out).mono ?_); (case side1 => exact d6f); (case side2 => exact HC0.out); (case side3 => exact d6g); (case side4 => exact HC2.out); rintro e w54 ⟨rfl, hb⟩; refine ⟨_, rfl, ?_⟩; replace HB := Aside0.mk (below_step d6b hb); (try clear hb)) | (go_at_call 10; (with_reducible refine (perigeelaw10_awake.calls kj35  t121 _ A53.out).mono ?_); rintro e w55 ⟨rfl, hb⟩; replace HB := Aside0.mk (below_step d6b hb); (try clear hb)))
               go_ret
               exact ⟨d6d, d6b⟩
end Go.Proofs.YtbngmblgkkdhpaaDoor.Q
