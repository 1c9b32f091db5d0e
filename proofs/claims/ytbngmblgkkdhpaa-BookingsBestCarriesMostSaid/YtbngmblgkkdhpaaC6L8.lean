-- Made by wip/tools/claimp.py of this session's texts; Lean checks it.
import Derived.Test.YtbngmblgkkdhpaaC6Q0
import Derived.Test.YtbngmblgkkdhpaaC6G13
import Derived.Test.YtbngmblgkkdhpaaC6G2
import Derived.Test.YtbngmblgkkdhpaaC6G8
import Derived.Test.YtbngmblgkkdhpaaC6G9
namespace Go.Proofs.Ytbngmblgkkdhpaa.Q
open Go.RowKit Go.Proofs.YtbngmblgkkdhpaaW.PrintWords Go.Proofs.YtbngmblgkkdhpaaW.PrintLast Go.Proofs.YtbngmblgkkdhpaaW.PrintMore
attribute [local go_sem] max2_int min2_int max_two min_two max_three min_three max_four min_four
open Go.Proofs.Ytbngmblgkkdhpaa.Base
attribute [local go_sem high] str_leq str_gtr str_geq
set_option linter.unusedVariables false
set_option linter.unusedSimpArgs false
def perigeelaw10_BookingsBestCarriesMost.j0 : Nat → List (S33) → Int → List Int → List Int → Int → Bool → Option (Bool)
  | 0, _, _, _, _, _, _ => none
  | k + 1, x0, x1, x2, x7, x8, x50 => if x50 = true then (some false) else ((contact_CheckBooking.f k x0 x1 x2).bind fun t110 => (if t110 = 0 then ((contact_Total.f k x0 x2).bind fun bt111 => (if bt111.2 = 0 then (if bt111.1 < x8 then ((perigeelaw10_awake.f k).bind fun t113 => (some t113)) else (if bt111.1 = x8 then (if (x2.length : Int) ≥ (x7.length : Int) then ((perigeelaw10_awake.f k).bind fun t114 => (some t114)) else (some false)) else (some false))) else (some false))) else ((perigeelaw10_awake.f k).bind fun t115 => (some t115))))
def perigeelaw10_BookingsBestCarriesMost.f (k : Nat) (l0 : List (S33)) (a1 : Int) (l2 : List Int) : Option (Bool) := (contact_Best.f k l0 a1).bind fun bt101 => (if bt101.2.2 = 0 then ((contact_Total.f k l0 bt101.1).bind fun bt107 => (if bt107.2 = 0 then (if bt107.1 = bt101.2.1 then ((contact_CheckBooking.f k l0 a1 bt101.1).bind fun t109 => (perigeelaw10_BookingsBestCarriesMost.j0 k l0 a1 l2 bt101.1 bt101.2.1 (t109 != 0))) else (perigeelaw10_BookingsBestCarriesMost.j0 k l0 a1 l2 bt101.1 bt101.2.1 true)) else (perigeelaw10_BookingsBestCarriesMost.j0 k l0 a1 l2 bt101.1 bt101.2.1 true))) else (if (bt101.1.length : Int) = 0 then (if bt101.2.1 = 0 then ((perigeelaw10_awake.f k).bind fun t106 => (some t106)) else (some false)) else (some false)))
theorem d8a {p : Prop} (h : p := by (try simp only [List.map_toArray, List.map_cons, List.map_nil]); first | done | rfl | (simp only [List.length_drop, List.length_take]; rfl)) : p := h
theorem d8b {p : Prop} (h : p := by repeat (first | (with_reducible first | exact HB.out | apply below_alloc | apply pw_below_drewN | apply below_drew1) | exact HB.out)) : p := h
theorem d8c {p : Prop} (h : p := by (with_reducible repeat (first | apply Kd.R_alloc | apply Kd.R_drewN | apply Kd.R_drew)); exact HO105.out) : p := h
theorem d8d {p : Prop} (h : p := by (with_reducible repeat (first | apply Kd.R_alloc | apply Kd.R_drewN | apply Kd.R_drew)); exact HO_7.out) : p := h
theorem d8e {p : Prop} (h : p := by first | rfl | (simp [errW_none, errW_some] <;> rfl) | (simp [*, errW_none, errW_some] <;> rfl)) : p := h
theorem d8f {p : Prop} (h : p := by exact C_go (Kd.C_below HR0.out HB.out)) : p := h
theorem d8g {p : Prop} (h : p := by exact C_go (Kd.C_below HR2.out HB.out)) : p := h
set_option maxHeartbeats 8000000 in
set_option maxRecDepth 100000 in
theorem perigeelaw10_BookingsBestCarriesMost.calls (k : Nat) (A0 : Option Addr) (c0 : Nat) (l0 : List (S33)) (a1 : Int) (A2 : Option Addr) (c2 : Nat) (l2 : List Int) (r : Bool) (w : World) (hr0 : Kd.C k33 w A0 l0.length l0) (hc0 : l0.length ≤ c0) (hr2 : Kd.C (Kd.int .i64) w A2 l2.length l2) (hc2 : l2.length ≤ c2) (h : perigeelaw10_BookingsBestCarriesMost.f k l0 a1 l2 = some r) :
 Calls Try.prog 8 #[.slice A0 l0.length c0, .int .i64 a1, .slice A2 l2.length c2] w fun e w' => e = .returned (.bool r) ∧ Below w.heap.size w w' := by
 have HR0 := Aside0.mk hr0
 have HC0 := Aside0.mk hc0
 clear hr0 hc0
 have HR2 := Aside0.mk hr2
 have HC2 := Aside0.mk hc2
 clear hr2 hc2
 have HB := Aside0.mk (Below.refl w.heap.size w)
 have H : ((contact_Best.f k l0 a1).bind fun bt101 => (if bt101.2.2 = 0 then ((contact_Total.f k l0 bt101.1).bind fun bt107 => (if bt107.2 = 0 then (if bt107.1 = bt101.2.1 then ((contact_CheckBooking.f k l0 a1 bt101.1).bind fun t109 => (perigeelaw10_BookingsBestCarriesMost.j0 k l0 a1 l2 bt101.1 bt101.2.1 (t109 != 0))) else (perigeelaw10_BookingsBestCarriesMost.j0 k l0 a1 l2 bt101.1 bt101.2.1 true)) else (perigeelaw10_BookingsBestCarriesMost.j0 k l0 a1 l2 bt101.1 bt101.2.1 true))) else (if (bt101.1.length : Int) = 0 then (if bt101.2.1 = 0 then ((perigeelaw10_awake.f k).bind fun t106 => (some t106)) else (some false)) else (some false)))) = some r := h
 clear h
 replace H := bindS H; obtain ⟨⟨t101, t102, t103⟩, A4, H⟩ := H
 by_cases c5 : t103 = 0
 · rw [if_pos c5] at H
   have c5b0 : (t103 == 0) = true := beq_iff_eq.mpr c5
   have c5b1 : (t103 != 0) = false := bne_eq_false_iff_eq.mpr c5
   clear c5
   replace H := bindS H; obtain ⟨⟨t107, t108⟩, A6, H⟩ := H
   have HC7 := Aside0.mk H
   clear H
   go_enter Try.func8, Try.ntmps8
   go_upto_region 5 with (first | ((with_reducible refine gate_callee (f := 29) rfl ?_); refine goesL_ (some 15) rfl rfl Try.func29 (by kernel_rfl) rfl #[.slice A0 l0.length c0, .int .i64 a1] rfl d8a ?_; (with_reducible refine (contact_Best.calls k _ _ l0 a1 t101 t102 t103 _ ?side1 ?side2 A4.out).mono ?_); (case side1 => exact C_go HR0.out); (case side2 => exact HC0.out); rintro e w8 ⟨v104, rfl, ho0, hb⟩; refine ⟨_, rfl, ?_⟩; have n0_ := Aside0.mk (Kd.R_lower ho0 (below_size d8b)); have n1_ := Aside0.mk (below_step d8b hb); clear HB; have HO105 := n0_; have HB := n1_; clear n0_ n1_; (try clear hb); (try clear ho0); obtain ⟨Ao9, co9, eo9⟩ := Kd.R_slice HO105.out; subst eo9) | ((with_reducible refine gate_callee (f := 24) rfl ?_); refine goesL_ (some 34) rfl rfl Try.func24 (by kernel_rfl) rfl #[.slice A0 l0.length c0, .slice Ao9 t101.length co9] rfl d8a ?_; (with_reducible refine (contact_Total.calls k _ _ l0 _ _ t101 t107 t108 _ ?side1 ?side2 ?side3 ?side4 A6.out).mono ?_); (case side1 => exact d8f); (case side2 => exact HC0.out); (case side3 => exact C_go (Kd.R_reads' HO105.out).2.2); (case side4 => exact (Kd.R_reads' HO105.out).2.1); rintro e w10 ⟨rfl, hb⟩; refine ⟨_, rfl, ?_⟩; have n0_ := Aside0.mk (Kd.R_below d8c hb); have n1_ := Aside0.mk (below_step d8b hb); clear HO105; clear HB; have HO105 := n0_; have HB := n1_; clear n0_ n1_; (try clear hb)))
   (try simp only [Act.put, List.setIfInBounds_toArray, List.set_cons_zero, List.set_cons_succ])
   go_cut [50] (fun v50 wc => ∃ (kq : Nat) (x50_6 : Bool), v50 = .bool x50_6 ∧ Aside0 (perigeelaw10_BookingsBestCarriesMost.j0 kq l0 a1 l2 t101 t102 x50_6 = some r) ∧ Aside0 (kq ≤ k) ∧ Aside0 (Kd.R (Kd.int .i64) 3 wc w.heap.size (fun _ => True) (.slice Ao9 t101.length co9) t101) ∧ Aside0 (Below w.heap.size w wc))
   case first =>
    have H := HC7.out
    clear HC7
    by_cases c11 : t108 = 0
    · rw [if_pos c11] at H
      have c11b0 : (t108 == 0) = true := beq_iff_eq.mpr c11
      have c11b1 : (t108 != 0) = false := bne_eq_false_iff_eq.mpr c11
      clear c11
      (first | rw [c11b0] | (simp only [i64_w, i32_w]; rw [c11b0]) | skip)
      by_cases c12 : t107 = t102
      · rw [if_pos c12] at H
        have c12b0 : (t107 == t102) = true := beq_iff_eq.mpr c12
        have c12b1 : (t107 != t102) = false := bne_eq_false_iff_eq.mpr c12
        clear c12
        replace H := bindS H; obtain ⟨t109, A13, H⟩ := H
        have H' := Aside0.mk H
        clear H
        go_wp2_with (go_at_call 22; (with_reducible refine (contact_CheckBooking.calls k _ _ l0 a1 _ _ t101 t109 _ ?side1 ?side2 ?side3 ?side4 A13.out).mono ?_); (case side1 => exact d8f); (case side2 => exact HC0.out); (case side3 => exact C_go (Kd.R_reads' HO105.out).2.2); (case side4 => exact (Kd.R_reads' HO105.out).2.1); rintro e w14 ⟨rfl, hb⟩; have n0_ := Aside0.mk (Kd.R_below d8c hb); have n1_ := Aside0.mk (below_step d8b hb); clear HO105; clear HB; have HO105 := n0_; have HB := n1_; clear n0_ n1_; (try clear hb))
        go_meet
        case rel => exact ⟨_, ((t109 != 0)), (by first | rfl | (simp; done) | (simp [*]; done)), H', ⟨by first | omega | exact Nat.le_refl _⟩, ⟨d8c⟩, ⟨d8b⟩⟩
      · rw [if_neg c12] at H
        have c12b0 : (t107 == t102) = false := beq_eq_false_iff_ne.mpr c12
        have c12b1 : (t107 != t102) = true := bne_iff_ne.mpr c12
        have H' := Aside0.mk H
        clear H
        go_wp2
        go_meet
        case rel => exact ⟨_, (true), (by first | rfl | (simp; done) | (simp [*]; done)), H', ⟨by first | omega | exact Nat.le_refl _⟩, ⟨d8c⟩, ⟨d8b⟩⟩
    · rw [if_neg c11] at H
      have c11b0 : (t108 == 0) = false := beq_eq_false_iff_ne.mpr c11
      have c11b1 : (t108 != 0) = true := bne_iff_ne.mpr c11
      (first | rw [c11b0] | (simp only [i64_w, i32_w]; rw [c11b0]) | skip)
      have H' := Aside0.mk H
      clear H
      go_wp2
      go_meet
      case rel => exact ⟨_, (true), (by first | rfl | (simp; done) | (simp [*]; done)), H', ⟨by first | omega | exact Nat.le_refl _⟩, ⟨d8c⟩, ⟨d8b⟩⟩
   case rest =>
    clear HC7
    try clear c5b0
    try clear c5b1
    obtain ⟨kq, x50_6, rfl, HA, HJ6, HO_7, HB⟩ := hcut
    cases kq with
    | zero => exact absurd HA.out (by simp [perigeelaw10_BookingsBestCarriesMost.j0])
    | succ kj6 =>
     have H := HA.out
     clear HA
     simp only [perigeelaw10_BookingsBestCarriesMost.j0] at H
     by_cases c15 : x50_6 = true
     · subst c15
       replace H := iteT H
       obtain rfl := Option.some.inj H
       go_wp2
       go_ret
       exact ⟨d8e, d8b⟩
     · replace c15 := Bool.eq_false_iff.mpr c15
       subst c15
       replace H := iteF H
       replace H := bindS H; obtain ⟨t110, A16, H⟩ := H
       by_cases c17 : t110 = 0
       · rw [if_pos c17] at H
         have c17b0 : (t110 == 0) = true := beq_iff_eq.mpr c17
         have c17b1 : (t110 != 0) = false := bne_eq_false_iff_eq.mpr c17
         clear c17
         replace H := bindS H; obtain ⟨⟨t111, t112⟩, A18, H⟩ := H
         by_cases c19 : t112 = 0
         · rw [if_pos c19] at H
           have c19b0 : (t112 == 0) = true := beq_iff_eq.mpr c19
           have c19b1 : (t112 != 0) = false := bne_eq_false_iff_eq.mpr c19
           clear c19
           by_cases c20 : t111 < t102
           · rw [if_pos c20] at H
             have c20b0 : decide (t111 < t102) = true := decide_eq_true c20
             clear c20
             replace H := bindS H; obtain ⟨t113, A21, H⟩ := H
             obtain rfl := Option.some.inj H
             go_wp2_with (first | ((with_reducible refine gate_callee (f := 22) rfl ?_); refine goesL_ (some 54) rfl rfl Try.func22 (by kernel_rfl) rfl #[.slice A0 l0.length c0, .int .i64 a1, .slice A2 l2.length c2] rfl d8a ?_; (with_reducible refine (contact_CheckBooking.calls kj6 _ _ l0 a1 _ _ l2 t110 _ ?side1 ?side2 ?side3 ?side4 A16.out).mono ?_); (case side1 => exact d8f); (case side2 => exact HC0.out); (case side3 => exact d8g); (case side4 => exact HC2.out); rintro e w22 ⟨rfl, hb⟩; refine ⟨_, rfl, ?_⟩; have n0_ := Aside0.mk (Kd.R_below d8d hb); have n1_ := Aside0.mk (below_step d8b hb); clear HO_7; clear HB; have HO_7 := n0_; have HB := n1_; clear n0_ n1_; (try clear hb)) | ((with_reducible refine gate_callee (f := 24) rfl ?_); refine goesL_ (some 60) rfl rfl Try.func24 (by kernel_rfl) rfl #[.slice A0 l0.length c0, .slice A2 l2.length c2] rfl d8a ?_; (with_reducible refine (contact_Total.calls kj6 _ _ l0 _ _ l2 t111 t112 _ ?side1 ?side2 ?side3 ?side4 A18.out).mono ?_); (case side1 => exact d8f); (case side2 => exact HC0.out); (case side3 => exact d8g); (case side4 => exact HC2.out); rintro e w23 ⟨rfl, hb⟩; refine ⟨_, rfl, ?_⟩; have n0_ := Aside0.mk (Kd.R_below d8d hb); have n1_ := Aside0.mk (below_step d8b hb); clear HO_7; clear HB; have HO_7 := n0_; have HB := n1_; clear n0_ n1_; (try clear hb)) | (go_at_call 14; (with_reducible refine (perigeelaw10_awake.calls kj6  t113 _ A21.out).mono ?_); rintro e w24 ⟨rfl, hb⟩; have n0_ := Aside0.mk (Kd.R_below d8d hb); have n1_ := Aside0.mk (below_step d8b hb); clear HO_7; clear HB; have HO_7 := n0_; have HB := n1_; clear n0_ n1_; (try clear hb)))
             go_ret
             exact ⟨d8e, d8b⟩
           · rw [if_neg c20] at H
             have c20b0 : decide (t111 < t102) = false := decide_eq_false c20
             clear c20
             by_cases c25 : t111 = t102
             · rw [if_pos c25] at H
               have c25b0 : (t111 == t102) = true := beq_iff_eq.mpr c25
               have c25b1 : (t111 != t102) = false := bne_eq_false_iff_eq.mpr c25
               clear c25
               by_cases c26 : (l2.length : Int) ≥ (t101.length : Int)
               · rw [if_pos c26] at H
                 have c26b0 : decide ((t101.length : Int) ≤ (l2.length : Int)) = true := decide_eq_true c26
                 have c26b1 : decide (t101.length ≤ l2.length) = true := decide_eq_true (Int.ofNat_le.mp c26)
                 clear c26
                 replace H := bindS H; obtain ⟨t114, A27, H⟩ := H
                 obtain rfl := Option.some.inj H
                 go_wp2_with (first | ((with_reducible refine gate_callee (f := 22) rfl ?_); refine goesL_ (some 54) rfl rfl Try.func22 (by kernel_rfl) rfl #[.slice A0 l0.length c0, .int .i64 a1, .slice A2 l2.length c2] rfl d8a ?_; (with_reducible refine (contact_CheckBooking.calls kj6 _ _ l0 a1 _ _ l2 t110 _ ?side1 ?side2 ?side3 ?side4 A16.out).mono ?_); (case side1 => exact d8f); (case side2 => exact HC0.out); (case side3 => exact d8g); (case side4 => exact HC2.out); rintro e w28 ⟨rfl, hb⟩; refine ⟨_, rfl, ?_⟩; have n0_ := Aside0.mk (Kd.R_below d8d hb); have n1_ := Aside0.mk (below_step d8b hb); clear HO_7; clear HB; have HO_7 := n0_; have HB := n1_; clear n0_ n1_; (try clear hb)) | ((with_reducible refine gate_callee (f := 24) rfl ?_); refine goesL_ (some 60) rfl rfl Try.func24 (by kernel_rfl) rfl #[.slice A0 l0.length c0, .slice A2 l2.length c2] rfl d8a ?_; (with_reducible refine (contact_Total.calls kj6 _ _ l0 _ _ l2 t111 t112 _ ?side1 ?side2 ?side3 ?side4 A18.out).mono ?_); (case side1 => exact d8f); (case side2 => exact HC0.out); (case side3 => exact d8g); (case side4 => exact HC2.out); rintro e w29 ⟨rfl, hb⟩; refine ⟨_, rfl, ?_⟩; have n0_ := Aside0.mk (Kd.R_below d8d hb); have n1_ := Aside0.mk (below_step d8b hb); clear HO_7; clear HB; have HO_7 := n0_; have HB := n1_; clear n0_ n1_; (try clear hb)) | (go_at_call 14; (with_reducible refine (perigeelaw10_awake.calls kj6  t114 _ A27.out).mono ?_); rintro e w30 ⟨rfl, hb⟩; have n0_ := Aside0.mk (Kd.R_below d8d hb); have n1_ := Aside0.mk (below_step d8b hb); clear HO_7; clear HB; have HO_7 := n0_; have HB := n1_; clear n0_ n1_; (try clear hb)))
                 go_ret
                 exact ⟨d8e, d8b⟩
               · rw [if_neg c26] at H
                 have c26b0 : decide ((t101.length : Int) ≤ (l2.length : Int)) = false := decide_eq_false c26
                 have c26b1 : decide (t101.length ≤ l2.length) = false := decide_eq_false (fun h => c26 (Int.ofNat_le.mpr h))
                 clear c26
                 obtain rfl := Option.some.inj H
                 go_wp2_with (first | ((with_reducible refine gate_callee (f := 22) rfl ?_); refine goesL_ (some 54) rfl rfl Try.func22 (by kernel_rfl) rfl #[.slice A0 l0.length c0, .int .i64 a1, .slice A2 l2.length c2] rfl d8a ?_; (with_reducible refine (contact_CheckBooking.calls kj6 _ _ l0 a1 _ _ l2 t110 _ ?side1 ?side2 ?side3 ?side4 A16.out).mono ?_); (case side1 => exact d8f); (case side2 => exact HC0.out); (case side3 => exact d8g); (case side4 => exact HC2.out); rintro e w31 ⟨rfl, hb⟩; refine ⟨_, rfl, ?_⟩; have n0_ := Aside0.mk (Kd.R_below d8d hb); have n1_ := Aside0.mk (below_step d8b hb); clear HO_7; clear HB; have HO_7 := n0_; have HB := n1_; clear n0_ n1_; (try clear hb)) | ((with_reducible refine gate_callee (f := 24) rfl ?_); refine goesL_ (some 60) rfl rfl Try.func24 (by kernel_rfl) rfl #[.slice A0 l0.length c0, .slice A2 l2.length c2] rfl d8a ?_; (with_reducible refine (contact_Total.calls kj6 _ _ l0 _ _ l2 t111 t112 _ ?side1 ?side2 ?side3 ?side4 A18.out).mono ?_); (case side1 => exact d8f); (case side2 => exact HC0.out); (case side3 => exact d8g); (case side4 => exact HC2.out); rintro e w32 ⟨rfl, hb⟩; refine ⟨_, rfl, ?_⟩; have n0_ := Aside0.mk (Kd.R_below d8d hb); have n1_ := Aside0.mk (below_step d8b hb); clear HO_7; clear HB; have HO_7 := n0_; have HB := n1_; clear n0_ n1_; (try clear hb)))
                 go_ret
                 exact ⟨d8e, d8b⟩
             · rw [if_neg c25] at H
               have c25b0 : (t111 == t102) = false := beq_eq_false_iff_ne.mpr c25
               have c25b1 : (t111 != t102) = true := bne_iff_ne.mpr c25
               obtain rfl := Option.some.inj H
               go_wp2_with (first | ((with_reducible refine gate_callee (f := 22) rfl ?_); refine goesL_ (some 54) rfl rfl Try.func22 (by kernel_rfl) rfl #[.slice A0 l0.length c0, .int .i64 a1, .slice A2 l2.length c2] rfl d8a ?_; (with_reducible refine (contact_CheckBooking.calls kj6 _ _ l0 a1 _ _ l2 t110 _ ?side1 ?side2 ?side3 ?side4 A16.out).mono ?_); (case side1 => exact d8f); (case side2 => exact HC0.out); (case side3 => exact d8g); (case side4 => exact HC2.out); rintro e w33 ⟨rfl, hb⟩; refine ⟨_, rfl, ?_⟩; have n0_ := Aside0.mk (Kd.R_below d8d hb); have n1_ := Aside0.mk (below_step d8b hb); clear HO_7; clear HB; have HO_7 := n0_; have HB := n1_; clear n0_ n1_; (try clear hb)) | ((with_reducible refine gate_callee (f := 24) rfl ?_); refine goesL_ (some 60) rfl rfl Try.func24 (by kernel_rfl) rfl #[.slice A0 l0.length c0, .slice A2 l2.length c2] rfl d8a ?_; (with_reducible refine (contact_Total.calls kj6 _ _ l0 _ _ l2 t111 t112 _ ?side1 ?side2 ?side3 ?side4 A18.out).mono ?_); (case side1 => exact d8f); (case side2 => exact HC0.out); (case side3 => exact d8g); (case side4 => exact HC2.out); rintro e w34 ⟨rfl, hb⟩; refine ⟨_, rfl, ?_⟩; have n0_ := Aside0.mk (Kd.R_below d8d hb); have n1_ := Aside0.mk (below_step d8b hb); clear HO_7; clear HB; have HO_7 := n0_; have HB := n1_; clear n0_ n1_; (try clear hb)))
               go_ret
               exact ⟨d8e, d8b⟩
         · rw [if_neg c19] at H
           have c19b0 : (t112 == 0) = false := beq_eq_false_iff_ne.mpr c19
           have c19b1 : (t112 != 0) = true := bne_iff_ne.mpr c19
           obtain rfl := Option.some.inj H
           go_wp2_with (first | ((with_reducible refine gate_callee (f := 22) rfl ?_); refine goesL_ (some 54) rfl rfl Try.func22 (by kernel_rfl) rfl #[.slice A0 l0.length c0, .int .i64 a1, .slice A2 l2.length c2] rfl d8a ?_; (with_reducible refine (contact_CheckBooking.calls kj6 _ _ l0 a1 _ _ l2 t110 _ ?side1 ?side2 ?side3 ?side4 A16.out).mono ?_); (case side1 => exact d8f); (case side2 => exact HC0.out); (case side3 => exact d8g); (case side4 => exact HC2.out); rintro e w35 ⟨rfl, hb⟩; refine ⟨_, rfl, ?_⟩; have n0_ := Aside0.mk (Kd.R_below d8d hb); have n1_ := Aside0.mk (below_step d8b hb); clear HO_7; clear HB; have HO_7 := n0_; have HB := n1_; clear n0_ n1_; (try clear hb)) | ((with_reducible refine gate_callee (f := 24) rfl ?_); refine goesL_ (some 60) rfl rfl Try.func24 (by kernel_rfl) rfl #[.slice A0 l0.length c0, .slice A2 l2.length c2] rfl d8a ?_; (with_reducible refine (contact_Total.calls kj6 _ _ l0 _ _ l2 t111 t112 _ ?side1 ?side2 ?side3 ?side4 A18.out).mono ?_); (case side1 => exact d8f); (case side2 => exact HC0.out); (case side3 => exact d8g); (case side4 => exact HC2.out); rintro e w36 ⟨rfl, hb⟩; refine ⟨_, rfl, ?_⟩; have n0_ := Aside0.mk (Kd.R_below d8d hb); have n1_ := Aside0.mk (below_step d8b hb); clear HO_7; clear HB; have HO_7 := n0_; have HB := n1_; clear n0_ n1_; (try clear hb)))
           go_ret
           exact ⟨d8e, d8b⟩
       · rw [if_neg c17] at H
         have c17b0 : (t110 == 0) = false := beq_eq_false_iff_ne.mpr c17
         have c17b1 : (t110 != 0) = true := bne_iff_ne.mpr c17
         replace H := bindS H; obtain ⟨t115, A37, H⟩ := H
         obtain rfl := Option.some.inj H
         go_wp2_with (first | ((with_reducible refine gate_callee (f := 22) rfl ?_); refine goesL_ (some 54) rfl rfl Try.func22 (by kernel_rfl) rfl #[.slice A0 l0.length c0, .int .i64 a1, .slice A2 l2.length c2] rfl d8a ?_; (with_reducible refine (contact_CheckBooking.calls kj6 _ _ l0 a1 _ _ l2 t110 _ ?side1 ?side2 ?side3 ?side4 A16.out).mono ?_); (case side1 => exact d8f); (case side2 => exact HC0.out); (case side3 => exact d8g); (case side4 => exact HC2.out); rintro e w38 ⟨rfl, hb⟩; refine ⟨_, rfl, ?_⟩; have n0_ := Aside0.mk (Kd.R_below d8d hb); have n1_ := Aside0.mk (below_step d8b hb); clear HO_7; clear HB; have HO_7 := n0_; have HB := n1_; clear n0_ n1_; (try clear hb)) | ((with_reducible refine gate_callee (f := 14) rfl ?_); refine goesL_ (some 56) rfl rfl Try.func14 (by kernel_rfl) rfl #[] rfl d8a ?_; (with_reducible refine (perigeelaw10_awake.calls kj6  t115 _ A37.out).mono ?_); rintro e w39 ⟨rfl, hb⟩; refine ⟨_, rfl, ?_⟩; have n0_ := Aside0.mk (Kd.R_below d8d hb); have n1_ := Aside0.mk (below_step d8b hb); clear HO_7; clear HB; have HO_7 := n0_; have HB := n1_; clear n0_ n1_; (try clear hb)))
         go_ret
         exact ⟨d8e, d8b⟩
 · rw [if_neg c5] at H
   have c5b0 : (t103 == 0) = false := beq_eq_false_iff_ne.mpr c5
   have c5b1 : (t103 != 0) = true := bne_iff_ne.mpr c5
   by_cases c40 : (t101.length : Int) = 0
   · rw [if_pos c40] at H
     have c40b0 : ((t101.length : Int) == 0) = true := beq_iff_eq.mpr c40
     have c40b1 : ((t101.length : Int) != 0) = false := bne_eq_false_iff_eq.mpr c40
     clear c40
     by_cases c41 : t102 = 0
     · rw [if_pos c41] at H
       have c41b0 : (t102 == 0) = true := beq_iff_eq.mpr c41
       have c41b1 : (t102 != 0) = false := bne_eq_false_iff_eq.mpr c41
       clear c41
       replace H := bindS H; obtain ⟨t106, A42, H⟩ := H
       obtain rfl := Option.some.inj H
       go_enter Try.func8, Try.ntmps8
       go_wp2_with (first | ((with_reducible refine gate_callee (f := 29) rfl ?_); refine goesL_ (some 15) rfl rfl Try.func29 (by kernel_rfl) rfl #[.slice A0 l0.length c0, .int .i64 a1] rfl d8a ?_; (with_reducible refine (contact_Best.calls k _ _ l0 a1 t101 t102 t103 _ ?side1 ?side2 A4.out).mono ?_); (case side1 => exact C_go HR0.out); (case side2 => exact HC0.out); rintro e w43 ⟨v104, rfl, ho0, hb⟩; refine ⟨_, rfl, ?_⟩; have n0_ := Aside0.mk (Kd.R_lower ho0 (below_size d8b)); have n1_ := Aside0.mk (below_step d8b hb); clear HB; have HO105 := n0_; have HB := n1_; clear n0_ n1_; (try clear hb); (try clear ho0); obtain ⟨Ao44, co44, eo44⟩ := Kd.R_slice HO105.out; subst eo44) | (go_at_call 14; (with_reducible refine (perigeelaw10_awake.calls k  t106 _ A42.out).mono ?_); rintro e w45 ⟨rfl, hb⟩; have n0_ := Aside0.mk (Kd.R_below d8c hb); have n1_ := Aside0.mk (below_step d8b hb); clear HO105; clear HB; have HO105 := n0_; have HB := n1_; clear n0_ n1_; (try clear hb)))
       go_ret
       exact ⟨d8e, d8b⟩
     · rw [if_neg c41] at H
       have c41b0 : (t102 == 0) = false := beq_eq_false_iff_ne.mpr c41
       have c41b1 : (t102 != 0) = true := bne_iff_ne.mpr c41
       obtain rfl := Option.some.inj H
       go_enter Try.func8, Try.ntmps8
       go_wp2_with ((with_reducible refine gate_callee (f := 29) rfl ?_); refine goesL_ (some 15) rfl rfl Try.func29 (by kernel_rfl) rfl #[.slice A0 l0.length c0, .int .i64 a1] rfl d8a ?_; (with_reducible refine (contact_Best.calls k _ _ l0 a1 t101 t102 t103 _ ?side1 ?side2 A4.out).mono ?_); (case side1 => exact C_go HR0.out); (case side2 => exact HC0.out); rintro e w46 ⟨v104, rfl, ho0, hb⟩; refine ⟨_, rfl, ?_⟩; have n0_ := Aside0.mk (Kd.R_lower ho0 (below_size d8b)); have n1_ := Aside0.mk (below_step d8b hb); clear HB; have HO105 := n0_; have HB := n1_; clear n0_ n1_; (try clear hb); (try clear ho0); obtain ⟨Ao47, co47, eo47⟩ := Kd.R_slice HO105.out; subst eo47)
       go_ret
       exact ⟨d8e, d8b⟩
   · rw [if_neg c40] at H
     have c40b0 : ((t101.length : Int) == 0) = false := beq_eq_false_iff_ne.mpr c40
     have c40b1 : ((t101.length : Int) != 0) = true := bne_iff_ne.mpr c40
     have c40b2 : ¬ (t101 = []) := fun h_ => c40 (by rw [h_]; rfl)
     obtain rfl := Option.some.inj H
     go_enter Try.func8, Try.ntmps8
     go_wp2_with ((with_reducible refine gate_callee (f := 29) rfl ?_); refine goesL_ (some 15) rfl rfl Try.func29 (by kernel_rfl) rfl #[.slice A0 l0.length c0, .int .i64 a1] rfl d8a ?_; (with_reducible refine (contact_Best.calls k _ _ l0 a1 t101 t102 t103 _ ?side1 ?side2 A4.out).mono ?_); (case side1 => exact C_go HR0.out); (case side2 => exact HC0.out); rintro e w48 ⟨v104, rfl, ho0, hb⟩; refine ⟨_, rfl, ?_⟩; have n0_ := Aside0.mk (Kd.R_lower ho0 (below_size d8b)); have n1_ := Aside0.mk (below_step d8b hb); clear HB; have HO105 := n0_; have HB := n1_; clear n0_ n1_; (try clear hb); (try clear ho0); obtain ⟨Ao49, co49, eo49⟩ := Kd.R_slice HO105.out; subst eo49)
     go_ret
     exact ⟨d8e, d8b⟩
end Go.Proofs.Ytbngmblgkkdhpaa.Q
