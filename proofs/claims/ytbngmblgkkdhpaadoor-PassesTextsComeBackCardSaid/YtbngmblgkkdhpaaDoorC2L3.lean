-- Made by wip/tools/claimp.py of this session's texts; Lean checks it.
import Derived.Test.YtbngmblgkkdhpaaDoorC2Q0
import Derived.Test.YtbngmblgkkdhpaaDoorC2Gd2
import Derived.Test.YtbngmblgkkdhpaaDoorC2Gd3
import Derived.Test.YtbngmblgkkdhpaaDoorC2Gd4
import Derived.Test.YtbngmblgkkdhpaaDoorC2Gd5
namespace Go.Proofs.YtbngmblgkkdhpaaDoor.Q
open Go.RowKit Go.Proofs.YtbngmblgkkdhpaaDoorW.PrintWords Go.Proofs.YtbngmblgkkdhpaaDoorW.PrintLast Go.Proofs.YtbngmblgkkdhpaaDoorW.PrintMore
attribute [local go_sem] max2_int min2_int max_two min_two max_three min_three max_four min_four
open Go.Proofs.YtbngmblgkkdhpaaDoor.Base
attribute [local go_sem high] str_leq str_gtr str_geq
set_option linter.unusedVariables false
set_option linter.unusedSimpArgs false
def perigeelaw10_PassesTextsComeBack.j0 : Nat → ByteArray → Option (Bool)
  | 0, _ => none
  | k + 1, x1 => (contact_Read.f k x1).bind fun bt109 => (if bt109.2.2 = 0 then ((contact_Text.f k bt109.1).bind fun bt114 => (if bt114.2 = 0 then (if bt114.1.toList = x1.toList then ((perigeelaw10_awake.f k).bind fun t116 => (some t116)) else (some false)) else (some false))) else (if (bt109.1.length : Int) = 0 then ((perigeelaw10_awake.f k).bind fun t117 => (some t117)) else (some false)))
def perigeelaw10_PassesTextsComeBack.f (k : Nat) (l0 : List (S55)) (a1 : ByteArray) : Option (Bool) := (contact_Text.f k l0).bind fun bt101 => (if bt101.2 = 0 then ((contact_Read.f k bt101.1).bind fun bt103 => (if bt103.2.2 = 0 then (if bt103.2.1 = 0 then ((perigeeref10_SamePasses.f k bt103.1 l0).bind fun t108 => (if t108 = true then (perigeelaw10_PassesTextsComeBack.j0 k a1) else (some false))) else (some false)) else (some false))) else (perigeelaw10_PassesTextsComeBack.j0 k a1))
theorem d3a {p : Prop} (h : p := by (try simp only [List.map_toArray, List.map_cons, List.map_nil]); first | done | rfl | (simp only [List.length_drop, List.length_take]; rfl)) : p := h
theorem d3b {p : Prop} (h : p := by repeat (first | (with_reducible first | exact HB.out | apply below_alloc | apply pw_below_drewN | apply below_drew1) | exact HB.out)) : p := h
theorem d3c {p : Prop} (h : p := by (with_reducible repeat (first | apply Kd.S_alloc | apply Kd.S_drewN | apply Kd.S_drew)); exact HO113.out) : p := h
theorem d3d {p : Prop} (h : p := by first | rfl | (simp [errW_none, errW_some] <;> rfl) | (simp [*, errW_none, errW_some] <;> rfl)) : p := h
set_option maxHeartbeats 8000000 in
set_option maxRecDepth 100000 in
theorem perigeelaw10_PassesTextsComeBack.calls (k : Nat) (A0 : Option Addr) (c0 : Nat) (l0 : List (S55)) (a1 : ByteArray) (r : Bool) (w : World) (hr0 : Kd.C k55 w A0 l0.length l0) (hc0 : l0.length ≤ c0) (hV : VarsOK w) (h : perigeelaw10_PassesTextsComeBack.f k l0 a1 = some r) :
 Calls Tryd.prog 3 #[.slice A0 l0.length c0, .string a1] w fun e w' => e = .returned (.bool r) ∧ Below w.heap.size w w' := by
 have HV := Aside0.mk hV
 clear hV
 have HR0 := Aside0.mk hr0
 have HC0 := Aside0.mk hc0
 clear hr0 hc0
 have HB := Aside0.mk (Below.refl w.heap.size w)
 have H : ((contact_Text.f k l0).bind fun bt101 => (if bt101.2 = 0 then ((contact_Read.f k bt101.1).bind fun bt103 => (if bt103.2.2 = 0 then (if bt103.2.1 = 0 then ((perigeeref10_SamePasses.f k bt103.1 l0).bind fun t108 => (if t108 = true then (perigeelaw10_PassesTextsComeBack.j0 k a1) else (some false))) else (some false)) else (some false))) else (perigeelaw10_PassesTextsComeBack.j0 k a1))) = some r := h
 clear h
 replace H := bindS H; obtain ⟨⟨t101, t102⟩, A3, H⟩ := H
 have HC4 := Aside0.mk H
 clear H
 go_enter Tryd.func3, Tryd.ntmps3
 go_upto_if 20 with ((with_reducible refine gate_callee (f := 7) rfl ?_); refine goesL_ (some 16) rfl rfl Tryd.func7 (by kernel_rfl) rfl #[.slice A0 l0.length c0] rfl d3a ?_; (with_reducible refine (contact_Text.calls k _ _ l0 t101 t102 _ ?side1 ?side2 (HV.out.below d3b) A3.out).mono ?_); (case side1 => exact C_go HR0.out); (case side2 => exact HC0.out); rintro e w5 ⟨rfl, hb⟩; refine ⟨_, rfl, ?_⟩; replace HB := Aside0.mk (below_step d3b hb); (try clear hb))
 (try simp only [Act.put, List.setIfInBounds_toArray, List.set_cons_zero, List.set_cons_succ])
 go_cut [] (fun wc => ∃ (kq : Nat), Aside0 (perigeelaw10_PassesTextsComeBack.j0 kq a1 = some r) ∧ Aside0 (kq ≤ k) ∧ Aside0 (Below w.heap.size w wc))
 case first =>
  have H := HC4.out
  clear HC4
  by_cases c6 : t102 = 0
  · rw [if_pos c6] at H
    have c6b0 : (t102 == 0) = true := beq_iff_eq.mpr c6
    have c6b1 : (t102 != 0) = false := bne_eq_false_iff_eq.mpr c6
    clear c6
    (first | rw [c6b0] | (simp only [i64_w, i32_w]; rw [c6b0]) | skip)
    replace H := bindS H; obtain ⟨⟨t103, t104, t105⟩, A7, H⟩ := H
    by_cases c8 : t105 = 0
    · rw [if_pos c8] at H
      have c8b0 : (t105 == 0) = true := beq_iff_eq.mpr c8
      have c8b1 : (t105 != 0) = false := bne_eq_false_iff_eq.mpr c8
      clear c8
      by_cases c9 : t104 = 0
      · rw [if_pos c9] at H
        have c9b0 : (t104 == 0) = true := beq_iff_eq.mpr c9
        have c9b1 : (t104 != 0) = false := bne_eq_false_iff_eq.mpr c9
        clear c9
        replace H := bindS H; obtain ⟨t108, A10, H⟩ := H
        by_cases c11 : t108 = true
        · subst c11
          replace H := iteT H
          have H' := Aside0.mk H
          clear H
          go_wp2_with (first | ((with_reducible refine gate_callee (f := 8) rfl ?_); refine goesL_ (some 23) rfl rfl Tryd.func8 (by kernel_rfl) rfl #[.string t101] rfl d3a ?_; (with_reducible refine (contact_Read.calls k t101 t103 t104 t105 _ (HV.out.below d3b) A7.out).mono ?_); rintro e w12 ⟨v106, rfl, ho0, hb⟩; refine ⟨_, rfl, ?_⟩; have n0_ := Aside0.mk (Kd.S_lower ho0 (below_size d3b)); have n1_ := Aside0.mk (below_step d3b hb); clear HB; have HO107 := n0_; have HB := n1_; clear n0_ n1_; (try clear hb); (try clear ho0); obtain ⟨Ao13, co13, eo13⟩ := Kd.S_slice HO107.out; subst eo13) | (go_at_call 9; (with_reducible refine (perigeeref10_SamePasses.calls k _ _ t103 _ _ l0 true _ ?side1 ?side2 ?side3 ?side4 A10.out).mono ?_); (case side1 => exact C_go (Kd.S_reads' HO107.out).2.2); (case side2 => exact (Kd.S_reads' HO107.out).2.1); (case side3 => exact C_go (Kd.C_below HR0.out HB.out)); (case side4 => exact HC0.out); rintro e w' ⟨rfl, ⟨nd, rfl⟩⟩))
          go_meet
          case rel => exact ⟨_, H', ⟨by first | omega | exact Nat.le_refl _⟩, ⟨d3b⟩⟩
        · replace c11 := Bool.eq_false_iff.mpr c11
          subst c11
          replace H := iteF H
          obtain rfl := Option.some.inj H
          go_wp2_with (first | ((with_reducible refine gate_callee (f := 8) rfl ?_); refine goesL_ (some 23) rfl rfl Tryd.func8 (by kernel_rfl) rfl #[.string t101] rfl d3a ?_; (with_reducible refine (contact_Read.calls k t101 t103 t104 t105 _ (HV.out.below d3b) A7.out).mono ?_); rintro e w14 ⟨v106, rfl, ho0, hb⟩; refine ⟨_, rfl, ?_⟩; have n0_ := Aside0.mk (Kd.S_lower ho0 (below_size d3b)); have n1_ := Aside0.mk (below_step d3b hb); clear HB; have HO107 := n0_; have HB := n1_; clear n0_ n1_; (try clear hb); (try clear ho0); obtain ⟨Ao15, co15, eo15⟩ := Kd.S_slice HO107.out; subst eo15) | (go_at_call 9; (with_reducible refine (perigeeref10_SamePasses.calls k _ _ t103 _ _ l0 false _ ?side1 ?side2 ?side3 ?side4 A10.out).mono ?_); (case side1 => exact C_go (Kd.S_reads' HO107.out).2.2); (case side2 => exact (Kd.S_reads' HO107.out).2.1); (case side3 => exact C_go (Kd.C_below HR0.out HB.out)); (case side4 => exact HC0.out); rintro e w' ⟨rfl, ⟨nd, rfl⟩⟩))
          go_ret
          exact ⟨d3d, d3b⟩
      · rw [if_neg c9] at H
        have c9b0 : (t104 == 0) = false := beq_eq_false_iff_ne.mpr c9
        have c9b1 : (t104 != 0) = true := bne_iff_ne.mpr c9
        obtain rfl := Option.some.inj H
        go_wp2_with ((with_reducible refine gate_callee (f := 8) rfl ?_); refine goesL_ (some 23) rfl rfl Tryd.func8 (by kernel_rfl) rfl #[.string t101] rfl d3a ?_; (with_reducible refine (contact_Read.calls k t101 t103 t104 t105 _ (HV.out.below d3b) A7.out).mono ?_); rintro e w16 ⟨v106, rfl, ho0, hb⟩; refine ⟨_, rfl, ?_⟩; have n0_ := Aside0.mk (Kd.S_lower ho0 (below_size d3b)); have n1_ := Aside0.mk (below_step d3b hb); clear HB; have HO107 := n0_; have HB := n1_; clear n0_ n1_; (try clear hb); (try clear ho0))
        go_ret
        exact ⟨d3d, d3b⟩
    · rw [if_neg c8] at H
      have c8b0 : (t105 == 0) = false := beq_eq_false_iff_ne.mpr c8
      have c8b1 : (t105 != 0) = true := bne_iff_ne.mpr c8
      obtain rfl := Option.some.inj H
      go_wp2_with ((with_reducible refine gate_callee (f := 8) rfl ?_); refine goesL_ (some 23) rfl rfl Tryd.func8 (by kernel_rfl) rfl #[.string t101] rfl d3a ?_; (with_reducible refine (contact_Read.calls k t101 t103 t104 t105 _ (HV.out.below d3b) A7.out).mono ?_); rintro e w17 ⟨v106, rfl, ho0, hb⟩; refine ⟨_, rfl, ?_⟩; have n0_ := Aside0.mk (Kd.S_lower ho0 (below_size d3b)); have n1_ := Aside0.mk (below_step d3b hb); clear HB; have HO107 := n0_; have HB := n1_; clear n0_ n1_; (try clear hb); (try clear ho0))
      go_ret
      exact ⟨d3d, d3b⟩
  · rw [if_neg c6] at H
    have c6b0 : (t102 == 0) = false := beq_eq_false_iff_ne.mpr c6
    have c6b1 : (t102 != 0) = true := bne_iff_ne.mpr c6
    (first | rw [c6b0] | (simp only [i64_w, i32_w]; rw [c6b0]) | skip)
    have H' := Aside0.mk H
    clear H
    go_wp2
    go_meet
    case rel => exact ⟨_, H', ⟨by first | omega | exact Nat.le_refl _⟩, ⟨d3b⟩⟩
 case rest =>
  clear HC4
  obtain ⟨kq, HA, HJ3, HB⟩ := hcut
  cases kq with
  | zero => exact absurd HA.out (by simp [perigeelaw10_PassesTextsComeBack.j0])
  | succ kj3 =>
   have H := HA.out
   clear HA
   simp only [perigeelaw10_PassesTextsComeBack.j0] at H
   replace H := bindS H; obtain ⟨⟨t109, t110, t111⟩, A18, H⟩ := H
   by_cases c19 : t111 = 0
   · rw [if_pos c19] at H
     have c19b0 : (t111 == 0) = true := beq_iff_eq.mpr c19
     have c19b1 : (t111 != 0) = false := bne_eq_false_iff_eq.mpr c19
     clear c19
     replace H := bindS H; obtain ⟨⟨t114, t115⟩, A20, H⟩ := H
     by_cases c21 : t115 = 0
     · rw [if_pos c21] at H
       have c21b0 : (t115 == 0) = true := beq_iff_eq.mpr c21
       have c21b1 : (t115 != 0) = false := bne_eq_false_iff_eq.mpr c21
       clear c21
       by_cases c22 : t114.toList = a1.toList
       · rw [if_pos c22] at H
         have c22b0 : (t114.toList == a1.toList) = true := beq_iff_eq.mpr c22
         have c22b1 : (t114.toList != a1.toList) = false := bne_eq_false_iff_eq.mpr c22
         clear c22
         replace H := bindS H; obtain ⟨t116, A23, H⟩ := H
         obtain rfl := Option.some.inj H
         go_wp2_with (first | ((with_reducible refine gate_callee (f := 8) rfl ?_); refine goesL_ (some 41) rfl rfl Tryd.func8 (by kernel_rfl) rfl #[.string a1] rfl d3a ?_; (with_reducible refine (contact_Read.calls kj3 a1 t109 t110 t111 _ (HV.out.below d3b) A18.out).mono ?_); rintro e w24 ⟨v112, rfl, ho0, hb⟩; refine ⟨_, rfl, ?_⟩; have n0_ := Aside0.mk (Kd.S_lower ho0 (below_size d3b)); have n1_ := Aside0.mk (below_step d3b hb); clear HB; have HO113 := n0_; have HB := n1_; clear n0_ n1_; (try clear hb); (try clear ho0); obtain ⟨Ao25, co25, eo25⟩ := Kd.S_slice HO113.out; subst eo25) | ((with_reducible refine gate_callee (f := 7) rfl ?_); refine goesL_ (some 55) rfl rfl Tryd.func7 (by kernel_rfl) rfl #[.slice Ao25 t109.length co25] rfl d3a ?_; (with_reducible refine (contact_Text.calls kj3 _ _ t109 t114 t115 _ ?side1 ?side2 (HV.out.below d3b) A20.out).mono ?_); (case side1 => exact C_go (Kd.S_reads' HO113.out).2.2); (case side2 => exact (Kd.S_reads' HO113.out).2.1); rintro e w26 ⟨rfl, hb⟩; refine ⟨_, rfl, ?_⟩; have n0_ := Aside0.mk (Kd.S_below d3c hb); have n1_ := Aside0.mk (below_step d3b hb); clear HO113; clear HB; have HO113 := n0_; have HB := n1_; clear n0_ n1_; (try clear hb)) | (go_at_call 10; (with_reducible refine (perigeelaw10_awake.calls kj3  t116 _ A23.out).mono ?_); rintro e w27 ⟨rfl, hb⟩; have n0_ := Aside0.mk (Kd.S_below d3c hb); have n1_ := Aside0.mk (below_step d3b hb); clear HO113; clear HB; have HO113 := n0_; have HB := n1_; clear n0_ n1_; (try clear hb)))
         go_ret
         exact ⟨d3d, d3b⟩
       · rw [if_neg c22] at H
         have c22b0 : (t114.toList == a1.toList) = false := beq_eq_false_iff_ne.mpr c22
         have c22b1 : (t114.toList != a1.toList) = true := bne_iff_ne.mpr c22
         obtain rfl := Option.some.inj H
         go_wp2_with (first | ((with_reducible refine gate_callee (f := 8) rfl ?_); refine goesL_ (some 41) rfl rfl Tryd.func8 (by kernel_rfl) rfl #[.string a1] rfl d3a ?_; (with_reducible refine (contact_Read.calls kj3 a1 t109 t110 t111 _ (HV.out.below d3b) A18.out).mono ?_); rintro e w28 ⟨v112, rfl, ho0, hb⟩; refine ⟨_, rfl, ?_⟩; have n0_ := Aside0.mk (Kd.S_lower ho0 (below_size d3b)); have n1_ := Aside0.mk (below_step d3b hb); clear HB; have HO113 := n0_; have HB := n1_; clear n0_ n1_; (try clear hb); (try clear ho0); obtain ⟨Ao29, co29, eo29⟩ := Kd.S_slice HO113.out; subst eo29) | ((with_reducible refine gate_callee (f := 7) rfl ?_); refine goesL_ (some 55) rfl rfl Tryd.func7 (by kernel_rfl) rfl #[.slice Ao29 t109.length co29] rfl d3a ?_; (with_reducible refine (contact_Text.calls kj3 _ _ t109 t114 t115 _ ?side1 ?side2 (HV.out.below d3b) A20.out).mono ?_); (case side1 => exact C_go (Kd.S_reads' HO113.out).2.2); (case side2 => exact (Kd.S_reads' HO113.out).2.1); rintro e w30 ⟨rfl, hb⟩; refine ⟨_, rfl, ?_⟩; have n0_ := Aside0.mk (Kd.S_below d3c hb); have n1_ := Aside0.mk (below_step d3b hb); clear HO113; clear HB; have HO113 := n0_; have HB := n1_; clear n0_ n1_; (try clear hb)))
         go_ret
         exact ⟨d3d, d3b⟩
     · rw [if_neg c21] at H
       have c21b0 : (t115 == 0) = false := beq_eq_false_iff_ne.mpr c21
       have c21b1 : (t115 != 0) = true := bne_iff_ne.mpr c21
       obtain rfl := Option.some.inj H
       go_wp2_with (first | ((with_reducible refine gate_callee (f := 8) rfl ?_); refine goesL_ (some 41) rfl rfl Tryd.func8 (by kernel_rfl) rfl #[.string a1] rfl d3a ?_; (with_reducible refine (contact_Read.calls kj3 a1 t109 t110 t111 _ (HV.out.below d3b) A18.out).mono ?_); rintro e w31 ⟨v112, rfl, ho0, hb⟩; refine ⟨_, rfl, ?_⟩; have n0_ := Aside0.mk (Kd.S_lower ho0 (below_size d3b)); have n1_ := Aside0.mk (below_step d3b hb); clear HB; have HO113 := n0_; have HB := n1_; clear n0_ n1_; (try clear hb); (try clear ho0); obtain ⟨Ao32, co32, eo32⟩ := Kd.S_slice HO113.out; subst eo32) | ((with_reducible refine gate_callee (f := 7) rfl ?_); refine goesL_ (some 55) rfl rfl Tryd.func7 (by kernel_rfl) rfl #[.slice Ao32 t109.length co32] rfl d3a ?_; (with_reducible refine (contact_Text.calls kj3 _ _ t109 t114 t115 _ ?side1 ?side2 (HV.out.below d3b) A20.out).mono ?_); (case side1 => exact C_go (Kd.S_reads' HO113.out).2.2); (case side2 => exact (Kd.S_reads' HO113.out).2.1); rintro e w33 ⟨rfl, hb⟩; refine ⟨_, rfl, ?_⟩; have n0_ := Aside0.mk (Kd.S_below d3c hb); have n1_ := Aside0.mk (below_step d3b hb); clear HO113; clear HB; have HO113 := n0_; have HB := n1_; clear n0_ n1_; (try clear hb)))
       go_ret
       exact ⟨d3d, d3b⟩
   · rw [if_neg c19] at H
     have c19b0 : (t111 == 0) = false := beq_eq_false_iff_ne.mpr c19
     have c19b1 : (t111 != 0) = true := bne_iff_ne.mpr c19
     by_cases c34 : (t109.length : Int) = 0
     · rw [if_pos c34] at H
       have c34b0 : ((t109.length : Int) == 0) = true := beq_iff_eq.mpr c34
       have c34b1 : ((t109.length : Int) != 0) = false := bne_eq_false_iff_eq.mpr c34
       clear c34
       replace H := bindS H; obtain ⟨t117, A35, H⟩ := H
       obtain rfl := Option.some.inj H
       go_wp2_with (first | ((with_reducible refine gate_callee (f := 8) rfl ?_); refine goesL_ (some 41) rfl rfl Tryd.func8 (by kernel_rfl) rfl #[.string a1] rfl d3a ?_; (with_reducible refine (contact_Read.calls kj3 a1 t109 t110 t111 _ (HV.out.below d3b) A18.out).mono ?_); rintro e w36 ⟨v112, rfl, ho0, hb⟩; refine ⟨_, rfl, ?_⟩; have n0_ := Aside0.mk (Kd.S_lower ho0 (below_size d3b)); have n1_ := Aside0.mk (below_step d3b hb); clear HB; have HO113 := n0_; have HB := n1_; clear n0_ n1_; (try clear hb); (try clear ho0); obtain ⟨Ao37, co37, eo37⟩ := Kd.S_slice HO113.out; subst eo37) | (go_at_call 10; (with_reducible refine (perigeelaw10_awake.calls kj3  t117 _ A35.out).mono ?_); rintro e w38 ⟨rfl, hb⟩; have n0_ := Aside0.mk (Kd.S_below d3c hb); have n1_ := Aside0.mk (below_step d3b hb); clear HO113; clear HB; have HO113 := n0_; have HB := n1_; clear n0_ n1_; (try clear hb)))
       go_ret
       exact ⟨d3d, d3b⟩
     · rw [if_neg c34] at H
       have c34b0 : ((t109.length : Int) == 0) = false := beq_eq_false_iff_ne.mpr c34
       have c34b1 : ((t109.length : Int) != 0) = true := bne_iff_ne.mpr c34
       have c34b2 : ¬ (t109 = []) := fun h_ => c34 (by rw [h_]; rfl)
       obtain rfl := Option.some.inj H
       go_wp2_with ((with_reducible refine gate_callee (f := 8) rfl ?_); refine goesL_ (some 41) rfl rfl Tryd.func8 (by kernel_rfl) rfl #[.string a1] rfl d3a ?_; (with_reducible refine (contact_Read.calls kj3 a1 t109 t110 t111 _ (HV.out.below d3b) A18.out).mono ?_); rintro e w39 ⟨v112, rfl, ho0, hb⟩; refine ⟨_, rfl, ?_⟩; have n0_ := Aside0.mk (Kd.S_lower ho0 (below_size d3b)); have n1_ := Aside0.mk (below_step d3b hb); clear HB; have HO113 := n0_; have HB := n1_; clear n0_ n1_; (try clear hb); (try clear ho0); obtain ⟨Ao40, co40, eo40⟩ := Kd.S_slice HO113.out; subst eo40)
       go_ret
       exact ⟨d3d, d3b⟩
end Go.Proofs.YtbngmblgkkdhpaaDoor.Q
