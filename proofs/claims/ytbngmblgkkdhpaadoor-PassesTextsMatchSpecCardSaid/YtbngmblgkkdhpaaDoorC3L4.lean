-- Made by wip/tools/claimp.py of this session's texts; Lean checks it.
import Derived.Test.YtbngmblgkkdhpaaDoorC3Q0
import Derived.Test.YtbngmblgkkdhpaaDoorC3Gd2
import Derived.Test.YtbngmblgkkdhpaaDoorC3Gd3
import Derived.Test.YtbngmblgkkdhpaaDoorC3Gd4
import Derived.Test.YtbngmblgkkdhpaaDoorC3Gd5
import Derived.Test.YtbngmblgkkdhpaaDoorC3Gd8
import Derived.Test.YtbngmblgkkdhpaaDoorC3Gd9
namespace Go.Proofs.YtbngmblgkkdhpaaDoor.Q
open Go.RowKit Go.Proofs.YtbngmblgkkdhpaaDoorW.PrintWords Go.Proofs.YtbngmblgkkdhpaaDoorW.PrintLast Go.Proofs.YtbngmblgkkdhpaaDoorW.PrintMore
attribute [local go_sem] max2_int min2_int max_two min_two max_three min_three max_four min_four
open Go.Proofs.YtbngmblgkkdhpaaDoor.Base
attribute [local go_sem high] str_leq str_gtr str_geq
set_option linter.unusedVariables false
set_option linter.unusedSimpArgs false
def perigeelaw10_PassesTextsMatchSpec.f (k : Nat) (l0 : List (S55)) (a1 : ByteArray) : Option (Bool) := (contact_Text.f k l0).bind fun bt101 => ((perigeeref10_Text.f k l0).bind fun bt103 => ((contact_Read.f k a1).bind fun bt105 => ((perigeeref10_Read.f k a1).bind fun bt110 => (if bt101.1.toList = bt103.1.toList then (if bt101.2 = bt103.2 then ((perigeeref10_SamePasses.f k bt105.1 bt110.1).bind fun t115 => (if t115 = true then (if bt105.2.1 = bt110.2.1 then (if bt105.2.2 = bt110.2.2 then ((perigeelaw10_awake.f k).bind fun t116 => (some t116)) else (some false)) else (some false)) else (some false))) else (some false)) else (some false)))))
theorem d4a {p : Prop} (h : p := by (try simp only [List.map_toArray, List.map_cons, List.map_nil]); first | done | rfl | (simp only [List.length_drop, List.length_take]; rfl)) : p := h
theorem d4b {p : Prop} (h : p := by repeat (first | (with_reducible first | exact HB.out | apply below_alloc | apply pw_below_drewN | apply below_drew1) | exact HB.out)) : p := h
theorem d4c {p : Prop} (h : p := by (with_reducible repeat (first | apply Kd.S_alloc | apply Kd.S_drewN | apply Kd.S_drew)); exact HO109.out) : p := h
theorem d4d {p : Prop} (h : p := by first | rfl | (simp [errW_none, errW_some] <;> rfl) | (simp [*, errW_none, errW_some] <;> rfl)) : p := h
theorem d4e {p : Prop} (h : p := by exact C_go (Kd.C_below HR0.out HB.out)) : p := h
theorem d4f {p : Prop} (h : p := by exact C_go (Kd.S_reads' HO109.out).2.2) : p := h
theorem d4g {p : Prop} (h : p := by exact C_go (Kd.S_reads' HO114.out).2.2) : p := h
set_option maxHeartbeats 8000000 in
set_option maxRecDepth 100000 in
theorem perigeelaw10_PassesTextsMatchSpec.calls (k : Nat) (A0 : Option Addr) (c0 : Nat) (l0 : List (S55)) (a1 : ByteArray) (r : Bool) (w : World) (hr0 : Kd.C k55 w A0 l0.length l0) (hc0 : l0.length ≤ c0) (hV : VarsOK w) (h : perigeelaw10_PassesTextsMatchSpec.f k l0 a1 = some r) :
 Calls Tryd.prog 4 #[.slice A0 l0.length c0, .string a1] w fun e w' => e = .returned (.bool r) ∧ Below w.heap.size w w' := by
 have HV := Aside0.mk hV
 clear hV
 have HR0 := Aside0.mk hr0
 have HC0 := Aside0.mk hc0
 clear hr0 hc0
 have HB := Aside0.mk (Below.refl w.heap.size w)
 have H : ((contact_Text.f k l0).bind fun bt101 => ((perigeeref10_Text.f k l0).bind fun bt103 => ((contact_Read.f k a1).bind fun bt105 => ((perigeeref10_Read.f k a1).bind fun bt110 => (if bt101.1.toList = bt103.1.toList then (if bt101.2 = bt103.2 then ((perigeeref10_SamePasses.f k bt105.1 bt110.1).bind fun t115 => (if t115 = true then (if bt105.2.1 = bt110.2.1 then (if bt105.2.2 = bt110.2.2 then ((perigeelaw10_awake.f k).bind fun t116 => (some t116)) else (some false)) else (some false)) else (some false))) else (some false)) else (some false)))))) = some r := h
 clear h
 replace H := bindS H; obtain ⟨⟨t101, t102⟩, A3, H⟩ := H
 replace H := bindS H; obtain ⟨⟨t103, t104⟩, A4, H⟩ := H
 replace H := bindS H; obtain ⟨⟨t105, t106, t107⟩, A5, H⟩ := H
 replace H := bindS H; obtain ⟨⟨t110, t111, t112⟩, A6, H⟩ := H
 by_cases c7 : t101.toList = t103.toList
 · rw [if_pos c7] at H
   have c7b0 : (t101.toList == t103.toList) = true := beq_iff_eq.mpr c7
   have c7b1 : (t101.toList != t103.toList) = false := bne_eq_false_iff_eq.mpr c7
   clear c7
   by_cases c8 : t102 = t104
   · rw [if_pos c8] at H
     have c8b0 : (t102 == t104) = true := beq_iff_eq.mpr c8
     have c8b1 : (t102 != t104) = false := bne_eq_false_iff_eq.mpr c8
     clear c8
     replace H := bindS H; obtain ⟨t115, A9, H⟩ := H
     by_cases c10 : t115 = true
     · subst c10
       replace H := iteT H
       by_cases c11 : t106 = t111
       · rw [if_pos c11] at H
         have c11b0 : (t106 == t111) = true := beq_iff_eq.mpr c11
         have c11b1 : (t106 != t111) = false := bne_eq_false_iff_eq.mpr c11
         clear c11
         by_cases c12 : t107 = t112
         · rw [if_pos c12] at H
           have c12b0 : (t107 == t112) = true := beq_iff_eq.mpr c12
           have c12b1 : (t107 != t112) = false := bne_eq_false_iff_eq.mpr c12
           clear c12
           replace H := bindS H; obtain ⟨t116, A13, H⟩ := H
           obtain rfl := Option.some.inj H
           go_enter Tryd.func4, Tryd.ntmps4
           go_wp2_with (first | ((with_reducible refine gate_callee (f := 7) rfl ?_); refine goesL_ (some 17) rfl rfl Tryd.func7 (by kernel_rfl) rfl #[.slice A0 l0.length c0] rfl d4a ?_; (with_reducible refine (contact_Text.calls k _ _ l0 t101 t102 _ ?side1 ?side2 (HV.out.below d4b) A3.out).mono ?_); (case side1 => exact C_go HR0.out); (case side2 => exact HC0.out); rintro e w14 ⟨rfl, hb⟩; refine ⟨_, rfl, ?_⟩; replace HB := Aside0.mk (below_step d4b hb); (try clear hb)) | ((with_reducible refine gate_callee (f := 11) rfl ?_); refine goesL_ (some 22) rfl rfl Tryd.func11 (by kernel_rfl) rfl #[.slice A0 l0.length c0] rfl d4a ?_; (with_reducible refine (perigeeref10_Text.calls k _ _ l0 t103 t104 _ ?side1 ?side2 (HV.out.below d4b) A4.out).mono ?_); (case side1 => exact d4e); (case side2 => exact HC0.out); rintro e w15 ⟨rfl, hb⟩; refine ⟨_, rfl, ?_⟩; replace HB := Aside0.mk (below_step d4b hb); (try clear hb)) | ((with_reducible refine gate_callee (f := 8) rfl ?_); refine goesL_ (some 27) rfl rfl Tryd.func8 (by kernel_rfl) rfl #[.string a1] rfl d4a ?_; (with_reducible refine (contact_Read.calls k a1 t105 t106 t107 _ (HV.out.below d4b) A5.out).mono ?_); rintro e w16 ⟨v108, rfl, ho0, hb⟩; refine ⟨_, rfl, ?_⟩; have n0_ := Aside0.mk (Kd.S_lower ho0 (below_size d4b)); have n1_ := Aside0.mk (below_step d4b hb); clear HB; have HO109 := n0_; have HB := n1_; clear n0_ n1_; (try clear hb); (try clear ho0)) | ((with_reducible refine gate_callee (f := 12) rfl ?_); refine goesL_ (some 33) rfl rfl Tryd.func12 (by kernel_rfl) rfl #[.string a1] rfl d4a ?_; (with_reducible refine (perigeeref10_Read.calls k a1 t110 t111 t112 _ (HV.out.below d4b) A6.out).mono ?_); rintro e w17 ⟨v113, rfl, ho0, hb⟩; refine ⟨_, rfl, ?_⟩; have n0_ := Aside0.mk (Kd.S_elder' d4c (Kd.S_base ho0) hb); have n1_ := Aside0.mk (Kd.S_lower (Kd.S_new' ho0 (Kd.S_lt d4c)) (below_size d4b)); have n2_ := Aside0.mk (below_step d4b hb); clear HO109; clear HB; have HO109 := n0_; have HO114 := n1_; have HB := n2_; clear n0_ n1_ n2_; (try clear hb); (try clear ho0); obtain ⟨Ao18, co18, eo18⟩ := Kd.S_slice HO109.out; subst eo18; obtain ⟨Ao19, co19, eo19⟩ := Kd.S_slice HO114.out; subst eo19) | (go_at_call 9; (with_reducible refine (perigeeref10_SamePasses.calls k _ _ t105 _ _ t110 true _ ?side1 ?side2 ?side3 ?side4 A9.out).mono ?_); (case side1 => exact d4f); (case side2 => exact (Kd.S_reads' HO109.out).2.1); (case side3 => exact d4g); (case side4 => exact (Kd.S_reads' HO114.out).2.1); rintro e w' ⟨rfl, ⟨nd, rfl⟩⟩) | (go_at_call 10; (with_reducible refine (perigeelaw10_awake.calls k  t116 _ A13.out).mono ?_); rintro e w20 ⟨rfl, hb⟩; have n0_ := Aside0.mk (Kd.S_below d4c hb); have n1_ := Aside0.mk (Kd.S_below (by (with_reducible repeat (first | apply Kd.S_alloc | apply Kd.S_drewN | apply Kd.S_drew)); exact HO114.out) hb); have n2_ := Aside0.mk (below_step d4b hb); clear HO109; clear HO114; clear HB; have HO109 := n0_; have HO114 := n1_; have HB := n2_; clear n0_ n1_ n2_; (try clear hb)))
           go_ret
           exact ⟨d4d, d4b⟩
         · rw [if_neg c12] at H
           have c12b0 : (t107 == t112) = false := beq_eq_false_iff_ne.mpr c12
           have c12b1 : (t107 != t112) = true := bne_iff_ne.mpr c12
           obtain rfl := Option.some.inj H
           go_enter Tryd.func4, Tryd.ntmps4
           go_wp2_with (first | ((with_reducible refine gate_callee (f := 7) rfl ?_); refine goesL_ (some 17) rfl rfl Tryd.func7 (by kernel_rfl) rfl #[.slice A0 l0.length c0] rfl d4a ?_; (with_reducible refine (contact_Text.calls k _ _ l0 t101 t102 _ ?side1 ?side2 (HV.out.below d4b) A3.out).mono ?_); (case side1 => exact C_go HR0.out); (case side2 => exact HC0.out); rintro e w21 ⟨rfl, hb⟩; refine ⟨_, rfl, ?_⟩; replace HB := Aside0.mk (below_step d4b hb); (try clear hb)) | ((with_reducible refine gate_callee (f := 11) rfl ?_); refine goesL_ (some 22) rfl rfl Tryd.func11 (by kernel_rfl) rfl #[.slice A0 l0.length c0] rfl d4a ?_; (with_reducible refine (perigeeref10_Text.calls k _ _ l0 t103 t104 _ ?side1 ?side2 (HV.out.below d4b) A4.out).mono ?_); (case side1 => exact d4e); (case side2 => exact HC0.out); rintro e w22 ⟨rfl, hb⟩; refine ⟨_, rfl, ?_⟩; replace HB := Aside0.mk (below_step d4b hb); (try clear hb)) | ((with_reducible refine gate_callee (f := 8) rfl ?_); refine goesL_ (some 27) rfl rfl Tryd.func8 (by kernel_rfl) rfl #[.string a1] rfl d4a ?_; (with_reducible refine (contact_Read.calls k a1 t105 t106 t107 _ (HV.out.below d4b) A5.out).mono ?_); rintro e w23 ⟨v108, rfl, ho0, hb⟩; refine ⟨_, rfl, ?_⟩; have n0_ := Aside0.mk (Kd.S_lower ho0 (below_size d4b)); have n1_ := Aside0.mk (below_step d4b hb); clear HB; have HO109 := n0_; have HB := n1_; clear n0_ n1_; (try clear hb); (try clear ho0)) | ((with_reducible refine gate_callee (f := 12) rfl ?_); refine goesL_ (some 33) rfl rfl Tryd.func12 (by kernel_rfl) rfl #[.string a1] rfl d4a ?_; (with_reducible refine (perigeeref10_Read.calls k a1 t110 t111 t112 _ (HV.out.below d4b) A6.out).mono ?_); rintro e w24 ⟨v113, rfl, ho0, hb⟩; refine ⟨_, rfl, ?_⟩; have n0_ := Aside0.mk (Kd.S_elder' d4c (Kd.S_base ho0) hb); have n1_ := Aside0.mk (Kd.S_lower (Kd.S_new' ho0 (Kd.S_lt d4c)) (below_size d4b)); have n2_ := Aside0.mk (below_step d4b hb); clear HO109; clear HB; have HO109 := n0_; have HO114 := n1_; have HB := n2_; clear n0_ n1_ n2_; (try clear hb); (try clear ho0); obtain ⟨Ao25, co25, eo25⟩ := Kd.S_slice HO109.out; subst eo25; obtain ⟨Ao26, co26, eo26⟩ := Kd.S_slice HO114.out; subst eo26) | (go_at_call 9; (with_reducible refine (perigeeref10_SamePasses.calls k _ _ t105 _ _ t110 true _ ?side1 ?side2 ?side3 ?side4 A9.out).mono ?_); (case side1 => exact d4f); (case side2 => exact (Kd.S_reads' HO109.out).2.1); (case side3 => exact d4g); (case side4 => exact (Kd.S_reads' HO114.out).2.1); rintro e w' ⟨rfl, ⟨nd, rfl⟩⟩))
           go_ret
           exact ⟨d4d, d4b⟩
       · rw [if_neg c11] at H
         have c11b0 : (t106 == t111) = false := beq_eq_false_iff_ne.mpr c11
         have c11b1 : (t106 != t111) = true := bne_iff_ne.mpr c11
         obtain rfl := Option.some.inj H
         go_enter Tryd.func4, Tryd.ntmps4
         go_wp2_with (first | ((with_reducible refine gate_callee (f := 7) rfl ?_); refine goesL_ (some 17) rfl rfl Tryd.func7 (by kernel_rfl) rfl #[.slice A0 l0.length c0] rfl d4a ?_; (with_reducible refine (contact_Text.calls k _ _ l0 t101 t102 _ ?side1 ?side2 (HV.out.below d4b) A3.out).mono ?_); (case side1 => exact C_go HR0.out); (case side2 => exact HC0.out); rintro e w27 ⟨rfl, hb⟩; refine ⟨_, rfl, ?_⟩; replace HB := Aside0.mk (below_step d4b hb); (try clear hb)) | ((with_reducible refine gate_callee (f := 11) rfl ?_); refine goesL_ (some 22) rfl rfl Tryd.func11 (by kernel_rfl) rfl #[.slice A0 l0.length c0] rfl d4a ?_; (with_reducible refine (perigeeref10_Text.calls k _ _ l0 t103 t104 _ ?side1 ?side2 (HV.out.below d4b) A4.out).mono ?_); (case side1 => exact d4e); (case side2 => exact HC0.out); rintro e w28 ⟨rfl, hb⟩; refine ⟨_, rfl, ?_⟩; replace HB := Aside0.mk (below_step d4b hb); (try clear hb)) | ((with_reducible refine gate_callee (f := 8) rfl ?_); refine goesL_ (some 27) rfl rfl Tryd.func8 (by kernel_rfl) rfl #[.string a1] rfl d4a ?_; (with_reducible refine (contact_Read.calls k a1 t105 t106 t107 _ (HV.out.below d4b) A5.out).mono ?_); rintro e w29 ⟨v108, rfl, ho0, hb⟩; refine ⟨_, rfl, ?_⟩; have n0_ := Aside0.mk (Kd.S_lower ho0 (below_size d4b)); have n1_ := Aside0.mk (below_step d4b hb); clear HB; have HO109 := n0_; have HB := n1_; clear n0_ n1_; (try clear hb); (try clear ho0)) | ((with_reducible refine gate_callee (f := 12) rfl ?_); refine goesL_ (some 33) rfl rfl Tryd.func12 (by kernel_rfl) rfl #[.string a1] rfl d4a ?_; (with_reducible refine (perigeeref10_Read.calls k a1 t110 t111 t112 _ (HV.out.below d4b) A6.out).mono ?_); rintro e w30 ⟨v113, rfl, ho0, hb⟩; refine ⟨_, rfl, ?_⟩; have n0_ := Aside0.mk (Kd.S_elder' d4c (Kd.S_base ho0) hb); have n1_ := Aside0.mk (Kd.S_lower (Kd.S_new' ho0 (Kd.S_lt d4c)) (below_size d4b)); have n2_ := Aside0.mk (below_step d4b hb); clear HO109; clear HB; have HO109 := n0_; have HO114 := n1_; have HB := n2_; clear n0_ n1_ n2_; (try clear hb); (try clear ho0); obtain ⟨Ao31, co31, eo31⟩ := Kd.S_slice HO109.out; subst eo31; obtain ⟨Ao32, co32, eo32⟩ := Kd.S_slice HO114.out; subst eo32) | (go_at_call 9; (with_reducible refine (perigeeref10_SamePasses.calls k _ _ t105 _ _ t110 true _ ?side1 ?side2 ?side3 ?side4 A9.out).mono ?_); (case side1 => exact d4f); (case side2 => exact (Kd.S_reads' HO109.out).2.1); (case side3 => exact d4g); (case side4 => exact (Kd.S_reads' HO114.out).2.1); rintro e w' ⟨rfl, ⟨nd, rfl⟩⟩))
         go_ret
         exact ⟨d4d, d4b⟩
     · replace c10 := Bool.eq_false_iff.mpr c10
       subst c10
       replace H := iteF H
       obtain rfl := Option.some.inj H
       go_enter Tryd.func4, Tryd.ntmps4
       go_wp2_with (first | ((with_reducible refine gate_callee (f := 7) rfl ?_); refine goesL_ (some 17) rfl rfl Tryd.func7 (by kernel_rfl) rfl #[.slice A0 l0.length c0] rfl d4a ?_; (with_reducible refine (contact_Text.calls k _ _ l0 t101 t102 _ ?side1 ?side2 (HV.out.below d4b) A3.out).mono ?_); (case side1 => exact C_go HR0.out); (case side2 => exact HC0.out); rintro e w33 ⟨rfl, hb⟩; refine ⟨_, rfl, ?_⟩; replace HB := Aside0.mk (below_step d4b hb); (try clear hb)) | ((with_reducible refine gate_callee (f := 11) rfl ?_); refine goesL_ (some 22) rfl rfl Tryd.func11 (by kernel_rfl) rfl #[.slice A0 l0.length c0] rfl d4a ?_; (with_reducible refine (perigeeref10_Text.calls k _ _ l0 t103 t104 _ ?side1 ?side2 (HV.out.below d4b) A4.out).mono ?_); (case side1 => exact d4e); (case side2 => exact HC0.out); rintro e w34 ⟨rfl, hb⟩; refine ⟨_, rfl, ?_⟩; replace HB := Aside0.mk (below_step d4b hb); (try clear hb)) | ((with_reducible refine gate_callee (f := 8) rfl ?_); refine goesL_ (some 27) rfl rfl Tryd.func8 (by kernel_rfl) rfl #[.string a1] rfl d4a ?_; (with_reducible refine (contact_Read.calls k a1 t105 t106 t107 _ (HV.out.below d4b) A5.out).mono ?_); rintro e w35 ⟨v108, rfl, ho0, hb⟩; refine ⟨_, rfl, ?_⟩; have n0_ := Aside0.mk (Kd.S_lower ho0 (below_size d4b)); have n1_ := Aside0.mk (below_step d4b hb); clear HB; have HO109 := n0_; have HB := n1_; clear n0_ n1_; (try clear hb); (try clear ho0)) | ((with_reducible refine gate_callee (f := 12) rfl ?_); refine goesL_ (some 33) rfl rfl Tryd.func12 (by kernel_rfl) rfl #[.string a1] rfl d4a ?_; (with_reducible refine (perigeeref10_Read.calls k a1 t110 t111 t112 _ (HV.out.below d4b) A6.out).mono ?_); rintro e w36 ⟨v113, rfl, ho0, hb⟩; refine ⟨_, rfl, ?_⟩; have n0_ := Aside0.mk (Kd.S_elder' d4c (Kd.S_base ho0) hb); have n1_ := Aside0.mk (Kd.S_lower (Kd.S_new' ho0 (Kd.S_lt d4c)) (below_size d4b)); have n2_ := Aside0.mk (below_step d4b hb); clear HO109; clear HB; have HO109 := n0_; have HO114 := n1_; have HB := n2_; clear n0_ n1_ n2_; (try clear hb); (try clear ho0); obtain ⟨Ao37, co37, eo37⟩ := Kd.S_slice HO109.out; subst eo37; obtain ⟨Ao38, co38, eo38⟩ := Kd.S_slice HO114.out; subst eo38) | (go_at_call 9; (with_reducible refine (perigeeref10_SamePasses.calls k _ _ t105 _ _ t110 false _ ?side1 ?side2 ?side3 ?side4 A9.out).mono ?_); (case side1 => exact d4f); (case side2 => exact (Kd.S_reads' HO109.out).2.1); (case side3 => exact d4g); (case side4 => exact (Kd.S_reads' HO114.out).2.1); rintro e w' ⟨rfl, ⟨nd, rfl⟩⟩))
       go_ret
       exact ⟨d4d, d4b⟩
   · rw [if_neg c8] at H
     have c8b0 : (t102 == t104) = false := beq_eq_false_iff_ne.mpr c8
     have c8b1 : (t102 != t104) = true := bne_iff_ne.mpr c8
     obtain rfl := Option.some.inj H
     go_enter Tryd.func4, Tryd.ntmps4
     go_wp2_with (first | ((with_reducible refine gate_callee (f := 7) rfl ?_); refine goesL_ (some 17) rfl rfl Tryd.func7 (by kernel_rfl) rfl #[.slice A0 l0.length c0] rfl d4a ?_; (with_reducible refine (contact_Text.calls k _ _ l0 t101 t102 _ ?side1 ?side2 (HV.out.below d4b) A3.out).mono ?_); (case side1 => exact C_go HR0.out); (case side2 => exact HC0.out); rintro e w39 ⟨rfl, hb⟩; refine ⟨_, rfl, ?_⟩; replace HB := Aside0.mk (below_step d4b hb); (try clear hb)) | ((with_reducible refine gate_callee (f := 11) rfl ?_); refine goesL_ (some 22) rfl rfl Tryd.func11 (by kernel_rfl) rfl #[.slice A0 l0.length c0] rfl d4a ?_; (with_reducible refine (perigeeref10_Text.calls k _ _ l0 t103 t104 _ ?side1 ?side2 (HV.out.below d4b) A4.out).mono ?_); (case side1 => exact d4e); (case side2 => exact HC0.out); rintro e w40 ⟨rfl, hb⟩; refine ⟨_, rfl, ?_⟩; replace HB := Aside0.mk (below_step d4b hb); (try clear hb)) | ((with_reducible refine gate_callee (f := 8) rfl ?_); refine goesL_ (some 27) rfl rfl Tryd.func8 (by kernel_rfl) rfl #[.string a1] rfl d4a ?_; (with_reducible refine (contact_Read.calls k a1 t105 t106 t107 _ (HV.out.below d4b) A5.out).mono ?_); rintro e w41 ⟨v108, rfl, ho0, hb⟩; refine ⟨_, rfl, ?_⟩; have n0_ := Aside0.mk (Kd.S_lower ho0 (below_size d4b)); have n1_ := Aside0.mk (below_step d4b hb); clear HB; have HO109 := n0_; have HB := n1_; clear n0_ n1_; (try clear hb); (try clear ho0)) | ((with_reducible refine gate_callee (f := 12) rfl ?_); refine goesL_ (some 33) rfl rfl Tryd.func12 (by kernel_rfl) rfl #[.string a1] rfl d4a ?_; (with_reducible refine (perigeeref10_Read.calls k a1 t110 t111 t112 _ (HV.out.below d4b) A6.out).mono ?_); rintro e w42 ⟨v113, rfl, ho0, hb⟩; refine ⟨_, rfl, ?_⟩; have n0_ := Aside0.mk (Kd.S_elder' d4c (Kd.S_base ho0) hb); have n1_ := Aside0.mk (Kd.S_lower (Kd.S_new' ho0 (Kd.S_lt d4c)) (below_size d4b)); have n2_ := Aside0.mk (below_step d4b hb); clear HO109; clear HB; have HO109 := n0_; have HO114 := n1_; have HB := n2_; clear n0_ n1_ n2_; (try clear hb); (try clear ho0)))
     go_ret
     exact ⟨d4d, d4b⟩
 · rw [if_neg c7] at H
   have c7b0 : (t101.toList == t103.toList) = false := beq_eq_false_iff_ne.mpr c7
   have c7b1 : (t101.toList != t103.toList) = true := bne_iff_ne.mpr c7
   obtain rfl := Option.some.inj H
   go_enter Tryd.func4, Tryd.ntmps4
   go_wp2_with (first | ((with_reducible refine gate_callee (f := 7) rfl ?_); refine goesL_ (some 17) rfl rfl Tryd.func7 (by kernel_rfl) rfl #[.slice A0 l0.length c0] rfl d4a ?_; (with_reducible refine (contact_Text.calls k _ _ l0 t101 t102 _ ?side1 ?side2 (HV.out.below d4b) A3.out).mono ?_); (case side1 => exact C_go HR0.out); (case side2 => exact HC0.out); rintro e w43 ⟨rfl, hb⟩; refine ⟨_, rfl, ?_⟩; replace HB := Aside0.mk (below_step d4b hb); (try clear hb)) | ((with_reducible refine gate_callee (f := 11) rfl ?_); refine goesL_ (some 22) rfl rfl Tryd.func11 (by kernel_rfl) rfl #[.slice A0 l0.length c0] rfl d4a ?_; (with_reducible refine (perigeeref10_Text.calls k _ _ l0 t103 t104 _ ?side1 ?side2 (HV.out.below d4b) A4.out).mono ?_); (case side1 => exact d4e); (case side2 => exact HC0.out); rintro e w44 ⟨rfl, hb⟩; refine ⟨_, rfl, ?_⟩; replace HB := Aside0.mk (below_step d4b hb); (try clear hb)) | ((with_reducible refine gate_callee (f := 8) rfl ?_); refine goesL_ (some 27) rfl rfl Tryd.func8 (by kernel_rfl) rfl #[.string a1] rfl d4a ?_; (with_reducible refine (contact_Read.calls k a1 t105 t106 t107 _ (HV.out.below d4b) A5.out).mono ?_); rintro e w45 ⟨v108, rfl, ho0, hb⟩; refine ⟨_, rfl, ?_⟩; have n0_ := Aside0.mk (Kd.S_lower ho0 (below_size d4b)); have n1_ := Aside0.mk (below_step d4b hb); clear HB; have HO109 := n0_; have HB := n1_; clear n0_ n1_; (try clear hb); (try clear ho0)) | ((with_reducible refine gate_callee (f := 12) rfl ?_); refine goesL_ (some 33) rfl rfl Tryd.func12 (by kernel_rfl) rfl #[.string a1] rfl d4a ?_; (with_reducible refine (perigeeref10_Read.calls k a1 t110 t111 t112 _ (HV.out.below d4b) A6.out).mono ?_); rintro e w46 ⟨v113, rfl, ho0, hb⟩; refine ⟨_, rfl, ?_⟩; have n0_ := Aside0.mk (Kd.S_elder' d4c (Kd.S_base ho0) hb); have n1_ := Aside0.mk (Kd.S_lower (Kd.S_new' ho0 (Kd.S_lt d4c)) (below_size d4b)); have n2_ := Aside0.mk (below_step d4b hb); clear HO109; clear HB; have HO109 := n0_; have HO114 := n1_; have HB := n2_; clear n0_ n1_ n2_; (try clear hb); (try clear ho0)))
   go_ret
   exact ⟨d4d, d4b⟩
end Go.Proofs.YtbngmblgkkdhpaaDoor.Q
