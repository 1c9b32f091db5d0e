-- Made by wip/tools/claimp.py of this session's texts; Lean checks it.
import Derived.Test.YtplcdpiggpkppaaDoorC1Q0
import Derived.Test.YtplcdpiggpkppaaDoorC1Gd1
import Derived.Test.YtplcdpiggpkppaaDoorC1Gd5
import Derived.Test.YtplcdpiggpkppaaDoorC1Gd6
import Derived.Test.YtplcdpiggpkppaaDoorC1Gd8
namespace Go.Proofs.YtplcdpiggpkppaaDoor.Q
open Go.RowKit Go.Proofs.YtplcdpiggpkppaaDoorW.PrintWords Go.Proofs.YtplcdpiggpkppaaDoorW.PrintLast Go.Proofs.YtplcdpiggpkppaaDoorW.PrintMore
attribute [local go_sem] max2_int min2_int max_two min_two max_three min_three max_four min_four
open Go.Proofs.YtplcdpiggpkppaaDoor.Base
attribute [local go_sem high] str_leq str_gtr str_geq
set_option linter.unusedVariables false
set_option linter.unusedSimpArgs false
def perigeelaw9_PowerReadsMatchSpec.f (k : Nat) (a0 : ByteArray) : Option (Bool) := (power_Read.f k a0).bind fun bt101 => ((perigeeref9_Read.f k a0).bind fun bt109 => (if bt101.2.2.2 = bt109.2.2.2 then (if bt101.2.2.1 = bt109.2.2.1 then ((api_Load.f k bt101.1 bt109.1).bind fun t117 => (if t117 = true then ((api_Use.f k bt101.2.1 bt109.2.1).bind fun t118 => (if t118 = true then ((perigeelaw9_awake.f k).bind fun t119 => (some t119)) else (some false))) else (some false))) else (some false)) else (some false)))
theorem d4a {p : Prop} (h : p := by (try simp only [List.map_toArray, List.map_cons, List.map_nil]); first | done | rfl | (simp only [List.length_drop, List.length_take]; rfl)) : p := h
theorem d4b {p : Prop} (h : p := by repeat (first | (with_reducible first | exact HB.out | apply below_alloc | apply pw_below_drewN | apply below_drew1) | exact HB.out)) : p := h
theorem d4c {p : Prop} (h : p := by (with_reducible repeat (first | apply Kd.R_alloc | apply Kd.R_drewN | apply Kd.R_drew)); exact HO106.out) : p := h
theorem d4d {p : Prop} (h : p := by (with_reducible repeat (first | apply Kd.R_alloc | apply Kd.R_drewN | apply Kd.R_drew)); exact HO108.out) : p := h
theorem d4e {p : Prop} (h : p := by first | rfl | (simp [errW_none, errW_some] <;> rfl) | (simp [*, errW_none, errW_some] <;> rfl)) : p := h
set_option maxHeartbeats 8000000 in
set_option maxRecDepth 100000 in
theorem perigeelaw9_PowerReadsMatchSpec.calls (k : Nat) (a0 : ByteArray) (r : Bool) (w : World) (hV : VarsOK w) (h : perigeelaw9_PowerReadsMatchSpec.f k a0 = some r) :
 Calls Tryd.prog 4 #[.string a0] w fun e w' => e = .returned (.bool r) ∧ Below w.heap.size w w' := by
 have HV := Aside0.mk hV
 clear hV
 have HB := Aside0.mk (Below.refl w.heap.size w)
 have H : ((power_Read.f k a0).bind fun bt101 => ((perigeeref9_Read.f k a0).bind fun bt109 => (if bt101.2.2.2 = bt109.2.2.2 then (if bt101.2.2.1 = bt109.2.2.1 then ((api_Load.f k bt101.1 bt109.1).bind fun t117 => (if t117 = true then ((api_Use.f k bt101.2.1 bt109.2.1).bind fun t118 => (if t118 = true then ((perigeelaw9_awake.f k).bind fun t119 => (some t119)) else (some false))) else (some false))) else (some false)) else (some false)))) = some r := h
 clear h
 replace H := bindS H; obtain ⟨⟨t101, t102, t103, t104⟩, A2, H⟩ := H
 replace H := bindS H; obtain ⟨⟨t109, t110, t111, t112⟩, A3, H⟩ := H
 by_cases c4 : t104 = t112
 · rw [if_pos c4] at H
   have c4b0 : (t104 == t112) = true := beq_iff_eq.mpr c4
   have c4b1 : (t104 != t112) = false := bne_eq_false_iff_eq.mpr c4
   clear c4
   by_cases c5 : t103 = t111
   · rw [if_pos c5] at H
     have c5b0 : (t103 == t111) = true := beq_iff_eq.mpr c5
     have c5b1 : (t103 != t111) = false := bne_eq_false_iff_eq.mpr c5
     clear c5
     replace H := bindS H; obtain ⟨t117, A6, H⟩ := H
     by_cases c7 : t117 = true
     · subst c7
       replace H := iteT H
       replace H := bindS H; obtain ⟨t118, A8, H⟩ := H
       by_cases c9 : t118 = true
       · subst c9
         replace H := iteT H
         replace H := bindS H; obtain ⟨t119, A10, H⟩ := H
         obtain rfl := Option.some.inj H
         go_enter Tryd.func4, Tryd.ntmps4
         go_wp2_with (first | ((with_reducible refine gate_callee (f := 8) rfl ?_); refine goesL_ (some 13) rfl rfl Tryd.func8 (by kernel_rfl) rfl #[.string a0] rfl d4a ?_; (with_reducible refine (power_Read.calls k a0 t101 t102 t103 t104 _ (HV.out.below d4b) A2.out).mono ?_); rintro e w11 ⟨v105, v107, rfl, ho0, ho1, hb⟩; refine ⟨_, rfl, ?_⟩; have n0_ := Aside0.mk (Kd.R_lower ho0 (below_size d4b)); have n1_ := Aside0.mk (Kd.R_lower ho1 (below_size d4b)); have n2_ := Aside0.mk (below_step d4b hb); clear HB; have HO106 := n0_; have HO108 := n1_; have HB := n2_; clear n0_ n1_ n2_; (try clear hb); (try clear ho0); (try clear ho1)) | ((with_reducible refine gate_callee (f := 11) rfl ?_); refine goesL_ (some 20) rfl rfl Tryd.func11 (by kernel_rfl) rfl #[.string a0] rfl d4a ?_; (with_reducible refine (perigeeref9_Read.calls k a0 t109 t110 t111 t112 _ (HV.out.below d4b) A3.out).mono ?_); rintro e w12 ⟨v113, v115, rfl, ho0, ho1, hb⟩; refine ⟨_, rfl, ?_⟩; have n0_ := Aside0.mk (Kd.R_elder' d4c (Kd.R_base ho0) hb); have n1_ := Aside0.mk (Kd.R_elder' d4d (Kd.R_base ho1) hb); have n2_ := Aside0.mk (Kd.R_lower (Kd.R_new' ho0 (Kd.R_lt d4c)) (below_size d4b)); have n3_ := Aside0.mk (Kd.R_lower (Kd.R_new' ho1 (Kd.R_lt d4d)) (below_size d4b)); have n4_ := Aside0.mk (below_step d4b hb); clear HO106; clear HO108; clear HB; have HO106 := n0_; have HO108 := n1_; have HO114 := n2_; have HO116 := n3_; have HB := n4_; clear n0_ n1_ n2_ n3_ n4_; (try clear hb); (try clear ho0); (try clear ho1); obtain ⟨Ao13, co13, eo13⟩ := Kd.R_slice HO106.out; subst eo13; obtain ⟨Ao14, co14, eo14⟩ := Kd.R_slice HO114.out; subst eo14) | (go_at_call 9; (with_reducible refine (api_Load.calls k _ _ t101 _ _ t109 true _ ?side1 ?side2 ?side3 ?side4 A6.out).mono ?_); (case side1 => exact C_go (Kd.R_reads' HO106.out).2.2); (case side2 => exact (Kd.R_reads' HO106.out).2.1); (case side3 => exact C_go (Kd.R_reads' HO114.out).2.2); (case side4 => exact (Kd.R_reads' HO114.out).2.1); rintro e w' ⟨rfl, ⟨nd, rfl⟩⟩; obtain ⟨Ao15, co15, eo15⟩ := Kd.R_slice HO108.out; subst eo15; obtain ⟨Ao16, co16, eo16⟩ := Kd.R_slice HO116.out; subst eo16) | (go_at_call 10; (with_reducible refine (api_Use.calls k _ _ t102 _ _ t110 true _ ?side1 ?side2 ?side3 ?side4 A8.out).mono ?_); (case side1 => exact C_go (Kd.R_reads' HO108.out).2.2); (case side2 => exact (Kd.R_reads' HO108.out).2.1); (case side3 => exact C_go (Kd.R_reads' HO116.out).2.2); (case side4 => exact (Kd.R_reads' HO116.out).2.1); rintro e w' ⟨rfl, ⟨nd, rfl⟩⟩) | (go_at_call 7; (with_reducible refine (perigeelaw9_awake.calls k  t119 _ A10.out).mono ?_); rintro e w17 ⟨rfl, hb⟩; have n0_ := Aside0.mk (Kd.R_below d4c hb); have n1_ := Aside0.mk (Kd.R_below d4d hb); have n2_ := Aside0.mk (Kd.R_below (by (with_reducible repeat (first | apply Kd.R_alloc | apply Kd.R_drewN | apply Kd.R_drew)); exact HO114.out) hb); have n3_ := Aside0.mk (Kd.R_below (by (with_reducible repeat (first | apply Kd.R_alloc | apply Kd.R_drewN | apply Kd.R_drew)); exact HO116.out) hb); have n4_ := Aside0.mk (below_step d4b hb); clear HO106; clear HO108; clear HO114; clear HO116; clear HB; have HO106 := n0_; have HO108 := n1_; have HO114 := n2_; have HO116 := n3_; have HB := n4_; clear n0_ n1_ n2_ n3_ n4_; (try clear hb)))
         go_ret
         exact ⟨d4e, d4b⟩
       · replace c9 := Bool.eq_false_iff.mpr c9
         subst c9
         replace H := iteF H
         obtain rfl := Option.some.inj H
         go_enter Tryd.func4, Tryd.ntmps4
         go_wp2_with (first | ((with_reducible refine gate_callee (f := 8) rfl ?_); refine goesL_ (some 13) rfl rfl Tryd.func8 (by kernel_rfl) rfl #[.string a0] rfl d4a ?_; (with_reducible refine (power_Read.calls k a0 t101 t102 t103 t104 _ (HV.out.below d4b) A2.out).mono ?_); rintro e w18 ⟨v105, v107, rfl, ho0, ho1, hb⟩; refine ⟨_, rfl, ?_⟩; have n0_ := Aside0.mk (Kd.R_lower ho0 (below_size d4b)); have n1_ := Aside0.mk (Kd.R_lower ho1 (below_size d4b)); have n2_ := Aside0.mk (below_step d4b hb); clear HB; have HO106 := n0_; have HO108 := n1_; have HB := n2_; clear n0_ n1_ n2_; (try clear hb); (try clear ho0); (try clear ho1)) | ((with_reducible refine gate_callee (f := 11) rfl ?_); refine goesL_ (some 20) rfl rfl Tryd.func11 (by kernel_rfl) rfl #[.string a0] rfl d4a ?_; (with_reducible refine (perigeeref9_Read.calls k a0 t109 t110 t111 t112 _ (HV.out.below d4b) A3.out).mono ?_); rintro e w19 ⟨v113, v115, rfl, ho0, ho1, hb⟩; refine ⟨_, rfl, ?_⟩; have n0_ := Aside0.mk (Kd.R_elder' d4c (Kd.R_base ho0) hb); have n1_ := Aside0.mk (Kd.R_elder' d4d (Kd.R_base ho1) hb); have n2_ := Aside0.mk (Kd.R_lower (Kd.R_new' ho0 (Kd.R_lt d4c)) (below_size d4b)); have n3_ := Aside0.mk (Kd.R_lower (Kd.R_new' ho1 (Kd.R_lt d4d)) (below_size d4b)); have n4_ := Aside0.mk (below_step d4b hb); clear HO106; clear HO108; clear HB; have HO106 := n0_; have HO108 := n1_; have HO114 := n2_; have HO116 := n3_; have HB := n4_; clear n0_ n1_ n2_ n3_ n4_; (try clear hb); (try clear ho0); (try clear ho1); obtain ⟨Ao20, co20, eo20⟩ := Kd.R_slice HO106.out; subst eo20; obtain ⟨Ao21, co21, eo21⟩ := Kd.R_slice HO114.out; subst eo21) | (go_at_call 9; (with_reducible refine (api_Load.calls k _ _ t101 _ _ t109 true _ ?side1 ?side2 ?side3 ?side4 A6.out).mono ?_); (case side1 => exact C_go (Kd.R_reads' HO106.out).2.2); (case side2 => exact (Kd.R_reads' HO106.out).2.1); (case side3 => exact C_go (Kd.R_reads' HO114.out).2.2); (case side4 => exact (Kd.R_reads' HO114.out).2.1); rintro e w' ⟨rfl, ⟨nd, rfl⟩⟩; obtain ⟨Ao22, co22, eo22⟩ := Kd.R_slice HO108.out; subst eo22; obtain ⟨Ao23, co23, eo23⟩ := Kd.R_slice HO116.out; subst eo23) | (go_at_call 10; (with_reducible refine (api_Use.calls k _ _ t102 _ _ t110 false _ ?side1 ?side2 ?side3 ?side4 A8.out).mono ?_); (case side1 => exact C_go (Kd.R_reads' HO108.out).2.2); (case side2 => exact (Kd.R_reads' HO108.out).2.1); (case side3 => exact C_go (Kd.R_reads' HO116.out).2.2); (case side4 => exact (Kd.R_reads' HO116.out).2.1); rintro e w' ⟨rfl, ⟨nd, rfl⟩⟩))
         go_ret
         exact ⟨d4e, d4b⟩
     · replace c7 := Bool.eq_false_iff.mpr c7
       subst c7
       replace H := iteF H
       obtain rfl := Option.some.inj H
       go_enter Tryd.func4, Tryd.ntmps4
       go_wp2_with (first | ((with_reducible refine gate_callee (f := 8) rfl ?_); refine goesL_ (some 13) rfl rfl Tryd.func8 (by kernel_rfl) rfl #[.string a0] rfl d4a ?_; (with_reducible refine (power_Read.calls k a0 t101 t102 t103 t104 _ (HV.out.below d4b) A2.out).mono ?_); rintro e w24 ⟨v105, v107, rfl, ho0, ho1, hb⟩; refine ⟨_, rfl, ?_⟩; have n0_ := Aside0.mk (Kd.R_lower ho0 (below_size d4b)); have n1_ := Aside0.mk (Kd.R_lower ho1 (below_size d4b)); have n2_ := Aside0.mk (below_step d4b hb); clear HB; have HO106 := n0_; have HO108 := n1_; have HB := n2_; clear n0_ n1_ n2_; (try clear hb); (try clear ho0); (try clear ho1)) | ((with_reducible refine gate_callee (f := 11) rfl ?_); refine goesL_ (some 20) rfl rfl Tryd.func11 (by kernel_rfl) rfl #[.string a0] rfl d4a ?_; (with_reducible refine (perigeeref9_Read.calls k a0 t109 t110 t111 t112 _ (HV.out.below d4b) A3.out).mono ?_); rintro e w25 ⟨v113, v115, rfl, ho0, ho1, hb⟩; refine ⟨_, rfl, ?_⟩; have n0_ := Aside0.mk (Kd.R_elder' d4c (Kd.R_base ho0) hb); have n1_ := Aside0.mk (Kd.R_elder' d4d (Kd.R_base ho1) hb); have n2_ := Aside0.mk (Kd.R_lower (Kd.R_new' ho0 (Kd.R_lt d4c)) (below_size d4b)); have n3_ := Aside0.mk (Kd.R_lower (Kd.R_new' ho1 (Kd.R_lt d4d)) (below_size d4b)); have n4_ := Aside0.mk (below_step d4b hb); clear HO106; clear HO108; clear HB; have HO106 := n0_; have HO108 := n1_; have HO114 := n2_; have HO116 := n3_; have HB := n4_; clear n0_ n1_ n2_ n3_ n4_; (try clear hb); (try clear ho0); (try clear ho1); obtain ⟨Ao26, co26, eo26⟩ := Kd.R_slice HO106.out; subst eo26; obtain ⟨Ao27, co27, eo27⟩ := Kd.R_slice HO114.out; subst eo27) | (go_at_call 9; (with_reducible refine (api_Load.calls k _ _ t101 _ _ t109 false _ ?side1 ?side2 ?side3 ?side4 A6.out).mono ?_); (case side1 => exact C_go (Kd.R_reads' HO106.out).2.2); (case side2 => exact (Kd.R_reads' HO106.out).2.1); (case side3 => exact C_go (Kd.R_reads' HO114.out).2.2); (case side4 => exact (Kd.R_reads' HO114.out).2.1); rintro e w' ⟨rfl, ⟨nd, rfl⟩⟩))
       go_ret
       exact ⟨d4e, d4b⟩
   · rw [if_neg c5] at H
     have c5b0 : (t103 == t111) = false := beq_eq_false_iff_ne.mpr c5
     have c5b1 : (t103 != t111) = true := bne_iff_ne.mpr c5
     obtain rfl := Option.some.inj H
     go_enter Tryd.func4, Tryd.ntmps4
     go_wp2_with (first | ((with_reducible refine gate_callee (f := 8) rfl ?_); refine goesL_ (some 13) rfl rfl Tryd.func8 (by kernel_rfl) rfl #[.string a0] rfl d4a ?_; (with_reducible refine (power_Read.calls k a0 t101 t102 t103 t104 _ (HV.out.below d4b) A2.out).mono ?_); rintro e w28 ⟨v105, v107, rfl, ho0, ho1, hb⟩; refine ⟨_, rfl, ?_⟩; have n0_ := Aside0.mk (Kd.R_lower ho0 (below_size d4b)); have n1_ := Aside0.mk (Kd.R_lower ho1 (below_size d4b)); have n2_ := Aside0.mk (below_step d4b hb); clear HB; have HO106 := n0_; have HO108 := n1_; have HB := n2_; clear n0_ n1_ n2_; (try clear hb); (try clear ho0); (try clear ho1)) | ((with_reducible refine gate_callee (f := 11) rfl ?_); refine goesL_ (some 20) rfl rfl Tryd.func11 (by kernel_rfl) rfl #[.string a0] rfl d4a ?_; (with_reducible refine (perigeeref9_Read.calls k a0 t109 t110 t111 t112 _ (HV.out.below d4b) A3.out).mono ?_); rintro e w29 ⟨v113, v115, rfl, ho0, ho1, hb⟩; refine ⟨_, rfl, ?_⟩; have n0_ := Aside0.mk (Kd.R_elder' d4c (Kd.R_base ho0) hb); have n1_ := Aside0.mk (Kd.R_elder' d4d (Kd.R_base ho1) hb); have n2_ := Aside0.mk (Kd.R_lower (Kd.R_new' ho0 (Kd.R_lt d4c)) (below_size d4b)); have n3_ := Aside0.mk (Kd.R_lower (Kd.R_new' ho1 (Kd.R_lt d4d)) (below_size d4b)); have n4_ := Aside0.mk (below_step d4b hb); clear HO106; clear HO108; clear HB; have HO106 := n0_; have HO108 := n1_; have HO114 := n2_; have HO116 := n3_; have HB := n4_; clear n0_ n1_ n2_ n3_ n4_; (try clear hb); (try clear ho0); (try clear ho1)))
     go_ret
     exact ⟨d4e, d4b⟩
 · rw [if_neg c4] at H
   have c4b0 : (t104 == t112) = false := beq_eq_false_iff_ne.mpr c4
   have c4b1 : (t104 != t112) = true := bne_iff_ne.mpr c4
   obtain rfl := Option.some.inj H
   go_enter Tryd.func4, Tryd.ntmps4
   go_wp2_with (first | ((with_reducible refine gate_callee (f := 8) rfl ?_); refine goesL_ (some 13) rfl rfl Tryd.func8 (by kernel_rfl) rfl #[.string a0] rfl d4a ?_; (with_reducible refine (power_Read.calls k a0 t101 t102 t103 t104 _ (HV.out.below d4b) A2.out).mono ?_); rintro e w30 ⟨v105, v107, rfl, ho0, ho1, hb⟩; refine ⟨_, rfl, ?_⟩; have n0_ := Aside0.mk (Kd.R_lower ho0 (below_size d4b)); have n1_ := Aside0.mk (Kd.R_lower ho1 (below_size d4b)); have n2_ := Aside0.mk (below_step d4b hb); clear HB; have HO106 := n0_; have HO108 := n1_; have HB := n2_; clear n0_ n1_ n2_; (try clear hb); (try clear ho0); (try clear ho1)) | ((with_reducible refine gate_callee (f := 11) rfl ?_); refine goesL_ (some 20) rfl rfl Tryd.func11 (by kernel_rfl) rfl #[.string a0] rfl d4a ?_; (with_reducible refine (perigeeref9_Read.calls k a0 t109 t110 t111 t112 _ (HV.out.below d4b) A3.out).mono ?_); rintro e w31 ⟨v113, v115, rfl, ho0, ho1, hb⟩; refine ⟨_, rfl, ?_⟩; have n0_ := Aside0.mk (Kd.R_elder' d4c (Kd.R_base ho0) hb); have n1_ := Aside0.mk (Kd.R_elder' d4d (Kd.R_base ho1) hb); have n2_ := Aside0.mk (Kd.R_lower (Kd.R_new' ho0 (Kd.R_lt d4c)) (below_size d4b)); have n3_ := Aside0.mk (Kd.R_lower (Kd.R_new' ho1 (Kd.R_lt d4d)) (below_size d4b)); have n4_ := Aside0.mk (below_step d4b hb); clear HO106; clear HO108; clear HB; have HO106 := n0_; have HO108 := n1_; have HO114 := n2_; have HO116 := n3_; have HB := n4_; clear n0_ n1_ n2_ n3_ n4_; (try clear hb); (try clear ho0); (try clear ho1)))
   go_ret
   exact ⟨d4e, d4b⟩
end Go.Proofs.YtplcdpiggpkppaaDoor.Q
