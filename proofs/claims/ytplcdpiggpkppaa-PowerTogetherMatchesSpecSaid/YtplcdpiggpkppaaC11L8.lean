-- Made by wip/tools/claimp.py of this session's texts; Lean checks it.
import Derived.Test.YtplcdpiggpkppaaC11Q0
import Derived.Test.YtplcdpiggpkppaaC11Ge26
import Derived.Test.YtplcdpiggpkppaaC11Ge28
import Derived.Test.YtplcdpiggpkppaaC11Ge8
namespace Go.Proofs.Ytplcdpiggpkppaa.Q
open Go.RowKit Go.Proofs.YtplcdpiggpkppaaW.PrintWords Go.Proofs.YtplcdpiggpkppaaW.PrintLast Go.Proofs.YtplcdpiggpkppaaW.PrintMore
attribute [local go_sem] max2_int min2_int max_two min_two max_three min_three max_four min_four
open Go.Proofs.Ytplcdpiggpkppaa.Base
attribute [local go_sem high] str_leq str_gtr str_geq
set_option linter.unusedVariables false
set_option linter.unusedSimpArgs false
def perigeelaw9_PowerTogetherMatchesSpec.f (k : Nat) (l0 : List (S76)) (l1 : List (S47)) (l2 : List (S100)) : Option (Bool) := (power_Together.f k l0 l1 l2).bind fun bt101 => ((perigeeref9_Together.f k l0 l1 l2).bind fun bt105 => (if bt101.2 = bt105.2 then ((api_Bad.f k bt101.1 bt105.1).bind fun t109 => (if t109 = true then ((perigeelaw9_awake.f k).bind fun t110 => (some t110)) else (some false))) else (some false)))
theorem d8a {p : Prop} (h : p := by (try simp only [List.map_toArray, List.map_cons, List.map_nil]); first | done | rfl | (simp only [List.length_drop, List.length_take]; rfl)) : p := h
theorem d8b {p : Prop} (h : p := by repeat (first | (with_reducible first | exact HB.out | apply below_alloc | apply pw_below_drewN | apply below_drew1) | exact HB.out)) : p := h
theorem d8c {p : Prop} (h : p := by (with_reducible repeat (first | apply Kd.R_alloc | apply Kd.R_drewN | apply Kd.R_drew)); exact HO104.out) : p := h
theorem d8d {p : Prop} (h : p := by first | rfl | (simp [errW_none, errW_some] <;> rfl) | (simp [*, errW_none, errW_some] <;> rfl)) : p := h
set_option maxHeartbeats 8000000 in
set_option maxRecDepth 100000 in
theorem perigeelaw9_PowerTogetherMatchesSpec.calls (k : Nat) (A0 : Option Addr) (c0 : Nat) (l0 : List (S76)) (A1 : Option Addr) (c1 : Nat) (l1 : List (S47)) (A2 : Option Addr) (c2 : Nat) (l2 : List (S100)) (r : Bool) (w : World) (hr0 : Kd.C k76 w A0 l0.length l0) (hc0 : l0.length ≤ c0) (hr1 : Kd.C k47 w A1 l1.length l1) (hc1 : l1.length ≤ c1) (hr2 : Kd.C k100 w A2 l2.length l2) (hc2 : l2.length ≤ c2) (h : perigeelaw9_PowerTogetherMatchesSpec.f k l0 l1 l2 = some r) :
 Calls Try.prog 8 #[.slice A0 l0.length c0, .slice A1 l1.length c1, .slice A2 l2.length c2] w fun e w' => e = .returned (.bool r) ∧ Below w.heap.size w w' := by
 have HR0 := Aside0.mk hr0
 have HC0 := Aside0.mk hc0
 clear hr0 hc0
 have HR1 := Aside0.mk hr1
 have HC1 := Aside0.mk hc1
 clear hr1 hc1
 have HR2 := Aside0.mk hr2
 have HC2 := Aside0.mk hc2
 clear hr2 hc2
 have HB := Aside0.mk (Below.refl w.heap.size w)
 have H : ((power_Together.f k l0 l1 l2).bind fun bt101 => ((perigeeref9_Together.f k l0 l1 l2).bind fun bt105 => (if bt101.2 = bt105.2 then ((api_Bad.f k bt101.1 bt105.1).bind fun t109 => (if t109 = true then ((perigeelaw9_awake.f k).bind fun t110 => (some t110)) else (some false))) else (some false)))) = some r := h
 clear h
 replace H := bindS H; obtain ⟨⟨t101, t102⟩, A4, H⟩ := H
 replace H := bindS H; obtain ⟨⟨t105, t106⟩, A5, H⟩ := H
 by_cases c6 : t102 = t106
 · rw [if_pos c6] at H
   have c6b0 : (t102 == t106) = true := beq_iff_eq.mpr c6
   have c6b1 : (t102 != t106) = false := bne_eq_false_iff_eq.mpr c6
   clear c6
   replace H := bindS H; obtain ⟨t109, A7, H⟩ := H
   by_cases c8 : t109 = true
   · subst c8
     replace H := iteT H
     replace H := bindS H; obtain ⟨t110, A9, H⟩ := H
     obtain rfl := Option.some.inj H
     go_enter Try.func8, Try.ntmps8
     go_wp2_with (first | ((with_reducible refine gate_callee (f := 36) rfl ?_); refine goesL_ (some 15) rfl rfl Try.func36 (by kernel_rfl) rfl #[.slice A0 l0.length c0, .slice A1 l1.length c1, .slice A2 l2.length c2] rfl d8a ?_; (with_reducible refine (power_Together.calls k _ _ l0 _ _ l1 _ _ l2 t101 t102 _ ?side1 ?side2 ?side3 ?side4 ?side5 ?side6 A4.out).mono ?_); (case side1 => exact C_go HR0.out); (case side2 => exact HC0.out); (case side3 => exact C_go HR1.out); (case side4 => exact HC1.out); (case side5 => exact C_go HR2.out); (case side6 => exact HC2.out); rintro e w10 ⟨v103, rfl, ho0, hb⟩; refine ⟨_, rfl, ?_⟩; have n0_ := Aside0.mk (Kd.R_lower ho0 (below_size d8b)); have n1_ := Aside0.mk (below_step d8b hb); clear HB; have HO104 := n0_; have HB := n1_; clear n0_ n1_; (try clear hb); (try clear ho0)) | ((with_reducible refine gate_callee (f := 37) rfl ?_); refine goesL_ (some 22) rfl rfl Try.func37 (by kernel_rfl) rfl #[.slice A0 l0.length c0, .slice A1 l1.length c1, .slice A2 l2.length c2] rfl d8a ?_; (with_reducible refine (perigeeref9_Together.calls k _ _ l0 _ _ l1 _ _ l2 t105 t106 _ ?side1 ?side2 ?side3 ?side4 ?side5 ?side6 A5.out).mono ?_); (case side1 => exact C_go (Kd.C_below HR0.out HB.out)); (case side2 => exact HC0.out); (case side3 => exact C_go (Kd.C_below HR1.out HB.out)); (case side4 => exact HC1.out); (case side5 => exact C_go (Kd.C_below HR2.out HB.out)); (case side6 => exact HC2.out); rintro e w11 ⟨v107, rfl, ho0, hb⟩; refine ⟨_, rfl, ?_⟩; have n0_ := Aside0.mk (Kd.R_elder' d8c (Kd.R_base ho0) hb); have n1_ := Aside0.mk (Kd.R_lower (Kd.R_new' ho0 (Kd.R_lt d8c)) (below_size d8b)); have n2_ := Aside0.mk (below_step d8b hb); clear HO104; clear HB; have HO104 := n0_; have HO108 := n1_; have HB := n2_; clear n0_ n1_ n2_; (try clear hb); (try clear ho0); obtain ⟨Ao12, co12, eo12⟩ := Kd.R_slice HO104.out; subst eo12; obtain ⟨Ao13, co13, eo13⟩ := Kd.R_slice HO108.out; subst eo13) | (go_at_call 38; (with_reducible refine (api_Bad.calls k _ _ t101 _ _ t105 true _ ?side1 ?side2 ?side3 ?side4 A7.out).mono ?_); (case side1 => exact C_go (Kd.R_reads' HO104.out).2.2); (case side2 => exact (Kd.R_reads' HO104.out).2.1); (case side3 => exact C_go (Kd.R_reads' HO108.out).2.2); (case side4 => exact (Kd.R_reads' HO108.out).2.1); rintro e w' ⟨rfl, ⟨nd, rfl⟩⟩) | (go_at_call 27; (with_reducible refine (perigeelaw9_awake.calls k  t110 _ A9.out).mono ?_); rintro e w14 ⟨rfl, hb⟩; have n0_ := Aside0.mk (Kd.R_below d8c hb); have n1_ := Aside0.mk (Kd.R_below (by (with_reducible repeat (first | apply Kd.R_alloc | apply Kd.R_drewN | apply Kd.R_drew)); exact HO108.out) hb); have n2_ := Aside0.mk (below_step d8b hb); clear HO104; clear HO108; clear HB; have HO104 := n0_; have HO108 := n1_; have HB := n2_; clear n0_ n1_ n2_; (try clear hb)))
     go_ret
     exact ⟨d8d, d8b⟩
   · replace c8 := Bool.eq_false_iff.mpr c8
     subst c8
     replace H := iteF H
     obtain rfl := Option.some.inj H
     go_enter Try.func8, Try.ntmps8
     go_wp2_with (first | ((with_reducible refine gate_callee (f := 36) rfl ?_); refine goesL_ (some 15) rfl rfl Try.func36 (by kernel_rfl) rfl #[.slice A0 l0.length c0, .slice A1 l1.length c1, .slice A2 l2.length c2] rfl d8a ?_; (with_reducible refine (power_Together.calls k _ _ l0 _ _ l1 _ _ l2 t101 t102 _ ?side1 ?side2 ?side3 ?side4 ?side5 ?side6 A4.out).mono ?_); (case side1 => exact C_go HR0.out); (case side2 => exact HC0.out); (case side3 => exact C_go HR1.out); (case side4 => exact HC1.out); (case side5 => exact C_go HR2.out); (case side6 => exact HC2.out); rintro e w15 ⟨v103, rfl, ho0, hb⟩; refine ⟨_, rfl, ?_⟩; have n0_ := Aside0.mk (Kd.R_lower ho0 (below_size d8b)); have n1_ := Aside0.mk (below_step d8b hb); clear HB; have HO104 := n0_; have HB := n1_; clear n0_ n1_; (try clear hb); (try clear ho0)) | ((with_reducible refine gate_callee (f := 37) rfl ?_); refine goesL_ (some 22) rfl rfl Try.func37 (by kernel_rfl) rfl #[.slice A0 l0.length c0, .slice A1 l1.length c1, .slice A2 l2.length c2] rfl d8a ?_; (with_reducible refine (perigeeref9_Together.calls k _ _ l0 _ _ l1 _ _ l2 t105 t106 _ ?side1 ?side2 ?side3 ?side4 ?side5 ?side6 A5.out).mono ?_); (case side1 => exact C_go (Kd.C_below HR0.out HB.out)); (case side2 => exact HC0.out); (case side3 => exact C_go (Kd.C_below HR1.out HB.out)); (case side4 => exact HC1.out); (case side5 => exact C_go (Kd.C_below HR2.out HB.out)); (case side6 => exact HC2.out); rintro e w16 ⟨v107, rfl, ho0, hb⟩; refine ⟨_, rfl, ?_⟩; have n0_ := Aside0.mk (Kd.R_elder' d8c (Kd.R_base ho0) hb); have n1_ := Aside0.mk (Kd.R_lower (Kd.R_new' ho0 (Kd.R_lt d8c)) (below_size d8b)); have n2_ := Aside0.mk (below_step d8b hb); clear HO104; clear HB; have HO104 := n0_; have HO108 := n1_; have HB := n2_; clear n0_ n1_ n2_; (try clear hb); (try clear ho0); obtain ⟨Ao17, co17, eo17⟩ := Kd.R_slice HO104.out; subst eo17; obtain ⟨Ao18, co18, eo18⟩ := Kd.R_slice HO108.out; subst eo18) | (go_at_call 38; (with_reducible refine (api_Bad.calls k _ _ t101 _ _ t105 false _ ?side1 ?side2 ?side3 ?side4 A7.out).mono ?_); (case side1 => exact C_go (Kd.R_reads' HO104.out).2.2); (case side2 => exact (Kd.R_reads' HO104.out).2.1); (case side3 => exact C_go (Kd.R_reads' HO108.out).2.2); (case side4 => exact (Kd.R_reads' HO108.out).2.1); rintro e w' ⟨rfl, ⟨nd, rfl⟩⟩))
     go_ret
     exact ⟨d8d, d8b⟩
 · rw [if_neg c6] at H
   have c6b0 : (t102 == t106) = false := beq_eq_false_iff_ne.mpr c6
   have c6b1 : (t102 != t106) = true := bne_iff_ne.mpr c6
   obtain rfl := Option.some.inj H
   go_enter Try.func8, Try.ntmps8
   go_wp2_with (first | ((with_reducible refine gate_callee (f := 36) rfl ?_); refine goesL_ (some 15) rfl rfl Try.func36 (by kernel_rfl) rfl #[.slice A0 l0.length c0, .slice A1 l1.length c1, .slice A2 l2.length c2] rfl d8a ?_; (with_reducible refine (power_Together.calls k _ _ l0 _ _ l1 _ _ l2 t101 t102 _ ?side1 ?side2 ?side3 ?side4 ?side5 ?side6 A4.out).mono ?_); (case side1 => exact C_go HR0.out); (case side2 => exact HC0.out); (case side3 => exact C_go HR1.out); (case side4 => exact HC1.out); (case side5 => exact C_go HR2.out); (case side6 => exact HC2.out); rintro e w19 ⟨v103, rfl, ho0, hb⟩; refine ⟨_, rfl, ?_⟩; have n0_ := Aside0.mk (Kd.R_lower ho0 (below_size d8b)); have n1_ := Aside0.mk (below_step d8b hb); clear HB; have HO104 := n0_; have HB := n1_; clear n0_ n1_; (try clear hb); (try clear ho0)) | ((with_reducible refine gate_callee (f := 37) rfl ?_); refine goesL_ (some 22) rfl rfl Try.func37 (by kernel_rfl) rfl #[.slice A0 l0.length c0, .slice A1 l1.length c1, .slice A2 l2.length c2] rfl d8a ?_; (with_reducible refine (perigeeref9_Together.calls k _ _ l0 _ _ l1 _ _ l2 t105 t106 _ ?side1 ?side2 ?side3 ?side4 ?side5 ?side6 A5.out).mono ?_); (case side1 => exact C_go (Kd.C_below HR0.out HB.out)); (case side2 => exact HC0.out); (case side3 => exact C_go (Kd.C_below HR1.out HB.out)); (case side4 => exact HC1.out); (case side5 => exact C_go (Kd.C_below HR2.out HB.out)); (case side6 => exact HC2.out); rintro e w20 ⟨v107, rfl, ho0, hb⟩; refine ⟨_, rfl, ?_⟩; have n0_ := Aside0.mk (Kd.R_elder' d8c (Kd.R_base ho0) hb); have n1_ := Aside0.mk (Kd.R_lower (Kd.R_new' ho0 (Kd.R_lt d8c)) (below_size d8b)); have n2_ := Aside0.mk (below_step d8b hb); clear HO104; clear HB; have HO104 := n0_; have HO108 := n1_; have HB := n2_; clear n0_ n1_ n2_; (try clear hb); (try clear ho0)))
   go_ret
   exact ⟨d8d, d8b⟩
end Go.Proofs.Ytplcdpiggpkppaa.Q
