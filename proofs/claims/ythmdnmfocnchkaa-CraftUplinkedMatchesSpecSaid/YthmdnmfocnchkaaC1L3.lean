-- Made by wip/tools/claimp.py of this session's texts; Lean checks it.
import Derived.Test.YthmdnmfocnchkaaC1Q0
import Derived.Test.YthmdnmfocnchkaaC1Gu3
import Derived.Test.YthmdnmfocnchkaaC1Gu6
namespace Go.Proofs.Ythmdnmfocnchkaa.Q
open Go.RowKit Go.Proofs.YthmdnmfocnchkaaW.PrintWords Go.Proofs.YthmdnmfocnchkaaW.PrintLast Go.Proofs.YthmdnmfocnchkaaW.PrintMore
attribute [local go_sem] max2_int min2_int max_two min_two max_three min_three max_four min_four
open Go.Proofs.Ythmdnmfocnchkaa.Base
attribute [local go_sem high] str_leq str_gtr str_geq
set_option linter.unusedVariables false
set_option linter.unusedSimpArgs false
def perigeelaw12_CraftUplinkedMatchesSpec.f (k : Nat) (a0 : Int) (a1 : Int) (a2 : Int) (l3 : List ByteArray) : Option (Bool) := (craft_Uplinked.f k a0 a1 a2 l3).bind fun bt101 => ((perigeeref12_Uplinked.f k a0 a1 a2 l3).bind fun bt105 => (if bt101.2 = bt105.2 then ((slices_EqualFunc_byte_byte_byte_byte.f k bt101.1 bt105.1).bind fun t109 => (if t109 = true then ((perigeelaw12_flies.f k).bind fun t110 => (some t110)) else (some false))) else (some false)))
theorem d3a {p : Prop} (h : p := by (try simp only [List.map_toArray, List.map_cons, List.map_nil]); first | done | rfl | (simp only [List.length_drop, List.length_take]; rfl)) : p := h
theorem d3b {p : Prop} (h : p := by repeat (first | (with_reducible first | exact HB.out | apply below_alloc | apply pw_below_drewN | apply below_drew1) | exact HB.out)) : p := h
theorem d3c {p : Prop} (h : p := by (with_reducible repeat (first | apply Kd.S_alloc | apply Kd.S_drewN | apply Kd.S_drew)); exact HO104.out) : p := h
theorem d3d {p : Prop} (h : p := by first | rfl | (simp [errW_none, errW_some] <;> rfl) | (simp [*, errW_none, errW_some] <;> rfl)) : p := h
set_option maxHeartbeats 8000000 in
set_option maxRecDepth 100000 in
theorem perigeelaw12_CraftUplinkedMatchesSpec.calls (k : Nat) (a0 : Int) (a1 : Int) (a2 : Int) (A3 : Option Addr) (c3 : Nat) (l3 : List ByteArray) (r : Bool) (w : World) (hr3 : Kd.C Kd.string w A3 l3.length l3) (hc3 : l3.length ≤ c3) (h : perigeelaw12_CraftUplinkedMatchesSpec.f k a0 a1 a2 l3 = some r) :
 Calls Try.prog 3 #[.int .i64 a0, .int .i64 a1, .int .i64 a2, .slice A3 l3.length c3] w fun e w' => e = .returned (.bool r) ∧ Below w.heap.size w w' := by
 have HR3 := Aside0.mk hr3
 have HC3 := Aside0.mk hc3
 clear hr3 hc3
 have HB := Aside0.mk (Below.refl w.heap.size w)
 have H : ((craft_Uplinked.f k a0 a1 a2 l3).bind fun bt101 => ((perigeeref12_Uplinked.f k a0 a1 a2 l3).bind fun bt105 => (if bt101.2 = bt105.2 then ((slices_EqualFunc_byte_byte_byte_byte.f k bt101.1 bt105.1).bind fun t109 => (if t109 = true then ((perigeelaw12_flies.f k).bind fun t110 => (some t110)) else (some false))) else (some false)))) = some r := h
 clear h
 replace H := bindS H; obtain ⟨⟨t101, t102⟩, A5, H⟩ := H
 replace H := bindS H; obtain ⟨⟨t105, t106⟩, A6, H⟩ := H
 by_cases c7 : t102 = t106
 · rw [if_pos c7] at H
   have c7b0 : (t102 == t106) = true := beq_iff_eq.mpr c7
   have c7b1 : (t102 != t106) = false := bne_eq_false_iff_eq.mpr c7
   clear c7
   replace H := bindS H; obtain ⟨t109, A8, H⟩ := H
   by_cases c9 : t109 = true
   · subst c9
     replace H := iteT H
     replace H := bindS H; obtain ⟨t110, A10, H⟩ := H
     obtain rfl := Option.some.inj H
     go_enter Try.func3, Try.ntmps3
     go_wp2_with (first | ((with_reducible refine gate_callee (f := 9) rfl ?_); refine goesL_ (some 18) rfl rfl Try.func9 (by kernel_rfl) rfl #[.int .i64 a0, .int .i64 a1, .int .i64 a2, .slice A3 l3.length c3] rfl d3a ?_; (with_reducible refine (craft_Uplinked.calls k a0 a1 a2 _ _ l3 t101 t102 _ ?side1 ?side2 A5.out).mono ?_); (case side1 => exact C_go HR3.out); (case side2 => exact HC3.out); rintro e w11 ⟨v103, rfl, ho0, hb⟩; refine ⟨_, rfl, ?_⟩; have n0_ := Aside0.mk (Kd.S_lower ho0 (below_size d3b)); have n1_ := Aside0.mk (below_step d3b hb); clear HB; have HO104 := n0_; have HB := n1_; clear n0_ n1_; (try clear hb); (try clear ho0)) | ((with_reducible refine gate_callee (f := 10) rfl ?_); refine goesL_ (some 26) rfl rfl Try.func10 (by kernel_rfl) rfl #[.int .i64 a0, .int .i64 a1, .int .i64 a2, .slice A3 l3.length c3] rfl d3a ?_; (with_reducible refine (perigeeref12_Uplinked.calls k a0 a1 a2 _ _ l3 t105 t106 _ ?side1 ?side2 A6.out).mono ?_); (case side1 => exact C_go (Kd.C_below HR3.out HB.out)); (case side2 => exact HC3.out); rintro e w12 ⟨v107, rfl, ho0, hb⟩; refine ⟨_, rfl, ?_⟩; have n0_ := Aside0.mk (Kd.S_elder' d3c (Kd.S_base ho0) hb); have n1_ := Aside0.mk (Kd.S_lower (Kd.S_new' ho0 (Kd.S_lt d3c)) (below_size d3b)); have n2_ := Aside0.mk (below_step d3b hb); clear HO104; clear HB; have HO104 := n0_; have HO108 := n1_; have HB := n2_; clear n0_ n1_ n2_; (try clear hb); (try clear ho0); obtain ⟨Ao13, co13, eo13⟩ := Kd.S_slice HO104.out; subst eo13; obtain ⟨Ao14, co14, eo14⟩ := Kd.S_slice HO108.out; subst eo14) | (go_at_call 11; (with_reducible refine (slices_EqualFunc_byte_byte_byte_byte.calls k _ _ t101 _ _ t105 true _ ?side1 ?side2 ?side3 ?side4 A8.out).mono ?_); (case side1 => exact C_go (Kd.S_reads' HO104.out).2.2); (case side2 => exact (Kd.S_reads' HO104.out).2.1); (case side3 => exact C_go (Kd.S_reads' HO108.out).2.2); (case side4 => exact (Kd.S_reads' HO108.out).2.1); rintro e w' ⟨rfl, ⟨nd, rfl⟩⟩) | (go_at_call 13; (with_reducible refine (perigeelaw12_flies.calls k  t110 _ A10.out).mono ?_); rintro e w15 ⟨rfl, hb⟩; have n0_ := Aside0.mk (Kd.S_below d3c hb); have n1_ := Aside0.mk (Kd.S_below (by (with_reducible repeat (first | apply Kd.S_alloc | apply Kd.S_drewN | apply Kd.S_drew)); exact HO108.out) hb); have n2_ := Aside0.mk (below_step d3b hb); clear HO104; clear HO108; clear HB; have HO104 := n0_; have HO108 := n1_; have HB := n2_; clear n0_ n1_ n2_; (try clear hb)))
     go_ret
     exact ⟨d3d, d3b⟩
   · replace c9 := Bool.eq_false_iff.mpr c9
     subst c9
     replace H := iteF H
     obtain rfl := Option.some.inj H
     go_enter Try.func3, Try.ntmps3
     go_wp2_with (first | ((with_reducible refine gate_callee (f := 9) rfl ?_); refine goesL_ (some 18) rfl rfl Try.func9 (by kernel_rfl) rfl #[.int .i64 a0, .int .i64 a1, .int .i64 a2, .slice A3 l3.length c3] rfl d3a ?_; (with_reducible refine (craft_Uplinked.calls k a0 a1 a2 _ _ l3 t101 t102 _ ?side1 ?side2 A5.out).mono ?_); (case side1 => exact C_go HR3.out); (case side2 => exact HC3.out); rintro e w16 ⟨v103, rfl, ho0, hb⟩; refine ⟨_, rfl, ?_⟩; have n0_ := Aside0.mk (Kd.S_lower ho0 (below_size d3b)); have n1_ := Aside0.mk (below_step d3b hb); clear HB; have HO104 := n0_; have HB := n1_; clear n0_ n1_; (try clear hb); (try clear ho0)) | ((with_reducible refine gate_callee (f := 10) rfl ?_); refine goesL_ (some 26) rfl rfl Try.func10 (by kernel_rfl) rfl #[.int .i64 a0, .int .i64 a1, .int .i64 a2, .slice A3 l3.length c3] rfl d3a ?_; (with_reducible refine (perigeeref12_Uplinked.calls k a0 a1 a2 _ _ l3 t105 t106 _ ?side1 ?side2 A6.out).mono ?_); (case side1 => exact C_go (Kd.C_below HR3.out HB.out)); (case side2 => exact HC3.out); rintro e w17 ⟨v107, rfl, ho0, hb⟩; refine ⟨_, rfl, ?_⟩; have n0_ := Aside0.mk (Kd.S_elder' d3c (Kd.S_base ho0) hb); have n1_ := Aside0.mk (Kd.S_lower (Kd.S_new' ho0 (Kd.S_lt d3c)) (below_size d3b)); have n2_ := Aside0.mk (below_step d3b hb); clear HO104; clear HB; have HO104 := n0_; have HO108 := n1_; have HB := n2_; clear n0_ n1_ n2_; (try clear hb); (try clear ho0); obtain ⟨Ao18, co18, eo18⟩ := Kd.S_slice HO104.out; subst eo18; obtain ⟨Ao19, co19, eo19⟩ := Kd.S_slice HO108.out; subst eo19) | (go_at_call 11; (with_reducible refine (slices_EqualFunc_byte_byte_byte_byte.calls k _ _ t101 _ _ t105 false _ ?side1 ?side2 ?side3 ?side4 A8.out).mono ?_); (case side1 => exact C_go (Kd.S_reads' HO104.out).2.2); (case side2 => exact (Kd.S_reads' HO104.out).2.1); (case side3 => exact C_go (Kd.S_reads' HO108.out).2.2); (case side4 => exact (Kd.S_reads' HO108.out).2.1); rintro e w' ⟨rfl, ⟨nd, rfl⟩⟩))
     go_ret
     exact ⟨d3d, d3b⟩
 · rw [if_neg c7] at H
   have c7b0 : (t102 == t106) = false := beq_eq_false_iff_ne.mpr c7
   have c7b1 : (t102 != t106) = true := bne_iff_ne.mpr c7
   obtain rfl := Option.some.inj H
   go_enter Try.func3, Try.ntmps3
   go_wp2_with (first | ((with_reducible refine gate_callee (f := 9) rfl ?_); refine goesL_ (some 18) rfl rfl Try.func9 (by kernel_rfl) rfl #[.int .i64 a0, .int .i64 a1, .int .i64 a2, .slice A3 l3.length c3] rfl d3a ?_; (with_reducible refine (craft_Uplinked.calls k a0 a1 a2 _ _ l3 t101 t102 _ ?side1 ?side2 A5.out).mono ?_); (case side1 => exact C_go HR3.out); (case side2 => exact HC3.out); rintro e w20 ⟨v103, rfl, ho0, hb⟩; refine ⟨_, rfl, ?_⟩; have n0_ := Aside0.mk (Kd.S_lower ho0 (below_size d3b)); have n1_ := Aside0.mk (below_step d3b hb); clear HB; have HO104 := n0_; have HB := n1_; clear n0_ n1_; (try clear hb); (try clear ho0)) | ((with_reducible refine gate_callee (f := 10) rfl ?_); refine goesL_ (some 26) rfl rfl Try.func10 (by kernel_rfl) rfl #[.int .i64 a0, .int .i64 a1, .int .i64 a2, .slice A3 l3.length c3] rfl d3a ?_; (with_reducible refine (perigeeref12_Uplinked.calls k a0 a1 a2 _ _ l3 t105 t106 _ ?side1 ?side2 A6.out).mono ?_); (case side1 => exact C_go (Kd.C_below HR3.out HB.out)); (case side2 => exact HC3.out); rintro e w21 ⟨v107, rfl, ho0, hb⟩; refine ⟨_, rfl, ?_⟩; have n0_ := Aside0.mk (Kd.S_elder' d3c (Kd.S_base ho0) hb); have n1_ := Aside0.mk (Kd.S_lower (Kd.S_new' ho0 (Kd.S_lt d3c)) (below_size d3b)); have n2_ := Aside0.mk (below_step d3b hb); clear HO104; clear HB; have HO104 := n0_; have HO108 := n1_; have HB := n2_; clear n0_ n1_ n2_; (try clear hb); (try clear ho0)))
   go_ret
   exact ⟨d3d, d3b⟩
end Go.Proofs.Ythmdnmfocnchkaa.Q
