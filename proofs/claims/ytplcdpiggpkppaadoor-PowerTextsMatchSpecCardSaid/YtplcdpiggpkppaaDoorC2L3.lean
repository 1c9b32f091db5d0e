-- Made by wip/tools/claimp.py of this session's texts; Lean checks it.
import Derived.Test.YtplcdpiggpkppaaDoorC2Q0
import Derived.Test.YtplcdpiggpkppaaDoorC2Gd1
import Derived.Test.YtplcdpiggpkppaaDoorC2Gd10
import Derived.Test.YtplcdpiggpkppaaDoorC2Gd5
import Derived.Test.YtplcdpiggpkppaaDoorC2Gd6
import Derived.Test.YtplcdpiggpkppaaDoorC2Gd9
namespace Go.Proofs.YtplcdpiggpkppaaDoor.Q
open Go.RowKit Go.Proofs.YtplcdpiggpkppaaDoorW.PrintWords Go.Proofs.YtplcdpiggpkppaaDoorW.PrintLast Go.Proofs.YtplcdpiggpkppaaDoorW.PrintMore
attribute [local go_sem] max2_int min2_int max_two min_two max_three min_three max_four min_four
open Go.Proofs.YtplcdpiggpkppaaDoor.Base
attribute [local go_sem high] str_leq str_gtr str_geq
set_option linter.unusedVariables false
set_option linter.unusedSimpArgs false
def perigeelaw9_PowerTextsMatchSpec.j0 : Nat → List (S32) → List (S35) → ByteArray → Int → Bool → Option (Bool)
  | 0, _, _, _, _, _ => none
  | k + 1, x0, x1, x5, x6, x35 => if x35 = true then (some false) else (if x6 = 0 then ((power_Read.f k x5).bind fun bt106 => (if bt106.2.2.2 = 0 then (if bt106.2.2.1 = 0 then ((api_Load.f k x0 bt106.1).bind fun t114 => (if t114 = true then ((api_Use.f k x1 bt106.2.1).bind fun t115 => (some t115)) else (some false))) else (some false)) else (some false))) else (some true))
def perigeelaw9_PowerTextsMatchSpec.f (k : Nat) (l0 : List (S32)) (l1 : List (S35)) : Option (Bool) := (power_Text.f k l0 l1).bind fun bt101 => ((perigeeref9_Text.f k l0 l1).bind fun bt103 => (if bt101.2 = bt103.2 then (if bt101.1.toList = bt103.1.toList then ((perigeelaw9_awake.f k).bind fun t105 => (perigeelaw9_PowerTextsMatchSpec.j0 k l0 l1 bt101.1 bt101.2 (!t105))) else (perigeelaw9_PowerTextsMatchSpec.j0 k l0 l1 bt101.1 bt101.2 true)) else (perigeelaw9_PowerTextsMatchSpec.j0 k l0 l1 bt101.1 bt101.2 true)))
theorem d3a {p : Prop} (h : p := by (try simp only [List.map_toArray, List.map_cons, List.map_nil]); first | done | rfl | (simp only [List.length_drop, List.length_take]; rfl)) : p := h
theorem d3b {p : Prop} (h : p := by repeat (first | (with_reducible first | exact HB.out | apply below_alloc | apply pw_below_drewN | apply below_drew1) | exact HB.out)) : p := h
theorem d3c {p : Prop} (h : p := by first | rfl | (simp [errW_none, errW_some] <;> rfl) | (simp [*, errW_none, errW_some] <;> rfl)) : p := h
set_option maxHeartbeats 8000000 in
set_option maxRecDepth 100000 in
theorem perigeelaw9_PowerTextsMatchSpec.calls (k : Nat) (A0 : Option Addr) (c0 : Nat) (l0 : List (S32)) (A1 : Option Addr) (c1 : Nat) (l1 : List (S35)) (r : Bool) (w : World) (hr0 : Kd.C k32 w A0 l0.length l0) (hc0 : l0.length ≤ c0) (hr1 : Kd.C k35 w A1 l1.length l1) (hc1 : l1.length ≤ c1) (hV : VarsOK w) (h : perigeelaw9_PowerTextsMatchSpec.f k l0 l1 = some r) :
 Calls Tryd.prog 3 #[.slice A0 l0.length c0, .slice A1 l1.length c1] w fun e w' => e = .returned (.bool r) ∧ Below w.heap.size w w' := by
 have HV := Aside0.mk hV
 clear hV
 have HR0 := Aside0.mk hr0
 have HC0 := Aside0.mk hc0
 clear hr0 hc0
 have HR1 := Aside0.mk hr1
 have HC1 := Aside0.mk hc1
 clear hr1 hc1
 have HB := Aside0.mk (Below.refl w.heap.size w)
 have H : ((power_Text.f k l0 l1).bind fun bt101 => ((perigeeref9_Text.f k l0 l1).bind fun bt103 => (if bt101.2 = bt103.2 then (if bt101.1.toList = bt103.1.toList then ((perigeelaw9_awake.f k).bind fun t105 => (perigeelaw9_PowerTextsMatchSpec.j0 k l0 l1 bt101.1 bt101.2 (!t105))) else (perigeelaw9_PowerTextsMatchSpec.j0 k l0 l1 bt101.1 bt101.2 true)) else (perigeelaw9_PowerTextsMatchSpec.j0 k l0 l1 bt101.1 bt101.2 true)))) = some r := h
 clear h
 replace H := bindS H; obtain ⟨⟨t101, t102⟩, A3, H⟩ := H
 replace H := bindS H; obtain ⟨⟨t103, t104⟩, A4, H⟩ := H
 have HC5 := Aside0.mk H
 clear H
 go_enter Tryd.func3, Tryd.ntmps3
 go_upto_region 3 with (first | ((with_reducible refine gate_callee (f := 5) rfl ?_); refine goesL_ (some 15) rfl rfl Tryd.func5 (by kernel_rfl) rfl #[.slice A0 l0.length c0, .slice A1 l1.length c1] rfl d3a ?_; (with_reducible refine (power_Text.calls k _ _ l0 _ _ l1 t101 t102 _ ?side1 ?side2 ?side3 ?side4 (HV.out.below d3b) A3.out).mono ?_); (case side1 => exact C_go HR0.out); (case side2 => exact HC0.out); (case side3 => exact C_go HR1.out); (case side4 => exact HC1.out); rintro e w6 ⟨rfl, hb⟩; refine ⟨_, rfl, ?_⟩; replace HB := Aside0.mk (below_step d3b hb); (try clear hb)) | ((with_reducible refine gate_callee (f := 6) rfl ?_); refine goesL_ (some 21) rfl rfl Tryd.func6 (by kernel_rfl) rfl #[.slice A0 l0.length c0, .slice A1 l1.length c1] rfl d3a ?_; (with_reducible refine (perigeeref9_Text.calls k _ _ l0 _ _ l1 t103 t104 _ ?side1 ?side2 ?side3 ?side4 (HV.out.below d3b) A4.out).mono ?_); (case side1 => exact C_go (Kd.C_below HR0.out HB.out)); (case side2 => exact HC0.out); (case side3 => exact C_go (Kd.C_below HR1.out HB.out)); (case side4 => exact HC1.out); rintro e w7 ⟨rfl, hb⟩; refine ⟨_, rfl, ?_⟩; replace HB := Aside0.mk (below_step d3b hb); (try clear hb)))
 (try simp only [Act.put, List.setIfInBounds_toArray, List.set_cons_zero, List.set_cons_succ])
 go_cut [35] (fun v35 wc => ∃ (kq : Nat) (x35_4 : Bool), v35 = .bool x35_4 ∧ Aside0 (perigeelaw9_PowerTextsMatchSpec.j0 kq l0 l1 t101 t102 x35_4 = some r) ∧ Aside0 (kq ≤ k) ∧ Aside0 (Below w.heap.size w wc))
 case first =>
  have H := HC5.out
  clear HC5
  by_cases c8 : t102 = t104
  · rw [if_pos c8] at H
    have c8b0 : (t102 == t104) = true := beq_iff_eq.mpr c8
    have c8b1 : (t102 != t104) = false := bne_eq_false_iff_eq.mpr c8
    clear c8
    (first | rw [c8b0] | (simp only [i64_w, i32_w]; rw [c8b0]) | skip)
    by_cases c9 : t101.toList = t103.toList
    · rw [if_pos c9] at H
      have c9b0 : (t101.toList == t103.toList) = true := beq_iff_eq.mpr c9
      have c9b1 : (t101.toList != t103.toList) = false := bne_eq_false_iff_eq.mpr c9
      clear c9
      replace H := bindS H; obtain ⟨t105, A10, H⟩ := H
      have H' := Aside0.mk H
      clear H
      go_wp2_with (go_at_call 7; (with_reducible refine (perigeelaw9_awake.calls k  t105 _ A10.out).mono ?_); rintro e w11 ⟨rfl, hb⟩; replace HB := Aside0.mk (below_step d3b hb); (try clear hb))
      go_meet
      case rel => exact ⟨_, (!t105), (by first | rfl | (simp; done) | (simp [*]; done)), H', ⟨by first | omega | exact Nat.le_refl _⟩, ⟨d3b⟩⟩
    · rw [if_neg c9] at H
      have c9b0 : (t101.toList == t103.toList) = false := beq_eq_false_iff_ne.mpr c9
      have c9b1 : (t101.toList != t103.toList) = true := bne_iff_ne.mpr c9
      have H' := Aside0.mk H
      clear H
      go_wp2
      go_meet
      case rel => exact ⟨_, (true), (by first | rfl | (simp; done) | (simp [*]; done)), H', ⟨by first | omega | exact Nat.le_refl _⟩, ⟨d3b⟩⟩
  · rw [if_neg c8] at H
    have c8b0 : (t102 == t104) = false := beq_eq_false_iff_ne.mpr c8
    have c8b1 : (t102 != t104) = true := bne_iff_ne.mpr c8
    (first | rw [c8b0] | (simp only [i64_w, i32_w]; rw [c8b0]) | skip)
    have H' := Aside0.mk H
    clear H
    go_wp2
    go_meet
    case rel => exact ⟨_, (true), (by first | rfl | (simp; done) | (simp [*]; done)), H', ⟨by first | omega | exact Nat.le_refl _⟩, ⟨d3b⟩⟩
 case rest =>
  clear HC5
  obtain ⟨kq, x35_4, rfl, HA, HJ4, HB⟩ := hcut
  cases kq with
  | zero => exact absurd HA.out (by simp [perigeelaw9_PowerTextsMatchSpec.j0])
  | succ kj4 =>
   have H := HA.out
   clear HA
   simp only [perigeelaw9_PowerTextsMatchSpec.j0] at H
   by_cases c12 : x35_4 = true
   · subst c12
     replace H := iteT H
     obtain rfl := Option.some.inj H
     go_wp2
     go_ret
     exact ⟨d3c, d3b⟩
   · replace c12 := Bool.eq_false_iff.mpr c12
     subst c12
     replace H := iteF H
     by_cases c13 : t102 = 0
     · rw [if_pos c13] at H
       have c13b0 : (t102 == 0) = true := beq_iff_eq.mpr c13
       have c13b1 : (t102 != 0) = false := bne_eq_false_iff_eq.mpr c13
       clear c13
       replace H := bindS H; obtain ⟨⟨t106, t107, t108, t109⟩, A14, H⟩ := H
       by_cases c15 : t109 = 0
       · rw [if_pos c15] at H
         have c15b0 : (t109 == 0) = true := beq_iff_eq.mpr c15
         have c15b1 : (t109 != 0) = false := bne_eq_false_iff_eq.mpr c15
         clear c15
         by_cases c16 : t108 = 0
         · rw [if_pos c16] at H
           have c16b0 : (t108 == 0) = true := beq_iff_eq.mpr c16
           have c16b1 : (t108 != 0) = false := bne_eq_false_iff_eq.mpr c16
           clear c16
           replace H := bindS H; obtain ⟨t114, A17, H⟩ := H
           by_cases c18 : t114 = true
           · subst c18
             replace H := iteT H
             replace H := bindS H; obtain ⟨t115, A19, H⟩ := H
             obtain rfl := Option.some.inj H
             go_wp2_with (first | ((with_reducible refine gate_callee (f := 8) rfl ?_); refine goesL_ (some 40) rfl rfl Tryd.func8 (by kernel_rfl) rfl #[.string t101] rfl d3a ?_; (with_reducible refine (power_Read.calls kj4 t101 t106 t107 t108 t109 _ (HV.out.below d3b) A14.out).mono ?_); rintro e w20 ⟨v110, v112, rfl, ho0, ho1, hb⟩; refine ⟨_, rfl, ?_⟩; have n0_ := Aside0.mk (Kd.R_lower ho0 (below_size d3b)); have n1_ := Aside0.mk (Kd.R_lower ho1 (below_size d3b)); have n2_ := Aside0.mk (below_step d3b hb); clear HB; have HO111 := n0_; have HO113 := n1_; have HB := n2_; clear n0_ n1_ n2_; (try clear hb); (try clear ho0); (try clear ho1); obtain ⟨Ao21, co21, eo21⟩ := Kd.R_slice HO111.out; subst eo21) | (go_at_call 9; (with_reducible refine (api_Load.calls kj4 _ _ l0 _ _ t106 true _ ?side1 ?side2 ?side3 ?side4 A17.out).mono ?_); (case side1 => exact C_go (Kd.C_below HR0.out HB.out)); (case side2 => exact HC0.out); (case side3 => exact C_go (Kd.R_reads' HO111.out).2.2); (case side4 => exact (Kd.R_reads' HO111.out).2.1); rintro e w' ⟨rfl, ⟨nd, rfl⟩⟩; obtain ⟨Ao22, co22, eo22⟩ := Kd.R_slice HO113.out; subst eo22) | (go_at_call 10; (with_reducible refine (api_Use.calls kj4 _ _ l1 _ _ t107 t115 _ ?side1 ?side2 ?side3 ?side4 A19.out).mono ?_); (case side1 => repeat (first | exact (Kd.C_below HR1.out d3b) | (with_reducible refine Kd.C_alloc ?_ _) | (with_reducible refine Kd.C_drewN ?_ _) | (with_reducible refine Kd.C_drew ?_))); (case side2 => exact HC1.out); (case side3 => exact C_go (Kd.R_reads' HO113.out).2.2); (case side4 => exact (Kd.R_reads' HO113.out).2.1); rintro e w' ⟨rfl, ⟨nd, rfl⟩⟩))
             go_ret
             exact ⟨d3c, d3b⟩
           · replace c18 := Bool.eq_false_iff.mpr c18
             subst c18
             replace H := iteF H
             obtain rfl := Option.some.inj H
             go_wp2_with (first | ((with_reducible refine gate_callee (f := 8) rfl ?_); refine goesL_ (some 40) rfl rfl Tryd.func8 (by kernel_rfl) rfl #[.string t101] rfl d3a ?_; (with_reducible refine (power_Read.calls kj4 t101 t106 t107 t108 t109 _ (HV.out.below d3b) A14.out).mono ?_); rintro e w23 ⟨v110, v112, rfl, ho0, ho1, hb⟩; refine ⟨_, rfl, ?_⟩; have n0_ := Aside0.mk (Kd.R_lower ho0 (below_size d3b)); have n1_ := Aside0.mk (Kd.R_lower ho1 (below_size d3b)); have n2_ := Aside0.mk (below_step d3b hb); clear HB; have HO111 := n0_; have HO113 := n1_; have HB := n2_; clear n0_ n1_ n2_; (try clear hb); (try clear ho0); (try clear ho1); obtain ⟨Ao24, co24, eo24⟩ := Kd.R_slice HO111.out; subst eo24) | (go_at_call 9; (with_reducible refine (api_Load.calls kj4 _ _ l0 _ _ t106 false _ ?side1 ?side2 ?side3 ?side4 A17.out).mono ?_); (case side1 => exact C_go (Kd.C_below HR0.out HB.out)); (case side2 => exact HC0.out); (case side3 => exact C_go (Kd.R_reads' HO111.out).2.2); (case side4 => exact (Kd.R_reads' HO111.out).2.1); rintro e w' ⟨rfl, ⟨nd, rfl⟩⟩))
             go_ret
             exact ⟨d3c, d3b⟩
         · rw [if_neg c16] at H
           have c16b0 : (t108 == 0) = false := beq_eq_false_iff_ne.mpr c16
           have c16b1 : (t108 != 0) = true := bne_iff_ne.mpr c16
           obtain rfl := Option.some.inj H
           go_wp2_with ((with_reducible refine gate_callee (f := 8) rfl ?_); refine goesL_ (some 40) rfl rfl Tryd.func8 (by kernel_rfl) rfl #[.string t101] rfl d3a ?_; (with_reducible refine (power_Read.calls kj4 t101 t106 t107 t108 t109 _ (HV.out.below d3b) A14.out).mono ?_); rintro e w25 ⟨v110, v112, rfl, ho0, ho1, hb⟩; refine ⟨_, rfl, ?_⟩; have n0_ := Aside0.mk (Kd.R_lower ho0 (below_size d3b)); have n1_ := Aside0.mk (Kd.R_lower ho1 (below_size d3b)); have n2_ := Aside0.mk (below_step d3b hb); clear HB; have HO111 := n0_; have HO113 := n1_; have HB := n2_; clear n0_ n1_ n2_; (try clear hb); (try clear ho0); (try clear ho1))
           go_ret
           exact ⟨d3c, d3b⟩
       · rw [if_neg c15] at H
         have c15b0 : (t109 == 0) = false := beq_eq_false_iff_ne.mpr c15
         have c15b1 : (t109 != 0) = true := bne_iff_ne.mpr c15
         obtain rfl := Option.some.inj H
         go_wp2_with ((with_reducible refine gate_callee (f := 8) rfl ?_); refine goesL_ (some 40) rfl rfl Tryd.func8 (by kernel_rfl) rfl #[.string t101] rfl d3a ?_; (with_reducible refine (power_Read.calls kj4 t101 t106 t107 t108 t109 _ (HV.out.below d3b) A14.out).mono ?_); rintro e w26 ⟨v110, v112, rfl, ho0, ho1, hb⟩; refine ⟨_, rfl, ?_⟩; have n0_ := Aside0.mk (Kd.R_lower ho0 (below_size d3b)); have n1_ := Aside0.mk (Kd.R_lower ho1 (below_size d3b)); have n2_ := Aside0.mk (below_step d3b hb); clear HB; have HO111 := n0_; have HO113 := n1_; have HB := n2_; clear n0_ n1_ n2_; (try clear hb); (try clear ho0); (try clear ho1))
         go_ret
         exact ⟨d3c, d3b⟩
     · rw [if_neg c13] at H
       have c13b0 : (t102 == 0) = false := beq_eq_false_iff_ne.mpr c13
       have c13b1 : (t102 != 0) = true := bne_iff_ne.mpr c13
       obtain rfl := Option.some.inj H
       go_wp2
       go_ret
       exact ⟨d3c, d3b⟩
end Go.Proofs.YtplcdpiggpkppaaDoor.Q
