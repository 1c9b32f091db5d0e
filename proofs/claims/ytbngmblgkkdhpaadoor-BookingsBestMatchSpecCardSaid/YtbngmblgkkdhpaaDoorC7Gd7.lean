-- Made by wip/tools/claimp.py of this session's texts; Lean checks it.
import Derived.Test.YtbngmblgkkdhpaaDoorC7Q0
import Derived.Test.YtbngmblgkkdhpaaDoorC7Gd5
import Derived.Test.YtbngmblgkkdhpaaDoorC7Gd6
namespace Go.Proofs.YtbngmblgkkdhpaaDoor.Q
open Go.RowKit Go.Proofs.YtbngmblgkkdhpaaDoorW.PrintWords Go.Proofs.YtbngmblgkkdhpaaDoorW.PrintLast Go.Proofs.YtbngmblgkkdhpaaDoorW.PrintMore
attribute [local go_sem] max2_int min2_int max_two min_two max_three min_three max_four min_four
open Go.Proofs.YtbngmblgkkdhpaaDoor.Base
attribute [local go_sem high] str_leq str_gtr str_geq
set_option linter.unusedVariables false
set_option linter.unusedSimpArgs false
def perigeeref10_CheckPasses.l0 : Nat → List (S55) → Int → Option (Int)
  | 0, _, _ => none
  | k + 1, x0, x3 => if x3 < (x0.length : Int) then (if 0 ≤ x3 then ((perigeeref10_checkPass.f k ((rd_T55 x0 x3).f0) ((rd_T55 x0 x3).f1) ((rd_T55 x0 x3).f2) ((rd_T55 x0 x3).f3)).bind fun t105 => (if t105 = 0 then (if x3 > 0 then (if 0 ≤ (wrap64 (x3 - 1)) then (if (wrap64 (x3 - 1)) < (x0.length : Int) then (if ((rd_T55 x0 x3).f1) < ((rd_T55 x0 (wrap64 (x3 - 1))).f1) then (some 8) else (if ((rd_T55 x0 x3).f1) = ((rd_T55 x0 (wrap64 (x3 - 1))).f1) then (if ((Op.bytesLess (((rd_T55 x0 (wrap64 (x3 - 1))).f0).toList) (((rd_T55 x0 x3).f0).toList)) = true) then (perigeeref10_CheckPasses.l0 k x0 (wrap64 (x3 + 1))) else (some 8)) else (perigeeref10_CheckPasses.l0 k x0 (wrap64 (x3 + 1))))) else (none)) else (none)) else (perigeeref10_CheckPasses.l0 k x0 (wrap64 (x3 + 1)))) else (some t105))) else (none)) else ((perigeeref10_stations.f k x0).bind fun t101 => (if (t101.length : Int) > 50 then (some 2) else (some 0)))
def perigeeref10_CheckPasses.f (k : Nat) (l0 : List (S55)) : Option (Int) := if (l0.length : Int) > 100 then (some 2) else (perigeeref10_CheckPasses.l0 k l0 0)
theorem d33a {p : Prop} (h : p := by repeat (first | (with_reducible first | exact HB.out | apply below_alloc | apply pw_below_drewN | apply below_drew1) | exact HB.out)) : p := h
theorem d33b {p : Prop} (h : p := by first | rfl | (simp [errW_none, errW_some] <;> rfl) | (simp [*, errW_none, errW_some] <;> rfl)) : p := h
theorem d33c {p : Prop} (h : p := by first | (with_reducible assumption) | assumption) : p := h
theorem d33d {p : Prop} (h : p := by first | rfl | (simp; done) | (simp [*]; done)) : p := h
theorem d33e {p : Prop} (h : p := by exact C_go (Kd.C_below HR104_3.out HB.out)) : p := h
set_option maxHeartbeats 8000000 in
set_option maxRecDepth 100000 in
theorem perigeeref10_CheckPasses.calls (k : Nat) (A0 : Option Addr) (c0 : Nat) (l0 : List (S55)) (r : Int) (w : World) (hr0 : Kd.C k55 w A0 l0.length l0) (hc0 : l0.length ≤ c0) (h : perigeeref10_CheckPasses.f k l0 = some r) :
 Calls Tryd.prog 33 #[.slice A0 l0.length c0] w fun e w' => e = .returned (.int .i64 r) ∧ Below w.heap.size w w' := by
 have hu55 := Tryd.underlying55
 have HR0 := Aside0.mk hr0
 have HC0 := Aside0.mk hc0
 clear hr0 hc0
 have HB := Aside0.mk (Below.refl w.heap.size w)
 have H : (if (l0.length : Int) > 100 then (some 2) else (perigeeref10_CheckPasses.l0 k l0 0)) = some r := h
 clear h
 by_cases c2 : (l0.length : Int) > 100
 · rw [if_pos c2] at H
   have c2b0 : decide (100 < (l0.length : Int)) = true := decide_eq_true c2
   have c2b1 : decide (100 < l0.length) = true := decide_eq_true (by omega)
   clear c2
   obtain rfl := Option.some.inj H
   go_enter Tryd.func33, Tryd.ntmps33
   go_wp2
   go_ret
   exact ⟨d33b, d33a⟩
 · rw [if_neg c2] at H
   have c2b0 : decide (100 < (l0.length : Int)) = false := decide_eq_false c2
   have c2b1 : decide (100 < l0.length) = false := decide_eq_false (by omega)
   clear c2
   have H' := Aside0.mk H
   clear H
   go_enter Tryd.func33, Tryd.ntmps33
   go_wp2
   go_loopg [3] k (fun kq v3 w' => ∃ (x3_1 : Int), v3 = .int .i64 x3_1 ∧ Aside0 (perigeeref10_CheckPasses.l0 kq l0 x3_1 = some r) ∧ Aside0 (kq ≤ k) ∧ Aside0 (Below w.heap.size w w'))
   case atStart => exact ⟨(0), d33d, H', ⟨Nat.le_refl _⟩, ⟨d33a⟩⟩
   case round =>
    clear H'
    try clear c2b0
    try clear c2b1
    obtain ⟨x3_1, rfl, HA, HK1, HB⟩ := hrel
    cases gk with
    | zero => exact absurd HA.out (by simp [perigeeref10_CheckPasses.l0])
    | succ k1 =>
     have H := HA.out
     clear HA
     simp only [perigeeref10_CheckPasses.l0] at H
     by_cases c3 : x3_1 < (l0.length : Int)
     · rw [if_pos c3] at H
       have c3b0 : decide (x3_1 < (l0.length : Int)) = true := decide_eq_true c3
       clear c3
       replace H := guardT H; obtain ⟨c4, H⟩ := H
       have c4b0 : decide (0 ≤ x3_1) = true := decide_eq_true c4
       clear c4
       replace H := bindS H; obtain ⟨t105, A5, H⟩ := H
       by_cases c6 : t105 = 0
       · rw [if_pos c6] at H
         have c6b0 : (t105 == 0) = true := beq_iff_eq.mpr c6
         have c6b1 : (t105 != 0) = false := bne_eq_false_iff_eq.mpr c6
         clear c6
         by_cases c7 : x3_1 > 0
         · rw [if_pos c7] at H
           have c7b0 : decide (0 < x3_1) = true := decide_eq_true c7
           clear c7
           obtain ⟨ji8, hji8⟩ : ∃ j_ : Int, (wrap64 (x3_1 - 1)) = j_ := ⟨_, rfl⟩
           replace H : (if 0 ≤ (ji8) then (if (ji8) < (l0.length : Int) then (if ((rd_T55 l0 x3_1).f1) < ((rd_T55 l0 (ji8)).f1) then (some 8) else (if ((rd_T55 l0 x3_1).f1) = ((rd_T55 l0 (ji8)).f1) then (if ((Op.bytesLess (((rd_T55 l0 (ji8)).f0).toList) (((rd_T55 l0 x3_1).f0).toList)) = true) then (perigeeref10_CheckPasses.l0 k1 l0 (wrap64 (x3_1 + 1))) else (some 8)) else (perigeeref10_CheckPasses.l0 k1 l0 (wrap64 (x3_1 + 1))))) else (none)) else (none)) = some r := by first | (rw [hji8] at H; exact H) | (simp only [hji8] at H ⊢; exact H)
           (try rw [hji8] at A5)
           have hji8w : (IntKind.i64.wrap (x3_1 - 1)) = ji8 := (i64_w _).trans hji8
           replace H := guardT H; obtain ⟨c9, H⟩ := H
           have c9b0 : decide (0 ≤ (ji8)) = true := decide_eq_true c9
           clear c9
           replace H := guardT H; obtain ⟨c10, H⟩ := H
           have c10b0 : decide ((ji8) < (l0.length : Int)) = true := decide_eq_true c10
           clear c10
           by_cases c11 : ((rd_T55 l0 x3_1).f1) < ((rd_T55 l0 (ji8)).f1)
           · rw [if_pos c11] at H
             have c11b0 : decide (((rd_T55 l0 x3_1).f1) < ((rd_T55 l0 (ji8)).f1)) = true := decide_eq_true c11
             clear c11
             obtain rfl := Option.some.inj H
             have p104 : 0 ≤ (x3_1 : Int) := of_decide_eq_true d33c
             have q104 : x3_1 < (l0.length : Int) := of_decide_eq_true d33c
             obtain ⟨ad104, A104_3, c104_3, e104, hx104_0, hx104_1, hx104_2, hx104_3, hl104_3, hi104_3⟩ := at_T55 HR0.out x3_1 p104 q104
             cases e104
             replace hx104_0 := cellB HB.out hx104_0
             replace hx104_1 := cellB HB.out hx104_1
             replace hx104_2 := cellB HB.out hx104_2
             replace hx104_3 := cellB HB.out hx104_3
             have HR104_3 := Aside0.mk hi104_3
             have HC104_3 := Aside0.mk hl104_3
             clear hi104_3 hl104_3
             replace p104 := eq_true p104
             replace q104 := eq_true q104
             go_wp2_with (go_at_call 70; (with_reducible refine (perigeeref10_checkPass.calls k1 ((rd_T55 l0 x3_1).f0) ((rd_T55 l0 x3_1).f1) ((rd_T55 l0 x3_1).f2) _ _ ((rd_T55 l0 x3_1).f3) t105 _ ?side1 ?side2 A5.out).mono ?_); (case side1 => exact d33e); (case side2 => exact HC104_3.out); rintro e w12 ⟨rfl, hb⟩; replace HB := Aside0.mk (below_step d33a hb); (try clear hb); have p106 : 0 ≤ (x3_1 : Int) := of_decide_eq_true d33c; have q106 : x3_1 < (l0.length : Int) := of_decide_eq_true d33c; obtain ⟨ad106, A106_3, c106_3, e106, hx106_0, hx106_1, hx106_2, hx106_3, hl106_3, hi106_3⟩ := at_T55 HR0.out x3_1 p106 q106; obtain rfl : ad104 = ad106 := (by injection e106); replace hx106_0 := cellB HB.out hx106_0; replace hx106_1 := cellB HB.out hx106_1; replace hx106_2 := cellB HB.out hx106_2; replace hx106_3 := cellB HB.out hx106_3; have HR106_3 := Aside0.mk hi106_3; have HC106_3 := Aside0.mk hl106_3; clear hi106_3 hl106_3; replace p106 := eq_true p106; replace q106 := eq_true q106; have p107 : 0 ≤ ((ji8) : Int) := of_decide_eq_true d33c; have q107 : (ji8) < (l0.length : Int) := of_decide_eq_true d33c; obtain ⟨ad107, A107_3, c107_3, e107, hx107_0, hx107_1, hx107_2, hx107_3, hl107_3, hi107_3⟩ := at_T55 HR0.out (ji8) p107 q107; obtain rfl : ad104 = ad107 := (by injection e107); replace hx107_0 := cellB HB.out hx107_0; replace hx107_1 := cellB HB.out hx107_1; replace hx107_2 := cellB HB.out hx107_2; replace hx107_3 := cellB HB.out hx107_3; have HR107_3 := Aside0.mk hi107_3; have HC107_3 := Aside0.mk hl107_3; clear hi107_3 hl107_3; replace p107 := eq_true p107; replace q107 := eq_true q107)
             repeat (go_quiet (fail); try go_wp2_with (fail))
             go_ret
             exact ⟨by first | rfl | (simp [errW_none, errW_some] <;> rfl) | (simp only [← hji8]; first | rfl | (simp [errW_none, errW_some] <;> rfl)) | (simp [*, errW_none, errW_some] <;> rfl), d33a⟩
           · rw [if_neg c11] at H
             have c11b0 : decide (((rd_T55 l0 x3_1).f1) < ((rd_T55 l0 (ji8)).f1)) = false := decide_eq_false c11
             clear c11
             by_cases c13 : ((rd_T55 l0 x3_1).f1) = ((rd_T55 l0 (ji8)).f1)
             · rw [if_pos c13] at H
               have c13b0 : (((rd_T55 l0 x3_1).f1) == ((rd_T55 l0 (ji8)).f1)) = true := beq_iff_eq.mpr c13
               have c13b1 : (((rd_T55 l0 x3_1).f1) != ((rd_T55 l0 (ji8)).f1)) = false := bne_eq_false_iff_eq.mpr c13
               clear c13
               by_cases c14 : ((Op.bytesLess (((rd_T55 l0 (ji8)).f0).toList) (((rd_T55 l0 x3_1).f0).toList)) = true)
               · rw [if_pos c14] at H
                 have c14b0 : (Op.bytesLess (((rd_T55 l0 (ji8)).f0).toList) (((rd_T55 l0 x3_1).f0).toList)) = true := c14
                 clear c14
                 have H' := Aside0.mk H
                 clear H
                 have p104 : 0 ≤ (x3_1 : Int) := of_decide_eq_true d33c
                 have q104 : x3_1 < (l0.length : Int) := of_decide_eq_true d33c
                 obtain ⟨ad104, A104_3, c104_3, e104, hx104_0, hx104_1, hx104_2, hx104_3, hl104_3, hi104_3⟩ := at_T55 HR0.out x3_1 p104 q104
                 cases e104
                 replace hx104_0 := cellB HB.out hx104_0
                 replace hx104_1 := cellB HB.out hx104_1
                 replace hx104_2 := cellB HB.out hx104_2
                 replace hx104_3 := cellB HB.out hx104_3
                 have HR104_3 := Aside0.mk hi104_3
                 have HC104_3 := Aside0.mk hl104_3
                 clear hi104_3 hl104_3
                 replace p104 := eq_true p104
                 replace q104 := eq_true q104
                 go_wp2_with (go_at_call 70; (with_reducible refine (perigeeref10_checkPass.calls k1 ((rd_T55 l0 x3_1).f0) ((rd_T55 l0 x3_1).f1) ((rd_T55 l0 x3_1).f2) _ _ ((rd_T55 l0 x3_1).f3) t105 _ ?side1 ?side2 A5.out).mono ?_); (case side1 => exact d33e); (case side2 => exact HC104_3.out); rintro e w15 ⟨rfl, hb⟩; replace HB := Aside0.mk (below_step d33a hb); (try clear hb); have p106 : 0 ≤ (x3_1 : Int) := of_decide_eq_true d33c; have q106 : x3_1 < (l0.length : Int) := of_decide_eq_true d33c; obtain ⟨ad106, A106_3, c106_3, e106, hx106_0, hx106_1, hx106_2, hx106_3, hl106_3, hi106_3⟩ := at_T55 HR0.out x3_1 p106 q106; obtain rfl : ad104 = ad106 := (by injection e106); replace hx106_0 := cellB HB.out hx106_0; replace hx106_1 := cellB HB.out hx106_1; replace hx106_2 := cellB HB.out hx106_2; replace hx106_3 := cellB HB.out hx106_3; have HR106_3 := Aside0.mk hi106_3; have HC106_3 := Aside0.mk hl106_3; clear hi106_3 hl106_3; replace p106 := eq_true p106; replace q106 := eq_true q106; have p107 : 0 ≤ ((ji8) : Int) := of_decide_eq_true d33c; have q107 : (ji8) < (l0.length : Int) := of_decide_eq_true d33c; obtain ⟨ad107, A107_3, c107_3, e107, hx107_0, hx107_1, hx107_2, hx107_3, hl107_3, hi107_3⟩ := at_T55 HR0.out (ji8) p107 q107; obtain rfl : ad104 = ad107 := (by injection e107); replace hx107_0 := cellB HB.out hx107_0; replace hx107_1 := cellB HB.out hx107_1; replace hx107_2 := cellB HB.out hx107_2; replace hx107_3 := cellB HB.out hx107_3; have HR107_3 := Aside0.mk hi107_3; have HC107_3 := Aside0.mk hl107_3; clear hi107_3 hl107_3; replace p107 := eq_true p107; replace q107 := eq_true q107; have p108 : 0 ≤ (x3_1 : Int) := of_decide_eq_true d33c; have q108 : x3_1 < (l0.length : Int) := of_decide_eq_true d33c; obtain ⟨ad108, A108_3, c108_3, e108, hx108_0, hx108_1, hx108_2, hx108_3, hl108_3, hi108_3⟩ := at_T55 HR0.out x3_1 p108 q108; obtain rfl : ad104 = ad108 := (by injection e108); replace hx108_0 := cellB HB.out hx108_0; replace hx108_1 := cellB HB.out hx108_1; replace hx108_2 := cellB HB.out hx108_2; replace hx108_3 := cellB HB.out hx108_3; have HR108_3 := Aside0.mk hi108_3; have HC108_3 := Aside0.mk hl108_3; clear hi108_3 hl108_3; replace p108 := eq_true p108; replace q108 := eq_true q108; have ea_ := Option.some.inj (hx106_3.symm.trans hx108_3); injection ea_ with ea_ en_ ec_; subst ea_; subst ec_; clear en_; have p109 : 0 ≤ ((ji8) : Int) := of_decide_eq_true d33c; have q109 : (ji8) < (l0.length : Int) := of_decide_eq_true d33c; obtain ⟨ad109, A109_3, c109_3, e109, hx109_0, hx109_1, hx109_2, hx109_3, hl109_3, hi109_3⟩ := at_T55 HR0.out (ji8) p109 q109; obtain rfl : ad104 = ad109 := (by injection e109); replace hx109_0 := cellB HB.out hx109_0; replace hx109_1 := cellB HB.out hx109_1; replace hx109_2 := cellB HB.out hx109_2; replace hx109_3 := cellB HB.out hx109_3; have HR109_3 := Aside0.mk hi109_3; have HC109_3 := Aside0.mk hl109_3; clear hi109_3 hl109_3; replace p109 := eq_true p109; replace q109 := eq_true q109; have ea_ := Option.some.inj (hx107_3.symm.trans hx109_3); injection ea_ with ea_ en_ ec_; subst ea_; subst ec_; clear en_; have p110 : 0 ≤ (x3_1 : Int) := of_decide_eq_true d33c; have q110 : x3_1 < (l0.length : Int) := of_decide_eq_true d33c; obtain ⟨ad110, A110_3, c110_3, e110, hx110_0, hx110_1, hx110_2, hx110_3, hl110_3, hi110_3⟩ := at_T55 HR0.out x3_1 p110 q110; obtain rfl : ad104 = ad110 := (by injection e110); replace hx110_0 := cellB HB.out hx110_0; replace hx110_1 := cellB HB.out hx110_1; replace hx110_2 := cellB HB.out hx110_2; replace hx110_3 := cellB HB.out hx110_3; have HR110_3 := Aside0.mk hi110_3; have HC110_3 := Aside0.mk hl110_3; clear hi110_3 hl110_3; replace p110 := eq_true p110; replace q110 := eq_true q110; have ea_ := Option.some.inj (hx106_3.symm.trans hx110_3); injection ea_ with ea_ en_ ec_; subst ea_; subst ec_; clear en_; have p111 : 0 ≤ ((ji8) : Int) := of_decide_eq_true d33c; have q111 : (ji8) < (l0.length : Int) := of_decide_eq_true d33c; obtain ⟨ad111, A111_3, c111_3, e111, hx111_0, hx111_1, hx111_2, hx111_3, hl111_3, hi111_3⟩ := at_T55 HR0.out (ji8) p111 q111; obtain rfl : ad104 = ad111 := (by injection e111); replace hx111_0 := cellB HB.out hx111_0; replace hx111_1 := cellB HB.out hx111_1; replace hx111_2 := cellB HB.out hx111_2; replace hx111_3 := cellB HB.out hx111_3; have HR111_3 := Aside0.mk hi111_3; have HC111_3 := Aside0.mk hl111_3; clear hi111_3 hl111_3; replace p111 := eq_true p111; replace q111 := eq_true q111; have ea_ := Option.some.inj (hx107_3.symm.trans hx111_3); injection ea_ with ea_ en_ ec_; subst ea_; subst ec_; clear en_)
                 repeat (go_quiet (fail); try go_wp2_with (fail))
                 go_roundg k1
                 case measure => have := HK1.out; omega
                 case rel => exact ⟨(wrap64 (x3_1 + 1)), d33d, H', ⟨by have := HK1.out; omega⟩, ⟨d33a⟩⟩
               · rw [if_neg c14] at H
                 have c14b0 : (Op.bytesLess (((rd_T55 l0 (ji8)).f0).toList) (((rd_T55 l0 x3_1).f0).toList)) = false := by simpa using c14
                 clear c14
                 obtain rfl := Option.some.inj H
                 have p104 : 0 ≤ (x3_1 : Int) := of_decide_eq_true d33c
                 have q104 : x3_1 < (l0.length : Int) := of_decide_eq_true d33c
                 obtain ⟨ad104, A104_3, c104_3, e104, hx104_0, hx104_1, hx104_2, hx104_3, hl104_3, hi104_3⟩ := at_T55 HR0.out x3_1 p104 q104
                 cases e104
                 replace hx104_0 := cellB HB.out hx104_0
                 replace hx104_1 := cellB HB.out hx104_1
                 replace hx104_2 := cellB HB.out hx104_2
                 replace hx104_3 := cellB HB.out hx104_3
                 have HR104_3 := Aside0.mk hi104_3
                 have HC104_3 := Aside0.mk hl104_3
                 clear hi104_3 hl104_3
                 replace p104 := eq_true p104
                 replace q104 := eq_true q104
                 go_wp2_with (go_at_call 70; (with_reducible refine (perigeeref10_checkPass.calls k1 ((rd_T55 l0 x3_1).f0) ((rd_T55 l0 x3_1).f1) ((rd_T55 l0 x3_1).f2) _ _ ((rd_T55 l0 x3_1).f3) t105 _ ?side1 ?side2 A5.out).mono ?_); (case side1 => exact d33e); (case side2 => exact HC104_3.out); rintro e w16 ⟨rfl, hb⟩; replace HB := Aside0.mk (below_step d33a hb); (try clear hb); have p106 : 0 ≤ (x3_1 : Int) := of_decide_eq_true d33c; have q106 : x3_1 < (l0.length : Int) := of_decide_eq_true d33c; obtain ⟨ad106, A106_3, c106_3, e106, hx106_0, hx106_1, hx106_2, hx106_3, hl106_3, hi106_3⟩ := at_T55 HR0.out x3_1 p106 q106; obtain rfl : ad104 = ad106 := (by injection e106); replace hx106_0 := cellB HB.out hx106_0; replace hx106_1 := cellB HB.out hx106_1; replace hx106_2 := cellB HB.out hx106_2; replace hx106_3 := cellB HB.out hx106_3; have HR106_3 := Aside0.mk hi106_3; have HC106_3 := Aside0.mk hl106_3; clear hi106_3 hl106_3; replace p106 := eq_true p106; replace q106 := eq_true q106; have p107 : 0 ≤ ((ji8) : Int) := of_decide_eq_true d33c; have q107 : (ji8) < (l0.length : Int) := of_decide_eq_true d33c; obtain ⟨ad107, A107_3, c107_3, e107, hx107_0, hx107_1, hx107_2, hx107_3, hl107_3, hi107_3⟩ := at_T55 HR0.out (ji8) p107 q107; obtain rfl : ad104 = ad107 := (by injection e107); replace hx107_0 := cellB HB.out hx107_0; replace hx107_1 := cellB HB.out hx107_1; replace hx107_2 := cellB HB.out hx107_2; replace hx107_3 := cellB HB.out hx107_3; have HR107_3 := Aside0.mk hi107_3; have HC107_3 := Aside0.mk hl107_3; clear hi107_3 hl107_3; replace p107 := eq_true p107; replace q107 := eq_true q107; have p108 : 0 ≤ (x3_1 : Int) := of_decide_eq_true d33c; have q108 : x3_1 < (l0.length : Int) := of_decide_eq_true d33c; obtain ⟨ad108, A108_3, c108_3, e108, hx108_0, hx108_1, hx108_2, hx108_3, hl108_3, hi108_3⟩ := at_T55 HR0.out x3_1 p108 q108; obtain rfl : ad104 = ad108 := (by injection e108); replace hx108_0 := cellB HB.out hx108_0; replace hx108_1 := cellB HB.out hx108_1; replace hx108_2 := cellB HB.out hx108_2; replace hx108_3 := cellB HB.out hx108_3; have HR108_3 := Aside0.mk hi108_3; have HC108_3 := Aside0.mk hl108_3; clear hi108_3 hl108_3; replace p108 := eq_true p108; replace q108 := eq_true q108; have ea_ := Option.some.inj (hx106_3.symm.trans hx108_3); injection ea_ with ea_ en_ ec_; subst ea_; subst ec_; clear en_; have p109 : 0 ≤ ((ji8) : Int) := of_decide_eq_true d33c; have q109 : (ji8) < (l0.length : Int) := of_decide_eq_true d33c; obtain ⟨ad109, A109_3, c109_3, e109, hx109_0, hx109_1, hx109_2, hx109_3, hl109_3, hi109_3⟩ := at_T55 HR0.out (ji8) p109 q109; obtain rfl : ad104 = ad109 := (by injection e109); replace hx109_0 := cellB HB.out hx109_0; replace hx109_1 := cellB HB.out hx109_1; replace hx109_2 := cellB HB.out hx109_2; replace hx109_3 := cellB HB.out hx109_3; have HR109_3 := Aside0.mk hi109_3; have HC109_3 := Aside0.mk hl109_3; clear hi109_3 hl109_3; replace p109 := eq_true p109; replace q109 := eq_true q109; have ea_ := Option.some.inj (hx107_3.symm.trans hx109_3); injection ea_ with ea_ en_ ec_; subst ea_; subst ec_; clear en_; have p110 : 0 ≤ (x3_1 : Int) := of_decide_eq_true d33c; have q110 : x3_1 < (l0.length : Int) := of_decide_eq_true d33c; obtain ⟨ad110, A110_3, c110_3, e110, hx110_0, hx110_1, hx110_2, hx110_3, hl110_3, hi110_3⟩ := at_T55 HR0.out x3_1 p110 q110; obtain rfl : ad104 = ad110 := (by injection e110); replace hx110_0 := cellB HB.out hx110_0; replace hx110_1 := cellB HB.out hx110_1; replace hx110_2 := cellB HB.out hx110_2; replace hx110_3 := cellB HB.out hx110_3; have HR110_3 := Aside0.mk hi110_3; have HC110_3 := Aside0.mk hl110_3; clear hi110_3 hl110_3; replace p110 := eq_true p110; replace q110 := eq_true q110; have ea_ := Option.some.inj (hx106_3.symm.trans hx110_3); injection ea_ with ea_ en_ ec_; subst ea_; subst ec_; clear en_; have p111 : 0 ≤ ((ji8) : Int) := of_decide_eq_true d33c; have q111 : (ji8) < (l0.length : Int) := of_decide_eq_true d33c; obtain ⟨ad111, A111_3, c111_3, e111, hx111_0, hx111_1, hx111_2, hx111_3, hl111_3, hi111_3⟩ := at_T55 HR0.out (ji8) p111 q111; obtain rfl : ad104 = ad111 := (by injection e111); replace hx111_0 := cellB HB.out hx111_0; replace hx111_1 := cellB HB.out hx111_1; replace hx111_2 := cellB HB.out hx111_2; replace hx111_3 := cellB HB.out hx111_3; have HR111_3 := Aside0.mk hi111_3; have HC111_3 := Aside0.mk hl111_3; clear hi111_3 hl111_3; replace p111 := eq_true p111; replace q111 := eq_true q111; have ea_ := Option.some.inj (hx107_3.symm.trans hx111_3); injection ea_ with ea_ en_ ec_; subst ea_; subst ec_; clear en_)
                 repeat (go_quiet (fail); try go_wp2_with (fail))
                 go_ret
                 exact ⟨by first | rfl | (simp [errW_none, errW_some] <;> rfl) | (simp only [← hji8]; first | rfl | (simp [errW_none, errW_some] <;> rfl)) | (simp [*, errW_none, errW_some] <;> rfl), d33a⟩
             · rw [if_neg c13] at H
               have c13b0 : (((rd_T55 l0 x3_1).f1) == ((rd_T55 l0 (ji8)).f1)) = false := beq_eq_false_iff_ne.mpr c13
               have c13b1 : (((rd_T55 l0 x3_1).f1) != ((rd_T55 l0 (ji8)).f1)) = true := bne_iff_ne.mpr c13
               have H' := Aside0.mk H
               clear H
               have p104 : 0 ≤ (x3_1 : Int) := of_decide_eq_true d33c
               have q104 : x3_1 < (l0.length : Int) := of_decide_eq_true d33c
               obtain ⟨ad104, A104_3, c104_3, e104, hx104_0, hx104_1, hx104_2, hx104_3, hl104_3, hi104_3⟩ := at_T55 HR0.out x3_1 p104 q104
               cases e104
               replace hx104_0 := cellB HB.out hx104_0
               replace hx104_1 := cellB HB.out hx104_1
               replace hx104_2 := cellB HB.out hx104_2
               replace hx104_3 := cellB HB.out hx104_3
               have HR104_3 := Aside0.mk hi104_3
               have HC104_3 := Aside0.mk hl104_3
               clear hi104_3 hl104_3
               replace p104 := eq_true p104
               replace q104 := eq_true q104
               go_wp2_with (go_at_call 70; (with_reducible refine (perigeeref10_checkPass.calls k1 ((rd_T55 l0 x3_1).f0) ((rd_T55 l0 x3_1).f1) ((rd_T55 l0 x3_1).f2) _ _ ((rd_T55 l0 x3_1).f3) t105 _ ?side1 ?side2 A5.out).mono ?_); (case side1 => exact d33e); (case side2 => exact HC104_3.out); rintro e w17 ⟨rfl, hb⟩; replace HB := Aside0.mk (below_step d33a hb); (try clear hb); have p106 : 0 ≤ (x3_1 : Int) := of_decide_eq_true d33c; have q106 : x3_1 < (l0.length : Int) := of_decide_eq_true d33c; obtain ⟨ad106, A106_3, c106_3, e106, hx106_0, hx106_1, hx106_2, hx106_3, hl106_3, hi106_3⟩ := at_T55 HR0.out x3_1 p106 q106; obtain rfl : ad104 = ad106 := (by injection e106); replace hx106_0 := cellB HB.out hx106_0; replace hx106_1 := cellB HB.out hx106_1; replace hx106_2 := cellB HB.out hx106_2; replace hx106_3 := cellB HB.out hx106_3; have HR106_3 := Aside0.mk hi106_3; have HC106_3 := Aside0.mk hl106_3; clear hi106_3 hl106_3; replace p106 := eq_true p106; replace q106 := eq_true q106; have p107 : 0 ≤ ((ji8) : Int) := of_decide_eq_true d33c; have q107 : (ji8) < (l0.length : Int) := of_decide_eq_true d33c; obtain ⟨ad107, A107_3, c107_3, e107, hx107_0, hx107_1, hx107_2, hx107_3, hl107_3, hi107_3⟩ := at_T55 HR0.out (ji8) p107 q107; obtain rfl : ad104 = ad107 := (by injection e107); replace hx107_0 := cellB HB.out hx107_0; replace hx107_1 := cellB HB.out hx107_1; replace hx107_2 := cellB HB.out hx107_2; replace hx107_3 := cellB HB.out hx107_3; have HR107_3 := Aside0.mk hi107_3; have HC107_3 := Aside0.mk hl107_3; clear hi107_3 hl107_3; replace p107 := eq_true p107; replace q107 := eq_true q107; have p108 : 0 ≤ (x3_1 : Int) := of_decide_eq_true d33c; have q108 : x3_1 < (l0.length : Int) := of_decide_eq_true d33c; obtain ⟨ad108, A108_3, c108_3, e108, hx108_0, hx108_1, hx108_2, hx108_3, hl108_3, hi108_3⟩ := at_T55 HR0.out x3_1 p108 q108; obtain rfl : ad104 = ad108 := (by injection e108); replace hx108_0 := cellB HB.out hx108_0; replace hx108_1 := cellB HB.out hx108_1; replace hx108_2 := cellB HB.out hx108_2; replace hx108_3 := cellB HB.out hx108_3; have HR108_3 := Aside0.mk hi108_3; have HC108_3 := Aside0.mk hl108_3; clear hi108_3 hl108_3; replace p108 := eq_true p108; replace q108 := eq_true q108; have ea_ := Option.some.inj (hx106_3.symm.trans hx108_3); injection ea_ with ea_ en_ ec_; subst ea_; subst ec_; clear en_; have p109 : 0 ≤ ((ji8) : Int) := of_decide_eq_true d33c; have q109 : (ji8) < (l0.length : Int) := of_decide_eq_true d33c; obtain ⟨ad109, A109_3, c109_3, e109, hx109_0, hx109_1, hx109_2, hx109_3, hl109_3, hi109_3⟩ := at_T55 HR0.out (ji8) p109 q109; obtain rfl : ad104 = ad109 := (by injection e109); replace hx109_0 := cellB HB.out hx109_0; replace hx109_1 := cellB HB.out hx109_1; replace hx109_2 := cellB HB.out hx109_2; replace hx109_3 := cellB HB.out hx109_3; have HR109_3 := Aside0.mk hi109_3; have HC109_3 := Aside0.mk hl109_3; clear hi109_3 hl109_3; replace p109 := eq_true p109; replace q109 := eq_true q109; have ea_ := Option.some.inj (hx107_3.symm.trans hx109_3); injection ea_ with ea_ en_ ec_; subst ea_; subst ec_; clear en_)
               repeat (go_quiet (fail); try go_wp2_with (fail))
               go_roundg k1
               case measure => have := HK1.out; omega
               case rel => exact ⟨(wrap64 (x3_1 + 1)), d33d, H', ⟨by have := HK1.out; omega⟩, ⟨d33a⟩⟩
         · rw [if_neg c7] at H
           have c7b0 : decide (0 < x3_1) = false := decide_eq_false c7
           clear c7
           have H' := Aside0.mk H
           clear H
           have p104 : 0 ≤ (x3_1 : Int) := of_decide_eq_true d33c
           have q104 : x3_1 < (l0.length : Int) := of_decide_eq_true d33c
           obtain ⟨ad104, A104_3, c104_3, e104, hx104_0, hx104_1, hx104_2, hx104_3, hl104_3, hi104_3⟩ := at_T55 HR0.out x3_1 p104 q104
           cases e104
           replace hx104_0 := cellB HB.out hx104_0
           replace hx104_1 := cellB HB.out hx104_1
           replace hx104_2 := cellB HB.out hx104_2
           replace hx104_3 := cellB HB.out hx104_3
           have HR104_3 := Aside0.mk hi104_3
           have HC104_3 := Aside0.mk hl104_3
           clear hi104_3 hl104_3
           replace p104 := eq_true p104
           replace q104 := eq_true q104
           go_wp2_with (go_at_call 70; (with_reducible refine (perigeeref10_checkPass.calls k1 ((rd_T55 l0 x3_1).f0) ((rd_T55 l0 x3_1).f1) ((rd_T55 l0 x3_1).f2) _ _ ((rd_T55 l0 x3_1).f3) t105 _ ?side1 ?side2 A5.out).mono ?_); (case side1 => exact d33e); (case side2 => exact HC104_3.out); rintro e w18 ⟨rfl, hb⟩; replace HB := Aside0.mk (below_step d33a hb); (try clear hb))
           repeat (go_quiet (fail); try go_wp2_with (fail))
           go_roundg k1
           case measure => have := HK1.out; omega
           case rel => exact ⟨(wrap64 (x3_1 + 1)), d33d, H', ⟨by have := HK1.out; omega⟩, ⟨d33a⟩⟩
       · rw [if_neg c6] at H
         have c6b0 : (t105 == 0) = false := beq_eq_false_iff_ne.mpr c6
         have c6b1 : (t105 != 0) = true := bne_iff_ne.mpr c6
         obtain rfl := Option.some.inj H
         have p104 : 0 ≤ (x3_1 : Int) := of_decide_eq_true d33c
         have q104 : x3_1 < (l0.length : Int) := of_decide_eq_true d33c
         obtain ⟨ad104, A104_3, c104_3, e104, hx104_0, hx104_1, hx104_2, hx104_3, hl104_3, hi104_3⟩ := at_T55 HR0.out x3_1 p104 q104
         cases e104
         replace hx104_0 := cellB HB.out hx104_0
         replace hx104_1 := cellB HB.out hx104_1
         replace hx104_2 := cellB HB.out hx104_2
         replace hx104_3 := cellB HB.out hx104_3
         have HR104_3 := Aside0.mk hi104_3
         have HC104_3 := Aside0.mk hl104_3
         clear hi104_3 hl104_3
         replace p104 := eq_true p104
         replace q104 := eq_true q104
         go_wp2_with (go_at_call 70; (with_reducible refine (perigeeref10_checkPass.calls k1 ((rd_T55 l0 x3_1).f0) ((rd_T55 l0 x3_1).f1) ((rd_T55 l0 x3_1).f2) _ _ ((rd_T55 l0 x3_1).f3) t105 _ ?side1 ?side2 A5.out).mono ?_); (case side1 => exact d33e); (case side2 => exact HC104_3.out); rintro e w19 ⟨rfl, hb⟩; replace HB := Aside0.mk (below_step d33a hb); (try clear hb))
         go_ret
         exact ⟨d33b, d33a⟩
     · rw [if_neg c3] at H
       have c3b0 : decide (x3_1 < (l0.length : Int)) = false := decide_eq_false c3
       clear c3
       replace H := bindS H; obtain ⟨t101, A20, H⟩ := H
       by_cases c21 : (t101.length : Int) > 50
       · rw [if_pos c21] at H
         have c21b0 : decide (50 < (t101.length : Int)) = true := decide_eq_true c21
         have c21b1 : decide (50 < t101.length) = true := decide_eq_true (by omega)
         clear c21
         obtain rfl := Option.some.inj H
         go_wp2_with (go_at_call 51; (with_reducible refine (perigeeref10_stations.calls k1 _ _ l0 t101 _ ?side1 ?side2 A20.out).mono ?_); (case side1 => exact C_go (Kd.C_below HR0.out HB.out)); (case side2 => exact HC0.out); rintro e w22 ⟨v102, rfl, ho0, hb⟩; have n0_ := Aside0.mk (Kd.R_lower ho0 (below_size d33a)); have n1_ := Aside0.mk (below_step d33a hb); clear HB; have HO103 := n0_; have HB := n1_; clear n0_ n1_; (try clear hb); (try clear ho0); obtain ⟨Ao23, co23, eo23⟩ := Kd.R_slice HO103.out; subst eo23)
         go_ret
         exact ⟨d33b, d33a⟩
       · rw [if_neg c21] at H
         have c21b0 : decide (50 < (t101.length : Int)) = false := decide_eq_false c21
         have c21b1 : decide (50 < t101.length) = false := decide_eq_false (by omega)
         clear c21
         obtain rfl := Option.some.inj H
         go_wp2_with (go_at_call 51; (with_reducible refine (perigeeref10_stations.calls k1 _ _ l0 t101 _ ?side1 ?side2 A20.out).mono ?_); (case side1 => exact C_go (Kd.C_below HR0.out HB.out)); (case side2 => exact HC0.out); rintro e w24 ⟨v102, rfl, ho0, hb⟩; have n0_ := Aside0.mk (Kd.R_lower ho0 (below_size d33a)); have n1_ := Aside0.mk (below_step d33a hb); clear HB; have HO103 := n0_; have HB := n1_; clear n0_ n1_; (try clear hb); (try clear ho0); obtain ⟨Ao25, co25, eo25⟩ := Kd.R_slice HO103.out; subst eo25)
         go_ret
         exact ⟨d33b, d33a⟩
end Go.Proofs.YtbngmblgkkdhpaaDoor.Q
