-- Made by wip/tools/claimp.py of this session's texts; Lean checks it.
import Derived.Test.YtbngmblgkkdhpaaC5Q0
import Derived.Test.YtbngmblgkkdhpaaC5G12
import Derived.Test.YtbngmblgkkdhpaaC5G2
import Derived.Test.YtbngmblgkkdhpaaC5G7
import Derived.Test.YtbngmblgkkdhpaaC5G8
namespace Go.Proofs.Ytbngmblgkkdhpaa.Q
open Go.RowKit Go.Proofs.YtbngmblgkkdhpaaW.PrintWords Go.Proofs.YtbngmblgkkdhpaaW.PrintLast Go.Proofs.YtbngmblgkkdhpaaW.PrintMore
attribute [local go_sem] max2_int min2_int max_two min_two max_three min_three max_four min_four
open Go.Proofs.Ytbngmblgkkdhpaa.Base
attribute [local go_sem high] str_leq str_gtr str_geq
set_option linter.unusedVariables false
set_option linter.unusedSimpArgs false
mutual
def perigeelaw10_BookingsExcludeEven.l0 : Nat → List (S33) → Int → List Int → List (List Int) → Int → Option (Bool)
  | 0, _, _, _, _, _ => none
  | k + 1, x0, x1, x2, x7, x9 => if x9 < (x7.length : Int) then (perigeelaw10_BookingsExcludeEven.l1 k x0 x1 x2 x7 x9 0) else ((contact_CheckBooking.f k x0 x1 x2).bind fun t112 => (if t112 = 0 then (perigeelaw10_BookingsExcludeEven.l2 k x2 x7 0) else ((perigeelaw10_awake.f k).bind fun t113 => (some t113))))
def perigeelaw10_BookingsExcludeEven.l1 : Nat → List (S33) → Int → List Int → List (List Int) → Int → Int → Option (Bool)
  | 0, _, _, _, _, _, _ => none
  | k + 1, x0, x1, x2, x7, x9, x10 => if x10 < (x7.length : Int) then (if 0 ≤ x9 then (if x9 < (x7.length : Int) then ((slices_Contains_int_int.f k (rd_L11 x7 x9) x10).bind fun t107 => (if 0 ≤ x10 then ((slices_Contains_int_int.f k (rd_L11 x7 x10) x9).bind fun t109 => (if (t107 != t109) = true then (some false) else (if x9 = x10 then ((slices_Contains_int_int.f k (rd_L11 x7 x9) x10).bind fun t111 => (if t111 = true then (some false) else (perigeelaw10_BookingsExcludeEven.l1 k x0 x1 x2 x7 x9 (wrap64 (x10 + 1))))) else (perigeelaw10_BookingsExcludeEven.l1 k x0 x1 x2 x7 x9 (wrap64 (x10 + 1)))))) else (none))) else (none)) else (none)) else (perigeelaw10_BookingsExcludeEven.l0 k x0 x1 x2 x7 (wrap64 (x9 + 1)))
def perigeelaw10_BookingsExcludeEven.l2 : Nat → List Int → List (List Int) → Int → Option (Bool)
  | 0, _, _, _ => none
  | k + 1, x2, x7, x11 => if x11 < (x2.length : Int) then (perigeelaw10_BookingsExcludeEven.l3 k x2 x7 x11 0) else ((perigeelaw10_awake.f k).bind fun t114 => (some t114))
def perigeelaw10_BookingsExcludeEven.l3 : Nat → List Int → List (List Int) → Int → Int → Option (Bool)
  | 0, _, _, _, _ => none
  | k + 1, x2, x7, x11, x12 => if x12 < x11 then (if 0 ≤ x11 then (if x11 < (x2.length : Int) then (if 0 ≤ (rd x2 x11) then (if (rd x2 x11) < (x7.length : Int) then (if 0 ≤ x12 then (if x12 < (x2.length : Int) then ((slices_Contains_int_int.f k (rd_L11 x7 (rd x2 x11)) (rd x2 x12)).bind fun t118 => (if t118 = true then (some false) else (perigeelaw10_BookingsExcludeEven.l3 k x2 x7 x11 (wrap64 (x12 + 1))))) else (none)) else (none)) else (none)) else (none)) else (none)) else (none)) else (perigeelaw10_BookingsExcludeEven.l2 k x2 x7 (wrap64 (x11 + 1)))
end
def perigeelaw10_BookingsExcludeEven.f (k : Nat) (l0 : List (S33)) (a1 : Int) (l2 : List Int) : Option (Bool) := (contact_Exclude.f k l0 a1).bind fun bt101 => (if bt101.2 = 0 then (perigeelaw10_BookingsExcludeEven.l0 k l0 a1 l2 bt101.1 0) else (if (bt101.1.length : Int) = 0 then ((perigeelaw10_awake.f k).bind fun t105 => (some t105)) else (some false)))
theorem d6a {p : Prop} (h : p := by repeat (first | exact (by repeat (first | (with_reducible exact HR106_0.out) | (with_reducible refine Kd.C_alloc ?_ _) | (with_reducible refine Kd.C_drewN ?_ _) | (with_reducible refine Kd.C_drew ?_) | exact HR106_0.out)) | (with_reducible refine Kd.C_alloc ?_ _) | (with_reducible refine Kd.C_drewN ?_ _) | (with_reducible refine Kd.C_drew ?_))) : p := h
theorem d6b {p : Prop} (h : p := by repeat (first | exact (by repeat (first | (with_reducible exact HR108_0.out) | (with_reducible refine Kd.C_alloc ?_ _) | (with_reducible refine Kd.C_drewN ?_ _) | (with_reducible refine Kd.C_drew ?_) | exact HR108_0.out)) | (with_reducible refine Kd.C_alloc ?_ _) | (with_reducible refine Kd.C_drewN ?_ _) | (with_reducible refine Kd.C_drew ?_))) : p := h
theorem d6c {p : Prop} (h : p := by first | exact q106 | exact of_decide_eq_true (by first | (with_reducible assumption) | assumption) | (have e_ := (Kd.S_reads' HO_7.out).1; omega)) : p := h
theorem d6d {p : Prop} (h : p := by first | exact q108 | exact of_decide_eq_true (by first | (with_reducible assumption) | assumption) | (have e_ := (Kd.S_reads' HO_7.out).1; omega)) : p := h
theorem d6e {p : Prop} (h : p := by repeat (first | (with_reducible first | exact HB.out | apply below_alloc | apply pw_below_drewN | apply below_drew1) | exact HB.out)) : p := h
theorem d6f {p : Prop} (h : p := by (with_reducible repeat (first | apply Kd.S_alloc | apply Kd.S_drewN | apply Kd.S_drew)); exact HO_7.out) : p := h
theorem d6g {p : Prop} (h : p := by first | rfl | (simp [errW_none, errW_some] <;> rfl) | (simp [*, errW_none, errW_some] <;> rfl)) : p := h
theorem d6h {p : Prop} (h : p := by first | (with_reducible assumption) | assumption) : p := h
theorem d6i {p : Prop} (h : p := by first | rfl | (simp; done) | (simp [*]; done)) : p := h
set_option maxHeartbeats 8000000 in
set_option maxRecDepth 100000 in
theorem perigeelaw10_BookingsExcludeEven.calls (k : Nat) (A0 : Option Addr) (c0 : Nat) (l0 : List (S33)) (a1 : Int) (A2 : Option Addr) (c2 : Nat) (l2 : List Int) (r : Bool) (w : World) (hr0 : Kd.C k33 w A0 l0.length l0) (hc0 : l0.length ≤ c0) (hr2 : Kd.C (Kd.int .i64) w A2 l2.length l2) (hc2 : l2.length ≤ c2) (h : perigeelaw10_BookingsExcludeEven.f k l0 a1 l2 = some r) :
 Calls Try.prog 6 #[.slice A0 l0.length c0, .int .i64 a1, .slice A2 l2.length c2] w fun e w' => e = .returned (.bool r) ∧ Below w.heap.size w w' := by
 have HR0 := Aside0.mk hr0
 have HC0 := Aside0.mk hc0
 clear hr0 hc0
 have HR2 := Aside0.mk hr2
 have HC2 := Aside0.mk hc2
 clear hr2 hc2
 have HB := Aside0.mk (Below.refl w.heap.size w)
 have H : ((contact_Exclude.f k l0 a1).bind fun bt101 => (if bt101.2 = 0 then (perigeelaw10_BookingsExcludeEven.l0 k l0 a1 l2 bt101.1 0) else (if (bt101.1.length : Int) = 0 then ((perigeelaw10_awake.f k).bind fun t105 => (some t105)) else (some false)))) = some r := h
 clear h
 replace H := bindS H; obtain ⟨⟨t101, t102⟩, A4, H⟩ := H
 by_cases c5 : t102 = 0
 · rw [if_pos c5] at H
   have c5b0 : (t102 == 0) = true := beq_iff_eq.mpr c5
   have c5b1 : (t102 != 0) = false := bne_eq_false_iff_eq.mpr c5
   clear c5
   have H' := Aside0.mk H
   clear H
   go_enter Try.func6, Try.ntmps6
   go_wp2_with (go_at_call 20; (with_reducible refine (contact_Exclude.calls k _ _ l0 a1 t101 t102 _ ?side1 ?side2 A4.out).mono ?_); (case side1 => exact C_go HR0.out); (case side2 => exact HC0.out); rintro e w6 ⟨v103, rfl, ho0, hb⟩; have n0_ := Aside0.mk (Kd.S_lower ho0 (below_size d6e)); have n1_ := Aside0.mk (below_step d6e hb); clear HB; have HO104 := n0_; have HB := n1_; clear n0_ n1_; (try clear hb); (try clear ho0))
   go_loopg [9] k (fun kq v9 w' => ∃ (x9_1 : Int), v9 = .int .i64 x9_1 ∧ Aside0 (perigeelaw10_BookingsExcludeEven.l0 kq l0 a1 l2 t101 x9_1 = some r) ∧ Aside0 (kq ≤ k) ∧ Aside0 (Kd.S (Kd.slice 3 (Kd.int .i64)) 35 w' w.heap.size (fun _ => True) v103 t101) ∧ Aside0 (Below w.heap.size w w'))
   case atStart => exact ⟨(0), d6i, H', ⟨Nat.le_refl _⟩, ⟨by (with_reducible repeat (first | apply Kd.S_alloc | apply Kd.S_drewN | apply Kd.S_drew)); exact HO104.out⟩, ⟨d6e⟩⟩
   case round =>
    clear H'
    try clear c5b0
    try clear c5b1
    obtain ⟨x9_1, rfl, HA, HK1, HO_7, HB⟩ := hrel
    cases gk with
    | zero => exact absurd HA.out (by simp [perigeelaw10_BookingsExcludeEven.l0])
    | succ k1 =>
     have H := HA.out
     clear HA
     simp only [perigeelaw10_BookingsExcludeEven.l0] at H
     by_cases c7 : x9_1 < (t101.length : Int)
     · rw [if_pos c7] at H
       have c7b0 : decide (x9_1 < (t101.length : Int)) = true := decide_eq_true c7
       clear c7
       have H' := Aside0.mk H
       clear H
       obtain ⟨Ao8, co8, eo8⟩ := Kd.S_slice HO_7.out
       subst eo8
       go_wp2
       go_loopg [10] k1 (fun kq v10 w' => ∃ (x10_2 : Int), v10 = .int .i64 x10_2 ∧ Aside0 (perigeelaw10_BookingsExcludeEven.l1 kq l0 a1 l2 t101 x9_1 x10_2 = some r) ∧ Aside0 (kq ≤ k1) ∧ Aside0 (Kd.S (Kd.slice 3 (Kd.int .i64)) 35 w' w.heap.size (fun _ => True) (.slice Ao8 t101.length co8) t101) ∧ Aside0 (Below w.heap.size w w'))
       case atStart => exact ⟨(0), d6i, H', ⟨Nat.le_refl _⟩, ⟨d6f⟩, ⟨d6e⟩⟩
       case round =>
        clear H'
        try clear c7b0
        obtain ⟨x10_2, rfl, HA, HK2, HO_7, HB⟩ := hrel
        cases gk with
        | zero => exact absurd HA.out (by simp [perigeelaw10_BookingsExcludeEven.l1])
        | succ k2 =>
         have H := HA.out
         clear HA
         simp only [perigeelaw10_BookingsExcludeEven.l1] at H
         by_cases c9 : x10_2 < (t101.length : Int)
         · rw [if_pos c9] at H
           have c9b0 : decide (x10_2 < (t101.length : Int)) = true := decide_eq_true c9
           clear c9
           replace H := guardT H; obtain ⟨c10, H⟩ := H
           have c10b0 : decide (0 ≤ x9_1) = true := decide_eq_true c10
           clear c10
           replace H := guardT H; obtain ⟨c11, H⟩ := H
           have c11b0 : decide (x9_1 < (t101.length : Int)) = true := decide_eq_true c11
           clear c11
           replace H := bindS H; obtain ⟨t107, A12, H⟩ := H
           replace H := guardT H; obtain ⟨c13, H⟩ := H
           have c13b0 : decide (0 ≤ x10_2) = true := decide_eq_true c13
           clear c13
           replace H := bindS H; obtain ⟨t109, A14, H⟩ := H
           by_cases c15 : (t107 != t109) = true
           · rw [if_pos c15] at H
             obtain rfl : t109 = (!t107) := by revert c15; cases t107 <;> cases t109 <;> simp
             have c15b0 : (t107 != (!t107)) = true := by cases t107 <;> rfl
             clear c15
             obtain rfl := Option.some.inj H
             have p106 : 0 ≤ (x9_1 : Int) := of_decide_eq_true d6h
             have q106 : x9_1 < (t101.length : Int) := of_decide_eq_true d6h
             obtain ⟨ad106, A106_0, c106_0, e106, hx106_0, hl106_0, hi106_0⟩ := at_L11 (Kd.S_reads' HO_7.out).2.2 x9_1 p106 q106
             cases e106
             obtain ⟨ce106, hce106, hMe106, hcc106⟩ := Kd.S_get HO_7.out [] x9_1 p106 d6c
             obtain ⟨ve106_0, rfl, ge106_0⟩ := hMe106
             have hv106_0 := hcc106 0 _ rfl
             rw [Nat.add_zero, show ((Kd.slice 3 (Kd.int .i64))).sz = 1 from rfl, Nat.mul_one] at hv106_0
             replace hv106_0 := Option.some.inj (hv106_0.symm.trans hx106_0)
             rw [hv106_0] at ge106_0
             have HL106_0 := Aside0.mk (show Kd.R (Kd.int .i64) 3 _ _ _ _ (rd_L11 t101 x9_1) from ge106_0)
             clear hv106_0 ge106_0
             clear hcc106 hce106
             have HR106_0 := Aside0.mk hi106_0
             have HC106_0 := Aside0.mk hl106_0
             clear hi106_0 hl106_0
             replace p106 := eq_true p106
             replace q106 := eq_true q106
             have p108 : 0 ≤ (x10_2 : Int) := of_decide_eq_true d6h; have q108 : x10_2 < (t101.length : Int) := of_decide_eq_true d6h; obtain ⟨ad108, A108_0, c108_0, e108, hx108_0, hl108_0, hi108_0⟩ := at_L11 (Kd.S_reads' HO_7.out).2.2 x10_2 p108 q108; obtain rfl : ad106 = ad108 := (by injection e108); obtain ⟨ce108, hce108, hMe108, hcc108⟩ := Kd.S_get HO_7.out [] x10_2 p108 d6d; obtain ⟨ve108_0, rfl, ge108_0⟩ := hMe108; have hv108_0 := hcc108 0 _ rfl; rw [Nat.add_zero, show ((Kd.slice 3 (Kd.int .i64))).sz = 1 from rfl, Nat.mul_one] at hv108_0; replace hv108_0 := Option.some.inj (hv108_0.symm.trans hx108_0); rw [hv108_0] at ge108_0; have HL108_0 := Aside0.mk (show Kd.R (Kd.int .i64) 3 _ _ _ _ (rd_L11 t101 x10_2) from ge108_0); clear hv108_0 ge108_0; clear hcc108 hce108; have HR108_0 := Aside0.mk hi108_0; have HC108_0 := Aside0.mk hl108_0; clear hi108_0 hl108_0; replace p108 := eq_true p108; replace q108 := eq_true q108
             go_wp2_with (fail)
             repeat (go_quiet (first | (go_at_call 21; (with_reducible refine (slices_Contains_int_int.calls k2 _ _ (rd_L11 t101 x9_1) x10_2 t107 _ ?side1 ?side2 A12.out).mono ?_); (case side1 => exact d6a); (case side2 => exact HC106_0.out); rintro e w' ⟨rfl, ⟨nd, rfl⟩⟩; (try first | exact ⟨rfl, _, World.drewN_drewN _ _ _⟩ | exact ⟨rfl, _, Eq.trans (World.drewN_drewN _ _ _) (congrArg (World.drewN _) (Nat.add_assoc _ _ _))⟩)) | (go_at_call 21; (with_reducible refine (slices_Contains_int_int.calls k2 _ _ (rd_L11 t101 x10_2) x9_1 (!t107) _ ?side1 ?side2 A14.out).mono ?_); (case side1 => exact d6b); (case side2 => exact HC108_0.out); rintro e w' ⟨rfl, ⟨nd, rfl⟩⟩; (try first | exact ⟨rfl, _, World.drewN_drewN _ _ _⟩ | exact ⟨rfl, _, Eq.trans (World.drewN_drewN _ _ _) (congrArg (World.drewN _) (Nat.add_assoc _ _ _))⟩))); try go_wp2_with (fail))
             go_ret
             exact ⟨d6g, d6e⟩
           · rw [if_neg c15] at H
             obtain rfl : t107 = t109 := by revert c15; cases t107 <;> cases t109 <;> simp
             have c15b0 : (t107 != t107) = false := by cases t107 <;> rfl
             clear c15
             by_cases c16 : x9_1 = x10_2
             · rw [if_pos c16] at H
               have c16b0 : (x9_1 == x10_2) = true := beq_iff_eq.mpr c16
               have c16b1 : (x9_1 != x10_2) = false := bne_eq_false_iff_eq.mpr c16
               clear c16
               replace H := bindS H; obtain ⟨t111, A17, H⟩ := H
               by_cases c18 : t111 = true
               · subst c18
                 obtain rfl : t107 = true := Option.some.inj (A12.out.symm.trans A17.out)
                 replace H := iteT H
                 obtain rfl := Option.some.inj H
                 have p106 : 0 ≤ (x9_1 : Int) := of_decide_eq_true d6h
                 have q106 : x9_1 < (t101.length : Int) := of_decide_eq_true d6h
                 obtain ⟨ad106, A106_0, c106_0, e106, hx106_0, hl106_0, hi106_0⟩ := at_L11 (Kd.S_reads' HO_7.out).2.2 x9_1 p106 q106
                 cases e106
                 obtain ⟨ce106, hce106, hMe106, hcc106⟩ := Kd.S_get HO_7.out [] x9_1 p106 d6c
                 obtain ⟨ve106_0, rfl, ge106_0⟩ := hMe106
                 have hv106_0 := hcc106 0 _ rfl
                 rw [Nat.add_zero, show ((Kd.slice 3 (Kd.int .i64))).sz = 1 from rfl, Nat.mul_one] at hv106_0
                 replace hv106_0 := Option.some.inj (hv106_0.symm.trans hx106_0)
                 rw [hv106_0] at ge106_0
                 have HL106_0 := Aside0.mk (show Kd.R (Kd.int .i64) 3 _ _ _ _ (rd_L11 t101 x9_1) from ge106_0)
                 clear hv106_0 ge106_0
                 clear hcc106 hce106
                 have HR106_0 := Aside0.mk hi106_0
                 have HC106_0 := Aside0.mk hl106_0
                 clear hi106_0 hl106_0
                 replace p106 := eq_true p106
                 replace q106 := eq_true q106
                 have p108 : 0 ≤ (x10_2 : Int) := of_decide_eq_true d6h; have q108 : x10_2 < (t101.length : Int) := of_decide_eq_true d6h; obtain ⟨ad108, A108_0, c108_0, e108, hx108_0, hl108_0, hi108_0⟩ := at_L11 (Kd.S_reads' HO_7.out).2.2 x10_2 p108 q108; obtain rfl : ad106 = ad108 := (by injection e108); obtain ⟨ce108, hce108, hMe108, hcc108⟩ := Kd.S_get HO_7.out [] x10_2 p108 d6d; obtain ⟨ve108_0, rfl, ge108_0⟩ := hMe108; have hv108_0 := hcc108 0 _ rfl; rw [Nat.add_zero, show ((Kd.slice 3 (Kd.int .i64))).sz = 1 from rfl, Nat.mul_one] at hv108_0; replace hv108_0 := Option.some.inj (hv108_0.symm.trans hx108_0); rw [hv108_0] at ge108_0; have HL108_0 := Aside0.mk (show Kd.R (Kd.int .i64) 3 _ _ _ _ (rd_L11 t101 x10_2) from ge108_0); clear hv108_0 ge108_0; clear hcc108 hce108; have HR108_0 := Aside0.mk hi108_0; have HC108_0 := Aside0.mk hl108_0; clear hi108_0 hl108_0; replace p108 := eq_true p108; replace q108 := eq_true q108
                 have p110 : 0 ≤ (x9_1 : Int) := of_decide_eq_true d6h; have q110 : x9_1 < (t101.length : Int) := of_decide_eq_true d6h; obtain ⟨ad110, A110_0, c110_0, e110, hx110_0, hl110_0, hi110_0⟩ := at_L11 (Kd.S_reads' HO_7.out).2.2 x9_1 p110 q110; obtain rfl : ad106 = ad110 := (by injection e110); obtain ⟨ce110, hce110, hMe110, hcc110⟩ := Kd.S_get HO_7.out [] x9_1 p110 (by first | exact q110 | exact of_decide_eq_true d6h | (have e_ := (Kd.S_reads' HO_7.out).1; omega)); obtain ⟨ve110_0, rfl, ge110_0⟩ := hMe110; have hv110_0 := hcc110 0 _ rfl; rw [Nat.add_zero, show ((Kd.slice 3 (Kd.int .i64))).sz = 1 from rfl, Nat.mul_one] at hv110_0; replace hv110_0 := Option.some.inj (hv110_0.symm.trans hx110_0); rw [hv110_0] at ge110_0; have HL110_0 := Aside0.mk (show Kd.R (Kd.int .i64) 3 _ _ _ _ (rd_L11 t101 x9_1) from ge110_0); clear hv110_0 ge110_0; clear hcc110 hce110; have HR110_0 := Aside0.mk hi110_0; have HC110_0 := Aside0.mk hl110_0; clear hi110_0 hl110_0; replace p110 := eq_true p110; replace q110 := eq_true q110
                 go_wp2_with (fail)
                 repeat (go_quiet (first | (go_at_call 21; (with_reducible refine (slices_Contains_int_int.calls k2 _ _ (rd_L11 t101 x9_1) x10_2 true _ ?side1 ?side2 A12.out).mono ?_); (case side1 => exact d6a); (case side2 => exact HC106_0.out); rintro e w' ⟨rfl, ⟨nd, rfl⟩⟩; (try first | exact ⟨rfl, _, World.drewN_drewN _ _ _⟩ | exact ⟨rfl, _, Eq.trans (World.drewN_drewN _ _ _) (congrArg (World.drewN _) (Nat.add_assoc _ _ _))⟩)) | (go_at_call 21; (with_reducible refine (slices_Contains_int_int.calls k2 _ _ (rd_L11 t101 x10_2) x9_1 true _ ?side1 ?side2 A14.out).mono ?_); (case side1 => exact d6b); (case side2 => exact HC108_0.out); rintro e w' ⟨rfl, ⟨nd, rfl⟩⟩; (try first | exact ⟨rfl, _, World.drewN_drewN _ _ _⟩ | exact ⟨rfl, _, Eq.trans (World.drewN_drewN _ _ _) (congrArg (World.drewN _) (Nat.add_assoc _ _ _))⟩); have ea_ := Option.some.inj (hx106_0.symm.trans hx110_0); injection ea_ with ea_ en_ ec_; subst ea_; subst ec_; clear en_)); try go_wp2_with (fail))
                 go_ret
                 exact ⟨d6g, d6e⟩
               · replace c18 := Bool.eq_false_iff.mpr c18
                 subst c18
                 obtain rfl : t107 = false := Option.some.inj (A12.out.symm.trans A17.out)
                 replace H := iteF H
                 have H' := Aside0.mk H
                 clear H
                 have p106 : 0 ≤ (x9_1 : Int) := of_decide_eq_true d6h
                 have q106 : x9_1 < (t101.length : Int) := of_decide_eq_true d6h
                 obtain ⟨ad106, A106_0, c106_0, e106, hx106_0, hl106_0, hi106_0⟩ := at_L11 (Kd.S_reads' HO_7.out).2.2 x9_1 p106 q106
                 cases e106
                 obtain ⟨ce106, hce106, hMe106, hcc106⟩ := Kd.S_get HO_7.out [] x9_1 p106 d6c
                 obtain ⟨ve106_0, rfl, ge106_0⟩ := hMe106
                 have hv106_0 := hcc106 0 _ rfl
                 rw [Nat.add_zero, show ((Kd.slice 3 (Kd.int .i64))).sz = 1 from rfl, Nat.mul_one] at hv106_0
                 replace hv106_0 := Option.some.inj (hv106_0.symm.trans hx106_0)
                 rw [hv106_0] at ge106_0
                 have HL106_0 := Aside0.mk (show Kd.R (Kd.int .i64) 3 _ _ _ _ (rd_L11 t101 x9_1) from ge106_0)
                 clear hv106_0 ge106_0
                 clear hcc106 hce106
                 have HR106_0 := Aside0.mk hi106_0
                 have HC106_0 := Aside0.mk hl106_0
                 clear hi106_0 hl106_0
                 replace p106 := eq_true p106
                 replace q106 := eq_true q106
                 have p108 : 0 ≤ (x10_2 : Int) := of_decide_eq_true d6h; have q108 : x10_2 < (t101.length : Int) := of_decide_eq_true d6h; obtain ⟨ad108, A108_0, c108_0, e108, hx108_0, hl108_0, hi108_0⟩ := at_L11 (Kd.S_reads' HO_7.out).2.2 x10_2 p108 q108; obtain rfl : ad106 = ad108 := (by injection e108); obtain ⟨ce108, hce108, hMe108, hcc108⟩ := Kd.S_get HO_7.out [] x10_2 p108 d6d; obtain ⟨ve108_0, rfl, ge108_0⟩ := hMe108; have hv108_0 := hcc108 0 _ rfl; rw [Nat.add_zero, show ((Kd.slice 3 (Kd.int .i64))).sz = 1 from rfl, Nat.mul_one] at hv108_0; replace hv108_0 := Option.some.inj (hv108_0.symm.trans hx108_0); rw [hv108_0] at ge108_0; have HL108_0 := Aside0.mk (show Kd.R (Kd.int .i64) 3 _ _ _ _ (rd_L11 t101 x10_2) from ge108_0); clear hv108_0 ge108_0; clear hcc108 hce108; have HR108_0 := Aside0.mk hi108_0; have HC108_0 := Aside0.mk hl108_0; clear hi108_0 hl108_0; replace p108 := eq_true p108; replace q108 := eq_true q108
                 have p110 : 0 ≤ (x9_1 : Int) := of_decide_eq_true d6h; have q110 : x9_1 < (t101.length : Int) := of_decide_eq_true d6h; obtain ⟨ad110, A110_0, c110_0, e110, hx110_0, hl110_0, hi110_0⟩ := at_L11 (Kd.S_reads' HO_7.out).2.2 x9_1 p110 q110; obtain rfl : ad106 = ad110 := (by injection e110); obtain ⟨ce110, hce110, hMe110, hcc110⟩ := Kd.S_get HO_7.out [] x9_1 p110 (by first | exact q110 | exact of_decide_eq_true d6h | (have e_ := (Kd.S_reads' HO_7.out).1; omega)); obtain ⟨ve110_0, rfl, ge110_0⟩ := hMe110; have hv110_0 := hcc110 0 _ rfl; rw [Nat.add_zero, show ((Kd.slice 3 (Kd.int .i64))).sz = 1 from rfl, Nat.mul_one] at hv110_0; replace hv110_0 := Option.some.inj (hv110_0.symm.trans hx110_0); rw [hv110_0] at ge110_0; have HL110_0 := Aside0.mk (show Kd.R (Kd.int .i64) 3 _ _ _ _ (rd_L11 t101 x9_1) from ge110_0); clear hv110_0 ge110_0; clear hcc110 hce110; have HR110_0 := Aside0.mk hi110_0; have HC110_0 := Aside0.mk hl110_0; clear hi110_0 hl110_0; replace p110 := eq_true p110; replace q110 := eq_true q110
                 go_wp2_with (fail)
                 repeat (go_quiet (first | (go_at_call 21; (with_reducible refine (slices_Contains_int_int.calls k2 _ _ (rd_L11 t101 x9_1) x10_2 false _ ?side1 ?side2 A12.out).mono ?_); (case side1 => exact d6a); (case side2 => exact HC106_0.out); rintro e w' ⟨rfl, ⟨nd, rfl⟩⟩; (try first | exact ⟨rfl, _, World.drewN_drewN _ _ _⟩ | exact ⟨rfl, _, Eq.trans (World.drewN_drewN _ _ _) (congrArg (World.drewN _) (Nat.add_assoc _ _ _))⟩)) | (go_at_call 21; (with_reducible refine (slices_Contains_int_int.calls k2 _ _ (rd_L11 t101 x10_2) x9_1 false _ ?side1 ?side2 A14.out).mono ?_); (case side1 => exact d6b); (case side2 => exact HC108_0.out); rintro e w' ⟨rfl, ⟨nd, rfl⟩⟩; (try first | exact ⟨rfl, _, World.drewN_drewN _ _ _⟩ | exact ⟨rfl, _, Eq.trans (World.drewN_drewN _ _ _) (congrArg (World.drewN _) (Nat.add_assoc _ _ _))⟩); have ea_ := Option.some.inj (hx106_0.symm.trans hx110_0); injection ea_ with ea_ en_ ec_; subst ea_; subst ec_; clear en_)); try go_wp2_with (fail))
                 go_roundg k2
                 case measure => have := HK1.out; have := HK2.out; omega
                 case rel => exact ⟨(wrap64 (x10_2 + 1)), d6i, H', ⟨by have := HK1.out; have := HK2.out; omega⟩, ⟨d6f⟩, ⟨d6e⟩⟩
             · rw [if_neg c16] at H
               have c16b0 : (x9_1 == x10_2) = false := beq_eq_false_iff_ne.mpr c16
               have c16b1 : (x9_1 != x10_2) = true := bne_iff_ne.mpr c16
               have H' := Aside0.mk H
               clear H
               have p106 : 0 ≤ (x9_1 : Int) := of_decide_eq_true d6h
               have q106 : x9_1 < (t101.length : Int) := of_decide_eq_true d6h
               obtain ⟨ad106, A106_0, c106_0, e106, hx106_0, hl106_0, hi106_0⟩ := at_L11 (Kd.S_reads' HO_7.out).2.2 x9_1 p106 q106
               cases e106
               obtain ⟨ce106, hce106, hMe106, hcc106⟩ := Kd.S_get HO_7.out [] x9_1 p106 d6c
               obtain ⟨ve106_0, rfl, ge106_0⟩ := hMe106
               have hv106_0 := hcc106 0 _ rfl
               rw [Nat.add_zero, show ((Kd.slice 3 (Kd.int .i64))).sz = 1 from rfl, Nat.mul_one] at hv106_0
               replace hv106_0 := Option.some.inj (hv106_0.symm.trans hx106_0)
               rw [hv106_0] at ge106_0
               have HL106_0 := Aside0.mk (show Kd.R (Kd.int .i64) 3 _ _ _ _ (rd_L11 t101 x9_1) from ge106_0)
               clear hv106_0 ge106_0
               clear hcc106 hce106
               have HR106_0 := Aside0.mk hi106_0
               have HC106_0 := Aside0.mk hl106_0
               clear hi106_0 hl106_0
               replace p106 := eq_true p106
               replace q106 := eq_true q106
               have p108 : 0 ≤ (x10_2 : Int) := of_decide_eq_true d6h; have q108 : x10_2 < (t101.length : Int) := of_decide_eq_true d6h; obtain ⟨ad108, A108_0, c108_0, e108, hx108_0, hl108_0, hi108_0⟩ := at_L11 (Kd.S_reads' HO_7.out).2.2 x10_2 p108 q108; obtain rfl : ad106 = ad108 := (by injection e108); obtain ⟨ce108, hce108, hMe108, hcc108⟩ := Kd.S_get HO_7.out [] x10_2 p108 d6d; obtain ⟨ve108_0, rfl, ge108_0⟩ := hMe108; have hv108_0 := hcc108 0 _ rfl; rw [Nat.add_zero, show ((Kd.slice 3 (Kd.int .i64))).sz = 1 from rfl, Nat.mul_one] at hv108_0; replace hv108_0 := Option.some.inj (hv108_0.symm.trans hx108_0); rw [hv108_0] at ge108_0; have HL108_0 := Aside0.mk (show Kd.R (Kd.int .i64) 3 _ _ _ _ (rd_L11 t101 x10_2) from ge108_0); clear hv108_0 ge108_0; clear hcc108 hce108; have HR108_0 := Aside0.mk hi108_0; have HC108_0 := Aside0.mk hl108_0; clear hi108_0 hl108_0; replace p108 := eq_true p108; replace q108 := eq_true q108
               go_wp2_with (fail)
               repeat (go_quiet (first | (go_at_call 21; (with_reducible refine (slices_Contains_int_int.calls k2 _ _ (rd_L11 t101 x9_1) x10_2 t107 _ ?side1 ?side2 A12.out).mono ?_); (case side1 => exact d6a); (case side2 => exact HC106_0.out); rintro e w' ⟨rfl, ⟨nd, rfl⟩⟩; (try first | exact ⟨rfl, _, World.drewN_drewN _ _ _⟩ | exact ⟨rfl, _, Eq.trans (World.drewN_drewN _ _ _) (congrArg (World.drewN _) (Nat.add_assoc _ _ _))⟩)) | (go_at_call 21; (with_reducible refine (slices_Contains_int_int.calls k2 _ _ (rd_L11 t101 x10_2) x9_1 t107 _ ?side1 ?side2 A14.out).mono ?_); (case side1 => exact d6b); (case side2 => exact HC108_0.out); rintro e w' ⟨rfl, ⟨nd, rfl⟩⟩; (try first | exact ⟨rfl, _, World.drewN_drewN _ _ _⟩ | exact ⟨rfl, _, Eq.trans (World.drewN_drewN _ _ _) (congrArg (World.drewN _) (Nat.add_assoc _ _ _))⟩))); try go_wp2_with (fail))
               go_roundg k2
               case measure => have := HK1.out; have := HK2.out; omega
               case rel => exact ⟨(wrap64 (x10_2 + 1)), d6i, H', ⟨by have := HK1.out; have := HK2.out; omega⟩, ⟨d6f⟩, ⟨d6e⟩⟩
         · rw [if_neg c9] at H
           have c9b0 : decide (x10_2 < (t101.length : Int)) = false := decide_eq_false c9
           clear c9
           have H' := Aside0.mk H
           clear H
           go_wp2
           go_roundg k2
           case measure => have := HK1.out; have := HK2.out; omega
           case rel => exact ⟨(wrap64 (x9_1 + 1)), d6i, H', ⟨by have := HK1.out; have := HK2.out; omega⟩, ⟨d6f⟩, ⟨d6e⟩⟩
     · rw [if_neg c7] at H
       have c7b0 : decide (x9_1 < (t101.length : Int)) = false := decide_eq_false c7
       clear c7
       replace H := bindS H; obtain ⟨t112, A19, H⟩ := H
       by_cases c20 : t112 = 0
       · rw [if_pos c20] at H
         have c20b0 : (t112 == 0) = true := beq_iff_eq.mpr c20
         have c20b1 : (t112 != 0) = false := bne_eq_false_iff_eq.mpr c20
         clear c20
         have H' := Aside0.mk H
         clear H
         obtain ⟨Ao21, co21, eo21⟩ := Kd.S_slice HO_7.out
         subst eo21
         go_wp2_with (go_at_call 22; (with_reducible refine (contact_CheckBooking.calls k1 _ _ l0 a1 _ _ l2 t112 _ ?side1 ?side2 ?side3 ?side4 A19.out).mono ?_); (case side1 => exact C_go (Kd.C_below HR0.out HB.out)); (case side2 => exact HC0.out); (case side3 => exact C_go (Kd.C_below HR2.out HB.out)); (case side4 => exact HC2.out); rintro e w22 ⟨rfl, hb⟩; have n0_ := Aside0.mk (Kd.S_below d6f hb); have n1_ := Aside0.mk (below_step d6e hb); clear HO_7; clear HB; have HO_7 := n0_; have HB := n1_; clear n0_ n1_; (try clear hb))
         go_loopg [11] k1 (fun kq v11 w' => ∃ (x11_2 : Int), v11 = .int .i64 x11_2 ∧ Aside0 (perigeelaw10_BookingsExcludeEven.l2 kq l2 t101 x11_2 = some r) ∧ Aside0 (kq ≤ k1) ∧ Aside0 (Kd.S (Kd.slice 3 (Kd.int .i64)) 35 w' w.heap.size (fun _ => True) (.slice Ao21 t101.length co21) t101) ∧ Aside0 (Below w.heap.size w w'))
         case atStart => exact ⟨(0), d6i, H', ⟨Nat.le_refl _⟩, ⟨d6f⟩, ⟨d6e⟩⟩
         case round =>
          clear H'
          try clear c7b0
          try clear c20b0
          try clear c20b1
          obtain ⟨x11_2, rfl, HA, HK2, HO_7, HB⟩ := hrel
          cases gk with
          | zero => exact absurd HA.out (by simp [perigeelaw10_BookingsExcludeEven.l2])
          | succ k2 =>
           have H := HA.out
           clear HA
           simp only [perigeelaw10_BookingsExcludeEven.l2] at H
           by_cases c23 : x11_2 < (l2.length : Int)
           · rw [if_pos c23] at H
             have c23b0 : decide (x11_2 < (l2.length : Int)) = true := decide_eq_true c23
             clear c23
             have H' := Aside0.mk H
             clear H
             go_wp2
             go_loopg [12] k2 (fun kq v12 w' => ∃ (x12_3 : Int), v12 = .int .i64 x12_3 ∧ Aside0 (perigeelaw10_BookingsExcludeEven.l3 kq l2 t101 x11_2 x12_3 = some r) ∧ Aside0 (kq ≤ k2) ∧ Aside0 (Kd.S (Kd.slice 3 (Kd.int .i64)) 35 w' w.heap.size (fun _ => True) (.slice Ao21 t101.length co21) t101) ∧ Aside0 (Below w.heap.size w w'))
             case atStart => exact ⟨(0), d6i, H', ⟨Nat.le_refl _⟩, ⟨d6f⟩, ⟨d6e⟩⟩
             case round =>
              clear H'
              try clear c23b0
              obtain ⟨x12_3, rfl, HA, HK3, HO_7, HB⟩ := hrel
              cases gk with
              | zero => exact absurd HA.out (by simp [perigeelaw10_BookingsExcludeEven.l3])
              | succ k3 =>
               have H := HA.out
               clear HA
               simp only [perigeelaw10_BookingsExcludeEven.l3] at H
               by_cases c24 : x12_3 < x11_2
               · rw [if_pos c24] at H
                 have c24b0 : decide (x12_3 < x11_2) = true := decide_eq_true c24
                 clear c24
                 replace H := guardT H; obtain ⟨c25, H⟩ := H
                 have c25b0 : decide (0 ≤ x11_2) = true := decide_eq_true c25
                 clear c25
                 replace H := guardT H; obtain ⟨c26, H⟩ := H
                 have c26b0 : decide (x11_2 < (l2.length : Int)) = true := decide_eq_true c26
                 clear c26
                 replace H := guardT H; obtain ⟨c27, H⟩ := H
                 have c27b0 : decide (0 ≤ (rd l2 x11_2)) = true := decide_eq_true c27
                 clear c27
                 replace H := guardT H; obtain ⟨c28, H⟩ := H
                 have c28b0 : decide ((rd l2 x11_2) < (t101.length : Int)) = true := decide_eq_true c28
                 clear c28
                 replace H := guardT H; obtain ⟨c29, H⟩ := H
                 have c29b0 : decide (0 ≤ x12_3) = true := decide_eq_true c29
                 clear c29
                 replace H := guardT H; obtain ⟨c30, H⟩ := H
                 have c30b0 : decide (x12_3 < (l2.length : Int)) = true := decide_eq_true c30
                 clear c30
                 replace H := bindS H; obtain ⟨t118, A31, H⟩ := H
                 by_cases c32 : t118 = true
                 · subst c32
                   replace H := iteT H
                   obtain rfl := Option.some.inj H
                   have p115 : 0 ≤ (x11_2 : Int) := of_decide_eq_true d6h
                   have q115 : x11_2 < (l2.length : Int) := of_decide_eq_true d6h
                   obtain ⟨ad115, e115, hx115_0⟩ := Kd.at_int HR2.out x11_2 p115 q115
                   cases e115
                   replace hx115_0 := cellB HB.out hx115_0
                   replace p115 := eq_true p115
                   replace q115 := eq_true q115
                   have p116 : 0 ≤ ((rd l2 x11_2) : Int) := of_decide_eq_true d6h
                   have q116 : (rd l2 x11_2) < (t101.length : Int) := of_decide_eq_true d6h
                   obtain ⟨ad116, A116_0, c116_0, e116, hx116_0, hl116_0, hi116_0⟩ := at_L11 (Kd.S_reads' HO_7.out).2.2 (rd l2 x11_2) p116 q116
                   cases e116
                   obtain ⟨ce116, hce116, hMe116, hcc116⟩ := Kd.S_get HO_7.out [] (rd l2 x11_2) p116 (by first | exact q116 | exact of_decide_eq_true d6h | (have e_ := (Kd.S_reads' HO_7.out).1; omega))
                   obtain ⟨ve116_0, rfl, ge116_0⟩ := hMe116
                   have hv116_0 := hcc116 0 _ rfl
                   rw [Nat.add_zero, show ((Kd.slice 3 (Kd.int .i64))).sz = 1 from rfl, Nat.mul_one] at hv116_0
                   replace hv116_0 := Option.some.inj (hv116_0.symm.trans hx116_0)
                   rw [hv116_0] at ge116_0
                   have HL116_0 := Aside0.mk (show Kd.R (Kd.int .i64) 3 _ _ _ _ (rd_L11 t101 (rd l2 x11_2)) from ge116_0)
                   clear hv116_0 ge116_0
                   clear hcc116 hce116
                   have HR116_0 := Aside0.mk hi116_0
                   have HC116_0 := Aside0.mk hl116_0
                   clear hi116_0 hl116_0
                   replace p116 := eq_true p116
                   replace q116 := eq_true q116
                   have p117 : 0 ≤ (x12_3 : Int) := of_decide_eq_true d6h
                   have q117 : x12_3 < (l2.length : Int) := of_decide_eq_true d6h
                   obtain ⟨ad117, e117, hx117_0⟩ := Kd.at_int HR2.out x12_3 p117 q117
                   obtain rfl : ad115 = ad117 := (by injection e117)
                   replace hx117_0 := cellB HB.out hx117_0
                   replace p117 := eq_true p117
                   replace q117 := eq_true q117
                   go_wp2_with (fail)
                   repeat (go_quiet ((go_at_call 21; (with_reducible refine (slices_Contains_int_int.calls k3 _ _ (rd_L11 t101 (rd l2 x11_2)) (rd l2 x12_3) true _ ?side1 ?side2 A31.out).mono ?_); (case side1 => repeat (first | exact (by repeat (first | (with_reducible exact HR116_0.out) | (with_reducible refine Kd.C_alloc ?_ _) | (with_reducible refine Kd.C_drewN ?_ _) | (with_reducible refine Kd.C_drew ?_) | exact HR116_0.out)) | (with_reducible refine Kd.C_alloc ?_ _) | (with_reducible refine Kd.C_drewN ?_ _) | (with_reducible refine Kd.C_drew ?_))); (case side2 => exact HC116_0.out); rintro e w' ⟨rfl, ⟨nd, rfl⟩⟩; (try first | exact ⟨rfl, _, World.drewN_drewN _ _ _⟩ | exact ⟨rfl, _, Eq.trans (World.drewN_drewN _ _ _) (congrArg (World.drewN _) (Nat.add_assoc _ _ _))⟩))); try go_wp2_with (fail))
                   go_ret
                   exact ⟨d6g, d6e⟩
                 · replace c32 := Bool.eq_false_iff.mpr c32
                   subst c32
                   replace H := iteF H
                   have H' := Aside0.mk H
                   clear H
                   have p115 : 0 ≤ (x11_2 : Int) := of_decide_eq_true d6h
                   have q115 : x11_2 < (l2.length : Int) := of_decide_eq_true d6h
                   obtain ⟨ad115, e115, hx115_0⟩ := Kd.at_int HR2.out x11_2 p115 q115
                   cases e115
                   replace hx115_0 := cellB HB.out hx115_0
                   replace p115 := eq_true p115
                   replace q115 := eq_true q115
                   have p116 : 0 ≤ ((rd l2 x11_2) : Int) := of_decide_eq_true d6h
                   have q116 : (rd l2 x11_2) < (t101.length : Int) := of_decide_eq_true d6h
                   obtain ⟨ad116, A116_0, c116_0, e116, hx116_0, hl116_0, hi116_0⟩ := at_L11 (Kd.S_reads' HO_7.out).2.2 (rd l2 x11_2) p116 q116
                   cases e116
                   obtain ⟨ce116, hce116, hMe116, hcc116⟩ := Kd.S_get HO_7.out [] (rd l2 x11_2) p116 (by first | exact q116 | exact of_decide_eq_true d6h | (have e_ := (Kd.S_reads' HO_7.out).1; omega))
                   obtain ⟨ve116_0, rfl, ge116_0⟩ := hMe116
                   have hv116_0 := hcc116 0 _ rfl
                   rw [Nat.add_zero, show ((Kd.slice 3 (Kd.int .i64))).sz = 1 from rfl, Nat.mul_one] at hv116_0
                   replace hv116_0 := Option.some.inj (hv116_0.symm.trans hx116_0)
                   rw [hv116_0] at ge116_0
                   have HL116_0 := Aside0.mk (show Kd.R (Kd.int .i64) 3 _ _ _ _ (rd_L11 t101 (rd l2 x11_2)) from ge116_0)
                   clear hv116_0 ge116_0
                   clear hcc116 hce116
                   have HR116_0 := Aside0.mk hi116_0
                   have HC116_0 := Aside0.mk hl116_0
                   clear hi116_0 hl116_0
                   replace p116 := eq_true p116
                   replace q116 := eq_true q116
                   have p117 : 0 ≤ (x12_3 : Int) := of_decide_eq_true d6h
                   have q117 : x12_3 < (l2.length : Int) := of_decide_eq_true d6h
                   obtain ⟨ad117, e117, hx117_0⟩ := Kd.at_int HR2.out x12_3 p117 q117
                   obtain rfl : ad115 = ad117 := (by injection e117)
                   replace hx117_0 := cellB HB.out hx117_0
                   replace p117 := eq_true p117
                   replace q117 := eq_true q117
                   go_wp2_with (fail)
                   repeat (go_quiet ((go_at_call 21; (with_reducible refine (slices_Contains_int_int.calls k3 _ _ (rd_L11 t101 (rd l2 x11_2)) (rd l2 x12_3) false _ ?side1 ?side2 A31.out).mono ?_); (case side1 => repeat (first | exact (by repeat (first | (with_reducible exact HR116_0.out) | (with_reducible refine Kd.C_alloc ?_ _) | (with_reducible refine Kd.C_drewN ?_ _) | (with_reducible refine Kd.C_drew ?_) | exact HR116_0.out)) | (with_reducible refine Kd.C_alloc ?_ _) | (with_reducible refine Kd.C_drewN ?_ _) | (with_reducible refine Kd.C_drew ?_))); (case side2 => exact HC116_0.out); rintro e w' ⟨rfl, ⟨nd, rfl⟩⟩; (try first | exact ⟨rfl, _, World.drewN_drewN _ _ _⟩ | exact ⟨rfl, _, Eq.trans (World.drewN_drewN _ _ _) (congrArg (World.drewN _) (Nat.add_assoc _ _ _))⟩))); try go_wp2_with (fail))
                   go_roundg k3
                   case measure => have := HK1.out; have := HK2.out; have := HK3.out; omega
                   case rel => exact ⟨(wrap64 (x12_3 + 1)), d6i, H', ⟨by have := HK1.out; have := HK2.out; have := HK3.out; omega⟩, ⟨d6f⟩, ⟨d6e⟩⟩
               · rw [if_neg c24] at H
                 have c24b0 : decide (x12_3 < x11_2) = false := decide_eq_false c24
                 clear c24
                 have H' := Aside0.mk H
                 clear H
                 go_wp2
                 go_roundg k3
                 case measure => have := HK1.out; have := HK2.out; have := HK3.out; omega
                 case rel => exact ⟨(wrap64 (x11_2 + 1)), d6i, H', ⟨by have := HK1.out; have := HK2.out; have := HK3.out; omega⟩, ⟨d6f⟩, ⟨d6e⟩⟩
           · rw [if_neg c23] at H
             have c23b0 : decide (x11_2 < (l2.length : Int)) = false := decide_eq_false c23
             clear c23
             replace H := bindS H; obtain ⟨t114, A33, H⟩ := H
             obtain rfl := Option.some.inj H
             go_wp2_with (go_at_call 14; (with_reducible refine (perigeelaw10_awake.calls k2  t114 _ A33.out).mono ?_); rintro e w34 ⟨rfl, hb⟩; have n0_ := Aside0.mk (Kd.S_below d6f hb); have n1_ := Aside0.mk (below_step d6e hb); clear HO_7; clear HB; have HO_7 := n0_; have HB := n1_; clear n0_ n1_; (try clear hb))
             go_ret
             exact ⟨d6g, d6e⟩
       · rw [if_neg c20] at H
         have c20b0 : (t112 == 0) = false := beq_eq_false_iff_ne.mpr c20
         have c20b1 : (t112 != 0) = true := bne_iff_ne.mpr c20
         replace H := bindS H; obtain ⟨t113, A35, H⟩ := H
         obtain rfl := Option.some.inj H
         obtain ⟨Ao36, co36, eo36⟩ := Kd.S_slice HO_7.out
         subst eo36
         go_wp2_with (first | (go_at_call 22; (with_reducible refine (contact_CheckBooking.calls k1 _ _ l0 a1 _ _ l2 t112 _ ?side1 ?side2 ?side3 ?side4 A19.out).mono ?_); (case side1 => exact C_go (Kd.C_below HR0.out HB.out)); (case side2 => exact HC0.out); (case side3 => exact C_go (Kd.C_below HR2.out HB.out)); (case side4 => exact HC2.out); rintro e w37 ⟨rfl, hb⟩; have n0_ := Aside0.mk (Kd.S_below d6f hb); have n1_ := Aside0.mk (below_step d6e hb); clear HO_7; clear HB; have HO_7 := n0_; have HB := n1_; clear n0_ n1_; (try clear hb)) | (go_at_call 14; (with_reducible refine (perigeelaw10_awake.calls k1  t113 _ A35.out).mono ?_); rintro e w38 ⟨rfl, hb⟩; have n0_ := Aside0.mk (Kd.S_below d6f hb); have n1_ := Aside0.mk (below_step d6e hb); clear HO_7; clear HB; have HO_7 := n0_; have HB := n1_; clear n0_ n1_; (try clear hb)))
         go_ret
         exact ⟨d6g, d6e⟩
 · rw [if_neg c5] at H
   have c5b0 : (t102 == 0) = false := beq_eq_false_iff_ne.mpr c5
   have c5b1 : (t102 != 0) = true := bne_iff_ne.mpr c5
   by_cases c39 : (t101.length : Int) = 0
   · rw [if_pos c39] at H
     have c39b0 : ((t101.length : Int) == 0) = true := beq_iff_eq.mpr c39
     have c39b1 : ((t101.length : Int) != 0) = false := bne_eq_false_iff_eq.mpr c39
     clear c39
     replace H := bindS H; obtain ⟨t105, A40, H⟩ := H
     obtain rfl := Option.some.inj H
     go_enter Try.func6, Try.ntmps6
     go_wp2_with (first | (go_at_call 20; (with_reducible refine (contact_Exclude.calls k _ _ l0 a1 t101 t102 _ ?side1 ?side2 A4.out).mono ?_); (case side1 => exact C_go HR0.out); (case side2 => exact HC0.out); rintro e w41 ⟨v103, rfl, ho0, hb⟩; have n0_ := Aside0.mk (Kd.S_lower ho0 (below_size d6e)); have n1_ := Aside0.mk (below_step d6e hb); clear HB; have HO104 := n0_; have HB := n1_; clear n0_ n1_; (try clear hb); (try clear ho0); obtain ⟨Ao42, co42, eo42⟩ := Kd.S_slice HO104.out; subst eo42) | (go_at_call 14; (with_reducible refine (perigeelaw10_awake.calls k  t105 _ A40.out).mono ?_); rintro e w43 ⟨rfl, hb⟩; have n0_ := Aside0.mk (Kd.S_below (by (with_reducible repeat (first | apply Kd.S_alloc | apply Kd.S_drewN | apply Kd.S_drew)); exact HO104.out) hb); have n1_ := Aside0.mk (below_step d6e hb); clear HO104; clear HB; have HO104 := n0_; have HB := n1_; clear n0_ n1_; (try clear hb)))
     go_ret
     exact ⟨d6g, d6e⟩
   · rw [if_neg c39] at H
     have c39b0 : ((t101.length : Int) == 0) = false := beq_eq_false_iff_ne.mpr c39
     have c39b1 : ((t101.length : Int) != 0) = true := bne_iff_ne.mpr c39
     have c39b2 : ¬ (t101 = []) := fun h_ => c39 (by rw [h_]; rfl)
     obtain rfl := Option.some.inj H
     go_enter Try.func6, Try.ntmps6
     go_wp2_with (go_at_call 20; (with_reducible refine (contact_Exclude.calls k _ _ l0 a1 t101 t102 _ ?side1 ?side2 A4.out).mono ?_); (case side1 => exact C_go HR0.out); (case side2 => exact HC0.out); rintro e w44 ⟨v103, rfl, ho0, hb⟩; have n0_ := Aside0.mk (Kd.S_lower ho0 (below_size d6e)); have n1_ := Aside0.mk (below_step d6e hb); clear HB; have HO104 := n0_; have HB := n1_; clear n0_ n1_; (try clear hb); (try clear ho0); obtain ⟨Ao45, co45, eo45⟩ := Kd.S_slice HO104.out; subst eo45)
     go_ret
     exact ⟨d6g, d6e⟩
end Go.Proofs.Ytbngmblgkkdhpaa.Q
