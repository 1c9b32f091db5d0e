-- Made by wip/tools/claimp.py of this session's texts; Lean checks it.
import Derived.Test.YtbngmblgkkdhpaaC8Q0
import Derived.Test.YtbngmblgkkdhpaaC8Gs1
namespace Go.Proofs.Ytbngmblgkkdhpaa.Q
open Go.RowKit Go.Proofs.YtbngmblgkkdhpaaW.PrintWords Go.Proofs.YtbngmblgkkdhpaaW.PrintLast Go.Proofs.YtbngmblgkkdhpaaW.PrintMore
attribute [local go_sem] max2_int min2_int max_two min_two max_three min_three max_four min_four
open Go.Proofs.Ytbngmblgkkdhpaa.Base
attribute [local go_sem high] str_leq str_gtr str_geq
set_option linter.unusedVariables false
set_option linter.unusedSimpArgs false
def perigeeref10_within.f (a0 : Int) (a1 : Int) (a2 : Int) : Option (Bool) := if a0 ≥ a1 then (some (decide (a0 ≤ a2))) else (some false)
set_option maxHeartbeats 8000000 in
set_option maxRecDepth 100000 in
theorem perigeeref10_within.calls (a0 : Int) (a1 : Int) (a2 : Int) (r : Bool) (w : World) (h : perigeeref10_within.f a0 a1 a2 = some r) :
 Calls Try.prog 42 #[.int .i64 a0, .int .i64 a1, .int .i64 a2] w fun e w' => e = .returned (.bool r) ∧ Drawn0 w w' := by
 have H : (if a0 ≥ a1 then (some (decide (a0 ≤ a2))) else (some false)) = some r := h
 clear h
 by_cases c4 : a0 ≥ a1
 · rw [if_pos c4] at H
   have c4b0 : decide (a1 ≤ a0) = true := decide_eq_true c4
   clear c4
   obtain rfl := Option.some.inj H
   go_enter Try.func42, Try.ntmps42
   go_wp2
   go_ret
   exact ⟨by first | rfl | (simp; done) | (simp [*]; done), by repeat (first | exact Drawn0.refl _ | apply Drawn0.step)⟩
 · rw [if_neg c4] at H
   have c4b0 : decide (a1 ≤ a0) = false := decide_eq_false c4
   clear c4
   obtain rfl := Option.some.inj H
   go_enter Try.func42, Try.ntmps42
   go_wp2
   go_ret
   exact ⟨by first | rfl | (simp; done) | (simp [*]; done), by repeat (first | exact Drawn0.refl _ | apply Drawn0.step)⟩
def perigeeref10_moment.f (a0 : Int) : Option (Bool) := (perigeeref10_within.f a0 0 1000000000000).bind fun t101 => (some t101)
set_option maxHeartbeats 8000000 in
set_option maxRecDepth 100000 in
theorem perigeeref10_moment.calls (a0 : Int) (r : Bool) (w : World) (h : perigeeref10_moment.f a0 = some r) :
 Calls Try.prog 43 #[.int .i64 a0] w fun e w' => e = .returned (.bool r) ∧ Drawn0 w w' := by
 have H : ((perigeeref10_within.f a0 0 1000000000000).bind fun t101 => (some t101)) = some r := h
 clear h
 replace H := bindS H; obtain ⟨t101, A2, H⟩ := H
 obtain rfl := Option.some.inj H
 go_enter Try.func43, Try.ntmps43
 go_wp2_with ((with_reducible refine gate_callee (f := 42) rfl ?_); refine goesL_ (some 4) rfl rfl Try.func42 (by kernel_rfl) rfl #[.int .i64 a0, .int .i64 0, .int .i64 1000000000000] rfl (by (try simp only [List.map_toArray, List.map_cons, List.map_nil]); first | done | rfl | (simp only [List.length_drop, List.length_take]; rfl)) ?_; (with_reducible refine (perigeeref10_within.calls a0 0 1000000000000 t101 _ A2.out).mono ?_); rintro e w' ⟨rfl, ⟨nd, rfl⟩⟩; refine ⟨_, rfl, ?_⟩)
 go_ret
 exact ⟨by first | rfl | (simp; done) | (simp [*]; done), by repeat (first | exact Drawn0.refl _ | apply Drawn0.step)⟩
def perigeeref8_within.f (a0 : Int) (a1 : Int) (a2 : Int) : Option (Bool) := if a0 ≥ a1 then (some (decide (a0 ≤ a2))) else (some false)
set_option maxHeartbeats 8000000 in
set_option maxRecDepth 100000 in
theorem perigeeref8_within.calls (a0 : Int) (a1 : Int) (a2 : Int) (r : Bool) (w : World) (h : perigeeref8_within.f a0 a1 a2 = some r) :
 Calls Try.prog 96 #[.int .i64 a0, .int .i64 a1, .int .i64 a2] w fun e w' => e = .returned (.bool r) ∧ Drawn0 w w' := by
 have H : (if a0 ≥ a1 then (some (decide (a0 ≤ a2))) else (some false)) = some r := h
 clear h
 by_cases c4 : a0 ≥ a1
 · rw [if_pos c4] at H
   have c4b0 : decide (a1 ≤ a0) = true := decide_eq_true c4
   clear c4
   obtain rfl := Option.some.inj H
   go_enter Try.func96, Try.ntmps96
   go_wp2
   go_ret
   exact ⟨by first | rfl | (simp; done) | (simp [*]; done), by repeat (first | exact Drawn0.refl _ | apply Drawn0.step)⟩
 · rw [if_neg c4] at H
   have c4b0 : decide (a1 ≤ a0) = false := decide_eq_false c4
   clear c4
   obtain rfl := Option.some.inj H
   go_enter Try.func96, Try.ntmps96
   go_wp2
   go_ret
   exact ⟨by first | rfl | (simp; done) | (simp [*]; done), by repeat (first | exact Drawn0.refl _ | apply Drawn0.step)⟩
def perigeeref8_IsName.l0 : Nat → ByteArray → Int → Option (Bool)
  | 0, _, _ => none
  | k + 1, x0, x3 => if x3 < (x0.size : Int) then (if 0 ≤ x3 then (if (bt x0 x3) ≥ 97 then (if ((bt x0 x3) ≤ 122) then (perigeeref8_IsName.l0 k x0 (wrap64 (x3 + 1))) else (if x3 = 0 then (some false) else (if (bt x0 x3) = 45 then (perigeeref8_IsName.l0 k x0 (wrap64 (x3 + 1))) else (if (bt x0 x3) = 95 then (perigeeref8_IsName.l0 k x0 (wrap64 (x3 + 1))) else (if (bt x0 x3) ≥ 48 then (if ((bt x0 x3) ≤ 57) then (perigeeref8_IsName.l0 k x0 (wrap64 (x3 + 1))) else (some false)) else (some false)))))) else (if x3 = 0 then (some false) else (if (bt x0 x3) = 45 then (perigeeref8_IsName.l0 k x0 (wrap64 (x3 + 1))) else (if (bt x0 x3) = 95 then (perigeeref8_IsName.l0 k x0 (wrap64 (x3 + 1))) else (if (bt x0 x3) ≥ 48 then (if ((bt x0 x3) ≤ 57) then (perigeeref8_IsName.l0 k x0 (wrap64 (x3 + 1))) else (some false)) else (some false)))))) else (none)) else ((perigeeref8_within.f (x0.size : Int) 1 40).bind fun t101 => (some t101))
def perigeeref8_IsName.f (k : Nat) (a0 : ByteArray) : Option (Bool) := perigeeref8_IsName.l0 k a0 0
theorem d79a {p : Prop} (h : p := by repeat (first | exact Drawn0.refl _ | apply Drawn0.step)) : p := h
theorem d79b {p : Prop} (h : p := by first | (with_reducible assumption) | assumption) : p := h
theorem d79c {p : Prop} (h : p := by first | rfl | (simp; done) | (simp [*]; done)) : p := h
set_option maxHeartbeats 8000000 in
set_option maxRecDepth 100000 in
theorem perigeeref8_IsName.calls (k : Nat) (a0 : ByteArray) (r : Bool) (w : World) (h : perigeeref8_IsName.f k a0 = some r) :
 Calls Try.prog 79 #[.string a0] w fun e w' => e = .returned (.bool r) ∧ Drawn0 w w' := by
 have H : (perigeeref8_IsName.l0 k a0 0) = some r := h
 clear h
 have H' := Aside0.mk H
 clear H
 go_enter Try.func79, Try.ntmps79
 go_wp2
 go_loopg [3] k (fun kq v3 w' => ∃ (x3_1 : Int), v3 = .int .i64 x3_1 ∧ Aside0 (perigeeref8_IsName.l0 kq a0 x3_1 = some r) ∧ Aside0 (kq ≤ k) ∧ Drawn0 w w')
 case atStart => exact ⟨(0), d79c, H', ⟨Nat.le_refl _⟩, d79a⟩
 case round =>
  clear H'
  obtain ⟨x3_1, rfl, HA, HK1, ⟨m1, rfl⟩⟩ := hrel
  cases gk with
  | zero => exact absurd HA.out (by simp [perigeeref8_IsName.l0])
  | succ k1 =>
   have H := HA.out
   clear HA
   simp only [perigeeref8_IsName.l0] at H
   by_cases c2 : x3_1 < (a0.size : Int)
   · rw [if_pos c2] at H
     have c2b0 : decide (x3_1 < (a0.size : Int)) = true := decide_eq_true c2
     clear c2
     replace H := guardT H; obtain ⟨c3, H⟩ := H
     have c3b0 : decide (0 ≤ x3_1) = true := decide_eq_true c3
     clear c3
     by_cases c5 : (bt a0 x3_1) ≥ 97
     · rw [if_pos c5] at H
       have c5b0 : decide (97 ≤ (bt a0 x3_1)) = true := decide_eq_true c5
       clear c5
       by_cases c6 : ((bt a0 x3_1) ≤ 122)
       · rw [if_pos c6] at H
         have c6b0 : decide ((bt a0 x3_1) ≤ 122) = true := decide_eq_true c6
         clear c6
         have H' := Aside0.mk H
         clear H
         have p4 : 0 ≤ (x3_1 : Int) := of_decide_eq_true d79b
         have q4 : x3_1 < (a0.size : Int) := of_decide_eq_true d79b
         have hx4 := bt_at a0 x3_1
         replace p4 := eq_true p4
         replace q4 := eq_true q4
         go_wp2
         go_roundg k1
         case measure => have := HK1.out; omega
         case rel => exact ⟨(wrap64 (x3_1 + 1)), d79c, H', ⟨by have := HK1.out; omega⟩, d79a⟩
       · rw [if_neg c6] at H
         have c6b0 : decide ((bt a0 x3_1) ≤ 122) = false := decide_eq_false c6
         clear c6
         by_cases c7 : x3_1 = 0
         · rw [if_pos c7] at H
           have c7b0 : (x3_1 == 0) = true := beq_iff_eq.mpr c7
           have c7b1 : (x3_1 != 0) = false := bne_eq_false_iff_eq.mpr c7
           clear c7
           obtain rfl := Option.some.inj H
           have p4 : 0 ≤ (x3_1 : Int) := of_decide_eq_true d79b
           have q4 : x3_1 < (a0.size : Int) := of_decide_eq_true d79b
           have hx4 := bt_at a0 x3_1
           replace p4 := eq_true p4
           replace q4 := eq_true q4
           go_wp2
           go_ret
           exact ⟨d79c, d79a⟩
         · rw [if_neg c7] at H
           have c7b0 : (x3_1 == 0) = false := beq_eq_false_iff_ne.mpr c7
           have c7b1 : (x3_1 != 0) = true := bne_iff_ne.mpr c7
           by_cases c8 : (bt a0 x3_1) = 45
           · rw [if_pos c8] at H
             have c8b0 : ((bt a0 x3_1) == 45) = true := beq_iff_eq.mpr c8
             have c8b1 : ((bt a0 x3_1) != 45) = false := bne_eq_false_iff_eq.mpr c8
             clear c8
             have H' := Aside0.mk H
             clear H
             have p4 : 0 ≤ (x3_1 : Int) := of_decide_eq_true d79b
             have q4 : x3_1 < (a0.size : Int) := of_decide_eq_true d79b
             have hx4 := bt_at a0 x3_1
             replace p4 := eq_true p4
             replace q4 := eq_true q4
             go_wp2
             go_roundg k1
             case measure => have := HK1.out; omega
             case rel => exact ⟨(wrap64 (x3_1 + 1)), d79c, H', ⟨by have := HK1.out; omega⟩, d79a⟩
           · rw [if_neg c8] at H
             have c8b0 : ((bt a0 x3_1) == 45) = false := beq_eq_false_iff_ne.mpr c8
             have c8b1 : ((bt a0 x3_1) != 45) = true := bne_iff_ne.mpr c8
             by_cases c9 : (bt a0 x3_1) = 95
             · rw [if_pos c9] at H
               have c9b0 : ((bt a0 x3_1) == 95) = true := beq_iff_eq.mpr c9
               have c9b1 : ((bt a0 x3_1) != 95) = false := bne_eq_false_iff_eq.mpr c9
               clear c9
               have H' := Aside0.mk H
               clear H
               have p4 : 0 ≤ (x3_1 : Int) := of_decide_eq_true d79b
               have q4 : x3_1 < (a0.size : Int) := of_decide_eq_true d79b
               have hx4 := bt_at a0 x3_1
               replace p4 := eq_true p4
               replace q4 := eq_true q4
               go_wp2
               go_roundg k1
               case measure => have := HK1.out; omega
               case rel => exact ⟨(wrap64 (x3_1 + 1)), d79c, H', ⟨by have := HK1.out; omega⟩, d79a⟩
             · rw [if_neg c9] at H
               have c9b0 : ((bt a0 x3_1) == 95) = false := beq_eq_false_iff_ne.mpr c9
               have c9b1 : ((bt a0 x3_1) != 95) = true := bne_iff_ne.mpr c9
               by_cases c10 : (bt a0 x3_1) ≥ 48
               · rw [if_pos c10] at H
                 have c10b0 : decide (48 ≤ (bt a0 x3_1)) = true := decide_eq_true c10
                 clear c10
                 by_cases c11 : ((bt a0 x3_1) ≤ 57)
                 · rw [if_pos c11] at H
                   have c11b0 : decide ((bt a0 x3_1) ≤ 57) = true := decide_eq_true c11
                   clear c11
                   have H' := Aside0.mk H
                   clear H
                   have p4 : 0 ≤ (x3_1 : Int) := of_decide_eq_true d79b
                   have q4 : x3_1 < (a0.size : Int) := of_decide_eq_true d79b
                   have hx4 := bt_at a0 x3_1
                   replace p4 := eq_true p4
                   replace q4 := eq_true q4
                   go_wp2
                   go_roundg k1
                   case measure => have := HK1.out; omega
                   case rel => exact ⟨(wrap64 (x3_1 + 1)), d79c, H', ⟨by have := HK1.out; omega⟩, d79a⟩
                 · rw [if_neg c11] at H
                   have c11b0 : decide ((bt a0 x3_1) ≤ 57) = false := decide_eq_false c11
                   clear c11
                   obtain rfl := Option.some.inj H
                   have p4 : 0 ≤ (x3_1 : Int) := of_decide_eq_true d79b
                   have q4 : x3_1 < (a0.size : Int) := of_decide_eq_true d79b
                   have hx4 := bt_at a0 x3_1
                   replace p4 := eq_true p4
                   replace q4 := eq_true q4
                   go_wp2
                   go_ret
                   exact ⟨d79c, d79a⟩
               · rw [if_neg c10] at H
                 have c10b0 : decide (48 ≤ (bt a0 x3_1)) = false := decide_eq_false c10
                 clear c10
                 obtain rfl := Option.some.inj H
                 have p4 : 0 ≤ (x3_1 : Int) := of_decide_eq_true d79b
                 have q4 : x3_1 < (a0.size : Int) := of_decide_eq_true d79b
                 have hx4 := bt_at a0 x3_1
                 replace p4 := eq_true p4
                 replace q4 := eq_true q4
                 go_wp2
                 go_ret
                 exact ⟨d79c, d79a⟩
     · rw [if_neg c5] at H
       have c5b0 : decide (97 ≤ (bt a0 x3_1)) = false := decide_eq_false c5
       clear c5
       by_cases c12 : x3_1 = 0
       · rw [if_pos c12] at H
         have c12b0 : (x3_1 == 0) = true := beq_iff_eq.mpr c12
         have c12b1 : (x3_1 != 0) = false := bne_eq_false_iff_eq.mpr c12
         clear c12
         obtain rfl := Option.some.inj H
         have p4 : 0 ≤ (x3_1 : Int) := of_decide_eq_true d79b
         have q4 : x3_1 < (a0.size : Int) := of_decide_eq_true d79b
         have hx4 := bt_at a0 x3_1
         replace p4 := eq_true p4
         replace q4 := eq_true q4
         go_wp2
         go_ret
         exact ⟨d79c, d79a⟩
       · rw [if_neg c12] at H
         have c12b0 : (x3_1 == 0) = false := beq_eq_false_iff_ne.mpr c12
         have c12b1 : (x3_1 != 0) = true := bne_iff_ne.mpr c12
         by_cases c13 : (bt a0 x3_1) = 45
         · rw [if_pos c13] at H
           have c13b0 : ((bt a0 x3_1) == 45) = true := beq_iff_eq.mpr c13
           have c13b1 : ((bt a0 x3_1) != 45) = false := bne_eq_false_iff_eq.mpr c13
           clear c13
           have H' := Aside0.mk H
           clear H
           have p4 : 0 ≤ (x3_1 : Int) := of_decide_eq_true d79b
           have q4 : x3_1 < (a0.size : Int) := of_decide_eq_true d79b
           have hx4 := bt_at a0 x3_1
           replace p4 := eq_true p4
           replace q4 := eq_true q4
           go_wp2
           go_roundg k1
           case measure => have := HK1.out; omega
           case rel => exact ⟨(wrap64 (x3_1 + 1)), d79c, H', ⟨by have := HK1.out; omega⟩, d79a⟩
         · rw [if_neg c13] at H
           have c13b0 : ((bt a0 x3_1) == 45) = false := beq_eq_false_iff_ne.mpr c13
           have c13b1 : ((bt a0 x3_1) != 45) = true := bne_iff_ne.mpr c13
           by_cases c14 : (bt a0 x3_1) = 95
           · rw [if_pos c14] at H
             have c14b0 : ((bt a0 x3_1) == 95) = true := beq_iff_eq.mpr c14
             have c14b1 : ((bt a0 x3_1) != 95) = false := bne_eq_false_iff_eq.mpr c14
             clear c14
             have H' := Aside0.mk H
             clear H
             have p4 : 0 ≤ (x3_1 : Int) := of_decide_eq_true d79b
             have q4 : x3_1 < (a0.size : Int) := of_decide_eq_true d79b
             have hx4 := bt_at a0 x3_1
             replace p4 := eq_true p4
             replace q4 := eq_true q4
             go_wp2
             go_roundg k1
             case measure => have := HK1.out; omega
             case rel => exact ⟨(wrap64 (x3_1 + 1)), d79c, H', ⟨by have := HK1.out; omega⟩, d79a⟩
           · rw [if_neg c14] at H
             have c14b0 : ((bt a0 x3_1) == 95) = false := beq_eq_false_iff_ne.mpr c14
             have c14b1 : ((bt a0 x3_1) != 95) = true := bne_iff_ne.mpr c14
             by_cases c15 : (bt a0 x3_1) ≥ 48
             · rw [if_pos c15] at H
               have c15b0 : decide (48 ≤ (bt a0 x3_1)) = true := decide_eq_true c15
               clear c15
               by_cases c16 : ((bt a0 x3_1) ≤ 57)
               · rw [if_pos c16] at H
                 have c16b0 : decide ((bt a0 x3_1) ≤ 57) = true := decide_eq_true c16
                 clear c16
                 have H' := Aside0.mk H
                 clear H
                 have p4 : 0 ≤ (x3_1 : Int) := of_decide_eq_true d79b
                 have q4 : x3_1 < (a0.size : Int) := of_decide_eq_true d79b
                 have hx4 := bt_at a0 x3_1
                 replace p4 := eq_true p4
                 replace q4 := eq_true q4
                 go_wp2
                 go_roundg k1
                 case measure => have := HK1.out; omega
                 case rel => exact ⟨(wrap64 (x3_1 + 1)), d79c, H', ⟨by have := HK1.out; omega⟩, d79a⟩
               · rw [if_neg c16] at H
                 have c16b0 : decide ((bt a0 x3_1) ≤ 57) = false := decide_eq_false c16
                 clear c16
                 obtain rfl := Option.some.inj H
                 have p4 : 0 ≤ (x3_1 : Int) := of_decide_eq_true d79b
                 have q4 : x3_1 < (a0.size : Int) := of_decide_eq_true d79b
                 have hx4 := bt_at a0 x3_1
                 replace p4 := eq_true p4
                 replace q4 := eq_true q4
                 go_wp2
                 go_ret
                 exact ⟨d79c, d79a⟩
             · rw [if_neg c15] at H
               have c15b0 : decide (48 ≤ (bt a0 x3_1)) = false := decide_eq_false c15
               clear c15
               obtain rfl := Option.some.inj H
               have p4 : 0 ≤ (x3_1 : Int) := of_decide_eq_true d79b
               have q4 : x3_1 < (a0.size : Int) := of_decide_eq_true d79b
               have hx4 := bt_at a0 x3_1
               replace p4 := eq_true p4
               replace q4 := eq_true q4
               go_wp2
               go_ret
               exact ⟨d79c, d79a⟩
   · rw [if_neg c2] at H
     have c2b0 : decide (x3_1 < (a0.size : Int)) = false := decide_eq_false c2
     clear c2
     replace H := bindS H; obtain ⟨t101, A17, H⟩ := H
     obtain rfl := Option.some.inj H
     go_wp2_with ((with_reducible refine gate_callee (f := 96) rfl ?_); refine goesL_ (some 46) rfl rfl Try.func96 (by kernel_rfl) rfl #[.int .i64 (a0.size : Int), .int .i64 1, .int .i64 40] rfl (by (try simp only [List.map_toArray, List.map_cons, List.map_nil]); first | done | rfl | (simp only [List.length_drop, List.length_take]; rfl)) ?_; (with_reducible refine (perigeeref8_within.calls (a0.size : Int) 1 40 t101 _ A17.out).mono ?_); rintro e w' ⟨rfl, ⟨nd, rfl⟩⟩; refine ⟨_, rfl, ?_⟩)
     go_ret
     exact ⟨d79c, d79a⟩
mutual
def perigeeref10_checkPass.j0 : Nat → Bool → ByteArray → Int → Int → List (S75) → Option (Int)
  | 0, _, _, _, _, _ => none
  | k + 1, x18, x102000, x102001, x102002, x102003 => if x18 = true then (some 1) else (if x102002 ≤ x102001 then (some 8) else (if (wrap64 (x102002 - x102001)) > 2000000 then (perigeeref10_checkPass.j1 k true x102000 x102001 x102002 x102003) else (perigeeref10_checkPass.j1 k (decide ((x102003.length : Int) > 50)) x102000 x102001 x102002 x102003)))
def perigeeref10_checkPass.j1 : Nat → Bool → ByteArray → Int → Int → List (S75) → Option (Int)
  | 0, _, _, _, _, _ => none
  | k + 1, x35, x102000, x102001, x102002, x102003 => if x35 = true then (some 2) else (perigeeref10_checkPass.l0 k 0 x102000 x102001 x102002 x102003)
def perigeeref10_checkPass.l0 : Nat → Int → ByteArray → Int → Int → List (S75) → Option (Int)
  | 0, _, _, _, _, _ => none
  | k + 1, x3, x102000, x102001, x102002, x102003 => if x3 < (x102003.length : Int) then (if 0 ≤ x3 then ((perigeeref10_within.f ((rd_T75 x102003 x3).f0) x102001 (wrap64 (x102002 - 1))).bind fun t107 => (if t107 = true then ((perigeeref10_within.f ((rd_T75 x102003 x3).f1) 0 100000).bind fun t108 => (perigeeref10_checkPass.j3 k x3 (!t108) x102000 x102001 x102002 x102003 ((rd_T75 x102003 x3).f0) ((rd_T75 x102003 x3).f1))) else (perigeeref10_checkPass.j3 k x3 true x102000 x102001 x102002 x102003 ((rd_T75 x102003 x3).f0) ((rd_T75 x102003 x3).f1)))) else (none)) else (some 0)
def perigeeref10_checkPass.j3 : Nat → Int → Bool → ByteArray → Int → Int → List (S75) → Int → Int → Option (Int)
  | 0, _, _, _, _, _, _, _, _ => none
  | k + 1, x3, x62, x102000, x102001, x102002, x102003, x107000, x107001 => if x62 = true then (some 1) else (if x3 > 0 then (if 0 ≤ (wrap64 (x3 - 1)) then (if (wrap64 (x3 - 1)) < (x102003.length : Int) then (if x107000 ≤ ((rd_T75 x102003 (wrap64 (x3 - 1))).f0) then (some 8) else (perigeeref10_checkPass.l0 k (wrap64 (x3 + 1)) x102000 x102001 x102002 x102003)) else (none)) else (none)) else (perigeeref10_checkPass.l0 k (wrap64 (x3 + 1)) x102000 x102001 x102002 x102003))
end
def perigeeref10_checkPass.f (k : Nat) (a0_0 : ByteArray) (a0_1 : Int) (a0_2 : Int) (l0_3 : List (S75)) : Option (Int) := (perigeeref8_IsName.f k a0_0).bind fun t102 => (if t102 = true then ((perigeeref10_moment.f a0_1).bind fun t103 => (if t103 = true then ((perigeeref10_moment.f a0_2).bind fun t104 => (perigeeref10_checkPass.j0 k (!t104) a0_0 a0_1 a0_2 l0_3)) else (perigeeref10_checkPass.j0 k true a0_0 a0_1 a0_2 l0_3))) else (some 5))
theorem d48a {p : Prop} (h : p := by repeat (first | (with_reducible first | exact HB.out | apply below_alloc | apply pw_below_drewN | apply below_drew1 | refine below_set ?_ GE101.out | refine below_set ?_ GE106.out) | exact HB.out)) : p := h
theorem d48b {p : Prop} (h : p := by repeat (first | (with_reducible first | exact HB.out | apply below_alloc | apply pw_below_drewN | apply below_drew1 | refine below_set ?_ GE101.out) | exact HB.out)) : p := h
theorem d48c {p : Prop} (h : p := by repeat (first | (with_reducible first | exact HB.out | apply below_alloc | apply pw_below_drewN | apply below_drew1) | exact HB.out)) : p := h
theorem d48d {p : Prop} (h : p := by (with_reducible repeat (first | refine blk_drewN ?_ _ | refine blk_drew ?_ | refine blk_alloc ?_ _)); exact BK101.out) : p := h
theorem d48e {p : Prop} (h : p := by first | rfl | (simp [errW_none, errW_some] <;> rfl) | (simp [*, errW_none, errW_some] <;> rfl)) : p := h
theorem d48f {p : Prop} (h : p := by first | (with_reducible assumption) | assumption) : p := h
theorem d48g {p : Prop} (h : p := by first | rfl | (simp; done) | (simp [*]; done)) : p := h
set_option maxHeartbeats 8000000 in
set_option maxRecDepth 100000 in
theorem perigeeref10_checkPass.calls (k : Nat) (a0_0 : ByteArray) (a0_1 : Int) (a0_2 : Int) (A0_3 : Option Addr) (c0_3 : Nat) (l0_3 : List (S75)) (r : Int) (w : World) (hr0_3 : Kd.C k75 w A0_3 l0_3.length l0_3) (hc0_3 : l0_3.length ≤ c0_3) (h : perigeeref10_checkPass.f k a0_0 a0_1 a0_2 l0_3 = some r) :
 Calls Try.prog 48 #[.agg #[.string a0_0, .int .i64 a0_1, .int .i64 a0_2, .slice A0_3 l0_3.length c0_3]] w fun e w' => e = .returned (.int .i64 r) ∧ Below w.heap.size w w' := by
 have hu33 := Try.underlying33
 have hu75 := Try.underlying75
 have HR0_3 := Aside0.mk hr0_3
 have HC0_3 := Aside0.mk hc0_3
 clear hr0_3 hc0_3
 have HB := Aside0.mk (Below.refl w.heap.size w)
 have H : ((perigeeref8_IsName.f k a0_0).bind fun t102 => (if t102 = true then ((perigeeref10_moment.f a0_1).bind fun t103 => (if t103 = true then ((perigeeref10_moment.f a0_2).bind fun t104 => (perigeeref10_checkPass.j0 k (!t104) a0_0 a0_1 a0_2 l0_3)) else (perigeeref10_checkPass.j0 k true a0_0 a0_1 a0_2 l0_3))) else (some 5))) = some r := h
 clear h
 replace H := bindS H; obtain ⟨t102, A2, H⟩ := H
 by_cases c3 : t102 = true
 · subst c3
   replace H := iteT H
   have HC4 := Aside0.mk H
   clear H
   go_enter Try.func48, Try.ntmps48
   go_upto_region 3 with (first | ((with_reducible refine gate_dst (N := 1) rfl ?_); (try (refine gate_guard (by rfl) ?_; dsimp only)); refine box_event ?hg (N := 1) ?hd (cs := #[.string a0_0, .int .i64 a0_1, .int .i64 a0_2, .slice A0_3 l0_3.length c0_3]) (t := 33) ?hr ?_; (case hd => rfl); (case hg => rfl); (case hr => first | (go_simp; done) | (go_simp; rfl)); intro gb101 hg w5 hbox hb; have n0_ := Aside0.mk (below_step d48c hb); have n1_ := Aside0.mk (hbox); have n2_ := Aside0.mk ((by rw [hg]; exact (below_size d48c) : w.heap.size ≤ gb101)); have n3_ := Aside0.mk ((by rw [hg]; exact (below_size d48c) : w.heap.size ≤ gb101)); clear HB; have HB := n0_; have BK101 := n1_; have GW101 := n2_; have GE101 := n3_; clear n0_ n1_ n2_ n3_; clear hb hbox hg; have hcz6_0 : w5.cell? ⟨gb101, 0, none⟩ = some (.string a0_0) := (blk_cell BK101.out 0).trans rfl; have hcz6_1 : w5.cell? ⟨gb101, 1, none⟩ = some (.int .i64 a0_1) := (blk_cell BK101.out 1).trans rfl; have hcz6_2 : w5.cell? ⟨gb101, 2, none⟩ = some (.int .i64 a0_2) := (blk_cell BK101.out 2).trans rfl; have hcz6_3 : w5.cell? ⟨gb101, 3, none⟩ = some (.slice A0_3 l0_3.length c0_3) := (blk_cell BK101.out 3).trans rfl; have hfz6_0 := blk_frozen BK101.out 0; have hfz6_1 := blk_frozen BK101.out 1; have hfz6_2 := blk_frozen BK101.out 2; have hfz6_3 := blk_frozen BK101.out 3) | (go_at_call 79; (with_reducible refine (perigeeref8_IsName.calls k a0_0 true _ A2.out).mono ?_); rintro e w' ⟨rfl, ⟨nd, rfl⟩⟩; (try first | exact ⟨rfl, _, World.drewN_drewN _ _ _⟩ | exact ⟨rfl, _, Eq.trans (World.drewN_drewN _ _ _) (congrArg (World.drewN _) (Nat.add_assoc _ _ _))⟩)))
   (try simp only [Act.put, List.setIfInBounds_toArray, List.set_cons_zero, List.set_cons_succ])
   go_cut [18] (fun v18 wc => ∃ (kq : Nat) (x18_3 : Bool), v18 = .bool x18_3 ∧ Aside0 (perigeeref10_checkPass.j0 kq x18_3 a0_0 a0_1 a0_2 l0_3 = some r) ∧ Aside0 (kq ≤ k) ∧ Aside0 (wc.heap[gb101]? = some (.cells #[.string a0_0, .int .i64 a0_1, .int .i64 a0_2, (.slice A0_3 l0_3.length c0_3)] 33 (0, 0))) ∧ Aside0 (Below w.heap.size w wc))
   case first =>
    have H := HC4.out
    clear HC4
    replace H := bindS H; obtain ⟨t103, A7, H⟩ := H
    by_cases c8 : t103 = true
    · subst c8
      replace H := iteT H
      replace H := bindS H; obtain ⟨t104, A9, H⟩ := H
      have H' := Aside0.mk H
      clear H
      obtain ⟨hcz10_0, hcz10_1, hcz10_2, hcz10_3⟩ := blkC4 BK101.out
      have hfz10_0 := blk_frozen BK101.out 0
      have hfz10_1 := blk_frozen BK101.out 1
      have hfz10_2 := blk_frozen BK101.out 2
      have hfz10_3 := blk_frozen BK101.out 3
      go_wp2_with (first | (go_at_call 43; (with_reducible refine (perigeeref10_moment.calls a0_1 true _ A7.out).mono ?_); rintro e w' ⟨rfl, ⟨nd, rfl⟩⟩; (try first | exact ⟨rfl, _, World.drewN_drewN _ _ _⟩ | exact ⟨rfl, _, Eq.trans (World.drewN_drewN _ _ _) (congrArg (World.drewN _) (Nat.add_assoc _ _ _))⟩)) | (go_at_call 43; (with_reducible refine (perigeeref10_moment.calls a0_2 t104 _ A9.out).mono ?_); rintro e w' ⟨rfl, ⟨nd, rfl⟩⟩; (try first | exact ⟨rfl, _, World.drewN_drewN _ _ _⟩ | exact ⟨rfl, _, Eq.trans (World.drewN_drewN _ _ _) (congrArg (World.drewN _) (Nat.add_assoc _ _ _))⟩)))
      go_meet
      case rel => exact ⟨_, (!t104), d48g, H', ⟨by first | omega | exact Nat.le_refl _⟩, ⟨d48d⟩, ⟨d48b⟩⟩
    · replace c8 := Bool.eq_false_iff.mpr c8
      subst c8
      replace H := iteF H
      have H' := Aside0.mk H
      clear H
      obtain ⟨hcz11_0, hcz11_1, hcz11_2, hcz11_3⟩ := blkC4 BK101.out
      have hfz11_0 := blk_frozen BK101.out 0
      have hfz11_1 := blk_frozen BK101.out 1
      have hfz11_2 := blk_frozen BK101.out 2
      have hfz11_3 := blk_frozen BK101.out 3
      go_wp2_with (go_at_call 43; (with_reducible refine (perigeeref10_moment.calls a0_1 false _ A7.out).mono ?_); rintro e w' ⟨rfl, ⟨nd, rfl⟩⟩; (try first | exact ⟨rfl, _, World.drewN_drewN _ _ _⟩ | exact ⟨rfl, _, Eq.trans (World.drewN_drewN _ _ _) (congrArg (World.drewN _) (Nat.add_assoc _ _ _))⟩))
      go_meet
      case rel => exact ⟨_, (true), d48g, H', ⟨by first | omega | exact Nat.le_refl _⟩, ⟨d48d⟩, ⟨d48b⟩⟩
   case rest =>
    clear HC4
    try clear hcz6_0
    try clear hcz6_1
    try clear hcz6_2
    try clear hcz6_3
    try clear hfz6_0
    try clear hfz6_1
    try clear hfz6_2
    try clear hfz6_3
    obtain ⟨kq, x18_3, rfl, HA, HJ3, BK101, HB⟩ := hcut
    cases kq with
    | zero => exact absurd HA.out (by simp [perigeeref10_checkPass.j0])
    | succ kj3 =>
     have H := HA.out
     clear HA
     simp only [perigeeref10_checkPass.j0] at H
     by_cases c12 : x18_3 = true
     · subst c12
       replace H := iteT H
       obtain rfl := Option.some.inj H
       go_wp2
       go_ret
       exact ⟨d48e, d48b⟩
     · replace c12 := Bool.eq_false_iff.mpr c12
       subst c12
       replace H := iteF H
       by_cases c13 : a0_2 ≤ a0_1
       · rw [if_pos c13] at H
         have c13b0 : decide (a0_2 ≤ a0_1) = true := decide_eq_true c13
         clear c13
         obtain rfl := Option.some.inj H
         obtain ⟨hcz14_0, hcz14_1, hcz14_2, hcz14_3⟩ := blkC4 BK101.out
         have hfz14_0 := blk_frozen BK101.out 0
         have hfz14_1 := blk_frozen BK101.out 1
         have hfz14_2 := blk_frozen BK101.out 2
         have hfz14_3 := blk_frozen BK101.out 3
         go_wp2
         go_ret
         exact ⟨d48e, d48b⟩
       · rw [if_neg c13] at H
         have c13b0 : decide (a0_2 ≤ a0_1) = false := decide_eq_false c13
         clear c13
         have HC15 := Aside0.mk H
         clear H
         obtain ⟨hcz16_0, hcz16_1, hcz16_2, hcz16_3⟩ := blkC4 BK101.out
         have hfz16_0 := blk_frozen BK101.out 0
         have hfz16_1 := blk_frozen BK101.out 1
         have hfz16_2 := blk_frozen BK101.out 2
         have hfz16_3 := blk_frozen BK101.out 3
         go_upto_region 7 with (fail)
         go_cut [35] (fun v35 wc => ∃ (kq : Nat) (x35_14 : Bool), v35 = .bool x35_14 ∧ Aside0 (perigeeref10_checkPass.j1 kq x35_14 a0_0 a0_1 a0_2 l0_3 = some r) ∧ Aside0 (kq ≤ kj3) ∧ Aside0 (wc.heap[gb101]? = some (.cells #[.string a0_0, .int .i64 a0_1, .int .i64 a0_2, (.slice A0_3 l0_3.length c0_3)] 33 (0, 0))) ∧ Aside0 (Below w.heap.size w wc))
         case first =>
          have H := HC15.out
          clear HC15
          by_cases c17 : (wrap64 (a0_2 - a0_1)) > 2000000
          · rw [if_pos c17] at H
            have c17b0 : decide (2000000 < (wrap64 (a0_2 - a0_1))) = true := decide_eq_true c17
            clear c17
            (first | rw [c17b0] | (simp only [i64_w, i32_w]; rw [c17b0]) | skip)
            have H' := Aside0.mk H
            clear H
            obtain ⟨hcz18_0, hcz18_1, hcz18_2, hcz18_3⟩ := blkC4 BK101.out
            have hfz18_0 := blk_frozen BK101.out 0
            have hfz18_1 := blk_frozen BK101.out 1
            have hfz18_2 := blk_frozen BK101.out 2
            have hfz18_3 := blk_frozen BK101.out 3
            go_wp2
            go_meet
            case rel => exact ⟨_, (true), d48g, H', ⟨by have := HJ3.out; first | omega | exact Nat.le_refl _⟩, ⟨d48d⟩, ⟨d48b⟩⟩
          · rw [if_neg c17] at H
            have c17b0 : decide (2000000 < (wrap64 (a0_2 - a0_1))) = false := decide_eq_false c17
            clear c17
            (first | rw [c17b0] | (simp only [i64_w, i32_w]; rw [c17b0]) | skip)
            have H' := Aside0.mk H
            clear H
            obtain ⟨hcz19_0, hcz19_1, hcz19_2, hcz19_3⟩ := blkC4 BK101.out
            have hfz19_0 := blk_frozen BK101.out 0
            have hfz19_1 := blk_frozen BK101.out 1
            have hfz19_2 := blk_frozen BK101.out 2
            have hfz19_3 := blk_frozen BK101.out 3
            go_wp2
            go_meet
            case rel => exact ⟨_, (decide ((l0_3.length : Int) > 50)), d48g, H', ⟨by have := HJ3.out; first | omega | exact Nat.le_refl _⟩, ⟨d48d⟩, ⟨d48b⟩⟩
         case rest =>
          clear HC15
          try clear c13b0
          try clear hcz16_0
          try clear hcz16_1
          try clear hcz16_2
          try clear hcz16_3
          try clear hfz16_0
          try clear hfz16_1
          try clear hfz16_2
          try clear hfz16_3
          obtain ⟨kq, x35_14, rfl, HA, HJ14, BK101, HB⟩ := hcut
          cases kq with
          | zero => exact absurd HA.out (by simp [perigeeref10_checkPass.j1])
          | succ kj14 =>
           have H := HA.out
           clear HA
           simp only [perigeeref10_checkPass.j1] at H
           by_cases c20 : x35_14 = true
           · subst c20
             replace H := iteT H
             obtain rfl := Option.some.inj H
             go_wp2
             go_ret
             exact ⟨d48e, d48b⟩
           · replace c20 := Bool.eq_false_iff.mpr c20
             subst c20
             replace H := iteF H
             have H' := Aside0.mk H
             clear H
             go_wp2
             go_loopg [3] kj14 (fun kq v3 w' => ∃ (x3_3 : Int), v3 = .int .i64 x3_3 ∧ Aside0 (perigeeref10_checkPass.l0 kq x3_3 a0_0 a0_1 a0_2 l0_3 = some r) ∧ Aside0 (kq ≤ kj14) ∧ Aside0 (w'.heap[gb101]? = some (.cells #[.string a0_0, .int .i64 a0_1, .int .i64 a0_2, (.slice A0_3 l0_3.length c0_3)] 33 (0, 0))) ∧ Aside0 (Below w.heap.size w w'))
             case atStart => exact ⟨(0), d48g, H', ⟨Nat.le_refl _⟩, ⟨d48d⟩, ⟨d48b⟩⟩
             case round =>
              clear H'
              obtain ⟨x3_3, rfl, HA, HK3, BK101, HB⟩ := hrel
              cases gk with
              | zero => exact absurd HA.out (by simp [perigeeref10_checkPass.l0])
              | succ k3 =>
               have H := HA.out
               clear HA
               simp only [perigeeref10_checkPass.l0] at H
               by_cases c21 : x3_3 < (l0_3.length : Int)
               · rw [if_pos c21] at H
                 have c21b0 : decide (x3_3 < (l0_3.length : Int)) = true := decide_eq_true c21
                 clear c21
                 replace H := guardT H; obtain ⟨c22, H⟩ := H
                 have c22b0 : decide (0 ≤ x3_3) = true := decide_eq_true c22
                 clear c22
                 have HC23 := Aside0.mk H
                 clear H
                 obtain ⟨hcz24_0, hcz24_1, hcz24_2, hcz24_3⟩ := blkC4 BK101.out
                 have hfz24_0 := blk_frozen BK101.out 0
                 have hfz24_1 := blk_frozen BK101.out 1
                 have hfz24_2 := blk_frozen BK101.out 2
                 have hfz24_3 := blk_frozen BK101.out 3
                 have p105 : 0 ≤ (x3_3 : Int) := of_decide_eq_true d48f
                 have q105 : x3_3 < (l0_3.length : Int) := of_decide_eq_true d48f
                 obtain ⟨ad105, e105, hx105_0, hx105_1⟩ := at_T75 HR0_3.out x3_3 p105 q105
                 cases e105
                 replace hx105_0 := cellB HB.out hx105_0
                 replace hx105_1 := cellB HB.out hx105_1
                 replace p105 := eq_true p105
                 replace q105 := eq_true q105
                 go_upto_region 13 with ((with_reducible refine gate_dst (N := 4) rfl ?_); (try (refine gate_guard (by rfl) ?_; dsimp only)); refine box_event ?hg (N := 4) ?hd (cs := #[.int .i64 0, .int .i64 0]) (t := 75) ?hr ?_; (case hd => rfl); (case hg => rfl); (case hr => first | (go_simp; done) | (go_simp; rfl)); intro gb106 hg w25 hbox hb; have n0_ := Aside0.mk (blk_below (g := gb101) (o := .cells #[.string a0_0, .int .i64 a0_1, .int .i64 a0_2, .slice (some ad105) l0_3.length c0_3] 33 (0, 0)) d48d hb); have n1_ := Aside0.mk (below_step d48b hb); have n2_ := Aside0.mk (hbox); have n3_ := Aside0.mk ((by rw [hg]; exact (below_size d48b) : w.heap.size ≤ gb106)); have n4_ := Aside0.mk ((by rw [hg]; exact (below_size d48b) : w.heap.size ≤ gb106)); have n5_ := Aside0.mk ((by rw [hg]; exact Nat.ne_of_lt (blk_lt (g := gb101) (o := .cells #[.string a0_0, .int .i64 a0_1, .int .i64 a0_2, .slice (some ad105) l0_3.length c0_3] 33 (0, 0)) d48d) : gb101 ≠ gb106)); have n6_ := Aside0.mk ((by rw [hg]; exact Nat.ne_of_gt (blk_lt (g := gb101) (o := .cells #[.string a0_0, .int .i64 a0_1, .int .i64 a0_2, .slice (some ad105) l0_3.length c0_3] 33 (0, 0)) d48d) : gb106 ≠ gb101)); clear BK101; clear HB; have BK101 := n0_; have HB := n1_; have BK106 := n2_; have GW106 := n3_; have GE106 := n4_; have NB101_106 := n5_; have NB106_101 := n6_; clear n0_ n1_ n2_ n3_ n4_ n5_ n6_; clear hb hbox hg; have hnb26 := NB106_101.out; have hnc26 := NB101_106.out; have hcz27_0 : w25.cell? ⟨gb106, 0, none⟩ = some (.int .i64 0) := (blk_cell BK106.out 0).trans rfl; have hcz27_1 : w25.cell? ⟨gb106, 1, none⟩ = some (.int .i64 0) := (blk_cell BK106.out 1).trans rfl; have hfz27_0 := blk_frozen BK106.out 0; have hfz27_1 := blk_frozen BK106.out 1)
                 (try simp only [Act.put, List.setIfInBounds_toArray, List.set_cons_zero, List.set_cons_succ])
                 go_cut [62] (fun v62 wc => ∃ (kq : Nat) (x62_22 : Bool), v62 = .bool x62_22 ∧ Aside0 (perigeeref10_checkPass.j3 kq x3_3 x62_22 a0_0 a0_1 a0_2 l0_3 ((rd_T75 l0_3 x3_3).f0) ((rd_T75 l0_3 x3_3).f1) = some r) ∧ Aside0 (kq ≤ k3) ∧ Aside0 (wc.heap[gb101]? = some (.cells #[.string a0_0, .int .i64 a0_1, .int .i64 a0_2, (.slice (some ad105) l0_3.length c0_3)] 33 (0, 0))) ∧ Aside0 (wc.heap[gb106]? = some (.cells #[.int .i64 ((rd_T75 l0_3 x3_3).f0), .int .i64 ((rd_T75 l0_3 x3_3).f1)] 75 (0, 0))) ∧ Aside0 (Below w.heap.size w wc))
                 case first =>
                  have H := HC23.out
                  clear HC23
                  replace H := bindS H; obtain ⟨t107, A28, H⟩ := H
                  by_cases c29 : t107 = true
                  · subst c29
                    replace H := iteT H
                    replace H := bindS H; obtain ⟨t108, A30, H⟩ := H
                    have H' := Aside0.mk H
                    clear H
                    have hnb31 := NB106_101.out
                    have hnc31 := NB101_106.out
                    obtain ⟨hcz32_0, hcz32_1⟩ := blkC2 BK106.out
                    have hfz32_0 := blk_frozen BK106.out 0
                    have hfz32_1 := blk_frozen BK106.out 1
                    obtain ⟨hcz33_0, hcz33_1, hcz33_2, hcz33_3⟩ := blkC4 BK101.out
                    have hfz33_0 := blk_frozen BK101.out 0
                    have hfz33_1 := blk_frozen BK101.out 1
                    have hfz33_2 := blk_frozen BK101.out 2
                    have hfz33_3 := blk_frozen BK101.out 3
                    go_wp2_with (first | (go_at_call 42; (with_reducible refine (perigeeref10_within.calls ((rd_T75 l0_3 x3_3).f0) a0_1 (wrap64 (a0_2 - 1)) true _ A28.out).mono ?_); rintro e w' ⟨rfl, ⟨nd, rfl⟩⟩; (try first | exact ⟨rfl, _, World.drewN_drewN _ _ _⟩ | exact ⟨rfl, _, Eq.trans (World.drewN_drewN _ _ _) (congrArg (World.drewN _) (Nat.add_assoc _ _ _))⟩)) | (go_at_call 42; (with_reducible refine (perigeeref10_within.calls ((rd_T75 l0_3 x3_3).f1) 0 100000 t108 _ A30.out).mono ?_); rintro e w' ⟨rfl, ⟨nd, rfl⟩⟩; (try first | exact ⟨rfl, _, World.drewN_drewN _ _ _⟩ | exact ⟨rfl, _, Eq.trans (World.drewN_drewN _ _ _) (congrArg (World.drewN _) (Nat.add_assoc _ _ _))⟩)))
                    go_meet
                    case rel => exact ⟨_, (!t108), d48g, H', ⟨by have := HJ3.out; have := HJ14.out; have := HK3.out; first | omega | exact Nat.le_refl _⟩, ⟨by (with_reducible repeat (first | refine blk_drewN ?_ _ | refine blk_drew ?_ | refine blk_alloc ?_ _)); refine blk_far ?_ NB101_106.out _; (with_reducible repeat (first | refine blk_drewN ?_ _ | refine blk_drew ?_ | refine blk_alloc ?_ _)); refine blk_far ?_ NB101_106.out _; (with_reducible repeat (first | refine blk_drewN ?_ _ | refine blk_drew ?_ | refine blk_alloc ?_ _)); exact BK101.out⟩, ⟨by (with_reducible repeat (first | refine blk_drewN ?_ _ | refine blk_drew ?_ | refine blk_alloc ?_ _)); refine blk_put (cs := #[.int .i64 ((rd_T75 l0_3 x3_3).f0), .int .i64 0]) ?_ 1 _ rfl; (with_reducible repeat (first | refine blk_drewN ?_ _ | refine blk_drew ?_ | refine blk_alloc ?_ _)); refine blk_put (cs := #[.int .i64 0, .int .i64 0]) ?_ 0 _ rfl; (with_reducible repeat (first | refine blk_drewN ?_ _ | refine blk_drew ?_ | refine blk_alloc ?_ _)); exact BK106.out⟩, ⟨d48a⟩⟩
                  · replace c29 := Bool.eq_false_iff.mpr c29
                    subst c29
                    replace H := iteF H
                    have H' := Aside0.mk H
                    clear H
                    have hnb34 := NB106_101.out
                    have hnc34 := NB101_106.out
                    obtain ⟨hcz35_0, hcz35_1⟩ := blkC2 BK106.out
                    have hfz35_0 := blk_frozen BK106.out 0
                    have hfz35_1 := blk_frozen BK106.out 1
                    obtain ⟨hcz36_0, hcz36_1, hcz36_2, hcz36_3⟩ := blkC4 BK101.out
                    have hfz36_0 := blk_frozen BK101.out 0
                    have hfz36_1 := blk_frozen BK101.out 1
                    have hfz36_2 := blk_frozen BK101.out 2
                    have hfz36_3 := blk_frozen BK101.out 3
                    go_wp2_with (go_at_call 42; (with_reducible refine (perigeeref10_within.calls ((rd_T75 l0_3 x3_3).f0) a0_1 (wrap64 (a0_2 - 1)) false _ A28.out).mono ?_); rintro e w' ⟨rfl, ⟨nd, rfl⟩⟩; (try first | exact ⟨rfl, _, World.drewN_drewN _ _ _⟩ | exact ⟨rfl, _, Eq.trans (World.drewN_drewN _ _ _) (congrArg (World.drewN _) (Nat.add_assoc _ _ _))⟩))
                    go_meet
                    case rel => exact ⟨_, (true), d48g, H', ⟨by have := HJ3.out; have := HJ14.out; have := HK3.out; first | omega | exact Nat.le_refl _⟩, ⟨by (with_reducible repeat (first | refine blk_drewN ?_ _ | refine blk_drew ?_ | refine blk_alloc ?_ _)); refine blk_far ?_ NB101_106.out _; (with_reducible repeat (first | refine blk_drewN ?_ _ | refine blk_drew ?_ | refine blk_alloc ?_ _)); refine blk_far ?_ NB101_106.out _; (with_reducible repeat (first | refine blk_drewN ?_ _ | refine blk_drew ?_ | refine blk_alloc ?_ _)); exact BK101.out⟩, ⟨by (with_reducible repeat (first | refine blk_drewN ?_ _ | refine blk_drew ?_ | refine blk_alloc ?_ _)); refine blk_put (cs := #[.int .i64 ((rd_T75 l0_3 x3_3).f0), .int .i64 0]) ?_ 1 _ rfl; (with_reducible repeat (first | refine blk_drewN ?_ _ | refine blk_drew ?_ | refine blk_alloc ?_ _)); refine blk_put (cs := #[.int .i64 0, .int .i64 0]) ?_ 0 _ rfl; (with_reducible repeat (first | refine blk_drewN ?_ _ | refine blk_drew ?_ | refine blk_alloc ?_ _)); exact BK106.out⟩, ⟨d48a⟩⟩
                 case rest =>
                  clear HC23
                  try clear c21b0
                  try clear c22b0
                  try clear hcz24_0
                  try clear hcz24_1
                  try clear hcz24_2
                  try clear hcz24_3
                  try clear hcz27_0
                  try clear hcz27_1
                  try clear hfz24_0
                  try clear hfz24_1
                  try clear hfz24_2
                  try clear hfz24_3
                  try clear hfz27_0
                  try clear hfz27_1
                  try clear hx105_0
                  try clear hx105_1
                  try clear p105
                  try clear q105
                  obtain ⟨kq, x62_22, rfl, HA, HJ22, BK101, BK106, HB⟩ := hcut
                  cases kq with
                  | zero => exact absurd HA.out (by simp [perigeeref10_checkPass.j3])
                  | succ kj22 =>
                   have H := HA.out
                   clear HA
                   simp only [perigeeref10_checkPass.j3] at H
                   by_cases c37 : x62_22 = true
                   · subst c37
                     replace H := iteT H
                     obtain rfl := Option.some.inj H
                     go_wp2
                     go_ret
                     exact ⟨d48e, d48a⟩
                   · replace c37 := Bool.eq_false_iff.mpr c37
                     subst c37
                     replace H := iteF H
                     by_cases c38 : x3_3 > 0
                     · rw [if_pos c38] at H
                       have c38b0 : decide (0 < x3_3) = true := decide_eq_true c38
                       clear c38
                       obtain ⟨ji39, hji39⟩ : ∃ j_ : Int, (wrap64 (x3_3 - 1)) = j_ := ⟨_, rfl⟩
                       replace H : (if 0 ≤ (ji39) then (if (ji39) < (l0_3.length : Int) then (if ((rd_T75 l0_3 x3_3).f0) ≤ ((rd_T75 l0_3 (ji39)).f0) then (some 8) else (perigeeref10_checkPass.l0 kj22 (wrap64 (x3_3 + 1)) a0_0 a0_1 a0_2 l0_3)) else (none)) else (none)) = some r := by first | (rw [hji39] at H; exact H) | (simp only [hji39] at H ⊢; exact H)
                       have hji39w : (IntKind.i64.wrap (x3_3 - 1)) = ji39 := (i64_w _).trans hji39
                       replace H := guardT H; obtain ⟨c40, H⟩ := H
                       have c40b0 : decide (0 ≤ (ji39)) = true := decide_eq_true c40
                       clear c40
                       replace H := guardT H; obtain ⟨c41, H⟩ := H
                       have c41b0 : decide ((ji39) < (l0_3.length : Int)) = true := decide_eq_true c41
                       clear c41
                       by_cases c42 : ((rd_T75 l0_3 x3_3).f0) ≤ ((rd_T75 l0_3 (ji39)).f0)
                       · rw [if_pos c42] at H
                         have c42b0 : decide (((rd_T75 l0_3 x3_3).f0) ≤ ((rd_T75 l0_3 (ji39)).f0)) = true := decide_eq_true c42
                         clear c42
                         obtain rfl := Option.some.inj H
                         have hnb43 := NB106_101.out
                         have hnc43 := NB101_106.out
                         obtain ⟨hcz44_0, hcz44_1⟩ := blkC2 BK106.out
                         have hfz44_0 := blk_frozen BK106.out 0
                         have hfz44_1 := blk_frozen BK106.out 1
                         obtain ⟨hcz45_0, hcz45_1, hcz45_2, hcz45_3⟩ := blkC4 BK101.out
                         have hfz45_0 := blk_frozen BK101.out 0
                         have hfz45_1 := blk_frozen BK101.out 1
                         have hfz45_2 := blk_frozen BK101.out 2
                         have hfz45_3 := blk_frozen BK101.out 3
                         have p109 : 0 ≤ ((ji39) : Int) := of_decide_eq_true d48f
                         have q109 : (ji39) < (l0_3.length : Int) := of_decide_eq_true d48f
                         obtain ⟨ad109, e109, hx109_0, hx109_1⟩ := at_T75 HR0_3.out (ji39) p109 q109
                         obtain rfl : ad105 = ad109 := (by injection e109)
                         replace hx109_0 := cellB HB.out hx109_0
                         replace hx109_1 := cellB HB.out hx109_1
                         replace p109 := eq_true p109
                         replace q109 := eq_true q109
                         go_wp2
                         repeat (go_quiet (fail); try go_wp2)
                         go_ret
                         exact ⟨by first | rfl | (simp [errW_none, errW_some] <;> rfl) | (simp only [← hji39]; first | rfl | (simp [errW_none, errW_some] <;> rfl)) | (simp [*, errW_none, errW_some] <;> rfl), d48a⟩
                       · rw [if_neg c42] at H
                         have c42b0 : decide (((rd_T75 l0_3 x3_3).f0) ≤ ((rd_T75 l0_3 (ji39)).f0)) = false := decide_eq_false c42
                         clear c42
                         have H' := Aside0.mk H
                         clear H
                         have hnb46 := NB106_101.out
                         have hnc46 := NB101_106.out
                         obtain ⟨hcz47_0, hcz47_1⟩ := blkC2 BK106.out
                         have hfz47_0 := blk_frozen BK106.out 0
                         have hfz47_1 := blk_frozen BK106.out 1
                         obtain ⟨hcz48_0, hcz48_1, hcz48_2, hcz48_3⟩ := blkC4 BK101.out
                         have hfz48_0 := blk_frozen BK101.out 0
                         have hfz48_1 := blk_frozen BK101.out 1
                         have hfz48_2 := blk_frozen BK101.out 2
                         have hfz48_3 := blk_frozen BK101.out 3
                         have p109 : 0 ≤ ((ji39) : Int) := of_decide_eq_true d48f
                         have q109 : (ji39) < (l0_3.length : Int) := of_decide_eq_true d48f
                         obtain ⟨ad109, e109, hx109_0, hx109_1⟩ := at_T75 HR0_3.out (ji39) p109 q109
                         obtain rfl : ad105 = ad109 := (by injection e109)
                         replace hx109_0 := cellB HB.out hx109_0
                         replace hx109_1 := cellB HB.out hx109_1
                         replace p109 := eq_true p109
                         replace q109 := eq_true q109
                         go_wp2
                         repeat (go_quiet (fail); try go_wp2)
                         go_roundg kj22
                         case measure => have := HJ3.out; have := HJ14.out; have := HK3.out; have := HJ22.out; omega
                         case rel => exact ⟨(wrap64 (x3_3 + 1)), d48g, H', ⟨by have := HJ3.out; have := HJ14.out; have := HK3.out; have := HJ22.out; omega⟩, ⟨d48d⟩, ⟨d48a⟩⟩
                     · rw [if_neg c38] at H
                       have c38b0 : decide (0 < x3_3) = false := decide_eq_false c38
                       clear c38
                       have H' := Aside0.mk H
                       clear H
                       go_wp2
                       repeat (go_quiet (fail); try go_wp2)
                       go_roundg kj22
                       case measure => have := HJ3.out; have := HJ14.out; have := HK3.out; have := HJ22.out; omega
                       case rel => exact ⟨(wrap64 (x3_3 + 1)), d48g, H', ⟨by have := HJ3.out; have := HJ14.out; have := HK3.out; have := HJ22.out; omega⟩, ⟨d48d⟩, ⟨d48a⟩⟩
               · rw [if_neg c21] at H
                 have c21b0 : decide (x3_3 < (l0_3.length : Int)) = false := decide_eq_false c21
                 clear c21
                 obtain rfl := Option.some.inj H
                 obtain ⟨hcz49_0, hcz49_1, hcz49_2, hcz49_3⟩ := blkC4 BK101.out
                 have hfz49_0 := blk_frozen BK101.out 0
                 have hfz49_1 := blk_frozen BK101.out 1
                 have hfz49_2 := blk_frozen BK101.out 2
                 have hfz49_3 := blk_frozen BK101.out 3
                 go_wp2
                 go_ret
                 exact ⟨d48e, d48b⟩
 · replace c3 := Bool.eq_false_iff.mpr c3
   subst c3
   replace H := iteF H
   obtain rfl := Option.some.inj H
   go_enter Try.func48, Try.ntmps48
   go_wp2_with (first | ((with_reducible refine gate_dst (N := 1) rfl ?_); (try (refine gate_guard (by rfl) ?_; dsimp only)); refine box_event ?hg (N := 1) ?hd (cs := #[.string a0_0, .int .i64 a0_1, .int .i64 a0_2, .slice A0_3 l0_3.length c0_3]) (t := 33) ?hr ?_; (case hd => rfl); (case hg => rfl); (case hr => first | (go_simp; done) | (go_simp; rfl)); intro gb101 hg w50 hbox hb; have n0_ := Aside0.mk (below_step d48c hb); have n1_ := Aside0.mk (hbox); have n2_ := Aside0.mk ((by rw [hg]; exact (below_size d48c) : w.heap.size ≤ gb101)); have n3_ := Aside0.mk ((by rw [hg]; exact (below_size d48c) : w.heap.size ≤ gb101)); clear HB; have HB := n0_; have BK101 := n1_; have GW101 := n2_; have GE101 := n3_; clear n0_ n1_ n2_ n3_; clear hb hbox hg; have hcz51_0 : w50.cell? ⟨gb101, 0, none⟩ = some (.string a0_0) := (blk_cell BK101.out 0).trans rfl; have hcz51_1 : w50.cell? ⟨gb101, 1, none⟩ = some (.int .i64 a0_1) := (blk_cell BK101.out 1).trans rfl; have hcz51_2 : w50.cell? ⟨gb101, 2, none⟩ = some (.int .i64 a0_2) := (blk_cell BK101.out 2).trans rfl; have hcz51_3 : w50.cell? ⟨gb101, 3, none⟩ = some (.slice A0_3 l0_3.length c0_3) := (blk_cell BK101.out 3).trans rfl; have hfz51_0 := blk_frozen BK101.out 0; have hfz51_1 := blk_frozen BK101.out 1; have hfz51_2 := blk_frozen BK101.out 2; have hfz51_3 := blk_frozen BK101.out 3) | (go_at_call 79; (with_reducible refine (perigeeref8_IsName.calls k a0_0 false _ A2.out).mono ?_); rintro e w' ⟨rfl, ⟨nd, rfl⟩⟩; (try first | exact ⟨rfl, _, World.drewN_drewN _ _ _⟩ | exact ⟨rfl, _, Eq.trans (World.drewN_drewN _ _ _) (congrArg (World.drewN _) (Nat.add_assoc _ _ _))⟩)))
   go_ret
   exact ⟨d48e, d48b⟩
mutual
def contact_checkBooked.l0 : Nat → List (S33) → List Int → List Int → Int → Int → Option (Int)
  | 0, _, _, _, _, _ => none
  | k + 1, x0, x1, x7, x8, x9 => if x9 < x8 then (if 0 ≤ x9 then (if x9 < (x7.length : Int) then (if (rd x7 x9) < 0 then (contact_checkBooked.j1 k x0 x1 x9 (rd x7 x9) x7 x8 x9 true) else (contact_checkBooked.j1 k x0 x1 x9 (rd x7 x9) x7 x8 x9 (decide ((rd x7 x9) ≥ (x0.length : Int))))) else (none)) else (none)) else (some 0)
def contact_checkBooked.j1 : Nat → List (S33) → List Int → Int → Int → List Int → Int → Int → Bool → Option (Int)
  | 0, _, _, _, _, _, _, _, _ => none
  | k + 1, x0, x1, x5, x6, x7, x8, x9, x21 => if x21 = true then (some 9) else (if x5 > 0 then (if 0 ≤ (wrap64 (x5 - 1)) then (if (wrap64 (x5 - 1)) < (x1.length : Int) then (if x6 ≤ (rd x1 (wrap64 (x5 - 1))) then (some 8) else (contact_checkBooked.l0 k x0 x1 x7 x8 (wrap64 (x9 + 1)))) else (none)) else (none)) else (contact_checkBooked.l0 k x0 x1 x7 x8 (wrap64 (x9 + 1))))
end
def contact_checkBooked.f (k : Nat) (l0 : List (S33)) (l1 : List Int) : Option (Int) := contact_checkBooked.l0 k l0 l1 l1 (l1.length : Int) 0
theorem d52a {p : Prop} (h : p := by repeat (first | exact Drawn0.refl _ | apply Drawn0.step)) : p := h
theorem d52b {p : Prop} (h : p := by first | (with_reducible assumption) | assumption) : p := h
theorem d52c {p : Prop} (h : p := by first | rfl | (simp; done) | (simp [*]; done)) : p := h
set_option maxHeartbeats 8000000 in
set_option maxRecDepth 100000 in
theorem contact_checkBooked.calls (k : Nat) (A0 : Option Addr) (c0 : Nat) (l0 : List (S33)) (A1 : Option Addr) (c1 : Nat) (l1 : List Int) (r : Int) (w : World) (hr0 : Kd.C k33 w A0 l0.length l0) (hc0 : l0.length ≤ c0) (hr1 : Kd.C (Kd.int .i64) w A1 l1.length l1) (hc1 : l1.length ≤ c1) (h : contact_checkBooked.f k l0 l1 = some r) :
 Calls Try.prog 52 #[.slice A0 l0.length c0, .slice A1 l1.length c1] w fun e w' => e = .returned (.int .i64 r) ∧ Drawn0 w w' := by
 have HR0 := Aside0.mk hr0
 have HC0 := Aside0.mk hc0
 clear hr0 hc0
 have HR1 := Aside0.mk hr1
 have HC1 := Aside0.mk hc1
 clear hr1 hc1
 have H : (contact_checkBooked.l0 k l0 l1 l1 (l1.length : Int) 0) = some r := h
 clear h
 have H' := Aside0.mk H
 clear H
 go_enter Try.func52, Try.ntmps52
 go_wp2
 go_loopg [9] k (fun kq v9 w' => ∃ (x9_1 : Int), v9 = .int .i64 x9_1 ∧ Aside0 (contact_checkBooked.l0 kq l0 l1 l1 (l1.length : Int) x9_1 = some r) ∧ Aside0 (kq ≤ k) ∧ Drawn0 w w')
 case atStart => exact ⟨(0), d52c, H', ⟨Nat.le_refl _⟩, d52a⟩
 case round =>
  clear H'
  obtain ⟨x9_1, rfl, HA, HK1, ⟨m1, rfl⟩⟩ := hrel
  cases gk with
  | zero => exact absurd HA.out (by simp [contact_checkBooked.l0])
  | succ k1 =>
   have H := HA.out
   clear HA
   simp only [contact_checkBooked.l0] at H
   by_cases c3 : x9_1 < (l1.length : Int)
   · rw [if_pos c3] at H
     have c3b0 : decide (x9_1 < (l1.length : Int)) = true := decide_eq_true c3
     clear c3
     replace H := guardT H; obtain ⟨c4, H⟩ := H
     have c4b0 : decide (0 ≤ x9_1) = true := decide_eq_true c4
     clear c4
     replace H := guardT H; obtain ⟨c5, H⟩ := H
     have c5b0 : decide (x9_1 < (l1.length : Int)) = true := decide_eq_true c5
     clear c5
     have HC6 := Aside0.mk H
     clear H
     have p101 : 0 ≤ (x9_1 : Int) := of_decide_eq_true d52b
     have q101 : x9_1 < (l1.length : Int) := of_decide_eq_true d52b
     obtain ⟨ad101, e101, hx101_0⟩ := Kd.at_int HR1.out x9_1 p101 q101
     cases e101
     replace p101 := eq_true p101
     replace q101 := eq_true q101
     go_upto_region 4 with (fail)
     go_cut [21] (fun v21 wc => ∃ (kq : Nat) (x21_5 : Bool), v21 = .bool x21_5 ∧ Aside0 (contact_checkBooked.j1 kq l0 l1 x9_1 (rd l1 x9_1) l1 (l1.length : Int) x9_1 x21_5 = some r) ∧ Aside0 (kq ≤ k1) ∧ Drawn0 w wc)
     case first =>
      have H := HC6.out
      clear HC6
      by_cases c7 : (rd l1 x9_1) < 0
      · rw [if_pos c7] at H
        have c7b0 : decide ((rd l1 x9_1) < 0) = true := decide_eq_true c7
        clear c7
        (first | rw [c7b0] | (simp only [i64_w, i32_w]; rw [c7b0]) | skip)
        have H' := Aside0.mk H
        clear H
        go_wp2
        go_meet
        case rel => exact ⟨_, (true), d52c, H', ⟨by have := HK1.out; first | omega | exact Nat.le_refl _⟩, d52a⟩
      · rw [if_neg c7] at H
        have c7b0 : decide ((rd l1 x9_1) < 0) = false := decide_eq_false c7
        clear c7
        (first | rw [c7b0] | (simp only [i64_w, i32_w]; rw [c7b0]) | skip)
        have H' := Aside0.mk H
        clear H
        go_wp2
        go_meet
        case rel => exact ⟨_, (decide ((rd l1 x9_1) ≥ (l0.length : Int))), d52c, H', ⟨by have := HK1.out; first | omega | exact Nat.le_refl _⟩, d52a⟩
     case rest =>
      clear HC6
      try clear c3b0
      try clear c4b0
      try clear c5b0
      try clear hx101_0
      try clear p101
      try clear q101
      obtain ⟨kq, x21_5, rfl, HA, HJ5, ⟨mc5, rfl⟩⟩ := hcut
      cases kq with
      | zero => exact absurd HA.out (by simp [contact_checkBooked.j1])
      | succ kj5 =>
       have H := HA.out
       clear HA
       simp only [contact_checkBooked.j1] at H
       by_cases c8 : x21_5 = true
       · subst c8
         replace H := iteT H
         obtain rfl := Option.some.inj H
         go_wp2
         go_ret
         exact ⟨d52c, d52a⟩
       · replace c8 := Bool.eq_false_iff.mpr c8
         subst c8
         replace H := iteF H
         by_cases c9 : x9_1 > 0
         · rw [if_pos c9] at H
           have c9b0 : decide (0 < x9_1) = true := decide_eq_true c9
           clear c9
           obtain ⟨ji10, hji10⟩ : ∃ j_ : Int, (wrap64 (x9_1 - 1)) = j_ := ⟨_, rfl⟩
           replace H : (if 0 ≤ (ji10) then (if (ji10) < (l1.length : Int) then (if (rd l1 x9_1) ≤ (rd l1 (ji10)) then (some 8) else (contact_checkBooked.l0 kj5 l0 l1 l1 (l1.length : Int) (wrap64 (x9_1 + 1)))) else (none)) else (none)) = some r := by first | (rw [hji10] at H; exact H) | (simp only [hji10] at H ⊢; exact H)
           have hji10w : (IntKind.i64.wrap (x9_1 - 1)) = ji10 := (i64_w _).trans hji10
           replace H := guardT H; obtain ⟨c11, H⟩ := H
           have c11b0 : decide (0 ≤ (ji10)) = true := decide_eq_true c11
           clear c11
           replace H := guardT H; obtain ⟨c12, H⟩ := H
           have c12b0 : decide ((ji10) < (l1.length : Int)) = true := decide_eq_true c12
           clear c12
           by_cases c13 : (rd l1 x9_1) ≤ (rd l1 (ji10))
           · rw [if_pos c13] at H
             have c13b0 : decide ((rd l1 x9_1) ≤ (rd l1 (ji10))) = true := decide_eq_true c13
             clear c13
             obtain rfl := Option.some.inj H
             have p102 : 0 ≤ ((ji10) : Int) := of_decide_eq_true d52b
             have q102 : (ji10) < (l1.length : Int) := of_decide_eq_true d52b
             obtain ⟨ad102, e102, hx102_0⟩ := Kd.at_int HR1.out (ji10) p102 q102
             obtain rfl : ad101 = ad102 := (by injection e102)
             replace p102 := eq_true p102
             replace q102 := eq_true q102
             go_wp2
             go_ret
             exact ⟨by first | rfl | (simp; done) | (simp only [← hji10] <;> (first | rfl | simp)) | (simp [*]; done), d52a⟩
           · rw [if_neg c13] at H
             have c13b0 : decide ((rd l1 x9_1) ≤ (rd l1 (ji10))) = false := decide_eq_false c13
             clear c13
             have H' := Aside0.mk H
             clear H
             have p102 : 0 ≤ ((ji10) : Int) := of_decide_eq_true d52b
             have q102 : (ji10) < (l1.length : Int) := of_decide_eq_true d52b
             obtain ⟨ad102, e102, hx102_0⟩ := Kd.at_int HR1.out (ji10) p102 q102
             obtain rfl : ad101 = ad102 := (by injection e102)
             replace p102 := eq_true p102
             replace q102 := eq_true q102
             go_wp2
             go_roundg kj5
             case measure => have := HK1.out; have := HJ5.out; omega
             case rel => exact ⟨(wrap64 (x9_1 + 1)), d52c, H', ⟨by have := HK1.out; have := HJ5.out; omega⟩, d52a⟩
         · rw [if_neg c9] at H
           have c9b0 : decide (0 < x9_1) = false := decide_eq_false c9
           clear c9
           have H' := Aside0.mk H
           clear H
           go_wp2
           go_roundg kj5
           case measure => have := HK1.out; have := HJ5.out; omega
           case rel => exact ⟨(wrap64 (x9_1 + 1)), d52c, H', ⟨by have := HK1.out; have := HJ5.out; omega⟩, d52a⟩
   · rw [if_neg c3] at H
     have c3b0 : decide (x9_1 < (l1.length : Int)) = false := decide_eq_false c3
     clear c3
     obtain rfl := Option.some.inj H
     go_wp2
     go_ret
     exact ⟨d52c, d52a⟩
def contact_check.f (k : Nat) (l0 : List (S33)) (l1 : List Int) : Option (Int) := (contact_CheckPasses.f k l0).bind fun t101 => (if t101 = 0 then ((contact_checkBooked.f k l0 l1).bind fun t102 => (some t102)) else (some t101))
theorem d56a {p : Prop} (h : p := by (try simp only [List.map_toArray, List.map_cons, List.map_nil]); first | done | rfl | (simp only [List.length_drop, List.length_take]; rfl)) : p := h
theorem d56b {p : Prop} (h : p := by repeat (first | (with_reducible first | exact HB.out | apply below_alloc | apply pw_below_drewN | apply below_drew1) | exact HB.out)) : p := h
set_option maxHeartbeats 8000000 in
set_option maxRecDepth 100000 in
theorem contact_check.calls (k : Nat) (A0 : Option Addr) (c0 : Nat) (l0 : List (S33)) (A1 : Option Addr) (c1 : Nat) (l1 : List Int) (r : Int) (w : World) (hr0 : Kd.C k33 w A0 l0.length l0) (hc0 : l0.length ≤ c0) (hr1 : Kd.C (Kd.int .i64) w A1 l1.length l1) (hc1 : l1.length ≤ c1) (h : contact_check.f k l0 l1 = some r) :
 Calls Try.prog 56 #[.slice A0 l0.length c0, .slice A1 l1.length c1] w fun e w' => e = .returned (.int .i64 r) ∧ Below w.heap.size w w' := by
 have HR0 := Aside0.mk hr0
 have HC0 := Aside0.mk hc0
 clear hr0 hc0
 have HR1 := Aside0.mk hr1
 have HC1 := Aside0.mk hc1
 clear hr1 hc1
 have HB := Aside0.mk (Below.refl w.heap.size w)
 have H : ((contact_CheckPasses.f k l0).bind fun t101 => (if t101 = 0 then ((contact_checkBooked.f k l0 l1).bind fun t102 => (some t102)) else (some t101))) = some r := h
 clear h
 replace H := bindS H; obtain ⟨t101, A3, H⟩ := H
 by_cases c4 : t101 = 0
 · rw [if_pos c4] at H
   have c4b0 : (t101 == 0) = true := beq_iff_eq.mpr c4
   have c4b1 : (t101 != 0) = false := bne_eq_false_iff_eq.mpr c4
   clear c4
   replace H := bindS H; obtain ⟨t102, A5, H⟩ := H
   obtain rfl := Option.some.inj H
   go_enter Try.func56, Try.ntmps56
   go_wp2_with (first | ((with_reducible refine gate_callee (f := 18) rfl ?_); refine goesL_ (some 7) rfl rfl Try.func18 (by kernel_rfl) rfl #[.slice A0 l0.length c0] rfl d56a ?_; (with_reducible refine (contact_CheckPasses.calls k _ _ l0 t101 _ ?side1 ?side2 A3.out).mono ?_); (case side1 => exact C_go HR0.out); (case side2 => exact HC0.out); rintro e w6 ⟨rfl, hb⟩; refine ⟨_, rfl, ?_⟩; replace HB := Aside0.mk (below_step d56b hb); (try clear hb)) | ((with_reducible refine gate_callee (f := 52) rfl ?_); refine goesL_ (some 13) rfl rfl Try.func52 (by kernel_rfl) rfl #[.slice A0 l0.length c0, .slice A1 l1.length c1] rfl d56a ?_; (with_reducible refine (contact_checkBooked.calls k _ _ l0 _ _ l1 t102 _ ?side1 ?side2 ?side3 ?side4 A5.out).mono ?_); (case side1 => exact C_go (Kd.C_below HR0.out HB.out)); (case side2 => exact HC0.out); (case side3 => exact C_go (Kd.C_below HR1.out HB.out)); (case side4 => exact HC1.out); rintro e w' ⟨rfl, ⟨nd, rfl⟩⟩; refine ⟨_, rfl, ?_⟩))
   go_ret
   exact ⟨by first | rfl | (simp [errW_none, errW_some] <;> rfl) | (simp [*, errW_none, errW_some] <;> rfl), d56b⟩
 · rw [if_neg c4] at H
   have c4b0 : (t101 == 0) = false := beq_eq_false_iff_ne.mpr c4
   have c4b1 : (t101 != 0) = true := bne_iff_ne.mpr c4
   obtain rfl := Option.some.inj H
   go_enter Try.func56, Try.ntmps56
   go_wp2_with ((with_reducible refine gate_callee (f := 18) rfl ?_); refine goesL_ (some 7) rfl rfl Try.func18 (by kernel_rfl) rfl #[.slice A0 l0.length c0] rfl d56a ?_; (with_reducible refine (contact_CheckPasses.calls k _ _ l0 t101 _ ?side1 ?side2 A3.out).mono ?_); (case side1 => exact C_go HR0.out); (case side2 => exact HC0.out); rintro e w7 ⟨rfl, hb⟩; refine ⟨_, rfl, ?_⟩; replace HB := Aside0.mk (below_step d56b hb); (try clear hb))
   go_ret
   exact ⟨by first | rfl | (simp [errW_none, errW_some] <;> rfl) | (simp [*, errW_none, errW_some] <;> rfl), d56b⟩
end Go.Proofs.Ytbngmblgkkdhpaa.Q
