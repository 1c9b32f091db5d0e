-- Made by wip/tools/claimp.py of this session's texts; Lean checks it.
import Derived.Test.YtbngmblgkkdhpaaC10Q0
namespace Go.Proofs.Ytbngmblgkkdhpaa.Q
open Go.RowKit Go.Proofs.YtbngmblgkkdhpaaW.PrintWords Go.Proofs.YtbngmblgkkdhpaaW.PrintLast Go.Proofs.YtbngmblgkkdhpaaW.PrintMore
attribute [local go_sem] max2_int min2_int max_two min_two max_three min_three max_four min_four
open Go.Proofs.Ytbngmblgkkdhpaa.Base
attribute [local go_sem high] str_leq str_gtr str_geq
set_option linter.unusedVariables false
set_option linter.unusedSimpArgs false
def kit_In.f (a0 : Int) (a1 : Int) (a2 : Int) : Option (Bool) := if a1 ≤ a0 then (some (decide (a0 ≤ a2))) else (some false)
set_option maxHeartbeats 8000000 in
set_option maxRecDepth 100000 in
theorem kit_In.calls (a0 : Int) (a1 : Int) (a2 : Int) (r : Bool) (w : World) (h : kit_In.f a0 a1 a2 = some r) :
 Calls Try.prog 76 #[.int .i64 a0, .int .i64 a1, .int .i64 a2] w fun e w' => e = .returned (.bool r) ∧ Drawn0 w w' := by
 have H : (if a1 ≤ a0 then (some (decide (a0 ≤ a2))) else (some false)) = some r := h
 clear h
 by_cases c4 : a1 ≤ a0
 · rw [if_pos c4] at H
   have c4b0 : decide (a1 ≤ a0) = true := decide_eq_true c4
   clear c4
   obtain rfl := Option.some.inj H
   go_enter Try.func76, Try.ntmps76
   go_wp2
   go_ret
   exact ⟨by first | rfl | (simp; done) | (simp [*]; done), by repeat (first | exact Drawn0.refl _ | apply Drawn0.step)⟩
 · rw [if_neg c4] at H
   have c4b0 : decide (a1 ≤ a0) = false := decide_eq_false c4
   clear c4
   obtain rfl := Option.some.inj H
   go_enter Try.func76, Try.ntmps76
   go_wp2
   go_ret
   exact ⟨by first | rfl | (simp; done) | (simp [*]; done), by repeat (first | exact Drawn0.refl _ | apply Drawn0.step)⟩
mutual
def monitor_IsName.j0 : Nat → ByteArray → Bool → Option (Bool)
  | 0, _, _ => none
  | k + 1, x0, x11 => if x11 = true then (some false) else (monitor_IsName.l0 k x0 (x0.size : Int) 0)
def monitor_IsName.l0 : Nat → ByteArray → Int → Int → Option (Bool)
  | 0, _, _, _ => none
  | k + 1, x0, x13, x14 => if x14 < x13 then (if 0 ≤ x14 then (if x14 < (x0.size : Int) then (if (bt x0 x14) < 97 then (if x14 = 0 then (some false) else (if (bt x0 x14) = 45 then (monitor_IsName.l0 k x0 x13 (wrap64 (x14 + 1))) else (if (bt x0 x14) = 95 then (monitor_IsName.l0 k x0 x13 (wrap64 (x14 + 1))) else (if (bt x0 x14) < 48 then (some false) else (if (bt x0 x14) > 57 then (some false) else (monitor_IsName.l0 k x0 x13 (wrap64 (x14 + 1)))))))) else (if (bt x0 x14) > 122 then (if x14 = 0 then (some false) else (if (bt x0 x14) = 45 then (monitor_IsName.l0 k x0 x13 (wrap64 (x14 + 1))) else (if (bt x0 x14) = 95 then (monitor_IsName.l0 k x0 x13 (wrap64 (x14 + 1))) else (if (bt x0 x14) < 48 then (some false) else (if (bt x0 x14) > 57 then (some false) else (monitor_IsName.l0 k x0 x13 (wrap64 (x14 + 1)))))))) else (monitor_IsName.l0 k x0 x13 (wrap64 (x14 + 1))))) else (none)) else (none)) else (some true)
end
def monitor_IsName.f (k : Nat) (a0 : ByteArray) : Option (Bool) := if a0.toList = ([] : List UInt8) then (monitor_IsName.j0 k a0 true) else (monitor_IsName.j0 k a0 (decide ((a0.size : Int) > 40)))
theorem d78a {p : Prop} (h : p := by repeat (first | exact Drawn0.refl _ | apply Drawn0.step)) : p := h
theorem d78b {p : Prop} (h : p := by first | (with_reducible assumption) | assumption) : p := h
theorem d78c {p : Prop} (h : p := by first | rfl | (simp; done) | (simp [*]; done)) : p := h
set_option maxHeartbeats 8000000 in
set_option maxRecDepth 100000 in
theorem monitor_IsName.calls (k : Nat) (a0 : ByteArray) (r : Bool) (w : World) (h : monitor_IsName.f k a0 = some r) :
 Calls Try.prog 78 #[.string a0] w fun e w' => e = .returned (.bool r) ∧ Drawn0 w w' := by
 have H : (if a0.toList = ([] : List UInt8) then (monitor_IsName.j0 k a0 true) else (monitor_IsName.j0 k a0 (decide ((a0.size : Int) > 40)))) = some r := h
 clear h
 have HC2 := Aside0.mk H
 clear H
 go_enter Try.func78, Try.ntmps78
 go_upto_region 1 with (fail)
 go_cut [11] (fun v11 wc => ∃ (kq : Nat) (x11_1 : Bool), v11 = .bool x11_1 ∧ Aside0 (monitor_IsName.j0 kq a0 x11_1 = some r) ∧ Aside0 (kq ≤ k) ∧ Drawn0 w wc)
 case first =>
  have H := HC2.out
  clear HC2
  by_cases c3 : a0.toList = ([] : List UInt8)
  · rw [if_pos c3] at H
    have c3b0 : (a0.toList == ([] : List UInt8)) = true := beq_iff_eq.mpr c3
    have c3b1 : (a0.toList != ([] : List UInt8)) = false := bne_eq_false_iff_eq.mpr c3
    clear c3
    (first | rw [c3b0] | (simp only [i64_w, i32_w]; rw [c3b0]) | skip)
    have H' := Aside0.mk H
    clear H
    go_wp2
    go_meet
    case rel => exact ⟨_, (true), d78c, H', ⟨by first | omega | exact Nat.le_refl _⟩, d78a⟩
  · rw [if_neg c3] at H
    have c3b0 : (a0.toList == ([] : List UInt8)) = false := beq_eq_false_iff_ne.mpr c3
    have c3b1 : (a0.toList != ([] : List UInt8)) = true := bne_iff_ne.mpr c3
    (first | rw [c3b0] | (simp only [i64_w, i32_w]; rw [c3b0]) | skip)
    have H' := Aside0.mk H
    clear H
    go_wp2
    go_meet
    case rel => exact ⟨_, (decide ((a0.size : Int) > 40)), d78c, H', ⟨by first | omega | exact Nat.le_refl _⟩, d78a⟩
 case rest =>
  clear HC2
  obtain ⟨kq, x11_1, rfl, HA, HJ1, ⟨mc1, rfl⟩⟩ := hcut
  cases kq with
  | zero => exact absurd HA.out (by simp [monitor_IsName.j0])
  | succ kj1 =>
   have H := HA.out
   clear HA
   simp only [monitor_IsName.j0] at H
   by_cases c4 : x11_1 = true
   · subst c4
     replace H := iteT H
     obtain rfl := Option.some.inj H
     go_wp2
     go_ret
     exact ⟨d78c, d78a⟩
   · replace c4 := Bool.eq_false_iff.mpr c4
     subst c4
     replace H := iteF H
     have H' := Aside0.mk H
     clear H
     go_wp2
     go_loopg [14] kj1 (fun kq v14 w' => ∃ (x14_2 : Int), v14 = .int .i64 x14_2 ∧ Aside0 (monitor_IsName.l0 kq a0 (a0.size : Int) x14_2 = some r) ∧ Aside0 (kq ≤ kj1) ∧ Drawn0 w w')
     case atStart => exact ⟨(0), d78c, H', ⟨Nat.le_refl _⟩, d78a⟩
     case round =>
      clear H'
      obtain ⟨x14_2, rfl, HA, HK2, ⟨m2, rfl⟩⟩ := hrel
      cases gk with
      | zero => exact absurd HA.out (by simp [monitor_IsName.l0])
      | succ k2 =>
       have H := HA.out
       clear HA
       simp only [monitor_IsName.l0] at H
       by_cases c5 : x14_2 < (a0.size : Int)
       · rw [if_pos c5] at H
         have c5b0 : decide (x14_2 < (a0.size : Int)) = true := decide_eq_true c5
         clear c5
         replace H := guardT H; obtain ⟨c6, H⟩ := H
         have c6b0 : decide (0 ≤ x14_2) = true := decide_eq_true c6
         clear c6
         replace H := guardT H; obtain ⟨c7, H⟩ := H
         have c7b0 : decide (x14_2 < (a0.size : Int)) = true := decide_eq_true c7
         clear c7
         by_cases c9 : (bt a0 x14_2) < 97
         · rw [if_pos c9] at H
           have c9b0 : decide ((bt a0 x14_2) < 97) = true := decide_eq_true c9
           clear c9
           by_cases c10 : x14_2 = 0
           · rw [if_pos c10] at H
             have c10b0 : (x14_2 == 0) = true := beq_iff_eq.mpr c10
             have c10b1 : (x14_2 != 0) = false := bne_eq_false_iff_eq.mpr c10
             clear c10
             obtain rfl := Option.some.inj H
             have p8 : 0 ≤ (x14_2 : Int) := of_decide_eq_true d78b
             have q8 : x14_2 < (a0.size : Int) := of_decide_eq_true d78b
             have hx8 := bt_at a0 x14_2
             replace p8 := eq_true p8
             replace q8 := eq_true q8
             go_wp2
             go_ret
             exact ⟨d78c, d78a⟩
           · rw [if_neg c10] at H
             have c10b0 : (x14_2 == 0) = false := beq_eq_false_iff_ne.mpr c10
             have c10b1 : (x14_2 != 0) = true := bne_iff_ne.mpr c10
             by_cases c11 : (bt a0 x14_2) = 45
             · rw [if_pos c11] at H
               have c11b0 : ((bt a0 x14_2) == 45) = true := beq_iff_eq.mpr c11
               have c11b1 : ((bt a0 x14_2) != 45) = false := bne_eq_false_iff_eq.mpr c11
               clear c11
               have H' := Aside0.mk H
               clear H
               have p8 : 0 ≤ (x14_2 : Int) := of_decide_eq_true d78b
               have q8 : x14_2 < (a0.size : Int) := of_decide_eq_true d78b
               have hx8 := bt_at a0 x14_2
               replace p8 := eq_true p8
               replace q8 := eq_true q8
               go_wp2
               go_roundg k2
               case measure => have := HJ1.out; have := HK2.out; omega
               case rel => exact ⟨(wrap64 (x14_2 + 1)), d78c, H', ⟨by have := HJ1.out; have := HK2.out; omega⟩, d78a⟩
             · rw [if_neg c11] at H
               have c11b0 : ((bt a0 x14_2) == 45) = false := beq_eq_false_iff_ne.mpr c11
               have c11b1 : ((bt a0 x14_2) != 45) = true := bne_iff_ne.mpr c11
               by_cases c12 : (bt a0 x14_2) = 95
               · rw [if_pos c12] at H
                 have c12b0 : ((bt a0 x14_2) == 95) = true := beq_iff_eq.mpr c12
                 have c12b1 : ((bt a0 x14_2) != 95) = false := bne_eq_false_iff_eq.mpr c12
                 clear c12
                 have H' := Aside0.mk H
                 clear H
                 have p8 : 0 ≤ (x14_2 : Int) := of_decide_eq_true d78b
                 have q8 : x14_2 < (a0.size : Int) := of_decide_eq_true d78b
                 have hx8 := bt_at a0 x14_2
                 replace p8 := eq_true p8
                 replace q8 := eq_true q8
                 go_wp2
                 go_roundg k2
                 case measure => have := HJ1.out; have := HK2.out; omega
                 case rel => exact ⟨(wrap64 (x14_2 + 1)), d78c, H', ⟨by have := HJ1.out; have := HK2.out; omega⟩, d78a⟩
               · rw [if_neg c12] at H
                 have c12b0 : ((bt a0 x14_2) == 95) = false := beq_eq_false_iff_ne.mpr c12
                 have c12b1 : ((bt a0 x14_2) != 95) = true := bne_iff_ne.mpr c12
                 by_cases c13 : (bt a0 x14_2) < 48
                 · rw [if_pos c13] at H
                   have c13b0 : decide ((bt a0 x14_2) < 48) = true := decide_eq_true c13
                   clear c13
                   obtain rfl := Option.some.inj H
                   have p8 : 0 ≤ (x14_2 : Int) := of_decide_eq_true d78b
                   have q8 : x14_2 < (a0.size : Int) := of_decide_eq_true d78b
                   have hx8 := bt_at a0 x14_2
                   replace p8 := eq_true p8
                   replace q8 := eq_true q8
                   go_wp2
                   go_ret
                   exact ⟨d78c, d78a⟩
                 · rw [if_neg c13] at H
                   have c13b0 : decide ((bt a0 x14_2) < 48) = false := decide_eq_false c13
                   clear c13
                   by_cases c14 : (bt a0 x14_2) > 57
                   · rw [if_pos c14] at H
                     have c14b0 : decide (57 < (bt a0 x14_2)) = true := decide_eq_true c14
                     clear c14
                     obtain rfl := Option.some.inj H
                     have p8 : 0 ≤ (x14_2 : Int) := of_decide_eq_true d78b
                     have q8 : x14_2 < (a0.size : Int) := of_decide_eq_true d78b
                     have hx8 := bt_at a0 x14_2
                     replace p8 := eq_true p8
                     replace q8 := eq_true q8
                     go_wp2
                     go_ret
                     exact ⟨d78c, d78a⟩
                   · rw [if_neg c14] at H
                     have c14b0 : decide (57 < (bt a0 x14_2)) = false := decide_eq_false c14
                     clear c14
                     have H' := Aside0.mk H
                     clear H
                     have p8 : 0 ≤ (x14_2 : Int) := of_decide_eq_true d78b
                     have q8 : x14_2 < (a0.size : Int) := of_decide_eq_true d78b
                     have hx8 := bt_at a0 x14_2
                     replace p8 := eq_true p8
                     replace q8 := eq_true q8
                     go_wp2
                     go_roundg k2
                     case measure => have := HJ1.out; have := HK2.out; omega
                     case rel => exact ⟨(wrap64 (x14_2 + 1)), d78c, H', ⟨by have := HJ1.out; have := HK2.out; omega⟩, d78a⟩
         · rw [if_neg c9] at H
           have c9b0 : decide ((bt a0 x14_2) < 97) = false := decide_eq_false c9
           clear c9
           by_cases c15 : (bt a0 x14_2) > 122
           · rw [if_pos c15] at H
             have c15b0 : decide (122 < (bt a0 x14_2)) = true := decide_eq_true c15
             clear c15
             by_cases c16 : x14_2 = 0
             · rw [if_pos c16] at H
               have c16b0 : (x14_2 == 0) = true := beq_iff_eq.mpr c16
               have c16b1 : (x14_2 != 0) = false := bne_eq_false_iff_eq.mpr c16
               clear c16
               obtain rfl := Option.some.inj H
               have p8 : 0 ≤ (x14_2 : Int) := of_decide_eq_true d78b
               have q8 : x14_2 < (a0.size : Int) := of_decide_eq_true d78b
               have hx8 := bt_at a0 x14_2
               replace p8 := eq_true p8
               replace q8 := eq_true q8
               go_wp2
               go_ret
               exact ⟨d78c, d78a⟩
             · rw [if_neg c16] at H
               have c16b0 : (x14_2 == 0) = false := beq_eq_false_iff_ne.mpr c16
               have c16b1 : (x14_2 != 0) = true := bne_iff_ne.mpr c16
               by_cases c17 : (bt a0 x14_2) = 45
               · rw [if_pos c17] at H
                 have c17b0 : ((bt a0 x14_2) == 45) = true := beq_iff_eq.mpr c17
                 have c17b1 : ((bt a0 x14_2) != 45) = false := bne_eq_false_iff_eq.mpr c17
                 clear c17
                 have H' := Aside0.mk H
                 clear H
                 have p8 : 0 ≤ (x14_2 : Int) := of_decide_eq_true d78b
                 have q8 : x14_2 < (a0.size : Int) := of_decide_eq_true d78b
                 have hx8 := bt_at a0 x14_2
                 replace p8 := eq_true p8
                 replace q8 := eq_true q8
                 go_wp2
                 go_roundg k2
                 case measure => have := HJ1.out; have := HK2.out; omega
                 case rel => exact ⟨(wrap64 (x14_2 + 1)), d78c, H', ⟨by have := HJ1.out; have := HK2.out; omega⟩, d78a⟩
               · rw [if_neg c17] at H
                 have c17b0 : ((bt a0 x14_2) == 45) = false := beq_eq_false_iff_ne.mpr c17
                 have c17b1 : ((bt a0 x14_2) != 45) = true := bne_iff_ne.mpr c17
                 by_cases c18 : (bt a0 x14_2) = 95
                 · rw [if_pos c18] at H
                   have c18b0 : ((bt a0 x14_2) == 95) = true := beq_iff_eq.mpr c18
                   have c18b1 : ((bt a0 x14_2) != 95) = false := bne_eq_false_iff_eq.mpr c18
                   clear c18
                   have H' := Aside0.mk H
                   clear H
                   have p8 : 0 ≤ (x14_2 : Int) := of_decide_eq_true d78b
                   have q8 : x14_2 < (a0.size : Int) := of_decide_eq_true d78b
                   have hx8 := bt_at a0 x14_2
                   replace p8 := eq_true p8
                   replace q8 := eq_true q8
                   go_wp2
                   go_roundg k2
                   case measure => have := HJ1.out; have := HK2.out; omega
                   case rel => exact ⟨(wrap64 (x14_2 + 1)), d78c, H', ⟨by have := HJ1.out; have := HK2.out; omega⟩, d78a⟩
                 · rw [if_neg c18] at H
                   have c18b0 : ((bt a0 x14_2) == 95) = false := beq_eq_false_iff_ne.mpr c18
                   have c18b1 : ((bt a0 x14_2) != 95) = true := bne_iff_ne.mpr c18
                   by_cases c19 : (bt a0 x14_2) < 48
                   · rw [if_pos c19] at H
                     have c19b0 : decide ((bt a0 x14_2) < 48) = true := decide_eq_true c19
                     clear c19
                     obtain rfl := Option.some.inj H
                     have p8 : 0 ≤ (x14_2 : Int) := of_decide_eq_true d78b
                     have q8 : x14_2 < (a0.size : Int) := of_decide_eq_true d78b
                     have hx8 := bt_at a0 x14_2
                     replace p8 := eq_true p8
                     replace q8 := eq_true q8
                     go_wp2
                     go_ret
                     exact ⟨d78c, d78a⟩
                   · rw [if_neg c19] at H
                     have c19b0 : decide ((bt a0 x14_2) < 48) = false := decide_eq_false c19
                     clear c19
                     by_cases c20 : (bt a0 x14_2) > 57
                     · rw [if_pos c20] at H
                       have c20b0 : decide (57 < (bt a0 x14_2)) = true := decide_eq_true c20
                       clear c20
                       obtain rfl := Option.some.inj H
                       have p8 : 0 ≤ (x14_2 : Int) := of_decide_eq_true d78b
                       have q8 : x14_2 < (a0.size : Int) := of_decide_eq_true d78b
                       have hx8 := bt_at a0 x14_2
                       replace p8 := eq_true p8
                       replace q8 := eq_true q8
                       go_wp2
                       go_ret
                       exact ⟨d78c, d78a⟩
                     · rw [if_neg c20] at H
                       have c20b0 : decide (57 < (bt a0 x14_2)) = false := decide_eq_false c20
                       clear c20
                       have H' := Aside0.mk H
                       clear H
                       have p8 : 0 ≤ (x14_2 : Int) := of_decide_eq_true d78b
                       have q8 : x14_2 < (a0.size : Int) := of_decide_eq_true d78b
                       have hx8 := bt_at a0 x14_2
                       replace p8 := eq_true p8
                       replace q8 := eq_true q8
                       go_wp2
                       go_roundg k2
                       case measure => have := HJ1.out; have := HK2.out; omega
                       case rel => exact ⟨(wrap64 (x14_2 + 1)), d78c, H', ⟨by have := HJ1.out; have := HK2.out; omega⟩, d78a⟩
           · rw [if_neg c15] at H
             have c15b0 : decide (122 < (bt a0 x14_2)) = false := decide_eq_false c15
             clear c15
             have H' := Aside0.mk H
             clear H
             have p8 : 0 ≤ (x14_2 : Int) := of_decide_eq_true d78b
             have q8 : x14_2 < (a0.size : Int) := of_decide_eq_true d78b
             have hx8 := bt_at a0 x14_2
             replace p8 := eq_true p8
             replace q8 := eq_true q8
             go_wp2
             go_roundg k2
             case measure => have := HJ1.out; have := HK2.out; omega
             case rel => exact ⟨(wrap64 (x14_2 + 1)), d78c, H', ⟨by have := HJ1.out; have := HK2.out; omega⟩, d78a⟩
       · rw [if_neg c5] at H
         have c5b0 : decide (x14_2 < (a0.size : Int)) = false := decide_eq_false c5
         clear c5
         obtain rfl := Option.some.inj H
         go_wp2
         go_ret
         exact ⟨d78c, d78a⟩
mutual
def contact_checkPass.j0 : Nat → Bool → ByteArray → Int → Int → List (S75) → Option (Int)
  | 0, _, _, _, _, _ => none
  | k + 1, x18, x102000, x102001, x102002, x102003 => if x18 = true then (some 1) else (if x102002 ≤ x102001 then (some 8) else (if (wrap64 (x102002 - x102001)) > 2000000 then (contact_checkPass.j1 k true x102000 x102001 x102002 x102003) else (contact_checkPass.j1 k (decide ((x102003.length : Int) > 50)) x102000 x102001 x102002 x102003)))
def contact_checkPass.j1 : Nat → Bool → ByteArray → Int → Int → List (S75) → Option (Int)
  | 0, _, _, _, _, _ => none
  | k + 1, x35, x102000, x102001, x102002, x102003 => if x35 = true then (some 2) else (contact_checkPass.l0 k x102003 (x102003.length : Int) 0 x102000 x102001 x102002 x102003)
def contact_checkPass.l0 : Nat → List (S75) → Int → Int → ByteArray → Int → Int → List (S75) → Option (Int)
  | 0, _, _, _, _, _, _, _ => none
  | k + 1, x37, x38, x39, x102000, x102001, x102002, x102003 => if x39 < x38 then (if 0 ≤ x39 then (if x39 < (x37.length : Int) then ((kit_In.f ((rd_T75 x37 x39).f0) x102001 (wrap64 (x102002 - 1))).bind fun t107 => (if t107 = true then ((kit_In.f ((rd_T75 x37 x39).f1) 0 100000).bind fun t108 => (contact_checkPass.j3 k x39 x37 x38 x39 (!t108) x102000 x102001 x102002 x102003 ((rd_T75 x37 x39).f0) ((rd_T75 x37 x39).f1))) else (contact_checkPass.j3 k x39 x37 x38 x39 true x102000 x102001 x102002 x102003 ((rd_T75 x37 x39).f0) ((rd_T75 x37 x39).f1)))) else (none)) else (none)) else (some 0)
def contact_checkPass.j3 : Nat → Int → List (S75) → Int → Int → Bool → ByteArray → Int → Int → List (S75) → Int → Int → Option (Int)
  | 0, _, _, _, _, _, _, _, _, _, _, _ => none
  | k + 1, x3, x37, x38, x39, x58, x102000, x102001, x102002, x102003, x107000, x107001 => if x58 = true then (some 1) else (if x3 > 0 then (if 0 ≤ (wrap64 (x3 - 1)) then (if (wrap64 (x3 - 1)) < (x102003.length : Int) then (if x107000 ≤ ((rd_T75 x102003 (wrap64 (x3 - 1))).f0) then (some 8) else (contact_checkPass.l0 k x37 x38 (wrap64 (x39 + 1)) x102000 x102001 x102002 x102003)) else (none)) else (none)) else (contact_checkPass.l0 k x37 x38 (wrap64 (x39 + 1)) x102000 x102001 x102002 x102003))
end
def contact_checkPass.f (k : Nat) (a0_0 : ByteArray) (a0_1 : Int) (a0_2 : Int) (l0_3 : List (S75)) : Option (Int) := (monitor_IsName.f k a0_0).bind fun t102 => (if t102 = true then ((kit_In.f a0_1 0 1000000000000).bind fun t103 => (if t103 = true then ((kit_In.f a0_2 0 1000000000000).bind fun t104 => (contact_checkPass.j0 k (!t104) a0_0 a0_1 a0_2 l0_3)) else (contact_checkPass.j0 k true a0_0 a0_1 a0_2 l0_3))) else (some 5))
theorem d47a {p : Prop} (h : p := by repeat (first | (with_reducible first | exact HB.out | apply below_alloc | apply pw_below_drewN | apply below_drew1 | refine below_set ?_ GE101.out | refine below_set ?_ GE106.out) | exact HB.out)) : p := h
theorem d47b {p : Prop} (h : p := by repeat (first | (with_reducible first | exact HB.out | apply below_alloc | apply pw_below_drewN | apply below_drew1 | refine below_set ?_ GE101.out) | exact HB.out)) : p := h
theorem d47c {p : Prop} (h : p := by repeat (first | (with_reducible first | exact HB.out | apply below_alloc | apply pw_below_drewN | apply below_drew1) | exact HB.out)) : p := h
theorem d47d {p : Prop} (h : p := by (with_reducible repeat (first | refine blk_drewN ?_ _ | refine blk_drew ?_ | refine blk_alloc ?_ _)); exact BK101.out) : p := h
theorem d47e {p : Prop} (h : p := by first | rfl | (simp [errW_none, errW_some] <;> rfl) | (simp [*, errW_none, errW_some] <;> rfl)) : p := h
theorem d47f {p : Prop} (h : p := by first | (with_reducible assumption) | assumption) : p := h
theorem d47g {p : Prop} (h : p := by first | rfl | (simp; done) | (simp [*]; done)) : p := h
set_option maxHeartbeats 8000000 in
set_option maxRecDepth 100000 in
theorem contact_checkPass.calls (k : Nat) (a0_0 : ByteArray) (a0_1 : Int) (a0_2 : Int) (A0_3 : Option Addr) (c0_3 : Nat) (l0_3 : List (S75)) (r : Int) (w : World) (hr0_3 : Kd.C k75 w A0_3 l0_3.length l0_3) (hc0_3 : l0_3.length ≤ c0_3) (h : contact_checkPass.f k a0_0 a0_1 a0_2 l0_3 = some r) :
 Calls Try.prog 47 #[.agg #[.string a0_0, .int .i64 a0_1, .int .i64 a0_2, .slice A0_3 l0_3.length c0_3]] w fun e w' => e = .returned (.int .i64 r) ∧ Below w.heap.size w w' := by
 have hu33 := Try.underlying33
 have hu75 := Try.underlying75
 have HR0_3 := Aside0.mk hr0_3
 have HC0_3 := Aside0.mk hc0_3
 clear hr0_3 hc0_3
 have HB := Aside0.mk (Below.refl w.heap.size w)
 have H : ((monitor_IsName.f k a0_0).bind fun t102 => (if t102 = true then ((kit_In.f a0_1 0 1000000000000).bind fun t103 => (if t103 = true then ((kit_In.f a0_2 0 1000000000000).bind fun t104 => (contact_checkPass.j0 k (!t104) a0_0 a0_1 a0_2 l0_3)) else (contact_checkPass.j0 k true a0_0 a0_1 a0_2 l0_3))) else (some 5))) = some r := h
 clear h
 replace H := bindS H; obtain ⟨t102, A2, H⟩ := H
 by_cases c3 : t102 = true
 · subst c3
   replace H := iteT H
   have HC4 := Aside0.mk H
   clear H
   go_enter Try.func47, Try.ntmps47
   go_upto_region 3 with (first | ((with_reducible refine gate_dst (N := 1) rfl ?_); (try (refine gate_guard (by rfl) ?_; dsimp only)); refine box_event ?hg (N := 1) ?hd (cs := #[.string a0_0, .int .i64 a0_1, .int .i64 a0_2, .slice A0_3 l0_3.length c0_3]) (t := 33) ?hr ?_; (case hd => rfl); (case hg => rfl); (case hr => first | (go_simp; done) | (go_simp; rfl)); intro gb101 hg w5 hbox hb; have n0_ := Aside0.mk (below_step d47c hb); have n1_ := Aside0.mk (hbox); have n2_ := Aside0.mk ((by rw [hg]; exact (below_size d47c) : w.heap.size ≤ gb101)); have n3_ := Aside0.mk ((by rw [hg]; exact (below_size d47c) : w.heap.size ≤ gb101)); clear HB; have HB := n0_; have BK101 := n1_; have GW101 := n2_; have GE101 := n3_; clear n0_ n1_ n2_ n3_; clear hb hbox hg; have hcz6_0 : w5.cell? ⟨gb101, 0, none⟩ = some (.string a0_0) := (blk_cell BK101.out 0).trans rfl; have hcz6_1 : w5.cell? ⟨gb101, 1, none⟩ = some (.int .i64 a0_1) := (blk_cell BK101.out 1).trans rfl; have hcz6_2 : w5.cell? ⟨gb101, 2, none⟩ = some (.int .i64 a0_2) := (blk_cell BK101.out 2).trans rfl; have hcz6_3 : w5.cell? ⟨gb101, 3, none⟩ = some (.slice A0_3 l0_3.length c0_3) := (blk_cell BK101.out 3).trans rfl; have hfz6_0 := blk_frozen BK101.out 0; have hfz6_1 := blk_frozen BK101.out 1; have hfz6_2 := blk_frozen BK101.out 2; have hfz6_3 := blk_frozen BK101.out 3) | (go_at_call 78; (with_reducible refine (monitor_IsName.calls k a0_0 true _ A2.out).mono ?_); rintro e w' ⟨rfl, ⟨nd, rfl⟩⟩; (try first | exact ⟨rfl, _, World.drewN_drewN _ _ _⟩ | exact ⟨rfl, _, Eq.trans (World.drewN_drewN _ _ _) (congrArg (World.drewN _) (Nat.add_assoc _ _ _))⟩)))
   (try simp only [Act.put, List.setIfInBounds_toArray, List.set_cons_zero, List.set_cons_succ])
   go_cut [18] (fun v18 wc => ∃ (kq : Nat) (x18_3 : Bool), v18 = .bool x18_3 ∧ Aside0 (contact_checkPass.j0 kq x18_3 a0_0 a0_1 a0_2 l0_3 = some r) ∧ Aside0 (kq ≤ k) ∧ Aside0 (wc.heap[gb101]? = some (.cells #[.string a0_0, .int .i64 a0_1, .int .i64 a0_2, (.slice A0_3 l0_3.length c0_3)] 33 (0, 0))) ∧ Aside0 (Below w.heap.size w wc))
   case first =>
    have H := HC4.out
    clear HC4
    replace H := bindS H; obtain ⟨t103, A7, H⟩ := H
    by_cases c8 : t103 = true
    · subst c8
      replace H := iteT H
      replace H := bindS H; obtain ⟨t104, A9, H⟩ := H
      have H' := Aside0.mk H
      clear H
      obtain ⟨hcz10_0, hcz10_1, hcz10_2, hcz10_3⟩ := blkC4 BK101.out
      have hfz10_0 := blk_frozen BK101.out 0
      have hfz10_1 := blk_frozen BK101.out 1
      have hfz10_2 := blk_frozen BK101.out 2
      have hfz10_3 := blk_frozen BK101.out 3
      go_wp2_with (first | (go_at_call 76; (with_reducible refine (kit_In.calls a0_1 0 1000000000000 true _ A7.out).mono ?_); rintro e w' ⟨rfl, ⟨nd, rfl⟩⟩; (try first | exact ⟨rfl, _, World.drewN_drewN _ _ _⟩ | exact ⟨rfl, _, Eq.trans (World.drewN_drewN _ _ _) (congrArg (World.drewN _) (Nat.add_assoc _ _ _))⟩)) | (go_at_call 76; (with_reducible refine (kit_In.calls a0_2 0 1000000000000 t104 _ A9.out).mono ?_); rintro e w' ⟨rfl, ⟨nd, rfl⟩⟩; (try first | exact ⟨rfl, _, World.drewN_drewN _ _ _⟩ | exact ⟨rfl, _, Eq.trans (World.drewN_drewN _ _ _) (congrArg (World.drewN _) (Nat.add_assoc _ _ _))⟩)))
      go_meet
      case rel => exact ⟨_, (!t104), d47g, H', ⟨by first | omega | exact Nat.le_refl _⟩, ⟨d47d⟩, ⟨d47b⟩⟩
    · replace c8 := Bool.eq_false_iff.mpr c8
      subst c8
      replace H := iteF H
      have H' := Aside0.mk H
      clear H
      obtain ⟨hcz11_0, hcz11_1, hcz11_2, hcz11_3⟩ := blkC4 BK101.out
      have hfz11_0 := blk_frozen BK101.out 0
      have hfz11_1 := blk_frozen BK101.out 1
      have hfz11_2 := blk_frozen BK101.out 2
      have hfz11_3 := blk_frozen BK101.out 3
      go_wp2_with (go_at_call 76; (with_reducible refine (kit_In.calls a0_1 0 1000000000000 false _ A7.out).mono ?_); rintro e w' ⟨rfl, ⟨nd, rfl⟩⟩; (try first | exact ⟨rfl, _, World.drewN_drewN _ _ _⟩ | exact ⟨rfl, _, Eq.trans (World.drewN_drewN _ _ _) (congrArg (World.drewN _) (Nat.add_assoc _ _ _))⟩))
      go_meet
      case rel => exact ⟨_, (true), d47g, H', ⟨by first | omega | exact Nat.le_refl _⟩, ⟨d47d⟩, ⟨d47b⟩⟩
   case rest =>
    clear HC4
    try clear hcz6_0
    try clear hcz6_1
    try clear hcz6_2
    try clear hcz6_3
    try clear hfz6_0
    try clear hfz6_1
    try clear hfz6_2
    try clear hfz6_3
    obtain ⟨kq, x18_3, rfl, HA, HJ3, BK101, HB⟩ := hcut
    cases kq with
    | zero => exact absurd HA.out (by simp [contact_checkPass.j0])
    | succ kj3 =>
     have H := HA.out
     clear HA
     simp only [contact_checkPass.j0] at H
     by_cases c12 : x18_3 = true
     · subst c12
       replace H := iteT H
       obtain rfl := Option.some.inj H
       go_wp2
       go_ret
       exact ⟨d47e, d47b⟩
     · replace c12 := Bool.eq_false_iff.mpr c12
       subst c12
       replace H := iteF H
       by_cases c13 : a0_2 ≤ a0_1
       · rw [if_pos c13] at H
         have c13b0 : decide (a0_2 ≤ a0_1) = true := decide_eq_true c13
         clear c13
         obtain rfl := Option.some.inj H
         obtain ⟨hcz14_0, hcz14_1, hcz14_2, hcz14_3⟩ := blkC4 BK101.out
         have hfz14_0 := blk_frozen BK101.out 0
         have hfz14_1 := blk_frozen BK101.out 1
         have hfz14_2 := blk_frozen BK101.out 2
         have hfz14_3 := blk_frozen BK101.out 3
         go_wp2
         go_ret
         exact ⟨d47e, d47b⟩
       · rw [if_neg c13] at H
         have c13b0 : decide (a0_2 ≤ a0_1) = false := decide_eq_false c13
         clear c13
         have HC15 := Aside0.mk H
         clear H
         obtain ⟨hcz16_0, hcz16_1, hcz16_2, hcz16_3⟩ := blkC4 BK101.out
         have hfz16_0 := blk_frozen BK101.out 0
         have hfz16_1 := blk_frozen BK101.out 1
         have hfz16_2 := blk_frozen BK101.out 2
         have hfz16_3 := blk_frozen BK101.out 3
         go_upto_region 7 with (fail)
         go_cut [35] (fun v35 wc => ∃ (kq : Nat) (x35_14 : Bool), v35 = .bool x35_14 ∧ Aside0 (contact_checkPass.j1 kq x35_14 a0_0 a0_1 a0_2 l0_3 = some r) ∧ Aside0 (kq ≤ kj3) ∧ Aside0 (wc.heap[gb101]? = some (.cells #[.string a0_0, .int .i64 a0_1, .int .i64 a0_2, (.slice A0_3 l0_3.length c0_3)] 33 (0, 0))) ∧ Aside0 (Below w.heap.size w wc))
         case first =>
          have H := HC15.out
          clear HC15
          by_cases c17 : (wrap64 (a0_2 - a0_1)) > 2000000
          · rw [if_pos c17] at H
            have c17b0 : decide (2000000 < (wrap64 (a0_2 - a0_1))) = true := decide_eq_true c17
            clear c17
            (first | rw [c17b0] | (simp only [i64_w, i32_w]; rw [c17b0]) | skip)
            have H' := Aside0.mk H
            clear H
            obtain ⟨hcz18_0, hcz18_1, hcz18_2, hcz18_3⟩ := blkC4 BK101.out
            have hfz18_0 := blk_frozen BK101.out 0
            have hfz18_1 := blk_frozen BK101.out 1
            have hfz18_2 := blk_frozen BK101.out 2
            have hfz18_3 := blk_frozen BK101.out 3
            go_wp2
            go_meet
            case rel => exact ⟨_, (true), d47g, H', ⟨by have := HJ3.out; first | omega | exact Nat.le_refl _⟩, ⟨d47d⟩, ⟨d47b⟩⟩
          · rw [if_neg c17] at H
            have c17b0 : decide (2000000 < (wrap64 (a0_2 - a0_1))) = false := decide_eq_false c17
            clear c17
            (first | rw [c17b0] | (simp only [i64_w, i32_w]; rw [c17b0]) | skip)
            have H' := Aside0.mk H
            clear H
            obtain ⟨hcz19_0, hcz19_1, hcz19_2, hcz19_3⟩ := blkC4 BK101.out
            have hfz19_0 := blk_frozen BK101.out 0
            have hfz19_1 := blk_frozen BK101.out 1
            have hfz19_2 := blk_frozen BK101.out 2
            have hfz19_3 := blk_frozen BK101.out 3
            go_wp2
            go_meet
            case rel => exact ⟨_, (decide ((l0_3.length : Int) > 50)), d47g, H', ⟨by have := HJ3.out; first | omega | exact Nat.le_refl _⟩, ⟨d47d⟩, ⟨d47b⟩⟩
         case rest =>
          clear HC15
          try clear c13b0
          try clear hcz16_0
          try clear hcz16_1
          try clear hcz16_2
          try clear hcz16_3
          try clear hfz16_0
          try clear hfz16_1
          try clear hfz16_2
          try clear hfz16_3
          obtain ⟨kq, x35_14, rfl, HA, HJ14, BK101, HB⟩ := hcut
          cases kq with
          | zero => exact absurd HA.out (by simp [contact_checkPass.j1])
          | succ kj14 =>
           have H := HA.out
           clear HA
           simp only [contact_checkPass.j1] at H
           by_cases c20 : x35_14 = true
           · subst c20
             replace H := iteT H
             obtain rfl := Option.some.inj H
             go_wp2
             go_ret
             exact ⟨d47e, d47b⟩
           · replace c20 := Bool.eq_false_iff.mpr c20
             subst c20
             replace H := iteF H
             have H' := Aside0.mk H
             clear H
             obtain ⟨hcz21_0, hcz21_1, hcz21_2, hcz21_3⟩ := blkC4 BK101.out
             have hfz21_0 := blk_frozen BK101.out 0
             have hfz21_1 := blk_frozen BK101.out 1
             have hfz21_2 := blk_frozen BK101.out 2
             have hfz21_3 := blk_frozen BK101.out 3
             go_wp2
             go_loopg [39] kj14 (fun kq v39 w' => ∃ (x39_3 : Int), v39 = .int .i64 x39_3 ∧ Aside0 (contact_checkPass.l0 kq l0_3 (l0_3.length : Int) x39_3 a0_0 a0_1 a0_2 l0_3 = some r) ∧ Aside0 (kq ≤ kj14) ∧ Aside0 (w'.heap[gb101]? = some (.cells #[.string a0_0, .int .i64 a0_1, .int .i64 a0_2, (.slice A0_3 l0_3.length c0_3)] 33 (0, 0))) ∧ Aside0 (Below w.heap.size w w'))
             case atStart => exact ⟨(0), d47g, H', ⟨Nat.le_refl _⟩, ⟨d47d⟩, ⟨d47b⟩⟩
             case round =>
              clear H'
              try clear hcz21_0
              try clear hcz21_1
              try clear hcz21_2
              try clear hcz21_3
              try clear hfz21_0
              try clear hfz21_1
              try clear hfz21_2
              try clear hfz21_3
              obtain ⟨x39_3, rfl, HA, HK3, BK101, HB⟩ := hrel
              cases gk with
              | zero => exact absurd HA.out (by simp [contact_checkPass.l0])
              | succ k3 =>
               have H := HA.out
               clear HA
               simp only [contact_checkPass.l0] at H
               by_cases c22 : x39_3 < (l0_3.length : Int)
               · rw [if_pos c22] at H
                 have c22b0 : decide (x39_3 < (l0_3.length : Int)) = true := decide_eq_true c22
                 clear c22
                 replace H := guardT H; obtain ⟨c23, H⟩ := H
                 have c23b0 : decide (0 ≤ x39_3) = true := decide_eq_true c23
                 clear c23
                 replace H := guardT H; obtain ⟨c24, H⟩ := H
                 have c24b0 : decide (x39_3 < (l0_3.length : Int)) = true := decide_eq_true c24
                 clear c24
                 have HC25 := Aside0.mk H
                 clear H
                 have p105 : 0 ≤ (x39_3 : Int) := of_decide_eq_true d47f
                 have q105 : x39_3 < (l0_3.length : Int) := of_decide_eq_true d47f
                 obtain ⟨ad105, e105, hx105_0, hx105_1⟩ := at_T75 HR0_3.out x39_3 p105 q105
                 cases e105
                 replace hx105_0 := cellB HB.out hx105_0
                 replace hx105_1 := cellB HB.out hx105_1
                 replace p105 := eq_true p105
                 replace q105 := eq_true q105
                 go_upto_region 12 with ((with_reducible refine gate_dst (N := 4) rfl ?_); (try (refine gate_guard (by rfl) ?_; dsimp only)); refine box_event ?hg (N := 4) ?hd (cs := #[.int .i64 0, .int .i64 0]) (t := 75) ?hr ?_; (case hd => rfl); (case hg => rfl); (case hr => first | (go_simp; done) | (go_simp; rfl)); intro gb106 hg w26 hbox hb; have n0_ := Aside0.mk (blk_below (g := gb101) (o := .cells #[.string a0_0, .int .i64 a0_1, .int .i64 a0_2, .slice (some ad105) l0_3.length c0_3] 33 (0, 0)) d47d hb); have n1_ := Aside0.mk (below_step d47b hb); have n2_ := Aside0.mk (hbox); have n3_ := Aside0.mk ((by rw [hg]; exact (below_size d47b) : w.heap.size ≤ gb106)); have n4_ := Aside0.mk ((by rw [hg]; exact (below_size d47b) : w.heap.size ≤ gb106)); have n5_ := Aside0.mk ((by rw [hg]; exact Nat.ne_of_lt (blk_lt (g := gb101) (o := .cells #[.string a0_0, .int .i64 a0_1, .int .i64 a0_2, .slice (some ad105) l0_3.length c0_3] 33 (0, 0)) d47d) : gb101 ≠ gb106)); have n6_ := Aside0.mk ((by rw [hg]; exact Nat.ne_of_gt (blk_lt (g := gb101) (o := .cells #[.string a0_0, .int .i64 a0_1, .int .i64 a0_2, .slice (some ad105) l0_3.length c0_3] 33 (0, 0)) d47d) : gb106 ≠ gb101)); clear BK101; clear HB; have BK101 := n0_; have HB := n1_; have BK106 := n2_; have GW106 := n3_; have GE106 := n4_; have NB101_106 := n5_; have NB106_101 := n6_; clear n0_ n1_ n2_ n3_ n4_ n5_ n6_; clear hb hbox hg; have hnb27 := NB106_101.out; have hnc27 := NB101_106.out; have hcz28_0 : w26.cell? ⟨gb106, 0, none⟩ = some (.int .i64 0) := (blk_cell BK106.out 0).trans rfl; have hcz28_1 : w26.cell? ⟨gb106, 1, none⟩ = some (.int .i64 0) := (blk_cell BK106.out 1).trans rfl; have hfz28_0 := blk_frozen BK106.out 0; have hfz28_1 := blk_frozen BK106.out 1)
                 (try simp only [Act.put, List.setIfInBounds_toArray, List.set_cons_zero, List.set_cons_succ])
                 go_cut [58] (fun v58 wc => ∃ (kq : Nat) (x58_24 : Bool), v58 = .bool x58_24 ∧ Aside0 (contact_checkPass.j3 kq x39_3 l0_3 (l0_3.length : Int) x39_3 x58_24 a0_0 a0_1 a0_2 l0_3 ((rd_T75 l0_3 x39_3).f0) ((rd_T75 l0_3 x39_3).f1) = some r) ∧ Aside0 (kq ≤ k3) ∧ Aside0 (wc.heap[gb101]? = some (.cells #[.string a0_0, .int .i64 a0_1, .int .i64 a0_2, (.slice (some ad105) l0_3.length c0_3)] 33 (0, 0))) ∧ Aside0 (wc.heap[gb106]? = some (.cells #[.int .i64 ((rd_T75 l0_3 x39_3).f0), .int .i64 ((rd_T75 l0_3 x39_3).f1)] 75 (0, 0))) ∧ Aside0 (Below w.heap.size w wc))
                 case first =>
                  have H := HC25.out
                  clear HC25
                  replace H := bindS H; obtain ⟨t107, A29, H⟩ := H
                  by_cases c30 : t107 = true
                  · subst c30
                    replace H := iteT H
                    replace H := bindS H; obtain ⟨t108, A31, H⟩ := H
                    have H' := Aside0.mk H
                    clear H
                    have hnb32 := NB106_101.out
                    have hnc32 := NB101_106.out
                    obtain ⟨hcz33_0, hcz33_1⟩ := blkC2 BK106.out
                    have hfz33_0 := blk_frozen BK106.out 0
                    have hfz33_1 := blk_frozen BK106.out 1
                    obtain ⟨hcz34_0, hcz34_1, hcz34_2, hcz34_3⟩ := blkC4 BK101.out
                    have hfz34_0 := blk_frozen BK101.out 0
                    have hfz34_1 := blk_frozen BK101.out 1
                    have hfz34_2 := blk_frozen BK101.out 2
                    have hfz34_3 := blk_frozen BK101.out 3
                    go_wp2_with (first | (go_at_call 76; (with_reducible refine (kit_In.calls ((rd_T75 l0_3 x39_3).f0) a0_1 (wrap64 (a0_2 - 1)) true _ A29.out).mono ?_); rintro e w' ⟨rfl, ⟨nd, rfl⟩⟩; (try first | exact ⟨rfl, _, World.drewN_drewN _ _ _⟩ | exact ⟨rfl, _, Eq.trans (World.drewN_drewN _ _ _) (congrArg (World.drewN _) (Nat.add_assoc _ _ _))⟩)) | (go_at_call 76; (with_reducible refine (kit_In.calls ((rd_T75 l0_3 x39_3).f1) 0 100000 t108 _ A31.out).mono ?_); rintro e w' ⟨rfl, ⟨nd, rfl⟩⟩; (try first | exact ⟨rfl, _, World.drewN_drewN _ _ _⟩ | exact ⟨rfl, _, Eq.trans (World.drewN_drewN _ _ _) (congrArg (World.drewN _) (Nat.add_assoc _ _ _))⟩)))
                    go_meet
                    case rel => exact ⟨_, (!t108), d47g, H', ⟨by have := HJ3.out; have := HJ14.out; have := HK3.out; first | omega | exact Nat.le_refl _⟩, ⟨by (with_reducible repeat (first | refine blk_drewN ?_ _ | refine blk_drew ?_ | refine blk_alloc ?_ _)); refine blk_far ?_ NB101_106.out _; (with_reducible repeat (first | refine blk_drewN ?_ _ | refine blk_drew ?_ | refine blk_alloc ?_ _)); refine blk_far ?_ NB101_106.out _; (with_reducible repeat (first | refine blk_drewN ?_ _ | refine blk_drew ?_ | refine blk_alloc ?_ _)); exact BK101.out⟩, ⟨by (with_reducible repeat (first | refine blk_drewN ?_ _ | refine blk_drew ?_ | refine blk_alloc ?_ _)); refine blk_put (cs := #[.int .i64 ((rd_T75 l0_3 x39_3).f0), .int .i64 0]) ?_ 1 _ rfl; (with_reducible repeat (first | refine blk_drewN ?_ _ | refine blk_drew ?_ | refine blk_alloc ?_ _)); refine blk_put (cs := #[.int .i64 0, .int .i64 0]) ?_ 0 _ rfl; (with_reducible repeat (first | refine blk_drewN ?_ _ | refine blk_drew ?_ | refine blk_alloc ?_ _)); exact BK106.out⟩, ⟨d47a⟩⟩
                  · replace c30 := Bool.eq_false_iff.mpr c30
                    subst c30
                    replace H := iteF H
                    have H' := Aside0.mk H
                    clear H
                    have hnb35 := NB106_101.out
                    have hnc35 := NB101_106.out
                    obtain ⟨hcz36_0, hcz36_1⟩ := blkC2 BK106.out
                    have hfz36_0 := blk_frozen BK106.out 0
                    have hfz36_1 := blk_frozen BK106.out 1
                    obtain ⟨hcz37_0, hcz37_1, hcz37_2, hcz37_3⟩ := blkC4 BK101.out
                    have hfz37_0 := blk_frozen BK101.out 0
                    have hfz37_1 := blk_frozen BK101.out 1
                    have hfz37_2 := blk_frozen BK101.out 2
                    have hfz37_3 := blk_frozen BK101.out 3
                    go_wp2_with (go_at_call 76; (with_reducible refine (kit_In.calls ((rd_T75 l0_3 x39_3).f0) a0_1 (wrap64 (a0_2 - 1)) false _ A29.out).mono ?_); rintro e w' ⟨rfl, ⟨nd, rfl⟩⟩; (try first | exact ⟨rfl, _, World.drewN_drewN _ _ _⟩ | exact ⟨rfl, _, Eq.trans (World.drewN_drewN _ _ _) (congrArg (World.drewN _) (Nat.add_assoc _ _ _))⟩))
                    go_meet
                    case rel => exact ⟨_, (true), d47g, H', ⟨by have := HJ3.out; have := HJ14.out; have := HK3.out; first | omega | exact Nat.le_refl _⟩, ⟨by (with_reducible repeat (first | refine blk_drewN ?_ _ | refine blk_drew ?_ | refine blk_alloc ?_ _)); refine blk_far ?_ NB101_106.out _; (with_reducible repeat (first | refine blk_drewN ?_ _ | refine blk_drew ?_ | refine blk_alloc ?_ _)); refine blk_far ?_ NB101_106.out _; (with_reducible repeat (first | refine blk_drewN ?_ _ | refine blk_drew ?_ | refine blk_alloc ?_ _)); exact BK101.out⟩, ⟨by (with_reducible repeat (first | refine blk_drewN ?_ _ | refine blk_drew ?_ | refine blk_alloc ?_ _)); refine blk_put (cs := #[.int .i64 ((rd_T75 l0_3 x39_3).f0), .int .i64 0]) ?_ 1 _ rfl; (with_reducible repeat (first | refine blk_drewN ?_ _ | refine blk_drew ?_ | refine blk_alloc ?_ _)); refine blk_put (cs := #[.int .i64 0, .int .i64 0]) ?_ 0 _ rfl; (with_reducible repeat (first | refine blk_drewN ?_ _ | refine blk_drew ?_ | refine blk_alloc ?_ _)); exact BK106.out⟩, ⟨d47a⟩⟩
                 case rest =>
                  clear HC25
                  try clear c22b0
                  try clear c23b0
                  try clear c24b0
                  try clear hcz28_0
                  try clear hcz28_1
                  try clear hfz28_0
                  try clear hfz28_1
                  try clear hx105_0
                  try clear hx105_1
                  try clear p105
                  try clear q105
                  obtain ⟨kq, x58_24, rfl, HA, HJ24, BK101, BK106, HB⟩ := hcut
                  cases kq with
                  | zero => exact absurd HA.out (by simp [contact_checkPass.j3])
                  | succ kj24 =>
                   have H := HA.out
                   clear HA
                   simp only [contact_checkPass.j3] at H
                   by_cases c38 : x58_24 = true
                   · subst c38
                     replace H := iteT H
                     obtain rfl := Option.some.inj H
                     go_wp2
                     go_ret
                     exact ⟨d47e, d47a⟩
                   · replace c38 := Bool.eq_false_iff.mpr c38
                     subst c38
                     replace H := iteF H
                     by_cases c39 : x39_3 > 0
                     · rw [if_pos c39] at H
                       have c39b0 : decide (0 < x39_3) = true := decide_eq_true c39
                       clear c39
                       obtain ⟨ji40, hji40⟩ : ∃ j_ : Int, (wrap64 (x39_3 - 1)) = j_ := ⟨_, rfl⟩
                       replace H : (if 0 ≤ (ji40) then (if (ji40) < (l0_3.length : Int) then (if ((rd_T75 l0_3 x39_3).f0) ≤ ((rd_T75 l0_3 (ji40)).f0) then (some 8) else (contact_checkPass.l0 kj24 l0_3 (l0_3.length : Int) (wrap64 (x39_3 + 1)) a0_0 a0_1 a0_2 l0_3)) else (none)) else (none)) = some r := by first | (rw [hji40] at H; exact H) | (simp only [hji40] at H ⊢; exact H)
                       have hji40w : (IntKind.i64.wrap (x39_3 - 1)) = ji40 := (i64_w _).trans hji40
                       replace H := guardT H; obtain ⟨c41, H⟩ := H
                       have c41b0 : decide (0 ≤ (ji40)) = true := decide_eq_true c41
                       clear c41
                       replace H := guardT H; obtain ⟨c42, H⟩ := H
                       have c42b0 : decide ((ji40) < (l0_3.length : Int)) = true := decide_eq_true c42
                       clear c42
                       by_cases c43 : ((rd_T75 l0_3 x39_3).f0) ≤ ((rd_T75 l0_3 (ji40)).f0)
                       · rw [if_pos c43] at H
                         have c43b0 : decide (((rd_T75 l0_3 x39_3).f0) ≤ ((rd_T75 l0_3 (ji40)).f0)) = true := decide_eq_true c43
                         clear c43
                         obtain rfl := Option.some.inj H
                         have hnb44 := NB106_101.out
                         have hnc44 := NB101_106.out
                         obtain ⟨hcz45_0, hcz45_1⟩ := blkC2 BK106.out
                         have hfz45_0 := blk_frozen BK106.out 0
                         have hfz45_1 := blk_frozen BK106.out 1
                         obtain ⟨hcz46_0, hcz46_1, hcz46_2, hcz46_3⟩ := blkC4 BK101.out
                         have hfz46_0 := blk_frozen BK101.out 0
                         have hfz46_1 := blk_frozen BK101.out 1
                         have hfz46_2 := blk_frozen BK101.out 2
                         have hfz46_3 := blk_frozen BK101.out 3
                         have p109 : 0 ≤ ((ji40) : Int) := of_decide_eq_true d47f
                         have q109 : (ji40) < (l0_3.length : Int) := of_decide_eq_true d47f
                         obtain ⟨ad109, e109, hx109_0, hx109_1⟩ := at_T75 HR0_3.out (ji40) p109 q109
                         obtain rfl : ad105 = ad109 := (by injection e109)
                         replace hx109_0 := cellB HB.out hx109_0
                         replace hx109_1 := cellB HB.out hx109_1
                         replace p109 := eq_true p109
                         replace q109 := eq_true q109
                         go_wp2
                         repeat (go_quiet (fail); try go_wp2)
                         go_ret
                         exact ⟨by first | rfl | (simp [errW_none, errW_some] <;> rfl) | (simp only [← hji40]; first | rfl | (simp [errW_none, errW_some] <;> rfl)) | (simp [*, errW_none, errW_some] <;> rfl), d47a⟩
                       · rw [if_neg c43] at H
                         have c43b0 : decide (((rd_T75 l0_3 x39_3).f0) ≤ ((rd_T75 l0_3 (ji40)).f0)) = false := decide_eq_false c43
                         clear c43
                         have H' := Aside0.mk H
                         clear H
                         have hnb47 := NB106_101.out
                         have hnc47 := NB101_106.out
                         obtain ⟨hcz48_0, hcz48_1⟩ := blkC2 BK106.out
                         have hfz48_0 := blk_frozen BK106.out 0
                         have hfz48_1 := blk_frozen BK106.out 1
                         obtain ⟨hcz49_0, hcz49_1, hcz49_2, hcz49_3⟩ := blkC4 BK101.out
                         have hfz49_0 := blk_frozen BK101.out 0
                         have hfz49_1 := blk_frozen BK101.out 1
                         have hfz49_2 := blk_frozen BK101.out 2
                         have hfz49_3 := blk_frozen BK101.out 3
                         have p109 : 0 ≤ ((ji40) : Int) := of_decide_eq_true d47f
                         have q109 : (ji40) < (l0_3.length : Int) := of_decide_eq_true d47f
                         obtain ⟨ad109, e109, hx109_0, hx109_1⟩ := at_T75 HR0_3.out (ji40) p109 q109
                         obtain rfl : ad105 = ad109 := (by injection e109)
                         replace hx109_0 := cellB HB.out hx109_0
                         replace hx109_1 := cellB HB.out hx109_1
                         replace p109 := eq_true p109
                         replace q109 := eq_true q109
                         go_wp2
                         repeat (go_quiet (fail); try go_wp2)
                         go_roundg kj24
                         case measure => have := HJ3.out; have := HJ14.out; have := HK3.out; have := HJ24.out; omega
                         case rel => exact ⟨(wrap64 (x39_3 + 1)), d47g, H', ⟨by have := HJ3.out; have := HJ14.out; have := HK3.out; have := HJ24.out; omega⟩, ⟨d47d⟩, ⟨d47a⟩⟩
                     · rw [if_neg c39] at H
                       have c39b0 : decide (0 < x39_3) = false := decide_eq_false c39
                       clear c39
                       have H' := Aside0.mk H
                       clear H
                       go_wp2
                       repeat (go_quiet (fail); try go_wp2)
                       go_roundg kj24
                       case measure => have := HJ3.out; have := HJ14.out; have := HK3.out; have := HJ24.out; omega
                       case rel => exact ⟨(wrap64 (x39_3 + 1)), d47g, H', ⟨by have := HJ3.out; have := HJ14.out; have := HK3.out; have := HJ24.out; omega⟩, ⟨d47d⟩, ⟨d47a⟩⟩
               · rw [if_neg c22] at H
                 have c22b0 : decide (x39_3 < (l0_3.length : Int)) = false := decide_eq_false c22
                 clear c22
                 obtain rfl := Option.some.inj H
                 go_wp2
                 go_ret
                 exact ⟨d47e, d47b⟩
 · replace c3 := Bool.eq_false_iff.mpr c3
   subst c3
   replace H := iteF H
   obtain rfl := Option.some.inj H
   go_enter Try.func47, Try.ntmps47
   go_wp2_with (first | ((with_reducible refine gate_dst (N := 1) rfl ?_); (try (refine gate_guard (by rfl) ?_; dsimp only)); refine box_event ?hg (N := 1) ?hd (cs := #[.string a0_0, .int .i64 a0_1, .int .i64 a0_2, .slice A0_3 l0_3.length c0_3]) (t := 33) ?hr ?_; (case hd => rfl); (case hg => rfl); (case hr => first | (go_simp; done) | (go_simp; rfl)); intro gb101 hg w50 hbox hb; have n0_ := Aside0.mk (below_step d47c hb); have n1_ := Aside0.mk (hbox); have n2_ := Aside0.mk ((by rw [hg]; exact (below_size d47c) : w.heap.size ≤ gb101)); have n3_ := Aside0.mk ((by rw [hg]; exact (below_size d47c) : w.heap.size ≤ gb101)); clear HB; have HB := n0_; have BK101 := n1_; have GW101 := n2_; have GE101 := n3_; clear n0_ n1_ n2_ n3_; clear hb hbox hg; have hcz51_0 : w50.cell? ⟨gb101, 0, none⟩ = some (.string a0_0) := (blk_cell BK101.out 0).trans rfl; have hcz51_1 : w50.cell? ⟨gb101, 1, none⟩ = some (.int .i64 a0_1) := (blk_cell BK101.out 1).trans rfl; have hcz51_2 : w50.cell? ⟨gb101, 2, none⟩ = some (.int .i64 a0_2) := (blk_cell BK101.out 2).trans rfl; have hcz51_3 : w50.cell? ⟨gb101, 3, none⟩ = some (.slice A0_3 l0_3.length c0_3) := (blk_cell BK101.out 3).trans rfl; have hfz51_0 := blk_frozen BK101.out 0; have hfz51_1 := blk_frozen BK101.out 1; have hfz51_2 := blk_frozen BK101.out 2; have hfz51_3 := blk_frozen BK101.out 3) | (go_at_call 78; (with_reducible refine (monitor_IsName.calls k a0_0 false _ A2.out).mono ?_); rintro e w' ⟨rfl, ⟨nd, rfl⟩⟩; (try first | exact ⟨rfl, _, World.drewN_drewN _ _ _⟩ | exact ⟨rfl, _, Eq.trans (World.drewN_drewN _ _ _) (congrArg (World.drewN _) (Nat.add_assoc _ _ _))⟩)))
   go_ret
   exact ⟨d47e, d47b⟩
/-- A string among others, once. -/
def keyB (p : S33) : Lit := .string p.f0.data.toList
/-- How many stations passes have. -/
def stationsB (l : List S33) : Nat := ((l.map keyB).foldl Maps.addKey []).length
/-- A pass that may not follow another one. -/
def passAfter (a b : S33) : Bool := decide (b.f1 < a.f1) || (decide (b.f1 = a.f1) && !Op.bytesLess a.f0.toList b.f0.toList)
def contact_CheckPasses.l0 : Nat → List S33 → Int → Option Int
  | 0, _, _ => none
  | k + 1, x0, i => if i < (x0.length : Int) then ((contact_checkPass.f k (rd_T33 x0 i).f0 (rd_T33 x0 i).f1 (rd_T33 x0 i).f2 (rd_T33 x0 i).f3).bind fun t => if t = 0 then (if 0 < i ∧ passAfter (rd_T33 x0 (i - 1)) (rd_T33 x0 i) = true then some 8 else contact_CheckPasses.l0 k x0 (i + 1)) else some t) else some (if stationsB x0 > 50 then 2 else 0)
def contact_CheckPasses.f (k : Nat) (l0 : List S33) : Option Int := if (l0.length : Int) > 100 then some 2 else contact_CheckPasses.l0 k l0 0
theorem lawStr : Maps.Keyed Try.prog 9 := Maps.string_keyed Try.underlying9
/-- The map of the stations: block g; the passes before i have been put in. -/
def StationsIn (l : List S33) (g : Nat) (i : Int) (W : World) : Prop :=
  W.ownsMap (H := Unit) Try.prog 9 (plainElem Try.prog 4) g i.toNat (Maps.setOf (.lit (.bool true)) ((l.take i.toNat).map keyB))
theorem StationsIn.step {l : List S33} {g : Nat} {i : Int} {W : World} (h0 : 0 ≤ i) (h1 : i < (l.length : Int))
    (h : W.ownsMap (H := Unit) Try.prog 9 (plainElem Try.prog 4) g (i.toNat + 1) ((Maps.setOf (.lit (.bool true)) ((l.take i.toNat).map keyB)).put (.string (rd_T33 l i).f0.data.toList) (.lit (.bool true)))) : StationsIn l g (i + 1) W := by
  unfold StationsIn
  rw [show (i + 1).toNat = i.toNat + 1 by omega, List.take_succ_eq_append_getElem (by omega), List.map_append, List.map_cons, List.map_nil, Maps.setOf_snoc]
  have e : keyB (l[i.toNat]'(by omega)) = .string (rd_T33 l i).f0.data.toList := by
    unfold keyB rd_T33
    rw [List.getD_eq_getElem?_getD, List.getElem?_eq_getElem (by omega)]
    rfl
  rw [e]
  exact h
theorem isName_short {k : Nat} {s : ByteArray} (h : monitor_IsName.f k s = some true) : s.size ≤ 40 := by
  have key : ∀ b : Bool, monitor_IsName.j0 k s b = some true → b = false := by
    intro b hb
    cases k with
    | zero => simp [monitor_IsName.j0] at hb
    | succ k =>
      cases b
      · rfl
      · simp [monitor_IsName.j0] at hb
  unfold monitor_IsName.f at h
  split at h
  · exact absurd (key _ h) (by simp)
  · have := of_decide_eq_false (key _ h)
    omega
theorem checkPass_short {k : Nat} {s : ByteArray} {a b : Int} {l : List S75} (h : contact_checkPass.f k s a b l = some 0) : s.size ≤ 40 := by
  unfold contact_checkPass.f at h
  obtain ⟨t, h1, h2⟩ := Option.bind_eq_some_iff.1 h
  cases t
  · simp at h2
  · exact isName_short h1
set_option maxHeartbeats 8000000 in
set_option maxRecDepth 100000 in
theorem contact_CheckPasses.calls (k : Nat) (A0 : Option Addr) (c0 : Nat) (l0 : List S33) (r : Int) (w : World) (hr0 : Kd.C k33 w A0 l0.length l0) (hc0 : l0.length ≤ c0) (h : contact_CheckPasses.f k l0 = some r) :
 Calls Try.prog 18 #[.slice A0 l0.length c0] w fun e w' => e = .returned (.int .i64 r) ∧ Below w.heap.size w w' := by
 have hu33 := Try.underlying33
 have HR0 := Aside0.mk hr0
 have HC0 := Aside0.mk hc0
 clear hr0 hc0
 have HB := Aside0.mk (Below.refl w.heap.size w)
 have H : (if (l0.length : Int) > 100 then some 2 else contact_CheckPasses.l0 k l0 0) = some r := h
 clear h
 have hmm := @run_makeMap Try.prog
 by_cases c2 : (l0.length : Int) > 100
 · rw [if_pos c2] at H
   have c2b0 : decide (100 < (l0.length : Int)) = true := decide_eq_true c2
   have c2b1 : decide (100 < l0.length) = true := decide_eq_true (by omega)
   clear c2
   obtain rfl := Option.some.inj H
   go_enter Try.func18, Try.ntmps18
   go_wp2
   go_ret
   exact ⟨rfl, HB.out⟩
 · rw [if_neg c2] at H
   have c2b0 : decide (100 < (l0.length : Int)) = false := decide_eq_false c2
   have c2b1 : decide (100 < l0.length) = false := decide_eq_false (by omega)
   have H' := Aside0.mk H
   have HL := Aside0.mk c2
   clear H c2
   go_enter Try.func18, Try.ntmps18
   go_wp2
   go_loopg [13] k (fun kq v13 w' => ∃ (i : Int), v13 = .int .i64 i ∧ Aside0 (contact_CheckPasses.l0 kq l0 i = some r) ∧ Aside0 (kq ≤ k) ∧ Aside0 (0 ≤ i) ∧ Aside0 (StationsIn l0 w.heap.size i w') ∧ Aside0 (Below w.heap.size w w'))
   case atStart => exact ⟨0, rfl, H', ⟨Nat.le_refl _⟩, ⟨Int.le_refl _⟩, ⟨World.ownsMap_made _ _ _ _⟩, ⟨below_alloc HB.out _⟩⟩
   case round =>
    clear H' HB c2b0 c2b1
    obtain ⟨i, rfl, HA, HK1, HI, HM, HB⟩ := hrel
    cases gk with
    | zero => exact absurd HA.out (by simp [contact_CheckPasses.l0])
    | succ k1 =>
     have H := HA.out
     clear HA
     simp only [contact_CheckPasses.l0] at H
     by_cases c3 : i < (l0.length : Int)
     · rw [if_pos c3] at H
       replace H := Option.bind_eq_some_iff.mp H
       obtain ⟨t, ht, H⟩ := H
       have A5 := Aside0.mk ht
       have HH := Aside0.mk H
       clear ht H
       have hi0 : 0 ≤ i := HI.out
       obtain ⟨ad, A3, c3', e3, hx0, hx1, hx2, hx3, hl3, hi3⟩ := at_T33 HR0.out i hi0 c3
       cases e3
       replace hx0 := cellB HB.out hx0
       replace hx1 := cellB HB.out hx1
       replace hx2 := cellB HB.out hx2
       replace hx3 := cellB HB.out hx3
       have HR3 := Aside0.mk hi3
       have HC3 := Aside0.mk hl3
       have c3b0 : decide (i < (l0.length : Int)) = true := decide_eq_true c3
       clear hi3 hl3
       go_wp2_with fail
       refine (contact_checkPass.calls k1 _ _ _ _ _ _ t _ (Kd.C_alloc (Kd.C_below HR3.out HB.out) _) HC3.out A5.out).mono ?_
       rintro e w12 ⟨rfl, hb⟩
       have HM2 := Aside0.mk (World.ownsMap.kept (World.ownsMap.alloc HM.out _) (grown_of_below hb none) (by simp))
       have HB2 := Aside0.mk (below_step (below_alloc HB.out _) hb)
       have hbk := (hb.block wr.heap.size (by simp)).trans (heap_alloc_new wr _)
       have hb0 : w12.cell? ⟨wr.heap.size, 0, none⟩ = some (.string (rd_T33 l0 i).f0) := (blk_cell hbk 0).trans rfl
       have hb1 : w12.cell? ⟨wr.heap.size, 1, none⟩ = some (.int .i64 (rd_T33 l0 i).f1) := (blk_cell hbk 1).trans rfl
       clear hbk hb hx0 hx1 hx2 hx3 HB HM
       have H := HH.out
       clear HH
       by_cases ht : t = 0
       · rw [if_pos ht] at H
         have t0 : (t != 0) = false := bne_eq_false_iff_eq.mpr ht
         have HT := Aside0.mk ht
         clear ht
         by_cases hbad : 0 < i ∧ passAfter (rd_T33 l0 (i - 1)) (rd_T33 l0 i) = true
         · rw [if_pos hbad] at H
           obtain rfl := Option.some.inj H
           clear H
           obtain ⟨hpos, hbad⟩ := hbad
           obtain ⟨j, hj⟩ : ∃ j, i - 1 = j := ⟨_, rfl⟩
           rw [hj] at hbad
           have hjw : IntKind.i64.wrap (i - 1) = j := by rw [i64_w]; unfold wrap64; have := HL.out; omega
           have p1 : 0 ≤ j := by omega
           have p2 : j < (l0.length : Int) := by omega
           clear hj
           obtain ⟨ad2, A4, c4', e4, hy0, hy1, hy2, hy3, hl4, hi4⟩ := at_T33 HR0.out j p1 p2
           obtain rfl : ad = ad2 := by injection e4
           replace hy0 := (HB2.out.cell (World.block_lt_of_cell? w _ hy0)).trans hy0
           replace hy1 := (HB2.out.cell (World.block_lt_of_cell? w _ hy1)).trans hy1
           clear hy2 hy3 hl4 hi4 e4
           have hb2 : decide ((rd_T33 l0 i).f1 < (rd_T33 l0 j).f1) = true ∨ (decide ((rd_T33 l0 i).f1 < (rd_T33 l0 j).f1) = false ∧ ((rd_T33 l0 i).f1 == (rd_T33 l0 j).f1) = true ∧ Op.bytesLess (rd_T33 l0 j).f0.toList (rd_T33 l0 i).f0.toList = false) := by
            unfold passAfter at hbad
            rcases Bool.or_eq_true_iff.mp hbad with h | h
            · exact .inl h
            · obtain ⟨h1, h2⟩ := Bool.and_eq_true_iff.mp h
              have h1 := of_decide_eq_true h1
              exact .inr ⟨decide_eq_false (by omega), beq_iff_eq.mpr h1, by simpa using h2⟩
           have hposb : decide (0 < i) = true := decide_eq_true hpos
           replace p1 := eq_true p1
           replace p2 := eq_true p2
           clear hbad
           rcases hb2 with d1 | ⟨d1, d2, d3⟩
           all_goals
            go_wp2
            repeat (go_quiet (fail); try go_wp2)
            go_ret
            exact ⟨rfl, pw_below_drewN HB2.out _⟩
         · rw [if_neg hbad] at H
           have H' := Aside0.mk H
           clear H
           have hok : ¬ 0 < i ∨ (0 < i ∧ passAfter (rd_T33 l0 (i - 1)) (rd_T33 l0 i) = false) := by
            by_cases h : 0 < i
            · exact .inr ⟨h, by simpa [h] using hbad⟩
            · exact .inl h
           clear hbad
           have hkey : keyOf Try.prog 9 (.string (rd_T33 l0 i).f0) = some (.string (rd_T33 l0 i).f0.data.toList) := Go.WideMaps.keyOf_string_mk Try.underlying9 (by have := checkPass_short (HT.out ▸ A5.out); unfold maxLen; omega)
           have HK := Aside0.mk hkey
           clear hkey
           have hLx := HL.out
           rcases hok with hpos | ⟨hpos, hbad⟩
           · have hposb : decide (0 < i) = false := decide_eq_false hpos
             clear hpos
             go_wp2
             repeat (go_quiet (fail); try go_wp2_with (at_mapUpdate; refine wpList_mapUpdate_own _ rfl _ _ _ 83 rfl 9 4 lawStr Try.underlying83 _ w.heap.size i.toNat _ rfl HM2.out (by have := HL.out; unfold maxLen; omega) _ _ _ rfl rfl HK.out _ [] (plainElem_bool Try.underlying4 true) ?_; intro w13 hown1 hgrow1))
             go_roundg k1
             case measure => have := HK1.out; omega
             case rel => exact ⟨i + 1, by first | rfl | (simp; done), H', ⟨by have := HK1.out; omega⟩, ⟨by omega⟩, ⟨StationsIn.step hi0 c3 hown1⟩, ⟨pw_below_grown (pw_below_drewN HB2.out _) _ (pw_below_drewN HB2.out _).size hgrow1 (fun j hj => by cases hj; exact Nat.le_refl _)⟩⟩
           · obtain ⟨j, hj⟩ : ∃ j, i - 1 = j := ⟨_, rfl⟩
             rw [hj] at hbad
             have hjw : IntKind.i64.wrap (i - 1) = j := by rw [i64_w]; unfold wrap64; omega
             have p1 : 0 ≤ j := by omega
             have p2 : j < (l0.length : Int) := by omega
             clear hj
             obtain ⟨ad2, A4, c4', e4, hy0, hy1, hy2, hy3, hl4, hi4⟩ := at_T33 HR0.out j p1 p2
             obtain rfl : ad = ad2 := by injection e4
             replace hy0 := (HB2.out.cell (World.block_lt_of_cell? w _ hy0)).trans hy0
             replace hy1 := (HB2.out.cell (World.block_lt_of_cell? w _ hy1)).trans hy1
             clear hy2 hy3 hl4 hi4 e4
             have hb2 : (decide ((rd_T33 l0 i).f1 < (rd_T33 l0 j).f1) = false ∧ ((rd_T33 l0 i).f1 == (rd_T33 l0 j).f1) = false) ∨ (decide ((rd_T33 l0 i).f1 < (rd_T33 l0 j).f1) = false ∧ ((rd_T33 l0 i).f1 == (rd_T33 l0 j).f1) = true ∧ Op.bytesLess (rd_T33 l0 j).f0.toList (rd_T33 l0 i).f0.toList = true) := by
              unfold passAfter at hbad
              obtain ⟨h1, h2⟩ := Bool.or_eq_false_iff.mp hbad
              by_cases h : (rd_T33 l0 i).f1 = (rd_T33 l0 j).f1
              · exact .inr ⟨h1, beq_iff_eq.mpr h, by simpa [h] using h2⟩
              · exact .inl ⟨h1, beq_eq_false_iff_ne.mpr h⟩
             have hposb : decide (0 < i) = true := decide_eq_true hpos
             replace p1 := eq_true p1
             replace p2 := eq_true p2
             clear hbad
             rcases hb2 with ⟨d1, d2⟩ | ⟨d1, d2, d3⟩
             all_goals
              go_wp2
              repeat (go_quiet (fail); try go_wp2_with (at_mapUpdate; refine wpList_mapUpdate_own _ rfl _ _ _ 83 rfl 9 4 lawStr Try.underlying83 _ w.heap.size i.toNat _ rfl HM2.out (by have := HL.out; unfold maxLen; omega) _ _ _ rfl rfl HK.out _ [] (plainElem_bool Try.underlying4 true) ?_; intro w13 hown1 hgrow1))
              go_roundg k1
              case measure => have := HK1.out; omega
              case rel => exact ⟨i + 1, by first | rfl | (simp; done), H', ⟨by have := HK1.out; omega⟩, ⟨by omega⟩, ⟨StationsIn.step hi0 c3 hown1⟩, ⟨pw_below_grown (pw_below_drewN HB2.out _) _ (pw_below_drewN HB2.out _).size hgrow1 (fun j hj => by cases hj; exact Nat.le_refl _)⟩⟩
       · rw [if_neg ht] at H
         obtain rfl := Option.some.inj H
         have t0 : (t != 0) = true := bne_iff_ne.mpr ht
         go_wp2
         go_ret
         exact ⟨rfl, HB2.out⟩
     · rw [if_neg c3] at H
       have c3b0 : decide (i < (l0.length : Int)) = false := decide_eq_false c3
       have hsz : Maps.size (H := Unit) (Maps.setOf (.lit (.bool true)) ((l0.take i.toNat).map keyB)) = stationsB l0 := by
        rw [Maps.size_setOf _ _ (fun x hx => by obtain ⟨p, _, rfl⟩ := List.mem_map.1 hx; exact trivial), List.take_of_length_le (by have := HI.out; omega)]
        rfl
       have hlen := World.ownsMap.len HM.out Try.underlying83 3
       rw [hsz] at hlen
       clear hsz
       by_cases c4 : stationsB l0 > 50
       · rw [if_pos c4] at H
         obtain rfl := Option.some.inj H
         have d1 : decide ((50 : Int) < (stationsB l0 : Int)) = true := decide_eq_true (by omega)
         go_wp2
         go_ret
         exact ⟨rfl, HB.out⟩
       · rw [if_neg c4] at H
         obtain rfl := Option.some.inj H
         have d1 : decide ((50 : Int) < (stationsB l0 : Int)) = false := decide_eq_false (by omega)
         go_wp2
         go_ret
         exact ⟨rfl, HB.out⟩
def kit_First.l0 : Nat → List Int → Int → Int → Option (Int)
  | 0, _, _, _ => none
  | k + 1, x5, x6, x7 => if x7 < x6 then (if 0 ≤ x7 then (if x7 < (x5.length : Int) then (if (rd x5 x7) = 0 then (kit_First.l0 k x5 x6 (wrap64 (x7 + 1))) else (some (rd x5 x7))) else (none)) else (none)) else (some 0)
def kit_First.f (k : Nat) (l0 : List Int) : Option (Int) := kit_First.l0 k l0 (l0.length : Int) 0
theorem d38a {p : Prop} (h : p := by repeat (first | exact Drawn0.refl _ | apply Drawn0.step)) : p := h
theorem d38b {p : Prop} (h : p := by first | (with_reducible assumption) | assumption) : p := h
theorem d38c {p : Prop} (h : p := by first | rfl | (simp; done) | (simp [*]; done)) : p := h
set_option maxHeartbeats 8000000 in
set_option maxRecDepth 100000 in
theorem kit_First.calls (k : Nat) (A0 : Option Addr) (c0 : Nat) (l0 : List Int) (r : Int) (w : World) (hr0 : Kd.C (Kd.int .i64) w A0 l0.length l0) (hc0 : l0.length ≤ c0) (h : kit_First.f k l0 = some r) :
 Calls Try.prog 38 #[.slice A0 l0.length c0] w fun e w' => e = .returned (.int .i64 r) ∧ Drawn0 w w' := by
 have HR0 := Aside0.mk hr0
 have HC0 := Aside0.mk hc0
 clear hr0 hc0
 have H : (kit_First.l0 k l0 (l0.length : Int) 0) = some r := h
 clear h
 have H' := Aside0.mk H
 clear H
 go_enter Try.func38, Try.ntmps38
 go_wp2
 go_loopg [7] k (fun kq v7 w' => ∃ (x7_1 : Int), v7 = .int .i64 x7_1 ∧ Aside0 (kit_First.l0 kq l0 (l0.length : Int) x7_1 = some r) ∧ Aside0 (kq ≤ k) ∧ Drawn0 w w')
 case atStart => exact ⟨(0), d38c, H', ⟨Nat.le_refl _⟩, d38a⟩
 case round =>
  clear H'
  obtain ⟨x7_1, rfl, HA, HK1, ⟨m1, rfl⟩⟩ := hrel
  cases gk with
  | zero => exact absurd HA.out (by simp [kit_First.l0])
  | succ k1 =>
   have H := HA.out
   clear HA
   simp only [kit_First.l0] at H
   by_cases c2 : x7_1 < (l0.length : Int)
   · rw [if_pos c2] at H
     have c2b0 : decide (x7_1 < (l0.length : Int)) = true := decide_eq_true c2
     clear c2
     replace H := guardT H; obtain ⟨c3, H⟩ := H
     have c3b0 : decide (0 ≤ x7_1) = true := decide_eq_true c3
     clear c3
     replace H := guardT H; obtain ⟨c4, H⟩ := H
     have c4b0 : decide (x7_1 < (l0.length : Int)) = true := decide_eq_true c4
     clear c4
     by_cases c5 : (rd l0 x7_1) = 0
     · rw [if_pos c5] at H
       have c5b0 : ((rd l0 x7_1) == 0) = true := beq_iff_eq.mpr c5
       have c5b1 : ((rd l0 x7_1) != 0) = false := bne_eq_false_iff_eq.mpr c5
       clear c5
       have H' := Aside0.mk H
       clear H
       have p101 : 0 ≤ (x7_1 : Int) := of_decide_eq_true d38b
       have q101 : x7_1 < (l0.length : Int) := of_decide_eq_true d38b
       obtain ⟨ad101, e101, hx101_0⟩ := Kd.at_int HR0.out x7_1 p101 q101
       cases e101
       replace p101 := eq_true p101
       replace q101 := eq_true q101
       go_wp2
       go_roundg k1
       case measure => have := HK1.out; omega
       case rel => exact ⟨(wrap64 (x7_1 + 1)), d38c, H', ⟨by have := HK1.out; omega⟩, d38a⟩
     · rw [if_neg c5] at H
       have c5b0 : ((rd l0 x7_1) == 0) = false := beq_eq_false_iff_ne.mpr c5
       have c5b1 : ((rd l0 x7_1) != 0) = true := bne_iff_ne.mpr c5
       obtain rfl := Option.some.inj H
       have p101 : 0 ≤ (x7_1 : Int) := of_decide_eq_true d38b
       have q101 : x7_1 < (l0.length : Int) := of_decide_eq_true d38b
       obtain ⟨ad101, e101, hx101_0⟩ := Kd.at_int HR0.out x7_1 p101 q101
       cases e101
       replace p101 := eq_true p101
       replace q101 := eq_true q101
       go_wp2
       go_ret
       exact ⟨d38c, d38a⟩
   · rw [if_neg c2] at H
     have c2b0 : decide (x7_1 < (l0.length : Int)) = false := decide_eq_false c2
     clear c2
     obtain rfl := Option.some.inj H
     go_wp2
     go_ret
     exact ⟨d38c, d38a⟩
end Go.Proofs.Ytbngmblgkkdhpaa.Q
