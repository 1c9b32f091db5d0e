-- Made by wip/tools/claimp.py of this session's texts; Lean checks it.
import Derived.Test.YtplcdpiggpkppaaDoorC2Q0
namespace Go.Proofs.YtplcdpiggpkppaaDoor.Q
open Go.RowKit Go.Proofs.YtplcdpiggpkppaaDoorW.PrintWords Go.Proofs.YtplcdpiggpkppaaDoorW.PrintLast Go.Proofs.YtplcdpiggpkppaaDoorW.PrintMore
attribute [local go_sem] max2_int min2_int max_two min_two max_three min_three max_four min_four
open Go.Proofs.YtplcdpiggpkppaaDoor.Base
attribute [local go_sem high] str_leq str_gtr str_geq
set_option linter.unusedVariables false
set_option linter.unusedSimpArgs false
def strings_Split.f (a0 a1 : ByteArray) : Option (List ByteArray) := if a0.size < 4294967281 ∧ 1 ≤ a1.size then some (Lib.splitB a1 0 (Lib.countB a0 a1) a0) else none
theorem strings_Split.calls (a0 a1 : ByteArray) (r : List ByteArray) (w : World) (hV : VarsOK w) (h : strings_Split.f a0 a1 = some r) :
 Calls Tryd.prog 21 #[.string a0, .string a1] w fun e w' => ∃ v0_ : Value, e = .returned (v0_) ∧ Kd.R Kd.string 9 w' w.heap.size (fun _ => True) v0_ r ∧ Below w.heap.size w w' := by
 unfold strings_Split.f at h
 obtain ⟨⟨hs, h1⟩, h⟩ := guardT h
 obtain rfl := Option.some.inj h
 have hl := Lib.splitB_all a1 h1 0 _ a0 rfl
 have hc := Lib.countB_le a1 h1 _ a0 (Nat.le_refl _)
 refine (split_vars a0 a1 w hV hs h1).mono ?_
 rintro e w' ⟨rfl, rfl⟩
 refine ⟨_, rfl, Kd.R_of_own ⟨?_, .inr ⟨_, _, _, ?_, Nat.le_refl _, heap_alloc_new w _, Nat.le_refl _, ?_, ?_, ?_⟩⟩ (fun _ _ => trivial), below_alloc (Below.refl _ _) _⟩
 · rw [Nat.mul_one]; simp [encs]
 · rw [hl]
 · have : maxLen = 9223372036854775807 := rfl
   omega
 · rw [List.size_toArray, List.length_map, Nat.mul_one]
 · rw [Nat.mul_one, List.toList_toArray]
   exact List.take_of_length_le (by rw [List.length_map]; exact Nat.le_refl _)
def power_isWord.l0 : Nat → ByteArray → Int → Int → Option (Bool)
  | 0, _, _, _ => none
  | k + 1, x0, x5, x6 => if x6 < x5 then (if 0 ≤ x6 then (if x6 < (x0.size : Int) then (if (bt x0 x6) < 33 then (some false) else (if (bt x0 x6) > 126 then (some false) else (power_isWord.l0 k x0 x5 (wrap64 (x6 + 1))))) else (none)) else (none)) else (some (x0.toList != ([] : List UInt8)))
def power_isWord.f (k : Nat) (a0 : ByteArray) : Option (Bool) := power_isWord.l0 k a0 (a0.size : Int) 0
theorem d22a {p : Prop} (h : p := by first | rfl | (simp; done) | (simp [*]; done) | (simp; cases a0.toList <;> rfl)) : p := h
theorem d22b {p : Prop} (h : p := by repeat (first | exact Drawn0.refl _ | apply Drawn0.step)) : p := h
theorem d22c {p : Prop} (h : p := by first | (with_reducible assumption) | assumption) : p := h
set_option maxHeartbeats 8000000 in
set_option maxRecDepth 100000 in
theorem power_isWord.calls (k : Nat) (a0 : ByteArray) (r : Bool) (w : World) (h : power_isWord.f k a0 = some r) :
 Calls Tryd.prog 22 #[.string a0] w fun e w' => e = .returned (.bool r) ∧ Drawn0 w w' := by
 have H : (power_isWord.l0 k a0 (a0.size : Int) 0) = some r := h
 clear h
 have H' := Aside0.mk H
 clear H
 go_enter Tryd.func22, Tryd.ntmps22
 go_wp2
 go_loopg [6] k (fun kq v6 w' => ∃ (x6_1 : Int), v6 = .int .i64 x6_1 ∧ Aside0 (power_isWord.l0 kq a0 (a0.size : Int) x6_1 = some r) ∧ Aside0 (kq ≤ k) ∧ Drawn0 w w')
 case atStart => exact ⟨(0), (by first | rfl | (simp; done) | (simp [*]; done)), H', ⟨Nat.le_refl _⟩, d22b⟩
 case round =>
  clear H'
  obtain ⟨x6_1, rfl, HA, HK1, ⟨m1, rfl⟩⟩ := hrel
  cases gk with
  | zero => exact absurd HA.out (by simp [power_isWord.l0])
  | succ k1 =>
   have H := HA.out
   clear HA
   simp only [power_isWord.l0] at H
   by_cases c2 : x6_1 < (a0.size : Int)
   · rw [if_pos c2] at H
     have c2b0 : decide (x6_1 < (a0.size : Int)) = true := decide_eq_true c2
     clear c2
     replace H := guardT H; obtain ⟨c3, H⟩ := H
     have c3b0 : decide (0 ≤ x6_1) = true := decide_eq_true c3
     clear c3
     replace H := guardT H; obtain ⟨c4, H⟩ := H
     have c4b0 : decide (x6_1 < (a0.size : Int)) = true := decide_eq_true c4
     clear c4
     by_cases c6 : (bt a0 x6_1) < 33
     · rw [if_pos c6] at H
       have c6b0 : decide ((bt a0 x6_1) < 33) = true := decide_eq_true c6
       clear c6
       obtain rfl := Option.some.inj H
       have p5 : 0 ≤ (x6_1 : Int) := of_decide_eq_true d22c
       have q5 : x6_1 < (a0.size : Int) := of_decide_eq_true d22c
       have hx5 := bt_at a0 x6_1
       replace p5 := eq_true p5
       replace q5 := eq_true q5
       go_wp2
       go_ret
       exact ⟨d22a, d22b⟩
     · rw [if_neg c6] at H
       have c6b0 : decide ((bt a0 x6_1) < 33) = false := decide_eq_false c6
       clear c6
       by_cases c8 : (bt a0 x6_1) > 126
       · rw [if_pos c8] at H
         have c8b0 : decide (126 < (bt a0 x6_1)) = true := decide_eq_true c8
         clear c8
         obtain rfl := Option.some.inj H
         have p5 : 0 ≤ (x6_1 : Int) := of_decide_eq_true d22c
         have q5 : x6_1 < (a0.size : Int) := of_decide_eq_true d22c
         have hx5 := bt_at a0 x6_1
         replace p5 := eq_true p5
         replace q5 := eq_true q5
         have p7 : 0 ≤ (x6_1 : Int) := of_decide_eq_true d22c
         have q7 : x6_1 < (a0.size : Int) := of_decide_eq_true d22c
         have hx7 := bt_at a0 x6_1
         replace p7 := eq_true p7
         replace q7 := eq_true q7
         go_wp2
         go_ret
         exact ⟨d22a, d22b⟩
       · rw [if_neg c8] at H
         have c8b0 : decide (126 < (bt a0 x6_1)) = false := decide_eq_false c8
         clear c8
         have H' := Aside0.mk H
         clear H
         have p5 : 0 ≤ (x6_1 : Int) := of_decide_eq_true d22c
         have q5 : x6_1 < (a0.size : Int) := of_decide_eq_true d22c
         have hx5 := bt_at a0 x6_1
         replace p5 := eq_true p5
         replace q5 := eq_true q5
         have p7 : 0 ≤ (x6_1 : Int) := of_decide_eq_true d22c
         have q7 : x6_1 < (a0.size : Int) := of_decide_eq_true d22c
         have hx7 := bt_at a0 x6_1
         replace p7 := eq_true p7
         replace q7 := eq_true q7
         go_wp2
         go_roundg k1
         case measure => have := HK1.out; omega
         case rel => exact ⟨(wrap64 (x6_1 + 1)), (by first | rfl | (simp; done) | (simp [*]; done)), H', ⟨by have := HK1.out; omega⟩, d22b⟩
   · rw [if_neg c2] at H
     have c2b0 : decide (x6_1 < (a0.size : Int)) = false := decide_eq_false c2
     clear c2
     obtain rfl := Option.some.inj H
     go_wp2
     go_ret
     exact ⟨d22a, d22b⟩
mutual
def kit_Digits.j0 : Nat → ByteArray → Bool → Option (Int × Bool)
  | 0, _, _ => none
  | k + 1, x0, x25 => if x25 = true then (some (0, false)) else (kit_Digits.l0 k x0 0 (x0.size : Int) 0)
def kit_Digits.l0 : Nat → ByteArray → Int → Int → Int → Option (Int × Bool)
  | 0, _, _, _, _ => none
  | k + 1, x0, x6, x27, x28 => if x28 < x27 then (if 0 ≤ x28 then (if x28 < (x0.size : Int) then (if (bt x0 x28) < 48 then (some (0, false)) else (if (bt x0 x28) > 57 then (some (0, false)) else (kit_Digits.l0 k x0 (wrap64 ((wrap64 (x6 * 10)) + (((bt x0 x28) - 48) % 256))) x27 (wrap64 (x28 + 1))))) else (none)) else (none)) else (some (x6, true))
end
def kit_Digits.f (k : Nat) (a0 : ByteArray) (a1 : Int) : Option (Int × Bool) := if a0.toList = ([] : List UInt8) then (kit_Digits.j0 k a0 true) else (if (a0.size : Int) > a1 then (kit_Digits.j0 k a0 true) else (if 0 < (a0.size : Int) then (if (bt a0 0) = 48 then (kit_Digits.j0 k a0 (decide ((a0.size : Int) > 1))) else (kit_Digits.j0 k a0 false)) else (none)))
theorem d23a {p : Prop} (h : p := by repeat (first | exact Drawn0.refl _ | apply Drawn0.step)) : p := h
theorem d23b {p : Prop} (h : p := by first | (with_reducible assumption) | assumption) : p := h
theorem d23c {p : Prop} (h : p := by first | rfl | (simp; done) | (simp [*]; done)) : p := h
set_option maxHeartbeats 8000000 in
set_option maxRecDepth 100000 in
theorem kit_Digits.calls (k : Nat) (a0 : ByteArray) (a1 : Int) (r1 : Int) (r2 : Bool) (w : World) (h : kit_Digits.f k a0 a1 = some (r1, r2)) :
 Calls Tryd.prog 23 #[.string a0, .int .i64 a1] w fun e w' => e = .returned (.tuple #[.int .i64 r1, .bool r2]) ∧ Drawn0 w w' := by
 have H : (if a0.toList = ([] : List UInt8) then (kit_Digits.j0 k a0 true) else (if (a0.size : Int) > a1 then (kit_Digits.j0 k a0 true) else (if 0 < (a0.size : Int) then (if (bt a0 0) = 48 then (kit_Digits.j0 k a0 (decide ((a0.size : Int) > 1))) else (kit_Digits.j0 k a0 false)) else (none)))) = some (r1, r2) := h
 clear h
 have HC3 := Aside0.mk H
 clear H
 go_enter Tryd.func23, Tryd.ntmps23
 go_upto_region 1 with (fail)
 go_cut [25] (fun v25 wc => ∃ (kq : Nat) (x25_2 : Bool), v25 = .bool x25_2 ∧ Aside0 (kit_Digits.j0 kq a0 x25_2 = some (r1, r2)) ∧ Aside0 (kq ≤ k) ∧ Drawn0 w wc)
 case first =>
  have H := HC3.out
  clear HC3
  by_cases c4 : a0.toList = ([] : List UInt8)
  · rw [if_pos c4] at H
    have c4b0 : (a0.toList == ([] : List UInt8)) = true := beq_iff_eq.mpr c4
    have c4b1 : (a0.toList != ([] : List UInt8)) = false := bne_eq_false_iff_eq.mpr c4
    clear c4
    (first | rw [c4b0] | (simp only [i64_w, i32_w]; rw [c4b0]) | skip)
    have H' := Aside0.mk H
    clear H
    go_wp2
    go_meet
    case rel => exact ⟨_, (true), d23c, H', ⟨by first | omega | exact Nat.le_refl _⟩, d23a⟩
  · rw [if_neg c4] at H
    have c4b0 : (a0.toList == ([] : List UInt8)) = false := beq_eq_false_iff_ne.mpr c4
    have c4b1 : (a0.toList != ([] : List UInt8)) = true := bne_iff_ne.mpr c4
    (first | rw [c4b0] | (simp only [i64_w, i32_w]; rw [c4b0]) | skip)
    by_cases c5 : (a0.size : Int) > a1
    · rw [if_pos c5] at H
      have c5b0 : decide (a1 < (a0.size : Int)) = true := decide_eq_true c5
      clear c5
      have H' := Aside0.mk H
      clear H
      go_wp2
      go_meet
      case rel => exact ⟨_, (true), d23c, H', ⟨by first | omega | exact Nat.le_refl _⟩, d23a⟩
    · rw [if_neg c5] at H
      have c5b0 : decide (a1 < (a0.size : Int)) = false := decide_eq_false c5
      clear c5
      replace H := guardT H; obtain ⟨c6, H⟩ := H
      have c6b0 : decide (0 < (a0.size : Int)) = true := decide_eq_true c6
      have c6b1 : decide (0 < a0.size) = true := decide_eq_true (by omega)
      clear c6
      by_cases c8 : (bt a0 0) = 48
      · rw [if_pos c8] at H
        have c8b0 : ((bt a0 0) == 48) = true := beq_iff_eq.mpr c8
        have c8b1 : ((bt a0 0) != 48) = false := bne_eq_false_iff_eq.mpr c8
        clear c8
        have H' := Aside0.mk H
        clear H
        have p7 : 0 ≤ (0 : Int) := (by omega)
        have q7 : 0 < a0.size := (by have : (0 : Int) < (a0.size : Int) := of_decide_eq_true d23b; omega)
        have hx7 : ∀ h : 0 < a0.size, ((a0[0]'h).toNat : Int) = bt a0 0 := bt_at a0 0
        clear p7
        have qi7 : (0 < (a0.size : Int)) = True := eq_true (of_decide_eq_true d23b)
        replace q7 := eq_true q7
        go_wp2
        go_meet
        case rel => exact ⟨_, (decide ((a0.size : Int) > 1)), d23c, H', ⟨by first | omega | exact Nat.le_refl _⟩, d23a⟩
      · rw [if_neg c8] at H
        have c8b0 : ((bt a0 0) == 48) = false := beq_eq_false_iff_ne.mpr c8
        have c8b1 : ((bt a0 0) != 48) = true := bne_iff_ne.mpr c8
        have H' := Aside0.mk H
        clear H
        have p7 : 0 ≤ (0 : Int) := (by omega)
        have q7 : 0 < a0.size := (by have : (0 : Int) < (a0.size : Int) := of_decide_eq_true d23b; omega)
        have hx7 : ∀ h : 0 < a0.size, ((a0[0]'h).toNat : Int) = bt a0 0 := bt_at a0 0
        clear p7
        have qi7 : (0 < (a0.size : Int)) = True := eq_true (of_decide_eq_true d23b)
        replace q7 := eq_true q7
        go_wp2
        go_meet
        case rel => exact ⟨_, (false), d23c, H', ⟨by first | omega | exact Nat.le_refl _⟩, d23a⟩
 case rest =>
  clear HC3
  obtain ⟨kq, x25_2, rfl, HA, HJ2, ⟨mc2, rfl⟩⟩ := hcut
  cases kq with
  | zero => exact absurd HA.out (by simp [kit_Digits.j0])
  | succ kj2 =>
   have H := HA.out
   clear HA
   simp only [kit_Digits.j0] at H
   by_cases c9 : x25_2 = true
   · subst c9
     replace H := iteT H
     simp only [Option.some.injEq, Prod.mk.injEq] at H
     obtain ⟨rfl, rfl⟩ := H
     go_wp2
     go_ret2
     exact ⟨d23c, d23a⟩
   · replace c9 := Bool.eq_false_iff.mpr c9
     subst c9
     replace H := iteF H
     have H' := Aside0.mk H
     clear H
     go_wp2
     go_loopg [6, 28] kj2 (fun kq v6 v28 w' => ∃ (x6_2 : Int) (x28_2 : Int), v6 = .int .i64 x6_2 ∧ v28 = .int .i64 x28_2 ∧ Aside0 (kit_Digits.l0 kq a0 x6_2 (a0.size : Int) x28_2 = some (r1, r2)) ∧ Aside0 (kq ≤ kj2) ∧ Drawn0 w w')
     case atStart => exact ⟨(0), (0), d23c, d23c, H', ⟨Nat.le_refl _⟩, d23a⟩
     case round =>
      clear H'
      obtain ⟨x6_2, x28_2, rfl, rfl, HA, HK2, ⟨m2, rfl⟩⟩ := hrel
      cases gk with
      | zero => exact absurd HA.out (by simp [kit_Digits.l0])
      | succ k2 =>
       have H := HA.out
       clear HA
       simp only [kit_Digits.l0] at H
       by_cases c10 : x28_2 < (a0.size : Int)
       · rw [if_pos c10] at H
         have c10b0 : decide (x28_2 < (a0.size : Int)) = true := decide_eq_true c10
         clear c10
         replace H := guardT H; obtain ⟨c11, H⟩ := H
         have c11b0 : decide (0 ≤ x28_2) = true := decide_eq_true c11
         clear c11
         replace H := guardT H; obtain ⟨c12, H⟩ := H
         have c12b0 : decide (x28_2 < (a0.size : Int)) = true := decide_eq_true c12
         clear c12
         by_cases c14 : (bt a0 x28_2) < 48
         · rw [if_pos c14] at H
           have c14b0 : decide ((bt a0 x28_2) < 48) = true := decide_eq_true c14
           clear c14
           simp only [Option.some.injEq, Prod.mk.injEq] at H
           obtain ⟨rfl, rfl⟩ := H
           have p13 : 0 ≤ (x28_2 : Int) := of_decide_eq_true d23b
           have q13 : x28_2 < (a0.size : Int) := of_decide_eq_true d23b
           have hx13 := bt_at a0 x28_2
           replace p13 := eq_true p13
           replace q13 := eq_true q13
           go_wp2
           go_ret2
           exact ⟨d23c, d23a⟩
         · rw [if_neg c14] at H
           have c14b0 : decide ((bt a0 x28_2) < 48) = false := decide_eq_false c14
           clear c14
           by_cases c16 : (bt a0 x28_2) > 57
           · rw [if_pos c16] at H
             have c16b0 : decide (57 < (bt a0 x28_2)) = true := decide_eq_true c16
             clear c16
             simp only [Option.some.injEq, Prod.mk.injEq] at H
             obtain ⟨rfl, rfl⟩ := H
             have p13 : 0 ≤ (x28_2 : Int) := of_decide_eq_true d23b
             have q13 : x28_2 < (a0.size : Int) := of_decide_eq_true d23b
             have hx13 := bt_at a0 x28_2
             replace p13 := eq_true p13
             replace q13 := eq_true q13
             have p15 : 0 ≤ (x28_2 : Int) := of_decide_eq_true d23b
             have q15 : x28_2 < (a0.size : Int) := of_decide_eq_true d23b
             have hx15 := bt_at a0 x28_2
             replace p15 := eq_true p15
             replace q15 := eq_true q15
             go_wp2
             go_ret2
             exact ⟨d23c, d23a⟩
           · rw [if_neg c16] at H
             have c16b0 : decide (57 < (bt a0 x28_2)) = false := decide_eq_false c16
             clear c16
             have H' := Aside0.mk H
             clear H
             have p13 : 0 ≤ (x28_2 : Int) := of_decide_eq_true d23b
             have q13 : x28_2 < (a0.size : Int) := of_decide_eq_true d23b
             have hx13 := bt_at a0 x28_2
             replace p13 := eq_true p13
             replace q13 := eq_true q13
             have p15 : 0 ≤ (x28_2 : Int) := of_decide_eq_true d23b
             have q15 : x28_2 < (a0.size : Int) := of_decide_eq_true d23b
             have hx15 := bt_at a0 x28_2
             replace p15 := eq_true p15
             replace q15 := eq_true q15
             have p17 : 0 ≤ (x28_2 : Int) := of_decide_eq_true d23b
             have q17 : x28_2 < (a0.size : Int) := of_decide_eq_true d23b
             have hx17 := bt_at a0 x28_2
             replace p17 := eq_true p17
             replace q17 := eq_true q17
             go_wp2
             go_roundg k2
             case measure => have := HJ2.out; have := HK2.out; omega
             case rel => exact ⟨(wrap64 ((wrap64 (x6_2 * 10)) + (((bt a0 x28_2) - 48) % 256))), (wrap64 (x28_2 + 1)), d23c, d23c, H', ⟨by have := HJ2.out; have := HK2.out; omega⟩, d23a⟩
       · rw [if_neg c10] at H
         have c10b0 : decide (x28_2 < (a0.size : Int)) = false := decide_eq_false c10
         clear c10
         simp only [Option.some.injEq, Prod.mk.injEq] at H
         obtain ⟨rfl, rfl⟩ := H
         go_wp2
         go_ret2
         exact ⟨d23c, d23a⟩
def strings_IndexByte.f (a0 : ByteArray) (a1 : Int) : Option Int := some (Lib.indexByte a0.data.toList a1.toNat.toUInt8)
theorem strings_IndexByte.calls (a0 : ByteArray) (a1 : Int) (r : Int) (w : World) (h : strings_IndexByte.f a0 a1 = some r) :
 Calls Tryd.prog 40 #[.string a0, .int .u8 a1] w fun e w' => e = .returned (.int .i64 r) ∧ Drawn0 w w' := by
 obtain rfl := Option.some.inj h
 refine (Tryd.strings_IndexByte a0 a1 w).mono ?_
 rintro e w' ⟨rfl, rfl⟩
 exact ⟨rfl, Drawn0.refl _⟩
end Go.Proofs.YtplcdpiggpkppaaDoor.Q
