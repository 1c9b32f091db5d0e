-- Made by wip/tools/claimp.py of this session's texts; Lean checks it.
import Derived.Test.YtplcdpiggpkppaaDoorC1Q0
import Derived.Test.YtplcdpiggpkppaaDoorC1Gd4
import Derived.Test.YtplcdpiggpkppaaDoorC1Gd7
namespace Go.Proofs.YtplcdpiggpkppaaDoor.Q
open Go.RowKit Go.Proofs.YtplcdpiggpkppaaDoorW.PrintWords Go.Proofs.YtplcdpiggpkppaaDoorW.PrintLast Go.Proofs.YtplcdpiggpkppaaDoorW.PrintMore
attribute [local go_sem] max2_int min2_int max_two min_two max_three min_three max_four min_four
open Go.Proofs.YtplcdpiggpkppaaDoor.Base
attribute [local go_sem high] str_leq str_gtr str_geq
set_option linter.unusedVariables false
set_option linter.unusedSimpArgs false
def strings_Cut.f (a0 a1 : ByteArray) : Option (ByteArray × ByteArray × Bool) := if a0.size < 4294967281 then some (⟨(Lib.cut a0.data.toList a1.data.toList).1.toArray⟩, ⟨(Lib.cut a0.data.toList a1.data.toList).2.1.toArray⟩, (Lib.cut a0.data.toList a1.data.toList).2.2) else none
theorem strings_Cut.calls (a0 a1 : ByteArray) (r1 r2 : ByteArray) (r3 : Bool) (w : World) (hV : VarsOK w) (h : strings_Cut.f a0 a1 = some (r1, r2, r3)) :
 Calls Tryd.prog 24 #[.string a0, .string a1] w fun e w' => e = .returned (.tuple #[.string r1, .string r2, .bool r3]) ∧ Drawn0 w w' := by
 unfold strings_Cut.f at h
 obtain ⟨hs, h⟩ := guardT h
 have e := Option.some.inj h
 injection e with e1 e2
 injection e2 with e2 e3
 subst e1 e2 e3
 refine (cut_vars a0 a1 w hV hs).mono ?_
 rintro e w' ⟨rfl, n, rfl⟩
 exact ⟨rfl, ⟨n, rfl⟩⟩
def perigeeref9_isRow.l0 : Nat → ByteArray → Int → Int → Option (Bool)
  | 0, _, _, _ => none
  | k + 1, x0, x5, x6 => if x6 < x5 then (if 0 ≤ x6 then (if x6 < (x0.size : Int) then (if (bt x0 x6) < 33 then (some false) else (if (bt x0 x6) > 126 then (some false) else (perigeeref9_isRow.l0 k x0 x5 (wrap64 (x6 + 1))))) else (none)) else (none)) else (some (x0.toList != ([] : List UInt8)))
def perigeeref9_isRow.f (k : Nat) (a0 : ByteArray) : Option (Bool) := perigeeref9_isRow.l0 k a0 (a0.size : Int) 0
theorem d25a {p : Prop} (h : p := by first | rfl | (simp; done) | (simp [*]; done) | (simp; cases a0.toList <;> rfl)) : p := h
theorem d25b {p : Prop} (h : p := by repeat (first | exact Drawn0.refl _ | apply Drawn0.step)) : p := h
theorem d25c {p : Prop} (h : p := by first | (with_reducible assumption) | assumption) : p := h
set_option maxHeartbeats 8000000 in
set_option maxRecDepth 100000 in
theorem perigeeref9_isRow.calls (k : Nat) (a0 : ByteArray) (r : Bool) (w : World) (h : perigeeref9_isRow.f k a0 = some r) :
 Calls Tryd.prog 25 #[.string a0] w fun e w' => e = .returned (.bool r) ∧ Drawn0 w w' := by
 have H : (perigeeref9_isRow.l0 k a0 (a0.size : Int) 0) = some r := h
 clear h
 have H' := Aside0.mk H
 clear H
 go_enter Tryd.func25, Tryd.ntmps25
 go_wp2
 go_loopg [6] k (fun kq v6 w' => ∃ (x6_1 : Int), v6 = .int .i64 x6_1 ∧ Aside0 (perigeeref9_isRow.l0 kq a0 (a0.size : Int) x6_1 = some r) ∧ Aside0 (kq ≤ k) ∧ Drawn0 w w')
 case atStart => exact ⟨(0), (by first | rfl | (simp; done) | (simp [*]; done)), H', ⟨Nat.le_refl _⟩, d25b⟩
 case round =>
  clear H'
  obtain ⟨x6_1, rfl, HA, HK1, ⟨m1, rfl⟩⟩ := hrel
  cases gk with
  | zero => exact absurd HA.out (by simp [perigeeref9_isRow.l0])
  | succ k1 =>
   have H := HA.out
   clear HA
   simp only [perigeeref9_isRow.l0] at H
   by_cases c2 : x6_1 < (a0.size : Int)
   · rw [if_pos c2] at H
     have c2b0 : decide (x6_1 < (a0.size : Int)) = true := decide_eq_true c2
     clear c2
     replace H := guardT H; obtain ⟨c3, H⟩ := H
     have c3b0 : decide (0 ≤ x6_1) = true := decide_eq_true c3
     clear c3
     replace H := guardT H; obtain ⟨c4, H⟩ := H
     have c4b0 : decide (x6_1 < (a0.size : Int)) = true := decide_eq_true c4
     clear c4
     by_cases c6 : (bt a0 x6_1) < 33
     · rw [if_pos c6] at H
       have c6b0 : decide ((bt a0 x6_1) < 33) = true := decide_eq_true c6
       clear c6
       obtain rfl := Option.some.inj H
       have p5 : 0 ≤ (x6_1 : Int) := of_decide_eq_true d25c
       have q5 : x6_1 < (a0.size : Int) := of_decide_eq_true d25c
       have hx5 := bt_at a0 x6_1
       replace p5 := eq_true p5
       replace q5 := eq_true q5
       go_wp2
       go_ret
       exact ⟨d25a, d25b⟩
     · rw [if_neg c6] at H
       have c6b0 : decide ((bt a0 x6_1) < 33) = false := decide_eq_false c6
       clear c6
       by_cases c8 : (bt a0 x6_1) > 126
       · rw [if_pos c8] at H
         have c8b0 : decide (126 < (bt a0 x6_1)) = true := decide_eq_true c8
         clear c8
         obtain rfl := Option.some.inj H
         have p5 : 0 ≤ (x6_1 : Int) := of_decide_eq_true d25c
         have q5 : x6_1 < (a0.size : Int) := of_decide_eq_true d25c
         have hx5 := bt_at a0 x6_1
         replace p5 := eq_true p5
         replace q5 := eq_true q5
         have p7 : 0 ≤ (x6_1 : Int) := of_decide_eq_true d25c
         have q7 : x6_1 < (a0.size : Int) := of_decide_eq_true d25c
         have hx7 := bt_at a0 x6_1
         replace p7 := eq_true p7
         replace q7 := eq_true q7
         go_wp2
         go_ret
         exact ⟨d25a, d25b⟩
       · rw [if_neg c8] at H
         have c8b0 : decide (126 < (bt a0 x6_1)) = false := decide_eq_false c8
         clear c8
         have H' := Aside0.mk H
         clear H
         have p5 : 0 ≤ (x6_1 : Int) := of_decide_eq_true d25c
         have q5 : x6_1 < (a0.size : Int) := of_decide_eq_true d25c
         have hx5 := bt_at a0 x6_1
         replace p5 := eq_true p5
         replace q5 := eq_true q5
         have p7 : 0 ≤ (x6_1 : Int) := of_decide_eq_true d25c
         have q7 : x6_1 < (a0.size : Int) := of_decide_eq_true d25c
         have hx7 := bt_at a0 x6_1
         replace p7 := eq_true p7
         replace q7 := eq_true q7
         go_wp2
         go_roundg k1
         case measure => have := HK1.out; omega
         case rel => exact ⟨(wrap64 (x6_1 + 1)), (by first | rfl | (simp; done) | (simp [*]; done)), H', ⟨by have := HK1.out; omega⟩, d25b⟩
   · rw [if_neg c2] at H
     have c2b0 : decide (x6_1 < (a0.size : Int)) = false := decide_eq_false c2
     clear c2
     obtain rfl := Option.some.inj H
     go_wp2
     go_ret
     exact ⟨d25a, d25b⟩
def asciiB (l : List UInt8) : Bool := l.all fun b => decide (b.toNat < 128)
def strings_Trim.f (a0 a1 : ByteArray) : Option ByteArray := if a0.size ≤ 9223372036854775807 ∧ a1.size < 4294967281 ∧ asciiB a1.data.toList = true then some ⟨(Lib.trimS a0.data.toList a1.data.toList).toArray⟩ else none
theorem strings_Trim.calls (a0 a1 : ByteArray) (r : ByteArray) (w : World) (h : strings_Trim.f a0 a1 = some r) :
 Calls Tryd.prog 43 #[.string a0, .string a1] w fun e w' => e = .returned (.string r) ∧ Below w.heap.size w w' := by
 unfold strings_Trim.f at h
 obtain ⟨⟨hs, hc, ha⟩, h⟩ := guardT h
 obtain rfl := Option.some.inj h
 exact Tryd.strings_Trim_laid a0 a1 w hs hc (ascii_of_all ha)
def strconv_Atoi.f (a0 : ByteArray) : Option (Int × Option Int) := if a0.size ≤ 18 then (Lib.atoi a0.data.toList).map fun n => (n, none) else none
theorem strconv_Atoi.calls (a0 : ByteArray) (r1 : Int) (r2 : Option Int) (w : World) (h : strconv_Atoi.f a0 = some (r1, r2)) :
 Calls Tryd.prog 44 #[.string a0] w fun e w' => e = .returned (.tuple #[.int .i64 r1, errW r2]) ∧ Below w.heap.size w w' := by
 unfold strconv_Atoi.f at h
 obtain ⟨hs, h⟩ := guardT h
 obtain ⟨n, hn, h⟩ := Option.map_eq_some_iff.1 h
 injection h with e1 e2
 subst e1 e2
 refine (Tryd.strconv_Atoi a0 n hs hn w).mono ?_
 rintro e w' ⟨rfl, t, rfl⟩
 exact ⟨rfl, ⟨rfl, rfl, rfl, by rw [Lib.bytesWorld_size]; omega, fun j hj => Lib.bytesWorld_at_old w 5 t j hj⟩⟩
def perigeeref9_number.f (a0 : ByteArray) : Option (Int × Bool) := if a0.toList = ([] : List UInt8) then (some (0, false)) else (if (a0.size : Int) > 13 then (some (0, false)) else (if (a0.size : Int) > 1 then (if 0 < (a0.size : Int) then (if (bt a0 0) = 48 then (some (0, false)) else ((strings_Trim.f a0 (⟨#[48, 49, 50, 51, 52, 53, 54, 55, 56, 57]⟩ : ByteArray)).bind fun t101 => (if t101.toList = ([] : List UInt8) then ((strconv_Atoi.f a0).bind fun bt102 => (some (bt102.1, true))) else (some (0, false))))) else (none)) else ((strings_Trim.f a0 (⟨#[48, 49, 50, 51, 52, 53, 54, 55, 56, 57]⟩ : ByteArray)).bind fun t104 => (if t104.toList = ([] : List UInt8) then ((strconv_Atoi.f a0).bind fun bt105 => (some (bt105.1, true))) else (some (0, false))))))
theorem d26a {p : Prop} (h : p := by repeat (first | (with_reducible first | exact HB.out | apply below_alloc | apply pw_below_drewN | apply below_drew1) | exact HB.out)) : p := h
theorem d26b {p : Prop} (h : p := by first | rfl | (simp [errW_none, errW_some] <;> rfl) | (simp [*, errW_none, errW_some] <;> rfl)) : p := h
theorem d26c {p : Prop} (h : p := by first | (with_reducible assumption) | assumption) : p := h
set_option maxHeartbeats 8000000 in
set_option maxRecDepth 100000 in
theorem perigeeref9_number.calls (a0 : ByteArray) (r1 : Int) (r2 : Bool) (w : World) (h : perigeeref9_number.f a0 = some (r1, r2)) :
 Calls Tryd.prog 26 #[.string a0] w fun e w' => e = .returned (.tuple #[.int .i64 r1, .bool r2]) ∧ Below w.heap.size w w' := by
 have HB := Aside0.mk (Below.refl w.heap.size w)
 have H : (if a0.toList = ([] : List UInt8) then (some (0, false)) else (if (a0.size : Int) > 13 then (some (0, false)) else (if (a0.size : Int) > 1 then (if 0 < (a0.size : Int) then (if (bt a0 0) = 48 then (some (0, false)) else ((strings_Trim.f a0 (⟨#[48, 49, 50, 51, 52, 53, 54, 55, 56, 57]⟩ : ByteArray)).bind fun t101 => (if t101.toList = ([] : List UInt8) then ((strconv_Atoi.f a0).bind fun bt102 => (some (bt102.1, true))) else (some (0, false))))) else (none)) else ((strings_Trim.f a0 (⟨#[48, 49, 50, 51, 52, 53, 54, 55, 56, 57]⟩ : ByteArray)).bind fun t104 => (if t104.toList = ([] : List UInt8) then ((strconv_Atoi.f a0).bind fun bt105 => (some (bt105.1, true))) else (some (0, false))))))) = some (r1, r2) := h
 clear h
 by_cases c2 : a0.toList = ([] : List UInt8)
 · rw [if_pos c2] at H
   have c2b0 : (a0.toList == ([] : List UInt8)) = true := beq_iff_eq.mpr c2
   have c2b1 : (a0.toList != ([] : List UInt8)) = false := bne_eq_false_iff_eq.mpr c2
   clear c2
   simp only [Option.some.injEq, Prod.mk.injEq] at H
   obtain ⟨rfl, rfl⟩ := H
   go_enter Tryd.func26, Tryd.ntmps26
   go_wp2
   go_ret2
   exact ⟨d26b, d26a⟩
 · rw [if_neg c2] at H
   have c2b0 : (a0.toList == ([] : List UInt8)) = false := beq_eq_false_iff_ne.mpr c2
   have c2b1 : (a0.toList != ([] : List UInt8)) = true := bne_iff_ne.mpr c2
   by_cases c3 : (a0.size : Int) > 13
   · rw [if_pos c3] at H
     have c3b0 : decide (13 < (a0.size : Int)) = true := decide_eq_true c3
     have c3b1 : decide (13 < a0.size) = true := decide_eq_true (by omega)
     clear c3
     simp only [Option.some.injEq, Prod.mk.injEq] at H
     obtain ⟨rfl, rfl⟩ := H
     go_enter Tryd.func26, Tryd.ntmps26
     go_wp2
     go_ret2
     exact ⟨d26b, d26a⟩
   · rw [if_neg c3] at H
     have c3b0 : decide (13 < (a0.size : Int)) = false := decide_eq_false c3
     have c3b1 : decide (13 < a0.size) = false := decide_eq_false (by omega)
     clear c3
     by_cases c4 : (a0.size : Int) > 1
     · rw [if_pos c4] at H
       have c4b0 : decide (1 < (a0.size : Int)) = true := decide_eq_true c4
       have c4b1 : decide (1 < a0.size) = true := decide_eq_true (by omega)
       clear c4
       replace H := guardT H; obtain ⟨c5, H⟩ := H
       have c5b0 : decide (0 < (a0.size : Int)) = true := decide_eq_true c5
       have c5b1 : decide (0 < a0.size) = true := decide_eq_true (by omega)
       clear c5
       by_cases c7 : (bt a0 0) = 48
       · rw [if_pos c7] at H
         have c7b0 : ((bt a0 0) == 48) = true := beq_iff_eq.mpr c7
         have c7b1 : ((bt a0 0) != 48) = false := bne_eq_false_iff_eq.mpr c7
         clear c7
         simp only [Option.some.injEq, Prod.mk.injEq] at H
         obtain ⟨rfl, rfl⟩ := H
         have p6 : 0 ≤ (0 : Int) := (by omega)
         have q6 : 0 < a0.size := (by have : (0 : Int) < (a0.size : Int) := of_decide_eq_true d26c; omega)
         have hx6 : ∀ h : 0 < a0.size, ((a0[0]'h).toNat : Int) = bt a0 0 := bt_at a0 0
         clear p6
         have qi6 : (0 < (a0.size : Int)) = True := eq_true (of_decide_eq_true d26c)
         replace q6 := eq_true q6
         go_enter Tryd.func26, Tryd.ntmps26
         go_wp2
         go_ret2
         exact ⟨d26b, d26a⟩
       · rw [if_neg c7] at H
         have c7b0 : ((bt a0 0) == 48) = false := beq_eq_false_iff_ne.mpr c7
         have c7b1 : ((bt a0 0) != 48) = true := bne_iff_ne.mpr c7
         replace H := bindS H; obtain ⟨t101, A8, H⟩ := H
         by_cases c9 : t101.toList = ([] : List UInt8)
         · rw [if_pos c9] at H
           have c9b0 : (t101.toList == ([] : List UInt8)) = true := beq_iff_eq.mpr c9
           have c9b1 : (t101.toList != ([] : List UInt8)) = false := bne_eq_false_iff_eq.mpr c9
           clear c9
           replace H := bindS H; obtain ⟨⟨t102, t103⟩, A10, H⟩ := H
           simp only [Option.some.injEq, Prod.mk.injEq] at H
           obtain ⟨rfl, rfl⟩ := H
           have p6 : 0 ≤ (0 : Int) := (by omega)
           have q6 : 0 < a0.size := (by have : (0 : Int) < (a0.size : Int) := of_decide_eq_true d26c; omega)
           have hx6 : ∀ h : 0 < a0.size, ((a0[0]'h).toNat : Int) = bt a0 0 := bt_at a0 0
           clear p6
           have qi6 : (0 < (a0.size : Int)) = True := eq_true (of_decide_eq_true d26c)
           replace q6 := eq_true q6
           go_enter Tryd.func26, Tryd.ntmps26
           go_wp2_with (first | (go_at_call 43; (with_reducible refine (strings_Trim.calls a0 (⟨#[48, 49, 50, 51, 52, 53, 54, 55, 56, 57]⟩ : ByteArray) t101 _ A8.out).mono ?_); rintro e w11 ⟨rfl, hb⟩; replace HB := Aside0.mk (below_step d26a hb); (try clear hb)) | ((with_reducible refine gate_callee (f := 44) rfl ?_); refine goesL_ (some 30) rfl rfl Tryd.func44 (by kernel_rfl) rfl #[.string a0] rfl (by (try simp only [List.map_toArray, List.map_cons, List.map_nil]); first | done | rfl | (simp only [List.length_drop, List.length_take]; rfl)) ?_; (with_reducible refine (strconv_Atoi.calls a0 t102 t103 _ A10.out).mono ?_); rintro e w12 ⟨rfl, hb⟩; refine ⟨_, rfl, ?_⟩; replace HB := Aside0.mk (below_step d26a hb); (try clear hb); (try simp only [errW_none, errW_some])))
           go_ret2
           exact ⟨d26b, d26a⟩
         · rw [if_neg c9] at H
           have c9b0 : (t101.toList == ([] : List UInt8)) = false := beq_eq_false_iff_ne.mpr c9
           have c9b1 : (t101.toList != ([] : List UInt8)) = true := bne_iff_ne.mpr c9
           simp only [Option.some.injEq, Prod.mk.injEq] at H
           obtain ⟨rfl, rfl⟩ := H
           have p6 : 0 ≤ (0 : Int) := (by omega)
           have q6 : 0 < a0.size := (by have : (0 : Int) < (a0.size : Int) := of_decide_eq_true d26c; omega)
           have hx6 : ∀ h : 0 < a0.size, ((a0[0]'h).toNat : Int) = bt a0 0 := bt_at a0 0
           clear p6
           have qi6 : (0 < (a0.size : Int)) = True := eq_true (of_decide_eq_true d26c)
           replace q6 := eq_true q6
           go_enter Tryd.func26, Tryd.ntmps26
           go_wp2_with (go_at_call 43; (with_reducible refine (strings_Trim.calls a0 (⟨#[48, 49, 50, 51, 52, 53, 54, 55, 56, 57]⟩ : ByteArray) t101 _ A8.out).mono ?_); rintro e w13 ⟨rfl, hb⟩; replace HB := Aside0.mk (below_step d26a hb); (try clear hb))
           go_ret2
           exact ⟨d26b, d26a⟩
     · rw [if_neg c4] at H
       have c4b0 : decide (1 < (a0.size : Int)) = false := decide_eq_false c4
       have c4b1 : decide (1 < a0.size) = false := decide_eq_false (by omega)
       clear c4
       replace H := bindS H; obtain ⟨t104, A14, H⟩ := H
       by_cases c15 : t104.toList = ([] : List UInt8)
       · rw [if_pos c15] at H
         have c15b0 : (t104.toList == ([] : List UInt8)) = true := beq_iff_eq.mpr c15
         have c15b1 : (t104.toList != ([] : List UInt8)) = false := bne_eq_false_iff_eq.mpr c15
         clear c15
         replace H := bindS H; obtain ⟨⟨t105, t106⟩, A16, H⟩ := H
         simp only [Option.some.injEq, Prod.mk.injEq] at H
         obtain ⟨rfl, rfl⟩ := H
         go_enter Tryd.func26, Tryd.ntmps26
         go_wp2_with (first | (go_at_call 43; (with_reducible refine (strings_Trim.calls a0 (⟨#[48, 49, 50, 51, 52, 53, 54, 55, 56, 57]⟩ : ByteArray) t104 _ A14.out).mono ?_); rintro e w17 ⟨rfl, hb⟩; replace HB := Aside0.mk (below_step d26a hb); (try clear hb)) | ((with_reducible refine gate_callee (f := 44) rfl ?_); refine goesL_ (some 30) rfl rfl Tryd.func44 (by kernel_rfl) rfl #[.string a0] rfl (by (try simp only [List.map_toArray, List.map_cons, List.map_nil]); first | done | rfl | (simp only [List.length_drop, List.length_take]; rfl)) ?_; (with_reducible refine (strconv_Atoi.calls a0 t105 t106 _ A16.out).mono ?_); rintro e w18 ⟨rfl, hb⟩; refine ⟨_, rfl, ?_⟩; replace HB := Aside0.mk (below_step d26a hb); (try clear hb); (try simp only [errW_none, errW_some])))
         go_ret2
         exact ⟨d26b, d26a⟩
       · rw [if_neg c15] at H
         have c15b0 : (t104.toList == ([] : List UInt8)) = false := beq_eq_false_iff_ne.mpr c15
         have c15b1 : (t104.toList != ([] : List UInt8)) = true := bne_iff_ne.mpr c15
         simp only [Option.some.injEq, Prod.mk.injEq] at H
         obtain ⟨rfl, rfl⟩ := H
         go_enter Tryd.func26, Tryd.ntmps26
         go_wp2_with (go_at_call 43; (with_reducible refine (strings_Trim.calls a0 (⟨#[48, 49, 50, 51, 52, 53, 54, 55, 56, 57]⟩ : ByteArray) t104 _ A14.out).mono ?_); rintro e w19 ⟨rfl, hb⟩; replace HB := Aside0.mk (below_step d26a hb); (try clear hb))
         go_ret2
         exact ⟨d26b, d26a⟩
mutual
def perigeeref9_Read.l0 : Nat → ByteArray → List (S32) → List (S35) → Int → Option ((List (S32)) × (List (S35)) × Int × Int)
  | 0, _, _, _, _ => none
  | k + 1, x0, x6, x7, x8 => if x0.toList = ([] : List UInt8) then ((perigeeref9_CheckUses.f k x6 x7).bind fun t101 => (if t101 = 0 then (some (x6, x7, 0, 0)) else (some (([] : List (S32)), ([] : List (S35)), 0, t101)))) else ((strings_Cut.f x0 (⟨#[10]⟩ : ByteArray)).bind fun bt102 => ((strings_Split.f bt102.1 (⟨#[32]⟩ : ByteArray)).bind fun t105 => (if bt102.2.2 = true then (if (t105.length : Int) = 4 then (if 1 < (t105.length : Int) then ((perigeeref9_isRow.f k (rdOf ByteArray.empty t105 1)).bind fun t109 => (perigeeref9_Read.j1 k x6 x7 x8 bt102.2.1 t105 (!t109))) else (none)) else (perigeeref9_Read.j1 k x6 x7 x8 bt102.2.1 t105 true)) else (perigeeref9_Read.j1 k x6 x7 x8 bt102.2.1 t105 true))))
def perigeeref9_Read.j1 : Nat → List (S32) → List (S35) → Int → ByteArray → List ByteArray → Bool → Option ((List (S32)) × (List (S35)) × Int × Int)
  | 0, _, _, _, _, _, _ => none
  | k + 1, x6, x7, x8, x10, x12, x46 => if x46 = true then (some (([] : List (S32)), ([] : List (S35)), x8, 10)) else (if 2 < (x12.length : Int) then ((perigeeref9_number.f (rdOf ByteArray.empty x12 2)).bind fun bt111 => (if 3 < (x12.length : Int) then ((perigeeref9_number.f (rdOf ByteArray.empty x12 3)).bind fun bt114 => (if bt111.2 = true then (perigeeref9_Read.j2 k x6 x7 x8 x10 x12 bt111.1 bt114.1 (!bt114.2)) else (perigeeref9_Read.j2 k x6 x7 x8 x10 x12 bt111.1 bt114.1 true))) else (none))) else (none))
def perigeeref9_Read.j2 : Nat → List (S32) → List (S35) → Int → ByteArray → List ByteArray → Int → Int → Bool → Option ((List (S32)) × (List (S35)) × Int × Int)
  | 0, _, _, _, _, _, _, _, _ => none
  | k + 1, x6, x7, x8, x10, x12, x13, x15, x63 => if x63 = true then (some (([] : List (S32)), ([] : List (S35)), x8, 10)) else (if 0 < (x12.length : Int) then (if (rdOf ByteArray.empty x12 0).toList = ([108, 111, 97, 100] : List UInt8) then (perigeeref9_Read.j3 k x6 x7 x8 x10 x12 x13 x15 ((x7.length : Int) == 0)) else (perigeeref9_Read.j3 k x6 x7 x8 x10 x12 x13 x15 false)) else (none))
def perigeeref9_Read.j3 : Nat → List (S32) → List (S35) → Int → ByteArray → List ByteArray → Int → Int → Bool → Option ((List (S32)) × (List (S35)) × Int × Int)
  | 0, _, _, _, _, _, _, _, _ => none
  | k + 1, x6, x7, x8, x10, x12, x13, x15, x71 => if x71 = true then (if 1 < (x12.length : Int) then (if x6.length < 4398046511104 then (perigeeref9_Read.l0 k x10 (x6 ++ [(⟨rdOf ByteArray.empty x12 1, x13, x15⟩ : S32)]) x7 (wrap64 (x8 + 1))) else (none)) else (none)) else (if 0 < (x12.length : Int) then (if (rdOf ByteArray.empty x12 0).toList = ([117, 115, 101] : List UInt8) then (if 1 < (x12.length : Int) then (if x7.length < 4398046511104 then (perigeeref9_Read.l0 k x10 x6 (x7 ++ [(⟨rdOf ByteArray.empty x12 1, x13, x15⟩ : S35)]) (wrap64 (x8 + 1))) else (none)) else (none)) else (some (([] : List (S32)), ([] : List (S35)), x8, 10))) else (none))
end
def perigeeref9_Read.f (k : Nat) (a0 : ByteArray) : Option ((List (S32)) × (List (S35)) × Int × Int) := if (a0.size : Int) > 50000 then (some (([] : List (S32)), ([] : List (S35)), 0, 2)) else (perigeeref9_Read.l0 k a0 ([] : List (S32)) ([] : List (S35)) 1)
theorem d11a {p : Prop} (h : p := by first | exact Kd.R_nil _ _ _ _ _ | exact Kd.N_nil _ _ _ _ _ | exact Kd.V_nil _ _ _ _ _ | exact Kd.Q_nil _ _ _ _ _ | exact Kd.S_nil _ _ _ _ _) : p := h
theorem d11b {p : Prop} (h : p := by (try simp only [List.map_toArray, List.map_cons, List.map_nil]); first | done | rfl | (simp only [List.length_drop, List.length_take]; rfl)) : p := h
theorem d11c {p : Prop} (h : p := by repeat (first | (with_reducible first | exact HB.out | apply below_alloc | apply pw_below_drewN | apply below_drew1) | exact HB.out)) : p := h
theorem d11d {p : Prop} (h : p := by (with_reducible repeat (first | apply Kd.R_alloc | apply Kd.R_drewN | apply Kd.R_drew)); exact HO_12.out) : p := h
theorem d11e {p : Prop} (h : p := by (with_reducible repeat (first | apply Kd.R_alloc | apply Kd.R_drewN | apply Kd.R_drew)); exact HO107.out) : p := h
theorem d11f {p : Prop} (h : p := by (with_reducible repeat (first | apply Kd.R_alloc | apply Kd.R_drewN | apply Kd.R_drew)); exact HO_6.out) : p := h
theorem d11g {p : Prop} (h : p := by (with_reducible repeat (first | apply Kd.R_alloc | apply Kd.R_drewN | apply Kd.R_drew)); exact HO_7.out) : p := h
theorem d11h {p : Prop} (h : p := by first | rfl | (simp [errW_none, errW_some] <;> rfl) | (simp [*, errW_none, errW_some] <;> rfl)) : p := h
theorem d11i {p : Prop} (h : p := by first | (with_reducible assumption) | assumption) : p := h
theorem d11j {p : Prop} (h : p := by first | rfl | (simp; done) | (simp [*]; done)) : p := h
set_option maxHeartbeats 8000000 in
set_option maxRecDepth 100000 in
theorem perigeeref9_Read.calls (k : Nat) (a0 : ByteArray) (r1 : List (S32)) (r2 : List (S35)) (r3 : Int) (r4 : Int) (w : World) (hV : VarsOK w) (h : perigeeref9_Read.f k a0 = some (r1, r2, r3, r4)) :
 Calls Tryd.prog 11 #[.string a0] w fun e w' => ∃ v0_ v1_ : Value, e = .returned (.tuple #[v0_, v1_, .int .i64 r3, .int .i64 r4]) ∧ Kd.R k32 32 w' w.heap.size (fun _ => True) v0_ r1 ∧ Kd.R k35 35 w' w.heap.size (fun _ => True) v1_ r2 ∧ Below w.heap.size w w' := by
 have HV := Aside0.mk hV
 clear hV
 have hu32 := Tryd.underlying32
 have hu35 := Tryd.underlying35
 have HB := Aside0.mk (Below.refl w.heap.size w)
 have H : (if (a0.size : Int) > 50000 then (some (([] : List (S32)), ([] : List (S35)), 0, 2)) else (perigeeref9_Read.l0 k a0 ([] : List (S32)) ([] : List (S35)) 1)) = some (r1, r2, r3, r4) := h
 clear h
 by_cases c2 : (a0.size : Int) > 50000
 · rw [if_pos c2] at H
   have c2b0 : decide (50000 < (a0.size : Int)) = true := decide_eq_true c2
   have c2b1 : decide (50000 < a0.size) = true := decide_eq_true (by omega)
   clear c2
   simp only [Option.some.injEq, Prod.mk.injEq] at H
   obtain ⟨rfl, rfl, rfl, rfl⟩ := H
   go_enter Tryd.func11, Tryd.ntmps11
   go_wp2
   refine bodyPost_ret (results_list (rs := [.tmp 2, .tmp 3, .tmp 4, .tmp 5]) rfl (by simp) (.tmp (.tmp (.tmp (.tmp .nil))))) rfl ?_
   exact ⟨_, _, d11h, d11a, d11a, d11c⟩
 · rw [if_neg c2] at H
   have c2b0 : decide (50000 < (a0.size : Int)) = false := decide_eq_false c2
   have c2b1 : decide (50000 < a0.size) = false := decide_eq_false (by omega)
   clear c2
   have H' := Aside0.mk H
   clear H
   go_enter Tryd.func11, Tryd.ntmps11
   go_wp2
   go_loopg [0, 6, 7, 8] k (fun kq v0 v6 v7 v8 w' => ∃ (x0_1 : ByteArray) (x6_1 : List (S32)) (x7_1 : List (S35)) (x8_1 : Int), v0 = .string x0_1 ∧ v8 = .int .i64 x8_1 ∧ Aside0 (perigeeref9_Read.l0 kq x0_1 x6_1 x7_1 x8_1 = some (r1, r2, r3, r4)) ∧ Aside0 (kq ≤ k) ∧ Aside0 (Kd.R k32 32 w' w.heap.size (fun _ => True) v6 x6_1) ∧ Aside0 (Kd.R k35 35 w' w.heap.size (fun _ => True) v7 x7_1) ∧ Aside0 (Below w.heap.size w w'))
   case atStart => exact ⟨(a0), (([] : List (S32))), (([] : List (S35))), (1), d11j, d11j, H', ⟨Nat.le_refl _⟩, ⟨d11a⟩, ⟨d11a⟩, ⟨d11c⟩⟩
   case round =>
    clear H'
    try clear c2b0
    try clear c2b1
    obtain ⟨x0_1, x6_1, x7_1, x8_1, rfl, rfl, HA, HK1, HO_6, HO_7, HB⟩ := hrel
    cases gk with
    | zero => exact absurd HA.out (by simp [perigeeref9_Read.l0])
    | succ k1 =>
     have H := HA.out
     clear HA
     simp only [perigeeref9_Read.l0] at H
     by_cases c3 : x0_1.toList = ([] : List UInt8)
     · rw [if_pos c3] at H
       have c3b0 : (x0_1.toList == ([] : List UInt8)) = true := beq_iff_eq.mpr c3
       have c3b1 : (x0_1.toList != ([] : List UInt8)) = false := bne_eq_false_iff_eq.mpr c3
       clear c3
       replace H := bindS H; obtain ⟨t101, A4, H⟩ := H
       by_cases c5 : t101 = 0
       · rw [if_pos c5] at H
         have c5b0 : (t101 == 0) = true := beq_iff_eq.mpr c5
         have c5b1 : (t101 != 0) = false := bne_eq_false_iff_eq.mpr c5
         clear c5
         simp only [Option.some.injEq, Prod.mk.injEq] at H
         obtain ⟨rfl, rfl, rfl, rfl⟩ := H
         obtain ⟨Ao6, co6, eo6⟩ := Kd.R_slice HO_6.out
         subst eo6
         obtain ⟨Ao7, co7, eo7⟩ := Kd.R_slice HO_7.out
         subst eo7
         go_wp2_with ((with_reducible refine gate_callee (f := 17) rfl ?_); refine goesL_ (some 107) rfl rfl Tryd.func17 (by kernel_rfl) rfl #[.slice Ao6 x6_1.length co6, .slice Ao7 x7_1.length co7] rfl d11b ?_; (with_reducible refine (perigeeref9_CheckUses.calls k1 _ _ x6_1 _ _ x7_1 t101 _ ?side1 ?side2 ?side3 ?side4 A4.out).mono ?_); (case side1 => exact C_go (Kd.R_reads' HO_6.out).2.2); (case side2 => exact (Kd.R_reads' HO_6.out).2.1); (case side3 => exact C_go (Kd.R_reads' HO_7.out).2.2); (case side4 => exact (Kd.R_reads' HO_7.out).2.1); rintro e w8 ⟨rfl, hb⟩; refine ⟨_, rfl, ?_⟩; have n0_ := Aside0.mk (Kd.R_below d11f hb); have n1_ := Aside0.mk (Kd.R_below d11g hb); have n2_ := Aside0.mk (below_step d11c hb); clear HO_6; clear HO_7; clear HB; have HO_6 := n0_; have HO_7 := n1_; have HB := n2_; clear n0_ n1_ n2_; (try clear hb))
         refine bodyPost_ret (results_list (rs := [.tmp 2, .tmp 3, .tmp 4, .tmp 5]) rfl (by simp) (.tmp (.tmp (.tmp (.tmp .nil))))) rfl ?_
         exact ⟨_, _, d11h, d11f, d11g, d11c⟩
       · rw [if_neg c5] at H
         have c5b0 : (t101 == 0) = false := beq_eq_false_iff_ne.mpr c5
         have c5b1 : (t101 != 0) = true := bne_iff_ne.mpr c5
         simp only [Option.some.injEq, Prod.mk.injEq] at H
         obtain ⟨rfl, rfl, rfl, rfl⟩ := H
         obtain ⟨Ao9, co9, eo9⟩ := Kd.R_slice HO_6.out
         subst eo9
         obtain ⟨Ao10, co10, eo10⟩ := Kd.R_slice HO_7.out
         subst eo10
         go_wp2_with ((with_reducible refine gate_callee (f := 17) rfl ?_); refine goesL_ (some 107) rfl rfl Tryd.func17 (by kernel_rfl) rfl #[.slice Ao9 x6_1.length co9, .slice Ao10 x7_1.length co10] rfl d11b ?_; (with_reducible refine (perigeeref9_CheckUses.calls k1 _ _ x6_1 _ _ x7_1 t101 _ ?side1 ?side2 ?side3 ?side4 A4.out).mono ?_); (case side1 => exact C_go (Kd.R_reads' HO_6.out).2.2); (case side2 => exact (Kd.R_reads' HO_6.out).2.1); (case side3 => exact C_go (Kd.R_reads' HO_7.out).2.2); (case side4 => exact (Kd.R_reads' HO_7.out).2.1); rintro e w11 ⟨rfl, hb⟩; refine ⟨_, rfl, ?_⟩; have n0_ := Aside0.mk (Kd.R_below d11f hb); have n1_ := Aside0.mk (Kd.R_below d11g hb); have n2_ := Aside0.mk (below_step d11c hb); clear HO_6; clear HO_7; clear HB; have HO_6 := n0_; have HO_7 := n1_; have HB := n2_; clear n0_ n1_ n2_; (try clear hb))
         refine bodyPost_ret (results_list (rs := [.tmp 2, .tmp 3, .tmp 4, .tmp 5]) rfl (by simp) (.tmp (.tmp (.tmp (.tmp .nil))))) rfl ?_
         exact ⟨_, _, d11h, d11a, d11a, d11c⟩
     · rw [if_neg c3] at H
       have c3b0 : (x0_1.toList == ([] : List UInt8)) = false := beq_eq_false_iff_ne.mpr c3
       have c3b1 : (x0_1.toList != ([] : List UInt8)) = true := bne_iff_ne.mpr c3
       replace H := bindS H; obtain ⟨⟨t102, t103, t104⟩, A12, H⟩ := H
       replace H := bindS H; obtain ⟨t105, A13, H⟩ := H
       have HC14 := Aside0.mk H
       clear H
       go_upto_region 10 with (first | ((with_reducible refine gate_callee (f := 24) rfl ?_); refine goesL_ (some 27) rfl rfl Tryd.func24 (by kernel_rfl) rfl #[.string x0_1, .string (⟨#[10]⟩ : ByteArray)] rfl d11b ?_; (with_reducible refine (strings_Cut.calls x0_1 (⟨#[10]⟩ : ByteArray) t102 t103 t104 _ (HV.out.below d11c) A12.out).mono ?_); rintro e w' ⟨rfl, ⟨nd, rfl⟩⟩; refine ⟨_, rfl, ?_⟩) | ((with_reducible refine gate_callee (f := 21) rfl ?_); refine goesL_ (some 32) rfl rfl Tryd.func21 (by kernel_rfl) rfl #[.string t102, .string (⟨#[32]⟩ : ByteArray)] rfl d11b ?_; (with_reducible refine (strings_Split.calls t102 (⟨#[32]⟩ : ByteArray) t105 _ (HV.out.below d11c) A13.out).mono ?_); rintro e w15 ⟨v106, rfl, ho0, hb⟩; refine ⟨_, rfl, ?_⟩; have n0_ := Aside0.mk (Kd.R_below d11f hb); have n1_ := Aside0.mk (Kd.R_below d11g hb); have n2_ := Aside0.mk (Kd.R_lower ho0 (below_size d11c)); have n3_ := Aside0.mk (below_step d11c hb); clear HO_6; clear HO_7; clear HB; have HO_6 := n0_; have HO_7 := n1_; have HO107 := n2_; have HB := n3_; clear n0_ n1_ n2_ n3_; (try clear hb); (try clear ho0)))
       (try simp only [Act.put, List.setIfInBounds_toArray, List.set_cons_zero, List.set_cons_succ])
       go_cut [46] (fun v46 wc => ∃ (kq : Nat) (x46_13 : Bool), v46 = .bool x46_13 ∧ Aside0 (perigeeref9_Read.j1 kq x6_1 x7_1 x8_1 t103 t105 x46_13 = some (r1, r2, r3, r4)) ∧ Aside0 (kq ≤ k1) ∧ Aside0 (Kd.R k32 32 wc w.heap.size (fun _ => True) u6 x6_1) ∧ Aside0 (Kd.R k35 35 wc w.heap.size (fun _ => True) u7 x7_1) ∧ Aside0 (Kd.R Kd.string 9 wc w.heap.size (fun _ => True) v106 t105) ∧ Aside0 (Below w.heap.size w wc))
       case first =>
        have H := HC14.out
        clear HC14
        by_cases c16 : t104 = true
        · subst c16
          replace H := iteT H
          by_cases c17 : (t105.length : Int) = 4
          · rw [if_pos c17] at H
            have c17b0 : ((t105.length : Int) == 4) = true := beq_iff_eq.mpr c17
            have c17b1 : ((t105.length : Int) != 4) = false := bne_eq_false_iff_eq.mpr c17
            clear c17
            (first | rw [c17b0] | (simp only [i64_w, i32_w]; rw [c17b0]) | skip)
            replace H := guardT H; obtain ⟨c18, H⟩ := H
            have c18b0 : decide (1 < (t105.length : Int)) = true := decide_eq_true c18
            have c18b1 : decide (1 < t105.length) = true := decide_eq_true (by omega)
            clear c18
            replace H := bindS H; obtain ⟨t109, A19, H⟩ := H
            have H' := Aside0.mk H
            clear H
            obtain ⟨Ao20, co20, eo20⟩ := Kd.R_slice HO107.out
            subst eo20
            have p108 : 0 ≤ (1 : Int) := (by omega)
            have q108 : 1 < (t105.length : Int) := of_decide_eq_true d11i
            obtain ⟨ad108, e108, hx108_0⟩ := Kd.at_string (Kd.R_reads' HO107.out).2.2 1 p108 q108
            cases e108
            (try simp only [show (1 : Int).toNat = 1 from rfl, Nat.reduceMul, Nat.reduceEqDiff, Go.Addr.add, ↓reduceIte] at hx108_0)
            have qi108 : (1 < t105.length) = True := eq_true (by omega)
            (try rw [show ((1 : Int)).toNat = 1 from rfl] at hx108_0)
            replace p108 := eq_true p108
            replace q108 := eq_true q108
            go_wp2_with (go_at_call 25; (with_reducible refine (perigeeref9_isRow.calls k1 (rdOf ByteArray.empty t105 1) t109 _ A19.out).mono ?_); rintro e w' ⟨rfl, ⟨nd, rfl⟩⟩)
            go_meet
            case rel => exact ⟨_, (!t109), d11j, H', ⟨by have := HK1.out; first | omega | exact Nat.le_refl _⟩, ⟨d11f⟩, ⟨d11g⟩, ⟨d11e⟩, ⟨d11c⟩⟩
          · rw [if_neg c17] at H
            have c17b0 : ((t105.length : Int) == 4) = false := beq_eq_false_iff_ne.mpr c17
            have c17b1 : ((t105.length : Int) != 4) = true := bne_iff_ne.mpr c17
            (first | rw [c17b0] | (simp only [i64_w, i32_w]; rw [c17b0]) | skip)
            have H' := Aside0.mk H
            clear H
            obtain ⟨Ao21, co21, eo21⟩ := Kd.R_slice HO107.out
            subst eo21
            go_wp2
            go_meet
            case rel => exact ⟨_, (true), d11j, H', ⟨by have := HK1.out; first | omega | exact Nat.le_refl _⟩, ⟨d11f⟩, ⟨d11g⟩, ⟨d11e⟩, ⟨d11c⟩⟩
        · replace c16 := Bool.eq_false_iff.mpr c16
          subst c16
          replace H := iteF H
          have H' := Aside0.mk H
          clear H
          go_wp2
          go_meet
          case rel => exact ⟨_, (true), d11j, H', ⟨by have := HK1.out; first | omega | exact Nat.le_refl _⟩, ⟨d11f⟩, ⟨d11g⟩, ⟨d11e⟩, ⟨d11c⟩⟩
       case rest =>
        clear HC14
        try clear c3
        try clear c3b0
        try clear c3b1
        obtain ⟨kq, x46_13, rfl, HA, HJ13, HO_6, HO_7, HO_12, HB⟩ := hcut
        cases kq with
        | zero => exact absurd HA.out (by simp [perigeeref9_Read.j1])
        | succ kj13 =>
         have H := HA.out
         clear HA
         simp only [perigeeref9_Read.j1] at H
         by_cases c22 : x46_13 = true
         · subst c22
           replace H := iteT H
           simp only [Option.some.injEq, Prod.mk.injEq] at H
           obtain ⟨rfl, rfl, rfl, rfl⟩ := H
           go_wp2
           refine bodyPost_ret (results_list (rs := [.tmp 2, .tmp 3, .tmp 4, .tmp 5]) rfl (by simp) (.tmp (.tmp (.tmp (.tmp .nil))))) rfl ?_
           exact ⟨_, _, d11h, d11a, d11a, d11c⟩
         · replace c22 := Bool.eq_false_iff.mpr c22
           subst c22
           replace H := iteF H
           replace H := guardT H; obtain ⟨c23, H⟩ := H
           have c23b0 : decide (2 < (t105.length : Int)) = true := decide_eq_true c23
           have c23b1 : decide (2 < t105.length) = true := decide_eq_true (by omega)
           clear c23
           replace H := bindS H; obtain ⟨⟨t111, t112⟩, A24, H⟩ := H
           replace H := guardT H; obtain ⟨c25, H⟩ := H
           have c25b0 : decide (3 < (t105.length : Int)) = true := decide_eq_true c25
           have c25b1 : decide (3 < t105.length) = true := decide_eq_true (by omega)
           clear c25
           replace H := bindS H; obtain ⟨⟨t114, t115⟩, A26, H⟩ := H
           have HC27 := Aside0.mk H
           clear H
           obtain ⟨Ao28, co28, eo28⟩ := Kd.R_slice HO_12.out
           subst eo28
           have p110 : 0 ≤ (2 : Int) := (by omega)
           have q110 : 2 < (t105.length : Int) := of_decide_eq_true d11i
           obtain ⟨ad110, e110, hx110_0⟩ := Kd.at_string (Kd.R_reads' HO_12.out).2.2 2 p110 q110
           cases e110
           (try simp only [show (2 : Int).toNat = 2 from rfl, Nat.reduceMul, Nat.reduceEqDiff, Go.Addr.add, ↓reduceIte] at hx110_0)
           have qi110 : (2 < t105.length) = True := eq_true (by omega)
           (try rw [show ((2 : Int)).toNat = 2 from rfl] at hx110_0)
           replace p110 := eq_true p110
           replace q110 := eq_true q110
           go_upto_region 15 with (first | ((with_reducible refine gate_callee (f := 26) rfl ?_); refine goesL_ (some 52) rfl rfl Tryd.func26 (by kernel_rfl) rfl #[.string (rdOf ByteArray.empty t105 2)] rfl d11b ?_; (with_reducible refine (perigeeref9_number.calls (rdOf ByteArray.empty t105 2) t111 t112 _ A24.out).mono ?_); rintro e w29 ⟨rfl, hb⟩; refine ⟨_, rfl, ?_⟩; have n0_ := Aside0.mk (Kd.R_below d11f hb); have n1_ := Aside0.mk (Kd.R_below d11g hb); have n2_ := Aside0.mk (Kd.R_below d11d hb); have n3_ := Aside0.mk (below_step d11c hb); clear HO_6; clear HO_7; clear HO_12; clear HB; have HO_6 := n0_; have HO_7 := n1_; have HO_12 := n2_; have HB := n3_; clear n0_ n1_ n2_ n3_; (try clear hb); have p113 : 0 ≤ (3 : Int) := (by omega); have q113 : 3 < (t105.length : Int) := of_decide_eq_true d11i; obtain ⟨ad113, e113, hx113_0⟩ := Kd.at_string (Kd.R_reads' HO_12.out).2.2 3 p113 q113; obtain rfl : ad110 = ad113 := (by injection e113); (try simp only [show (3 : Int).toNat = 3 from rfl, Nat.reduceMul, Nat.reduceEqDiff, Go.Addr.add, ↓reduceIte] at hx113_0); have qi113 : (3 < t105.length) = True := eq_true (by omega); (try rw [show ((3 : Int)).toNat = 3 from rfl] at hx113_0); replace p113 := eq_true p113; replace q113 := eq_true q113) | ((with_reducible refine gate_callee (f := 26) rfl ?_); refine goesL_ (some 59) rfl rfl Tryd.func26 (by kernel_rfl) rfl #[.string (rdOf ByteArray.empty t105 3)] rfl d11b ?_; (with_reducible refine (perigeeref9_number.calls (rdOf ByteArray.empty t105 3) t114 t115 _ A26.out).mono ?_); rintro e w30 ⟨rfl, hb⟩; refine ⟨_, rfl, ?_⟩; have n0_ := Aside0.mk (Kd.R_below d11f hb); have n1_ := Aside0.mk (Kd.R_below d11g hb); have n2_ := Aside0.mk (Kd.R_below d11d hb); have n3_ := Aside0.mk (below_step d11c hb); clear HO_6; clear HO_7; clear HO_12; clear HB; have HO_6 := n0_; have HO_7 := n1_; have HO_12 := n2_; have HB := n3_; clear n0_ n1_ n2_ n3_; (try clear hb)))
           (try simp only [Act.put, List.setIfInBounds_toArray, List.set_cons_zero, List.set_cons_succ])
           go_cut [63] (fun v63 wc => ∃ (kq : Nat) (x63_26 : Bool), v63 = .bool x63_26 ∧ Aside0 (perigeeref9_Read.j2 kq x6_1 x7_1 x8_1 t103 t105 t111 t114 x63_26 = some (r1, r2, r3, r4)) ∧ Aside0 (kq ≤ kj13) ∧ Aside0 (Kd.R k32 32 wc w.heap.size (fun _ => True) u6 x6_1) ∧ Aside0 (Kd.R k35 35 wc w.heap.size (fun _ => True) u7 x7_1) ∧ Aside0 (Kd.R Kd.string 9 wc w.heap.size (fun _ => True) (.slice (some ad110) t105.length co28) t105) ∧ Aside0 (Below w.heap.size w wc))
           case first =>
            have H := HC27.out
            clear HC27
            by_cases c31 : t112 = true
            · subst c31
              replace H := iteT H
              have H' := Aside0.mk H
              clear H
              go_wp2
              go_meet
              case rel => exact ⟨_, (!t115), d11j, H', ⟨by have := HK1.out; have := HJ13.out; first | omega | exact Nat.le_refl _⟩, ⟨d11f⟩, ⟨d11g⟩, ⟨d11d⟩, ⟨d11c⟩⟩
            · replace c31 := Bool.eq_false_iff.mpr c31
              subst c31
              replace H := iteF H
              have H' := Aside0.mk H
              clear H
              go_wp2
              go_meet
              case rel => exact ⟨_, (true), d11j, H', ⟨by have := HK1.out; have := HJ13.out; first | omega | exact Nat.le_refl _⟩, ⟨d11f⟩, ⟨d11g⟩, ⟨d11d⟩, ⟨d11c⟩⟩
           case rest =>
            clear HC27
            try clear c23b0
            try clear c23b1
            try clear c25b0
            try clear c25b1
            try clear hx110_0
            try clear hx113_0
            try clear p110
            try clear p113
            try clear q110
            try clear q113
            obtain ⟨kq, x63_26, rfl, HA, HJ26, HO_6, HO_7, HO_12, HB⟩ := hcut
            cases kq with
            | zero => exact absurd HA.out (by simp [perigeeref9_Read.j2])
            | succ kj26 =>
             have H := HA.out
             clear HA
             simp only [perigeeref9_Read.j2] at H
             by_cases c32 : x63_26 = true
             · subst c32
               replace H := iteT H
               simp only [Option.some.injEq, Prod.mk.injEq] at H
               obtain ⟨rfl, rfl, rfl, rfl⟩ := H
               go_wp2
               refine bodyPost_ret (results_list (rs := [.tmp 2, .tmp 3, .tmp 4, .tmp 5]) rfl (by simp) (.tmp (.tmp (.tmp (.tmp .nil))))) rfl ?_
               exact ⟨_, _, d11h, d11a, d11a, d11c⟩
             · replace c32 := Bool.eq_false_iff.mpr c32
               subst c32
               replace H := iteF H
               have HC33 := Aside0.mk H
               clear H
               go_upto_region 17 with (fail)
               go_cut [71] (fun v71 wc => ∃ (kq : Nat) (x71_32 : Bool), v71 = .bool x71_32 ∧ Aside0 (perigeeref9_Read.j3 kq x6_1 x7_1 x8_1 t103 t105 t111 t114 x71_32 = some (r1, r2, r3, r4)) ∧ Aside0 (kq ≤ kj26) ∧ Aside0 (Kd.R k32 32 wc w.heap.size (fun _ => True) u6 x6_1) ∧ Aside0 (Kd.R k35 35 wc w.heap.size (fun _ => True) u7 x7_1) ∧ Aside0 (Kd.R Kd.string 9 wc w.heap.size (fun _ => True) (.slice (some ad110) t105.length co28) t105) ∧ Aside0 (Below w.heap.size w wc))
               case first =>
                have H := HC33.out
                clear HC33
                replace H := guardT H; obtain ⟨c34, H⟩ := H
                have c34b0 : decide (0 < (t105.length : Int)) = true := decide_eq_true c34
                have c34b1 : decide (0 < t105.length) = true := decide_eq_true (by omega)
                clear c34
                (first | rw [c34b0] | (simp only [i64_w, i32_w]; rw [c34b0]) | skip)
                by_cases c35 : (rdOf ByteArray.empty t105 0).toList = ([108, 111, 97, 100] : List UInt8)
                · rw [if_pos c35] at H
                  have c35b0 : ((rdOf ByteArray.empty t105 0).toList == ([108, 111, 97, 100] : List UInt8)) = true := beq_iff_eq.mpr c35
                  have c35b1 : ((rdOf ByteArray.empty t105 0).toList != ([108, 111, 97, 100] : List UInt8)) = false := bne_eq_false_iff_eq.mpr c35
                  clear c35
                  have H' := Aside0.mk H
                  clear H
                  have p116 : 0 ≤ (0 : Int) := (by omega)
                  have q116 : 0 < (t105.length : Int) := of_decide_eq_true d11i
                  obtain ⟨ad116, e116, hx116_0⟩ := Kd.at_string (Kd.R_reads' HO_12.out).2.2 0 p116 q116
                  obtain rfl : ad110 = ad116 := (by injection e116)
                  have qi116 : (0 < t105.length) = True := eq_true (by omega)
                  (try rw [show ((0 : Int)).toNat = 0 from rfl] at hx116_0)
                  (try rw [Addr.add_zero'] at hx116_0)
                  replace p116 := eq_true p116
                  replace q116 := eq_true q116
                  obtain ⟨Ao36, co36, eo36⟩ := Kd.R_slice HO_7.out
                  subst eo36
                  go_wp2
                  go_meet
                  case rel => exact ⟨_, (((x7_1.length : Int) == 0)), d11j, H', ⟨by have := HK1.out; have := HJ13.out; have := HJ26.out; first | omega | exact Nat.le_refl _⟩, ⟨d11f⟩, ⟨d11g⟩, ⟨d11d⟩, ⟨d11c⟩⟩
                · rw [if_neg c35] at H
                  have c35b0 : ((rdOf ByteArray.empty t105 0).toList == ([108, 111, 97, 100] : List UInt8)) = false := beq_eq_false_iff_ne.mpr c35
                  have c35b1 : ((rdOf ByteArray.empty t105 0).toList != ([108, 111, 97, 100] : List UInt8)) = true := bne_iff_ne.mpr c35
                  have H' := Aside0.mk H
                  clear H
                  have p116 : 0 ≤ (0 : Int) := (by omega)
                  have q116 : 0 < (t105.length : Int) := of_decide_eq_true d11i
                  obtain ⟨ad116, e116, hx116_0⟩ := Kd.at_string (Kd.R_reads' HO_12.out).2.2 0 p116 q116
                  obtain rfl : ad110 = ad116 := (by injection e116)
                  have qi116 : (0 < t105.length) = True := eq_true (by omega)
                  (try rw [show ((0 : Int)).toNat = 0 from rfl] at hx116_0)
                  (try rw [Addr.add_zero'] at hx116_0)
                  replace p116 := eq_true p116
                  replace q116 := eq_true q116
                  go_wp2
                  go_meet
                  case rel => exact ⟨_, (false), d11j, H', ⟨by have := HK1.out; have := HJ13.out; have := HJ26.out; first | omega | exact Nat.le_refl _⟩, ⟨d11f⟩, ⟨d11g⟩, ⟨d11d⟩, ⟨d11c⟩⟩
               case rest =>
                clear HC33
                obtain ⟨kq, x71_32, rfl, HA, HJ32, HO_6, HO_7, HO_12, HB⟩ := hcut
                cases kq with
                | zero => exact absurd HA.out (by simp [perigeeref9_Read.j3])
                | succ kj32 =>
                 have H := HA.out
                 clear HA
                 simp only [perigeeref9_Read.j3] at H
                 by_cases c37 : x71_32 = true
                 · subst c37
                   replace H := iteT H
                   replace H := guardT H; obtain ⟨c38, H⟩ := H
                   have c38b0 : decide (1 < (t105.length : Int)) = true := decide_eq_true c38
                   have c38b1 : decide (1 < t105.length) = true := decide_eq_true (by omega)
                   clear c38
                   replace H := guardT H; obtain ⟨c39, H⟩ := H
                   have LMc39 := Aside0.mk c39
                   clear c39
                   obtain ⟨y118, hy118⟩ : ∃ y_ : List (S32), y_ = (x6_1 ++ [(⟨rdOf ByteArray.empty t105 1, t111, t114⟩ : S32)]) := ⟨_, rfl⟩
                   replace H : (perigeeref9_Read.l0 kj32 t103 y118 x7_1 (wrap64 (x8_1 + 1))) = some (r1, r2, r3, r4) := by first | (rw [hy118]; with_reducible exact H) | (have H2_ := (Option.bind_some _ _).symm.trans H; rw [hy118]; with_reducible exact H2_) | (have H2_ := (Option.bind_some _ _).symm.trans H; with_reducible exact H2_) | with_reducible exact H | (rw [hy118]; exact H) | exact H
                   have Ny118 := Aside0.mk hy118
                   clear hy118
                   have H' := Aside0.mk H
                   clear H
                   have p117 : 0 ≤ (1 : Int) := (by omega)
                   have q117 : 1 < (t105.length : Int) := of_decide_eq_true d11i
                   obtain ⟨ad117, e117, hx117_0⟩ := Kd.at_string (Kd.R_reads' HO_12.out).2.2 1 p117 q117
                   obtain rfl : ad110 = ad117 := (by injection e117)
                   (try simp only [show (1 : Int).toNat = 1 from rfl, Nat.reduceMul, Nat.reduceEqDiff, Go.Addr.add, ↓reduceIte] at hx117_0)
                   have qi117 : (1 < t105.length) = True := eq_true (by omega)
                   (try rw [show ((1 : Int)).toNat = 1 from rfl] at hx117_0)
                   replace p117 := eq_true p117
                   replace q117 := eq_true q117
                   go_wp2_with ((with_reducible refine gate_builtin (b := .append) (xs := #[.tmp 81, .tmp 88]) rfl ?_); (try (refine gate_guard (by rfl) ?_; dsimp only)); at_builtin; refine Kd.R_append k32 (w0 := w) w.heap.size rfl (.tmp 81) (.tmp 88) 22 32 (.agg #[(.string ⟨#[]⟩), (.int .i64 0), (.int .i64 0)]) 32 rfl Tryd.underlying22 info32 rfl (by decide) (by omega) u6 x6_1 (⟨rdOf ByteArray.empty t105 1, t111, t114⟩ : S32) [.string (rdOf ByteArray.empty t105 1), .int .i64 t111, .int .i64 t114] (fun _ => True) (fun _ => False) rfl rfl ?aP (fun _ hk => hk.elim) ?aF ?aO ?aB ?aS ?aL ?_; (case aP => exact k32_mkM _ _ _ (⟨rdOf ByteArray.empty t105 1, t111, t114⟩ : S32)); (case aB => exact d11c); (case aF => exact (fun _ _ => trivial)); (case aO => exact d11f); (case aS => exact (below_size d11c)); (case aL => have := LMc39.out; omega); intro v119 w40 ho hb hg hat; rw [← Ny118.out] at ho; have n0_ := Aside0.mk (Kd.R_over' d11g (Kd.R_typed d11f) (by decide) hg); have n1_ := Aside0.mk (Kd.R_over' d11d (Kd.R_typed d11f) (by decide) hg); have n2_ := Aside0.mk (hb); have n3_ := Aside0.mk (ho); clear HO_7; clear HO_12; clear HB; clear HO_6; have HO_7 := n0_; have HO_12 := n1_; have HB := n2_; have HO120 := n3_; clear n0_ n1_ n2_ n3_; clear ho hb hg hat)
                   go_roundg kj32
                   case measure => have := HK1.out; have := HJ13.out; have := HJ26.out; have := HJ32.out; omega
                   case rel => exact ⟨(t103), (y118), (x7_1), (wrap64 (x8_1 + 1)), d11j, d11j, H', ⟨by have := HK1.out; have := HJ13.out; have := HJ26.out; have := HJ32.out; omega⟩, ⟨by (with_reducible repeat (first | apply Kd.R_alloc | apply Kd.R_drewN | apply Kd.R_drew)); exact HO120.out⟩, ⟨d11g⟩, ⟨d11c⟩⟩
                 · replace c37 := Bool.eq_false_iff.mpr c37
                   subst c37
                   replace H := iteF H
                   replace H := guardT H; obtain ⟨c41, H⟩ := H
                   have c41b0 : decide (0 < (t105.length : Int)) = true := decide_eq_true c41
                   have c41b1 : decide (0 < t105.length) = true := decide_eq_true (by omega)
                   clear c41
                   by_cases c42 : (rdOf ByteArray.empty t105 0).toList = ([117, 115, 101] : List UInt8)
                   · rw [if_pos c42] at H
                     have c42b0 : ((rdOf ByteArray.empty t105 0).toList == ([117, 115, 101] : List UInt8)) = true := beq_iff_eq.mpr c42
                     have c42b1 : ((rdOf ByteArray.empty t105 0).toList != ([117, 115, 101] : List UInt8)) = false := bne_eq_false_iff_eq.mpr c42
                     clear c42
                     replace H := guardT H; obtain ⟨c43, H⟩ := H
                     have c43b0 : decide (1 < (t105.length : Int)) = true := decide_eq_true c43
                     have c43b1 : decide (1 < t105.length) = true := decide_eq_true (by omega)
                     clear c43
                     replace H := guardT H; obtain ⟨c44, H⟩ := H
                     have LMc44 := Aside0.mk c44
                     clear c44
                     obtain ⟨y123, hy123⟩ : ∃ y_ : List (S35), y_ = (x7_1 ++ [(⟨rdOf ByteArray.empty t105 1, t111, t114⟩ : S35)]) := ⟨_, rfl⟩
                     replace H : (perigeeref9_Read.l0 kj32 t103 x6_1 y123 (wrap64 (x8_1 + 1))) = some (r1, r2, r3, r4) := by first | (rw [hy123]; with_reducible exact H) | (have H2_ := (Option.bind_some _ _).symm.trans H; rw [hy123]; with_reducible exact H2_) | (have H2_ := (Option.bind_some _ _).symm.trans H; with_reducible exact H2_) | with_reducible exact H | (rw [hy123]; exact H) | exact H
                     have Ny123 := Aside0.mk hy123
                     clear hy123
                     have H' := Aside0.mk H
                     clear H
                     have p121 : 0 ≤ (0 : Int) := (by omega)
                     have q121 : 0 < (t105.length : Int) := of_decide_eq_true d11i
                     obtain ⟨ad121, e121, hx121_0⟩ := Kd.at_string (Kd.R_reads' HO_12.out).2.2 0 p121 q121
                     obtain rfl : ad110 = ad121 := (by injection e121)
                     have qi121 : (0 < t105.length) = True := eq_true (by omega)
                     (try rw [show ((0 : Int)).toNat = 0 from rfl] at hx121_0)
                     (try rw [Addr.add_zero'] at hx121_0)
                     replace p121 := eq_true p121
                     replace q121 := eq_true q121
                     have p122 : 0 ≤ (1 : Int) := (by omega)
                     have q122 : 1 < (t105.length : Int) := of_decide_eq_true d11i
                     obtain ⟨ad122, e122, hx122_0⟩ := Kd.at_string (Kd.R_reads' HO_12.out).2.2 1 p122 q122
                     obtain rfl : ad110 = ad122 := (by injection e122)
                     (try simp only [show (1 : Int).toNat = 1 from rfl, Nat.reduceMul, Nat.reduceEqDiff, Go.Addr.add, ↓reduceIte] at hx122_0)
                     have qi122 : (1 < t105.length) = True := eq_true (by omega)
                     (try rw [show ((1 : Int)).toNat = 1 from rfl] at hx122_0)
                     replace p122 := eq_true p122
                     replace q122 := eq_true q122
                     go_wp2_with ((with_reducible refine gate_builtin (b := .append) (xs := #[.tmp 95, .tmp 102]) rfl ?_); (try (refine gate_guard (by rfl) ?_; dsimp only)); at_builtin; refine Kd.R_append k35 (w0 := w) w.heap.size rfl (.tmp 95) (.tmp 102) 23 35 (.agg #[(.string ⟨#[]⟩), (.int .i64 0), (.int .i64 0)]) 32 rfl Tryd.underlying23 info35 rfl (by decide) (by omega) u7 x7_1 (⟨rdOf ByteArray.empty t105 1, t111, t114⟩ : S35) [.string (rdOf ByteArray.empty t105 1), .int .i64 t111, .int .i64 t114] (fun _ => True) (fun _ => False) rfl rfl ?aP (fun _ hk => hk.elim) ?aF ?aO ?aB ?aS ?aL ?_; (case aP => exact k35_mkM _ _ _ (⟨rdOf ByteArray.empty t105 1, t111, t114⟩ : S35)); (case aB => exact d11c); (case aF => exact (fun _ _ => trivial)); (case aO => exact d11g); (case aS => exact (below_size d11c)); (case aL => have := LMc44.out; omega); intro v124 w45 ho hb hg hat; rw [← Ny123.out] at ho; have n0_ := Aside0.mk (Kd.R_over' d11f (Kd.R_typed d11g) (by decide) hg); have n1_ := Aside0.mk (Kd.R_over' d11d (Kd.R_typed d11g) (by decide) hg); have n2_ := Aside0.mk (hb); have n3_ := Aside0.mk (ho); clear HO_6; clear HO_12; clear HB; clear HO_7; have HO_6 := n0_; have HO_12 := n1_; have HB := n2_; have HO125 := n3_; clear n0_ n1_ n2_ n3_; clear ho hb hg hat)
                     go_roundg kj32
                     case measure => have := HK1.out; have := HJ13.out; have := HJ26.out; have := HJ32.out; omega
                     case rel => exact ⟨(t103), (x6_1), (y123), (wrap64 (x8_1 + 1)), d11j, d11j, H', ⟨by have := HK1.out; have := HJ13.out; have := HJ26.out; have := HJ32.out; omega⟩, ⟨d11f⟩, ⟨by (with_reducible repeat (first | apply Kd.R_alloc | apply Kd.R_drewN | apply Kd.R_drew)); exact HO125.out⟩, ⟨d11c⟩⟩
                   · rw [if_neg c42] at H
                     have c42b0 : ((rdOf ByteArray.empty t105 0).toList == ([117, 115, 101] : List UInt8)) = false := beq_eq_false_iff_ne.mpr c42
                     have c42b1 : ((rdOf ByteArray.empty t105 0).toList != ([117, 115, 101] : List UInt8)) = true := bne_iff_ne.mpr c42
                     simp only [Option.some.injEq, Prod.mk.injEq] at H
                     obtain ⟨rfl, rfl, rfl, rfl⟩ := H
                     have p121 : 0 ≤ (0 : Int) := (by omega)
                     have q121 : 0 < (t105.length : Int) := of_decide_eq_true d11i
                     obtain ⟨ad121, e121, hx121_0⟩ := Kd.at_string (Kd.R_reads' HO_12.out).2.2 0 p121 q121
                     obtain rfl : ad110 = ad121 := (by injection e121)
                     have qi121 : (0 < t105.length) = True := eq_true (by omega)
                     (try rw [show ((0 : Int)).toNat = 0 from rfl] at hx121_0)
                     (try rw [Addr.add_zero'] at hx121_0)
                     replace p121 := eq_true p121
                     replace q121 := eq_true q121
                     go_wp2
                     refine bodyPost_ret (results_list (rs := [.tmp 2, .tmp 3, .tmp 4, .tmp 5]) rfl (by simp) (.tmp (.tmp (.tmp (.tmp .nil))))) rfl ?_
                     exact ⟨_, _, d11h, d11a, d11a, d11c⟩
end Go.Proofs.YtplcdpiggpkppaaDoor.Q
