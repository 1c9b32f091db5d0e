-- Made by wip/tools/claimp.py of this session's texts; Lean checks it.
import Derived.Test.YtbngmblgkkdhpaaC10Q0
import Derived.Test.YtbngmblgkkdhpaaC10Gs1
namespace Go.Proofs.Ytbngmblgkkdhpaa.Q
open Go.RowKit Go.Proofs.YtbngmblgkkdhpaaW.PrintWords Go.Proofs.YtbngmblgkkdhpaaW.PrintLast Go.Proofs.YtbngmblgkkdhpaaW.PrintMore
attribute [local go_sem] max2_int min2_int max_two min_two max_three min_three max_four min_four
open Go.Proofs.Ytbngmblgkkdhpaa.Base
attribute [local go_sem high] str_leq str_gtr str_geq
set_option linter.unusedVariables false
set_option linter.unusedSimpArgs false
def perigeeref10_within.f (a0 : Int) (a1 : Int) (a2 : Int) : Option (Bool) := if a0 ≥ a1 then (some (decide (a0 ≤ a2))) else (some false)
def perigeeref10_moment.f (a0 : Int) : Option (Bool) := (perigeeref10_within.f a0 0 1000000000000).bind fun t101 => (some t101)
def perigeeref8_within.f (a0 : Int) (a1 : Int) (a2 : Int) : Option (Bool) := if a0 ≥ a1 then (some (decide (a0 ≤ a2))) else (some false)
def perigeeref8_IsName.l0 : Nat → ByteArray → Int → Option (Bool)
  | 0, _, _ => none
  | k + 1, x0, x3 => if x3 < (x0.size : Int) then (if 0 ≤ x3 then (if (bt x0 x3) ≥ 97 then (if ((bt x0 x3) ≤ 122) then (perigeeref8_IsName.l0 k x0 (wrap64 (x3 + 1))) else (if x3 = 0 then (some false) else (if (bt x0 x3) = 45 then (perigeeref8_IsName.l0 k x0 (wrap64 (x3 + 1))) else (if (bt x0 x3) = 95 then (perigeeref8_IsName.l0 k x0 (wrap64 (x3 + 1))) else (if (bt x0 x3) ≥ 48 then (if ((bt x0 x3) ≤ 57) then (perigeeref8_IsName.l0 k x0 (wrap64 (x3 + 1))) else (some false)) else (some false)))))) else (if x3 = 0 then (some false) else (if (bt x0 x3) = 45 then (perigeeref8_IsName.l0 k x0 (wrap64 (x3 + 1))) else (if (bt x0 x3) = 95 then (perigeeref8_IsName.l0 k x0 (wrap64 (x3 + 1))) else (if (bt x0 x3) ≥ 48 then (if ((bt x0 x3) ≤ 57) then (perigeeref8_IsName.l0 k x0 (wrap64 (x3 + 1))) else (some false)) else (some false)))))) else (none)) else ((perigeeref8_within.f (x0.size : Int) 1 40).bind fun t101 => (some t101))
def perigeeref8_IsName.f (k : Nat) (a0 : ByteArray) : Option (Bool) := perigeeref8_IsName.l0 k a0 0
mutual
def perigeeref10_checkPass.j0 : Nat → Bool → ByteArray → Int → Int → List (S75) → Option (Int)
  | 0, _, _, _, _, _ => none
  | k + 1, x18, x102000, x102001, x102002, x102003 => if x18 = true then (some 1) else (if x102002 ≤ x102001 then (some 8) else (if (wrap64 (x102002 - x102001)) > 2000000 then (perigeeref10_checkPass.j1 k true x102000 x102001 x102002 x102003) else (perigeeref10_checkPass.j1 k (decide ((x102003.length : Int) > 50)) x102000 x102001 x102002 x102003)))
def perigeeref10_checkPass.j1 : Nat → Bool → ByteArray → Int → Int → List (S75) → Option (Int)
  | 0, _, _, _, _, _ => none
  | k + 1, x35, x102000, x102001, x102002, x102003 => if x35 = true then (some 2) else (perigeeref10_checkPass.l0 k 0 x102000 x102001 x102002 x102003)
def perigeeref10_checkPass.l0 : Nat → Int → ByteArray → Int → Int → List (S75) → Option (Int)
  | 0, _, _, _, _, _ => none
  | k + 1, x3, x102000, x102001, x102002, x102003 => if x3 < (x102003.length : Int) then (if 0 ≤ x3 then ((perigeeref10_within.f ((rd_T75 x102003 x3).f0) x102001 (wrap64 (x102002 - 1))).bind fun t107 => (if t107 = true then ((perigeeref10_within.f ((rd_T75 x102003 x3).f1) 0 100000).bind fun t108 => (perigeeref10_checkPass.j3 k x3 (!t108) x102000 x102001 x102002 x102003 ((rd_T75 x102003 x3).f0) ((rd_T75 x102003 x3).f1))) else (perigeeref10_checkPass.j3 k x3 true x102000 x102001 x102002 x102003 ((rd_T75 x102003 x3).f0) ((rd_T75 x102003 x3).f1)))) else (none)) else (some 0)
def perigeeref10_checkPass.j3 : Nat → Int → Bool → ByteArray → Int → Int → List (S75) → Int → Int → Option (Int)
  | 0, _, _, _, _, _, _, _, _ => none
  | k + 1, x3, x62, x102000, x102001, x102002, x102003, x107000, x107001 => if x62 = true then (some 1) else (if x3 > 0 then (if 0 ≤ (wrap64 (x3 - 1)) then (if (wrap64 (x3 - 1)) < (x102003.length : Int) then (if x107000 ≤ ((rd_T75 x102003 (wrap64 (x3 - 1))).f0) then (some 8) else (perigeeref10_checkPass.l0 k (wrap64 (x3 + 1)) x102000 x102001 x102002 x102003)) else (none)) else (none)) else (perigeeref10_checkPass.l0 k (wrap64 (x3 + 1)) x102000 x102001 x102002 x102003))
end
mutual
def contact_checkBooked.l0 : Nat → List (S33) → List Int → List Int → Int → Int → Option (Int)
  | 0, _, _, _, _, _ => none
  | k + 1, x0, x1, x7, x8, x9 => if x9 < x8 then (if 0 ≤ x9 then (if x9 < (x7.length : Int) then (if (rd x7 x9) < 0 then (contact_checkBooked.j1 k x0 x1 x9 (rd x7 x9) x7 x8 x9 true) else (contact_checkBooked.j1 k x0 x1 x9 (rd x7 x9) x7 x8 x9 (decide ((rd x7 x9) ≥ (x0.length : Int))))) else (none)) else (none)) else (some 0)
def contact_checkBooked.j1 : Nat → List (S33) → List Int → Int → Int → List Int → Int → Int → Bool → Option (Int)
  | 0, _, _, _, _, _, _, _, _ => none
  | k + 1, x0, x1, x5, x6, x7, x8, x9, x21 => if x21 = true then (some 9) else (if x5 > 0 then (if 0 ≤ (wrap64 (x5 - 1)) then (if (wrap64 (x5 - 1)) < (x1.length : Int) then (if x6 ≤ (rd x1 (wrap64 (x5 - 1))) then (some 8) else (contact_checkBooked.l0 k x0 x1 x7 x8 (wrap64 (x9 + 1)))) else (none)) else (none)) else (contact_checkBooked.l0 k x0 x1 x7 x8 (wrap64 (x9 + 1))))
end
def contact_checkBooked.f (k : Nat) (l0 : List (S33)) (l1 : List Int) : Option (Int) := contact_checkBooked.l0 k l0 l1 l1 (l1.length : Int) 0
theorem d52a {p : Prop} (h : p := by repeat (first | exact Drawn0.refl _ | apply Drawn0.step)) : p := h
theorem d52b {p : Prop} (h : p := by first | (with_reducible assumption) | assumption) : p := h
theorem d52c {p : Prop} (h : p := by first | rfl | (simp; done) | (simp [*]; done)) : p := h
set_option maxHeartbeats 8000000 in
set_option maxRecDepth 100000 in
theorem contact_checkBooked.calls (k : Nat) (A0 : Option Addr) (c0 : Nat) (l0 : List (S33)) (A1 : Option Addr) (c1 : Nat) (l1 : List Int) (r : Int) (w : World) (hr0 : Kd.C k33 w A0 l0.length l0) (hc0 : l0.length ≤ c0) (hr1 : Kd.C (Kd.int .i64) w A1 l1.length l1) (hc1 : l1.length ≤ c1) (h : contact_checkBooked.f k l0 l1 = some r) :
 Calls Try.prog 52 #[.slice A0 l0.length c0, .slice A1 l1.length c1] w fun e w' => e = .returned (.int .i64 r) ∧ Drawn0 w w' := by
 have HR0 := Aside0.mk hr0
 have HC0 := Aside0.mk hc0
 clear hr0 hc0
 have HR1 := Aside0.mk hr1
 have HC1 := Aside0.mk hc1
 clear hr1 hc1
 have H : (contact_checkBooked.l0 k l0 l1 l1 (l1.length : Int) 0) = some r := h
 clear h
 have H' := Aside0.mk H
 clear H
 go_enter Try.func52, Try.ntmps52
 go_wp2
 go_loopg [9] k (fun kq v9 w' => ∃ (x9_1 : Int), v9 = .int .i64 x9_1 ∧ Aside0 (contact_checkBooked.l0 kq l0 l1 l1 (l1.length : Int) x9_1 = some r) ∧ Aside0 (kq ≤ k) ∧ Drawn0 w w')
 case atStart => exact ⟨(0), d52c, H', ⟨Nat.le_refl _⟩, d52a⟩
 case round =>
  clear H'
  obtain ⟨x9_1, rfl, HA, HK1, ⟨m1, rfl⟩⟩ := hrel
  cases gk with
  | zero => exact absurd HA.out (by simp [contact_checkBooked.l0])
  | succ k1 =>
   have H := HA.out
   clear HA
   simp only [contact_checkBooked.l0] at H
   by_cases c3 : x9_1 < (l1.length : Int)
   · rw [if_pos c3] at H
     have c3b0 : decide (x9_1 < (l1.length : Int)) = true := decide_eq_true c3
     clear c3
     replace H := guardT H; obtain ⟨c4, H⟩ := H
     have c4b0 : decide (0 ≤ x9_1) = true := decide_eq_true c4
     clear c4
     replace H := guardT H; obtain ⟨c5, H⟩ := H
     have c5b0 : decide (x9_1 < (l1.length : Int)) = true := decide_eq_true c5
     clear c5
     have HC6 := Aside0.mk H
     clear H
     have p101 : 0 ≤ (x9_1 : Int) := of_decide_eq_true d52b
     have q101 : x9_1 < (l1.length : Int) := of_decide_eq_true d52b
     obtain ⟨ad101, e101, hx101_0⟩ := Kd.at_int HR1.out x9_1 p101 q101
     cases e101
     replace p101 := eq_true p101
     replace q101 := eq_true q101
     go_upto_region 4 with (fail)
     go_cut [21] (fun v21 wc => ∃ (kq : Nat) (x21_5 : Bool), v21 = .bool x21_5 ∧ Aside0 (contact_checkBooked.j1 kq l0 l1 x9_1 (rd l1 x9_1) l1 (l1.length : Int) x9_1 x21_5 = some r) ∧ Aside0 (kq ≤ k1) ∧ Drawn0 w wc)
     case first =>
      have H := HC6.out
      clear HC6
      by_cases c7 : (rd l1 x9_1) < 0
      · rw [if_pos c7] at H
        have c7b0 : decide ((rd l1 x9_1) < 0) = true := decide_eq_true c7
        clear c7
        (first | rw [c7b0] | (simp only [i64_w, i32_w]; rw [c7b0]) | skip)
        have H' := Aside0.mk H
        clear H
        go_wp2
        go_meet
        case rel => exact ⟨_, (true), d52c, H', ⟨by have := HK1.out; first | omega | exact Nat.le_refl _⟩, d52a⟩
      · rw [if_neg c7] at H
        have c7b0 : decide ((rd l1 x9_1) < 0) = false := decide_eq_false c7
        clear c7
        (first | rw [c7b0] | (simp only [i64_w, i32_w]; rw [c7b0]) | skip)
        have H' := Aside0.mk H
        clear H
        go_wp2
        go_meet
        case rel => exact ⟨_, (decide ((rd l1 x9_1) ≥ (l0.length : Int))), d52c, H', ⟨by have := HK1.out; first | omega | exact Nat.le_refl _⟩, d52a⟩
     case rest =>
      clear HC6
      try clear c3b0
      try clear c4b0
      try clear c5b0
      try clear hx101_0
      try clear p101
      try clear q101
      obtain ⟨kq, x21_5, rfl, HA, HJ5, ⟨mc5, rfl⟩⟩ := hcut
      cases kq with
      | zero => exact absurd HA.out (by simp [contact_checkBooked.j1])
      | succ kj5 =>
       have H := HA.out
       clear HA
       simp only [contact_checkBooked.j1] at H
       by_cases c8 : x21_5 = true
       · subst c8
         replace H := iteT H
         obtain rfl := Option.some.inj H
         go_wp2
         go_ret
         exact ⟨d52c, d52a⟩
       · replace c8 := Bool.eq_false_iff.mpr c8
         subst c8
         replace H := iteF H
         by_cases c9 : x9_1 > 0
         · rw [if_pos c9] at H
           have c9b0 : decide (0 < x9_1) = true := decide_eq_true c9
           clear c9
           obtain ⟨ji10, hji10⟩ : ∃ j_ : Int, (wrap64 (x9_1 - 1)) = j_ := ⟨_, rfl⟩
           replace H : (if 0 ≤ (ji10) then (if (ji10) < (l1.length : Int) then (if (rd l1 x9_1) ≤ (rd l1 (ji10)) then (some 8) else (contact_checkBooked.l0 kj5 l0 l1 l1 (l1.length : Int) (wrap64 (x9_1 + 1)))) else (none)) else (none)) = some r := by first | (rw [hji10] at H; exact H) | (simp only [hji10] at H ⊢; exact H)
           have hji10w : (IntKind.i64.wrap (x9_1 - 1)) = ji10 := (i64_w _).trans hji10
           replace H := guardT H; obtain ⟨c11, H⟩ := H
           have c11b0 : decide (0 ≤ (ji10)) = true := decide_eq_true c11
           clear c11
           replace H := guardT H; obtain ⟨c12, H⟩ := H
           have c12b0 : decide ((ji10) < (l1.length : Int)) = true := decide_eq_true c12
           clear c12
           by_cases c13 : (rd l1 x9_1) ≤ (rd l1 (ji10))
           · rw [if_pos c13] at H
             have c13b0 : decide ((rd l1 x9_1) ≤ (rd l1 (ji10))) = true := decide_eq_true c13
             clear c13
             obtain rfl := Option.some.inj H
             have p102 : 0 ≤ ((ji10) : Int) := of_decide_eq_true d52b
             have q102 : (ji10) < (l1.length : Int) := of_decide_eq_true d52b
             obtain ⟨ad102, e102, hx102_0⟩ := Kd.at_int HR1.out (ji10) p102 q102
             obtain rfl : ad101 = ad102 := (by injection e102)
             replace p102 := eq_true p102
             replace q102 := eq_true q102
             go_wp2
             go_ret
             exact ⟨by first | rfl | (simp; done) | (simp only [← hji10] <;> (first | rfl | simp)) | (simp [*]; done), d52a⟩
           · rw [if_neg c13] at H
             have c13b0 : decide ((rd l1 x9_1) ≤ (rd l1 (ji10))) = false := decide_eq_false c13
             clear c13
             have H' := Aside0.mk H
             clear H
             have p102 : 0 ≤ ((ji10) : Int) := of_decide_eq_true d52b
             have q102 : (ji10) < (l1.length : Int) := of_decide_eq_true d52b
             obtain ⟨ad102, e102, hx102_0⟩ := Kd.at_int HR1.out (ji10) p102 q102
             obtain rfl : ad101 = ad102 := (by injection e102)
             replace p102 := eq_true p102
             replace q102 := eq_true q102
             go_wp2
             go_roundg kj5
             case measure => have := HK1.out; have := HJ5.out; omega
             case rel => exact ⟨(wrap64 (x9_1 + 1)), d52c, H', ⟨by have := HK1.out; have := HJ5.out; omega⟩, d52a⟩
         · rw [if_neg c9] at H
           have c9b0 : decide (0 < x9_1) = false := decide_eq_false c9
           clear c9
           have H' := Aside0.mk H
           clear H
           go_wp2
           go_roundg kj5
           case measure => have := HK1.out; have := HJ5.out; omega
           case rel => exact ⟨(wrap64 (x9_1 + 1)), d52c, H', ⟨by have := HK1.out; have := HJ5.out; omega⟩, d52a⟩
   · rw [if_neg c3] at H
     have c3b0 : decide (x9_1 < (l1.length : Int)) = false := decide_eq_false c3
     clear c3
     obtain rfl := Option.some.inj H
     go_wp2
     go_ret
     exact ⟨d52c, d52a⟩
def contact_check.f (k : Nat) (l0 : List (S33)) (l1 : List Int) : Option (Int) := (contact_CheckPasses.f k l0).bind fun t101 => (if t101 = 0 then ((contact_checkBooked.f k l0 l1).bind fun t102 => (some t102)) else (some t101))
theorem d56a {p : Prop} (h : p := by (try simp only [List.map_toArray, List.map_cons, List.map_nil]); first | done | rfl | (simp only [List.length_drop, List.length_take]; rfl)) : p := h
theorem d56b {p : Prop} (h : p := by repeat (first | (with_reducible first | exact HB.out | apply below_alloc | apply pw_below_drewN | apply below_drew1) | exact HB.out)) : p := h
set_option maxHeartbeats 8000000 in
set_option maxRecDepth 100000 in
theorem contact_check.calls (k : Nat) (A0 : Option Addr) (c0 : Nat) (l0 : List (S33)) (A1 : Option Addr) (c1 : Nat) (l1 : List Int) (r : Int) (w : World) (hr0 : Kd.C k33 w A0 l0.length l0) (hc0 : l0.length ≤ c0) (hr1 : Kd.C (Kd.int .i64) w A1 l1.length l1) (hc1 : l1.length ≤ c1) (h : contact_check.f k l0 l1 = some r) :
 Calls Try.prog 56 #[.slice A0 l0.length c0, .slice A1 l1.length c1] w fun e w' => e = .returned (.int .i64 r) ∧ Below w.heap.size w w' := by
 have HR0 := Aside0.mk hr0
 have HC0 := Aside0.mk hc0
 clear hr0 hc0
 have HR1 := Aside0.mk hr1
 have HC1 := Aside0.mk hc1
 clear hr1 hc1
 have HB := Aside0.mk (Below.refl w.heap.size w)
 have H : ((contact_CheckPasses.f k l0).bind fun t101 => (if t101 = 0 then ((contact_checkBooked.f k l0 l1).bind fun t102 => (some t102)) else (some t101))) = some r := h
 clear h
 replace H := bindS H; obtain ⟨t101, A3, H⟩ := H
 by_cases c4 : t101 = 0
 · rw [if_pos c4] at H
   have c4b0 : (t101 == 0) = true := beq_iff_eq.mpr c4
   have c4b1 : (t101 != 0) = false := bne_eq_false_iff_eq.mpr c4
   clear c4
   replace H := bindS H; obtain ⟨t102, A5, H⟩ := H
   obtain rfl := Option.some.inj H
   go_enter Try.func56, Try.ntmps56
   go_wp2_with (first | ((with_reducible refine gate_callee (f := 18) rfl ?_); refine goesL_ (some 7) rfl rfl Try.func18 (by kernel_rfl) rfl #[.slice A0 l0.length c0] rfl d56a ?_; (with_reducible refine (contact_CheckPasses.calls k _ _ l0 t101 _ ?side1 ?side2 A3.out).mono ?_); (case side1 => exact C_go HR0.out); (case side2 => exact HC0.out); rintro e w6 ⟨rfl, hb⟩; refine ⟨_, rfl, ?_⟩; replace HB := Aside0.mk (below_step d56b hb); (try clear hb)) | ((with_reducible refine gate_callee (f := 52) rfl ?_); refine goesL_ (some 13) rfl rfl Try.func52 (by kernel_rfl) rfl #[.slice A0 l0.length c0, .slice A1 l1.length c1] rfl d56a ?_; (with_reducible refine (contact_checkBooked.calls k _ _ l0 _ _ l1 t102 _ ?side1 ?side2 ?side3 ?side4 A5.out).mono ?_); (case side1 => exact C_go (Kd.C_below HR0.out HB.out)); (case side2 => exact HC0.out); (case side3 => exact C_go (Kd.C_below HR1.out HB.out)); (case side4 => exact HC1.out); rintro e w' ⟨rfl, ⟨nd, rfl⟩⟩; refine ⟨_, rfl, ?_⟩))
   go_ret
   exact ⟨by first | rfl | (simp [errW_none, errW_some] <;> rfl) | (simp [*, errW_none, errW_some] <;> rfl), d56b⟩
 · rw [if_neg c4] at H
   have c4b0 : (t101 == 0) = false := beq_eq_false_iff_ne.mpr c4
   have c4b1 : (t101 != 0) = true := bne_iff_ne.mpr c4
   obtain rfl := Option.some.inj H
   go_enter Try.func56, Try.ntmps56
   go_wp2_with ((with_reducible refine gate_callee (f := 18) rfl ?_); refine goesL_ (some 7) rfl rfl Try.func18 (by kernel_rfl) rfl #[.slice A0 l0.length c0] rfl d56a ?_; (with_reducible refine (contact_CheckPasses.calls k _ _ l0 t101 _ ?side1 ?side2 A3.out).mono ?_); (case side1 => exact C_go HR0.out); (case side2 => exact HC0.out); rintro e w7 ⟨rfl, hb⟩; refine ⟨_, rfl, ?_⟩; replace HB := Aside0.mk (below_step d56b hb); (try clear hb))
   go_ret
   exact ⟨by first | rfl | (simp [errW_none, errW_some] <;> rfl) | (simp [*, errW_none, errW_some] <;> rfl), d56b⟩
end Go.Proofs.Ytbngmblgkkdhpaa.Q
