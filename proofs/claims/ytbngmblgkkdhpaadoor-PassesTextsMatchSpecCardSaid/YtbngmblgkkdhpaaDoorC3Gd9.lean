-- Made by wip/tools/claimp.py of this session's texts; Lean checks it.
import Derived.Test.YtbngmblgkkdhpaaDoorC3Q0
import Derived.Test.YtbngmblgkkdhpaaDoorC3Gd1
import Derived.Test.YtbngmblgkkdhpaaDoorC3Gd7
namespace Go.Proofs.YtbngmblgkkdhpaaDoor.Q
open Go.RowKit Go.Proofs.YtbngmblgkkdhpaaDoorW.PrintWords Go.Proofs.YtbngmblgkkdhpaaDoorW.PrintLast Go.Proofs.YtbngmblgkkdhpaaDoorW.PrintMore
attribute [local go_sem] max2_int min2_int max_two min_two max_three min_three max_four min_four
open Go.Proofs.YtbngmblgkkdhpaaDoor.Base
attribute [local go_sem high] str_leq str_gtr str_geq
set_option linter.unusedVariables false
set_option linter.unusedSimpArgs false
mutual
def perigeeref10_Text.l0 : Nat → List (S55) → ByteArray → Int → Option (ByteArray × Int)
  | 0, _, _, _ => none
  | k + 1, x0, x5, x6 => if x6 < (x0.length : Int) then (if 0 ≤ x6 then (if 5 + ((rd_T55 x0 x6).f0).size ≤ 9223372036854775807 then (if ((⟨#[112, 97, 115, 115, 32]⟩ : ByteArray) ++ ((rd_T55 x0 x6).f0)).size + 1 ≤ 9223372036854775807 then ((strconv_Itoa.f ((rd_T55 x0 x6).f1)).bind fun t104 => (if (((⟨#[112, 97, 115, 115, 32]⟩ : ByteArray) ++ ((rd_T55 x0 x6).f0)) ++ (⟨#[32]⟩ : ByteArray)).size + t104.size ≤ 9223372036854775807 then (if ((((⟨#[112, 97, 115, 115, 32]⟩ : ByteArray) ++ ((rd_T55 x0 x6).f0)) ++ (⟨#[32]⟩ : ByteArray)) ++ t104).size + 1 ≤ 9223372036854775807 then ((strconv_Itoa.f ((rd_T55 x0 x6).f2)).bind fun t106 => (if (((((⟨#[112, 97, 115, 115, 32]⟩ : ByteArray) ++ ((rd_T55 x0 x6).f0)) ++ (⟨#[32]⟩ : ByteArray)) ++ t104) ++ (⟨#[32]⟩ : ByteArray)).size + t106.size ≤ 9223372036854775807 then (if ((((((⟨#[112, 97, 115, 115, 32]⟩ : ByteArray) ++ ((rd_T55 x0 x6).f0)) ++ (⟨#[32]⟩ : ByteArray)) ++ t104) ++ (⟨#[32]⟩ : ByteArray)) ++ t106).size + 1 ≤ 9223372036854775807 then (if x5.size + (((((((⟨#[112, 97, 115, 115, 32]⟩ : ByteArray) ++ ((rd_T55 x0 x6).f0)) ++ (⟨#[32]⟩ : ByteArray)) ++ t104) ++ (⟨#[32]⟩ : ByteArray)) ++ t106) ++ (⟨#[10]⟩ : ByteArray)).size ≤ 9223372036854775807 then (perigeeref10_Text.l1 k x0 (x5 ++ (((((((⟨#[112, 97, 115, 115, 32]⟩ : ByteArray) ++ ((rd_T55 x0 x6).f0)) ++ (⟨#[32]⟩ : ByteArray)) ++ t104) ++ (⟨#[32]⟩ : ByteArray)) ++ t106) ++ (⟨#[10]⟩ : ByteArray))) x6 0) else (none)) else (none)) else (none))) else (none)) else (none))) else (none)) else (none)) else (none)) else (if (x5.size : Int) > 200000 then (some ((⟨#[]⟩ : ByteArray), 2)) else (some (x5, 0)))
def perigeeref10_Text.l1 : Nat → List (S55) → ByteArray → Int → Int → Option (ByteArray × Int)
  | 0, _, _, _, _ => none
  | k + 1, x0, x5, x6, x7 => if 0 ≤ x6 then (if x6 < (x0.length : Int) then (if x7 < (((rd_T55 x0 x6).f3).length : Int) then (if 0 ≤ x7 then ((strconv_Itoa.f ((rd_T62 ((rd_T55 x0 x6).f3) x7).f0)).bind fun t110 => (if 5 + t110.size ≤ 9223372036854775807 then (if ((⟨#[114, 97, 116, 101, 32]⟩ : ByteArray) ++ t110).size + 1 ≤ 9223372036854775807 then ((strconv_Itoa.f ((rd_T62 ((rd_T55 x0 x6).f3) x7).f1)).bind fun t113 => (if (((⟨#[114, 97, 116, 101, 32]⟩ : ByteArray) ++ t110) ++ (⟨#[32]⟩ : ByteArray)).size + t113.size ≤ 9223372036854775807 then (if ((((⟨#[114, 97, 116, 101, 32]⟩ : ByteArray) ++ t110) ++ (⟨#[32]⟩ : ByteArray)) ++ t113).size + 1 ≤ 9223372036854775807 then (if x5.size + (((((⟨#[114, 97, 116, 101, 32]⟩ : ByteArray) ++ t110) ++ (⟨#[32]⟩ : ByteArray)) ++ t113) ++ (⟨#[10]⟩ : ByteArray)).size ≤ 9223372036854775807 then (perigeeref10_Text.l1 k x0 (x5 ++ (((((⟨#[114, 97, 116, 101, 32]⟩ : ByteArray) ++ t110) ++ (⟨#[32]⟩ : ByteArray)) ++ t113) ++ (⟨#[10]⟩ : ByteArray))) x6 (wrap64 (x7 + 1))) else (none)) else (none)) else (none))) else (none)) else (none))) else (none)) else (perigeeref10_Text.l0 k x0 x5 (wrap64 (x6 + 1)))) else (none)) else (none)
end
def perigeeref10_Text.f (k : Nat) (l0 : List (S55)) : Option (ByteArray × Int) := (perigeeref10_CheckPasses.f k l0).bind fun t101 => (if t101 = 0 then (perigeeref10_Text.l0 k l0 (⟨#[]⟩ : ByteArray) 0) else (some ((⟨#[]⟩ : ByteArray), t101)))
def perigeeref10_Text.T8 : Bool × List (List Nat × List Nat) := (true, [([], []), ([], []), ([], []), ([1, 2], [1, 2]), ([3], [3]), ([4], [4]), ([5], [5]), ([6], [6]), ([], []), ([], []), ([8, 9], [8, 9]), ([10], [10]), ([11], [11]), ([12], [12]), ([7, 13], [7, 13]), ([14], [14]), ([], []), ([], []), ([16, 17], [16, 17]), ([18], [18]), ([19], [19]), ([20, 13], [20]), ([15, 21], [15, 21]), ([22], [22]), ([0, 23], [0, 23]), ([24, 21, 0, 1, 2, 3, 4, 5, 6, 7, 8, 9, 10, 11, 12, 13, 14, 15, 16, 17, 18, 19, 20, 21, 22, 23, 24], [0, 24])])
def perigeeref10_Text.B8 : List Nat := [0, 0, 0, 6, 14, 30, 62, 126, 0, 0, 768, 1792, 3840, 7936, 16382, 32766, 0, 0, 196608, 458752, 983040, 2047744, 4194302, 8388606, 16777215, 33554431]
theorem perigeeref10_Text.tab8 : rtab .any (opsOf Tryd.f11 8) = perigeeref10_Text.T8 := by kernel_rfl
theorem perigeeref10_Text.bits8 : waitsOk perigeeref10_Text.T8.2 perigeeref10_Text.B8 = true := by kernel_rfl
def perigeeref10_Text.T12 : Bool × List (List Nat × List Nat) := (true, [([], []), ([], []), ([], []), ([1, 2], [1, 2]), ([3], [3]), ([4], [4]), ([], []), ([5, 6], [5, 6]), ([7], [7]), ([8], [8]), ([9], [9]), ([10], [10]), ([11], [11]), ([], []), ([], []), ([13, 14], [13, 14]), ([15], [15]), ([16], [16]), ([], []), ([17, 18], [17, 18]), ([19], [19]), ([20], [20]), ([21, 10], [21]), ([12, 22], [12, 22]), ([23], [23]), ([0, 24], [0, 24]), ([25, 22, 0, 1, 2, 3, 4, 5, 6, 7, 8, 9, 10, 11, 12, 13, 14, 15, 16, 17, 18, 19, 20, 21, 22, 23, 24, 25], [0, 25])])
def perigeeref10_Text.B12 : List Nat := [0, 0, 0, 6, 14, 30, 0, 126, 254, 510, 1022, 2046, 4094, 0, 0, 24576, 57344, 122880, 0, 516096, 1040384, 2088960, 4188158, 8388606, 16777214, 33554431, 67108863]
theorem perigeeref10_Text.tab12 : rtab .any (opsOf Tryd.f11 12) = perigeeref10_Text.T12 := by kernel_rfl
theorem perigeeref10_Text.bits12 : waitsOk perigeeref10_Text.T12.2 perigeeref10_Text.B12 = true := by kernel_rfl
theorem d11a {p : Prop} (h : p := by (try simp only [List.map_toArray, List.map_cons, List.map_nil]); first | done | rfl | (simp only [List.length_drop, List.length_take]; rfl)) : p := h
theorem d11b {p : Prop} (h : p := by repeat (first | (with_reducible first | exact HB.out | apply below_alloc | apply pw_below_drewN | apply below_drew1) | exact HB.out)) : p := h
theorem d11c {p : Prop} (h : p := by first | rfl | (simp [errW_none, errW_some] <;> rfl) | (simp [*, errW_none, errW_some] <;> rfl)) : p := h
theorem d11d {p : Prop} (h : p := by first | (with_reducible assumption) | assumption) : p := h
theorem d11e {p : Prop} (h : p := by first | rfl | (simp; done) | (simp [*]; done)) : p := h
set_option maxHeartbeats 8000000 in
set_option maxRecDepth 100000 in
theorem perigeeref10_Text.calls (k : Nat) (A0 : Option Addr) (c0 : Nat) (l0 : List (S55)) (r1 : ByteArray) (r2 : Int) (w : World) (hr0 : Kd.C k55 w A0 l0.length l0) (hc0 : l0.length ≤ c0) (hV : VarsOK w) (h : perigeeref10_Text.f k l0 = some (r1, r2)) :
 Calls Tryd.prog 11 #[.slice A0 l0.length c0] w fun e w' => e = .returned (.tuple #[.string r1, .int .i64 r2]) ∧ Below w.heap.size w w' := by
 have HV := Aside0.mk hV
 clear hV
 have HR0 := Aside0.mk hr0
 have HC0 := Aside0.mk hc0
 clear hr0 hc0
 have HB := Aside0.mk (Below.refl w.heap.size w)
 have H : ((perigeeref10_CheckPasses.f k l0).bind fun t101 => (if t101 = 0 then (perigeeref10_Text.l0 k l0 (⟨#[]⟩ : ByteArray) 0) else (some ((⟨#[]⟩ : ByteArray), t101)))) = some (r1, r2) := h
 clear h
 replace H := bindS H; obtain ⟨t101, A2, H⟩ := H
 by_cases c3 : t101 = 0
 · rw [if_pos c3] at H
   have c3b0 : (t101 == 0) = true := beq_iff_eq.mpr c3
   have c3b1 : (t101 != 0) = false := bne_eq_false_iff_eq.mpr c3
   clear c3
   have H' := Aside0.mk H
   clear H
   go_enter Tryd.func11, Tryd.ntmps11
   go_wp2_with ((with_reducible refine gate_callee (f := 33) rfl ?_); refine goesL_ (some 9) rfl rfl Tryd.func33 (by kernel_rfl) rfl #[.slice A0 l0.length c0] rfl d11a ?_; (with_reducible refine (perigeeref10_CheckPasses.calls k _ _ l0 t101 _ ?side1 ?side2 A2.out).mono ?_); (case side1 => exact C_go HR0.out); (case side2 => exact HC0.out); rintro e w4 ⟨rfl, hb⟩; refine ⟨_, rfl, ?_⟩; replace HB := Aside0.mk (below_step d11b hb); (try clear hb))
   go_loopg [5, 6] k (fun kq v5 v6 w' => ∃ (x5_1 : ByteArray) (x6_1 : Int), v5 = .string x5_1 ∧ v6 = .int .i64 x6_1 ∧ Aside0 (perigeeref10_Text.l0 kq l0 x5_1 x6_1 = some (r1, r2)) ∧ Aside0 (kq ≤ k) ∧ Aside0 (Below w.heap.size w w'))
   case atStart => exact ⟨((⟨#[]⟩ : ByteArray)), (0), d11e, d11e, H', ⟨Nat.le_refl _⟩, ⟨d11b⟩⟩
   case round =>
    clear H'
    try clear c3b0
    try clear c3b1
    obtain ⟨x5_1, x6_1, rfl, rfl, HA, HK1, HB⟩ := hrel
    cases gk with
    | zero => exact absurd HA.out (by simp [perigeeref10_Text.l0])
    | succ k1 =>
     have H := HA.out
     clear HA
     simp only [perigeeref10_Text.l0] at H
     by_cases c5 : x6_1 < (l0.length : Int)
     · rw [if_pos c5] at H
       have c5b0 : decide (x6_1 < (l0.length : Int)) = true := decide_eq_true c5
       clear c5
       replace H := guardT H; obtain ⟨c6, H⟩ := H
       have c6b0 : decide (0 ≤ x6_1) = true := decide_eq_true c6
       clear c6
       replace H := guardT H; obtain ⟨c7, H⟩ := H
       have c7b0 := eq_true c7
       have c7b1 : decide (5 + ((rd_T55 l0 x6_1).f0).size ≤ 9223372036854775807) = true := decide_eq_true c7
       try have c7b2 : (9223372036854775807 < 5 + ((rd_T55 l0 x6_1).f0).size) = False := eq_false (Nat.not_lt.2 c7)
       replace H := guardT H; obtain ⟨c8, H⟩ := H
       have c8b0 := eq_true c8
       have c8b1 : decide (((⟨#[112, 97, 115, 115, 32]⟩ : ByteArray) ++ ((rd_T55 l0 x6_1).f0)).size + 1 ≤ 9223372036854775807) = true := decide_eq_true c8
       try have c8b2 : (9223372036854775807 < ((⟨#[112, 97, 115, 115, 32]⟩ : ByteArray) ++ ((rd_T55 l0 x6_1).f0)).size + 1) = False := eq_false (Nat.not_lt.2 c8)
       have c8b3 : (9223372036854775807 < 5 + ((rd_T55 l0 x6_1).f0).size + 1) = False := eq_false (Nat.not_lt.2 (by have h_ := c8; simp only [ByteArray.size_append] at h_; exact h_))
       replace H := bindS H; obtain ⟨t104, A9, H⟩ := H
       replace H := guardT H; obtain ⟨c10, H⟩ := H
       have c10b0 := eq_true c10
       have c10b1 : decide ((((⟨#[112, 97, 115, 115, 32]⟩ : ByteArray) ++ ((rd_T55 l0 x6_1).f0)) ++ (⟨#[32]⟩ : ByteArray)).size + t104.size ≤ 9223372036854775807) = true := decide_eq_true c10
       try have c10b2 : (9223372036854775807 < (((⟨#[112, 97, 115, 115, 32]⟩ : ByteArray) ++ ((rd_T55 l0 x6_1).f0)) ++ (⟨#[32]⟩ : ByteArray)).size + t104.size) = False := eq_false (Nat.not_lt.2 c10)
       have c10b3 : (9223372036854775807 < 5 + ((rd_T55 l0 x6_1).f0).size + 1 + t104.size) = False := eq_false (Nat.not_lt.2 (by have h_ := c10; simp only [ByteArray.size_append] at h_; exact h_))
       replace H := guardT H; obtain ⟨c11, H⟩ := H
       have c11b0 := eq_true c11
       have c11b1 : decide (((((⟨#[112, 97, 115, 115, 32]⟩ : ByteArray) ++ ((rd_T55 l0 x6_1).f0)) ++ (⟨#[32]⟩ : ByteArray)) ++ t104).size + 1 ≤ 9223372036854775807) = true := decide_eq_true c11
       try have c11b2 : (9223372036854775807 < ((((⟨#[112, 97, 115, 115, 32]⟩ : ByteArray) ++ ((rd_T55 l0 x6_1).f0)) ++ (⟨#[32]⟩ : ByteArray)) ++ t104).size + 1) = False := eq_false (Nat.not_lt.2 c11)
       have c11b3 : (9223372036854775807 < 5 + ((rd_T55 l0 x6_1).f0).size + 1 + t104.size + 1) = False := eq_false (Nat.not_lt.2 (by have h_ := c11; simp only [ByteArray.size_append] at h_; exact h_))
       replace H := bindS H; obtain ⟨t106, A12, H⟩ := H
       replace H := guardT H; obtain ⟨c13, H⟩ := H
       have c13b0 := eq_true c13
       have c13b1 : decide ((((((⟨#[112, 97, 115, 115, 32]⟩ : ByteArray) ++ ((rd_T55 l0 x6_1).f0)) ++ (⟨#[32]⟩ : ByteArray)) ++ t104) ++ (⟨#[32]⟩ : ByteArray)).size + t106.size ≤ 9223372036854775807) = true := decide_eq_true c13
       try have c13b2 : (9223372036854775807 < (((((⟨#[112, 97, 115, 115, 32]⟩ : ByteArray) ++ ((rd_T55 l0 x6_1).f0)) ++ (⟨#[32]⟩ : ByteArray)) ++ t104) ++ (⟨#[32]⟩ : ByteArray)).size + t106.size) = False := eq_false (Nat.not_lt.2 c13)
       have c13b3 : (9223372036854775807 < 5 + ((rd_T55 l0 x6_1).f0).size + 1 + t104.size + 1 + t106.size) = False := eq_false (Nat.not_lt.2 (by have h_ := c13; simp only [ByteArray.size_append] at h_; exact h_))
       replace H := guardT H; obtain ⟨c14, H⟩ := H
       have c14b0 := eq_true c14
       have c14b1 : decide (((((((⟨#[112, 97, 115, 115, 32]⟩ : ByteArray) ++ ((rd_T55 l0 x6_1).f0)) ++ (⟨#[32]⟩ : ByteArray)) ++ t104) ++ (⟨#[32]⟩ : ByteArray)) ++ t106).size + 1 ≤ 9223372036854775807) = true := decide_eq_true c14
       try have c14b2 : (9223372036854775807 < ((((((⟨#[112, 97, 115, 115, 32]⟩ : ByteArray) ++ ((rd_T55 l0 x6_1).f0)) ++ (⟨#[32]⟩ : ByteArray)) ++ t104) ++ (⟨#[32]⟩ : ByteArray)) ++ t106).size + 1) = False := eq_false (Nat.not_lt.2 c14)
       have c14b3 : (9223372036854775807 < 5 + ((rd_T55 l0 x6_1).f0).size + 1 + t104.size + 1 + t106.size + 1) = False := eq_false (Nat.not_lt.2 (by have h_ := c14; simp only [ByteArray.size_append] at h_; exact h_))
       replace H := guardT H; obtain ⟨c15, H⟩ := H
       have c15b0 := eq_true c15
       have c15b1 : decide (x5_1.size + (((((((⟨#[112, 97, 115, 115, 32]⟩ : ByteArray) ++ ((rd_T55 l0 x6_1).f0)) ++ (⟨#[32]⟩ : ByteArray)) ++ t104) ++ (⟨#[32]⟩ : ByteArray)) ++ t106) ++ (⟨#[10]⟩ : ByteArray)).size ≤ 9223372036854775807) = true := decide_eq_true c15
       try have c15b2 : (9223372036854775807 < x5_1.size + (((((((⟨#[112, 97, 115, 115, 32]⟩ : ByteArray) ++ ((rd_T55 l0 x6_1).f0)) ++ (⟨#[32]⟩ : ByteArray)) ++ t104) ++ (⟨#[32]⟩ : ByteArray)) ++ t106) ++ (⟨#[10]⟩ : ByteArray)).size) = False := eq_false (Nat.not_lt.2 c15)
       have c15b3 : (9223372036854775807 < x5_1.size + (5 + ((rd_T55 l0 x6_1).f0).size + 1 + t104.size + 1 + t106.size + 1)) = False := eq_false (Nat.not_lt.2 (by have h_ := c15; simp only [ByteArray.size_append] at h_; exact h_))
       have H' := Aside0.mk H
       clear H
       try go_wp2
       have n0_ := Aside0.mk (below_drew1 HB.out)
       clear HB
       have HB := n0_
       clear n0_
       have p102 : 0 ≤ (x6_1 : Int) := of_decide_eq_true d11d
       have q102 : x6_1 < (l0.length : Int) := of_decide_eq_true d11d
       obtain ⟨ad102, A102_3, c102_3, e102, hx102_0, hx102_1, hx102_2, hx102_3, hl102_3, hi102_3⟩ := at_T55 HR0.out x6_1 p102 q102
       have hw102_3 := hx102_3
       have hw102_2 := hx102_2
       have hw102_1 := hx102_1
       have hw102_0 := hx102_0
       cases e102
       replace hx102_0 := cellB HB.out hx102_0
       replace hx102_1 := cellB HB.out hx102_1
       replace hx102_2 := cellB HB.out hx102_2
       replace hx102_3 := cellB HB.out hx102_3
       have HR102_3 := Aside0.mk hi102_3
       have HC102_3 := Aside0.mk hl102_3
       clear hi102_3 hl102_3
       replace p102 := eq_true p102
       replace q102 := eq_true q102
       have p103 : 0 ≤ (x6_1 : Int) := of_decide_eq_true d11d
       have q103 : x6_1 < (l0.length : Int) := of_decide_eq_true d11d
       obtain ⟨ad103, A103_3, c103_3, e103, hx103_0, hx103_1, hx103_2, hx103_3, hl103_3, hi103_3⟩ := at_T55 HR0.out x6_1 p103 q103
       have hw103_3 := hx103_3
       have hw103_2 := hx103_2
       have hw103_1 := hx103_1
       have hw103_0 := hx103_0
       obtain rfl : ad102 = ad103 := (by injection e103)
       replace hx103_0 := cellB HB.out hx103_0
       replace hx103_1 := cellB HB.out hx103_1
       replace hx103_2 := cellB HB.out hx103_2
       replace hx103_3 := cellB HB.out hx103_3
       have HR103_3 := Aside0.mk hi103_3
       have HC103_3 := Aside0.mk hl103_3
       clear hi103_3 hl103_3
       replace p103 := eq_true p103
       replace q103 := eq_true q103
       have ea_ := Option.some.inj (hx102_3.symm.trans hx103_3)
       injection ea_ with ea_ en_ ec_
       subst ea_
       subst ec_
       clear en_
       have p105 : 0 ≤ (x6_1 : Int) := of_decide_eq_true d11d
       have q105 : x6_1 < (l0.length : Int) := of_decide_eq_true d11d
       obtain ⟨ad105, A105_3, c105_3, e105, hx105_0, hx105_1, hx105_2, hx105_3, hl105_3, hi105_3⟩ := at_T55 HR0.out x6_1 p105 q105
       have hw105_3 := hx105_3
       have hw105_2 := hx105_2
       have hw105_1 := hx105_1
       have hw105_0 := hx105_0
       obtain rfl : ad102 = ad105 := (by injection e105)
       replace hx105_0 := cellB HB.out hx105_0
       replace hx105_1 := cellB HB.out hx105_1
       replace hx105_2 := cellB HB.out hx105_2
       replace hx105_3 := cellB HB.out hx105_3
       have HR105_3 := Aside0.mk hi105_3
       have HC105_3 := Aside0.mk hl105_3
       clear hi105_3 hl105_3
       replace p105 := eq_true p105
       replace q105 := eq_true q105
       have ea_ := Option.some.inj (hx102_3.symm.trans hx105_3)
       injection ea_ with ea_ en_ ec_
       subst ea_
       subst ec_
       clear en_
       refine start_ (n := 26) (S := fun w' => w'.cell? (ad102.add ((x6_1).toNat * 4)) = some (.string ((rd_T55 l0 x6_1).f0)) ∧ w'.cell? ⟨(ad102.add ((x6_1).toNat * 4)).block, (ad102.add ((x6_1).toNat * 4)).off + 1, none⟩ = some (.int .i64 ((rd_T55 l0 x6_1).f1)) ∧ w'.cell? ⟨(ad102.add ((x6_1).toNat * 4)).block, (ad102.add ((x6_1).toNat * 4)).off + 2, none⟩ = some (.int .i64 ((rd_T55 l0 x6_1).f2)) ∧ w'.cell? ⟨(ad102.add ((x6_1).toNat * 4)).block, (ad102.add ((x6_1).toNat * 4)).off + 3, none⟩ = some (.slice A102_3 ((rd_T55 l0 x6_1).f3).length c102_3) ∧ w'.cell? (ad102.add ((x6_1).toNat * 4)) = some (.string ((rd_T55 l0 x6_1).f0)) ∧ w'.cell? ⟨(ad102.add ((x6_1).toNat * 4)).block, (ad102.add ((x6_1).toNat * 4)).off + 1, none⟩ = some (.int .i64 ((rd_T55 l0 x6_1).f1)) ∧ w'.cell? ⟨(ad102.add ((x6_1).toNat * 4)).block, (ad102.add ((x6_1).toNat * 4)).off + 2, none⟩ = some (.int .i64 ((rd_T55 l0 x6_1).f2)) ∧ w'.cell? ⟨(ad102.add ((x6_1).toNat * 4)).block, (ad102.add ((x6_1).toNat * 4)).off + 3, none⟩ = some (.slice A102_3 ((rd_T55 l0 x6_1).f3).length c102_3) ∧ w'.cell? (ad102.add ((x6_1).toNat * 4)) = some (.string ((rd_T55 l0 x6_1).f0)) ∧ w'.cell? ⟨(ad102.add ((x6_1).toNat * 4)).block, (ad102.add ((x6_1).toNat * 4)).off + 1, none⟩ = some (.int .i64 ((rd_T55 l0 x6_1).f1)) ∧ w'.cell? ⟨(ad102.add ((x6_1).toNat * 4)).block, (ad102.add ((x6_1).toNat * 4)).off + 2, none⟩ = some (.int .i64 ((rd_T55 l0 x6_1).f2)) ∧ w'.cell? ⟨(ad102.add ((x6_1).toNat * 4)).block, (ad102.add ((x6_1).toNat * 4)).off + 3, none⟩ = some (.slice A102_3 ((rd_T55 l0 x6_1).f3).length c102_3)) (ds := []) #[false, false, false, false, false, false, false, false, false, false, false, false, false, false, false, false, false, false, false, false, false, false, false, false, false, false] (by kernel_rfl) rfl rfl ⟨((HB.out.cell (World.block_lt_of_cell? w _ hw102_0)).trans hw102_0), ((HB.out.cell (World.block_lt_of_cell? w _ hw102_1)).trans hw102_1), ((HB.out.cell (World.block_lt_of_cell? w _ hw102_2)).trans hw102_2), ((HB.out.cell (World.block_lt_of_cell? w _ hw102_3)).trans hw102_3), ((HB.out.cell (World.block_lt_of_cell? w _ hw103_0)).trans hw103_0), ((HB.out.cell (World.block_lt_of_cell? w _ hw103_1)).trans hw103_1), ((HB.out.cell (World.block_lt_of_cell? w _ hw103_2)).trans hw103_2), ((HB.out.cell (World.block_lt_of_cell? w _ hw103_3)).trans hw103_3), ((HB.out.cell (World.block_lt_of_cell? w _ hw105_0)).trans hw105_0), ((HB.out.cell (World.block_lt_of_cell? w _ hw105_1)).trans hw105_1), ((HB.out.cell (World.block_lt_of_cell? w _ hw105_2)).trans hw105_2), ((HB.out.cell (World.block_lt_of_cell? w _ hw105_3)).trans hw105_3)⟩ (fun hHeld => ?_); refine with_tabW perigeeref10_Text.tab8 perigeeref10_Text.bits8 (fun HT_ HW_ => ?_)
       generalize wr.drew = w16 at HB HR102_3 HR103_3 HR105_3 hx102_0 hx102_1 hx102_2 hx102_3 hx103_0 hx103_1 hx103_2 hx103_3 hx105_0 hx105_1 hx105_2 hx105_3 hHeld ⊢
       refine pure_ (i := 0) (N := some 19) (v := ?_) (a' := ?_) #[true, false, false, false, false, false, false, false, false, false, false, false, false, false, false, false, false, false, false, false, false, false, false, false, false, false] rfl rfl (any_of HT_.out (by kernel_rfl)) (fun _ _ _ h => h) (Or.inl ⟨by rfl, ?_⟩) ?_ ?_
       rotate_left
       · intro w'
         go_simp
         with_reducible rfl
       rotate_left
       · simp only [Act.put, List.setIfInBounds_toArray, List.set_cons_zero, List.set_cons_succ, i64_w, i32_w]
         rfl
       refine pure_ (i := 1) (N := some 20) (v := ?_) (a' := ?_) #[true, true, false, false, false, false, false, false, false, false, false, false, false, false, false, false, false, false, false, false, false, false, false, false, false, false] rfl rfl (any_of HT_.out (by kernel_rfl)) (fun _ _ _ h => h) (Or.inl ⟨by rfl, ?_⟩) ?_ ?_
       rotate_left
       · intro w'
         go_simp
         with_reducible rfl
       rotate_left
       · simp only [Act.put, List.setIfInBounds_toArray, List.set_cons_zero, List.set_cons_succ, i64_w, i32_w]
         rfl
       refine pure_ (i := 2) (N := some 21) (v := ?_) (a' := ?_) #[true, true, true, false, false, false, false, false, false, false, false, false, false, false, false, false, false, false, false, false, false, false, false, false, false, false] rfl rfl (any_of HT_.out (by kernel_rfl)) (fun _ _ _ h => h) (Or.inl ⟨by rfl, ?_⟩) ?_ ?_
       rotate_left
       · intro w'
         go_simp
         with_reducible rfl
       rotate_left
       · simp only [Act.put, List.setIfInBounds_toArray, List.set_cons_zero, List.set_cons_succ, i64_w, i32_w]
         rfl
       refine pure_ (i := 3) (N := some 22) (v := ?_) (a' := ?_) #[true, true, true, true, false, false, false, false, false, false, false, false, false, false, false, false, false, false, false, false, false, false, false, false, false, false] rfl rfl (any_of HT_.out (by kernel_rfl)) (fun _ _ _ h => h) (Or.inl ⟨by rfl, ?_⟩) ?_ ?_
       rotate_left
       · intro w'
         go_simp
         with_reducible rfl
       rotate_left
       · simp only [Act.put, List.setIfInBounds_toArray, List.set_cons_zero, List.set_cons_succ, i64_w, i32_w]
         rfl
       refine pure_ (i := 4) (N := some 23) (v := ?_) (a' := ?_) #[true, true, true, true, true, false, false, false, false, false, false, false, false, false, false, false, false, false, false, false, false, false, false, false, false, false] rfl rfl (any_of HT_.out (by kernel_rfl)) (fun _ _ _ h => h) (Or.inl ⟨by rfl, ?_⟩) ?_ ?_
       rotate_left
       · intro w'
         go_simp
         with_reducible rfl
       rotate_left
       · simp only [Act.put, List.setIfInBounds_toArray, List.set_cons_zero, List.set_cons_succ, i64_w, i32_w]
         rfl
       refine pure_ (i := 8) (N := some 27) (v := ?_) (a' := ?_) #[true, true, true, true, true, false, false, false, true, false, false, false, false, false, false, false, false, false, false, false, false, false, false, false, false, false] rfl rfl (any_of HT_.out (by kernel_rfl)) (fun _ _ _ h => h) (Or.inl ⟨by rfl, ?_⟩) ?_ ?_
       rotate_left
       · intro w'
         go_simp
         with_reducible rfl
       rotate_left
       · simp only [Act.put, List.setIfInBounds_toArray, List.set_cons_zero, List.set_cons_succ, i64_w, i32_w]
         rfl
       refine pure_ (i := 9) (N := some 28) (v := ?_) (a' := ?_) #[true, true, true, true, true, false, false, false, true, true, false, false, false, false, false, false, false, false, false, false, false, false, false, false, false, false] rfl rfl (any_of HT_.out (by kernel_rfl)) (fun _ _ _ h => h) (Or.inl ⟨by rfl, ?_⟩) ?_ ?_
       rotate_left
       · intro w'
         go_simp
         with_reducible rfl
       rotate_left
       · simp only [Act.put, List.setIfInBounds_toArray, List.set_cons_zero, List.set_cons_succ, i64_w, i32_w]
         rfl
       refine pure_ (i := 10) (N := some 29) (v := ?_) (a' := ?_) #[true, true, true, true, true, false, false, false, true, true, true, false, false, false, false, false, false, false, false, false, false, false, false, false, false, false] rfl rfl (any_of HT_.out (by kernel_rfl)) (fun _ _ _ h => h) (Or.inl ⟨by rfl, ?_⟩) ?_ ?_
       rotate_left
       · intro w'
         go_simp
         with_reducible rfl
       rotate_left
       · simp only [Act.put, List.setIfInBounds_toArray, List.set_cons_zero, List.set_cons_succ, i64_w, i32_w]
         rfl
       refine pure_ (i := 11) (N := some 30) (v := ?_) (a' := ?_) #[true, true, true, true, true, false, false, false, true, true, true, true, false, false, false, false, false, false, false, false, false, false, false, false, false, false] rfl rfl (any_of HT_.out (by kernel_rfl)) (fun _ _ _ h => h) (Or.inl ⟨by rfl, ?_⟩) ?_ ?_
       rotate_left
       · intro w'
         go_simp
         with_reducible rfl
       rotate_left
       · simp only [Act.put, List.setIfInBounds_toArray, List.set_cons_zero, List.set_cons_succ, i64_w, i32_w]
         rfl
       refine pure_ (i := 16) (N := some 35) (v := ?_) (a' := ?_) #[true, true, true, true, true, false, false, false, true, true, true, true, false, false, false, false, true, false, false, false, false, false, false, false, false, false] rfl rfl (any_of HT_.out (by kernel_rfl)) (fun _ _ _ h => h) (Or.inl ⟨by rfl, ?_⟩) ?_ ?_
       rotate_left
       · intro w'
         go_simp
         with_reducible rfl
       rotate_left
       · simp only [Act.put, List.setIfInBounds_toArray, List.set_cons_zero, List.set_cons_succ, i64_w, i32_w]
         rfl
       refine pure_ (i := 17) (N := some 36) (v := ?_) (a' := ?_) #[true, true, true, true, true, false, false, false, true, true, true, true, false, false, false, false, true, true, false, false, false, false, false, false, false, false] rfl rfl (any_of HT_.out (by kernel_rfl)) (fun _ _ _ h => h) (Or.inl ⟨by rfl, ?_⟩) ?_ ?_
       rotate_left
       · intro w'
         go_simp
         with_reducible rfl
       rotate_left
       · simp only [Act.put, List.setIfInBounds_toArray, List.set_cons_zero, List.set_cons_succ, i64_w, i32_w]
         rfl
       refine pure_ (i := 18) (N := some 37) (v := ?_) (a' := ?_) #[true, true, true, true, true, false, false, false, true, true, true, true, false, false, false, false, true, true, true, false, false, false, false, false, false, false] rfl rfl (any_of HT_.out (by kernel_rfl)) (fun _ _ _ h => h) (Or.inl ⟨by rfl, ?_⟩) ?_ ?_
       rotate_left
       · intro w'
         go_simp
         with_reducible rfl
       rotate_left
       · simp only [Act.put, List.setIfInBounds_toArray, List.set_cons_zero, List.set_cons_succ, i64_w, i32_w]
         rfl
       refine pure_ (i := 19) (N := some 38) (v := ?_) (a' := ?_) #[true, true, true, true, true, false, false, false, true, true, true, true, false, false, false, false, true, true, true, true, false, false, false, false, false, false] rfl rfl (any_of HT_.out (by kernel_rfl)) (fun _ _ _ h => h) (Or.inl ⟨by rfl, ?_⟩) ?_ ?_
       rotate_left
       · intro w'
         go_simp
         with_reducible rfl
       rotate_left
       · simp only [Act.put, List.setIfInBounds_toArray, List.set_cons_zero, List.set_cons_succ, i64_w, i32_w]
         rfl
       refine take_ (i := 5) (N := some 24) (v := ?_) (a' := ?_) #[true, true, true, true, true, true, false, false, true, true, true, true, false, false, false, false, true, true, true, true, false, false, false, false, false, false] rfl rfl (take_ofW HT_.out HW_.out (by kernel_rfl)) (fun _ _ _ h => h) (Or.inl ⟨by rfl, ?_⟩) hHeld ?_ ?_
       rotate_left
       · rintro w' ⟨s0, s1, s2, s3, s4, s5, s6, s7, s8, s9, s10, s11⟩
         go_simp
         with_reducible rfl
       rotate_left
       · simp only [Act.put, List.setIfInBounds_toArray, List.set_cons_zero, List.set_cons_succ, i64_w, i32_w]
         rfl
       refine pure_ (i := 6) (N := some 25) (v := ?_) (a' := ?_) #[true, true, true, true, true, true, true, false, true, true, true, true, false, false, false, false, true, true, true, true, false, false, false, false, false, false] rfl rfl (any_of HT_.out (by kernel_rfl)) (fun _ _ _ h => h) (Or.inl ⟨by rfl, ?_⟩) ?_ ?_
       rotate_left
       · intro w'
         go_simp
         with_reducible rfl
       rotate_left
       · simp only [Act.put, List.setIfInBounds_toArray, List.set_cons_zero, List.set_cons_succ, i64_w, i32_w]
         rfl
       refine pure_ (i := 7) (N := some 26) (v := ?_) (a' := ?_) #[true, true, true, true, true, true, true, true, true, true, true, true, false, false, false, false, true, true, true, true, false, false, false, false, false, false] rfl rfl (any_of HT_.out (by kernel_rfl)) (fun _ _ _ h => h) (Or.inl ⟨by rfl, ?_⟩) ?_ ?_
       rotate_left
       · intro w'
         go_simp
         with_reducible rfl
       rotate_left
       · simp only [Act.put, List.setIfInBounds_toArray, List.set_cons_zero, List.set_cons_succ, i64_w, i32_w]
         rfl
       refine take_ (i := 12) (N := some 31) (v := ?_) (a' := ?_) #[true, true, true, true, true, true, true, true, true, true, true, true, true, false, false, false, true, true, true, true, false, false, false, false, false, false] rfl rfl (take_ofW HT_.out HW_.out (by kernel_rfl)) (fun _ _ _ h => h) (Or.inl ⟨by rfl, ?_⟩) hHeld ?_ ?_
       rotate_left
       · rintro w' ⟨s0, s1, s2, s3, s4, s5, s6, s7, s8, s9, s10, s11⟩
         go_simp
         with_reducible rfl
       rotate_left
       · simp only [Act.put, List.setIfInBounds_toArray, List.set_cons_zero, List.set_cons_succ, i64_w, i32_w]
         rfl
       refine take_ (i := 20) (N := some 39) (v := ?_) (a' := ?_) #[true, true, true, true, true, true, true, true, true, true, true, true, true, false, false, false, true, true, true, true, true, false, false, false, false, false] rfl rfl (take_ofW HT_.out HW_.out (by kernel_rfl)) (fun _ _ _ h => h) (Or.inl ⟨by rfl, ?_⟩) hHeld ?_ ?_
       rotate_left
       · rintro w' ⟨s0, s1, s2, s3, s4, s5, s6, s7, s8, s9, s10, s11⟩
         go_simp
         with_reducible rfl
       rotate_left
       · simp only [Act.put, List.setIfInBounds_toArray, List.set_cons_zero, List.set_cons_succ, i64_w, i32_w]
         rfl
       refine one_ (i := 13) (N := some 32) #[true, true, true, true, true, true, true, true, true, true, true, true, true, true, false, false, true, true, true, true, true, false, false, false, false, false] rfl rfl (one_of HT_.out (by kernel_rfl)) (by decide) (fun K hK => ?_)
       refine goes_ Tryd.func26 (by kernel_rfl) rfl #[.int .i64 ((rd_T55 l0 x6_1).f1)] (by rfl) rfl rfl d11a ?_
       with_reducible refine (strconv_Itoa.calls ((rd_T55 l0 x6_1).f1) t104 _ (HV.out.below d11b) A9.out).mono ?_
       rintro e w17 ⟨rfl, hb⟩
       refine ⟨_, rfl, ?_⟩
       have n0_ := Aside0.mk (below_step d11b hb)
       clear HB
       have HB := n0_
       clear n0_
       (try clear hb)
       skip
       skip
       skip
       refine hK.out _ _ ⟨((HB.out.cell (World.block_lt_of_cell? w _ hw102_0)).trans hw102_0), ((HB.out.cell (World.block_lt_of_cell? w _ hw102_1)).trans hw102_1), ((HB.out.cell (World.block_lt_of_cell? w _ hw102_2)).trans hw102_2), ((HB.out.cell (World.block_lt_of_cell? w _ hw102_3)).trans hw102_3), ((HB.out.cell (World.block_lt_of_cell? w _ hw103_0)).trans hw103_0), ((HB.out.cell (World.block_lt_of_cell? w _ hw103_1)).trans hw103_1), ((HB.out.cell (World.block_lt_of_cell? w _ hw103_2)).trans hw103_2), ((HB.out.cell (World.block_lt_of_cell? w _ hw103_3)).trans hw103_3), ((HB.out.cell (World.block_lt_of_cell? w _ hw105_0)).trans hw105_0), ((HB.out.cell (World.block_lt_of_cell? w _ hw105_1)).trans hw105_1), ((HB.out.cell (World.block_lt_of_cell? w _ hw105_2)).trans hw105_2), ((HB.out.cell (World.block_lt_of_cell? w _ hw105_3)).trans hw105_3)⟩ (fun hHeld => ?_)
       clear hK K
       refine norm_ (a' := ?_) ?_ ?_
       rotate_left
       · show Act.put _ (some 32) _ = _
         simp only [Act.put, List.setIfInBounds_toArray, List.set_cons_zero, List.set_cons_succ, i64_w, i32_w]
         rfl
       refine pure_ (i := 14) (N := some 33) (v := ?_) (a' := ?_) #[true, true, true, true, true, true, true, true, true, true, true, true, true, true, true, false, true, true, true, true, true, false, false, false, false, false] rfl rfl (any_of HT_.out (by kernel_rfl)) (fun _ _ _ h => h) (Or.inl ⟨by rfl, ?_⟩) ?_ ?_
       rotate_left
       · intro w'
         go_simp
         with_reducible rfl
       rotate_left
       · simp only [Act.put, List.setIfInBounds_toArray, List.set_cons_zero, List.set_cons_succ, i64_w, i32_w]
         rfl
       refine pure_ (i := 15) (N := some 34) (v := ?_) (a' := ?_) #[true, true, true, true, true, true, true, true, true, true, true, true, true, true, true, true, true, true, true, true, true, false, false, false, false, false] rfl rfl (any_of HT_.out (by kernel_rfl)) (fun _ _ _ h => h) (Or.inl ⟨by rfl, ?_⟩) ?_ ?_
       rotate_left
       · intro w'
         go_simp
         with_reducible rfl
       rotate_left
       · simp only [Act.put, List.setIfInBounds_toArray, List.set_cons_zero, List.set_cons_succ, i64_w, i32_w]
         rfl
       refine one_ (i := 21) (N := some 40) #[true, true, true, true, true, true, true, true, true, true, true, true, true, true, true, true, true, true, true, true, true, true, false, false, false, false] rfl rfl (one_of HT_.out (by kernel_rfl)) (by decide) (fun K hK => ?_)
       refine goes_ Tryd.func26 (by kernel_rfl) rfl #[.int .i64 ((rd_T55 l0 x6_1).f2)] (by rfl) rfl rfl d11a ?_
       with_reducible refine (strconv_Itoa.calls ((rd_T55 l0 x6_1).f2) t106 _ (HV.out.below d11b) A12.out).mono ?_
       rintro e w18 ⟨rfl, hb⟩
       refine ⟨_, rfl, ?_⟩
       have n0_ := Aside0.mk (below_step d11b hb)
       clear HB
       have HB := n0_
       clear n0_
       (try clear hb)
       skip
       skip
       skip
       refine hK.out _ _ ⟨((HB.out.cell (World.block_lt_of_cell? w _ hw102_0)).trans hw102_0), ((HB.out.cell (World.block_lt_of_cell? w _ hw102_1)).trans hw102_1), ((HB.out.cell (World.block_lt_of_cell? w _ hw102_2)).trans hw102_2), ((HB.out.cell (World.block_lt_of_cell? w _ hw102_3)).trans hw102_3), ((HB.out.cell (World.block_lt_of_cell? w _ hw103_0)).trans hw103_0), ((HB.out.cell (World.block_lt_of_cell? w _ hw103_1)).trans hw103_1), ((HB.out.cell (World.block_lt_of_cell? w _ hw103_2)).trans hw103_2), ((HB.out.cell (World.block_lt_of_cell? w _ hw103_3)).trans hw103_3), ((HB.out.cell (World.block_lt_of_cell? w _ hw105_0)).trans hw105_0), ((HB.out.cell (World.block_lt_of_cell? w _ hw105_1)).trans hw105_1), ((HB.out.cell (World.block_lt_of_cell? w _ hw105_2)).trans hw105_2), ((HB.out.cell (World.block_lt_of_cell? w _ hw105_3)).trans hw105_3)⟩ (fun hHeld => ?_)
       clear hK K
       refine norm_ (a' := ?_) ?_ ?_
       rotate_left
       · show Act.put _ (some 40) _ = _
         simp only [Act.put, List.setIfInBounds_toArray, List.set_cons_zero, List.set_cons_succ, i64_w, i32_w]
         rfl
       refine pure_ (i := 22) (N := some 41) (v := ?_) (a' := ?_) #[true, true, true, true, true, true, true, true, true, true, true, true, true, true, true, true, true, true, true, true, true, true, true, false, false, false] rfl rfl (any_of HT_.out (by kernel_rfl)) (fun _ _ _ h => h) (Or.inl ⟨by rfl, ?_⟩) ?_ ?_
       rotate_left
       · intro w'
         go_simp
         with_reducible rfl
       rotate_left
       · simp only [Act.put, List.setIfInBounds_toArray, List.set_cons_zero, List.set_cons_succ, i64_w, i32_w]
         rfl
       refine pure_ (i := 23) (N := some 42) (v := ?_) (a' := ?_) #[true, true, true, true, true, true, true, true, true, true, true, true, true, true, true, true, true, true, true, true, true, true, true, true, false, false] rfl rfl (any_of HT_.out (by kernel_rfl)) (fun _ _ _ h => h) (Or.inl ⟨by rfl, ?_⟩) ?_ ?_
       rotate_left
       · intro w'
         go_simp
         with_reducible rfl
       rotate_left
       · simp only [Act.put, List.setIfInBounds_toArray, List.set_cons_zero, List.set_cons_succ, i64_w, i32_w]
         rfl
       refine pure_ (i := 24) (N := some 43) (v := ?_) (a' := ?_) #[true, true, true, true, true, true, true, true, true, true, true, true, true, true, true, true, true, true, true, true, true, true, true, true, true, false] rfl rfl (any_of HT_.out (by kernel_rfl)) (fun _ _ _ h => h) (Or.inl ⟨by rfl, ?_⟩) ?_ ?_
       rotate_left
       · intro w'
         go_simp
         with_reducible rfl
       rotate_left
       · simp only [Act.put, List.setIfInBounds_toArray, List.set_cons_zero, List.set_cons_succ, i64_w, i32_w]
         rfl
       refine pure_ (i := 25) (N := some 5) (v := ?_) (a' := ?_) #[true, true, true, true, true, true, true, true, true, true, true, true, true, true, true, true, true, true, true, true, true, true, true, true, true, true] rfl rfl (any_of HT_.out (by kernel_rfl)) (fun _ _ _ h => h) (Or.inl ⟨by rfl, ?_⟩) ?_ ?_
       rotate_left
       · intro w'
         go_simp
         with_reducible rfl
       rotate_left
       · simp only [Act.put, List.setIfInBounds_toArray, List.set_cons_zero, List.set_cons_succ, i64_w, i32_w]
         rfl
       refine done_ (done_of HT_.out (by kernel_rfl)) ?_
       try go_wp2
       go_loopg [5, 7] k1 (fun kq v5 v7 w' => ∃ (x5_2 : ByteArray) (x7_2 : Int), v5 = .string x5_2 ∧ v7 = .int .i64 x7_2 ∧ Aside0 (perigeeref10_Text.l1 kq l0 x5_2 x6_1 x7_2 = some (r1, r2)) ∧ Aside0 (kq ≤ k1) ∧ Aside0 (Below w.heap.size w w'))
       case atStart => exact ⟨(x5_1 ++ (((((((⟨#[112, 97, 115, 115, 32]⟩ : ByteArray) ++ ((rd_T55 l0 x6_1).f0)) ++ (⟨#[32]⟩ : ByteArray)) ++ t104) ++ (⟨#[32]⟩ : ByteArray)) ++ t106) ++ (⟨#[10]⟩ : ByteArray))), (0), d11e, d11e, H', ⟨Nat.le_refl _⟩, ⟨d11b⟩⟩
       case round =>
        clear H'
        try clear c5b0
        try clear c6b0
        try clear c7
        try clear c7b0
        try clear c7b1
        try clear c7b2
        try clear c8
        try clear c8b0
        try clear c8b1
        try clear c8b2
        try clear c10
        try clear c10b0
        try clear c10b1
        try clear c10b2
        try clear c11
        try clear c11b0
        try clear c11b1
        try clear c11b2
        try clear c13
        try clear c13b0
        try clear c13b1
        try clear c13b2
        try clear c14
        try clear c14b0
        try clear c14b1
        try clear c14b2
        try clear c15
        try clear c15b0
        try clear c15b1
        try clear c15b2
        try clear hx102_0
        try clear hx102_1
        try clear hx102_2
        try clear hx102_3
        try clear hx103_0
        try clear hx103_1
        try clear hx103_2
        try clear hx103_3
        try clear hx105_0
        try clear hx105_1
        try clear hx105_2
        try clear hx105_3
        try clear p102
        try clear p103
        try clear p105
        try clear q102
        try clear q103
        try clear q105
        obtain ⟨x5_2, x7_2, rfl, rfl, HA, HK2, HB⟩ := hrel
        cases gk with
        | zero => exact absurd HA.out (by simp [perigeeref10_Text.l1])
        | succ k2 =>
         have H := HA.out
         clear HA
         simp only [perigeeref10_Text.l1] at H
         replace H := guardT H; obtain ⟨c19, H⟩ := H
         have c19b0 : decide (0 ≤ x6_1) = true := decide_eq_true c19
         clear c19
         replace H := guardT H; obtain ⟨c20, H⟩ := H
         have c20b0 : decide (x6_1 < (l0.length : Int)) = true := decide_eq_true c20
         clear c20
         by_cases c21 : x7_2 < (((rd_T55 l0 x6_1).f3).length : Int)
         · rw [if_pos c21] at H
           have c21b0 : decide (x7_2 < (((rd_T55 l0 x6_1).f3).length : Int)) = true := decide_eq_true c21
           clear c21
           replace H := guardT H; obtain ⟨c22, H⟩ := H
           have c22b0 : decide (0 ≤ x7_2) = true := decide_eq_true c22
           clear c22
           replace H := bindS H; obtain ⟨t110, A23, H⟩ := H
           replace H := guardT H; obtain ⟨c24, H⟩ := H
           have c24b0 := eq_true c24
           have c24b1 : decide (5 + t110.size ≤ 9223372036854775807) = true := decide_eq_true c24
           try have c24b2 : (9223372036854775807 < 5 + t110.size) = False := eq_false (Nat.not_lt.2 c24)
           replace H := guardT H; obtain ⟨c25, H⟩ := H
           have c25b0 := eq_true c25
           have c25b1 : decide (((⟨#[114, 97, 116, 101, 32]⟩ : ByteArray) ++ t110).size + 1 ≤ 9223372036854775807) = true := decide_eq_true c25
           try have c25b2 : (9223372036854775807 < ((⟨#[114, 97, 116, 101, 32]⟩ : ByteArray) ++ t110).size + 1) = False := eq_false (Nat.not_lt.2 c25)
           have c25b3 : (9223372036854775807 < 5 + t110.size + 1) = False := eq_false (Nat.not_lt.2 (by have h_ := c25; simp only [ByteArray.size_append] at h_; exact h_))
           replace H := bindS H; obtain ⟨t113, A26, H⟩ := H
           replace H := guardT H; obtain ⟨c27, H⟩ := H
           have c27b0 := eq_true c27
           have c27b1 : decide ((((⟨#[114, 97, 116, 101, 32]⟩ : ByteArray) ++ t110) ++ (⟨#[32]⟩ : ByteArray)).size + t113.size ≤ 9223372036854775807) = true := decide_eq_true c27
           try have c27b2 : (9223372036854775807 < (((⟨#[114, 97, 116, 101, 32]⟩ : ByteArray) ++ t110) ++ (⟨#[32]⟩ : ByteArray)).size + t113.size) = False := eq_false (Nat.not_lt.2 c27)
           have c27b3 : (9223372036854775807 < 5 + t110.size + 1 + t113.size) = False := eq_false (Nat.not_lt.2 (by have h_ := c27; simp only [ByteArray.size_append] at h_; exact h_))
           replace H := guardT H; obtain ⟨c28, H⟩ := H
           have c28b0 := eq_true c28
           have c28b1 : decide (((((⟨#[114, 97, 116, 101, 32]⟩ : ByteArray) ++ t110) ++ (⟨#[32]⟩ : ByteArray)) ++ t113).size + 1 ≤ 9223372036854775807) = true := decide_eq_true c28
           try have c28b2 : (9223372036854775807 < ((((⟨#[114, 97, 116, 101, 32]⟩ : ByteArray) ++ t110) ++ (⟨#[32]⟩ : ByteArray)) ++ t113).size + 1) = False := eq_false (Nat.not_lt.2 c28)
           have c28b3 : (9223372036854775807 < 5 + t110.size + 1 + t113.size + 1) = False := eq_false (Nat.not_lt.2 (by have h_ := c28; simp only [ByteArray.size_append] at h_; exact h_))
           replace H := guardT H; obtain ⟨c29, H⟩ := H
           have c29b0 := eq_true c29
           have c29b1 : decide (x5_2.size + (((((⟨#[114, 97, 116, 101, 32]⟩ : ByteArray) ++ t110) ++ (⟨#[32]⟩ : ByteArray)) ++ t113) ++ (⟨#[10]⟩ : ByteArray)).size ≤ 9223372036854775807) = true := decide_eq_true c29
           try have c29b2 : (9223372036854775807 < x5_2.size + (((((⟨#[114, 97, 116, 101, 32]⟩ : ByteArray) ++ t110) ++ (⟨#[32]⟩ : ByteArray)) ++ t113) ++ (⟨#[10]⟩ : ByteArray)).size) = False := eq_false (Nat.not_lt.2 c29)
           have c29b3 : (9223372036854775807 < x5_2.size + (5 + t110.size + 1 + t113.size + 1)) = False := eq_false (Nat.not_lt.2 (by have h_ := c29; simp only [ByteArray.size_append] at h_; exact h_))
           have H' := Aside0.mk H
           clear H
           have p107 : 0 ≤ (x6_1 : Int) := of_decide_eq_true d11d
           have q107 : x6_1 < (l0.length : Int) := of_decide_eq_true d11d
           obtain ⟨ad107, A107_3, c107_3, e107, hx107_0, hx107_1, hx107_2, hx107_3, hl107_3, hi107_3⟩ := at_T55 HR0.out x6_1 p107 q107
           obtain rfl : ad102 = ad107 := (by injection e107)
           replace hx107_0 := cellB HB.out hx107_0
           replace hx107_1 := cellB HB.out hx107_1
           replace hx107_2 := cellB HB.out hx107_2
           replace hx107_3 := cellB HB.out hx107_3
           have HR107_3 := Aside0.mk hi107_3
           have HC107_3 := Aside0.mk hl107_3
           clear hi107_3 hl107_3
           replace p107 := eq_true p107
           replace q107 := eq_true q107
           try go_wp2
           have n0_ := Aside0.mk (below_drew1 HB.out)
           clear HB
           have HB := n0_
           clear n0_
           have p108 : 0 ≤ (x6_1 : Int) := of_decide_eq_true d11d
           have q108 : x6_1 < (l0.length : Int) := of_decide_eq_true d11d
           obtain ⟨ad108, A108_3, c108_3, e108, hx108_0, hx108_1, hx108_2, hx108_3, hl108_3, hi108_3⟩ := at_T55 HR0.out x6_1 p108 q108
           have hw108_3 := hx108_3
           have hw108_2 := hx108_2
           have hw108_1 := hx108_1
           have hw108_0 := hx108_0
           obtain rfl : ad102 = ad108 := (by injection e108)
           replace hx108_0 := cellB HB.out hx108_0
           replace hx108_1 := cellB HB.out hx108_1
           replace hx108_2 := cellB HB.out hx108_2
           replace hx108_3 := cellB HB.out hx108_3
           have HR108_3 := Aside0.mk hi108_3
           have HC108_3 := Aside0.mk hl108_3
           clear hi108_3 hl108_3
           replace p108 := eq_true p108
           replace q108 := eq_true q108
           have p109 : 0 ≤ (x7_2 : Int) := of_decide_eq_true d11d
           have q109 : x7_2 < (((rd_T55 l0 x6_1).f3).length : Int) := of_decide_eq_true d11d
           obtain ⟨ad109, e109, hx109_0, hx109_1⟩ := at_T62 HR108_3.out x7_2 p109 q109
           have hw109_1 := hx109_1
           have hw109_0 := hx109_0
           cases e109
           replace hx109_0 := cellB HB.out hx109_0
           replace hx109_1 := cellB HB.out hx109_1
           replace p109 := eq_true p109
           replace q109 := eq_true q109
           have p111 : 0 ≤ (x6_1 : Int) := of_decide_eq_true d11d
           have q111 : x6_1 < (l0.length : Int) := of_decide_eq_true d11d
           obtain ⟨ad111, A111_3, c111_3, e111, hx111_0, hx111_1, hx111_2, hx111_3, hl111_3, hi111_3⟩ := at_T55 HR0.out x6_1 p111 q111
           have hw111_3 := hx111_3
           have hw111_2 := hx111_2
           have hw111_1 := hx111_1
           have hw111_0 := hx111_0
           obtain rfl : ad102 = ad111 := (by injection e111)
           replace hx111_0 := cellB HB.out hx111_0
           replace hx111_1 := cellB HB.out hx111_1
           replace hx111_2 := cellB HB.out hx111_2
           replace hx111_3 := cellB HB.out hx111_3
           have HR111_3 := Aside0.mk hi111_3
           have HC111_3 := Aside0.mk hl111_3
           clear hi111_3 hl111_3
           replace p111 := eq_true p111
           replace q111 := eq_true q111
           have ea_ := Option.some.inj (hx108_3.symm.trans hx111_3)
           injection ea_ with ea_ en_ ec_
           subst ea_
           subst ec_
           clear en_
           have p112 : 0 ≤ (x7_2 : Int) := of_decide_eq_true d11d
           have q112 : x7_2 < (((rd_T55 l0 x6_1).f3).length : Int) := of_decide_eq_true d11d
           obtain ⟨ad112, e112, hx112_0, hx112_1⟩ := at_T62 HR111_3.out x7_2 p112 q112
           have hw112_1 := hx112_1
           have hw112_0 := hx112_0
           cases e112
           replace hx112_0 := cellB HB.out hx112_0
           replace hx112_1 := cellB HB.out hx112_1
           replace p112 := eq_true p112
           replace q112 := eq_true q112
           refine start_ (n := 27) (S := fun w' => w'.cell? (ad102.add ((x6_1).toNat * 4)) = some (.string ((rd_T55 l0 x6_1).f0)) ∧ w'.cell? ⟨(ad102.add ((x6_1).toNat * 4)).block, (ad102.add ((x6_1).toNat * 4)).off + 1, none⟩ = some (.int .i64 ((rd_T55 l0 x6_1).f1)) ∧ w'.cell? ⟨(ad102.add ((x6_1).toNat * 4)).block, (ad102.add ((x6_1).toNat * 4)).off + 2, none⟩ = some (.int .i64 ((rd_T55 l0 x6_1).f2)) ∧ w'.cell? ⟨(ad102.add ((x6_1).toNat * 4)).block, (ad102.add ((x6_1).toNat * 4)).off + 3, none⟩ = some (.slice (some ad109) ((rd_T55 l0 x6_1).f3).length c108_3) ∧ w'.cell? (ad109.add ((x7_2).toNat * 2)) = some (.int .i64 ((rd_T62 ((rd_T55 l0 x6_1).f3) x7_2).f0)) ∧ w'.cell? ⟨(ad109.add ((x7_2).toNat * 2)).block, (ad109.add ((x7_2).toNat * 2)).off + 1, none⟩ = some (.int .i64 ((rd_T62 ((rd_T55 l0 x6_1).f3) x7_2).f1)) ∧ w'.cell? (ad102.add ((x6_1).toNat * 4)) = some (.string ((rd_T55 l0 x6_1).f0)) ∧ w'.cell? ⟨(ad102.add ((x6_1).toNat * 4)).block, (ad102.add ((x6_1).toNat * 4)).off + 1, none⟩ = some (.int .i64 ((rd_T55 l0 x6_1).f1)) ∧ w'.cell? ⟨(ad102.add ((x6_1).toNat * 4)).block, (ad102.add ((x6_1).toNat * 4)).off + 2, none⟩ = some (.int .i64 ((rd_T55 l0 x6_1).f2)) ∧ w'.cell? ⟨(ad102.add ((x6_1).toNat * 4)).block, (ad102.add ((x6_1).toNat * 4)).off + 3, none⟩ = some (.slice (some ad109) ((rd_T55 l0 x6_1).f3).length c108_3) ∧ w'.cell? (ad109.add ((x7_2).toNat * 2)) = some (.int .i64 ((rd_T62 ((rd_T55 l0 x6_1).f3) x7_2).f0)) ∧ w'.cell? ⟨(ad109.add ((x7_2).toNat * 2)).block, (ad109.add ((x7_2).toNat * 2)).off + 1, none⟩ = some (.int .i64 ((rd_T62 ((rd_T55 l0 x6_1).f3) x7_2).f1))) (ds := []) #[false, false, false, false, false, false, false, false, false, false, false, false, false, false, false, false, false, false, false, false, false, false, false, false, false, false, false] (by kernel_rfl) rfl rfl ⟨((HB.out.cell (World.block_lt_of_cell? w _ hw108_0)).trans hw108_0), ((HB.out.cell (World.block_lt_of_cell? w _ hw108_1)).trans hw108_1), ((HB.out.cell (World.block_lt_of_cell? w _ hw108_2)).trans hw108_2), ((HB.out.cell (World.block_lt_of_cell? w _ hw108_3)).trans hw108_3), ((HB.out.cell (World.block_lt_of_cell? w _ hw109_0)).trans hw109_0), ((HB.out.cell (World.block_lt_of_cell? w _ hw109_1)).trans hw109_1), ((HB.out.cell (World.block_lt_of_cell? w _ hw111_0)).trans hw111_0), ((HB.out.cell (World.block_lt_of_cell? w _ hw111_1)).trans hw111_1), ((HB.out.cell (World.block_lt_of_cell? w _ hw111_2)).trans hw111_2), ((HB.out.cell (World.block_lt_of_cell? w _ hw111_3)).trans hw111_3), ((HB.out.cell (World.block_lt_of_cell? w _ hw112_0)).trans hw112_0), ((HB.out.cell (World.block_lt_of_cell? w _ hw112_1)).trans hw112_1)⟩ (fun hHeld => ?_); refine with_tabW perigeeref10_Text.tab12 perigeeref10_Text.bits12 (fun HT_ HW_ => ?_)
           generalize wr.drew = w30 at HB HR108_3 HR111_3 hx108_0 hx108_1 hx108_2 hx108_3 hx109_0 hx109_1 hx111_0 hx111_1 hx111_2 hx111_3 hx112_0 hx112_1 hHeld ⊢
           refine pure_ (i := 0) (N := some 54) (v := ?_) (a' := ?_) #[true, false, false, false, false, false, false, false, false, false, false, false, false, false, false, false, false, false, false, false, false, false, false, false, false, false, false] rfl rfl (any_of HT_.out (by kernel_rfl)) (fun _ _ _ h => h) (Or.inl ⟨by rfl, ?_⟩) ?_ ?_
           rotate_left
           · intro w'
             go_simp
             with_reducible rfl
           rotate_left
           · simp only [Act.put, List.setIfInBounds_toArray, List.set_cons_zero, List.set_cons_succ, i64_w, i32_w]
             rfl
           refine pure_ (i := 1) (N := some 55) (v := ?_) (a' := ?_) #[true, true, false, false, false, false, false, false, false, false, false, false, false, false, false, false, false, false, false, false, false, false, false, false, false, false, false] rfl rfl (any_of HT_.out (by kernel_rfl)) (fun _ _ _ h => h) (Or.inl ⟨by rfl, ?_⟩) ?_ ?_
           rotate_left
           · intro w'
             go_simp
             with_reducible rfl
           rotate_left
           · simp only [Act.put, List.setIfInBounds_toArray, List.set_cons_zero, List.set_cons_succ, i64_w, i32_w]
             rfl
           refine pure_ (i := 2) (N := some 56) (v := ?_) (a' := ?_) #[true, true, true, false, false, false, false, false, false, false, false, false, false, false, false, false, false, false, false, false, false, false, false, false, false, false, false] rfl rfl (any_of HT_.out (by kernel_rfl)) (fun _ _ _ h => h) (Or.inl ⟨by rfl, ?_⟩) ?_ ?_
           rotate_left
           · intro w'
             go_simp
             with_reducible rfl
           rotate_left
           · simp only [Act.put, List.setIfInBounds_toArray, List.set_cons_zero, List.set_cons_succ, i64_w, i32_w]
             rfl
           refine pure_ (i := 3) (N := some 57) (v := ?_) (a' := ?_) #[true, true, true, true, false, false, false, false, false, false, false, false, false, false, false, false, false, false, false, false, false, false, false, false, false, false, false] rfl rfl (any_of HT_.out (by kernel_rfl)) (fun _ _ _ h => h) (Or.inl ⟨by rfl, ?_⟩) ?_ ?_
           rotate_left
           · intro w'
             go_simp
             with_reducible rfl
           rotate_left
           · simp only [Act.put, List.setIfInBounds_toArray, List.set_cons_zero, List.set_cons_succ, i64_w, i32_w]
             rfl
           refine pure_ (i := 4) (N := some 58) (v := ?_) (a' := ?_) #[true, true, true, true, true, false, false, false, false, false, false, false, false, false, false, false, false, false, false, false, false, false, false, false, false, false, false] rfl rfl (any_of HT_.out (by kernel_rfl)) (fun _ _ _ h => h) (Or.inl ⟨by rfl, ?_⟩) ?_ ?_
           rotate_left
           · intro w'
             go_simp
             with_reducible rfl
           rotate_left
           · simp only [Act.put, List.setIfInBounds_toArray, List.set_cons_zero, List.set_cons_succ, i64_w, i32_w]
             rfl
           refine pure_ (i := 6) (N := some 60) (v := ?_) (a' := ?_) #[true, true, true, true, true, false, true, false, false, false, false, false, false, false, false, false, false, false, false, false, false, false, false, false, false, false, false] rfl rfl (any_of HT_.out (by kernel_rfl)) (fun _ _ _ h => h) (Or.inl ⟨by rfl, ?_⟩) ?_ ?_
           rotate_left
           · intro w'
             go_simp
             with_reducible rfl
           rotate_left
           · simp only [Act.put, List.setIfInBounds_toArray, List.set_cons_zero, List.set_cons_succ, i64_w, i32_w]
             rfl
           refine pure_ (i := 13) (N := some 67) (v := ?_) (a' := ?_) #[true, true, true, true, true, false, true, false, false, false, false, false, false, true, false, false, false, false, false, false, false, false, false, false, false, false, false] rfl rfl (any_of HT_.out (by kernel_rfl)) (fun _ _ _ h => h) (Or.inl ⟨by rfl, ?_⟩) ?_ ?_
           rotate_left
           · intro w'
             go_simp
             with_reducible rfl
           rotate_left
           · simp only [Act.put, List.setIfInBounds_toArray, List.set_cons_zero, List.set_cons_succ, i64_w, i32_w]
             rfl
           refine pure_ (i := 14) (N := some 68) (v := ?_) (a' := ?_) #[true, true, true, true, true, false, true, false, false, false, false, false, false, true, true, false, false, false, false, false, false, false, false, false, false, false, false] rfl rfl (any_of HT_.out (by kernel_rfl)) (fun _ _ _ h => h) (Or.inl ⟨by rfl, ?_⟩) ?_ ?_
           rotate_left
           · intro w'
             go_simp
             with_reducible rfl
           rotate_left
           · simp only [Act.put, List.setIfInBounds_toArray, List.set_cons_zero, List.set_cons_succ, i64_w, i32_w]
             rfl
           refine pure_ (i := 15) (N := some 69) (v := ?_) (a' := ?_) #[true, true, true, true, true, false, true, false, false, false, false, false, false, true, true, true, false, false, false, false, false, false, false, false, false, false, false] rfl rfl (any_of HT_.out (by kernel_rfl)) (fun _ _ _ h => h) (Or.inl ⟨by rfl, ?_⟩) ?_ ?_
           rotate_left
           · intro w'
             go_simp
             with_reducible rfl
           rotate_left
           · simp only [Act.put, List.setIfInBounds_toArray, List.set_cons_zero, List.set_cons_succ, i64_w, i32_w]
             rfl
           refine pure_ (i := 16) (N := some 70) (v := ?_) (a' := ?_) #[true, true, true, true, true, false, true, false, false, false, false, false, false, true, true, true, true, false, false, false, false, false, false, false, false, false, false] rfl rfl (any_of HT_.out (by kernel_rfl)) (fun _ _ _ h => h) (Or.inl ⟨by rfl, ?_⟩) ?_ ?_
           rotate_left
           · intro w'
             go_simp
             with_reducible rfl
           rotate_left
           · simp only [Act.put, List.setIfInBounds_toArray, List.set_cons_zero, List.set_cons_succ, i64_w, i32_w]
             rfl
           refine pure_ (i := 18) (N := some 72) (v := ?_) (a' := ?_) #[true, true, true, true, true, false, true, false, false, false, false, false, false, true, true, true, true, false, true, false, false, false, false, false, false, false, false] rfl rfl (any_of HT_.out (by kernel_rfl)) (fun _ _ _ h => h) (Or.inl ⟨by rfl, ?_⟩) ?_ ?_
           rotate_left
           · intro w'
             go_simp
             with_reducible rfl
           rotate_left
           · simp only [Act.put, List.setIfInBounds_toArray, List.set_cons_zero, List.set_cons_succ, i64_w, i32_w]
             rfl
           refine take_ (i := 5) (N := some 59) (v := ?_) (a' := ?_) #[true, true, true, true, true, true, true, false, false, false, false, false, false, true, true, true, true, false, true, false, false, false, false, false, false, false, false] rfl rfl (take_ofW HT_.out HW_.out (by kernel_rfl)) (fun _ _ _ h => h) (Or.inl ⟨by rfl, ?_⟩) hHeld ?_ ?_
           rotate_left
           · rintro w' ⟨s0, s1, s2, s3, s4, s5, s6, s7, s8, s9, s10, s11⟩
             go_simp
             with_reducible rfl
           rotate_left
           · simp only [Act.put, List.setIfInBounds_toArray, List.set_cons_zero, List.set_cons_succ, i64_w, i32_w]
             rfl
           refine pure_ (i := 7) (N := some 61) (v := ?_) (a' := ?_) #[true, true, true, true, true, true, true, true, false, false, false, false, false, true, true, true, true, false, true, false, false, false, false, false, false, false, false] rfl rfl (any_of HT_.out (by kernel_rfl)) (fun _ _ _ h => h) (Or.inl ⟨by rfl, ?_⟩) ?_ ?_
           rotate_left
           · intro w'
             go_simp
             with_reducible rfl
           rotate_left
           · simp only [Act.put, List.setIfInBounds_toArray, List.set_cons_zero, List.set_cons_succ, i64_w, i32_w]
             rfl
           refine pure_ (i := 8) (N := some 62) (v := ?_) (a' := ?_) #[true, true, true, true, true, true, true, true, true, false, false, false, false, true, true, true, true, false, true, false, false, false, false, false, false, false, false] rfl rfl (any_of HT_.out (by kernel_rfl)) (fun _ _ _ h => h) (Or.inl ⟨by rfl, ?_⟩) ?_ ?_
           rotate_left
           · intro w'
             go_simp
             with_reducible rfl
           rotate_left
           · simp only [Act.put, List.setIfInBounds_toArray, List.set_cons_zero, List.set_cons_succ, i64_w, i32_w]
             rfl
           refine take_ (i := 9) (N := some 63) (v := ?_) (a' := ?_) #[true, true, true, true, true, true, true, true, true, true, false, false, false, true, true, true, true, false, true, false, false, false, false, false, false, false, false] rfl rfl (take_ofW HT_.out HW_.out (by kernel_rfl)) (fun _ _ _ h => h) (Or.inl ⟨by rfl, ?_⟩) hHeld ?_ ?_
           rotate_left
           · rintro w' ⟨s0, s1, s2, s3, s4, s5, s6, s7, s8, s9, s10, s11⟩
             go_simp
             with_reducible rfl
           rotate_left
           · simp only [Act.put, List.setIfInBounds_toArray, List.set_cons_zero, List.set_cons_succ, i64_w, i32_w]
             rfl
           refine take_ (i := 17) (N := some 71) (v := ?_) (a' := ?_) #[true, true, true, true, true, true, true, true, true, true, false, false, false, true, true, true, true, true, true, false, false, false, false, false, false, false, false] rfl rfl (take_ofW HT_.out HW_.out (by kernel_rfl)) (fun _ _ _ h => h) (Or.inl ⟨by rfl, ?_⟩) hHeld ?_ ?_
           rotate_left
           · rintro w' ⟨s0, s1, s2, s3, s4, s5, s6, s7, s8, s9, s10, s11⟩
             go_simp
             with_reducible rfl
           rotate_left
           · simp only [Act.put, List.setIfInBounds_toArray, List.set_cons_zero, List.set_cons_succ, i64_w, i32_w]
             rfl
           refine pure_ (i := 19) (N := some 73) (v := ?_) (a' := ?_) #[true, true, true, true, true, true, true, true, true, true, false, false, false, true, true, true, true, true, true, true, false, false, false, false, false, false, false] rfl rfl (any_of HT_.out (by kernel_rfl)) (fun _ _ _ h => h) (Or.inl ⟨by rfl, ?_⟩) ?_ ?_
           rotate_left
           · intro w'
             go_simp
             with_reducible rfl
           rotate_left
           · simp only [Act.put, List.setIfInBounds_toArray, List.set_cons_zero, List.set_cons_succ, i64_w, i32_w]
             rfl
           refine pure_ (i := 20) (N := some 74) (v := ?_) (a' := ?_) #[true, true, true, true, true, true, true, true, true, true, false, false, false, true, true, true, true, true, true, true, true, false, false, false, false, false, false] rfl rfl (any_of HT_.out (by kernel_rfl)) (fun _ _ _ h => h) (Or.inl ⟨by rfl, ?_⟩) ?_ ?_
           rotate_left
           · intro w'
             go_simp
             with_reducible rfl
           rotate_left
           · simp only [Act.put, List.setIfInBounds_toArray, List.set_cons_zero, List.set_cons_succ, i64_w, i32_w]
             rfl
           refine take_ (i := 21) (N := some 75) (v := ?_) (a' := ?_) #[true, true, true, true, true, true, true, true, true, true, false, false, false, true, true, true, true, true, true, true, true, true, false, false, false, false, false] rfl rfl (take_ofW HT_.out HW_.out (by kernel_rfl)) (fun _ _ _ h => h) (Or.inl ⟨by rfl, ?_⟩) hHeld ?_ ?_
           rotate_left
           · rintro w' ⟨s0, s1, s2, s3, s4, s5, s6, s7, s8, s9, s10, s11⟩
             go_simp
             with_reducible rfl
           rotate_left
           · simp only [Act.put, List.setIfInBounds_toArray, List.set_cons_zero, List.set_cons_succ, i64_w, i32_w]
             rfl
           refine one_ (i := 10) (N := some 64) #[true, true, true, true, true, true, true, true, true, true, true, false, false, true, true, true, true, true, true, true, true, true, false, false, false, false, false] rfl rfl (one_of HT_.out (by kernel_rfl)) (by decide) (fun K hK => ?_)
           refine goes_ Tryd.func26 (by kernel_rfl) rfl #[.int .i64 ((rd_T62 ((rd_T55 l0 x6_1).f3) x7_2).f0)] (by rfl) rfl rfl d11a ?_
           with_reducible refine (strconv_Itoa.calls ((rd_T62 ((rd_T55 l0 x6_1).f3) x7_2).f0) t110 _ (HV.out.below d11b) A23.out).mono ?_
           rintro e w31 ⟨rfl, hb⟩
           refine ⟨_, rfl, ?_⟩
           have n0_ := Aside0.mk (below_step d11b hb)
           clear HB
           have HB := n0_
           clear n0_
           (try clear hb)
           skip
           skip
           skip
           refine hK.out _ _ ⟨((HB.out.cell (World.block_lt_of_cell? w _ hw108_0)).trans hw108_0), ((HB.out.cell (World.block_lt_of_cell? w _ hw108_1)).trans hw108_1), ((HB.out.cell (World.block_lt_of_cell? w _ hw108_2)).trans hw108_2), ((HB.out.cell (World.block_lt_of_cell? w _ hw108_3)).trans hw108_3), ((HB.out.cell (World.block_lt_of_cell? w _ hw109_0)).trans hw109_0), ((HB.out.cell (World.block_lt_of_cell? w _ hw109_1)).trans hw109_1), ((HB.out.cell (World.block_lt_of_cell? w _ hw111_0)).trans hw111_0), ((HB.out.cell (World.block_lt_of_cell? w _ hw111_1)).trans hw111_1), ((HB.out.cell (World.block_lt_of_cell? w _ hw111_2)).trans hw111_2), ((HB.out.cell (World.block_lt_of_cell? w _ hw111_3)).trans hw111_3), ((HB.out.cell (World.block_lt_of_cell? w _ hw112_0)).trans hw112_0), ((HB.out.cell (World.block_lt_of_cell? w _ hw112_1)).trans hw112_1)⟩ (fun hHeld => ?_)
           clear hK K
           refine norm_ (a' := ?_) ?_ ?_
           rotate_left
           · show Act.put _ (some 64) _ = _
             simp only [Act.put, List.setIfInBounds_toArray, List.set_cons_zero, List.set_cons_succ, i64_w, i32_w]
             rfl
           refine pure_ (i := 11) (N := some 65) (v := ?_) (a' := ?_) #[true, true, true, true, true, true, true, true, true, true, true, true, false, true, true, true, true, true, true, true, true, true, false, false, false, false, false] rfl rfl (any_of HT_.out (by kernel_rfl)) (fun _ _ _ h => h) (Or.inl ⟨by rfl, ?_⟩) ?_ ?_
           rotate_left
           · intro w'
             go_simp
             with_reducible rfl
           rotate_left
           · simp only [Act.put, List.setIfInBounds_toArray, List.set_cons_zero, List.set_cons_succ, i64_w, i32_w]
             rfl
           refine pure_ (i := 12) (N := some 66) (v := ?_) (a' := ?_) #[true, true, true, true, true, true, true, true, true, true, true, true, true, true, true, true, true, true, true, true, true, true, false, false, false, false, false] rfl rfl (any_of HT_.out (by kernel_rfl)) (fun _ _ _ h => h) (Or.inl ⟨by rfl, ?_⟩) ?_ ?_
           rotate_left
           · intro w'
             go_simp
             with_reducible rfl
           rotate_left
           · simp only [Act.put, List.setIfInBounds_toArray, List.set_cons_zero, List.set_cons_succ, i64_w, i32_w]
             rfl
           refine one_ (i := 22) (N := some 76) #[true, true, true, true, true, true, true, true, true, true, true, true, true, true, true, true, true, true, true, true, true, true, true, false, false, false, false] rfl rfl (one_of HT_.out (by kernel_rfl)) (by decide) (fun K hK => ?_)
           refine goes_ Tryd.func26 (by kernel_rfl) rfl #[.int .i64 ((rd_T62 ((rd_T55 l0 x6_1).f3) x7_2).f1)] (by rfl) rfl rfl d11a ?_
           with_reducible refine (strconv_Itoa.calls ((rd_T62 ((rd_T55 l0 x6_1).f3) x7_2).f1) t113 _ (HV.out.below d11b) A26.out).mono ?_
           rintro e w32 ⟨rfl, hb⟩
           refine ⟨_, rfl, ?_⟩
           have n0_ := Aside0.mk (below_step d11b hb)
           clear HB
           have HB := n0_
           clear n0_
           (try clear hb)
           skip
           skip
           skip
           refine hK.out _ _ ⟨((HB.out.cell (World.block_lt_of_cell? w _ hw108_0)).trans hw108_0), ((HB.out.cell (World.block_lt_of_cell? w _ hw108_1)).trans hw108_1), ((HB.out.cell (World.block_lt_of_cell? w _ hw108_2)).trans hw108_2), ((HB.out.cell (World.block_lt_of_cell? w _ hw108_3)).trans hw108_3), ((HB.out.cell (World.block_lt_of_cell? w _ hw109_0)).trans hw109_0), ((HB.out.cell (World.block_lt_of_cell? w _ hw109_1)).trans hw109_1), ((HB.out.cell (World.block_lt_of_cell? w _ hw111_0)).trans hw111_0), ((HB.out.cell (World.block_lt_of_cell? w _ hw111_1)).trans hw111_1), ((HB.out.cell (World.block_lt_of_cell? w _ hw111_2)).trans hw111_2), ((HB.out.cell (World.block_lt_of_cell? w _ hw111_3)).trans hw111_3), ((HB.out.cell (World.block_lt_of_cell? w _ hw112_0)).trans hw112_0), ((HB.out.cell (World.block_lt_of_cell? w _ hw112_1)).trans hw112_1)⟩ (fun hHeld => ?_)
           clear hK K
           refine norm_ (a' := ?_) ?_ ?_
           rotate_left
           · show Act.put _ (some 76) _ = _
             simp only [Act.put, List.setIfInBounds_toArray, List.set_cons_zero, List.set_cons_succ, i64_w, i32_w]
             rfl
           refine pure_ (i := 23) (N := some 77) (v := ?_) (a' := ?_) #[true, true, true, true, true, true, true, true, true, true, true, true, true, true, true, true, true, true, true, true, true, true, true, true, false, false, false] rfl rfl (any_of HT_.out (by kernel_rfl)) (fun _ _ _ h => h) (Or.inl ⟨by rfl, ?_⟩) ?_ ?_
           rotate_left
           · intro w'
             go_simp
             with_reducible rfl
           rotate_left
           · simp only [Act.put, List.setIfInBounds_toArray, List.set_cons_zero, List.set_cons_succ, i64_w, i32_w]
             rfl
           refine pure_ (i := 24) (N := some 78) (v := ?_) (a' := ?_) #[true, true, true, true, true, true, true, true, true, true, true, true, true, true, true, true, true, true, true, true, true, true, true, true, true, false, false] rfl rfl (any_of HT_.out (by kernel_rfl)) (fun _ _ _ h => h) (Or.inl ⟨by rfl, ?_⟩) ?_ ?_
           rotate_left
           · intro w'
             go_simp
             with_reducible rfl
           rotate_left
           · simp only [Act.put, List.setIfInBounds_toArray, List.set_cons_zero, List.set_cons_succ, i64_w, i32_w]
             rfl
           refine pure_ (i := 25) (N := some 79) (v := ?_) (a' := ?_) #[true, true, true, true, true, true, true, true, true, true, true, true, true, true, true, true, true, true, true, true, true, true, true, true, true, true, false] rfl rfl (any_of HT_.out (by kernel_rfl)) (fun _ _ _ h => h) (Or.inl ⟨by rfl, ?_⟩) ?_ ?_
           rotate_left
           · intro w'
             go_simp
             with_reducible rfl
           rotate_left
           · simp only [Act.put, List.setIfInBounds_toArray, List.set_cons_zero, List.set_cons_succ, i64_w, i32_w]
             rfl
           refine pure_ (i := 26) (N := some 5) (v := ?_) (a' := ?_) #[true, true, true, true, true, true, true, true, true, true, true, true, true, true, true, true, true, true, true, true, true, true, true, true, true, true, true] rfl rfl (any_of HT_.out (by kernel_rfl)) (fun _ _ _ h => h) (Or.inl ⟨by rfl, ?_⟩) ?_ ?_
           rotate_left
           · intro w'
             go_simp
             with_reducible rfl
           rotate_left
           · simp only [Act.put, List.setIfInBounds_toArray, List.set_cons_zero, List.set_cons_succ, i64_w, i32_w]
             rfl
           refine done_ (done_of HT_.out (by kernel_rfl)) ?_
           try go_wp2
           go_roundg k2
           case measure => have := HK1.out; have := HK2.out; omega
           case rel => exact ⟨(x5_2 ++ (((((⟨#[114, 97, 116, 101, 32]⟩ : ByteArray) ++ t110) ++ (⟨#[32]⟩ : ByteArray)) ++ t113) ++ (⟨#[10]⟩ : ByteArray))), (wrap64 (x7_2 + 1)), d11e, d11e, H', ⟨by have := HK1.out; have := HK2.out; omega⟩, ⟨d11b⟩⟩
         · rw [if_neg c21] at H
           have c21b0 : decide (x7_2 < (((rd_T55 l0 x6_1).f3).length : Int)) = false := decide_eq_false c21
           clear c21
           have H' := Aside0.mk H
           clear H
           have p107 : 0 ≤ (x6_1 : Int) := of_decide_eq_true d11d
           have q107 : x6_1 < (l0.length : Int) := of_decide_eq_true d11d
           obtain ⟨ad107, A107_3, c107_3, e107, hx107_0, hx107_1, hx107_2, hx107_3, hl107_3, hi107_3⟩ := at_T55 HR0.out x6_1 p107 q107
           obtain rfl : ad102 = ad107 := (by injection e107)
           replace hx107_0 := cellB HB.out hx107_0
           replace hx107_1 := cellB HB.out hx107_1
           replace hx107_2 := cellB HB.out hx107_2
           replace hx107_3 := cellB HB.out hx107_3
           have HR107_3 := Aside0.mk hi107_3
           have HC107_3 := Aside0.mk hl107_3
           clear hi107_3 hl107_3
           replace p107 := eq_true p107
           replace q107 := eq_true q107
           go_wp2
           go_roundg k2
           case measure => have := HK1.out; have := HK2.out; omega
           case rel => exact ⟨(x5_2), (wrap64 (x6_1 + 1)), d11e, d11e, H', ⟨by have := HK1.out; have := HK2.out; omega⟩, ⟨d11b⟩⟩
     · rw [if_neg c5] at H
       have c5b0 : decide (x6_1 < (l0.length : Int)) = false := decide_eq_false c5
       clear c5
       by_cases c33 : (x5_1.size : Int) > 200000
       · rw [if_pos c33] at H
         have c33b0 : decide (200000 < (x5_1.size : Int)) = true := decide_eq_true c33
         have c33b1 : decide (200000 < x5_1.size) = true := decide_eq_true (by omega)
         clear c33
         simp only [Option.some.injEq, Prod.mk.injEq] at H
         obtain ⟨rfl, rfl⟩ := H
         go_wp2
         go_ret2
         exact ⟨d11c, d11b⟩
       · rw [if_neg c33] at H
         have c33b0 : decide (200000 < (x5_1.size : Int)) = false := decide_eq_false c33
         have c33b1 : decide (200000 < x5_1.size) = false := decide_eq_false (by omega)
         clear c33
         simp only [Option.some.injEq, Prod.mk.injEq] at H
         obtain ⟨rfl, rfl⟩ := H
         go_wp2
         go_ret2
         exact ⟨d11c, d11b⟩
 · rw [if_neg c3] at H
   have c3b0 : (t101 == 0) = false := beq_eq_false_iff_ne.mpr c3
   have c3b1 : (t101 != 0) = true := bne_iff_ne.mpr c3
   simp only [Option.some.injEq, Prod.mk.injEq] at H
   obtain ⟨rfl, rfl⟩ := H
   go_enter Tryd.func11, Tryd.ntmps11
   go_wp2_with ((with_reducible refine gate_callee (f := 33) rfl ?_); refine goesL_ (some 9) rfl rfl Tryd.func33 (by kernel_rfl) rfl #[.slice A0 l0.length c0] rfl d11a ?_; (with_reducible refine (perigeeref10_CheckPasses.calls k _ _ l0 t101 _ ?side1 ?side2 A2.out).mono ?_); (case side1 => exact C_go HR0.out); (case side2 => exact HC0.out); rintro e w34 ⟨rfl, hb⟩; refine ⟨_, rfl, ?_⟩; replace HB := Aside0.mk (below_step d11b hb); (try clear hb))
   go_ret2
   exact ⟨d11c, d11b⟩
end Go.Proofs.YtbngmblgkkdhpaaDoor.Q
