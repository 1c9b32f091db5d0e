-- Made by wip/tools/claimp.py of this session's texts; Lean checks it.
import Derived.Test.YtplcdpiggpkppaaDoorC2Q0
import Derived.Test.YtplcdpiggpkppaaDoorC2Gd7
import Derived.Test.YtplcdpiggpkppaaDoorC2Gd8
namespace Go.Proofs.YtplcdpiggpkppaaDoor.Q
open Go.RowKit Go.Proofs.YtplcdpiggpkppaaDoorW.PrintWords Go.Proofs.YtplcdpiggpkppaaDoorW.PrintLast Go.Proofs.YtplcdpiggpkppaaDoorW.PrintMore
attribute [local go_sem] max2_int min2_int max_two min_two max_three min_three max_four min_four
open Go.Proofs.YtplcdpiggpkppaaDoor.Base
attribute [local go_sem high] str_leq str_gtr str_geq
set_option linter.unusedVariables false
set_option linter.unusedSimpArgs false
mutual
def perigeeref9_Text.l0 : Nat → List (S35) → ByteArray → List (S32) → Int → Int → Option (ByteArray × Int)
  | 0, _, _, _, _, _ => none
  | k + 1, x1, x7, x18, x19, x20 => if x20 < x19 then (if 0 ≤ x20 then (if x20 < (x18.length : Int) then (if 5 + ((rd_T32 x18 x20).f0).size ≤ 9223372036854775807 then (if ((⟨#[108, 111, 97, 100, 32]⟩ : ByteArray) ++ ((rd_T32 x18 x20).f0)).size + 1 ≤ 9223372036854775807 then ((strconv_Itoa.f ((rd_T32 x18 x20).f1)).bind fun t104 => (if (((⟨#[108, 111, 97, 100, 32]⟩ : ByteArray) ++ ((rd_T32 x18 x20).f0)) ++ (⟨#[32]⟩ : ByteArray)).size + t104.size ≤ 9223372036854775807 then (if ((((⟨#[108, 111, 97, 100, 32]⟩ : ByteArray) ++ ((rd_T32 x18 x20).f0)) ++ (⟨#[32]⟩ : ByteArray)) ++ t104).size + 1 ≤ 9223372036854775807 then ((strconv_Itoa.f ((rd_T32 x18 x20).f2)).bind fun t105 => (if (((((⟨#[108, 111, 97, 100, 32]⟩ : ByteArray) ++ ((rd_T32 x18 x20).f0)) ++ (⟨#[32]⟩ : ByteArray)) ++ t104) ++ (⟨#[32]⟩ : ByteArray)).size + t105.size ≤ 9223372036854775807 then (if ((((((⟨#[108, 111, 97, 100, 32]⟩ : ByteArray) ++ ((rd_T32 x18 x20).f0)) ++ (⟨#[32]⟩ : ByteArray)) ++ t104) ++ (⟨#[32]⟩ : ByteArray)) ++ t105).size + 1 ≤ 9223372036854775807 then (if x7.size + (((((((⟨#[108, 111, 97, 100, 32]⟩ : ByteArray) ++ ((rd_T32 x18 x20).f0)) ++ (⟨#[32]⟩ : ByteArray)) ++ t104) ++ (⟨#[32]⟩ : ByteArray)) ++ t105) ++ (⟨#[10]⟩ : ByteArray)).size ≤ 9223372036854775807 then (perigeeref9_Text.l0 k x1 (x7 ++ (((((((⟨#[108, 111, 97, 100, 32]⟩ : ByteArray) ++ ((rd_T32 x18 x20).f0)) ++ (⟨#[32]⟩ : ByteArray)) ++ t104) ++ (⟨#[32]⟩ : ByteArray)) ++ t105) ++ (⟨#[10]⟩ : ByteArray))) x18 x19 (wrap64 (x20 + 1))) else (none)) else (none)) else (none))) else (none)) else (none))) else (none)) else (none)) else (none)) else (none)) else (perigeeref9_Text.l1 k x7 x1 (x1.length : Int) 0)
def perigeeref9_Text.l1 : Nat → ByteArray → List (S35) → Int → Int → Option (ByteArray × Int)
  | 0, _, _, _, _ => none
  | k + 1, x7, x41, x42, x43 => if x43 < x42 then (if 0 ≤ x43 then (if x43 < (x41.length : Int) then (if 4 + ((rd_T35 x41 x43).f0).size ≤ 9223372036854775807 then (if ((⟨#[117, 115, 101, 32]⟩ : ByteArray) ++ ((rd_T35 x41 x43).f0)).size + 1 ≤ 9223372036854775807 then ((strconv_Itoa.f ((rd_T35 x41 x43).f1)).bind fun t108 => (if (((⟨#[117, 115, 101, 32]⟩ : ByteArray) ++ ((rd_T35 x41 x43).f0)) ++ (⟨#[32]⟩ : ByteArray)).size + t108.size ≤ 9223372036854775807 then (if ((((⟨#[117, 115, 101, 32]⟩ : ByteArray) ++ ((rd_T35 x41 x43).f0)) ++ (⟨#[32]⟩ : ByteArray)) ++ t108).size + 1 ≤ 9223372036854775807 then ((strconv_Itoa.f ((rd_T35 x41 x43).f2)).bind fun t109 => (if (((((⟨#[117, 115, 101, 32]⟩ : ByteArray) ++ ((rd_T35 x41 x43).f0)) ++ (⟨#[32]⟩ : ByteArray)) ++ t108) ++ (⟨#[32]⟩ : ByteArray)).size + t109.size ≤ 9223372036854775807 then (if ((((((⟨#[117, 115, 101, 32]⟩ : ByteArray) ++ ((rd_T35 x41 x43).f0)) ++ (⟨#[32]⟩ : ByteArray)) ++ t108) ++ (⟨#[32]⟩ : ByteArray)) ++ t109).size + 1 ≤ 9223372036854775807 then (if x7.size + (((((((⟨#[117, 115, 101, 32]⟩ : ByteArray) ++ ((rd_T35 x41 x43).f0)) ++ (⟨#[32]⟩ : ByteArray)) ++ t108) ++ (⟨#[32]⟩ : ByteArray)) ++ t109) ++ (⟨#[10]⟩ : ByteArray)).size ≤ 9223372036854775807 then (perigeeref9_Text.l1 k (x7 ++ (((((((⟨#[117, 115, 101, 32]⟩ : ByteArray) ++ ((rd_T35 x41 x43).f0)) ++ (⟨#[32]⟩ : ByteArray)) ++ t108) ++ (⟨#[32]⟩ : ByteArray)) ++ t109) ++ (⟨#[10]⟩ : ByteArray))) x41 x42 (wrap64 (x43 + 1))) else (none)) else (none)) else (none))) else (none)) else (none))) else (none)) else (none)) else (none)) else (none)) else (if (x7.size : Int) > 50000 then (some ((⟨#[]⟩ : ByteArray), 2)) else (some (x7, 0)))
end
def perigeeref9_Text.f (k : Nat) (l0 : List (S32)) (l1 : List (S35)) : Option (ByteArray × Int) := (perigeeref9_CheckUses.f k l0 l1).bind fun t101 => (if t101 = 0 then (perigeeref9_Text.l0 k l1 (⟨#[]⟩ : ByteArray) l0 (l0.length : Int) 0) else (some ((⟨#[]⟩ : ByteArray), t101)))
def perigeeref9_Text.T8 : Bool × List (List Nat × List Nat) := (true, [([], []), ([], []), ([1], [1]), ([2], [2]), ([3], [3]), ([], []), ([5], [5]), ([6], [6]), ([4, 7], [4, 7]), ([8], [8]), ([], []), ([10], [10]), ([11, 7], [11]), ([9, 12], [9, 12]), ([13], [13]), ([0, 14], [0, 14]), ([15, 12, 0, 1, 2, 3, 4, 5, 6, 7, 8, 9, 10, 11, 12, 13, 14, 15], [0, 15])])
def perigeeref9_Text.B8 : List Nat := [0, 0, 2, 6, 14, 0, 32, 96, 254, 510, 0, 1024, 3296, 8190, 16382, 32767, 65535]
theorem perigeeref9_Text.tab8 : rtab .any (opsOf Tryd.f6 8) = perigeeref9_Text.T8 := by kernel_rfl
theorem perigeeref9_Text.bits8 : waitsOk perigeeref9_Text.T8.2 perigeeref9_Text.B8 = true := by kernel_rfl
def perigeeref9_Text.T13 : Bool × List (List Nat × List Nat) := (true, [([], []), ([], []), ([1], [1]), ([2], [2]), ([3], [3]), ([], []), ([5], [5]), ([6], [6]), ([4, 7], [4, 7]), ([8], [8]), ([], []), ([10], [10]), ([11, 7], [11]), ([9, 12], [9, 12]), ([13], [13]), ([0, 14], [0, 14]), ([15, 12, 0, 1, 2, 3, 4, 5, 6, 7, 8, 9, 10, 11, 12, 13, 14, 15], [0, 15])])
def perigeeref9_Text.B13 : List Nat := [0, 0, 2, 6, 14, 0, 32, 96, 254, 510, 0, 1024, 3296, 8190, 16382, 32767, 65535]
theorem perigeeref9_Text.tab13 : rtab .any (opsOf Tryd.f6 13) = perigeeref9_Text.T13 := by kernel_rfl
theorem perigeeref9_Text.bits13 : waitsOk perigeeref9_Text.T13.2 perigeeref9_Text.B13 = true := by kernel_rfl
theorem d6a {p : Prop} (h : p := by repeat (first | (with_reducible first | exact HB.out | apply below_alloc | apply pw_below_drewN | apply below_drew1 | refine below_set ?_ GE103.out) | exact HB.out)) : p := h
theorem d6b {p : Prop} (h : p := by repeat (first | (with_reducible first | exact HB.out | apply below_alloc | apply pw_below_drewN | apply below_drew1 | refine below_set ?_ GE107.out) | exact HB.out)) : p := h
theorem d6c {p : Prop} (h : p := by (try simp only [List.map_toArray, List.map_cons, List.map_nil]); first | done | rfl | (simp only [List.length_drop, List.length_take]; rfl)) : p := h
theorem d6d {p : Prop} (h : p := by repeat (first | (with_reducible first | exact HB.out | apply below_alloc | apply pw_below_drewN | apply below_drew1) | exact HB.out)) : p := h
theorem d6e {p : Prop} (h : p := by first | rfl | (simp [errW_none, errW_some] <;> rfl) | (simp [*, errW_none, errW_some] <;> rfl)) : p := h
theorem d6f {p : Prop} (h : p := by first | (with_reducible assumption) | assumption) : p := h
theorem d6g {p : Prop} (h : p := by first | rfl | (simp; done) | (simp [*]; done)) : p := h
set_option maxHeartbeats 8000000 in
set_option maxRecDepth 100000 in
theorem perigeeref9_Text.calls (k : Nat) (A0 : Option Addr) (c0 : Nat) (l0 : List (S32)) (A1 : Option Addr) (c1 : Nat) (l1 : List (S35)) (r1 : ByteArray) (r2 : Int) (w : World) (hr0 : Kd.C k32 w A0 l0.length l0) (hc0 : l0.length ≤ c0) (hr1 : Kd.C k35 w A1 l1.length l1) (hc1 : l1.length ≤ c1) (hV : VarsOK w) (h : perigeeref9_Text.f k l0 l1 = some (r1, r2)) :
 Calls Tryd.prog 6 #[.slice A0 l0.length c0, .slice A1 l1.length c1] w fun e w' => e = .returned (.tuple #[.string r1, .int .i64 r2]) ∧ Below w.heap.size w w' := by
 have HV := Aside0.mk hV
 clear hV
 have hu32 := Tryd.underlying32
 have hu35 := Tryd.underlying35
 have HR0 := Aside0.mk hr0
 have HC0 := Aside0.mk hc0
 clear hr0 hc0
 have HR1 := Aside0.mk hr1
 have HC1 := Aside0.mk hc1
 clear hr1 hc1
 have HB := Aside0.mk (Below.refl w.heap.size w)
 have H : ((perigeeref9_CheckUses.f k l0 l1).bind fun t101 => (if t101 = 0 then (perigeeref9_Text.l0 k l1 (⟨#[]⟩ : ByteArray) l0 (l0.length : Int) 0) else (some ((⟨#[]⟩ : ByteArray), t101)))) = some (r1, r2) := h
 clear h
 replace H := bindS H; obtain ⟨t101, A3, H⟩ := H
 by_cases c4 : t101 = 0
 · rw [if_pos c4] at H
   have c4b0 : (t101 == 0) = true := beq_iff_eq.mpr c4
   have c4b1 : (t101 != 0) = false := bne_eq_false_iff_eq.mpr c4
   clear c4
   have H' := Aside0.mk H
   clear H
   go_enter Tryd.func6, Tryd.ntmps6
   go_wp2_with ((with_reducible refine gate_callee (f := 17) rfl ?_); refine goesL_ (some 14) rfl rfl Tryd.func17 (by kernel_rfl) rfl #[.slice A0 l0.length c0, .slice A1 l1.length c1] rfl d6c ?_; (with_reducible refine (perigeeref9_CheckUses.calls k _ _ l0 _ _ l1 t101 _ ?side1 ?side2 ?side3 ?side4 A3.out).mono ?_); (case side1 => exact C_go HR0.out); (case side2 => exact HC0.out); (case side3 => exact C_go HR1.out); (case side4 => exact HC1.out); rintro e w5 ⟨rfl, hb⟩; refine ⟨_, rfl, ?_⟩; replace HB := Aside0.mk (below_step d6d hb); (try clear hb))
   go_loopg [7, 20] k (fun kq v7 v20 w' => ∃ (x7_1 : ByteArray) (x20_1 : Int), v7 = .string x7_1 ∧ v20 = .int .i64 x20_1 ∧ Aside0 (perigeeref9_Text.l0 kq l1 x7_1 l0 (l0.length : Int) x20_1 = some (r1, r2)) ∧ Aside0 (kq ≤ k) ∧ Aside0 (Below w.heap.size w w'))
   case atStart => exact ⟨((⟨#[]⟩ : ByteArray)), (0), d6g, d6g, H', ⟨Nat.le_refl _⟩, ⟨d6d⟩⟩
   case round =>
    clear H'
    try clear c4b0
    try clear c4b1
    obtain ⟨x7_1, x20_1, rfl, rfl, HA, HK1, HB⟩ := hrel
    cases gk with
    | zero => exact absurd HA.out (by simp [perigeeref9_Text.l0])
    | succ k1 =>
     have H := HA.out
     clear HA
     simp only [perigeeref9_Text.l0] at H
     by_cases c6 : x20_1 < (l0.length : Int)
     · rw [if_pos c6] at H
       have c6b0 : decide (x20_1 < (l0.length : Int)) = true := decide_eq_true c6
       clear c6
       replace H := guardT H; obtain ⟨c7, H⟩ := H
       have c7b0 : decide (0 ≤ x20_1) = true := decide_eq_true c7
       clear c7
       replace H := guardT H; obtain ⟨c8, H⟩ := H
       have c8b0 : decide (x20_1 < (l0.length : Int)) = true := decide_eq_true c8
       clear c8
       replace H := guardT H; obtain ⟨c9, H⟩ := H
       have c9b0 := eq_true c9
       have c9b1 : decide (5 + ((rd_T32 l0 x20_1).f0).size ≤ 9223372036854775807) = true := decide_eq_true c9
       try have c9b2 : (9223372036854775807 < 5 + ((rd_T32 l0 x20_1).f0).size) = False := eq_false (Nat.not_lt.2 c9)
       replace H := guardT H; obtain ⟨c10, H⟩ := H
       have c10b0 := eq_true c10
       have c10b1 : decide (((⟨#[108, 111, 97, 100, 32]⟩ : ByteArray) ++ ((rd_T32 l0 x20_1).f0)).size + 1 ≤ 9223372036854775807) = true := decide_eq_true c10
       try have c10b2 : (9223372036854775807 < ((⟨#[108, 111, 97, 100, 32]⟩ : ByteArray) ++ ((rd_T32 l0 x20_1).f0)).size + 1) = False := eq_false (Nat.not_lt.2 c10)
       have c10b3 : (9223372036854775807 < 5 + ((rd_T32 l0 x20_1).f0).size + 1) = False := eq_false (Nat.not_lt.2 (by have h_ := c10; simp only [ByteArray.size_append] at h_; exact h_))
       replace H := bindS H; obtain ⟨t104, A11, H⟩ := H
       replace H := guardT H; obtain ⟨c12, H⟩ := H
       have c12b0 := eq_true c12
       have c12b1 : decide ((((⟨#[108, 111, 97, 100, 32]⟩ : ByteArray) ++ ((rd_T32 l0 x20_1).f0)) ++ (⟨#[32]⟩ : ByteArray)).size + t104.size ≤ 9223372036854775807) = true := decide_eq_true c12
       try have c12b2 : (9223372036854775807 < (((⟨#[108, 111, 97, 100, 32]⟩ : ByteArray) ++ ((rd_T32 l0 x20_1).f0)) ++ (⟨#[32]⟩ : ByteArray)).size + t104.size) = False := eq_false (Nat.not_lt.2 c12)
       have c12b3 : (9223372036854775807 < 5 + ((rd_T32 l0 x20_1).f0).size + 1 + t104.size) = False := eq_false (Nat.not_lt.2 (by have h_ := c12; simp only [ByteArray.size_append] at h_; exact h_))
       replace H := guardT H; obtain ⟨c13, H⟩ := H
       have c13b0 := eq_true c13
       have c13b1 : decide (((((⟨#[108, 111, 97, 100, 32]⟩ : ByteArray) ++ ((rd_T32 l0 x20_1).f0)) ++ (⟨#[32]⟩ : ByteArray)) ++ t104).size + 1 ≤ 9223372036854775807) = true := decide_eq_true c13
       try have c13b2 : (9223372036854775807 < ((((⟨#[108, 111, 97, 100, 32]⟩ : ByteArray) ++ ((rd_T32 l0 x20_1).f0)) ++ (⟨#[32]⟩ : ByteArray)) ++ t104).size + 1) = False := eq_false (Nat.not_lt.2 c13)
       have c13b3 : (9223372036854775807 < 5 + ((rd_T32 l0 x20_1).f0).size + 1 + t104.size + 1) = False := eq_false (Nat.not_lt.2 (by have h_ := c13; simp only [ByteArray.size_append] at h_; exact h_))
       replace H := bindS H; obtain ⟨t105, A14, H⟩ := H
       replace H := guardT H; obtain ⟨c15, H⟩ := H
       have c15b0 := eq_true c15
       have c15b1 : decide ((((((⟨#[108, 111, 97, 100, 32]⟩ : ByteArray) ++ ((rd_T32 l0 x20_1).f0)) ++ (⟨#[32]⟩ : ByteArray)) ++ t104) ++ (⟨#[32]⟩ : ByteArray)).size + t105.size ≤ 9223372036854775807) = true := decide_eq_true c15
       try have c15b2 : (9223372036854775807 < (((((⟨#[108, 111, 97, 100, 32]⟩ : ByteArray) ++ ((rd_T32 l0 x20_1).f0)) ++ (⟨#[32]⟩ : ByteArray)) ++ t104) ++ (⟨#[32]⟩ : ByteArray)).size + t105.size) = False := eq_false (Nat.not_lt.2 c15)
       have c15b3 : (9223372036854775807 < 5 + ((rd_T32 l0 x20_1).f0).size + 1 + t104.size + 1 + t105.size) = False := eq_false (Nat.not_lt.2 (by have h_ := c15; simp only [ByteArray.size_append] at h_; exact h_))
       replace H := guardT H; obtain ⟨c16, H⟩ := H
       have c16b0 := eq_true c16
       have c16b1 : decide (((((((⟨#[108, 111, 97, 100, 32]⟩ : ByteArray) ++ ((rd_T32 l0 x20_1).f0)) ++ (⟨#[32]⟩ : ByteArray)) ++ t104) ++ (⟨#[32]⟩ : ByteArray)) ++ t105).size + 1 ≤ 9223372036854775807) = true := decide_eq_true c16
       try have c16b2 : (9223372036854775807 < ((((((⟨#[108, 111, 97, 100, 32]⟩ : ByteArray) ++ ((rd_T32 l0 x20_1).f0)) ++ (⟨#[32]⟩ : ByteArray)) ++ t104) ++ (⟨#[32]⟩ : ByteArray)) ++ t105).size + 1) = False := eq_false (Nat.not_lt.2 c16)
       have c16b3 : (9223372036854775807 < 5 + ((rd_T32 l0 x20_1).f0).size + 1 + t104.size + 1 + t105.size + 1) = False := eq_false (Nat.not_lt.2 (by have h_ := c16; simp only [ByteArray.size_append] at h_; exact h_))
       replace H := guardT H; obtain ⟨c17, H⟩ := H
       have c17b0 := eq_true c17
       have c17b1 : decide (x7_1.size + (((((((⟨#[108, 111, 97, 100, 32]⟩ : ByteArray) ++ ((rd_T32 l0 x20_1).f0)) ++ (⟨#[32]⟩ : ByteArray)) ++ t104) ++ (⟨#[32]⟩ : ByteArray)) ++ t105) ++ (⟨#[10]⟩ : ByteArray)).size ≤ 9223372036854775807) = true := decide_eq_true c17
       try have c17b2 : (9223372036854775807 < x7_1.size + (((((((⟨#[108, 111, 97, 100, 32]⟩ : ByteArray) ++ ((rd_T32 l0 x20_1).f0)) ++ (⟨#[32]⟩ : ByteArray)) ++ t104) ++ (⟨#[32]⟩ : ByteArray)) ++ t105) ++ (⟨#[10]⟩ : ByteArray)).size) = False := eq_false (Nat.not_lt.2 c17)
       have c17b3 : (9223372036854775807 < x7_1.size + (5 + ((rd_T32 l0 x20_1).f0).size + 1 + t104.size + 1 + t105.size + 1)) = False := eq_false (Nat.not_lt.2 (by have h_ := c17; simp only [ByteArray.size_append] at h_; exact h_))
       have H' := Aside0.mk H
       clear H
       have p102 : 0 ≤ (x20_1 : Int) := of_decide_eq_true d6f
       have q102 : x20_1 < (l0.length : Int) := of_decide_eq_true d6f
       obtain ⟨ad102, e102, hx102_0, hx102_1, hx102_2⟩ := at_T32 HR0.out x20_1 p102 q102
       cases e102
       replace hx102_0 := cellB HB.out hx102_0
       replace hx102_1 := cellB HB.out hx102_1
       replace hx102_2 := cellB HB.out hx102_2
       replace p102 := eq_true p102
       replace q102 := eq_true q102
       try go_wp2_with ((with_reducible refine gate_dst (N := 9) rfl ?_); refine box_event ?hg (N := 9) ?hd (cs := #[.string (⟨#[]⟩ : ByteArray), .int .i64 0, .int .i64 0]) (t := 32) ?hr ?_; (case hd => rfl); (case hg => rfl); (case hr => first | (go_simp; done) | (go_simp; rfl)); intro gb103 hg w18 hbox hb; have n0_ := Aside0.mk (below_step d6d hb); have n1_ := Aside0.mk (hbox); have n2_ := Aside0.mk ((by rw [hg]; exact (below_size d6d) : w.heap.size ≤ gb103)); have n3_ := Aside0.mk ((by rw [hg]; exact (below_size d6d) : w.heap.size ≤ gb103)); clear HB; have HB := n0_; have BK103 := n1_; have GW103 := n2_; have GE103 := n3_; clear n0_ n1_ n2_ n3_; clear hb hbox hg; have hcz19_0 : w18.cell? ⟨gb103, 0, none⟩ = some (.string (⟨#[]⟩ : ByteArray)) := (blk_cell BK103.out 0).trans rfl; have hcz19_1 : w18.cell? ⟨gb103, 1, none⟩ = some (.int .i64 0) := (blk_cell BK103.out 1).trans rfl; have hcz19_2 : w18.cell? ⟨gb103, 2, none⟩ = some (.int .i64 0) := (blk_cell BK103.out 2).trans rfl; have hfz19_0 := blk_frozen BK103.out 0; have hfz19_1 := blk_frozen BK103.out 1; have hfz19_2 := blk_frozen BK103.out 2)
       have n0_ : Aside0 ((((w18.setCell ⟨gb103, 0, none⟩ (.string ((rd_T32 l0 x20_1).f0))).setCell ⟨gb103, 1, none⟩ (.int .i64 ((rd_T32 l0 x20_1).f1))).setCell ⟨gb103, 2, none⟩ (.int .i64 ((rd_T32 l0 x20_1).f2))).heap[gb103]? = some (.cells #[.string ((rd_T32 l0 x20_1).f0), .int .i64 ((rd_T32 l0 x20_1).f1), .int .i64 ((rd_T32 l0 x20_1).f2)] 32 (0, 0))) := ⟨by (with_reducible repeat (first | refine blk_drewN ?_ _ | refine blk_drew ?_ | refine blk_alloc ?_ _)); refine blk_put (cs := #[.string ((rd_T32 l0 x20_1).f0), .int .i64 ((rd_T32 l0 x20_1).f1), .int .i64 0]) ?_ 2 _ rfl; (with_reducible repeat (first | refine blk_drewN ?_ _ | refine blk_drew ?_ | refine blk_alloc ?_ _)); refine blk_put (cs := #[.string ((rd_T32 l0 x20_1).f0), .int .i64 0, .int .i64 0]) ?_ 1 _ rfl; (with_reducible repeat (first | refine blk_drewN ?_ _ | refine blk_drew ?_ | refine blk_alloc ?_ _)); refine blk_put (cs := #[.string (⟨#[]⟩ : ByteArray), .int .i64 0, .int .i64 0]) ?_ 0 _ rfl; (with_reducible repeat (first | refine blk_drewN ?_ _ | refine blk_drew ?_ | refine blk_alloc ?_ _)); exact BK103.out⟩
       have n1_ : Aside0 (Below w.heap.size w (((w18.setCell ⟨gb103, 0, none⟩ (.string ((rd_T32 l0 x20_1).f0))).setCell ⟨gb103, 1, none⟩ (.int .i64 ((rd_T32 l0 x20_1).f1))).setCell ⟨gb103, 2, none⟩ (.int .i64 ((rd_T32 l0 x20_1).f2)))) := ⟨d6a⟩
       (try clear BK103)
       (try clear HB)
       generalize (((w18.setCell ⟨gb103, 0, none⟩ (.string ((rd_T32 l0 x20_1).f0))).setCell ⟨gb103, 1, none⟩ (.int .i64 ((rd_T32 l0 x20_1).f1))).setCell ⟨gb103, 2, none⟩ (.int .i64 ((rd_T32 l0 x20_1).f2))) = w20 at n0_ n1_ ⊢
       have BK103 := n0_
       have HB := n1_
       clear n0_ n1_
       have n0_ := Aside0.mk (blk_drew BK103.out)
       have n1_ := Aside0.mk (below_drew1 HB.out)
       clear BK103
       clear HB
       have BK103 := n0_
       have HB := n1_
       clear n0_ n1_
       refine start_ (n := 17) (S := fun w' => w'.cell? ⟨gb103, 0, none⟩ = some (.string ((rd_T32 l0 x20_1).f0)) ∧ w'.cell? ⟨gb103, 1, none⟩ = some (.int .i64 ((rd_T32 l0 x20_1).f1)) ∧ w'.cell? ⟨gb103, 2, none⟩ = some (.int .i64 ((rd_T32 l0 x20_1).f2))) (ds := []) #[false, false, false, false, false, false, false, false, false, false, false, false, false, false, false, false, false] (by kernel_rfl) rfl rfl ⟨(blk_cell BK103.out 0).trans rfl, (blk_cell BK103.out 1).trans rfl, (blk_cell BK103.out 2).trans rfl⟩ (fun hHeld => ?_); refine with_tabW perigeeref9_Text.tab8 perigeeref9_Text.bits8 (fun HT_ HW_ => ?_)
       generalize w20.drew = w21 at BK103 HB hHeld ⊢
       refine pure_ (i := 0) (N := some 24) (v := ?_) (a' := ?_) #[true, false, false, false, false, false, false, false, false, false, false, false, false, false, false, false, false] rfl rfl (any_of HT_.out (by kernel_rfl)) (fun _ _ _ h => h) (Or.inl ⟨by rfl, ?_⟩) ?_ ?_
       rotate_left
       · intro w'
         go_simp
         with_reducible rfl
       rotate_left
       · simp only [Act.put, List.setIfInBounds_toArray, List.set_cons_zero, List.set_cons_succ, i64_w, i32_w]
         rfl
       refine pure_ (i := 1) (N := some 25) (v := ?_) (a' := ?_) #[true, true, false, false, false, false, false, false, false, false, false, false, false, false, false, false, false] rfl rfl (any_of HT_.out (by kernel_rfl)) (fun _ _ _ h => h) (Or.inl ⟨by rfl, ?_⟩) ?_ ?_
       rotate_left
       · intro w'
         go_simp
         with_reducible rfl
       rotate_left
       · simp only [Act.put, List.setIfInBounds_toArray, List.set_cons_zero, List.set_cons_succ, i64_w, i32_w]
         rfl
       refine pure_ (i := 5) (N := some 29) (v := ?_) (a' := ?_) #[true, true, false, false, false, true, false, false, false, false, false, false, false, false, false, false, false] rfl rfl (any_of HT_.out (by kernel_rfl)) (fun _ _ _ h => h) (Or.inl ⟨by rfl, ?_⟩) ?_ ?_
       rotate_left
       · intro w'
         go_simp
         with_reducible rfl
       rotate_left
       · simp only [Act.put, List.setIfInBounds_toArray, List.set_cons_zero, List.set_cons_succ, i64_w, i32_w]
         rfl
       refine pure_ (i := 10) (N := some 34) (v := ?_) (a' := ?_) #[true, true, false, false, false, true, false, false, false, false, true, false, false, false, false, false, false] rfl rfl (any_of HT_.out (by kernel_rfl)) (fun _ _ _ h => h) (Or.inl ⟨by rfl, ?_⟩) ?_ ?_
       rotate_left
       · intro w'
         go_simp
         with_reducible rfl
       rotate_left
       · simp only [Act.put, List.setIfInBounds_toArray, List.set_cons_zero, List.set_cons_succ, i64_w, i32_w]
         rfl
       refine take_ (i := 2) (N := some 26) (v := ?_) (a' := ?_) #[true, true, true, false, false, true, false, false, false, false, true, false, false, false, false, false, false] rfl rfl (take_ofW HT_.out HW_.out (by kernel_rfl)) (fun _ _ _ h => h) (Or.inl ⟨by rfl, ?_⟩) hHeld ?_ ?_
       rotate_left
       · rintro w' ⟨s0, s1, s2⟩
         go_simp
         with_reducible rfl
       rotate_left
       · simp only [Act.put, List.setIfInBounds_toArray, List.set_cons_zero, List.set_cons_succ, i64_w, i32_w]
         rfl
       refine pure_ (i := 3) (N := some 27) (v := ?_) (a' := ?_) #[true, true, true, true, false, true, false, false, false, false, true, false, false, false, false, false, false] rfl rfl (any_of HT_.out (by kernel_rfl)) (fun _ _ _ h => h) (Or.inl ⟨by rfl, ?_⟩) ?_ ?_
       rotate_left
       · intro w'
         go_simp
         with_reducible rfl
       rotate_left
       · simp only [Act.put, List.setIfInBounds_toArray, List.set_cons_zero, List.set_cons_succ, i64_w, i32_w]
         rfl
       refine pure_ (i := 4) (N := some 28) (v := ?_) (a' := ?_) #[true, true, true, true, true, true, false, false, false, false, true, false, false, false, false, false, false] rfl rfl (any_of HT_.out (by kernel_rfl)) (fun _ _ _ h => h) (Or.inl ⟨by rfl, ?_⟩) ?_ ?_
       rotate_left
       · intro w'
         go_simp
         with_reducible rfl
       rotate_left
       · simp only [Act.put, List.setIfInBounds_toArray, List.set_cons_zero, List.set_cons_succ, i64_w, i32_w]
         rfl
       refine take_ (i := 6) (N := some 30) (v := ?_) (a' := ?_) #[true, true, true, true, true, true, true, false, false, false, true, false, false, false, false, false, false] rfl rfl (take_ofW HT_.out HW_.out (by kernel_rfl)) (fun _ _ _ h => h) (Or.inl ⟨by rfl, ?_⟩) hHeld ?_ ?_
       rotate_left
       · rintro w' ⟨s0, s1, s2⟩
         go_simp
         with_reducible rfl
       rotate_left
       · simp only [Act.put, List.setIfInBounds_toArray, List.set_cons_zero, List.set_cons_succ, i64_w, i32_w]
         rfl
       refine take_ (i := 11) (N := some 35) (v := ?_) (a' := ?_) #[true, true, true, true, true, true, true, false, false, false, true, true, false, false, false, false, false] rfl rfl (take_ofW HT_.out HW_.out (by kernel_rfl)) (fun _ _ _ h => h) (Or.inl ⟨by rfl, ?_⟩) hHeld ?_ ?_
       rotate_left
       · rintro w' ⟨s0, s1, s2⟩
         go_simp
         with_reducible rfl
       rotate_left
       · simp only [Act.put, List.setIfInBounds_toArray, List.set_cons_zero, List.set_cons_succ, i64_w, i32_w]
         rfl
       refine one_ (i := 7) (N := some 31) #[true, true, true, true, true, true, true, true, false, false, true, true, false, false, false, false, false] rfl rfl (one_of HT_.out (by kernel_rfl)) (by decide) (fun K hK => ?_)
       refine goes_ Tryd.func14 (by kernel_rfl) rfl #[.int .i64 ((rd_T32 l0 x20_1).f1)] (by rfl) rfl rfl d6c ?_
       with_reducible refine (strconv_Itoa.calls ((rd_T32 l0 x20_1).f1) t104 _ (HV.out.below d6d) A11.out).mono ?_
       rintro e w22 ⟨rfl, hb⟩
       refine ⟨_, rfl, ?_⟩
       have n0_ := Aside0.mk (blk_below (g := gb103) (o := .cells #[.string ((rd_T32 l0 x20_1).f0), .int .i64 ((rd_T32 l0 x20_1).f1), .int .i64 ((rd_T32 l0 x20_1).f2)] 32 (0, 0)) (by (with_reducible repeat (first | refine blk_drewN ?_ _ | refine blk_drew ?_ | refine blk_alloc ?_ _)); exact BK103.out) hb)
       have n1_ := Aside0.mk (below_step d6a hb)
       clear BK103
       clear HB
       have BK103 := n0_
       have HB := n1_
       clear n0_ n1_
       (try clear hb)
       skip
       skip
       skip
       refine hK.out _ _ ⟨(blk_cell BK103.out 0).trans rfl, (blk_cell BK103.out 1).trans rfl, (blk_cell BK103.out 2).trans rfl⟩ (fun hHeld => ?_)
       clear hK K
       refine norm_ (a' := ?_) ?_ ?_
       rotate_left
       · show Act.put _ (some 31) _ = _
         simp only [Act.put, List.setIfInBounds_toArray, List.set_cons_zero, List.set_cons_succ, i64_w, i32_w]
         rfl
       refine pure_ (i := 8) (N := some 32) (v := ?_) (a' := ?_) #[true, true, true, true, true, true, true, true, true, false, true, true, false, false, false, false, false] rfl rfl (any_of HT_.out (by kernel_rfl)) (fun _ _ _ h => h) (Or.inl ⟨by rfl, ?_⟩) ?_ ?_
       rotate_left
       · intro w'
         go_simp
         with_reducible rfl
       rotate_left
       · simp only [Act.put, List.setIfInBounds_toArray, List.set_cons_zero, List.set_cons_succ, i64_w, i32_w]
         rfl
       refine pure_ (i := 9) (N := some 33) (v := ?_) (a' := ?_) #[true, true, true, true, true, true, true, true, true, true, true, true, false, false, false, false, false] rfl rfl (any_of HT_.out (by kernel_rfl)) (fun _ _ _ h => h) (Or.inl ⟨by rfl, ?_⟩) ?_ ?_
       rotate_left
       · intro w'
         go_simp
         with_reducible rfl
       rotate_left
       · simp only [Act.put, List.setIfInBounds_toArray, List.set_cons_zero, List.set_cons_succ, i64_w, i32_w]
         rfl
       refine one_ (i := 12) (N := some 36) #[true, true, true, true, true, true, true, true, true, true, true, true, true, false, false, false, false] rfl rfl (one_of HT_.out (by kernel_rfl)) (by decide) (fun K hK => ?_)
       refine goes_ Tryd.func14 (by kernel_rfl) rfl #[.int .i64 ((rd_T32 l0 x20_1).f2)] (by rfl) rfl rfl d6c ?_
       with_reducible refine (strconv_Itoa.calls ((rd_T32 l0 x20_1).f2) t105 _ (HV.out.below d6d) A14.out).mono ?_
       rintro e w23 ⟨rfl, hb⟩
       refine ⟨_, rfl, ?_⟩
       have n0_ := Aside0.mk (blk_below (g := gb103) (o := .cells #[.string ((rd_T32 l0 x20_1).f0), .int .i64 ((rd_T32 l0 x20_1).f1), .int .i64 ((rd_T32 l0 x20_1).f2)] 32 (0, 0)) (by (with_reducible repeat (first | refine blk_drewN ?_ _ | refine blk_drew ?_ | refine blk_alloc ?_ _)); exact BK103.out) hb)
       have n1_ := Aside0.mk (below_step d6a hb)
       clear BK103
       clear HB
       have BK103 := n0_
       have HB := n1_
       clear n0_ n1_
       (try clear hb)
       skip
       skip
       skip
       refine hK.out _ _ ⟨(blk_cell BK103.out 0).trans rfl, (blk_cell BK103.out 1).trans rfl, (blk_cell BK103.out 2).trans rfl⟩ (fun hHeld => ?_)
       clear hK K
       refine norm_ (a' := ?_) ?_ ?_
       rotate_left
       · show Act.put _ (some 36) _ = _
         simp only [Act.put, List.setIfInBounds_toArray, List.set_cons_zero, List.set_cons_succ, i64_w, i32_w]
         rfl
       refine pure_ (i := 13) (N := some 37) (v := ?_) (a' := ?_) #[true, true, true, true, true, true, true, true, true, true, true, true, true, true, false, false, false] rfl rfl (any_of HT_.out (by kernel_rfl)) (fun _ _ _ h => h) (Or.inl ⟨by rfl, ?_⟩) ?_ ?_
       rotate_left
       · intro w'
         go_simp
         with_reducible rfl
       rotate_left
       · simp only [Act.put, List.setIfInBounds_toArray, List.set_cons_zero, List.set_cons_succ, i64_w, i32_w]
         rfl
       refine pure_ (i := 14) (N := some 38) (v := ?_) (a' := ?_) #[true, true, true, true, true, true, true, true, true, true, true, true, true, true, true, false, false] rfl rfl (any_of HT_.out (by kernel_rfl)) (fun _ _ _ h => h) (Or.inl ⟨by rfl, ?_⟩) ?_ ?_
       rotate_left
       · intro w'
         go_simp
         with_reducible rfl
       rotate_left
       · simp only [Act.put, List.setIfInBounds_toArray, List.set_cons_zero, List.set_cons_succ, i64_w, i32_w]
         rfl
       refine pure_ (i := 15) (N := some 39) (v := ?_) (a' := ?_) #[true, true, true, true, true, true, true, true, true, true, true, true, true, true, true, true, false] rfl rfl (any_of HT_.out (by kernel_rfl)) (fun _ _ _ h => h) (Or.inl ⟨by rfl, ?_⟩) ?_ ?_
       rotate_left
       · intro w'
         go_simp
         with_reducible rfl
       rotate_left
       · simp only [Act.put, List.setIfInBounds_toArray, List.set_cons_zero, List.set_cons_succ, i64_w, i32_w]
         rfl
       refine pure_ (i := 16) (N := some 7) (v := ?_) (a' := ?_) #[true, true, true, true, true, true, true, true, true, true, true, true, true, true, true, true, true] rfl rfl (any_of HT_.out (by kernel_rfl)) (fun _ _ _ h => h) (Or.inl ⟨by rfl, ?_⟩) ?_ ?_
       rotate_left
       · intro w'
         go_simp
         with_reducible rfl
       rotate_left
       · simp only [Act.put, List.setIfInBounds_toArray, List.set_cons_zero, List.set_cons_succ, i64_w, i32_w]
         rfl
       refine done_ (done_of HT_.out (by kernel_rfl)) ?_
       try go_wp2
       go_roundg k1
       case measure => have := HK1.out; omega
       case rel => exact ⟨(x7_1 ++ (((((((⟨#[108, 111, 97, 100, 32]⟩ : ByteArray) ++ ((rd_T32 l0 x20_1).f0)) ++ (⟨#[32]⟩ : ByteArray)) ++ t104) ++ (⟨#[32]⟩ : ByteArray)) ++ t105) ++ (⟨#[10]⟩ : ByteArray))), (wrap64 (x20_1 + 1)), d6g, d6g, H', ⟨by have := HK1.out; omega⟩, ⟨d6a⟩⟩
     · rw [if_neg c6] at H
       have c6b0 : decide (x20_1 < (l0.length : Int)) = false := decide_eq_false c6
       clear c6
       have H' := Aside0.mk H
       clear H
       go_wp2
       go_loopg [7, 43] k1 (fun kq v7 v43 w' => ∃ (x7_2 : ByteArray) (x43_2 : Int), v7 = .string x7_2 ∧ v43 = .int .i64 x43_2 ∧ Aside0 (perigeeref9_Text.l1 kq x7_2 l1 (l1.length : Int) x43_2 = some (r1, r2)) ∧ Aside0 (kq ≤ k1) ∧ Aside0 (Below w.heap.size w w'))
       case atStart => exact ⟨(x7_1), (0), d6g, d6g, H', ⟨Nat.le_refl _⟩, ⟨d6d⟩⟩
       case round =>
        clear H'
        try clear c6b0
        obtain ⟨x7_2, x43_2, rfl, rfl, HA, HK2, HB⟩ := hrel
        cases gk with
        | zero => exact absurd HA.out (by simp [perigeeref9_Text.l1])
        | succ k2 =>
         have H := HA.out
         clear HA
         simp only [perigeeref9_Text.l1] at H
         by_cases c24 : x43_2 < (l1.length : Int)
         · rw [if_pos c24] at H
           have c24b0 : decide (x43_2 < (l1.length : Int)) = true := decide_eq_true c24
           clear c24
           replace H := guardT H; obtain ⟨c25, H⟩ := H
           have c25b0 : decide (0 ≤ x43_2) = true := decide_eq_true c25
           clear c25
           replace H := guardT H; obtain ⟨c26, H⟩ := H
           have c26b0 : decide (x43_2 < (l1.length : Int)) = true := decide_eq_true c26
           clear c26
           replace H := guardT H; obtain ⟨c27, H⟩ := H
           have c27b0 := eq_true c27
           have c27b1 : decide (4 + ((rd_T35 l1 x43_2).f0).size ≤ 9223372036854775807) = true := decide_eq_true c27
           try have c27b2 : (9223372036854775807 < 4 + ((rd_T35 l1 x43_2).f0).size) = False := eq_false (Nat.not_lt.2 c27)
           replace H := guardT H; obtain ⟨c28, H⟩ := H
           have c28b0 := eq_true c28
           have c28b1 : decide (((⟨#[117, 115, 101, 32]⟩ : ByteArray) ++ ((rd_T35 l1 x43_2).f0)).size + 1 ≤ 9223372036854775807) = true := decide_eq_true c28
           try have c28b2 : (9223372036854775807 < ((⟨#[117, 115, 101, 32]⟩ : ByteArray) ++ ((rd_T35 l1 x43_2).f0)).size + 1) = False := eq_false (Nat.not_lt.2 c28)
           have c28b3 : (9223372036854775807 < 4 + ((rd_T35 l1 x43_2).f0).size + 1) = False := eq_false (Nat.not_lt.2 (by have h_ := c28; simp only [ByteArray.size_append] at h_; exact h_))
           replace H := bindS H; obtain ⟨t108, A29, H⟩ := H
           replace H := guardT H; obtain ⟨c30, H⟩ := H
           have c30b0 := eq_true c30
           have c30b1 : decide ((((⟨#[117, 115, 101, 32]⟩ : ByteArray) ++ ((rd_T35 l1 x43_2).f0)) ++ (⟨#[32]⟩ : ByteArray)).size + t108.size ≤ 9223372036854775807) = true := decide_eq_true c30
           try have c30b2 : (9223372036854775807 < (((⟨#[117, 115, 101, 32]⟩ : ByteArray) ++ ((rd_T35 l1 x43_2).f0)) ++ (⟨#[32]⟩ : ByteArray)).size + t108.size) = False := eq_false (Nat.not_lt.2 c30)
           have c30b3 : (9223372036854775807 < 4 + ((rd_T35 l1 x43_2).f0).size + 1 + t108.size) = False := eq_false (Nat.not_lt.2 (by have h_ := c30; simp only [ByteArray.size_append] at h_; exact h_))
           replace H := guardT H; obtain ⟨c31, H⟩ := H
           have c31b0 := eq_true c31
           have c31b1 : decide (((((⟨#[117, 115, 101, 32]⟩ : ByteArray) ++ ((rd_T35 l1 x43_2).f0)) ++ (⟨#[32]⟩ : ByteArray)) ++ t108).size + 1 ≤ 9223372036854775807) = true := decide_eq_true c31
           try have c31b2 : (9223372036854775807 < ((((⟨#[117, 115, 101, 32]⟩ : ByteArray) ++ ((rd_T35 l1 x43_2).f0)) ++ (⟨#[32]⟩ : ByteArray)) ++ t108).size + 1) = False := eq_false (Nat.not_lt.2 c31)
           have c31b3 : (9223372036854775807 < 4 + ((rd_T35 l1 x43_2).f0).size + 1 + t108.size + 1) = False := eq_false (Nat.not_lt.2 (by have h_ := c31; simp only [ByteArray.size_append] at h_; exact h_))
           replace H := bindS H; obtain ⟨t109, A32, H⟩ := H
           replace H := guardT H; obtain ⟨c33, H⟩ := H
           have c33b0 := eq_true c33
           have c33b1 : decide ((((((⟨#[117, 115, 101, 32]⟩ : ByteArray) ++ ((rd_T35 l1 x43_2).f0)) ++ (⟨#[32]⟩ : ByteArray)) ++ t108) ++ (⟨#[32]⟩ : ByteArray)).size + t109.size ≤ 9223372036854775807) = true := decide_eq_true c33
           try have c33b2 : (9223372036854775807 < (((((⟨#[117, 115, 101, 32]⟩ : ByteArray) ++ ((rd_T35 l1 x43_2).f0)) ++ (⟨#[32]⟩ : ByteArray)) ++ t108) ++ (⟨#[32]⟩ : ByteArray)).size + t109.size) = False := eq_false (Nat.not_lt.2 c33)
           have c33b3 : (9223372036854775807 < 4 + ((rd_T35 l1 x43_2).f0).size + 1 + t108.size + 1 + t109.size) = False := eq_false (Nat.not_lt.2 (by have h_ := c33; simp only [ByteArray.size_append] at h_; exact h_))
           replace H := guardT H; obtain ⟨c34, H⟩ := H
           have c34b0 := eq_true c34
           have c34b1 : decide (((((((⟨#[117, 115, 101, 32]⟩ : ByteArray) ++ ((rd_T35 l1 x43_2).f0)) ++ (⟨#[32]⟩ : ByteArray)) ++ t108) ++ (⟨#[32]⟩ : ByteArray)) ++ t109).size + 1 ≤ 9223372036854775807) = true := decide_eq_true c34
           try have c34b2 : (9223372036854775807 < ((((((⟨#[117, 115, 101, 32]⟩ : ByteArray) ++ ((rd_T35 l1 x43_2).f0)) ++ (⟨#[32]⟩ : ByteArray)) ++ t108) ++ (⟨#[32]⟩ : ByteArray)) ++ t109).size + 1) = False := eq_false (Nat.not_lt.2 c34)
           have c34b3 : (9223372036854775807 < 4 + ((rd_T35 l1 x43_2).f0).size + 1 + t108.size + 1 + t109.size + 1) = False := eq_false (Nat.not_lt.2 (by have h_ := c34; simp only [ByteArray.size_append] at h_; exact h_))
           replace H := guardT H; obtain ⟨c35, H⟩ := H
           have c35b0 := eq_true c35
           have c35b1 : decide (x7_2.size + (((((((⟨#[117, 115, 101, 32]⟩ : ByteArray) ++ ((rd_T35 l1 x43_2).f0)) ++ (⟨#[32]⟩ : ByteArray)) ++ t108) ++ (⟨#[32]⟩ : ByteArray)) ++ t109) ++ (⟨#[10]⟩ : ByteArray)).size ≤ 9223372036854775807) = true := decide_eq_true c35
           try have c35b2 : (9223372036854775807 < x7_2.size + (((((((⟨#[117, 115, 101, 32]⟩ : ByteArray) ++ ((rd_T35 l1 x43_2).f0)) ++ (⟨#[32]⟩ : ByteArray)) ++ t108) ++ (⟨#[32]⟩ : ByteArray)) ++ t109) ++ (⟨#[10]⟩ : ByteArray)).size) = False := eq_false (Nat.not_lt.2 c35)
           have c35b3 : (9223372036854775807 < x7_2.size + (4 + ((rd_T35 l1 x43_2).f0).size + 1 + t108.size + 1 + t109.size + 1)) = False := eq_false (Nat.not_lt.2 (by have h_ := c35; simp only [ByteArray.size_append] at h_; exact h_))
           have H' := Aside0.mk H
           clear H
           have p106 : 0 ≤ (x43_2 : Int) := of_decide_eq_true d6f
           have q106 : x43_2 < (l1.length : Int) := of_decide_eq_true d6f
           obtain ⟨ad106, e106, hx106_0, hx106_1, hx106_2⟩ := at_T35 HR1.out x43_2 p106 q106
           cases e106
           replace hx106_0 := cellB HB.out hx106_0
           replace hx106_1 := cellB HB.out hx106_1
           replace hx106_2 := cellB HB.out hx106_2
           replace p106 := eq_true p106
           replace q106 := eq_true q106
           try go_wp2_with ((with_reducible refine gate_dst (N := 11) rfl ?_); refine box_event ?hg (N := 11) ?hd (cs := #[.string (⟨#[]⟩ : ByteArray), .int .i64 0, .int .i64 0]) (t := 35) ?hr ?_; (case hd => rfl); (case hg => rfl); (case hr => first | (go_simp; done) | (go_simp; rfl)); intro gb107 hg w36 hbox hb; have n0_ := Aside0.mk (below_step d6d hb); have n1_ := Aside0.mk (hbox); have n2_ := Aside0.mk ((by rw [hg]; exact (below_size d6d) : w.heap.size ≤ gb107)); have n3_ := Aside0.mk ((by rw [hg]; exact (below_size d6d) : w.heap.size ≤ gb107)); clear HB; have HB := n0_; have BK107 := n1_; have GW107 := n2_; have GE107 := n3_; clear n0_ n1_ n2_ n3_; clear hb hbox hg; have hcz37_0 : w36.cell? ⟨gb107, 0, none⟩ = some (.string (⟨#[]⟩ : ByteArray)) := (blk_cell BK107.out 0).trans rfl; have hcz37_1 : w36.cell? ⟨gb107, 1, none⟩ = some (.int .i64 0) := (blk_cell BK107.out 1).trans rfl; have hcz37_2 : w36.cell? ⟨gb107, 2, none⟩ = some (.int .i64 0) := (blk_cell BK107.out 2).trans rfl; have hfz37_0 := blk_frozen BK107.out 0; have hfz37_1 := blk_frozen BK107.out 1; have hfz37_2 := blk_frozen BK107.out 2)
           have n0_ : Aside0 ((((w36.setCell ⟨gb107, 0, none⟩ (.string ((rd_T35 l1 x43_2).f0))).setCell ⟨gb107, 1, none⟩ (.int .i64 ((rd_T35 l1 x43_2).f1))).setCell ⟨gb107, 2, none⟩ (.int .i64 ((rd_T35 l1 x43_2).f2))).heap[gb107]? = some (.cells #[.string ((rd_T35 l1 x43_2).f0), .int .i64 ((rd_T35 l1 x43_2).f1), .int .i64 ((rd_T35 l1 x43_2).f2)] 35 (0, 0))) := ⟨by (with_reducible repeat (first | refine blk_drewN ?_ _ | refine blk_drew ?_ | refine blk_alloc ?_ _)); refine blk_put (cs := #[.string ((rd_T35 l1 x43_2).f0), .int .i64 ((rd_T35 l1 x43_2).f1), .int .i64 0]) ?_ 2 _ rfl; (with_reducible repeat (first | refine blk_drewN ?_ _ | refine blk_drew ?_ | refine blk_alloc ?_ _)); refine blk_put (cs := #[.string ((rd_T35 l1 x43_2).f0), .int .i64 0, .int .i64 0]) ?_ 1 _ rfl; (with_reducible repeat (first | refine blk_drewN ?_ _ | refine blk_drew ?_ | refine blk_alloc ?_ _)); refine blk_put (cs := #[.string (⟨#[]⟩ : ByteArray), .int .i64 0, .int .i64 0]) ?_ 0 _ rfl; (with_reducible repeat (first | refine blk_drewN ?_ _ | refine blk_drew ?_ | refine blk_alloc ?_ _)); exact BK107.out⟩
           have n1_ : Aside0 (Below w.heap.size w (((w36.setCell ⟨gb107, 0, none⟩ (.string ((rd_T35 l1 x43_2).f0))).setCell ⟨gb107, 1, none⟩ (.int .i64 ((rd_T35 l1 x43_2).f1))).setCell ⟨gb107, 2, none⟩ (.int .i64 ((rd_T35 l1 x43_2).f2)))) := ⟨d6b⟩
           (try clear BK107)
           (try clear HB)
           generalize (((w36.setCell ⟨gb107, 0, none⟩ (.string ((rd_T35 l1 x43_2).f0))).setCell ⟨gb107, 1, none⟩ (.int .i64 ((rd_T35 l1 x43_2).f1))).setCell ⟨gb107, 2, none⟩ (.int .i64 ((rd_T35 l1 x43_2).f2))) = w38 at n0_ n1_ ⊢
           have BK107 := n0_
           have HB := n1_
           clear n0_ n1_
           have n0_ := Aside0.mk (blk_drew BK107.out)
           have n1_ := Aside0.mk (below_drew1 HB.out)
           clear BK107
           clear HB
           have BK107 := n0_
           have HB := n1_
           clear n0_ n1_
           refine start_ (n := 17) (S := fun w' => w'.cell? ⟨gb107, 0, none⟩ = some (.string ((rd_T35 l1 x43_2).f0)) ∧ w'.cell? ⟨gb107, 1, none⟩ = some (.int .i64 ((rd_T35 l1 x43_2).f1)) ∧ w'.cell? ⟨gb107, 2, none⟩ = some (.int .i64 ((rd_T35 l1 x43_2).f2))) (ds := []) #[false, false, false, false, false, false, false, false, false, false, false, false, false, false, false, false, false] (by kernel_rfl) rfl rfl ⟨(blk_cell BK107.out 0).trans rfl, (blk_cell BK107.out 1).trans rfl, (blk_cell BK107.out 2).trans rfl⟩ (fun hHeld => ?_); refine with_tabW perigeeref9_Text.tab13 perigeeref9_Text.bits13 (fun HT_ HW_ => ?_)
           generalize w38.drew = w39 at BK107 HB hHeld ⊢
           refine pure_ (i := 0) (N := some 47) (v := ?_) (a' := ?_) #[true, false, false, false, false, false, false, false, false, false, false, false, false, false, false, false, false] rfl rfl (any_of HT_.out (by kernel_rfl)) (fun _ _ _ h => h) (Or.inl ⟨by rfl, ?_⟩) ?_ ?_
           rotate_left
           · intro w'
             go_simp
             with_reducible rfl
           rotate_left
           · simp only [Act.put, List.setIfInBounds_toArray, List.set_cons_zero, List.set_cons_succ, i64_w, i32_w]
             rfl
           refine pure_ (i := 1) (N := some 48) (v := ?_) (a' := ?_) #[true, true, false, false, false, false, false, false, false, false, false, false, false, false, false, false, false] rfl rfl (any_of HT_.out (by kernel_rfl)) (fun _ _ _ h => h) (Or.inl ⟨by rfl, ?_⟩) ?_ ?_
           rotate_left
           · intro w'
             go_simp
             with_reducible rfl
           rotate_left
           · simp only [Act.put, List.setIfInBounds_toArray, List.set_cons_zero, List.set_cons_succ, i64_w, i32_w]
             rfl
           refine pure_ (i := 5) (N := some 52) (v := ?_) (a' := ?_) #[true, true, false, false, false, true, false, false, false, false, false, false, false, false, false, false, false] rfl rfl (any_of HT_.out (by kernel_rfl)) (fun _ _ _ h => h) (Or.inl ⟨by rfl, ?_⟩) ?_ ?_
           rotate_left
           · intro w'
             go_simp
             with_reducible rfl
           rotate_left
           · simp only [Act.put, List.setIfInBounds_toArray, List.set_cons_zero, List.set_cons_succ, i64_w, i32_w]
             rfl
           refine pure_ (i := 10) (N := some 57) (v := ?_) (a' := ?_) #[true, true, false, false, false, true, false, false, false, false, true, false, false, false, false, false, false] rfl rfl (any_of HT_.out (by kernel_rfl)) (fun _ _ _ h => h) (Or.inl ⟨by rfl, ?_⟩) ?_ ?_
           rotate_left
           · intro w'
             go_simp
             with_reducible rfl
           rotate_left
           · simp only [Act.put, List.setIfInBounds_toArray, List.set_cons_zero, List.set_cons_succ, i64_w, i32_w]
             rfl
           refine take_ (i := 2) (N := some 49) (v := ?_) (a' := ?_) #[true, true, true, false, false, true, false, false, false, false, true, false, false, false, false, false, false] rfl rfl (take_ofW HT_.out HW_.out (by kernel_rfl)) (fun _ _ _ h => h) (Or.inl ⟨by rfl, ?_⟩) hHeld ?_ ?_
           rotate_left
           · rintro w' ⟨s0, s1, s2⟩
             go_simp
             with_reducible rfl
           rotate_left
           · simp only [Act.put, List.setIfInBounds_toArray, List.set_cons_zero, List.set_cons_succ, i64_w, i32_w]
             rfl
           refine pure_ (i := 3) (N := some 50) (v := ?_) (a' := ?_) #[true, true, true, true, false, true, false, false, false, false, true, false, false, false, false, false, false] rfl rfl (any_of HT_.out (by kernel_rfl)) (fun _ _ _ h => h) (Or.inl ⟨by rfl, ?_⟩) ?_ ?_
           rotate_left
           · intro w'
             go_simp
             with_reducible rfl
           rotate_left
           · simp only [Act.put, List.setIfInBounds_toArray, List.set_cons_zero, List.set_cons_succ, i64_w, i32_w]
             rfl
           refine pure_ (i := 4) (N := some 51) (v := ?_) (a' := ?_) #[true, true, true, true, true, true, false, false, false, false, true, false, false, false, false, false, false] rfl rfl (any_of HT_.out (by kernel_rfl)) (fun _ _ _ h => h) (Or.inl ⟨by rfl, ?_⟩) ?_ ?_
           rotate_left
           · intro w'
             go_simp
             with_reducible rfl
           rotate_left
           · simp only [Act.put, List.setIfInBounds_toArray, List.set_cons_zero, List.set_cons_succ, i64_w, i32_w]
             rfl
           refine take_ (i := 6) (N := some 53) (v := ?_) (a' := ?_) #[true, true, true, true, true, true, true, false, false, false, true, false, false, false, false, false, false] rfl rfl (take_ofW HT_.out HW_.out (by kernel_rfl)) (fun _ _ _ h => h) (Or.inl ⟨by rfl, ?_⟩) hHeld ?_ ?_
           rotate_left
           · rintro w' ⟨s0, s1, s2⟩
             go_simp
             with_reducible rfl
           rotate_left
           · simp only [Act.put, List.setIfInBounds_toArray, List.set_cons_zero, List.set_cons_succ, i64_w, i32_w]
             rfl
           refine take_ (i := 11) (N := some 58) (v := ?_) (a' := ?_) #[true, true, true, true, true, true, true, false, false, false, true, true, false, false, false, false, false] rfl rfl (take_ofW HT_.out HW_.out (by kernel_rfl)) (fun _ _ _ h => h) (Or.inl ⟨by rfl, ?_⟩) hHeld ?_ ?_
           rotate_left
           · rintro w' ⟨s0, s1, s2⟩
             go_simp
             with_reducible rfl
           rotate_left
           · simp only [Act.put, List.setIfInBounds_toArray, List.set_cons_zero, List.set_cons_succ, i64_w, i32_w]
             rfl
           refine one_ (i := 7) (N := some 54) #[true, true, true, true, true, true, true, true, false, false, true, true, false, false, false, false, false] rfl rfl (one_of HT_.out (by kernel_rfl)) (by decide) (fun K hK => ?_)
           refine goes_ Tryd.func14 (by kernel_rfl) rfl #[.int .i64 ((rd_T35 l1 x43_2).f1)] (by rfl) rfl rfl d6c ?_
           with_reducible refine (strconv_Itoa.calls ((rd_T35 l1 x43_2).f1) t108 _ (HV.out.below d6d) A29.out).mono ?_
           rintro e w40 ⟨rfl, hb⟩
           refine ⟨_, rfl, ?_⟩
           have n0_ := Aside0.mk (blk_below (g := gb107) (o := .cells #[.string ((rd_T35 l1 x43_2).f0), .int .i64 ((rd_T35 l1 x43_2).f1), .int .i64 ((rd_T35 l1 x43_2).f2)] 35 (0, 0)) (by (with_reducible repeat (first | refine blk_drewN ?_ _ | refine blk_drew ?_ | refine blk_alloc ?_ _)); exact BK107.out) hb)
           have n1_ := Aside0.mk (below_step d6b hb)
           clear BK107
           clear HB
           have BK107 := n0_
           have HB := n1_
           clear n0_ n1_
           (try clear hb)
           skip
           skip
           skip
           refine hK.out _ _ ⟨(blk_cell BK107.out 0).trans rfl, (blk_cell BK107.out 1).trans rfl, (blk_cell BK107.out 2).trans rfl⟩ (fun hHeld => ?_)
           clear hK K
           refine norm_ (a' := ?_) ?_ ?_
           rotate_left
           · show Act.put _ (some 54) _ = _
             simp only [Act.put, List.setIfInBounds_toArray, List.set_cons_zero, List.set_cons_succ, i64_w, i32_w]
             rfl
           refine pure_ (i := 8) (N := some 55) (v := ?_) (a' := ?_) #[true, true, true, true, true, true, true, true, true, false, true, true, false, false, false, false, false] rfl rfl (any_of HT_.out (by kernel_rfl)) (fun _ _ _ h => h) (Or.inl ⟨by rfl, ?_⟩) ?_ ?_
           rotate_left
           · intro w'
             go_simp
             with_reducible rfl
           rotate_left
           · simp only [Act.put, List.setIfInBounds_toArray, List.set_cons_zero, List.set_cons_succ, i64_w, i32_w]
             rfl
           refine pure_ (i := 9) (N := some 56) (v := ?_) (a' := ?_) #[true, true, true, true, true, true, true, true, true, true, true, true, false, false, false, false, false] rfl rfl (any_of HT_.out (by kernel_rfl)) (fun _ _ _ h => h) (Or.inl ⟨by rfl, ?_⟩) ?_ ?_
           rotate_left
           · intro w'
             go_simp
             with_reducible rfl
           rotate_left
           · simp only [Act.put, List.setIfInBounds_toArray, List.set_cons_zero, List.set_cons_succ, i64_w, i32_w]
             rfl
           refine one_ (i := 12) (N := some 59) #[true, true, true, true, true, true, true, true, true, true, true, true, true, false, false, false, false] rfl rfl (one_of HT_.out (by kernel_rfl)) (by decide) (fun K hK => ?_)
           refine goes_ Tryd.func14 (by kernel_rfl) rfl #[.int .i64 ((rd_T35 l1 x43_2).f2)] (by rfl) rfl rfl d6c ?_
           with_reducible refine (strconv_Itoa.calls ((rd_T35 l1 x43_2).f2) t109 _ (HV.out.below d6d) A32.out).mono ?_
           rintro e w41 ⟨rfl, hb⟩
           refine ⟨_, rfl, ?_⟩
           have n0_ := Aside0.mk (blk_below (g := gb107) (o := .cells #[.string ((rd_T35 l1 x43_2).f0), .int .i64 ((rd_T35 l1 x43_2).f1), .int .i64 ((rd_T35 l1 x43_2).f2)] 35 (0, 0)) (by (with_reducible repeat (first | refine blk_drewN ?_ _ | refine blk_drew ?_ | refine blk_alloc ?_ _)); exact BK107.out) hb)
           have n1_ := Aside0.mk (below_step d6b hb)
           clear BK107
           clear HB
           have BK107 := n0_
           have HB := n1_
           clear n0_ n1_
           (try clear hb)
           skip
           skip
           skip
           refine hK.out _ _ ⟨(blk_cell BK107.out 0).trans rfl, (blk_cell BK107.out 1).trans rfl, (blk_cell BK107.out 2).trans rfl⟩ (fun hHeld => ?_)
           clear hK K
           refine norm_ (a' := ?_) ?_ ?_
           rotate_left
           · show Act.put _ (some 59) _ = _
             simp only [Act.put, List.setIfInBounds_toArray, List.set_cons_zero, List.set_cons_succ, i64_w, i32_w]
             rfl
           refine pure_ (i := 13) (N := some 60) (v := ?_) (a' := ?_) #[true, true, true, true, true, true, true, true, true, true, true, true, true, true, false, false, false] rfl rfl (any_of HT_.out (by kernel_rfl)) (fun _ _ _ h => h) (Or.inl ⟨by rfl, ?_⟩) ?_ ?_
           rotate_left
           · intro w'
             go_simp
             with_reducible rfl
           rotate_left
           · simp only [Act.put, List.setIfInBounds_toArray, List.set_cons_zero, List.set_cons_succ, i64_w, i32_w]
             rfl
           refine pure_ (i := 14) (N := some 61) (v := ?_) (a' := ?_) #[true, true, true, true, true, true, true, true, true, true, true, true, true, true, true, false, false] rfl rfl (any_of HT_.out (by kernel_rfl)) (fun _ _ _ h => h) (Or.inl ⟨by rfl, ?_⟩) ?_ ?_
           rotate_left
           · intro w'
             go_simp
             with_reducible rfl
           rotate_left
           · simp only [Act.put, List.setIfInBounds_toArray, List.set_cons_zero, List.set_cons_succ, i64_w, i32_w]
             rfl
           refine pure_ (i := 15) (N := some 62) (v := ?_) (a' := ?_) #[true, true, true, true, true, true, true, true, true, true, true, true, true, true, true, true, false] rfl rfl (any_of HT_.out (by kernel_rfl)) (fun _ _ _ h => h) (Or.inl ⟨by rfl, ?_⟩) ?_ ?_
           rotate_left
           · intro w'
             go_simp
             with_reducible rfl
           rotate_left
           · simp only [Act.put, List.setIfInBounds_toArray, List.set_cons_zero, List.set_cons_succ, i64_w, i32_w]
             rfl
           refine pure_ (i := 16) (N := some 7) (v := ?_) (a' := ?_) #[true, true, true, true, true, true, true, true, true, true, true, true, true, true, true, true, true] rfl rfl (any_of HT_.out (by kernel_rfl)) (fun _ _ _ h => h) (Or.inl ⟨by rfl, ?_⟩) ?_ ?_
           rotate_left
           · intro w'
             go_simp
             with_reducible rfl
           rotate_left
           · simp only [Act.put, List.setIfInBounds_toArray, List.set_cons_zero, List.set_cons_succ, i64_w, i32_w]
             rfl
           refine done_ (done_of HT_.out (by kernel_rfl)) ?_
           try go_wp2
           go_roundg k2
           case measure => have := HK1.out; have := HK2.out; omega
           case rel => exact ⟨(x7_2 ++ (((((((⟨#[117, 115, 101, 32]⟩ : ByteArray) ++ ((rd_T35 l1 x43_2).f0)) ++ (⟨#[32]⟩ : ByteArray)) ++ t108) ++ (⟨#[32]⟩ : ByteArray)) ++ t109) ++ (⟨#[10]⟩ : ByteArray))), (wrap64 (x43_2 + 1)), d6g, d6g, H', ⟨by have := HK1.out; have := HK2.out; omega⟩, ⟨d6b⟩⟩
         · rw [if_neg c24] at H
           have c24b0 : decide (x43_2 < (l1.length : Int)) = false := decide_eq_false c24
           clear c24
           by_cases c42 : (x7_2.size : Int) > 50000
           · rw [if_pos c42] at H
             have c42b0 : decide (50000 < (x7_2.size : Int)) = true := decide_eq_true c42
             have c42b1 : decide (50000 < x7_2.size) = true := decide_eq_true (by omega)
             clear c42
             simp only [Option.some.injEq, Prod.mk.injEq] at H
             obtain ⟨rfl, rfl⟩ := H
             go_wp2
             go_ret2
             exact ⟨d6e, d6d⟩
           · rw [if_neg c42] at H
             have c42b0 : decide (50000 < (x7_2.size : Int)) = false := decide_eq_false c42
             have c42b1 : decide (50000 < x7_2.size) = false := decide_eq_false (by omega)
             clear c42
             simp only [Option.some.injEq, Prod.mk.injEq] at H
             obtain ⟨rfl, rfl⟩ := H
             go_wp2
             go_ret2
             exact ⟨d6e, d6d⟩
 · rw [if_neg c4] at H
   have c4b0 : (t101 == 0) = false := beq_eq_false_iff_ne.mpr c4
   have c4b1 : (t101 != 0) = true := bne_iff_ne.mpr c4
   simp only [Option.some.injEq, Prod.mk.injEq] at H
   obtain ⟨rfl, rfl⟩ := H
   go_enter Tryd.func6, Tryd.ntmps6
   go_wp2_with ((with_reducible refine gate_callee (f := 17) rfl ?_); refine goesL_ (some 14) rfl rfl Tryd.func17 (by kernel_rfl) rfl #[.slice A0 l0.length c0, .slice A1 l1.length c1] rfl d6c ?_; (with_reducible refine (perigeeref9_CheckUses.calls k _ _ l0 _ _ l1 t101 _ ?side1 ?side2 ?side3 ?side4 A3.out).mono ?_); (case side1 => exact C_go HR0.out); (case side2 => exact HC0.out); (case side3 => exact C_go HR1.out); (case side4 => exact HC1.out); rintro e w43 ⟨rfl, hb⟩; refine ⟨_, rfl, ?_⟩; replace HB := Aside0.mk (below_step d6d hb); (try clear hb))
   go_ret2
   exact ⟨d6e, d6d⟩
end Go.Proofs.YtplcdpiggpkppaaDoor.Q
