-- Made by wip/tools/claimp.py of this session's texts; Lean checks it.
import Derived.Test.YtbngmblgkkdhpaaC10Q0
import Derived.Test.YtbngmblgkkdhpaaC10Gs1
import Derived.Test.YtbngmblgkkdhpaaC10Gs14
import Derived.Test.YtbngmblgkkdhpaaC10Gs2
import Derived.Test.YtbngmblgkkdhpaaC10Gs3
namespace Go.Proofs.Ytbngmblgkkdhpaa.Q
open Go.RowKit Go.Proofs.YtbngmblgkkdhpaaW.PrintWords Go.Proofs.YtbngmblgkkdhpaaW.PrintLast Go.Proofs.YtbngmblgkkdhpaaW.PrintMore
attribute [local go_sem] max2_int min2_int max_two min_two max_three min_three max_four min_four
open Go.Proofs.Ytbngmblgkkdhpaa.Base
attribute [local go_sem high] str_leq str_gtr str_geq
set_option linter.unusedVariables false
set_option linter.unusedSimpArgs false
def contact_whole.f (k : Nat) (a0_0 : ByteArray) (a0_1 : Int) (a0_2 : Int) (l0_3 : List (S75)) : Option (Int) := (contact_volume.f k a0_0 a0_1 a0_2 l0_3 a0_1 a0_2).bind fun t102 => (some t102)
theorem d63a {p : Prop} (h : p := by repeat (first | (with_reducible first | exact HB.out | apply below_alloc | apply pw_below_drewN | apply below_drew1) | exact HB.out)) : p := h
set_option maxHeartbeats 8000000 in
set_option maxRecDepth 100000 in
theorem contact_whole.calls (k : Nat) (a0_0 : ByteArray) (a0_1 : Int) (a0_2 : Int) (A0_3 : Option Addr) (c0_3 : Nat) (l0_3 : List (S75)) (r : Int) (w : World) (hr0_3 : Kd.C k75 w A0_3 l0_3.length l0_3) (hc0_3 : l0_3.length ≤ c0_3) (h : contact_whole.f k a0_0 a0_1 a0_2 l0_3 = some r) :
 Calls Try.prog 63 #[.agg #[.string a0_0, .int .i64 a0_1, .int .i64 a0_2, .slice A0_3 l0_3.length c0_3]] w fun e w' => e = .returned (.int .i64 r) ∧ Below w.heap.size w w' := by
 have hu33 := Try.underlying33
 have HR0_3 := Aside0.mk hr0_3
 have HC0_3 := Aside0.mk hc0_3
 clear hr0_3 hc0_3
 have HB := Aside0.mk (Below.refl w.heap.size w)
 have H : ((contact_volume.f k a0_0 a0_1 a0_2 l0_3 a0_1 a0_2).bind fun t102 => (some t102)) = some r := h
 clear h
 replace H := bindS H; obtain ⟨t102, A2, H⟩ := H
 obtain rfl := Option.some.inj H
 go_enter Try.func63, Try.ntmps63
 go_wp2_with (first | ((with_reducible refine gate_dst (N := 1) rfl ?_); refine box_event ?hg (N := 1) ?hd (cs := #[.string a0_0, .int .i64 a0_1, .int .i64 a0_2, .slice A0_3 l0_3.length c0_3]) (t := 33) ?hr ?_; (case hd => rfl); (case hg => rfl); (case hr => first | (go_simp; done) | (go_simp; rfl)); intro gb101 hg w3 hbox hb; have n0_ := Aside0.mk (below_step d63a hb); have n1_ := Aside0.mk (hbox); have n2_ := Aside0.mk ((by rw [hg]; exact (below_size d63a) : w.heap.size ≤ gb101)); have n3_ := Aside0.mk ((by rw [hg]; exact (below_size d63a) : w.heap.size ≤ gb101)); clear HB; have HB := n0_; have BK101 := n1_; have GW101 := n2_; have GE101 := n3_; clear n0_ n1_ n2_ n3_; clear hb hbox hg; have hcz4_0 : w3.cell? ⟨gb101, 0, none⟩ = some (.string a0_0) := (blk_cell BK101.out 0).trans rfl; have hcz4_1 : w3.cell? ⟨gb101, 1, none⟩ = some (.int .i64 a0_1) := (blk_cell BK101.out 1).trans rfl; have hcz4_2 : w3.cell? ⟨gb101, 2, none⟩ = some (.int .i64 a0_2) := (blk_cell BK101.out 2).trans rfl; have hcz4_3 : w3.cell? ⟨gb101, 3, none⟩ = some (.slice A0_3 l0_3.length c0_3) := (blk_cell BK101.out 3).trans rfl; have hfz4_0 := blk_frozen BK101.out 0; have hfz4_1 := blk_frozen BK101.out 1; have hfz4_2 := blk_frozen BK101.out 2; have hfz4_3 := blk_frozen BK101.out 3) | ((with_reducible refine gate_callee (f := 41) rfl ?_); refine goesL_ (some 8) rfl rfl Try.func41 (by kernel_rfl) rfl #[.agg #[.string a0_0, .int .i64 a0_1, .int .i64 a0_2, .slice A0_3 l0_3.length c0_3], .int .i64 a0_1, .int .i64 a0_2] rfl (by (try simp only [List.map_toArray, List.map_cons, List.map_nil]); first | done | rfl | (simp only [List.length_drop, List.length_take]; rfl)) ?_; (with_reducible refine (contact_volume.calls k a0_0 a0_1 a0_2 _ _ l0_3 a0_1 a0_2 t102 _ ?side1 ?side2 A2.out).mono ?_); (case side1 => exact C_go (Kd.C_below HR0_3.out HB.out)); (case side2 => exact HC0_3.out); rintro e w5 ⟨rfl, hb⟩; refine ⟨_, rfl, ?_⟩; have n0_ := Aside0.mk (blk_below (g := gb101) (o := .cells #[.string a0_0, .int .i64 a0_1, .int .i64 a0_2, .slice A0_3 l0_3.length c0_3] 33 (0, 0)) (by (with_reducible repeat (first | refine blk_drewN ?_ _ | refine blk_drew ?_ | refine blk_alloc ?_ _)); exact BK101.out) hb); have n1_ := Aside0.mk (below_step (by repeat (first | (with_reducible first | exact HB.out | apply below_alloc | apply pw_below_drewN | apply below_drew1 | refine below_set ?_ GE101.out) | exact HB.out)) hb); clear BK101; clear HB; have BK101 := n0_; have HB := n1_; clear n0_ n1_; (try clear hb)))
 go_ret
 exact ⟨by first | rfl | (simp [errW_none, errW_some] <;> rfl) | (simp [*, errW_none, errW_some] <;> rfl), by repeat (first | (with_reducible first | exact HB.out | apply below_alloc | apply pw_below_drewN | apply below_drew1 | refine below_set ?_ GE101.out) | exact HB.out)⟩
def contact_total.l0 : Nat → List (S33) → Int → List Int → Int → Int → Option (Int)
  | 0, _, _, _, _, _ => none
  | k + 1, x0, x5, x8, x9, x10 => if x10 < x9 then (if 0 ≤ x10 then (if x10 < (x8.length : Int) then (if 0 ≤ (rd x8 x10) then (if (rd x8 x10) < (x0.length : Int) then ((contact_whole.f k ((rd_T33 x0 (rd x8 x10)).f0) ((rd_T33 x0 (rd x8 x10)).f1) ((rd_T33 x0 (rd x8 x10)).f2) ((rd_T33 x0 (rd x8 x10)).f3)).bind fun t103 => (contact_total.l0 k x0 (wrap64 (x5 + t103)) x8 x9 (wrap64 (x10 + 1)))) else (none)) else (none)) else (none)) else (none)) else (some x5)
def contact_total.f (k : Nat) (l0 : List (S33)) (l1 : List Int) : Option (Int) := contact_total.l0 k l0 0 l1 (l1.length : Int) 0
theorem d57a {p : Prop} (h : p := by repeat (first | (with_reducible first | exact HB.out | apply below_alloc | apply pw_below_drewN | apply below_drew1) | exact HB.out)) : p := h
theorem d57b {p : Prop} (h : p := by first | (with_reducible assumption) | assumption) : p := h
theorem d57c {p : Prop} (h : p := by first | rfl | (simp; done) | (simp [*]; done)) : p := h
set_option maxHeartbeats 8000000 in
set_option maxRecDepth 100000 in
theorem contact_total.calls (k : Nat) (A0 : Option Addr) (c0 : Nat) (l0 : List (S33)) (A1 : Option Addr) (c1 : Nat) (l1 : List Int) (r : Int) (w : World) (hr0 : Kd.C k33 w A0 l0.length l0) (hc0 : l0.length ≤ c0) (hr1 : Kd.C (Kd.int .i64) w A1 l1.length l1) (hc1 : l1.length ≤ c1) (h : contact_total.f k l0 l1 = some r) :
 Calls Try.prog 57 #[.slice A0 l0.length c0, .slice A1 l1.length c1] w fun e w' => e = .returned (.int .i64 r) ∧ Below w.heap.size w w' := by
 have hu33 := Try.underlying33
 have HR0 := Aside0.mk hr0
 have HC0 := Aside0.mk hc0
 clear hr0 hc0
 have HR1 := Aside0.mk hr1
 have HC1 := Aside0.mk hc1
 clear hr1 hc1
 have HB := Aside0.mk (Below.refl w.heap.size w)
 have H : (contact_total.l0 k l0 0 l1 (l1.length : Int) 0) = some r := h
 clear h
 have H' := Aside0.mk H
 clear H
 go_enter Try.func57, Try.ntmps57
 go_wp2
 go_loopg [5, 10] k (fun kq v5 v10 w' => ∃ (x5_1 : Int) (x10_1 : Int), v5 = .int .i64 x5_1 ∧ v10 = .int .i64 x10_1 ∧ Aside0 (contact_total.l0 kq l0 x5_1 l1 (l1.length : Int) x10_1 = some r) ∧ Aside0 (kq ≤ k) ∧ Aside0 (Below w.heap.size w w'))
 case atStart => exact ⟨(0), (0), d57c, d57c, H', ⟨Nat.le_refl _⟩, ⟨d57a⟩⟩
 case round =>
  clear H'
  obtain ⟨x5_1, x10_1, rfl, rfl, HA, HK1, HB⟩ := hrel
  cases gk with
  | zero => exact absurd HA.out (by simp [contact_total.l0])
  | succ k1 =>
   have H := HA.out
   clear HA
   simp only [contact_total.l0] at H
   by_cases c3 : x10_1 < (l1.length : Int)
   · rw [if_pos c3] at H
     have c3b0 : decide (x10_1 < (l1.length : Int)) = true := decide_eq_true c3
     clear c3
     replace H := guardT H; obtain ⟨c4, H⟩ := H
     have c4b0 : decide (0 ≤ x10_1) = true := decide_eq_true c4
     clear c4
     replace H := guardT H; obtain ⟨c5, H⟩ := H
     have c5b0 : decide (x10_1 < (l1.length : Int)) = true := decide_eq_true c5
     clear c5
     replace H := guardT H; obtain ⟨c6, H⟩ := H
     have c6b0 : decide (0 ≤ (rd l1 x10_1)) = true := decide_eq_true c6
     clear c6
     replace H := guardT H; obtain ⟨c7, H⟩ := H
     have c7b0 : decide ((rd l1 x10_1) < (l0.length : Int)) = true := decide_eq_true c7
     clear c7
     replace H := bindS H; obtain ⟨t103, A8, H⟩ := H
     have H' := Aside0.mk H
     clear H
     have p101 : 0 ≤ (x10_1 : Int) := of_decide_eq_true d57b
     have q101 : x10_1 < (l1.length : Int) := of_decide_eq_true d57b
     obtain ⟨ad101, e101, hx101_0⟩ := Kd.at_int HR1.out x10_1 p101 q101
     cases e101
     replace hx101_0 := cellB HB.out hx101_0
     replace p101 := eq_true p101
     replace q101 := eq_true q101
     have p102 : 0 ≤ ((rd l1 x10_1) : Int) := of_decide_eq_true d57b
     have q102 : (rd l1 x10_1) < (l0.length : Int) := of_decide_eq_true d57b
     obtain ⟨ad102, A102_3, c102_3, e102, hx102_0, hx102_1, hx102_2, hx102_3, hl102_3, hi102_3⟩ := at_T33 HR0.out (rd l1 x10_1) p102 q102
     cases e102
     replace hx102_0 := cellB HB.out hx102_0
     replace hx102_1 := cellB HB.out hx102_1
     replace hx102_2 := cellB HB.out hx102_2
     replace hx102_3 := cellB HB.out hx102_3
     have HR102_3 := Aside0.mk hi102_3
     have HC102_3 := Aside0.mk hl102_3
     clear hi102_3 hl102_3
     replace p102 := eq_true p102
     replace q102 := eq_true q102
     go_wp2_with ((with_reducible refine gate_callee (f := 63) rfl ?_); refine goesL_ (some 19) rfl rfl Try.func63 (by kernel_rfl) rfl #[.agg #[.string ((rd_T33 l0 (rd l1 x10_1)).f0), .int .i64 ((rd_T33 l0 (rd l1 x10_1)).f1), .int .i64 ((rd_T33 l0 (rd l1 x10_1)).f2), .slice A102_3 ((rd_T33 l0 (rd l1 x10_1)).f3).length c102_3]] rfl (by (try simp only [List.map_toArray, List.map_cons, List.map_nil]); first | done | rfl | (simp only [List.length_drop, List.length_take]; rfl)) ?_; (with_reducible refine (contact_whole.calls k1 ((rd_T33 l0 (rd l1 x10_1)).f0) ((rd_T33 l0 (rd l1 x10_1)).f1) ((rd_T33 l0 (rd l1 x10_1)).f2) _ _ ((rd_T33 l0 (rd l1 x10_1)).f3) t103 _ ?side1 ?side2 A8.out).mono ?_); (case side1 => exact C_go (Kd.C_below HR102_3.out HB.out)); (case side2 => exact HC102_3.out); rintro e w9 ⟨rfl, hb⟩; refine ⟨_, rfl, ?_⟩; replace HB := Aside0.mk (below_step d57a hb); (try clear hb))
     go_roundg k1
     case measure => have := HK1.out; omega
     case rel => exact ⟨(wrap64 (x5_1 + t103)), (wrap64 (x10_1 + 1)), d57c, d57c, H', ⟨by have := HK1.out; omega⟩, ⟨d57a⟩⟩
   · rw [if_neg c3] at H
     have c3b0 : decide (x10_1 < (l1.length : Int)) = false := decide_eq_false c3
     clear c3
     obtain rfl := Option.some.inj H
     go_wp2
     go_ret
     exact ⟨by first | rfl | (simp [errW_none, errW_some] <;> rfl) | (simp [*, errW_none, errW_some] <;> rfl), d57a⟩
def contact_Total.f (k : Nat) (l0 : List (S33)) (l1 : List Int) : Option (Int × Int) := (contact_check.f k l0 l1).bind fun t101 => (if t101 = 0 then ((contact_total.f k l0 l1).bind fun t102 => (some (t102, 0))) else (some (0, t101)))
theorem d24a {p : Prop} (h : p := by (try simp only [List.map_toArray, List.map_cons, List.map_nil]); first | done | rfl | (simp only [List.length_drop, List.length_take]; rfl)) : p := h
theorem d24b {p : Prop} (h : p := by repeat (first | (with_reducible first | exact HB.out | apply below_alloc | apply pw_below_drewN | apply below_drew1) | exact HB.out)) : p := h
set_option maxHeartbeats 8000000 in
set_option maxRecDepth 100000 in
theorem contact_Total.calls (k : Nat) (A0 : Option Addr) (c0 : Nat) (l0 : List (S33)) (A1 : Option Addr) (c1 : Nat) (l1 : List Int) (r1 : Int) (r2 : Int) (w : World) (hr0 : Kd.C k33 w A0 l0.length l0) (hc0 : l0.length ≤ c0) (hr1 : Kd.C (Kd.int .i64) w A1 l1.length l1) (hc1 : l1.length ≤ c1) (h : contact_Total.f k l0 l1 = some (r1, r2)) :
 Calls Try.prog 24 #[.slice A0 l0.length c0, .slice A1 l1.length c1] w fun e w' => e = .returned (.tuple #[.int .i64 r1, .int .i64 r2]) ∧ Below w.heap.size w w' := by
 have HR0 := Aside0.mk hr0
 have HC0 := Aside0.mk hc0
 clear hr0 hc0
 have HR1 := Aside0.mk hr1
 have HC1 := Aside0.mk hc1
 clear hr1 hc1
 have HB := Aside0.mk (Below.refl w.heap.size w)
 have H : ((contact_check.f k l0 l1).bind fun t101 => (if t101 = 0 then ((contact_total.f k l0 l1).bind fun t102 => (some (t102, 0))) else (some (0, t101)))) = some (r1, r2) := h
 clear h
 replace H := bindS H; obtain ⟨t101, A3, H⟩ := H
 by_cases c4 : t101 = 0
 · rw [if_pos c4] at H
   have c4b0 : (t101 == 0) = true := beq_iff_eq.mpr c4
   have c4b1 : (t101 != 0) = false := bne_eq_false_iff_eq.mpr c4
   clear c4
   replace H := bindS H; obtain ⟨t102, A5, H⟩ := H
   simp only [Option.some.injEq, Prod.mk.injEq] at H
   obtain ⟨rfl, rfl⟩ := H
   go_enter Try.func24, Try.ntmps24
   go_wp2_with (first | ((with_reducible refine gate_callee (f := 56) rfl ?_); refine goesL_ (some 9) rfl rfl Try.func56 (by kernel_rfl) rfl #[.slice A0 l0.length c0, .slice A1 l1.length c1] rfl d24a ?_; (with_reducible refine (contact_check.calls k _ _ l0 _ _ l1 t101 _ ?side1 ?side2 ?side3 ?side4 A3.out).mono ?_); (case side1 => exact C_go HR0.out); (case side2 => exact HC0.out); (case side3 => exact C_go HR1.out); (case side4 => exact HC1.out); rintro e w6 ⟨rfl, hb⟩; refine ⟨_, rfl, ?_⟩; replace HB := Aside0.mk (below_step d24b hb); (try clear hb)) | ((with_reducible refine gate_callee (f := 57) rfl ?_); refine goesL_ (some 15) rfl rfl Try.func57 (by kernel_rfl) rfl #[.slice A0 l0.length c0, .slice A1 l1.length c1] rfl d24a ?_; (with_reducible refine (contact_total.calls k _ _ l0 _ _ l1 t102 _ ?side1 ?side2 ?side3 ?side4 A5.out).mono ?_); (case side1 => exact C_go (Kd.C_below HR0.out HB.out)); (case side2 => exact HC0.out); (case side3 => exact C_go (Kd.C_below HR1.out HB.out)); (case side4 => exact HC1.out); rintro e w7 ⟨rfl, hb⟩; refine ⟨_, rfl, ?_⟩; replace HB := Aside0.mk (below_step d24b hb); (try clear hb)))
   go_ret2
   exact ⟨by first | rfl | (simp [errW_none, errW_some] <;> rfl) | (simp [*, errW_none, errW_some] <;> rfl), d24b⟩
 · rw [if_neg c4] at H
   have c4b0 : (t101 == 0) = false := beq_eq_false_iff_ne.mpr c4
   have c4b1 : (t101 != 0) = true := bne_iff_ne.mpr c4
   simp only [Option.some.injEq, Prod.mk.injEq] at H
   obtain ⟨rfl, rfl⟩ := H
   go_enter Try.func24, Try.ntmps24
   go_wp2_with ((with_reducible refine gate_callee (f := 56) rfl ?_); refine goesL_ (some 9) rfl rfl Try.func56 (by kernel_rfl) rfl #[.slice A0 l0.length c0, .slice A1 l1.length c1] rfl d24a ?_; (with_reducible refine (contact_check.calls k _ _ l0 _ _ l1 t101 _ ?side1 ?side2 ?side3 ?side4 A3.out).mono ?_); (case side1 => exact C_go HR0.out); (case side2 => exact HC0.out); (case side3 => exact C_go HR1.out); (case side4 => exact HC1.out); rintro e w8 ⟨rfl, hb⟩; refine ⟨_, rfl, ?_⟩; replace HB := Aside0.mk (below_step d24b hb); (try clear hb))
   go_ret2
   exact ⟨by first | rfl | (simp [errW_none, errW_some] <;> rfl) | (simp [*, errW_none, errW_some] <;> rfl), d24b⟩
end Go.Proofs.Ytbngmblgkkdhpaa.Q
