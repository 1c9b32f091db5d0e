-- Made by wip/tools/claimp.py of this session's texts; Lean checks it.
import Derived.Test.YtplcdpiggpkppaaC11Q0
import Derived.Test.YtplcdpiggpkppaaC11Ge3
import Derived.Test.YtplcdpiggpkppaaC11Ge7
import Derived.Test.YtplcdpiggpkppaaC11Ge8
namespace Go.Proofs.Ytplcdpiggpkppaa.Q
open Go.RowKit Go.Proofs.YtplcdpiggpkppaaW.PrintWords Go.Proofs.YtplcdpiggpkppaaW.PrintLast Go.Proofs.YtplcdpiggpkppaaW.PrintMore
attribute [local go_sem] max2_int min2_int max_two min_two max_three min_three max_four min_four
open Go.Proofs.Ytplcdpiggpkppaa.Base
attribute [local go_sem high] str_leq str_gtr str_geq
set_option linter.unusedVariables false
set_option linter.unusedSimpArgs false
def power_checkBar.l0 : Nat → List (S76) → List ByteArray → Int → Int → List ByteArray → Int → Option (Int)
  | 0, _, _, _, _, _, _ => none
  | k + 1, x0, x14, x15, x16, x102000, x102001 => if x16 < x15 then (if 0 ≤ x16 then (if x16 < (x14.length : Int) then ((power_load.f k x0 (rdOf ByteArray.empty x14 x16)).bind fun bt104 => (if bt104.2.2.2 = true then (if x16 > 0 then (if 0 ≤ (wrap64 (x16 - 1)) then (if (wrap64 (x16 - 1)) < (x102000.length : Int) then (if ((Op.bytesLess ((rdOf ByteArray.empty x102000 (wrap64 (x16 - 1))).toList) ((rdOf ByteArray.empty x14 x16).toList)) = true) then (power_checkBar.l0 k x0 x14 x15 (wrap64 (x16 + 1)) x102000 x102001) else (some 8)) else (none)) else (none)) else (power_checkBar.l0 k x0 x14 x15 (wrap64 (x16 + 1)) x102000 x102001)) else (some 9))) else (none)) else (none)) else ((kit_Range.f x102001 0 50).bind fun t102 => (some t102))
def power_checkBar.f (k : Nat) (l0 : List (S76)) (l1_0 : List ByteArray) (a1_1 : Int) : Option (Int) := if (l1_0.length : Int) > 50 then (some 2) else (power_checkBar.l0 k l0 l1_0 (l1_0.length : Int) 0 l1_0 a1_1)
theorem d74a {p : Prop} (h : p := by repeat (first | (with_reducible first | exact HB.out | apply below_alloc | apply pw_below_drewN | apply below_drew1 | refine below_set ?_ GE101.out | refine below_set ?_ GE108.out) | exact HB.out)) : p := h
theorem d74b {p : Prop} (h : p := by repeat (first | (with_reducible first | exact HB.out | apply below_alloc | apply pw_below_drewN | apply below_drew1 | refine below_set ?_ GE101.out) | exact HB.out)) : p := h
theorem d74c {p : Prop} (h : p := by (try simp only [List.map_toArray, List.map_cons, List.map_nil]); first | done | rfl | (simp only [List.length_drop, List.length_take]; rfl)) : p := h
theorem d74d {p : Prop} (h : p := by repeat (first | (with_reducible first | exact HB.out | apply below_alloc | apply pw_below_drewN | apply below_drew1) | exact HB.out)) : p := h
theorem d74e {p : Prop} (h : p := by (with_reducible repeat (first | refine blk_drewN ?_ _ | refine blk_drew ?_ | refine blk_alloc ?_ _)); exact BK101.out) : p := h
theorem d74f {p : Prop} (h : p := by first | rfl | (simp [errW_none, errW_some] <;> rfl) | (simp [*, errW_none, errW_some] <;> rfl)) : p := h
theorem d74g {p : Prop} (h : p := by have := World.block_lt_of_cell? _ _ hx109_0; first | rwa [add_block] at this | exact this) : p := h
theorem d74h {p : Prop} (h : p := by first | (with_reducible assumption) | assumption) : p := h
theorem d74i {p : Prop} (h : p := by first | (go_simp; done) | (go_simp; rfl)) : p := h
theorem d74j {p : Prop} (h : p := by exact C_go (Kd.C_below HR0.out HB.out)) : p := h
set_option maxHeartbeats 8000000 in
set_option maxRecDepth 100000 in
theorem power_checkBar.calls (k : Nat) (A0 : Option Addr) (c0 : Nat) (l0 : List (S76)) (A1_0 : Option Addr) (c1_0 : Nat) (l1_0 : List ByteArray) (a1_1 : Int) (r : Int) (w : World) (hr0 : Kd.C k76 w A0 l0.length l0) (hc0 : l0.length ≤ c0) (hr1_0 : Kd.C Kd.string w A1_0 l1_0.length l1_0) (hc1_0 : l1_0.length ≤ c1_0) (h : power_checkBar.f k l0 l1_0 a1_1 = some r) :
 Calls Try.prog 74 #[.slice A0 l0.length c0, .agg #[.slice A1_0 l1_0.length c1_0, .int .i64 a1_1]] w fun e w' => e = .returned (.int .i64 r) ∧ Below w.heap.size w w' := by
 have hu100 := Try.underlying100
 have hu76 := Try.underlying76
 have HR0 := Aside0.mk hr0
 have HC0 := Aside0.mk hc0
 clear hr0 hc0
 have HR1_0 := Aside0.mk hr1_0
 have HC1_0 := Aside0.mk hc1_0
 clear hr1_0 hc1_0
 have HB := Aside0.mk (Below.refl w.heap.size w)
 have H : (if (l1_0.length : Int) > 50 then (some 2) else (power_checkBar.l0 k l0 l1_0 (l1_0.length : Int) 0 l1_0 a1_1)) = some r := h
 clear h
 by_cases c3 : (l1_0.length : Int) > 50
 · rw [if_pos c3] at H
   have c3b0 : decide (50 < (l1_0.length : Int)) = true := decide_eq_true c3
   have c3b1 : decide (50 < l1_0.length) = true := decide_eq_true (by omega)
   clear c3
   obtain rfl := Option.some.inj H
   go_enter Try.func74, Try.ntmps74
   go_wp2_with ((with_reducible refine gate_dst (N := 3) rfl ?_); refine box_event ?hg (N := 3) ?hd (cs := #[.slice A1_0 l1_0.length c1_0, .int .i64 a1_1]) (t := 100) ?hr ?_; (case hd => rfl); (case hg => rfl); (case hr => exact d74i); intro gb101 hg w4 hbox hb; have n0_ := Aside0.mk (below_step d74d hb); have n1_ := Aside0.mk (hbox); have n2_ := Aside0.mk ((by rw [hg]; exact (below_size d74d) : w.heap.size ≤ gb101)); have n3_ := Aside0.mk ((by rw [hg]; exact (below_size d74d) : w.heap.size ≤ gb101)); clear HB; have HB := n0_; have BK101 := n1_; have GW101 := n2_; have GE101 := n3_; clear n0_ n1_ n2_ n3_; clear hb hbox hg; have hcz5_0 : w4.cell? ⟨gb101, 0, none⟩ = some (.slice A1_0 l1_0.length c1_0) := (blk_cell BK101.out 0).trans rfl; have hcz5_1 : w4.cell? ⟨gb101, 1, none⟩ = some (.int .i64 a1_1) := (blk_cell BK101.out 1).trans rfl; have hfz5_0 := blk_frozen BK101.out 0; have hfz5_1 := blk_frozen BK101.out 1)
   go_ret
   exact ⟨d74f, d74b⟩
 · rw [if_neg c3] at H
   have c3b0 : decide (50 < (l1_0.length : Int)) = false := decide_eq_false c3
   have c3b1 : decide (50 < l1_0.length) = false := decide_eq_false (by omega)
   clear c3
   have H' := Aside0.mk H
   clear H
   go_enter Try.func74, Try.ntmps74
   go_wp2_with ((with_reducible refine gate_dst (N := 3) rfl ?_); refine box_event ?hg (N := 3) ?hd (cs := #[.slice A1_0 l1_0.length c1_0, .int .i64 a1_1]) (t := 100) ?hr ?_; (case hd => rfl); (case hg => rfl); (case hr => exact d74i); intro gb101 hg w6 hbox hb; have n0_ := Aside0.mk (below_step d74d hb); have n1_ := Aside0.mk (hbox); have n2_ := Aside0.mk ((by rw [hg]; exact (below_size d74d) : w.heap.size ≤ gb101)); have n3_ := Aside0.mk ((by rw [hg]; exact (below_size d74d) : w.heap.size ≤ gb101)); clear HB; have HB := n0_; have BK101 := n1_; have GW101 := n2_; have GE101 := n3_; clear n0_ n1_ n2_ n3_; clear hb hbox hg; have hcz7_0 : w6.cell? ⟨gb101, 0, none⟩ = some (.slice A1_0 l1_0.length c1_0) := (blk_cell BK101.out 0).trans rfl; have hcz7_1 : w6.cell? ⟨gb101, 1, none⟩ = some (.int .i64 a1_1) := (blk_cell BK101.out 1).trans rfl; have hfz7_0 := blk_frozen BK101.out 0; have hfz7_1 := blk_frozen BK101.out 1)
   go_loopg [16] k (fun kq v16 w' => ∃ (x16_1 : Int), v16 = .int .i64 x16_1 ∧ Aside0 (power_checkBar.l0 kq l0 l1_0 (l1_0.length : Int) x16_1 l1_0 a1_1 = some r) ∧ Aside0 (kq ≤ k) ∧ Aside0 (w'.heap[gb101]? = some (.cells #[(.slice A1_0 l1_0.length c1_0), .int .i64 a1_1] 100 (0, 0))) ∧ Aside0 (Below w.heap.size w w'))
   case atStart => exact ⟨(0), (by first | rfl | (simp; done) | (simp [*]; done)), H', ⟨Nat.le_refl _⟩, ⟨d74e⟩, ⟨d74b⟩⟩
   case round =>
    clear H'
    try clear c3b0
    try clear c3b1
    try clear hcz7_0
    try clear hcz7_1
    try clear hfz7_0
    try clear hfz7_1
    obtain ⟨x16_1, rfl, HA, HK1, BK101, HB⟩ := hrel
    cases gk with
    | zero => exact absurd HA.out (by simp [power_checkBar.l0])
    | succ k1 =>
     have H := HA.out
     clear HA
     simp only [power_checkBar.l0] at H
     by_cases c8 : x16_1 < (l1_0.length : Int)
     · rw [if_pos c8] at H
       have c8b0 : decide (x16_1 < (l1_0.length : Int)) = true := decide_eq_true c8
       clear c8
       replace H := guardT H; obtain ⟨c9, H⟩ := H
       have c9b0 : decide (0 ≤ x16_1) = true := decide_eq_true c9
       clear c9
       replace H := guardT H; obtain ⟨c10, H⟩ := H
       have c10b0 : decide (x16_1 < (l1_0.length : Int)) = true := decide_eq_true c10
       clear c10
       replace H := bindS H; obtain ⟨⟨t104, t105, t106, t107⟩, A11, H⟩ := H
       by_cases c12 : t107 = true
       · subst c12
         replace H := iteT H
         by_cases c13 : x16_1 > 0
         · rw [if_pos c13] at H
           have c13b0 : decide (0 < x16_1) = true := decide_eq_true c13
           clear c13
           obtain ⟨ji14, hji14⟩ : ∃ j_ : Int, (wrap64 (x16_1 - 1)) = j_ := ⟨_, rfl⟩
           replace H : (if 0 ≤ (ji14) then (if (ji14) < (l1_0.length : Int) then (if ((Op.bytesLess ((rdOf ByteArray.empty l1_0 (ji14)).toList) ((rdOf ByteArray.empty l1_0 x16_1).toList)) = true) then (power_checkBar.l0 k1 l0 l1_0 (l1_0.length : Int) (wrap64 (x16_1 + 1)) l1_0 a1_1) else (some 8)) else (none)) else (none)) = some r := by first | (rw [hji14] at H; exact H) | (simp only [hji14] at H ⊢; exact H)
           (try rw [hji14] at A11)
           have hji14w : (IntKind.i64.wrap (x16_1 - 1)) = ji14 := (i64_w _).trans hji14
           replace H := guardT H; obtain ⟨c15, H⟩ := H
           have c15b0 : decide (0 ≤ (ji14)) = true := decide_eq_true c15
           clear c15
           replace H := guardT H; obtain ⟨c16, H⟩ := H
           have c16b0 : decide ((ji14) < (l1_0.length : Int)) = true := decide_eq_true c16
           clear c16
           by_cases c17 : ((Op.bytesLess ((rdOf ByteArray.empty l1_0 (ji14)).toList) ((rdOf ByteArray.empty l1_0 x16_1).toList)) = true)
           · rw [if_pos c17] at H
             have c17b0 : (Op.bytesLess ((rdOf ByteArray.empty l1_0 (ji14)).toList) ((rdOf ByteArray.empty l1_0 x16_1).toList)) = true := c17
             clear c17
             have H' := Aside0.mk H
             clear H
             have p103 : 0 ≤ (x16_1 : Int) := of_decide_eq_true d74h
             have q103 : x16_1 < (l1_0.length : Int) := of_decide_eq_true d74h
             obtain ⟨ad103, e103, hx103_0⟩ := Kd.at_string HR1_0.out x16_1 p103 q103
             cases e103
             replace hx103_0 := cellB HB.out hx103_0
             replace p103 := eq_true p103
             replace q103 := eq_true q103
             go_wp2_with (first | ((with_reducible refine gate_callee (f := 58) rfl ?_); refine goesL_ (some 24) rfl rfl Try.func58 (by kernel_rfl) rfl #[.slice A0 l0.length c0, .string (rdOf ByteArray.empty l1_0 x16_1)] rfl d74c ?_; (with_reducible refine (power_load.calls k1 _ _ l0 (rdOf ByteArray.empty l1_0 x16_1) t104 t105 t106 true _ ?side1 ?side2 A11.out).mono ?_); (case side1 => exact d74j); (case side2 => exact HC0.out); rintro e w18 ⟨rfl, hb⟩; refine ⟨_, rfl, ?_⟩; have n0_ := Aside0.mk (blk_below (g := gb101) (o := .cells #[.slice (some ad103) l1_0.length c1_0, .int .i64 a1_1] 100 (0, 0)) d74e hb); have n1_ := Aside0.mk (below_step d74b hb); clear BK101; clear HB; have BK101 := n0_; have HB := n1_; clear n0_ n1_; (try clear hb)) | ((with_reducible refine gate_dst (N := 7) rfl ?_); refine box_event ?hg (N := 7) ?hd (cs := #[.string (⟨#[]⟩ : ByteArray), .int .i64 0, .int .i64 0]) (t := 76) ?hr ?_; (case hd => rfl); (case hg => rfl); (case hr => exact d74i); intro gb108 hg w19 hbox hb; have n0_ := Aside0.mk (blk_below (g := gb101) (o := .cells #[.slice (some ad103) l1_0.length c1_0, .int .i64 a1_1] 100 (0, 0)) d74e hb); have n1_ := Aside0.mk (below_step d74b hb); have n2_ := Aside0.mk (hbox); have n3_ := Aside0.mk ((by rw [hg]; exact (below_size d74b) : w.heap.size ≤ gb108)); have n4_ := Aside0.mk ((by rw [hg]; exact (below_size d74b) : w.heap.size ≤ gb108)); have n5_ := Aside0.mk ((by rw [hg]; exact Nat.ne_of_lt (blk_lt (g := gb101) (o := .cells #[.slice (some ad103) l1_0.length c1_0, .int .i64 a1_1] 100 (0, 0)) d74e) : gb101 ≠ gb108)); have n6_ := Aside0.mk ((by rw [hg]; exact Nat.ne_of_gt (blk_lt (g := gb101) (o := .cells #[.slice (some ad103) l1_0.length c1_0, .int .i64 a1_1] 100 (0, 0)) d74e) : gb108 ≠ gb101)); clear BK101; clear HB; have BK101 := n0_; have HB := n1_; have BK108 := n2_; have GW108 := n3_; have GE108 := n4_; have NB101_108 := n5_; have NB108_101 := n6_; clear n0_ n1_ n2_ n3_ n4_ n5_ n6_; clear hb hbox hg; have hnb20 := NB108_101.out; have hnc20 := NB101_108.out; have hcz21_0 : w19.cell? ⟨gb108, 0, none⟩ = some (.string (⟨#[]⟩ : ByteArray)) := (blk_cell BK108.out 0).trans rfl; have hcz21_1 : w19.cell? ⟨gb108, 1, none⟩ = some (.int .i64 0) := (blk_cell BK108.out 1).trans rfl; have hcz21_2 : w19.cell? ⟨gb108, 2, none⟩ = some (.int .i64 0) := (blk_cell BK108.out 2).trans rfl; have hfz21_0 := blk_frozen BK108.out 0; have hfz21_1 := blk_frozen BK108.out 1; have hfz21_2 := blk_frozen BK108.out 2; have hcz22_0 : w19.cell? ⟨gb101, 0, none⟩ = some (.slice (some ad103) l1_0.length c1_0) := (blk_cell BK101.out 0).trans rfl; have hcz22_1 : w19.cell? ⟨gb101, 1, none⟩ = some (.int .i64 a1_1) := (blk_cell BK101.out 1).trans rfl; have hfz22_0 := blk_frozen BK101.out 0; have hfz22_1 := blk_frozen BK101.out 1; have p109 : 0 ≤ ((ji14) : Int) := of_decide_eq_true d74h; have q109 : (ji14) < (l1_0.length : Int) := of_decide_eq_true d74h; obtain ⟨ad109, e109, hx109_0⟩ := Kd.at_string HR1_0.out (ji14) p109 q109; obtain rfl : ad103 = ad109 := (by injection e109); have hn109_0 : ad103.block ≠ gb108 := Nat.ne_of_lt (Nat.lt_of_lt_of_le d74g GW108.out); have hn109_1 : ad103.block ≠ gb108 := Nat.ne_of_lt (Nat.lt_of_lt_of_le d74g GW108.out); have hn109_2 : ad103.block ≠ gb108 := Nat.ne_of_lt (Nat.lt_of_lt_of_le d74g GW108.out); replace hx109_0 := cellB HB.out hx109_0; replace hx109_0 := (cell_far (p := ⟨gb108, 0, none⟩) (by first | (rw [add_block]; exact hn109_0) | (show (Addr.add _ _).block ≠ _; rw [add_block]; exact hn109_0) | exact hn109_0) (.string t104)).trans hx109_0; replace hx109_0 := (cell_far (p := ⟨gb108, 1, none⟩) (by first | (rw [add_block]; exact hn109_1) | (show (Addr.add _ _).block ≠ _; rw [add_block]; exact hn109_1) | exact hn109_1) (.int .i64 t105)).trans hx109_0; replace hx109_0 := (cell_far (p := ⟨gb108, 2, none⟩) (by first | (rw [add_block]; exact hn109_2) | (show (Addr.add _ _).block ≠ _; rw [add_block]; exact hn109_2) | exact hn109_2) (.int .i64 t106)).trans hx109_0; clear hn109_0; clear hn109_1; clear hn109_2; replace p109 := eq_true p109; replace q109 := eq_true q109))
             go_roundg k1
             case measure => have := HK1.out; omega
             case rel => exact ⟨(wrap64 (x16_1 + 1)), (by first | rfl | (simp; done) | (simp [*]; done)), H', ⟨by have := HK1.out; omega⟩, ⟨by (with_reducible repeat (first | refine blk_drewN ?_ _ | refine blk_drew ?_ | refine blk_alloc ?_ _)); refine blk_far ?_ NB101_108.out _; (with_reducible repeat (first | refine blk_drewN ?_ _ | refine blk_drew ?_ | refine blk_alloc ?_ _)); refine blk_far ?_ NB101_108.out _; (with_reducible repeat (first | refine blk_drewN ?_ _ | refine blk_drew ?_ | refine blk_alloc ?_ _)); refine blk_far ?_ NB101_108.out _; (with_reducible repeat (first | refine blk_drewN ?_ _ | refine blk_drew ?_ | refine blk_alloc ?_ _)); exact BK101.out⟩, ⟨d74a⟩⟩
           · rw [if_neg c17] at H
             have c17b0 : (Op.bytesLess ((rdOf ByteArray.empty l1_0 (ji14)).toList) ((rdOf ByteArray.empty l1_0 x16_1).toList)) = false := by simpa using c17
             clear c17
             obtain rfl := Option.some.inj H
             have p103 : 0 ≤ (x16_1 : Int) := of_decide_eq_true d74h
             have q103 : x16_1 < (l1_0.length : Int) := of_decide_eq_true d74h
             obtain ⟨ad103, e103, hx103_0⟩ := Kd.at_string HR1_0.out x16_1 p103 q103
             cases e103
             replace hx103_0 := cellB HB.out hx103_0
             replace p103 := eq_true p103
             replace q103 := eq_true q103
             go_wp2_with (first | ((with_reducible refine gate_callee (f := 58) rfl ?_); refine goesL_ (some 24) rfl rfl Try.func58 (by kernel_rfl) rfl #[.slice A0 l0.length c0, .string (rdOf ByteArray.empty l1_0 x16_1)] rfl d74c ?_; (with_reducible refine (power_load.calls k1 _ _ l0 (rdOf ByteArray.empty l1_0 x16_1) t104 t105 t106 true _ ?side1 ?side2 A11.out).mono ?_); (case side1 => exact d74j); (case side2 => exact HC0.out); rintro e w23 ⟨rfl, hb⟩; refine ⟨_, rfl, ?_⟩; have n0_ := Aside0.mk (blk_below (g := gb101) (o := .cells #[.slice (some ad103) l1_0.length c1_0, .int .i64 a1_1] 100 (0, 0)) d74e hb); have n1_ := Aside0.mk (below_step d74b hb); clear BK101; clear HB; have BK101 := n0_; have HB := n1_; clear n0_ n1_; (try clear hb)) | ((with_reducible refine gate_dst (N := 7) rfl ?_); refine box_event ?hg (N := 7) ?hd (cs := #[.string (⟨#[]⟩ : ByteArray), .int .i64 0, .int .i64 0]) (t := 76) ?hr ?_; (case hd => rfl); (case hg => rfl); (case hr => exact d74i); intro gb108 hg w24 hbox hb; have n0_ := Aside0.mk (blk_below (g := gb101) (o := .cells #[.slice (some ad103) l1_0.length c1_0, .int .i64 a1_1] 100 (0, 0)) d74e hb); have n1_ := Aside0.mk (below_step d74b hb); have n2_ := Aside0.mk (hbox); have n3_ := Aside0.mk ((by rw [hg]; exact (below_size d74b) : w.heap.size ≤ gb108)); have n4_ := Aside0.mk ((by rw [hg]; exact (below_size d74b) : w.heap.size ≤ gb108)); have n5_ := Aside0.mk ((by rw [hg]; exact Nat.ne_of_lt (blk_lt (g := gb101) (o := .cells #[.slice (some ad103) l1_0.length c1_0, .int .i64 a1_1] 100 (0, 0)) d74e) : gb101 ≠ gb108)); have n6_ := Aside0.mk ((by rw [hg]; exact Nat.ne_of_gt (blk_lt (g := gb101) (o := .cells #[.slice (some ad103) l1_0.length c1_0, .int .i64 a1_1] 100 (0, 0)) d74e) : gb108 ≠ gb101)); clear BK101; clear HB; have BK101 := n0_; have HB := n1_; have BK108 := n2_; have GW108 := n3_; have GE108 := n4_; have NB101_108 := n5_; have NB108_101 := n6_; clear n0_ n1_ n2_ n3_ n4_ n5_ n6_; clear hb hbox hg; have hnb25 := NB108_101.out; have hnc25 := NB101_108.out; have hcz26_0 : w24.cell? ⟨gb108, 0, none⟩ = some (.string (⟨#[]⟩ : ByteArray)) := (blk_cell BK108.out 0).trans rfl; have hcz26_1 : w24.cell? ⟨gb108, 1, none⟩ = some (.int .i64 0) := (blk_cell BK108.out 1).trans rfl; have hcz26_2 : w24.cell? ⟨gb108, 2, none⟩ = some (.int .i64 0) := (blk_cell BK108.out 2).trans rfl; have hfz26_0 := blk_frozen BK108.out 0; have hfz26_1 := blk_frozen BK108.out 1; have hfz26_2 := blk_frozen BK108.out 2; have hcz27_0 : w24.cell? ⟨gb101, 0, none⟩ = some (.slice (some ad103) l1_0.length c1_0) := (blk_cell BK101.out 0).trans rfl; have hcz27_1 : w24.cell? ⟨gb101, 1, none⟩ = some (.int .i64 a1_1) := (blk_cell BK101.out 1).trans rfl; have hfz27_0 := blk_frozen BK101.out 0; have hfz27_1 := blk_frozen BK101.out 1; have p109 : 0 ≤ ((ji14) : Int) := of_decide_eq_true d74h; have q109 : (ji14) < (l1_0.length : Int) := of_decide_eq_true d74h; obtain ⟨ad109, e109, hx109_0⟩ := Kd.at_string HR1_0.out (ji14) p109 q109; obtain rfl : ad103 = ad109 := (by injection e109); have hn109_0 : ad103.block ≠ gb108 := Nat.ne_of_lt (Nat.lt_of_lt_of_le d74g GW108.out); have hn109_1 : ad103.block ≠ gb108 := Nat.ne_of_lt (Nat.lt_of_lt_of_le d74g GW108.out); have hn109_2 : ad103.block ≠ gb108 := Nat.ne_of_lt (Nat.lt_of_lt_of_le d74g GW108.out); replace hx109_0 := cellB HB.out hx109_0; replace hx109_0 := (cell_far (p := ⟨gb108, 0, none⟩) (by first | (rw [add_block]; exact hn109_0) | (show (Addr.add _ _).block ≠ _; rw [add_block]; exact hn109_0) | exact hn109_0) (.string t104)).trans hx109_0; replace hx109_0 := (cell_far (p := ⟨gb108, 1, none⟩) (by first | (rw [add_block]; exact hn109_1) | (show (Addr.add _ _).block ≠ _; rw [add_block]; exact hn109_1) | exact hn109_1) (.int .i64 t105)).trans hx109_0; replace hx109_0 := (cell_far (p := ⟨gb108, 2, none⟩) (by first | (rw [add_block]; exact hn109_2) | (show (Addr.add _ _).block ≠ _; rw [add_block]; exact hn109_2) | exact hn109_2) (.int .i64 t106)).trans hx109_0; clear hn109_0; clear hn109_1; clear hn109_2; replace p109 := eq_true p109; replace q109 := eq_true q109))
             go_ret
             exact ⟨by first | rfl | (simp [errW_none, errW_some] <;> rfl) | (simp only [← hji14]; first | rfl | (simp [errW_none, errW_some] <;> rfl)) | (simp [*, errW_none, errW_some] <;> rfl), d74a⟩
         · rw [if_neg c13] at H
           have c13b0 : decide (0 < x16_1) = false := decide_eq_false c13
           clear c13
           have H' := Aside0.mk H
           clear H
           have p103 : 0 ≤ (x16_1 : Int) := of_decide_eq_true d74h
           have q103 : x16_1 < (l1_0.length : Int) := of_decide_eq_true d74h
           obtain ⟨ad103, e103, hx103_0⟩ := Kd.at_string HR1_0.out x16_1 p103 q103
           cases e103
           replace hx103_0 := cellB HB.out hx103_0
           replace p103 := eq_true p103
           replace q103 := eq_true q103
           go_wp2_with (first | ((with_reducible refine gate_callee (f := 58) rfl ?_); refine goesL_ (some 24) rfl rfl Try.func58 (by kernel_rfl) rfl #[.slice A0 l0.length c0, .string (rdOf ByteArray.empty l1_0 x16_1)] rfl d74c ?_; (with_reducible refine (power_load.calls k1 _ _ l0 (rdOf ByteArray.empty l1_0 x16_1) t104 t105 t106 true _ ?side1 ?side2 A11.out).mono ?_); (case side1 => exact d74j); (case side2 => exact HC0.out); rintro e w28 ⟨rfl, hb⟩; refine ⟨_, rfl, ?_⟩; have n0_ := Aside0.mk (blk_below (g := gb101) (o := .cells #[.slice (some ad103) l1_0.length c1_0, .int .i64 a1_1] 100 (0, 0)) d74e hb); have n1_ := Aside0.mk (below_step d74b hb); clear BK101; clear HB; have BK101 := n0_; have HB := n1_; clear n0_ n1_; (try clear hb)) | ((with_reducible refine gate_dst (N := 7) rfl ?_); refine box_event ?hg (N := 7) ?hd (cs := #[.string (⟨#[]⟩ : ByteArray), .int .i64 0, .int .i64 0]) (t := 76) ?hr ?_; (case hd => rfl); (case hg => rfl); (case hr => exact d74i); intro gb108 hg w29 hbox hb; have n0_ := Aside0.mk (blk_below (g := gb101) (o := .cells #[.slice (some ad103) l1_0.length c1_0, .int .i64 a1_1] 100 (0, 0)) d74e hb); have n1_ := Aside0.mk (below_step d74b hb); have n2_ := Aside0.mk (hbox); have n3_ := Aside0.mk ((by rw [hg]; exact (below_size d74b) : w.heap.size ≤ gb108)); have n4_ := Aside0.mk ((by rw [hg]; exact (below_size d74b) : w.heap.size ≤ gb108)); have n5_ := Aside0.mk ((by rw [hg]; exact Nat.ne_of_lt (blk_lt (g := gb101) (o := .cells #[.slice (some ad103) l1_0.length c1_0, .int .i64 a1_1] 100 (0, 0)) d74e) : gb101 ≠ gb108)); have n6_ := Aside0.mk ((by rw [hg]; exact Nat.ne_of_gt (blk_lt (g := gb101) (o := .cells #[.slice (some ad103) l1_0.length c1_0, .int .i64 a1_1] 100 (0, 0)) d74e) : gb108 ≠ gb101)); clear BK101; clear HB; have BK101 := n0_; have HB := n1_; have BK108 := n2_; have GW108 := n3_; have GE108 := n4_; have NB101_108 := n5_; have NB108_101 := n6_; clear n0_ n1_ n2_ n3_ n4_ n5_ n6_; clear hb hbox hg; have hnb30 := NB108_101.out; have hnc30 := NB101_108.out; have hcz31_0 : w29.cell? ⟨gb108, 0, none⟩ = some (.string (⟨#[]⟩ : ByteArray)) := (blk_cell BK108.out 0).trans rfl; have hcz31_1 : w29.cell? ⟨gb108, 1, none⟩ = some (.int .i64 0) := (blk_cell BK108.out 1).trans rfl; have hcz31_2 : w29.cell? ⟨gb108, 2, none⟩ = some (.int .i64 0) := (blk_cell BK108.out 2).trans rfl; have hfz31_0 := blk_frozen BK108.out 0; have hfz31_1 := blk_frozen BK108.out 1; have hfz31_2 := blk_frozen BK108.out 2))
           go_roundg k1
           case measure => have := HK1.out; omega
           case rel => exact ⟨(wrap64 (x16_1 + 1)), (by first | rfl | (simp; done) | (simp [*]; done)), H', ⟨by have := HK1.out; omega⟩, ⟨by (with_reducible repeat (first | refine blk_drewN ?_ _ | refine blk_drew ?_ | refine blk_alloc ?_ _)); refine blk_far ?_ NB101_108.out _; (with_reducible repeat (first | refine blk_drewN ?_ _ | refine blk_drew ?_ | refine blk_alloc ?_ _)); refine blk_far ?_ NB101_108.out _; (with_reducible repeat (first | refine blk_drewN ?_ _ | refine blk_drew ?_ | refine blk_alloc ?_ _)); refine blk_far ?_ NB101_108.out _; (with_reducible repeat (first | refine blk_drewN ?_ _ | refine blk_drew ?_ | refine blk_alloc ?_ _)); exact BK101.out⟩, ⟨d74a⟩⟩
       · replace c12 := Bool.eq_false_iff.mpr c12
         subst c12
         replace H := iteF H
         obtain rfl := Option.some.inj H
         have p103 : 0 ≤ (x16_1 : Int) := of_decide_eq_true d74h
         have q103 : x16_1 < (l1_0.length : Int) := of_decide_eq_true d74h
         obtain ⟨ad103, e103, hx103_0⟩ := Kd.at_string HR1_0.out x16_1 p103 q103
         cases e103
         replace hx103_0 := cellB HB.out hx103_0
         replace p103 := eq_true p103
         replace q103 := eq_true q103
         go_wp2_with (first | ((with_reducible refine gate_callee (f := 58) rfl ?_); refine goesL_ (some 24) rfl rfl Try.func58 (by kernel_rfl) rfl #[.slice A0 l0.length c0, .string (rdOf ByteArray.empty l1_0 x16_1)] rfl d74c ?_; (with_reducible refine (power_load.calls k1 _ _ l0 (rdOf ByteArray.empty l1_0 x16_1) t104 t105 t106 false _ ?side1 ?side2 A11.out).mono ?_); (case side1 => exact d74j); (case side2 => exact HC0.out); rintro e w32 ⟨rfl, hb⟩; refine ⟨_, rfl, ?_⟩; have n0_ := Aside0.mk (blk_below (g := gb101) (o := .cells #[.slice (some ad103) l1_0.length c1_0, .int .i64 a1_1] 100 (0, 0)) d74e hb); have n1_ := Aside0.mk (below_step d74b hb); clear BK101; clear HB; have BK101 := n0_; have HB := n1_; clear n0_ n1_; (try clear hb)) | ((with_reducible refine gate_dst (N := 7) rfl ?_); refine box_event ?hg (N := 7) ?hd (cs := #[.string (⟨#[]⟩ : ByteArray), .int .i64 0, .int .i64 0]) (t := 76) ?hr ?_; (case hd => rfl); (case hg => rfl); (case hr => exact d74i); intro gb108 hg w33 hbox hb; have n0_ := Aside0.mk (blk_below (g := gb101) (o := .cells #[.slice (some ad103) l1_0.length c1_0, .int .i64 a1_1] 100 (0, 0)) d74e hb); have n1_ := Aside0.mk (below_step d74b hb); have n2_ := Aside0.mk (hbox); have n3_ := Aside0.mk ((by rw [hg]; exact (below_size d74b) : w.heap.size ≤ gb108)); have n4_ := Aside0.mk ((by rw [hg]; exact (below_size d74b) : w.heap.size ≤ gb108)); have n5_ := Aside0.mk ((by rw [hg]; exact Nat.ne_of_lt (blk_lt (g := gb101) (o := .cells #[.slice (some ad103) l1_0.length c1_0, .int .i64 a1_1] 100 (0, 0)) d74e) : gb101 ≠ gb108)); have n6_ := Aside0.mk ((by rw [hg]; exact Nat.ne_of_gt (blk_lt (g := gb101) (o := .cells #[.slice (some ad103) l1_0.length c1_0, .int .i64 a1_1] 100 (0, 0)) d74e) : gb108 ≠ gb101)); clear BK101; clear HB; have BK101 := n0_; have HB := n1_; have BK108 := n2_; have GW108 := n3_; have GE108 := n4_; have NB101_108 := n5_; have NB108_101 := n6_; clear n0_ n1_ n2_ n3_ n4_ n5_ n6_; clear hb hbox hg; have hnb34 := NB108_101.out; have hnc34 := NB101_108.out; have hcz35_0 : w33.cell? ⟨gb108, 0, none⟩ = some (.string (⟨#[]⟩ : ByteArray)) := (blk_cell BK108.out 0).trans rfl; have hcz35_1 : w33.cell? ⟨gb108, 1, none⟩ = some (.int .i64 0) := (blk_cell BK108.out 1).trans rfl; have hcz35_2 : w33.cell? ⟨gb108, 2, none⟩ = some (.int .i64 0) := (blk_cell BK108.out 2).trans rfl; have hfz35_0 := blk_frozen BK108.out 0; have hfz35_1 := blk_frozen BK108.out 1; have hfz35_2 := blk_frozen BK108.out 2))
         go_ret
         exact ⟨d74f, d74a⟩
     · rw [if_neg c8] at H
       have c8b0 : decide (x16_1 < (l1_0.length : Int)) = false := decide_eq_false c8
       clear c8
       replace H := bindS H; obtain ⟨t102, A36, H⟩ := H
       obtain rfl := Option.some.inj H
       obtain ⟨hcz37_0, hcz37_1⟩ := blkC2 BK101.out
       have hfz37_0 := blk_frozen BK101.out 0
       have hfz37_1 := blk_frozen BK101.out 1
       go_wp2_with ((with_reducible refine gate_callee (f := 63) rfl ?_); refine goesL_ (some 44) rfl rfl Try.func63 (by kernel_rfl) rfl #[.int .i64 a1_1, .int .i64 0, .int .i64 50] rfl d74c ?_; (with_reducible refine (kit_Range.calls a1_1 0 50 t102 _ A36.out).mono ?_); rintro e w' ⟨rfl, ⟨nd, rfl⟩⟩; refine ⟨_, rfl, ?_⟩)
       go_ret
       exact ⟨d74f, d74b⟩
def slices_Index_string_string.l0 : Nat → List ByteArray → ByteArray → Int → Int → Option (Int)
  | 0, _, _, _, _ => none
  | k + 1, x0, x1, x7, x8 => if x8 < x7 then (if 0 ≤ x8 then (if x8 < (x0.length : Int) then (if x1.toList = (rdOf ByteArray.empty x0 x8).toList then (some x8) else (slices_Index_string_string.l0 k x0 x1 x7 (wrap64 (x8 + 1)))) else (none)) else (none)) else (some (-1))
def slices_Index_string_string.f (k : Nat) (l0 : List ByteArray) (a1 : ByteArray) : Option (Int) := slices_Index_string_string.l0 k l0 a1 (l0.length : Int) 0
theorem d99a {p : Prop} (h : p := by repeat (first | exact Drawn0.refl _ | apply Drawn0.step)) : p := h
theorem d99b {p : Prop} (h : p := by first | (with_reducible assumption) | assumption) : p := h
theorem d99c {p : Prop} (h : p := by first | rfl | (simp; done) | (simp [*]; done)) : p := h
set_option maxHeartbeats 8000000 in
set_option maxRecDepth 100000 in
theorem slices_Index_string_string.calls (k : Nat) (A0 : Option Addr) (c0 : Nat) (l0 : List ByteArray) (a1 : ByteArray) (r : Int) (w : World) (hr0 : Kd.C Kd.string w A0 l0.length l0) (hc0 : l0.length ≤ c0) (h : slices_Index_string_string.f k l0 a1 = some r) :
 Calls Try.prog 99 #[.slice A0 l0.length c0, .string a1] w fun e w' => e = .returned (.int .i64 r) ∧ Drawn0 w w' := by
 have HR0 := Aside0.mk hr0
 have HC0 := Aside0.mk hc0
 clear hr0 hc0
 have H : (slices_Index_string_string.l0 k l0 a1 (l0.length : Int) 0) = some r := h
 clear h
 have H' := Aside0.mk H
 clear H
 go_enter Try.func99, Try.ntmps99
 go_wp2
 go_loopg [8] k (fun kq v8 w' => ∃ (x8_1 : Int), v8 = .int .i64 x8_1 ∧ Aside0 (slices_Index_string_string.l0 kq l0 a1 (l0.length : Int) x8_1 = some r) ∧ Aside0 (kq ≤ k) ∧ Drawn0 w w')
 case atStart => exact ⟨(0), d99c, H', ⟨Nat.le_refl _⟩, d99a⟩
 case round =>
  clear H'
  obtain ⟨x8_1, rfl, HA, HK1, ⟨m1, rfl⟩⟩ := hrel
  cases gk with
  | zero => exact absurd HA.out (by simp [slices_Index_string_string.l0])
  | succ k1 =>
   have H := HA.out
   clear HA
   simp only [slices_Index_string_string.l0] at H
   by_cases c3 : x8_1 < (l0.length : Int)
   · rw [if_pos c3] at H
     have c3b0 : decide (x8_1 < (l0.length : Int)) = true := decide_eq_true c3
     clear c3
     replace H := guardT H; obtain ⟨c4, H⟩ := H
     have c4b0 : decide (0 ≤ x8_1) = true := decide_eq_true c4
     clear c4
     replace H := guardT H; obtain ⟨c5, H⟩ := H
     have c5b0 : decide (x8_1 < (l0.length : Int)) = true := decide_eq_true c5
     clear c5
     by_cases c6 : a1.toList = (rdOf ByteArray.empty l0 x8_1).toList
     · rw [if_pos c6] at H
       have c6b0 : (a1.toList == (rdOf ByteArray.empty l0 x8_1).toList) = true := beq_iff_eq.mpr c6
       have c6b1 : (a1.toList != (rdOf ByteArray.empty l0 x8_1).toList) = false := bne_eq_false_iff_eq.mpr c6
       clear c6
       obtain rfl := Option.some.inj H
       have p101 : 0 ≤ (x8_1 : Int) := of_decide_eq_true d99b
       have q101 : x8_1 < (l0.length : Int) := of_decide_eq_true d99b
       obtain ⟨ad101, e101, hx101_0⟩ := Kd.at_string HR0.out x8_1 p101 q101
       cases e101
       replace p101 := eq_true p101
       replace q101 := eq_true q101
       go_wp2
       go_ret
       exact ⟨d99c, d99a⟩
     · rw [if_neg c6] at H
       have c6b0 : (a1.toList == (rdOf ByteArray.empty l0 x8_1).toList) = false := beq_eq_false_iff_ne.mpr c6
       have c6b1 : (a1.toList != (rdOf ByteArray.empty l0 x8_1).toList) = true := bne_iff_ne.mpr c6
       have H' := Aside0.mk H
       clear H
       have p101 : 0 ≤ (x8_1 : Int) := of_decide_eq_true d99b
       have q101 : x8_1 < (l0.length : Int) := of_decide_eq_true d99b
       obtain ⟨ad101, e101, hx101_0⟩ := Kd.at_string HR0.out x8_1 p101 q101
       cases e101
       replace p101 := eq_true p101
       replace q101 := eq_true q101
       go_wp2
       go_roundg k1
       case measure => have := HK1.out; omega
       case rel => exact ⟨(wrap64 (x8_1 + 1)), d99c, H', ⟨by have := HK1.out; omega⟩, d99a⟩
   · rw [if_neg c3] at H
     have c3b0 : decide (x8_1 < (l0.length : Int)) = false := decide_eq_false c3
     clear c3
     obtain rfl := Option.some.inj H
     go_wp2
     go_ret
     exact ⟨d99c, d99a⟩
def slices_Contains_string_string.f (k : Nat) (l0 : List ByteArray) (a1 : ByteArray) : Option (Bool) := (slices_Index_string_string.f k l0 a1).bind fun t101 => (some (decide (t101 ≥ 0)))
set_option maxHeartbeats 8000000 in
set_option maxRecDepth 100000 in
theorem slices_Contains_string_string.calls (k : Nat) (A0 : Option Addr) (c0 : Nat) (l0 : List ByteArray) (a1 : ByteArray) (r : Bool) (w : World) (hr0 : Kd.C Kd.string w A0 l0.length l0) (hc0 : l0.length ≤ c0) (h : slices_Contains_string_string.f k l0 a1 = some r) :
 Calls Try.prog 93 #[.slice A0 l0.length c0, .string a1] w fun e w' => e = .returned (.bool r) ∧ Drawn0 w w' := by
 have HR0 := Aside0.mk hr0
 have HC0 := Aside0.mk hc0
 clear hr0 hc0
 have H : ((slices_Index_string_string.f k l0 a1).bind fun t101 => (some (decide (t101 ≥ 0)))) = some r := h
 clear h
 replace H := bindS H; obtain ⟨t101, A3, H⟩ := H
 obtain rfl := Option.some.inj H
 go_enter Try.func93, Try.ntmps93
 go_wp2_with ((with_reducible refine gate_callee (f := 99) rfl ?_); refine goesL_ (some 7) rfl rfl Try.func99 (by kernel_rfl) rfl #[.slice A0 l0.length c0, .string a1] rfl (by (try simp only [List.map_toArray, List.map_cons, List.map_nil]); first | done | rfl | (simp only [List.length_drop, List.length_take]; rfl)) ?_; (with_reducible refine (slices_Index_string_string.calls k _ _ l0 a1 t101 _ ?side1 ?side2 A3.out).mono ?_); (case side1 => exact C_go HR0.out); (case side2 => exact HC0.out); rintro e w' ⟨rfl, ⟨nd, rfl⟩⟩; refine ⟨_, rfl, ?_⟩)
 go_ret
 exact ⟨by first | rfl | (simp; done) | (simp [*]; done), by repeat (first | exact Drawn0.refl _ | apply Drawn0.step)⟩
/-- Which uses are of the loads of a bar. -/
def boolsB (k : Nat) (bl : List ByteArray) : List S47 → Option (List Bool)
  | [] => some []
  | x :: u => (slices_Contains_string_string.f k bl x.f0).bind fun b => (boolsB k bl u).bind fun l => some (b :: l)
theorem boolsB_at {k : Nat} {bl : List ByteArray} : ∀ {u : List S47} {l : List Bool}, boolsB k bl u = some l → l.length = u.length ∧ ∀ i : Nat, i < u.length → slices_Contains_string_string.f k bl (rd_T47 u (i : Int)).f0 = some (l.getD i false)
  | [], l, h => by
    obtain rfl := Option.some.inj h
    exact ⟨rfl, fun i hi => absurd hi (Nat.not_lt_zero i)⟩
  | x :: u, l, h => by
    unfold boolsB at h
    obtain ⟨y, hy, h⟩ := Option.bind_eq_some_iff.1 h
    obtain ⟨l', he, h⟩ := Option.bind_eq_some_iff.1 h
    obtain rfl := Option.some.inj h
    obtain ⟨hl, ih⟩ := boolsB_at he
    refine ⟨by simp [hl], fun i hi => ?_⟩
    cases i with
    | zero => exact hy
    | succ i =>
      have e : rd_T47 (x :: u) ((i + 1 : Nat) : Int) = rd_T47 u (i : Int) := rfl
      rw [e, ih i (by simpa using hi)]
      rfl
/-- What those of the first uses add. -/
def brE (bs : List Bool) (u : List S47) : Nat → List (Int × Int × Int)
  | 0 => []
  | i + 1 => brE bs u i ++ (if bs.getD i false = true then [((rd_T47 u (i : Int)).f1, (rd_T47 u (i : Int)).f2, 1)] else [])
theorem brE_len (bs : List Bool) (u : List S47) : ∀ i, (brE bs u i).length ≤ i
  | 0 => Nat.le_refl _
  | i + 1 => by
    have := brE_len bs u i
    unfold brE
    rw [List.length_append]
    split <;> simp <;> omega
theorem brE_part {bs : List Bool} {u : List S47} : ∀ (d i : Nat), Small40 (addsOf (brE bs u (i + d))) → Small40 (addsOf (brE bs u i))
  | 0, i, h => h
  | d + 1, i, h => by
    refine brE_part d i (fun x hx => h x ?_)
    rw [show i + (d + 1) = (i + d) + 1 by omega]
    unfold brE
    rw [addsOf_append]
    exact List.mem_append_left _ hx
theorem addsOf_length : ∀ E : List (Int × Int × Int), (addsOf E).length = 2 * E.length
  | [] => rfl
  | e :: E => by simp only [addsOf, List.length_cons, addsOf_length E]; omega
/-- The spans in which more than so many are on: behind moments. -/
def brokenGo (A : List (Int × Int)) (num most : Int) : List Int → Int → List S57 → Option (List S57)
  | [], _, out => some out
  | t :: ts, now, out => if now ≤ most ∧ most < now + delta t A then brokenGo A num most ts (now + delta t A) (out ++ [(⟨num, t, 0⟩ : S57)])
    else if most < now ∧ now + delta t A ≤ most then (if out.length = 0 then none else brokenGo A num most ts (now + delta t A) (out.set (out.length - 1) (⟨(out.getD (out.length - 1) ⟨0, 0, 0⟩).f0, (out.getD (out.length - 1) ⟨0, 0, 0⟩).f1, t⟩ : S57)))
    else brokenGo A num most ts (now + delta t A) out
def power_broken.f (k : Nat) (l0 : List (S47)) (a1 : Int) (l2_0 : List ByteArray) (a2_1 : Int) : Option (List (S57)) :=
  (boolsB k l2_0 l0).bind fun bs => if l0.length ≤ 1000 ∧ Small40 (addsOf (brE bs l0 l0.length)) then brokenGo (addsOf (brE bs l0 l0.length)) a1 a2_1 (keysV (addsOf (brE bs l0 l0.length))) 0 [] else none
/-- Where broken stands: the bar's own block, the map; what has been added. -/
def BrokAt (w : World) (v0 v1 : Value) (A : List (Int × Int)) (wr : World) : Prop :=
  wr.heap[w.heap.size]? = some (.cells #[v0, v1] 100 (0, 0)) ∧
  (∃ D, wr.ownsMap Try.prog 3 (plainElem Try.prog 3) (w.heap.size + 1) A.length D ∧ Tally D A) ∧ Below w.heap.size w wr
theorem BrokAt.below {w wr w2 : World} {v0 v1 : Value} {A : List (Int × Int)} (h : BrokAt w v0 v1 A wr) (hb : Below wr.heap.size wr w2) : BrokAt w v0 v1 A w2 := by
  obtain ⟨h1, ⟨D, h3, h4⟩, h5⟩ := h
  exact ⟨(hb.block _ (blk_lt h1)).trans h1, ⟨D, h3.kept (grown_of_below hb none) (by simp), h4⟩, below_step h5 hb⟩
theorem BrokAt.added {w wr w2 : World} {v0 v1 : Value} {A B : List (Int × Int)} (h : BrokAt w v0 v1 A wr) (hg : wr.grownBy w2 (some (w.heap.size + 1))) {D : DataW Unit} {n : Nat} (hn : n = B.length) (ho : w2.ownsMap Try.prog 3 (plainElem Try.prog 3) (w.heap.size + 1) n D) (hT : Tally D B) : BrokAt w v0 v1 B w2 := by
  obtain ⟨h1, _, h5⟩ := h
  subst hn
  exact ⟨(hg.block _ (blk_lt h1) (fun e => by injection e with e; omega)).trans h1, ⟨D, ho, hT⟩, pw_below_grown h5 _ h5.size hg (fun j hj => by cases hj; omega)⟩
theorem power_broken.infoP : (Try.prog.info? 57).map (fun i => (i.zero, i.size, i.bytes)) = some (some (.agg #[.int .i64 0, .int .i64 0, .int .i64 0]), 3, 24) := by kernel_rfl
theorem power_broken.infoI : (Try.prog.info? 3).map (fun i => (i.zero, i.size, i.bytes)) = some (some (.int .i64 0), 1, 8) := by kernel_rfl
theorem power_broken.infoS : (Try.prog.info? 3).map (·.size) = some 1 := by kernel_rfl
theorem bad_last {out : List S57} {px : S57} {j : Int} {t : Int} (h0 : 0 < out.length) (hj : j = (out.length : Int) - 1) (hp : out.getD (out.length - 1) ⟨0, 0, 0⟩ = px) :
    out.set j.toNat (⟨px.f0, px.f1, t⟩ : S57) = out.set (out.length - 1) (⟨(out.getD (out.length - 1) ⟨0, 0, 0⟩).f0, (out.getD (out.length - 1) ⟨0, 0, 0⟩).f1, t⟩ : S57) := by
  rw [hp, show j.toNat = out.length - 1 by omega]
theorem d75a {p : Prop} (h : p := by have q := HD2.out.2.1 t; rw [hat3, HDL.out] at q; injection q with q; injection q with _ q; exact q.symm) : p := h
set_option maxHeartbeats 16000000 in
set_option maxRecDepth 100000 in
theorem power_broken.calls (k : Nat) (A0 : Option Addr) (c0 : Nat) (l0 : List (S47)) (a1 : Int) (A2_0 : Option Addr) (c2_0 : Nat) (l2_0 : List ByteArray) (a2_1 : Int) (r : List (S57)) (w : World)
 (hr0 : Kd.C k47 w A0 l0.length l0) (hc0 : l0.length ≤ c0) (hr2_0 : Kd.C Kd.string w A2_0 l2_0.length l2_0) (hc2_0 : l2_0.length ≤ c2_0) (h : power_broken.f k l0 a1 l2_0 a2_1 = some r) :
 Calls Try.prog 75 #[.slice A0 l0.length c0, .int .i64 a1, .agg #[.slice A2_0 l2_0.length c2_0, .int .i64 a2_1]] w fun e w' => ∃ v0_ : Value, e = .returned (v0_) ∧ Kd.R k57 57 w' w.heap.size (fun _ => True) v0_ r ∧ Below w.heap.size w w' := by
 unfold power_broken.f at h
 obtain ⟨bs, hbs, h⟩ := Option.bind_eq_some_iff.1 h
 split at h
 case isFalse => cases h
 case isTrue hg =>
  obtain ⟨hn, hS⟩ := hg
  obtain ⟨hbl, hba⟩ := boolsB_at hbs
  have HBA := Aside0.mk hba
  have HS := Aside0.mk hS
  have HN := Aside0.mk hn
  have HR0 := Aside0.mk hr0
  have HR2 := Aside0.mk hr2_0
  have HC2 := Aside0.mk hc2_0
  have HG := Aside0.mk h
  clear hbs hbl hba hS hn hr0 hc0 hr2_0 hc2_0 h
  have hM0 : ((w.alloc (.cells #[.slice A2_0 l2_0.length c2_0, .int .i64 a2_1] 100)).alloc (.map #[] 0)).ownsMap Try.prog 3 (plainElem Try.prog 3) (w.heap.size + 1) 0 (.map [] : DataW Unit) := by
   have q := World.ownsMap_made (w.alloc (.cells #[.slice A2_0 l2_0.length c2_0, .int .i64 a2_1] 100)) Try.prog 3 (plainElem (H := Unit) Try.prog 3)
   rwa [show (w.alloc (.cells #[.slice A2_0 l2_0.length c2_0, .int .i64 a2_1] 100)).heap.size = w.heap.size + 1 from by simp] at q
  have HF1 := Aside0.mk (show BrokAt w (.slice A2_0 l2_0.length c2_0) (.int .i64 a2_1) [] ((w.alloc (.cells #[.slice A2_0 l2_0.length c2_0, .int .i64 a2_1] 100)).alloc (.map #[] 0)) from
   ⟨((below_alloc (Below.refl (w.alloc (.cells #[.slice A2_0 l2_0.length c2_0, .int .i64 a2_1] 100)).heap.size _) _).block w.heap.size (by simp)).trans (heap_alloc_new w _), ⟨_, hM0, Tally.empty⟩, below_alloc (below_alloc (Below.refl _ _) _) _⟩)
  clear hM0
  have hmm := @run_makeMap Try.prog
  go_enter Try.func75, Try.ntmps75
  go_wp2
  go_loopg [20] (l0.length + 1) (fun kq v20 w' => ∃ i : Int, v20 = .int .i64 i ∧ Aside0 (kq + i.toNat = l0.length + 1) ∧ Aside0 (0 ≤ i ∧ i ≤ l0.length) ∧ Aside0 (BrokAt w (.slice A2_0 l2_0.length c2_0) (.int .i64 a2_1) (addsOf (brE bs l0 i.toNat)) w'))
  case atStart => exact ⟨0, rfl, ⟨rfl⟩, ⟨Int.le_refl _, by omega⟩, ⟨HF1.out⟩⟩
  case round =>
   clear HF1
   obtain ⟨i, rfl, HK, HI, HF⟩ := hrel
   cases gk with
   | zero => exact absurd HK.out (by have := HI.out; omega)
   | succ k1 =>
    by_cases c1 : i < (l0.length : Int)
    · have c1b : decide (i < (l0.length : Int)) = true := decide_eq_true c1
      have hi0 : 0 ≤ i := HI.out.1
      obtain ⟨ad, e3, hx0, hx1, hx2⟩ := at_T47 HR0.out i hi0 c1
      cases e3
      have hBx := HF.out.2.2
      replace hx0 := (hBx.cell (World.block_lt_of_cell? w _ hx0)).trans hx0
      replace hx1 := (hBx.cell (World.block_lt_of_cell? w _ hx1)).trans hx1
      replace hx2 := (hBx.cell (World.block_lt_of_cell? w _ hx2)).trans hx2
      have hcb : ∀ o, (wr.alloc o).cell? ⟨w.heap.size, 0, none⟩ = some (.slice A2_0 l2_0.length c2_0) := fun o => (blkC2 (blk_alloc HF.out.1 o)).1
      have HRL := Aside0.mk (Kd.C_below HR2.out hBx)
      have hby := HBA.out i.toNat (by omega)
      rw [Int.toNat_of_nonneg hi0] at hby
      have HBY := Aside0.mk hby
      have hS1 := brE_part (bs := bs) (u := l0) (l0.length - (i.toNat + 1)) (i.toNat + 1) (by rw [show i.toNat + 1 + (l0.length - (i.toNat + 1)) = l0.length by omega]; exact HS.out)
      have e1 : brE bs l0 (i.toNat + 1) = brE bs l0 i.toNat ++ (if bs.getD i.toNat false = true then [((rd_T47 l0 i).f1, (rd_T47 l0 i).f2, 1)] else []) := by
       show brE bs l0 i.toNat ++ (if bs.getD i.toNat false = true then [((rd_T47 l0 (i.toNat : Int)).f1, (rd_T47 l0 (i.toNat : Int)).f2, 1)] else []) = _
       rw [Int.toNat_of_nonneg hi0]
      have hlen := brE_len bs l0 i.toNat
      have hal := addsOf_length (brE bs l0 i.toNat)
      have Hi := Aside0.mk (show i.toNat < l0.length by omega)
      have hwi : wrap64 (i + 1) = i + 1 := by have := HN.out; unfold wrap64; omega
      have p1 := eq_true hi0
      have q1 := eq_true c1
      clear c1 hi0 hBx hby
      cases hb : bs.getD i.toNat false with
      | true =>
       rw [hb, if_pos rfl] at e1
       rw [hb] at HBY
       rw [e1, addsOf_append] at hS1
       have HSI := Aside0.mk (show Small40 (addsOf (brE bs l0 i.toNat) ++ [((rd_T47 l0 i).f1, 1), ((rd_T47 l0 i).f2, -1)]) from hS1)
       have hwf := Aside0.mk (show (Lit.int .i64 (rd_T47 l0 i).f1).wf = true from WalkArith.wf_i64 (by have := HSI.out ((rd_T47 l0 i).f1, 1) (by simp); omega))
       have hwt := Aside0.mk (show (Lit.int .i64 (rd_T47 l0 i).f2).wf = true from WalkArith.wf_i64 (by have := HSI.out ((rd_T47 l0 i).f2, -1) (by simp); omega))
       have HE1 := Aside0.mk (show addsOf (brE bs l0 (i.toNat + 1)) = addsOf (brE bs l0 i.toNat) ++ [((rd_T47 l0 i).f1, 1), ((rd_T47 l0 i).f2, -1)] from by rw [e1, addsOf_append]; rfl)
       obtain ⟨A, hA⟩ : ∃ A, addsOf (brE bs l0 i.toNat) = A := ⟨_, rfl⟩
       rw [hA] at HSI HE1 HF hal
       obtain ⟨D, hD1, hD2⟩ := HF.out.2.1
       have HD1 := Aside0.mk hD1
       have HT := Aside0.mk hD2
       have HAL := Aside0.mk (show A.length ≤ 2000 by have := HN.out; have := Hi.out; omega)
       clear e1 hS1 hlen hal hb hA hD1 hD2
       go_wp2_with (first
        | (go_at_call 93; refine (slices_Contains_string_string.calls k _ _ l2_0 _ true _ (Kd.C_alloc HRL.out _) HC2.out HBY.out).mono ?_; rintro e w2 ⟨rfl, ⟨nd, rfl⟩⟩)
        | (at_lookup; refine wpList_lookup_own_int _ rfl (.tmp 29) (.tmp 31) 112 rfl 3 3 .i64 lawInt Try.underlying112 Try.underlying3 (zeroInt _) (w.heap.size + 1) _ D rfl (HD1.out.kept (grown_of_below (pw_below_drewN (below_alloc (Below.refl _ _) _) _) none) (by simp)) _ _ rfl (Maps.keyOf_int_mk Try.underlying3 hwf.out) ?_; intro c3 hat3 hwc3; obtain rfl : c3 = delta (rd_T47 l0 i).f1 A := (by have q := HT.out.2.1 (rd_T47 l0 i).f1; rw [hat3] at q; injection q with q; injection q); clear hat3 hwc3)
        | (at_mapUpdate; refine wpList_mapUpdate_own _ rfl (.tmp 29) (.tmp 31) (.tmp 33) 112 rfl 3 3 lawInt Try.underlying112 _ (w.heap.size + 1) _ D rfl (HD1.out.kept (grown_of_below (pw_below_drewN (below_alloc (Below.refl _ _) _) _) none) (by simp)) (by have := HAL.out; unfold maxLen; omega) _ _ _ rfl rfl (Maps.keyOf_int_mk Try.underlying3 hwf.out) _ [] (plainElem_int Try.underlying3 (wrap64_wf _)) ?_; intro w3 hown1 hgrow1; rw [flow_w1 HSI.out (by have := HAL.out; omega)] at hown1; have HT1 := Aside0.mk (HT.out.put (rd_T47 l0 i).f1 1); have HO1 := Aside0.mk hown1; have HF2 := Aside0.mk ((HF.out.below (pw_below_drewN (below_alloc (Below.refl _ _) _) _)).added hgrow1 (B := A ++ [((rd_T47 l0 i).f1, 1)]) (by simp) hown1 HT1.out); have hbk := (hgrow1.block wr.heap.size (by simp) (fun e => by injection e with e; have := HF.out.2.1.choose_spec.1.lt; omega)).trans (show _ from heap_alloc_new wr _); have hxb2 := (blkC3 hbk).2.2; clear hown1 hgrow1 hbk)
        | (at_lookup; refine wpList_lookup_own_int _ rfl (.tmp 34) (.tmp 36) 112 rfl 3 3 .i64 lawInt Try.underlying112 Try.underlying3 (zeroInt _) (w.heap.size + 1) _ _ rfl HO1.out _ _ rfl (Maps.keyOf_int_mk Try.underlying3 hwt.out) ?_; intro c4 hat4 hwc4; obtain rfl : c4 = delta (rd_T47 l0 i).f2 (A ++ [((rd_T47 l0 i).f1, 1)]) := (by have q := HT1.out.2.1 (rd_T47 l0 i).f2; rw [hat4] at q; injection q with q; injection q); clear hat4 hwc4)
        | (at_mapUpdate; refine wpList_mapUpdate_own _ rfl (.tmp 34) (.tmp 36) (.tmp 38) 112 rfl 3 3 lawInt Try.underlying112 _ (w.heap.size + 1) _ _ rfl HO1.out (by have := HAL.out; unfold maxLen; omega) _ _ _ rfl rfl (Maps.keyOf_int_mk Try.underlying3 hwt.out) _ [] (plainElem_int Try.underlying3 (wrap64_wf _)) ?_; intro w4 hown2 hgrow2; rw [flow_w2 HSI.out (by have := HAL.out; omega)] at hown2; have HT2 := Aside0.mk (HT1.out.put (rd_T47 l0 i).f2 (-1)); have HF3 := Aside0.mk (HF2.out.added hgrow2 (B := A ++ [((rd_T47 l0 i).f1, 1)] ++ [((rd_T47 l0 i).f2, -1)]) (by simp) hown2 HT2.out); clear hown2 hgrow2))
       go_roundg k1
       case measure => have := HK.out; omega
       case rel => exact ⟨i + 1, by simp [hwi], ⟨by have := HK.out; have := HI.out; omega⟩, ⟨by have := HI.out; have := Hi.out; omega⟩, ⟨by rw [show (i + 1).toNat = i.toNat + 1 by have := HI.out; omega, HE1.out]; have q := HF3.out; rw [List.append_assoc] at q; exact q⟩⟩
      | false =>
       rw [hb] at HBY
       have HE1 := Aside0.mk (show brE bs l0 (i.toNat + 1) = brE bs l0 i.toNat from by rw [e1, hb]; simp)
       clear e1 hS1 hlen hal hb
       go_wp2_with (go_at_call 93; refine (slices_Contains_string_string.calls k _ _ l2_0 _ false _ (Kd.C_alloc HRL.out _) HC2.out HBY.out).mono ?_; rintro e w2 ⟨rfl, ⟨nd, rfl⟩⟩)
       go_roundg k1
       case measure => have := HK.out; omega
       case rel => exact ⟨i + 1, by simp [hwi], ⟨by have := HK.out; have := HI.out; omega⟩, ⟨by have := HI.out; have := Hi.out; omega⟩, ⟨by rw [show (i + 1).toNat = i.toNat + 1 by have := HI.out; omega, HE1.out]; exact HF.out.below (pw_below_drewN (below_alloc (Below.refl _ _) _) _)⟩⟩
    · have c1b : decide (i < (l0.length : Int)) = false := decide_eq_false c1
      have hil : i.toNat = l0.length := by have := HI.out; omega
      have HF2 := Aside0.mk (hil ▸ HF.out)
      obtain ⟨A, hA⟩ : ∃ A, addsOf (brE bs l0 l0.length) = A := ⟨_, rfl⟩
      have hal : A.length ≤ 2000 := by rw [← hA, addsOf_length]; have := brE_len bs l0 l0.length; have := HN.out; omega
      rw [hA] at HF2 HS HG
      clear c1 HK HI HF hil hA HBA
      obtain ⟨D, hD1, hD2⟩ := HF2.out.2.1
      have HD1 := Aside0.mk hD1
      have HD2 := Aside0.mk hD2
      have hsz := ownsMap_size hD1
      have HSZ := Aside0.mk hsz
      have HAL := Aside0.mk hal
      have HRng := Aside0.mk (show w.heap.size ≤ wr.heap.size from HF2.out.2.2.size)
      clear hD1 hD2 hsz hal
      go_wp2_with (at_range; refine wpList_range_own _ rfl _ 112 rfl 3 3 lawInt Try.underlying112 (plainElem Try.prog 3) (w.heap.size + 1) _ D rfl HD1.out ?_; intro w4 hrg0 hg0 hs0; have HRG := Aside0.mk hrg0; have HG4 := Aside0.mk hg0; clear hrg0 hg0 hs0)
      go_frame
      go_loopg [10] (Maps.size D + 1) (fun kq v10 w' => ∃ (ks : List Int) (left : Lit → Bool) (cnt : Nat), Aside0 (cnt < kq) ∧ Aside0 (w'.ranges Try.prog 3 (plainElem Try.prog 3) (w.heap.size + 1) wr.heap.size A.length D left cnt) ∧ Aside0 (CollI D left ks) ∧ Aside0 (ks.length + cnt ≤ Maps.size D) ∧ Aside0 (Kd.R (Kd.int .i64) 3 w' w.heap.size (fun _ => True) v10 ks) ∧ Aside0 (w'.heap[w.heap.size]? = some (.cells #[.slice A2_0 l2_0.length c2_0, .int .i64 a2_1] 100 (0, 0))) ∧ Aside0 (Below w.heap.size w w'))
      case atStart => exact ⟨[], Maps.has D, Maps.size D, ⟨Nat.lt_succ_self _⟩, ⟨HRG.out⟩, ⟨CollI.start D⟩, ⟨by simp⟩, ⟨Kd.R_nil _ _ _ _ _⟩, ⟨(HG4.out.block _ (blk_lt HF2.out.1) (by simp)).trans HF2.out.1⟩, ⟨pw_below_grown HF2.out.2.2 _ HF2.out.2.2.size HG4.out (by simp)⟩⟩
      case round =>
       clear HRG HG4 HF2
       obtain ⟨ks, left, cnt, HK, HRG, HCI, HLK, HKS, HGC, HBB⟩ := hrel
       cases gk with
       | zero => exact absurd HK.out (by omega)
       | succ k1 =>
        go_wp2_with (at_next; refine wpList_next_ranges_ii _ rfl _ rfl 3 3 .i64 .i64 lawInt Try.underlying3 Try.underlying3 (w.heap.size + 1) _ _ D _ _ rfl HRG.out ?_ ?_)
        · intro hc0 hl0
          have HL0 := Aside0.mk hl0
          clear hl0 hc0
          obtain ⟨Aks, cks, hv19⟩ := Kd.R_slice HKS.out
          have hv19' := hv19
          have hsf : slices_Sort_int_int.f ks = some (keysV A) := by
           have hl : ks.length < 4611686018427387904 := by have := HLK.out; have := HSZ.out; have := HAL.out; omega
           unfold slices_Sort_int_int.f
           rw [if_pos hl, sorted_keys HCI.out.1]
           intro x
           rw [HCI.out.2 x, HL0.out, HD2.out.2.2 x]
           simp
          have hkl : ks.length = (keysV A).length := by
           have hl : ks.length < 4611686018427387904 := by have := HLK.out; have := HSZ.out; have := HAL.out; omega
           unfold slices_Sort_int_int.f at hsf
           rw [if_pos hl] at hsf
           rw [← Option.some.inj hsf]
           exact (List.mergeSort_perm ks _).length_eq.symm
          have HSF := Aside0.mk hsf
          have HKL := Aside0.mk hkl
          have HKN := Aside0.mk (show ks.length ≤ 4001 by have := HLK.out; have := HSZ.out; have := HAL.out; omega)
          have HKS1 := Aside0.mk (hv19 ▸ HKS.out)
          clear hv19' hsf hkl HCI HL0 HKS
          go_wp2_with (go_at_call 89; refine (slices_Sort_int_int.calls (fun k_ => some k_ = (Value.slice Aks ks.length cks).ownBlock) _ ks _ w _ HBB.out (Kd.R_tight rfl HKS1.out) HSF.out).mono ?_; rintro e w6 ⟨rfl, hR6, hB6, hK6⟩; have HKS6 := Aside0.mk (Kd.R_mono (ok' := fun _ => True) hR6 (fun _ _ => trivial)); have HGC6 := Aside0.mk ((hK6.2 _ (blk_lt HGC.out) (Kd.R_ne HKS1.out HGC.out (by decide))).trans HGC.out); have HDD6 := Aside0.mk (ownsMap_kept HRG.out.owns (hK6.2 _ HRG.out.owns.lt (map_ne_row HRG.out.owns (Kd.own_of_R HKS1.out)))); have HB6 := Aside0.mk hB6; clear hR6 hB6 hK6)
          go_loopg [12, 13, 54] (ks.length + 1) (fun kq v12 v13 v54 w' => ∃ (i now : Int) (L : List S57), v54 = .int .i64 i ∧ v13 = .int .i64 now ∧ Aside0 (kq + i.toNat = ks.length + 1) ∧ Aside0 (0 ≤ i ∧ i ≤ ks.length) ∧ Aside0 (brokenGo A a1 a2_1 ((keysV A).drop i.toNat) now L = some r) ∧ Aside0 (-(i * 274946626420736) ≤ now ∧ now ≤ i * 274946626420736) ∧ Aside0 (L.length ≤ i.toNat) ∧ Aside0 (Kd.R (Kd.int .i64) 3 w' w.heap.size (fun _ => True) (.slice Aks ks.length cks) (keysV A)) ∧ Aside0 (Kd.R k57 57 w' w.heap.size (fun _ => True) v12 L) ∧ Aside0 (w'.heap[w.heap.size]? = some (.cells #[.slice A2_0 l2_0.length c2_0, .int .i64 a2_1] 100 (0, 0))) ∧ Aside0 (w'.ownsMap Try.prog 3 (plainElem Try.prog 3) (w.heap.size + 1) A.length D) ∧ Aside0 (Below w.heap.size w w'))
          case atStart => exact ⟨0, 0, [], rfl, rfl, ⟨rfl⟩, ⟨Int.le_refl _, by omega⟩, ⟨HG.out⟩, ⟨by omega, by omega⟩, ⟨Nat.zero_le _⟩, ⟨HKS6.out⟩, ⟨Kd.R_nil _ _ _ _ _⟩, ⟨HGC6.out⟩, ⟨HDD6.out⟩, ⟨HB6.out⟩⟩
          case round =>
           clear HKS6 HGC6 HDD6 HB6 HKS1 HRG HGC HBB HG
           obtain ⟨i, now, L, rfl, rfl, HK, HI, HFG, HNW, HLL, HKS, HLR, HGC, HDD, HBB⟩ := hrel
           cases gk with
           | zero => exact absurd HK.out (by have := HI.out; omega)
           | succ k1 =>
            by_cases c1 : i < (ks.length : Int)
            · have c1b : decide (i < (ks.length : Int)) = true := decide_eq_true c1
              have hi0 : 0 ≤ i := HI.out.1
              have hil : i.toNat < (keysV A).length := by have := HKL.out; omega
              obtain ⟨ad, hA, hx⟩ := Kd.at_int (Kd.R_reads' HKS.out).2.2 i hi0 (by have := HKL.out; omega)
              cases hA
              have hdr := rd_dropI hil
              rw [Int.toNat_of_nonneg hi0] at hdr
              obtain ⟨t, ht⟩ : ∃ t, rd (keysV A) i = t := ⟨_, rfl⟩
              rw [ht] at hx hdr
              have hcm := (blkC2 HGC.out).2
              have hfg := HFG.out
              rw [hdr] at hfg
              unfold brokenGo at hfg
              have hwi : wrap64 (i + 1) = i + 1 := by have := HKN.out; unfold wrap64; omega
              have p1 := eq_true hi0
              have q1 := eq_true c1
              have Hi := Aside0.mk (And.intro hi0 c1)
              have htm : t ∈ keysV A := List.mem_of_mem_drop (hdr ▸ List.mem_cons_self)
              obtain ⟨ee, hee1, hee2⟩ := (mem_keysV t _).1 htm
              have hwt := Aside0.mk (show (Lit.int .i64 t).wf = true from WalkArith.wf_i64 (by have := (HS.out ee hee1).1; omega))
              obtain ⟨dl, hdl⟩ : ∃ dl, delta t A = dl := ⟨_, rfl⟩
              have hdb := delta_bd t HS.out
              rw [hdl] at hdb hfg
              have hdb2 : -274946626420736 ≤ dl ∧ dl ≤ 274946626420736 := by have := HAL.out; omega
              have HDB := Aside0.mk hdb2
              have HDL := Aside0.mk hdl
              have hnw : wrap64 (now + dl) = now + dl := by have := HNW.out; have := HKN.out; have := Hi.out; unfold wrap64; omega
              clear c1 hi0 hil hdr ht HFG htm hee1 hee2 ee hdb hdl hdb2
              by_cases c2 : now ≤ a2_1
              · have d1 : decide (now ≤ a2_1) = true := decide_eq_true c2
                have d2 : decide (a2_1 < now) = false := decide_eq_false (by omega)
                by_cases c3 : a2_1 < now + dl
                · have d3 : decide (a2_1 < now + dl) = true := decide_eq_true c3
                  rw [if_pos ⟨c2, c3⟩] at hfg
                  have HFG := Aside0.mk hfg
                  clear hfg c2 c3
                  go_wp2_with (first
                   | (at_lookup; refine wpList_lookup_own_int _ rfl _ _ 112 rfl 3 3 .i64 lawInt Try.underlying112 Try.underlying3 (zeroInt _) (w.heap.size + 1) _ D rfl HDD.out _ _ rfl (Maps.keyOf_int_mk Try.underlying3 hwt.out) ?_; intro c3 hat3 hwc3; obtain rfl : dl = c3 := d75a; clear hat3 hwc3)
                   | (at_builtin; refine Kd.R_append k57 (w0 := w) w.heap.size rfl (.tmp 75) (.tmp 79) 52 57 (.agg #[.int .i64 0, .int .i64 0, .int .i64 0]) 24 rfl Try.underlying52 power_broken.infoP rfl (by decide) (by omega) _ L (⟨a1, t, 0⟩ : S57) [.int .i64 a1, .int .i64 t, .int .i64 0] (fun _ => True) (fun _ => False) rfl (by first | (go_simp; done) | (go_simp; rfl)) (k57_mkM _ _ _ (⟨a1, t, 0⟩ : S57)) (fun _ h => h.elim) (fun _ _ => trivial) HLR.out HBB.out HBB.out.size (by have := HLL.out; have := HKN.out; have := Hi.out; omega) ?_; intro v7 w7 ho7 hb7 hg7 hat7; have HKS7 := Aside0.mk (Kd.R_over' HKS.out (Kd.R_typed HLR.out) (by decide) hg7); have HGC7 := Aside0.mk ((hg7.block _ (blk_lt HGC.out) (Kd.R_ne HLR.out HGC.out (by decide))).trans HGC.out); have HDD7 := Aside0.mk (HDD.out.kept hg7 (map_ne_row HDD.out (Kd.R_own HLR.out).choose_spec)); have HB7 := Aside0.mk hb7; have HL7 := Aside0.mk ho7; clear ho7 hb7 hg7 hat7))
                  go_roundg k1
                  case measure => have := HK.out; omega
                  case rel => exact ⟨i + 1, now + dl, L ++ [(⟨a1, t, 0⟩ : S57)], by simp [hwi], rfl, ⟨by have := HK.out; have := HI.out; omega⟩, ⟨by have := HI.out; have := Hi.out; omega⟩, ⟨by rw [show (i + 1).toNat = i.toNat + 1 by have := HI.out; omega]; exact HFG.out⟩, ⟨by have := HDB.out; have := HNW.out; omega⟩, ⟨by rw [List.length_append]; simp only [List.length_cons, List.length_nil]; have := HI.out; have := HLL.out; omega⟩, ⟨HKS7.out⟩, ⟨HL7.out⟩, ⟨HGC7.out⟩, ⟨HDD7.out⟩, ⟨HB7.out⟩⟩
                · have d3 : decide (a2_1 < now + dl) = false := decide_eq_false c3
                  rw [if_neg (fun q => c3 q.2), if_neg (fun q => absurd q.1 (by omega))] at hfg
                  have HFG := Aside0.mk hfg
                  clear hfg c2 c3
                  go_wp2_with (at_lookup; refine wpList_lookup_own_int _ rfl _ _ 112 rfl 3 3 .i64 lawInt Try.underlying112 Try.underlying3 (zeroInt _) (w.heap.size + 1) _ D rfl HDD.out _ _ rfl (Maps.keyOf_int_mk Try.underlying3 hwt.out) ?_; intro c3 hat3 hwc3; obtain rfl : dl = c3 := d75a; clear hat3 hwc3)
                  go_roundg k1
                  case measure => have := HK.out; omega
                  case rel => exact ⟨i + 1, now + dl, L, by simp [hwi], rfl, ⟨by have := HK.out; have := HI.out; omega⟩, ⟨by have := HI.out; have := Hi.out; omega⟩, ⟨by rw [show (i + 1).toNat = i.toNat + 1 by have := HI.out; omega]; exact HFG.out⟩, ⟨by have := HDB.out; have := HNW.out; omega⟩, ⟨by have := HLL.out; have := HI.out; omega⟩, ⟨HKS.out⟩, ⟨HLR.out⟩, ⟨HGC.out⟩, ⟨HDD.out⟩, ⟨HBB.out⟩⟩
              · have d1 : decide (now ≤ a2_1) = false := decide_eq_false c2
                have d2 : decide (a2_1 < now) = true := decide_eq_true (by omega)
                by_cases c3 : now + dl ≤ a2_1
                · have d3 : decide (now + dl ≤ a2_1) = true := decide_eq_true c3
                  rw [if_neg (fun q => c2 q.1), if_pos ⟨by omega, c3⟩] at hfg
                  split at hfg
                  · cases hfg
                  · rename_i hne
                    have HFG := Aside0.mk hfg
                    clear hfg c2 c3
                    obtain ⟨nL, hnL⟩ : ∃ nL : Nat, L.length = nL := ⟨_, rfl⟩
                    have hnL1 : 0 < nL := by omega
                    obtain ⟨px, hpx⟩ : ∃ px, L.getD (L.length - 1) ⟨0, 0, 0⟩ = px := ⟨_, rfl⟩
                    obtain ⟨go, co, hvo, _⟩ := Kd.R_form HLR.out (by omega)
                    subst hvo
                    have HLR2 := HLR
                    rw [hnL] at HLR ⊢
                    obtain ⟨jL, hjL⟩ : ∃ jL : Int, wrap64 ((nL : Int) - 1) = jL := ⟨_, rfl⟩
                    have hLb : nL ≤ 4001 := by have := HLL.out; have := HKN.out; have := Hi.out; omega
                    have hjL2 : jL = (nL : Int) - 1 := by rw [← hjL]; unfold wrap64; omega
                    obtain ⟨cs0, _, hcM, hcc, _⟩ := Kd.R_elem HLR.out (⟨0, 0, 0⟩ : S57) jL (by omega) (by omega)
                    rw [show jL.toNat = L.length - 1 by omega, hpx] at hcM
                    obtain rfl := k57_openM hcM
                    have HCC := Aside0.mk hcc
                    have PJ := Aside0.mk (show 0 ≤ jL ∧ jL < (nL : Int) from by omega)
                    have HST := Aside0.mk (bad_last (t := t) (show 0 < L.length by omega) (show jL = (L.length : Int) - 1 by omega) hpx)
                    have HLB := Aside0.mk (And.intro hLb hnL)
                    have pj := eq_true PJ.out.1
                    have qj := eq_true PJ.out.2
                    clear hnL1 hjL2 hcc hcM hLb hne hpx
                    go_wp2_with (first
                     | (at_lookup; refine wpList_lookup_own_int _ rfl _ _ 112 rfl 3 3 .i64 lawInt Try.underlying112 Try.underlying3 (zeroInt _) (w.heap.size + 1) _ D rfl HDD.out _ _ rfl (Maps.keyOf_int_mk Try.underlying3 hwt.out) ?_; intro c3 hat3 hwc3; obtain rfl : dl = c3 := d75a; clear hat3 hwc3)
                     | (refine Kd.R_store k57 (w0 := w) w.heap.size rfl rfl 3 (.tmp 98) (.tmp 96) rfl 57 (g := go) (n := nL) (cap := co) (o' := jL.toNat * 3 + 2) jL 2 L (⟨px.f0, px.f1, t⟩ : S57) (.int .i64 t) [.int .i64 t] [.int .i64 px.f0, .int .i64 px.f1, .int .i64 px.f2] (fun _ => True) (fun _ => False) (by first | (go_simp; done) | (go_simp; rfl)) rfl rfl rfl power_broken.infoS (fun q hq => by rw [List.mem_singleton.1 hq]; rfl) HLR.out PJ.out.1 PJ.out.2 rfl HCC.out (show 3 ≤ 3 from by decide) (k57_mkM _ _ _ (⟨px.f0, px.f1, t⟩ : S57)) (fun _ h => h.elim) HBB.out ?_; intro w7 ho7 hb7 hg7; have HKS8 := Aside0.mk (Kd.R_over' HKS.out (v := .slice (some ⟨go, 0, none⟩) nL co) (Kd.R_typed HLR.out) (by decide) hg7); have HGC8 := Aside0.mk ((hg7.block _ (blk_lt HGC.out) (Kd.R_ne HLR.out HGC.out (by decide))).trans HGC.out); have HDD8 := Aside0.mk (HDD.out.kept hg7 (map_ne_row HDD.out (Kd.R_own HLR.out).choose_spec)); have HB8 := Aside0.mk hb7; have HL8 := Aside0.mk ho7; clear ho7 hb7 hg7))
                    go_roundg k1
                    case measure => have := HK.out; omega
                    case rel => exact ⟨i + 1, now + dl, L.set (L.length - 1) (⟨(L.getD (L.length - 1) ⟨0, 0, 0⟩).f0, (L.getD (L.length - 1) ⟨0, 0, 0⟩).f1, t⟩ : S57), by simp [hwi], rfl, ⟨by have := HK.out; have := HI.out; omega⟩, ⟨by have := HI.out; have := Hi.out; omega⟩, ⟨by rw [show (i + 1).toNat = i.toNat + 1 by have := HI.out; omega]; exact HFG.out⟩, ⟨by have := HDB.out; have := HNW.out; omega⟩, ⟨by rw [List.length_set]; have := HLL.out; have := HI.out; omega⟩, ⟨HKS8.out⟩, ⟨by rw [← HST.out]; exact HL8.out⟩, ⟨HGC8.out⟩, ⟨HDD8.out⟩, ⟨HB8.out⟩⟩
                · have d3 : decide (now + dl ≤ a2_1) = false := decide_eq_false c3
                  rw [if_neg (fun q => c2 q.1), if_neg (fun q => c3 q.2)] at hfg
                  have HFG := Aside0.mk hfg
                  clear hfg c2 c3
                  go_wp2_with (at_lookup; refine wpList_lookup_own_int _ rfl _ _ 112 rfl 3 3 .i64 lawInt Try.underlying112 Try.underlying3 (zeroInt _) (w.heap.size + 1) _ D rfl HDD.out _ _ rfl (Maps.keyOf_int_mk Try.underlying3 hwt.out) ?_; intro c3 hat3 hwc3; obtain rfl : dl = c3 := d75a; clear hat3 hwc3)
                  go_roundg k1
                  case measure => have := HK.out; omega
                  case rel => exact ⟨i + 1, now + dl, L, by simp [hwi], rfl, ⟨by have := HK.out; have := HI.out; omega⟩, ⟨by have := HI.out; have := Hi.out; omega⟩, ⟨by rw [show (i + 1).toNat = i.toNat + 1 by have := HI.out; omega]; exact HFG.out⟩, ⟨by have := HDB.out; have := HNW.out; omega⟩, ⟨by have := HLL.out; have := HI.out; omega⟩, ⟨HKS.out⟩, ⟨HLR.out⟩, ⟨HGC.out⟩, ⟨HDD.out⟩, ⟨HBB.out⟩⟩
            · have c1b : decide (i < (ks.length : Int)) = false := decide_eq_false c1
              have hfg := HFG.out
              rw [List.drop_of_length_le (by have := HKL.out; omega)] at hfg
              have hfg2 : some L = some r := hfg
              obtain rfl := Option.some.inj hfg2
              clear hfg hfg2 c1
              go_wp2
              go_ret
              exact ⟨_, rfl, HLR.out, HBB.out⟩
        · intro x c w5 cnt1 hwx hwc hlx hat hrg1 hlt hg1 hs1 hen
          have HRG5 := Aside0.mk hrg1
          have HCI5 := Aside0.mk (HCI.out.step hlx hat)
          have HKS5 := Aside0.mk (Kd.R_grown1 HKS.out rfl hg1 (row_ne_iter (Kd.own_of_R HKS.out) HRG.out))
          have HGC5 := Aside0.mk ((hg1.block _ (blk_lt HGC.out) (fun e => iter_ne_cells HRG.out HGC.out (by injection e))).trans HGC.out)
          have HB5 := Aside0.mk (pw_below_grown HBB.out _ HBB.out.size hg1 (fun j hj => by cases hj; exact HRng.out))
          have HLT := Aside0.mk hlt
          clear hrg1 hlx hat hg1 hs1 hlt HRG HCI HKS HGC HBB hwx hwc
          go_wp2_with (at_builtin; refine Kd.R_append (Kd.int .i64) (w0 := w) w.heap.size rfl (.tmp 46) (.tmp 48) 66 3 (.int .i64 0) 8 rfl Try.underlying66 power_broken.infoI rfl (by decide) (by omega) _ ks x [.int .i64 x] (fun _ => True) (fun _ => False) rfl (by first | (go_simp; done) | (go_simp; rfl)) rfl (fun _ h => h.elim) (fun _ _ => trivial) HKS5.out HB5.out HB5.out.size (by have := HLK.out; have := HSZ.out; have := HAL.out; omega) ?_; intro v6 w6 ho6 hb6 hg6 hat6; have HRG6 := Aside0.mk (HRG5.out.kept hg6 (map_ne_row HRG5.out.owns (Kd.own_of_R HKS5.out)) (row_ne_iter (Kd.own_of_R HKS5.out) HRG5.out)); have HGC6 := Aside0.mk ((hg6.block _ (blk_lt HGC5.out) (Kd.R_ne HKS5.out HGC5.out (by decide))).trans HGC5.out); have HB6 := Aside0.mk hb6; have HKS6 := Aside0.mk ho6; clear ho6 hb6 hg6 hat6)
          go_roundg k1
          case measure => omega
          case rel => exact ⟨ks ++ [x], _, cnt1, ⟨by have := HK.out; have := HLT.out; omega⟩, ⟨HRG6.out⟩, ⟨HCI5.out⟩, ⟨by rw [List.length_append]; have := HLK.out; have := HLT.out; simp only [List.length_cons, List.length_nil]; omega⟩, ⟨HKS6.out⟩, ⟨HGC6.out⟩, ⟨HB6.out⟩⟩
end Go.Proofs.Ytplcdpiggpkppaa.Q
