-- Made by wip/tools/claimp.py of this session's texts; Lean checks it.
import Derived.Test.YtplcdpiggpkppaaC13Q0
import Derived.Test.YtplcdpiggpkppaaC13Ge13
import Derived.Test.YtplcdpiggpkppaaC13Ge19
import Derived.Test.YtplcdpiggpkppaaC13Ge3
import Derived.Test.YtplcdpiggpkppaaC13Ge8
namespace Go.Proofs.Ytplcdpiggpkppaa.Q
open Go.RowKit Go.Proofs.YtplcdpiggpkppaaW.PrintWords Go.Proofs.YtplcdpiggpkppaaW.PrintLast Go.Proofs.YtplcdpiggpkppaaW.PrintMore
attribute [local go_sem] max2_int min2_int max_two min_two max_three min_three max_four min_four
open Go.Proofs.Ytplcdpiggpkppaa.Base
attribute [local go_sem high] str_leq str_gtr str_geq
set_option linter.unusedVariables false
set_option linter.unusedSimpArgs false
theorem eqA47 (d : Nat) (w : World) (x0 y0 : ByteArray) (x1 y1 : Int) (x2 y2 : Int) :
    (Op.equalIn (d + 2) 47 (.agg #[.string x0, .int .i64 x1, .int .i64 x2]) (.agg #[.string y0, .int .i64 y1, .int .i64 y2])).run Try.prog w = .ok (x0.toList == y0.toList && (x1 == y1 && (x2 == y2))) w := by
  refine eqA_of Try.underlying47 (by kernel_rfl) ?_
  refine eqf_cons (by rfl) (by go_simp; rfl) (by go_simp; rfl) (by go_simp) ?_
  refine eqf_cons (by rfl) (by go_simp; rfl) (by go_simp; rfl) (by go_simp) ?_
  exact eqf_last (by rfl) (by go_simp; rfl) (by go_simp; rfl) (by go_simp)
mutual
def power_shed.l0 : Nat → List (S76) → List (S47) → Int → Int → Int → List (S47) → Int → Int → Option (Int)
  | 0, _, _, _, _, _, _, _, _ => none
  | k + 1, x0, x1, x2, x7, x8, x15, x16, x17 => if x17 < x16 then (if 0 ≤ x17 then (if x17 < (x15.length : Int) then (if ((rd_T47 x15 x17).f1) ≥ x2 then (power_shed.l0 k x0 x1 x2 x7 x8 x15 x16 (wrap64 (x17 + 1))) else ((power_load.f k x0 ((rd_T47 x15 x17).f0)).bind fun bt103 => (if x7 < 0 then (power_shed.j1 k x0 x1 x2 x7 x8 x17 true x15 x16 x17 ((rd_T47 x15 x17).f0) ((rd_T47 x15 x17).f1) ((rd_T47 x15 x17).f2) bt103.1 bt103.2.1 bt103.2.2.1) else (power_shed.j1 k x0 x1 x2 x7 x8 x17 (decide (bt103.2.2.1 < x8)) x15 x16 x17 ((rd_T47 x15 x17).f0) ((rd_T47 x15 x17).f1) ((rd_T47 x15 x17).f2) bt103.1 bt103.2.1 bt103.2.2.1)))) else (none)) else (none)) else (some x7)
def power_shed.j1 : Nat → List (S76) → List (S47) → Int → Int → Int → Int → Bool → List (S47) → Int → Int → ByteArray → Int → Int → ByteArray → Int → Int → Option (Int)
  | 0, _, _, _, _, _, _, _, _, _, _, _, _, _, _, _, _ => none
  | k + 1, x0, x1, x2, x7, x8, x9, x13, x15, x16, x17, x103000, x103001, x103002, x108000, x108001, x108002 => if x13 = true then (power_shed.j2 k x0 x1 x2 x7 x8 x9 x13 x15 x16 x17 false x103000 x103001 x103002 x108000 x108001 x108002) else (power_shed.j2 k x0 x1 x2 x7 x8 x9 x13 x15 x16 x17 (x108002 == x8) x103000 x103001 x103002 x108000 x108001 x108002)
def power_shed.j2 : Nat → List (S76) → List (S47) → Int → Int → Int → Int → Bool → List (S47) → Int → Int → Bool → ByteArray → Int → Int → ByteArray → Int → Int → Option (Int)
  | 0, _, _, _, _, _, _, _, _, _, _, _, _, _, _, _, _, _ => none
  | k + 1, x0, x1, x2, x7, x8, x9, x13, x15, x16, x17, x48, x103000, x103001, x103002, x108000, x108001, x108002 => if x48 = true then (if 0 ≤ x7 then (if x7 < (x1.length : Int) then (if x103001 > ((rd_T47 x1 x7).f1) then (power_shed.l0 k x0 x1 x2 x9 x108002 x15 x16 (wrap64 (x17 + 1))) else (if x103001 = ((rd_T47 x1 x7).f1) then (if (Op.bytesLess x103000.toList (((rd_T47 x1 x7).f0).toList)) = true then (power_shed.l0 k x0 x1 x2 x9 x108002 x15 x16 (wrap64 (x17 + 1))) else (power_shed.l0 k x0 x1 x2 x7 x8 x15 x16 (wrap64 (x17 + 1)))) else (power_shed.l0 k x0 x1 x2 x7 x8 x15 x16 (wrap64 (x17 + 1))))) else (none)) else (none)) else (if x13 = true then (power_shed.l0 k x0 x1 x2 x9 x108002 x15 x16 (wrap64 (x17 + 1))) else (power_shed.l0 k x0 x1 x2 x7 x8 x15 x16 (wrap64 (x17 + 1))))
end
def power_shed.f (k : Nat) (l0 : List (S76)) (l1 : List (S47)) (a2 : Int) : Option (Int) := power_shed.l0 k l0 l1 a2 (-1) 0 l1 (l1.length : Int) 0
theorem d81a {p : Prop} (h : p := by repeat (first | (with_reducible first | exact HB.out | apply below_alloc | apply pw_below_drewN | apply below_drew1 | refine below_set ?_ GE102.out | refine below_set ?_ GE107.out | refine below_set ?_ GE109.out) | exact HB.out)) : p := h
theorem d81b {p : Prop} (h : p := by repeat (first | (with_reducible first | exact HB.out | apply below_alloc | apply pw_below_drewN | apply below_drew1 | refine below_set ?_ GE102.out | refine below_set ?_ GE107.out) | exact HB.out)) : p := h
theorem d81c {p : Prop} (h : p := by repeat (first | (with_reducible first | exact HB.out | apply below_alloc | apply pw_below_drewN | apply below_drew1 | refine below_set ?_ GE102.out) | exact HB.out)) : p := h
theorem d81d {p : Prop} (h : p := by repeat (first | (with_reducible first | exact HB.out | apply below_alloc | apply pw_below_drewN | apply below_drew1) | exact HB.out)) : p := h
theorem d81e {p : Prop} (h : p := by (with_reducible repeat (first | refine blk_drewN ?_ _ | refine blk_drew ?_ | refine blk_alloc ?_ _)); exact BK102.out) : p := h
theorem d81f {p : Prop} (h : p := by (with_reducible repeat (first | refine blk_drewN ?_ _ | refine blk_drew ?_ | refine blk_alloc ?_ _)); exact BK107.out) : p := h
theorem d81g {p : Prop} (h : p := by first | (with_reducible assumption) | assumption) : p := h
theorem d81h {p : Prop} (h : p := by first | rfl | (simp; done) | (simp [*]; done)) : p := h
theorem d81i {p : Prop} (h : p := by first | (go_simp; done) | (go_simp; rfl)) : p := h
set_option maxHeartbeats 8000000 in
set_option maxRecDepth 100000 in
theorem power_shed.calls (k : Nat) (A0 : Option Addr) (c0 : Nat) (l0 : List (S76)) (A1 : Option Addr) (c1 : Nat) (l1 : List (S47)) (a2 : Int) (r : Int) (w : World) (hr0 : Kd.C k76 w A0 l0.length l0) (hc0 : l0.length ≤ c0) (hr1 : Kd.C k47 w A1 l1.length l1) (hc1 : l1.length ≤ c1) (h : power_shed.f k l0 l1 a2 = some r) :
 Calls Try.prog 81 #[.slice A0 l0.length c0, .slice A1 l1.length c1, .int .i64 a2] w fun e w' => e = .returned (.int .i64 r) ∧ Below w.heap.size w w' := by
 have hu47 := Try.underlying47
 have hu76 := Try.underlying76
 have HR0 := Aside0.mk hr0
 have HC0 := Aside0.mk hc0
 clear hr0 hc0
 have HR1 := Aside0.mk hr1
 have HC1 := Aside0.mk hc1
 clear hr1 hc1
 have HB := Aside0.mk (Below.refl w.heap.size w)
 have H : (power_shed.l0 k l0 l1 a2 (-1) 0 l1 (l1.length : Int) 0) = some r := h
 clear h
 have H' := Aside0.mk H
 clear H
 go_enter Try.func81, Try.ntmps81
 go_wp2
 go_loopg [7, 8, 17] k (fun kq v7 v8 v17 w' => ∃ (x7_1 : Int) (x8_1 : Int) (x17_1 : Int), v7 = .int .i64 x7_1 ∧ v8 = .int .i64 x8_1 ∧ v17 = .int .i64 x17_1 ∧ Aside0 (power_shed.l0 kq l0 l1 a2 x7_1 x8_1 l1 (l1.length : Int) x17_1 = some r) ∧ Aside0 (kq ≤ k) ∧ Aside0 (Below w.heap.size w w'))
 case atStart => exact ⟨((-1)), (0), (0), d81h, d81h, d81h, H', ⟨Nat.le_refl _⟩, ⟨d81d⟩⟩
 case round =>
  clear H'
  obtain ⟨x7_1, x8_1, x17_1, rfl, rfl, rfl, HA, HK1, HB⟩ := hrel
  cases gk with
  | zero => exact absurd HA.out (by simp [power_shed.l0])
  | succ k1 =>
   have H := HA.out
   clear HA
   simp only [power_shed.l0] at H
   by_cases c4 : x17_1 < (l1.length : Int)
   · rw [if_pos c4] at H
     have c4b0 : decide (x17_1 < (l1.length : Int)) = true := decide_eq_true c4
     clear c4
     replace H := guardT H; obtain ⟨c5, H⟩ := H
     have c5b0 : decide (0 ≤ x17_1) = true := decide_eq_true c5
     clear c5
     replace H := guardT H; obtain ⟨c6, H⟩ := H
     have c6b0 : decide (x17_1 < (l1.length : Int)) = true := decide_eq_true c6
     clear c6
     by_cases c7 : ((rd_T47 l1 x17_1).f1) ≥ a2
     · rw [if_pos c7] at H
       have c7b0 : decide (a2 ≤ ((rd_T47 l1 x17_1).f1)) = true := decide_eq_true c7
       clear c7
       have H' := Aside0.mk H
       clear H
       have p101 : 0 ≤ (x17_1 : Int) := of_decide_eq_true d81g
       have q101 : x17_1 < (l1.length : Int) := of_decide_eq_true d81g
       obtain ⟨ad101, e101, hx101_0, hx101_1, hx101_2⟩ := at_T47 HR1.out x17_1 p101 q101
       cases e101
       replace hx101_0 := cellB HB.out hx101_0
       replace hx101_1 := cellB HB.out hx101_1
       replace hx101_2 := cellB HB.out hx101_2
       replace p101 := eq_true p101
       replace q101 := eq_true q101
       go_wp2_with ((with_reducible refine gate_dst (N := 10) rfl ?_); refine box_event ?hg (N := 10) ?hd (cs := #[.string (⟨#[]⟩ : ByteArray), .int .i64 0, .int .i64 0]) (t := 47) ?hr ?_; (case hd => rfl); (case hg => rfl); (case hr => exact d81i); intro gb102 hg w8 hbox hb; have n0_ := Aside0.mk (below_step d81d hb); have n1_ := Aside0.mk (hbox); have n2_ := Aside0.mk ((by rw [hg]; exact (below_size d81d) : w.heap.size ≤ gb102)); have n3_ := Aside0.mk ((by rw [hg]; exact (below_size d81d) : w.heap.size ≤ gb102)); clear HB; have HB := n0_; have BK102 := n1_; have GW102 := n2_; have GE102 := n3_; clear n0_ n1_ n2_ n3_; clear hb hbox hg; have hcz9_0 : w8.cell? ⟨gb102, 0, none⟩ = some (.string (⟨#[]⟩ : ByteArray)) := (blk_cell BK102.out 0).trans rfl; have hcz9_1 : w8.cell? ⟨gb102, 1, none⟩ = some (.int .i64 0) := (blk_cell BK102.out 1).trans rfl; have hcz9_2 : w8.cell? ⟨gb102, 2, none⟩ = some (.int .i64 0) := (blk_cell BK102.out 2).trans rfl; have hfz9_0 := blk_frozen BK102.out 0; have hfz9_1 := blk_frozen BK102.out 1; have hfz9_2 := blk_frozen BK102.out 2)
       go_roundg k1
       case measure => have := HK1.out; omega
       case rel => exact ⟨(x7_1), (x8_1), (wrap64 (x17_1 + 1)), d81h, d81h, d81h, H', ⟨by have := HK1.out; omega⟩, ⟨d81c⟩⟩
     · rw [if_neg c7] at H
       have c7b0 : decide (a2 ≤ ((rd_T47 l1 x17_1).f1)) = false := decide_eq_false c7
       clear c7
       replace H := bindS H; obtain ⟨⟨t103, t104, t105, t106⟩, A10, H⟩ := H
       have HC11 := Aside0.mk H
       clear H
       have p101 : 0 ≤ (x17_1 : Int) := of_decide_eq_true d81g
       have q101 : x17_1 < (l1.length : Int) := of_decide_eq_true d81g
       obtain ⟨ad101, e101, hx101_0, hx101_1, hx101_2⟩ := at_T47 HR1.out x17_1 p101 q101
       cases e101
       replace hx101_0 := cellB HB.out hx101_0
       replace hx101_1 := cellB HB.out hx101_1
       replace hx101_2 := cellB HB.out hx101_2
       replace p101 := eq_true p101
       replace q101 := eq_true q101
       go_upto_region 7 with (first | ((with_reducible refine gate_dst (N := 10) rfl ?_); refine box_event ?hg (N := 10) ?hd (cs := #[.string (⟨#[]⟩ : ByteArray), .int .i64 0, .int .i64 0]) (t := 47) ?hr ?_; (case hd => rfl); (case hg => rfl); (case hr => exact d81i); intro gb102 hg w12 hbox hb; have n0_ := Aside0.mk (below_step d81d hb); have n1_ := Aside0.mk (hbox); have n2_ := Aside0.mk ((by rw [hg]; exact (below_size d81d) : w.heap.size ≤ gb102)); have n3_ := Aside0.mk ((by rw [hg]; exact (below_size d81d) : w.heap.size ≤ gb102)); clear HB; have HB := n0_; have BK102 := n1_; have GW102 := n2_; have GE102 := n3_; clear n0_ n1_ n2_ n3_; clear hb hbox hg; have hcz13_0 : w12.cell? ⟨gb102, 0, none⟩ = some (.string (⟨#[]⟩ : ByteArray)) := (blk_cell BK102.out 0).trans rfl; have hcz13_1 : w12.cell? ⟨gb102, 1, none⟩ = some (.int .i64 0) := (blk_cell BK102.out 1).trans rfl; have hcz13_2 : w12.cell? ⟨gb102, 2, none⟩ = some (.int .i64 0) := (blk_cell BK102.out 2).trans rfl; have hfz13_0 := blk_frozen BK102.out 0; have hfz13_1 := blk_frozen BK102.out 1; have hfz13_2 := blk_frozen BK102.out 2) | (go_at_call 58; (with_reducible refine (power_load.calls k1 _ _ l0 ((rd_T47 l1 x17_1).f0) t103 t104 t105 t106 _ ?side1 ?side2 A10.out).mono ?_); (case side1 => exact Kd.C_below HR0.out d81c); (case side2 => exact HC0.out); rintro e w14 ⟨rfl, hb⟩; have n0_ := Aside0.mk (blk_below (g := gb102) (o := .cells #[.string ((rd_T47 l1 x17_1).f0), .int .i64 ((rd_T47 l1 x17_1).f1), .int .i64 ((rd_T47 l1 x17_1).f2)] 47 (0, 0)) (by (with_reducible repeat (first | refine blk_drewN ?_ _ | refine blk_drew ?_ | refine blk_alloc ?_ _)); refine blk_put (cs := #[.string ((rd_T47 l1 x17_1).f0), .int .i64 ((rd_T47 l1 x17_1).f1), .int .i64 0]) ?_ 2 _ rfl; (with_reducible repeat (first | refine blk_drewN ?_ _ | refine blk_drew ?_ | refine blk_alloc ?_ _)); refine blk_put (cs := #[.string ((rd_T47 l1 x17_1).f0), .int .i64 0, .int .i64 0]) ?_ 1 _ rfl; (with_reducible repeat (first | refine blk_drewN ?_ _ | refine blk_drew ?_ | refine blk_alloc ?_ _)); refine blk_put (cs := #[.string (⟨#[]⟩ : ByteArray), .int .i64 0, .int .i64 0]) ?_ 0 _ rfl; (with_reducible repeat (first | refine blk_drewN ?_ _ | refine blk_drew ?_ | refine blk_alloc ?_ _)); exact BK102.out) hb); have n1_ := Aside0.mk (below_step d81c hb); clear BK102; clear HB; have BK102 := n0_; have HB := n1_; clear n0_ n1_; (try clear hb)) | ((with_reducible refine gate_dst (N := 11) rfl ?_); refine box_event ?hg (N := 11) ?hd (cs := #[.string (⟨#[]⟩ : ByteArray), .int .i64 0, .int .i64 0]) (t := 76) ?hr ?_; (case hd => rfl); (case hg => rfl); (case hr => exact d81i); intro gb107 hg w15 hbox hb; have n0_ := Aside0.mk (blk_below (g := gb102) (o := .cells #[.string ((rd_T47 l1 x17_1).f0), .int .i64 ((rd_T47 l1 x17_1).f1), .int .i64 ((rd_T47 l1 x17_1).f2)] 47 (0, 0)) d81e hb); have n1_ := Aside0.mk (below_step d81c hb); have n2_ := Aside0.mk (hbox); have n3_ := Aside0.mk ((by rw [hg]; exact (below_size d81c) : w.heap.size ≤ gb107)); have n4_ := Aside0.mk ((by rw [hg]; exact (below_size d81c) : w.heap.size ≤ gb107)); have n5_ := Aside0.mk ((by rw [hg]; exact Nat.ne_of_lt (blk_lt (g := gb102) (o := .cells #[.string ((rd_T47 l1 x17_1).f0), .int .i64 ((rd_T47 l1 x17_1).f1), .int .i64 ((rd_T47 l1 x17_1).f2)] 47 (0, 0)) d81e) : gb102 ≠ gb107)); have n6_ := Aside0.mk ((by rw [hg]; exact Nat.ne_of_gt (blk_lt (g := gb102) (o := .cells #[.string ((rd_T47 l1 x17_1).f0), .int .i64 ((rd_T47 l1 x17_1).f1), .int .i64 ((rd_T47 l1 x17_1).f2)] 47 (0, 0)) d81e) : gb107 ≠ gb102)); clear BK102; clear HB; have BK102 := n0_; have HB := n1_; have BK107 := n2_; have GW107 := n3_; have GE107 := n4_; have NB102_107 := n5_; have NB107_102 := n6_; clear n0_ n1_ n2_ n3_ n4_ n5_ n6_; clear hb hbox hg; have hnb16 := NB107_102.out; have hnc16 := NB102_107.out; have hcz17_0 : w15.cell? ⟨gb107, 0, none⟩ = some (.string (⟨#[]⟩ : ByteArray)) := (blk_cell BK107.out 0).trans rfl; have hcz17_1 : w15.cell? ⟨gb107, 1, none⟩ = some (.int .i64 0) := (blk_cell BK107.out 1).trans rfl; have hcz17_2 : w15.cell? ⟨gb107, 2, none⟩ = some (.int .i64 0) := (blk_cell BK107.out 2).trans rfl; have hfz17_0 := blk_frozen BK107.out 0; have hfz17_1 := blk_frozen BK107.out 1; have hfz17_2 := blk_frozen BK107.out 2))
       (try simp only [Act.put, List.setIfInBounds_toArray, List.set_cons_zero, List.set_cons_succ])
       go_cut [13] (fun v13 wc => ∃ (kq : Nat) (x13_10 : Bool), v13 = .bool x13_10 ∧ Aside0 (power_shed.j1 kq l0 l1 a2 x7_1 x8_1 x17_1 x13_10 l1 (l1.length : Int) x17_1 ((rd_T47 l1 x17_1).f0) ((rd_T47 l1 x17_1).f1) ((rd_T47 l1 x17_1).f2) t103 t104 t105 = some r) ∧ Aside0 (kq ≤ k1) ∧ Aside0 (wc.heap[gb102]? = some (.cells #[.string ((rd_T47 l1 x17_1).f0), .int .i64 ((rd_T47 l1 x17_1).f1), .int .i64 ((rd_T47 l1 x17_1).f2)] 47 (0, 0))) ∧ Aside0 (wc.heap[gb107]? = some (.cells #[.string t103, .int .i64 t104, .int .i64 t105] 76 (0, 0))) ∧ Aside0 (Below w.heap.size w wc))
       case first =>
        have H := HC11.out
        clear HC11
        by_cases c18 : x7_1 < 0
        · rw [if_pos c18] at H
          have c18b0 : decide (x7_1 < 0) = true := decide_eq_true c18
          clear c18
          (first | rw [c18b0] | (simp only [i64_w, i32_w]; rw [c18b0]) | skip)
          have H' := Aside0.mk H
          clear H
          go_wp2
          go_meet
          case rel => exact ⟨_, (true), d81h, H', ⟨by have := HK1.out; first | omega | exact Nat.le_refl _⟩, ⟨by (with_reducible repeat (first | refine blk_drewN ?_ _ | refine blk_drew ?_ | refine blk_alloc ?_ _)); refine blk_far ?_ NB102_107.out _; (with_reducible repeat (first | refine blk_drewN ?_ _ | refine blk_drew ?_ | refine blk_alloc ?_ _)); refine blk_far ?_ NB102_107.out _; (with_reducible repeat (first | refine blk_drewN ?_ _ | refine blk_drew ?_ | refine blk_alloc ?_ _)); refine blk_far ?_ NB102_107.out _; (with_reducible repeat (first | refine blk_drewN ?_ _ | refine blk_drew ?_ | refine blk_alloc ?_ _)); exact BK102.out⟩, ⟨by (with_reducible repeat (first | refine blk_drewN ?_ _ | refine blk_drew ?_ | refine blk_alloc ?_ _)); refine blk_put (cs := #[.string t103, .int .i64 t104, .int .i64 0]) ?_ 2 _ rfl; (with_reducible repeat (first | refine blk_drewN ?_ _ | refine blk_drew ?_ | refine blk_alloc ?_ _)); refine blk_put (cs := #[.string t103, .int .i64 0, .int .i64 0]) ?_ 1 _ rfl; (with_reducible repeat (first | refine blk_drewN ?_ _ | refine blk_drew ?_ | refine blk_alloc ?_ _)); refine blk_put (cs := #[.string (⟨#[]⟩ : ByteArray), .int .i64 0, .int .i64 0]) ?_ 0 _ rfl; (with_reducible repeat (first | refine blk_drewN ?_ _ | refine blk_drew ?_ | refine blk_alloc ?_ _)); exact BK107.out⟩, ⟨d81b⟩⟩
        · rw [if_neg c18] at H
          have c18b0 : decide (x7_1 < 0) = false := decide_eq_false c18
          clear c18
          (first | rw [c18b0] | (simp only [i64_w, i32_w]; rw [c18b0]) | skip)
          have H' := Aside0.mk H
          clear H
          have hnb19 := NB107_102.out
          have hnc19 := NB102_107.out
          obtain ⟨hcz20_0, hcz20_1, hcz20_2⟩ := blkC3 BK107.out
          have hfz20_0 := blk_frozen BK107.out 0
          have hfz20_1 := blk_frozen BK107.out 1
          have hfz20_2 := blk_frozen BK107.out 2
          go_wp2
          go_meet
          case rel => exact ⟨_, (decide (t105 < x8_1)), d81h, H', ⟨by have := HK1.out; first | omega | exact Nat.le_refl _⟩, ⟨by (with_reducible repeat (first | refine blk_drewN ?_ _ | refine blk_drew ?_ | refine blk_alloc ?_ _)); refine blk_far ?_ NB102_107.out _; (with_reducible repeat (first | refine blk_drewN ?_ _ | refine blk_drew ?_ | refine blk_alloc ?_ _)); refine blk_far ?_ NB102_107.out _; (with_reducible repeat (first | refine blk_drewN ?_ _ | refine blk_drew ?_ | refine blk_alloc ?_ _)); refine blk_far ?_ NB102_107.out _; (with_reducible repeat (first | refine blk_drewN ?_ _ | refine blk_drew ?_ | refine blk_alloc ?_ _)); exact BK102.out⟩, ⟨by (with_reducible repeat (first | refine blk_drewN ?_ _ | refine blk_drew ?_ | refine blk_alloc ?_ _)); refine blk_put (cs := #[.string t103, .int .i64 t104, .int .i64 0]) ?_ 2 _ rfl; (with_reducible repeat (first | refine blk_drewN ?_ _ | refine blk_drew ?_ | refine blk_alloc ?_ _)); refine blk_put (cs := #[.string t103, .int .i64 0, .int .i64 0]) ?_ 1 _ rfl; (with_reducible repeat (first | refine blk_drewN ?_ _ | refine blk_drew ?_ | refine blk_alloc ?_ _)); refine blk_put (cs := #[.string (⟨#[]⟩ : ByteArray), .int .i64 0, .int .i64 0]) ?_ 0 _ rfl; (with_reducible repeat (first | refine blk_drewN ?_ _ | refine blk_drew ?_ | refine blk_alloc ?_ _)); exact BK107.out⟩, ⟨d81b⟩⟩
       case rest =>
        clear HC11
        try clear c4b0
        try clear c5b0
        try clear c6b0
        try clear c7b0
        try clear hcz13_0
        try clear hcz13_1
        try clear hcz13_2
        try clear hcz17_0
        try clear hcz17_1
        try clear hcz17_2
        try clear hfz13_0
        try clear hfz13_1
        try clear hfz13_2
        try clear hfz17_0
        try clear hfz17_1
        try clear hfz17_2
        try clear hx101_0
        try clear hx101_1
        try clear hx101_2
        try clear p101
        try clear q101
        obtain ⟨kq, x13_10, rfl, HA, HJ10, BK102, BK107, HB⟩ := hcut
        cases kq with
        | zero => exact absurd HA.out (by simp [power_shed.j1])
        | succ kj10 =>
         have H := HA.out
         clear HA
         simp only [power_shed.j1] at H
         have HC21 := Aside0.mk H
         clear H
         go_upto_region 8 with (fail)
         go_cut [48] (fun v48 wc => ∃ (kq : Nat) (x48_20 : Bool), v48 = .bool x48_20 ∧ Aside0 (power_shed.j2 kq l0 l1 a2 x7_1 x8_1 x17_1 x13_10 l1 (l1.length : Int) x17_1 x48_20 ((rd_T47 l1 x17_1).f0) ((rd_T47 l1 x17_1).f1) ((rd_T47 l1 x17_1).f2) t103 t104 t105 = some r) ∧ Aside0 (kq ≤ kj10) ∧ Aside0 (wc.heap[gb102]? = some (.cells #[.string ((rd_T47 l1 x17_1).f0), .int .i64 ((rd_T47 l1 x17_1).f1), .int .i64 ((rd_T47 l1 x17_1).f2)] 47 (0, 0))) ∧ Aside0 (wc.heap[gb107]? = some (.cells #[.string t103, .int .i64 t104, .int .i64 t105] 76 (0, 0))) ∧ Aside0 (Below w.heap.size w wc))
         case first =>
          have H := HC21.out
          clear HC21
          by_cases c22 : x13_10 = true
          · subst c22
            replace H := iteT H
            have H' := Aside0.mk H
            clear H
            go_wp2
            go_meet
            case rel => exact ⟨_, (false), d81h, H', ⟨by have := HK1.out; have := HJ10.out; first | omega | exact Nat.le_refl _⟩, ⟨d81e⟩, ⟨d81f⟩, ⟨d81b⟩⟩
          · replace c22 := Bool.eq_false_iff.mpr c22
            subst c22
            replace H := iteF H
            have H' := Aside0.mk H
            clear H
            have hnb23 := NB107_102.out
            have hnc23 := NB102_107.out
            obtain ⟨hcz24_0, hcz24_1, hcz24_2⟩ := blkC3 BK107.out
            have hfz24_0 := blk_frozen BK107.out 0
            have hfz24_1 := blk_frozen BK107.out 1
            have hfz24_2 := blk_frozen BK107.out 2
            go_wp2
            go_meet
            case rel => exact ⟨_, ((t105 == x8_1)), d81h, H', ⟨by have := HK1.out; have := HJ10.out; first | omega | exact Nat.le_refl _⟩, ⟨d81e⟩, ⟨d81f⟩, ⟨d81b⟩⟩
         case rest =>
          clear HC21
          obtain ⟨kq, x48_20, rfl, HA, HJ20, BK102, BK107, HB⟩ := hcut
          cases kq with
          | zero => exact absurd HA.out (by simp [power_shed.j2])
          | succ kj20 =>
           have H := HA.out
           clear HA
           simp only [power_shed.j2] at H
           by_cases c25 : x48_20 = true
           · subst c25
             replace H := iteT H
             replace H := guardT H; obtain ⟨c26, H⟩ := H
             have c26b0 : decide (0 ≤ x7_1) = true := decide_eq_true c26
             clear c26
             replace H := guardT H; obtain ⟨c27, H⟩ := H
             have c27b0 : decide (x7_1 < (l1.length : Int)) = true := decide_eq_true c27
             clear c27
             by_cases c28 : ((rd_T47 l1 x17_1).f1) > ((rd_T47 l1 x7_1).f1)
             · rw [if_pos c28] at H
               have c28b0 : decide (((rd_T47 l1 x7_1).f1) < ((rd_T47 l1 x17_1).f1)) = true := decide_eq_true c28
               clear c28
               have H' := Aside0.mk H
               clear H
               have p108 : 0 ≤ (x7_1 : Int) := of_decide_eq_true d81g
               have q108 : x7_1 < (l1.length : Int) := of_decide_eq_true d81g
               obtain ⟨ad108, e108, hx108_0, hx108_1, hx108_2⟩ := at_T47 HR1.out x7_1 p108 q108
               obtain rfl : ad101 = ad108 := (by injection e108)
               replace hx108_0 := cellB HB.out hx108_0
               replace hx108_1 := cellB HB.out hx108_1
               replace hx108_2 := cellB HB.out hx108_2
               replace p108 := eq_true p108
               replace q108 := eq_true q108
               go_wp2_with ((with_reducible refine gate_dst (N := 14) rfl ?_); refine box_event ?hg (N := 14) ?hd (cs := #[.string (⟨#[]⟩ : ByteArray), .int .i64 0, .int .i64 0]) (t := 47) ?hr ?_; (case hd => rfl); (case hg => rfl); (case hr => exact d81i); intro gb109 hg w29 hbox hb; have n0_ := Aside0.mk (blk_below (g := gb102) (o := .cells #[.string ((rd_T47 l1 x17_1).f0), .int .i64 ((rd_T47 l1 x17_1).f1), .int .i64 ((rd_T47 l1 x17_1).f2)] 47 (0, 0)) d81e hb); have n1_ := Aside0.mk (blk_below (g := gb107) (o := .cells #[.string t103, .int .i64 t104, .int .i64 t105] 76 (0, 0)) d81f hb); have n2_ := Aside0.mk (below_step d81b hb); have n3_ := Aside0.mk (hbox); have n4_ := Aside0.mk ((by rw [hg]; exact (below_size d81b) : w.heap.size ≤ gb109)); have n5_ := Aside0.mk ((by rw [hg]; exact (below_size d81b) : w.heap.size ≤ gb109)); have n6_ := Aside0.mk ((by rw [hg]; exact Nat.ne_of_lt (blk_lt (g := gb102) (o := .cells #[.string ((rd_T47 l1 x17_1).f0), .int .i64 ((rd_T47 l1 x17_1).f1), .int .i64 ((rd_T47 l1 x17_1).f2)] 47 (0, 0)) d81e) : gb102 ≠ gb109)); have n7_ := Aside0.mk ((by rw [hg]; exact Nat.ne_of_gt (blk_lt (g := gb102) (o := .cells #[.string ((rd_T47 l1 x17_1).f0), .int .i64 ((rd_T47 l1 x17_1).f1), .int .i64 ((rd_T47 l1 x17_1).f2)] 47 (0, 0)) d81e) : gb109 ≠ gb102)); have n8_ := Aside0.mk ((by rw [hg]; exact Nat.ne_of_lt (blk_lt (g := gb107) (o := .cells #[.string t103, .int .i64 t104, .int .i64 t105] 76 (0, 0)) d81f) : gb107 ≠ gb109)); have n9_ := Aside0.mk ((by rw [hg]; exact Nat.ne_of_gt (blk_lt (g := gb107) (o := .cells #[.string t103, .int .i64 t104, .int .i64 t105] 76 (0, 0)) d81f) : gb109 ≠ gb107)); clear BK102; clear BK107; clear HB; have BK102 := n0_; have BK107 := n1_; have HB := n2_; have BK109 := n3_; have GW109 := n4_; have GE109 := n5_; have NB102_109 := n6_; have NB109_102 := n7_; have NB107_109 := n8_; have NB109_107 := n9_; clear n0_ n1_ n2_ n3_ n4_ n5_ n6_ n7_ n8_ n9_; clear hb hbox hg; have hnb30 := NB109_102.out; have hnc30 := NB102_109.out; have hnb31 := NB109_107.out; have hnc31 := NB107_109.out; have hcz32_0 : w29.cell? ⟨gb109, 0, none⟩ = some (.string (⟨#[]⟩ : ByteArray)) := (blk_cell BK109.out 0).trans rfl; have hcz32_1 : w29.cell? ⟨gb109, 1, none⟩ = some (.int .i64 0) := (blk_cell BK109.out 1).trans rfl; have hcz32_2 : w29.cell? ⟨gb109, 2, none⟩ = some (.int .i64 0) := (blk_cell BK109.out 2).trans rfl; have hfz32_0 := blk_frozen BK109.out 0; have hfz32_1 := blk_frozen BK109.out 1; have hfz32_2 := blk_frozen BK109.out 2; have hnb33 := NB102_107.out; have hnc33 := NB107_102.out; have hcz34_0 : w29.cell? ⟨gb102, 0, none⟩ = some (.string ((rd_T47 l1 x17_1).f0)) := (blk_cell BK102.out 0).trans rfl; have hcz34_1 : w29.cell? ⟨gb102, 1, none⟩ = some (.int .i64 ((rd_T47 l1 x17_1).f1)) := (blk_cell BK102.out 1).trans rfl; have hcz34_2 : w29.cell? ⟨gb102, 2, none⟩ = some (.int .i64 ((rd_T47 l1 x17_1).f2)) := (blk_cell BK102.out 2).trans rfl; have hfz34_0 := blk_frozen BK102.out 0; have hfz34_1 := blk_frozen BK102.out 1; have hfz34_2 := blk_frozen BK102.out 2; have hcz35_0 : w29.cell? ⟨gb107, 0, none⟩ = some (.string t103) := (blk_cell BK107.out 0).trans rfl; have hcz35_1 : w29.cell? ⟨gb107, 1, none⟩ = some (.int .i64 t104) := (blk_cell BK107.out 1).trans rfl; have hcz35_2 : w29.cell? ⟨gb107, 2, none⟩ = some (.int .i64 t105) := (blk_cell BK107.out 2).trans rfl; have hfz35_0 := blk_frozen BK107.out 0; have hfz35_1 := blk_frozen BK107.out 1; have hfz35_2 := blk_frozen BK107.out 2)
               repeat (go_quiet (fail); try go_wp2_with (fail))
               go_roundg kj20
               case measure => have := HK1.out; have := HJ10.out; have := HJ20.out; omega
               case rel => exact ⟨(x17_1), (t105), (wrap64 (x17_1 + 1)), d81h, d81h, d81h, H', ⟨by have := HK1.out; have := HJ10.out; have := HJ20.out; omega⟩, ⟨d81a⟩⟩
             · rw [if_neg c28] at H
               have c28b0 : decide (((rd_T47 l1 x7_1).f1) < ((rd_T47 l1 x17_1).f1)) = false := decide_eq_false c28
               clear c28
               by_cases c36 : ((rd_T47 l1 x17_1).f1) = ((rd_T47 l1 x7_1).f1)
               · rw [if_pos c36] at H
                 have c36b0 : (((rd_T47 l1 x17_1).f1) == ((rd_T47 l1 x7_1).f1)) = true := beq_iff_eq.mpr c36
                 have c36b1 : (((rd_T47 l1 x17_1).f1) != ((rd_T47 l1 x7_1).f1)) = false := bne_eq_false_iff_eq.mpr c36
                 clear c36
                 by_cases c37 : (Op.bytesLess ((rd_T47 l1 x17_1).f0).toList (((rd_T47 l1 x7_1).f0).toList)) = true
                 · rw [if_pos c37] at H
                   have c37b0 : (Op.bytesLess ((rd_T47 l1 x17_1).f0).toList (((rd_T47 l1 x7_1).f0).toList)) = true := c37
                   clear c37
                   have H' := Aside0.mk H
                   clear H
                   have p108 : 0 ≤ (x7_1 : Int) := of_decide_eq_true d81g
                   have q108 : x7_1 < (l1.length : Int) := of_decide_eq_true d81g
                   obtain ⟨ad108, e108, hx108_0, hx108_1, hx108_2⟩ := at_T47 HR1.out x7_1 p108 q108
                   obtain rfl : ad101 = ad108 := (by injection e108)
                   replace hx108_0 := cellB HB.out hx108_0
                   replace hx108_1 := cellB HB.out hx108_1
                   replace hx108_2 := cellB HB.out hx108_2
                   replace p108 := eq_true p108
                   replace q108 := eq_true q108
                   go_wp2_with ((with_reducible refine gate_dst (N := 14) rfl ?_); refine box_event ?hg (N := 14) ?hd (cs := #[.string (⟨#[]⟩ : ByteArray), .int .i64 0, .int .i64 0]) (t := 47) ?hr ?_; (case hd => rfl); (case hg => rfl); (case hr => exact d81i); intro gb109 hg w38 hbox hb; have n0_ := Aside0.mk (blk_below (g := gb102) (o := .cells #[.string ((rd_T47 l1 x17_1).f0), .int .i64 ((rd_T47 l1 x17_1).f1), .int .i64 ((rd_T47 l1 x17_1).f2)] 47 (0, 0)) d81e hb); have n1_ := Aside0.mk (blk_below (g := gb107) (o := .cells #[.string t103, .int .i64 t104, .int .i64 t105] 76 (0, 0)) d81f hb); have n2_ := Aside0.mk (below_step d81b hb); have n3_ := Aside0.mk (hbox); have n4_ := Aside0.mk ((by rw [hg]; exact (below_size d81b) : w.heap.size ≤ gb109)); have n5_ := Aside0.mk ((by rw [hg]; exact (below_size d81b) : w.heap.size ≤ gb109)); have n6_ := Aside0.mk ((by rw [hg]; exact Nat.ne_of_lt (blk_lt (g := gb102) (o := .cells #[.string ((rd_T47 l1 x17_1).f0), .int .i64 ((rd_T47 l1 x17_1).f1), .int .i64 ((rd_T47 l1 x17_1).f2)] 47 (0, 0)) d81e) : gb102 ≠ gb109)); have n7_ := Aside0.mk ((by rw [hg]; exact Nat.ne_of_gt (blk_lt (g := gb102) (o := .cells #[.string ((rd_T47 l1 x17_1).f0), .int .i64 ((rd_T47 l1 x17_1).f1), .int .i64 ((rd_T47 l1 x17_1).f2)] 47 (0, 0)) d81e) : gb109 ≠ gb102)); have n8_ := Aside0.mk ((by rw [hg]; exact Nat.ne_of_lt (blk_lt (g := gb107) (o := .cells #[.string t103, .int .i64 t104, .int .i64 t105] 76 (0, 0)) d81f) : gb107 ≠ gb109)); have n9_ := Aside0.mk ((by rw [hg]; exact Nat.ne_of_gt (blk_lt (g := gb107) (o := .cells #[.string t103, .int .i64 t104, .int .i64 t105] 76 (0, 0)) d81f) : gb109 ≠ gb107)); clear BK102; clear BK107; clear HB; have BK102 := n0_; have BK107 := n1_; have HB := n2_; have BK109 := n3_; have GW109 := n4_; have GE109 := n5_; have NB102_109 := n6_; have NB109_102 := n7_; have NB107_109 := n8_; have NB109_107 := n9_; clear n0_ n1_ n2_ n3_ n4_ n5_ n6_ n7_ n8_ n9_; clear hb hbox hg; have hnb39 := NB109_102.out; have hnc39 := NB102_109.out; have hnb40 := NB109_107.out; have hnc40 := NB107_109.out; have hcz41_0 : w38.cell? ⟨gb109, 0, none⟩ = some (.string (⟨#[]⟩ : ByteArray)) := (blk_cell BK109.out 0).trans rfl; have hcz41_1 : w38.cell? ⟨gb109, 1, none⟩ = some (.int .i64 0) := (blk_cell BK109.out 1).trans rfl; have hcz41_2 : w38.cell? ⟨gb109, 2, none⟩ = some (.int .i64 0) := (blk_cell BK109.out 2).trans rfl; have hfz41_0 := blk_frozen BK109.out 0; have hfz41_1 := blk_frozen BK109.out 1; have hfz41_2 := blk_frozen BK109.out 2; have hnb42 := NB102_107.out; have hnc42 := NB107_102.out; have hcz43_0 : w38.cell? ⟨gb102, 0, none⟩ = some (.string ((rd_T47 l1 x17_1).f0)) := (blk_cell BK102.out 0).trans rfl; have hcz43_1 : w38.cell? ⟨gb102, 1, none⟩ = some (.int .i64 ((rd_T47 l1 x17_1).f1)) := (blk_cell BK102.out 1).trans rfl; have hcz43_2 : w38.cell? ⟨gb102, 2, none⟩ = some (.int .i64 ((rd_T47 l1 x17_1).f2)) := (blk_cell BK102.out 2).trans rfl; have hfz43_0 := blk_frozen BK102.out 0; have hfz43_1 := blk_frozen BK102.out 1; have hfz43_2 := blk_frozen BK102.out 2; have hcz44_0 : w38.cell? ⟨gb107, 0, none⟩ = some (.string t103) := (blk_cell BK107.out 0).trans rfl; have hcz44_1 : w38.cell? ⟨gb107, 1, none⟩ = some (.int .i64 t104) := (blk_cell BK107.out 1).trans rfl; have hcz44_2 : w38.cell? ⟨gb107, 2, none⟩ = some (.int .i64 t105) := (blk_cell BK107.out 2).trans rfl; have hfz44_0 := blk_frozen BK107.out 0; have hfz44_1 := blk_frozen BK107.out 1; have hfz44_2 := blk_frozen BK107.out 2)
                   repeat (go_quiet (fail); try go_wp2_with (fail))
                   go_roundg kj20
                   case measure => have := HK1.out; have := HJ10.out; have := HJ20.out; omega
                   case rel => exact ⟨(x17_1), (t105), (wrap64 (x17_1 + 1)), d81h, d81h, d81h, H', ⟨by have := HK1.out; have := HJ10.out; have := HJ20.out; omega⟩, ⟨d81a⟩⟩
                 · rw [if_neg c37] at H
                   have c37b0 : (Op.bytesLess ((rd_T47 l1 x17_1).f0).toList (((rd_T47 l1 x7_1).f0).toList)) = false := by simpa using c37
                   clear c37
                   have H' := Aside0.mk H
                   clear H
                   have p108 : 0 ≤ (x7_1 : Int) := of_decide_eq_true d81g
                   have q108 : x7_1 < (l1.length : Int) := of_decide_eq_true d81g
                   obtain ⟨ad108, e108, hx108_0, hx108_1, hx108_2⟩ := at_T47 HR1.out x7_1 p108 q108
                   obtain rfl : ad101 = ad108 := (by injection e108)
                   replace hx108_0 := cellB HB.out hx108_0
                   replace hx108_1 := cellB HB.out hx108_1
                   replace hx108_2 := cellB HB.out hx108_2
                   replace p108 := eq_true p108
                   replace q108 := eq_true q108
                   go_wp2_with ((with_reducible refine gate_dst (N := 14) rfl ?_); refine box_event ?hg (N := 14) ?hd (cs := #[.string (⟨#[]⟩ : ByteArray), .int .i64 0, .int .i64 0]) (t := 47) ?hr ?_; (case hd => rfl); (case hg => rfl); (case hr => exact d81i); intro gb109 hg w45 hbox hb; have n0_ := Aside0.mk (blk_below (g := gb102) (o := .cells #[.string ((rd_T47 l1 x17_1).f0), .int .i64 ((rd_T47 l1 x17_1).f1), .int .i64 ((rd_T47 l1 x17_1).f2)] 47 (0, 0)) d81e hb); have n1_ := Aside0.mk (blk_below (g := gb107) (o := .cells #[.string t103, .int .i64 t104, .int .i64 t105] 76 (0, 0)) d81f hb); have n2_ := Aside0.mk (below_step d81b hb); have n3_ := Aside0.mk (hbox); have n4_ := Aside0.mk ((by rw [hg]; exact (below_size d81b) : w.heap.size ≤ gb109)); have n5_ := Aside0.mk ((by rw [hg]; exact (below_size d81b) : w.heap.size ≤ gb109)); have n6_ := Aside0.mk ((by rw [hg]; exact Nat.ne_of_lt (blk_lt (g := gb102) (o := .cells #[.string ((rd_T47 l1 x17_1).f0), .int .i64 ((rd_T47 l1 x17_1).f1), .int .i64 ((rd_T47 l1 x17_1).f2)] 47 (0, 0)) d81e) : gb102 ≠ gb109)); have n7_ := Aside0.mk ((by rw [hg]; exact Nat.ne_of_gt (blk_lt (g := gb102) (o := .cells #[.string ((rd_T47 l1 x17_1).f0), .int .i64 ((rd_T47 l1 x17_1).f1), .int .i64 ((rd_T47 l1 x17_1).f2)] 47 (0, 0)) d81e) : gb109 ≠ gb102)); have n8_ := Aside0.mk ((by rw [hg]; exact Nat.ne_of_lt (blk_lt (g := gb107) (o := .cells #[.string t103, .int .i64 t104, .int .i64 t105] 76 (0, 0)) d81f) : gb107 ≠ gb109)); have n9_ := Aside0.mk ((by rw [hg]; exact Nat.ne_of_gt (blk_lt (g := gb107) (o := .cells #[.string t103, .int .i64 t104, .int .i64 t105] 76 (0, 0)) d81f) : gb109 ≠ gb107)); clear BK102; clear BK107; clear HB; have BK102 := n0_; have BK107 := n1_; have HB := n2_; have BK109 := n3_; have GW109 := n4_; have GE109 := n5_; have NB102_109 := n6_; have NB109_102 := n7_; have NB107_109 := n8_; have NB109_107 := n9_; clear n0_ n1_ n2_ n3_ n4_ n5_ n6_ n7_ n8_ n9_; clear hb hbox hg; have hnb46 := NB109_102.out; have hnc46 := NB102_109.out; have hnb47 := NB109_107.out; have hnc47 := NB107_109.out; have hcz48_0 : w45.cell? ⟨gb109, 0, none⟩ = some (.string (⟨#[]⟩ : ByteArray)) := (blk_cell BK109.out 0).trans rfl; have hcz48_1 : w45.cell? ⟨gb109, 1, none⟩ = some (.int .i64 0) := (blk_cell BK109.out 1).trans rfl; have hcz48_2 : w45.cell? ⟨gb109, 2, none⟩ = some (.int .i64 0) := (blk_cell BK109.out 2).trans rfl; have hfz48_0 := blk_frozen BK109.out 0; have hfz48_1 := blk_frozen BK109.out 1; have hfz48_2 := blk_frozen BK109.out 2; have hnb49 := NB102_107.out; have hnc49 := NB107_102.out; have hcz50_0 : w45.cell? ⟨gb102, 0, none⟩ = some (.string ((rd_T47 l1 x17_1).f0)) := (blk_cell BK102.out 0).trans rfl; have hcz50_1 : w45.cell? ⟨gb102, 1, none⟩ = some (.int .i64 ((rd_T47 l1 x17_1).f1)) := (blk_cell BK102.out 1).trans rfl; have hcz50_2 : w45.cell? ⟨gb102, 2, none⟩ = some (.int .i64 ((rd_T47 l1 x17_1).f2)) := (blk_cell BK102.out 2).trans rfl; have hfz50_0 := blk_frozen BK102.out 0; have hfz50_1 := blk_frozen BK102.out 1; have hfz50_2 := blk_frozen BK102.out 2)
                   go_roundg kj20
                   case measure => have := HK1.out; have := HJ10.out; have := HJ20.out; omega
                   case rel => exact ⟨(x7_1), (x8_1), (wrap64 (x17_1 + 1)), d81h, d81h, d81h, H', ⟨by have := HK1.out; have := HJ10.out; have := HJ20.out; omega⟩, ⟨d81a⟩⟩
               · rw [if_neg c36] at H
                 have c36b0 : (((rd_T47 l1 x17_1).f1) == ((rd_T47 l1 x7_1).f1)) = false := beq_eq_false_iff_ne.mpr c36
                 have c36b1 : (((rd_T47 l1 x17_1).f1) != ((rd_T47 l1 x7_1).f1)) = true := bne_iff_ne.mpr c36
                 have H' := Aside0.mk H
                 clear H
                 have p108 : 0 ≤ (x7_1 : Int) := of_decide_eq_true d81g
                 have q108 : x7_1 < (l1.length : Int) := of_decide_eq_true d81g
                 obtain ⟨ad108, e108, hx108_0, hx108_1, hx108_2⟩ := at_T47 HR1.out x7_1 p108 q108
                 obtain rfl : ad101 = ad108 := (by injection e108)
                 replace hx108_0 := cellB HB.out hx108_0
                 replace hx108_1 := cellB HB.out hx108_1
                 replace hx108_2 := cellB HB.out hx108_2
                 replace p108 := eq_true p108
                 replace q108 := eq_true q108
                 go_wp2_with ((with_reducible refine gate_dst (N := 14) rfl ?_); refine box_event ?hg (N := 14) ?hd (cs := #[.string (⟨#[]⟩ : ByteArray), .int .i64 0, .int .i64 0]) (t := 47) ?hr ?_; (case hd => rfl); (case hg => rfl); (case hr => exact d81i); intro gb109 hg w51 hbox hb; have n0_ := Aside0.mk (blk_below (g := gb102) (o := .cells #[.string ((rd_T47 l1 x17_1).f0), .int .i64 ((rd_T47 l1 x17_1).f1), .int .i64 ((rd_T47 l1 x17_1).f2)] 47 (0, 0)) d81e hb); have n1_ := Aside0.mk (blk_below (g := gb107) (o := .cells #[.string t103, .int .i64 t104, .int .i64 t105] 76 (0, 0)) d81f hb); have n2_ := Aside0.mk (below_step d81b hb); have n3_ := Aside0.mk (hbox); have n4_ := Aside0.mk ((by rw [hg]; exact (below_size d81b) : w.heap.size ≤ gb109)); have n5_ := Aside0.mk ((by rw [hg]; exact (below_size d81b) : w.heap.size ≤ gb109)); have n6_ := Aside0.mk ((by rw [hg]; exact Nat.ne_of_lt (blk_lt (g := gb102) (o := .cells #[.string ((rd_T47 l1 x17_1).f0), .int .i64 ((rd_T47 l1 x17_1).f1), .int .i64 ((rd_T47 l1 x17_1).f2)] 47 (0, 0)) d81e) : gb102 ≠ gb109)); have n7_ := Aside0.mk ((by rw [hg]; exact Nat.ne_of_gt (blk_lt (g := gb102) (o := .cells #[.string ((rd_T47 l1 x17_1).f0), .int .i64 ((rd_T47 l1 x17_1).f1), .int .i64 ((rd_T47 l1 x17_1).f2)] 47 (0, 0)) d81e) : gb109 ≠ gb102)); have n8_ := Aside0.mk ((by rw [hg]; exact Nat.ne_of_lt (blk_lt (g := gb107) (o := .cells #[.string t103, .int .i64 t104, .int .i64 t105] 76 (0, 0)) d81f) : gb107 ≠ gb109)); have n9_ := Aside0.mk ((by rw [hg]; exact Nat.ne_of_gt (blk_lt (g := gb107) (o := .cells #[.string t103, .int .i64 t104, .int .i64 t105] 76 (0, 0)) d81f) : gb109 ≠ gb107)); clear BK102; clear BK107; clear HB; have BK102 := n0_; have BK107 := n1_; have HB := n2_; have BK109 := n3_; have GW109 := n4_; have GE109 := n5_; have NB102_109 := n6_; have NB109_102 := n7_; have NB107_109 := n8_; have NB109_107 := n9_; clear n0_ n1_ n2_ n3_ n4_ n5_ n6_ n7_ n8_ n9_; clear hb hbox hg; have hnb52 := NB109_102.out; have hnc52 := NB102_109.out; have hnb53 := NB109_107.out; have hnc53 := NB107_109.out; have hcz54_0 : w51.cell? ⟨gb109, 0, none⟩ = some (.string (⟨#[]⟩ : ByteArray)) := (blk_cell BK109.out 0).trans rfl; have hcz54_1 : w51.cell? ⟨gb109, 1, none⟩ = some (.int .i64 0) := (blk_cell BK109.out 1).trans rfl; have hcz54_2 : w51.cell? ⟨gb109, 2, none⟩ = some (.int .i64 0) := (blk_cell BK109.out 2).trans rfl; have hfz54_0 := blk_frozen BK109.out 0; have hfz54_1 := blk_frozen BK109.out 1; have hfz54_2 := blk_frozen BK109.out 2; have hnb55 := NB102_107.out; have hnc55 := NB107_102.out; have hcz56_0 : w51.cell? ⟨gb102, 0, none⟩ = some (.string ((rd_T47 l1 x17_1).f0)) := (blk_cell BK102.out 0).trans rfl; have hcz56_1 : w51.cell? ⟨gb102, 1, none⟩ = some (.int .i64 ((rd_T47 l1 x17_1).f1)) := (blk_cell BK102.out 1).trans rfl; have hcz56_2 : w51.cell? ⟨gb102, 2, none⟩ = some (.int .i64 ((rd_T47 l1 x17_1).f2)) := (blk_cell BK102.out 2).trans rfl; have hfz56_0 := blk_frozen BK102.out 0; have hfz56_1 := blk_frozen BK102.out 1; have hfz56_2 := blk_frozen BK102.out 2)
                 go_roundg kj20
                 case measure => have := HK1.out; have := HJ10.out; have := HJ20.out; omega
                 case rel => exact ⟨(x7_1), (x8_1), (wrap64 (x17_1 + 1)), d81h, d81h, d81h, H', ⟨by have := HK1.out; have := HJ10.out; have := HJ20.out; omega⟩, ⟨d81a⟩⟩
           · replace c25 := Bool.eq_false_iff.mpr c25
             subst c25
             replace H := iteF H
             by_cases c57 : x13_10 = true
             · subst c57
               replace H := iteT H
               have H' := Aside0.mk H
               clear H
               have hnb58 := NB107_102.out
               have hnc58 := NB102_107.out
               obtain ⟨hcz59_0, hcz59_1, hcz59_2⟩ := blkC3 BK107.out
               have hfz59_0 := blk_frozen BK107.out 0
               have hfz59_1 := blk_frozen BK107.out 1
               have hfz59_2 := blk_frozen BK107.out 2
               go_wp2
               repeat (go_quiet (fail); try go_wp2)
               go_roundg kj20
               case measure => have := HK1.out; have := HJ10.out; have := HJ20.out; omega
               case rel => exact ⟨(x17_1), (t105), (wrap64 (x17_1 + 1)), d81h, d81h, d81h, H', ⟨by have := HK1.out; have := HJ10.out; have := HJ20.out; omega⟩, ⟨d81b⟩⟩
             · replace c57 := Bool.eq_false_iff.mpr c57
               subst c57
               replace H := iteF H
               have H' := Aside0.mk H
               clear H
               go_wp2
               go_roundg kj20
               case measure => have := HK1.out; have := HJ10.out; have := HJ20.out; omega
               case rel => exact ⟨(x7_1), (x8_1), (wrap64 (x17_1 + 1)), d81h, d81h, d81h, H', ⟨by have := HK1.out; have := HJ10.out; have := HJ20.out; omega⟩, ⟨d81b⟩⟩
   · rw [if_neg c4] at H
     have c4b0 : decide (x17_1 < (l1.length : Int)) = false := decide_eq_false c4
     clear c4
     obtain rfl := Option.some.inj H
     go_wp2
     go_ret
     exact ⟨by first | rfl | (simp [errW_none, errW_some] <;> rfl) | (simp [*, errW_none, errW_some] <;> rfl), d81d⟩
def api_Use_82.f (l0 : List S47) (a1 : Int) (a2 : Int) : Option (List S47) := if 0 ≤ a1 ∧ a2 = a1 + 1 ∧ a1 < l0.length then some (l0.eraseIdx a1.toNat) else none
theorem api_Use_82.zero : ∀ w : World, (zeroValue 47).run Try.prog w = .ok (.agg #[.string ByteArray.empty, .int .i64 0, .int .i64 0]) w := fun w => by kernel_rfl
theorem api_Use_82.info : (Try.prog.info? 47).map (·.size) = some 3 := by kernel_rfl
/-- 'clear' of the one element behind a row's last. -/
theorem api_Use_82.cleared {w0 W : World} {g n c : Nat} {base : Nat} {ok : Nat → Prop} {xs : List S47} (ty : TypeId) (HO : Kd.R k47 47 W base ok (.slice (some ⟨g, 0, none⟩) n c) xs) (hn : n < c) (c' m : Nat) (hm1 : m = 1) (HB : Below base w0 W) (hbase : base ≤ W.heap.size) :
    ∃ w1, (Builtin.clear_ #[26] ty #[.slice (some ⟨g, n * 3, none⟩) m c']).run Try.prog W = .ok (.tuple #[]) w1 ∧ Kd.R k47 47 w1 base ok (.slice (some ⟨g, 0, none⟩) n c) xs ∧ Below base w0 w1 ∧ W.grownBy w1 (some g) := by
  subst hm1
  obtain ⟨hok, inner, hown, hr⟩ := HO
  have hown0 := hown
  rcases hown.2 with ⟨hv, _⟩ | ⟨g', cap, cur, hv, hb, hh, hnc, hcm, hcs, htake⟩
  · cases hv
  · injection hv with h1 h2 h3
    injection h1 with h1
    injection h1 with h1 _ _
    subst h1
    subst h3
    subst h2
    have hcs' : cur.size = c * 3 := hcs
    have htk : cur.toList.take (xs.length * 3) = inner := htake
    have hst := run_storeCells_cells (P := Try.prog) g (xs.length * 3) [Value.string ByteArray.empty, .int .i64 0, .int .i64 0] 0 W (fun j hj => by rw [cell_of_row W g _ cur _ (0, 0) hh]; simp at hj ⊢; omega) (fun j _ => blk_frozen hh _) (by intro v hv; simp at hv; rcases hv with rfl | rfl | rfl <;> rfl)
    simp only [Nat.add_zero] at hst
    have hfit : xs.length * 3 + [Value.string ByteArray.empty, .int .i64 0, .int .i64 0].length ≤ cur.size := by simp; omega
    obtain ⟨cur', h3, h4, h5⟩ := setCells_row [Value.string ByteArray.empty, .int .i64 0, .int .i64 0] (xs.length * 3) W cur hh hfit
    obtain ⟨s1, s2, s3, s4⟩ := setCells_same g [Value.string ByteArray.empty, .int .i64 0, .int .i64 0] (xs.length * 3) W
    have hfar : ∀ k', k' ≠ g → (W.setCells g (xs.length * 3) [Value.string ByteArray.empty, .int .i64 0, .int .i64 0]).heap[k']? = W.heap[k']? := fun k' hk' => setCells_far _ _ k' hk'
    have hg : W.grownBy (W.setCells g (xs.length * 3) [Value.string ByteArray.empty, .int .i64 0, .int .i64 0]) (some g) := ⟨s1, s2, s3, by rw [s4]; exact Nat.le_refl _, fun k' _ hk' => hfar k' (fun he => hk' (by rw [he]))⟩
    have hgo : (Value.slice (some ⟨g, 0, none⟩) xs.length c).ownBlock = some g := rfl
    refine ⟨_, ?_, ⟨hok, inner, ⟨hown.1, .inr ⟨g, c, cur', rfl, hb, h3, hnc, hcm, by rw [h4]; exact hcs, ?_⟩⟩, ?_⟩, HB.grown hg hbase (fun k hk => by injection hk with hk; subst hk; exact hb), hg⟩
    · simp [Builtin.clear_, run_underlying Try.underlying26, api_Use_82.zero, Builtin.zeroCells, Value.cells]
      exact (congrArg (fun z => Result.andThen z _) hst).trans rfl
    · show cur'.toList.take (xs.length * 3) = inner
      rw [h5, List.append_assoc, List.take_append_of_le_length (by rw [List.length_take]; simp; omega), List.take_take, Nat.min_self, htk]
    · exact hr.imp_ fun p q hp => k47.M_move (fun k' hk' => hfar k' (fun he => hk'.2 (by rw [hgo, he]))) hp
set_option maxHeartbeats 8000000 in
set_option maxRecDepth 100000 in
theorem api_Use_82.calls (P0_ : Nat → Prop) (u9000_ : Value) (l0 : List S47) (a1 : Int) (a2 : Int) (r : List S47) (w0 w : World) (hB : Below w0.heap.size w0 w) (ho0 : Kd.R k47 47 w w0.heap.size P0_ u9000_ l0) (h : api_Use_82.f l0 a1 a2 = some r) :
 Calls Try.prog 82 #[u9000_, .int .i64 a1, .int .i64 a2] w fun e w' => ∃ v0_ : Value, e = .returned (v0_) ∧ Kd.R k47 47 w' w0.heap.size (fun k_ => (P0_ k_ ∨ w.heap.size ≤ k_)) v0_ r ∧ Below w0.heap.size w0 w' ∧ Kept w w' (fun k_ => P0_ k_) := by
 unfold api_Use_82.f at h
 split at h
 · rename_i hl
   obtain ⟨h1, rfl, h3⟩ := hl
   obtain rfl := Option.some.inj h
   obtain ⟨k, rfl⟩ : ∃ k : Nat, a1 = k := ⟨a1.toNat, by omega⟩
   have hkn : k < l0.length := by omega
   obtain ⟨g, cap, rfl, hgc⟩ := Kd.R_form ho0 (by omega)
   have hp : P0_ g := ho0.1 g rfl
   have hcap : l0.length ≤ cap ∧ cap ≤ maxLen := by
    obtain ⟨_, inner, hown, _⟩ := ho0
    rcases hown.2 with ⟨hv, _⟩ | ⟨g', cap', cur, hv, hb, hh, hnc, hcm, _⟩
    · cases hv
    · injection hv with _ _ e
      subst e
      exact ⟨hnc, hcm⟩
   unfold maxLen at hcap
   rw [Int.toNat_natCast]
   have HO := Aside0.mk ho0
   have HB := Aside0.mk hB
   have HK := Aside0.mk hkn
   have e0 : ((k : Int) == (k : Int) + 1) = false := beq_eq_false_iff_ne.2 (by omega)
   have e1 : ((k : Int) + 1).toNat = k + 1 := by omega
   have E1 := Aside0.mk e1
   clear e1
   have f1 : k ≤ cap := by omega
   have f2 : (k : Int) ≤ (k : Int) + 1 := by omega
   have f3 : k + 1 ≤ l0.length := by omega
   have f4 : (k : Int) + 1 ≤ (l0.length : Int) := by omega
   have f5 : (0 : Int) ≤ (k : Int) + 1 := by omega
   have f6 : ((k : Int) + 1).toNat = k + 1 := by omega
   have f7 : ((k : Int) + 1 == 0) = false := beq_eq_false_iff_ne.2 (by omega)
   by_cases hck : cap = k + 1
   · subst hck
     have hlk : l0.length = k + 1 := by omega
     go_enter Try.func82, Try.ntmps82
     go_wp2
     go_still_tail 6, (by kernel_rfl)
     change wpList _ _ _ _ _ w.drew
     have HO2 := Aside0.mk (Kd.R_drew HO.out)
     have HB2 := Aside0.mk (below_drew HB.out)
     go_wp2_with ((at_builtin; refine Kd.R_delete k47 (w0 := w0) w0.heap.size rfl (.tmp 22) (.tmp 25) 26 47 rfl Try.underlying26 api_Use_82.info (g := g) (n := l0.length) (c := k + 1) (k := k) rfl rfl ?hA1 ?hm1 HO2.out HK.out HB2.out HB2.out.size ?_; (case hA1 => first | rfl | (go_simp; done) | (simp; done) | (simp; omega)); (case hm1 => omega); intro w1 ho1 hb1 hg1; rw [show l0.length - 1 = k by omega] at ho1; obtain ⟨w2, hr2, ho2, hb2, hg2⟩ := api_Use_82.cleared 0 ho1 (show k < k + 1 by omega) 1 1 rfl hb1 hb1.size; have HO3 := Aside0.mk ho2; have HB3 := Aside0.mk hb2; have HG3 := Aside0.mk (hg1.trans hg2); clear ho2 hb2 hg2 ho1 hb1 hg1))
     go_ret
     refine ⟨_, rfl, Kd.R_mono HO3.out (fun _ q => .inl q), HB3.out, ?_⟩
     exact ⟨HG3.out.size, fun i hi hn => HG3.out.block i hi (fun e => hn ((show g = i from by simpa using e.symm) ▸ hp))⟩
   · go_enter Try.func82, Try.ntmps82
     go_wp2
     go_still_tail 6, (by kernel_rfl)
     change wpList _ _ _ _ _ w.drew
     have HO2 := Aside0.mk (Kd.R_drew HO.out)
     have HB2 := Aside0.mk (below_drew HB.out)
     go_wp2_with ((at_builtin; go_loud (refine Kd.R_delete k47 (w0 := w0) w0.heap.size rfl (.tmp 22) (.tmp 25) 26 47 rfl Try.underlying26 api_Use_82.info (g := g) (n := l0.length) (c := cap) (k := k) rfl rfl ?hA2 ?hm2 HO2.out HK.out HB2.out HB2.out.size ?_; (case hA2 => first | (rw [if_neg hck, Option.map_some, add_at, Nat.zero_add]; rfl) | (rw [if_neg hck]; simp [Addr.add]; done) | rfl | (go_simp; done) | (simp; done) | (simp; omega)); (case hm2 => omega); intro w1 ho1 hb1 hg1; obtain ⟨w2, hr2, ho2, hb2, hg2⟩ := api_Use_82.cleared 0 ho1 (show l0.length - 1 < cap by omega) (cap - (l0.length - 1)) (l0.length - (l0.length - 1)) (by omega) hb1 hb1.size; have HO3 := Aside0.mk ho2; have HB3 := Aside0.mk hb2; have HG3 := Aside0.mk (hg1.trans hg2); clear ho2 hb2 hg2 ho1 hb1 hg1)))
     go_ret
     refine ⟨_, rfl, Kd.R_mono HO3.out (fun _ q => .inl q), HB3.out, ?_⟩
     exact ⟨HG3.out.size, fun i hi hn => HG3.out.block i hi (fun e => hn ((show g = i from by simpa using e.symm) ▸ hp))⟩
 · cases h
def power_Shed.l0 : Nat → List (S72) → List (S76) → List (S47) → Int → Int → Int → Int → Int → Int → Option ((List (S47)) × Int)
  | 0, _, _, _, _, _, _, _, _, _ => none
  | k + 1, x1, x2, x3, x4, x102000, x102001, x102002, x102003, x102004 => (power_empty.f k x102000 x102001 x102002 x102003 x102004 x1 x2 x3 x4).bind fun t106 => (if t106 < 0 then (some (x3, 0)) else ((power_shed.f k x2 x3 t106).bind fun t107 => (if t107 < 0 then (some (x3, 0)) else ((api_Use_82.f x3 t107 (wrap64 (t107 + 1))).bind fun t108 => (power_Shed.l0 k x1 x2 t108 x4 x102000 x102001 x102002 x102003 x102004)))))
def power_Shed.f (k : Nat) (a0_0 : Int) (a0_1 : Int) (a0_2 : Int) (a0_3 : Int) (a0_4 : Int) (l1 : List (S72)) (l2 : List (S76)) (l3 : List (S47)) (a4 : Int) : Option ((List (S47)) × Int) := (power_check.f k a0_0 a0_1 a0_2 a0_3 a0_4 l1 l2 l3 a4).bind fun t102 => (if t102 = 0 then ((api_Use_80.f l3).bind fun t103 => (power_Shed.l0 k l1 l2 t103 a4 a0_0 a0_1 a0_2 a0_3 a0_4)) else (some (([] : List (S47)), t102)))
theorem d46a {p : Prop} (h : p := by repeat (first | (with_reducible first | exact HB.out | apply below_alloc | apply pw_below_drewN | apply below_drew1 | refine below_set ?_ GE101.out) | exact HB.out)) : p := h
theorem d46b {p : Prop} (h : p := by (try simp only [List.map_toArray, List.map_cons, List.map_nil]); first | done | rfl | (simp only [List.length_drop, List.length_take]; rfl)) : p := h
theorem d46c {p : Prop} (h : p := by repeat (first | (with_reducible first | exact HB.out | apply below_alloc | apply pw_below_drewN | apply below_drew1) | exact HB.out)) : p := h
theorem d46d {p : Prop} (h : p := by (with_reducible repeat (first | refine blk_drewN ?_ _ | refine blk_drew ?_ | refine blk_alloc ?_ _)); exact BK101.out) : p := h
theorem d46e {p : Prop} (h : p := by (with_reducible repeat (first | apply Kd.R_alloc | apply Kd.R_drewN | apply Kd.R_drew)); exact HO_3.out) : p := h
theorem d46f {p : Prop} (h : p := by first | rfl | (simp [errW_none, errW_some] <;> rfl) | (simp [*, errW_none, errW_some] <;> rfl)) : p := h
theorem d46g {p : Prop} (h : p := by exact C_go (Kd.C_below HR1.out HB.out)) : p := h
theorem d46h {p : Prop} (h : p := by exact C_go (Kd.C_below HR2.out HB.out)) : p := h
theorem d46i {p : Prop} (h : p := by exact C_go (Kd.R_reads' HO_3.out).2.2) : p := h
theorem d46j {p : Prop} (h : p := by exact (Kd.R_reads' HO_3.out).2.1) : p := h
set_option maxHeartbeats 8000000 in
set_option maxRecDepth 100000 in
theorem power_Shed.calls (k : Nat) (a0_0 : Int) (a0_1 : Int) (a0_2 : Int) (a0_3 : Int) (a0_4 : Int) (A1 : Option Addr) (c1 : Nat) (l1 : List (S72)) (A2 : Option Addr) (c2 : Nat) (l2 : List (S76)) (A3 : Option Addr) (c3 : Nat) (l3 : List (S47)) (a4 : Int) (r1 : List (S47)) (r2 : Int) (w : World) (hr1 : Kd.C k72 w A1 l1.length l1) (hc1 : l1.length ≤ c1) (hr2 : Kd.C k76 w A2 l2.length l2) (hc2 : l2.length ≤ c2) (hr3 : Kd.C k47 w A3 l3.length l3) (hc3 : l3.length ≤ c3) (h : power_Shed.f k a0_0 a0_1 a0_2 a0_3 a0_4 l1 l2 l3 a4 = some (r1, r2)) :
 Calls Try.prog 46 #[.agg #[.int .i64 a0_0, .int .i64 a0_1, .int .i64 a0_2, .int .i64 a0_3, .int .i64 a0_4], .slice A1 l1.length c1, .slice A2 l2.length c2, .slice A3 l3.length c3, .int .i64 a4] w fun e w' => ∃ v0_ : Value, e = .returned (.tuple #[v0_, .int .i64 r2]) ∧ Kd.R k47 47 w' w.heap.size (fun _ => True) v0_ r1 ∧ Below w.heap.size w w' := by
 have hu23 := Try.underlying23
 have HR1 := Aside0.mk hr1
 have HC1 := Aside0.mk hc1
 clear hr1 hc1
 have HR2 := Aside0.mk hr2
 have HC2 := Aside0.mk hc2
 clear hr2 hc2
 have HR3 := Aside0.mk hr3
 have HC3 := Aside0.mk hc3
 clear hr3 hc3
 have HB := Aside0.mk (Below.refl w.heap.size w)
 have H : ((power_check.f k a0_0 a0_1 a0_2 a0_3 a0_4 l1 l2 l3 a4).bind fun t102 => (if t102 = 0 then ((api_Use_80.f l3).bind fun t103 => (power_Shed.l0 k l1 l2 t103 a4 a0_0 a0_1 a0_2 a0_3 a0_4)) else (some (([] : List (S47)), t102)))) = some (r1, r2) := h
 clear h
 replace H := bindS H; obtain ⟨t102, A6, H⟩ := H
 by_cases c7 : t102 = 0
 · rw [if_pos c7] at H
   have c7b0 : (t102 == 0) = true := beq_iff_eq.mpr c7
   have c7b1 : (t102 != 0) = false := bne_eq_false_iff_eq.mpr c7
   clear c7
   replace H := bindS H; obtain ⟨t103, A8, H⟩ := H
   have H' := Aside0.mk H
   clear H
   go_enter Try.func46, Try.ntmps46
   go_wp2_with (first | ((with_reducible refine gate_dst (N := 5) rfl ?_); refine box_event ?hg (N := 5) ?hd (cs := #[.int .i64 a0_0, .int .i64 a0_1, .int .i64 a0_2, .int .i64 a0_3, .int .i64 a0_4]) (t := 23) ?hr ?_; (case hd => rfl); (case hg => rfl); (case hr => first | (go_simp; done) | (go_simp; rfl)); intro gb101 hg w9 hbox hb; have n0_ := Aside0.mk (below_step d46c hb); have n1_ := Aside0.mk (hbox); have n2_ := Aside0.mk ((by rw [hg]; exact (below_size d46c) : w.heap.size ≤ gb101)); have n3_ := Aside0.mk ((by rw [hg]; exact (below_size d46c) : w.heap.size ≤ gb101)); clear HB; have HB := n0_; have BK101 := n1_; have GW101 := n2_; have GE101 := n3_; clear n0_ n1_ n2_ n3_; clear hb hbox hg; have hcz10_0 : w9.cell? ⟨gb101, 0, none⟩ = some (.int .i64 a0_0) := (blk_cell BK101.out 0).trans rfl; have hcz10_1 : w9.cell? ⟨gb101, 1, none⟩ = some (.int .i64 a0_1) := (blk_cell BK101.out 1).trans rfl; have hcz10_2 : w9.cell? ⟨gb101, 2, none⟩ = some (.int .i64 a0_2) := (blk_cell BK101.out 2).trans rfl; have hcz10_3 : w9.cell? ⟨gb101, 3, none⟩ = some (.int .i64 a0_3) := (blk_cell BK101.out 3).trans rfl; have hcz10_4 : w9.cell? ⟨gb101, 4, none⟩ = some (.int .i64 a0_4) := (blk_cell BK101.out 4).trans rfl; have hfz10_0 := blk_frozen BK101.out 0; have hfz10_1 := blk_frozen BK101.out 1; have hfz10_2 := blk_frozen BK101.out 2; have hfz10_3 := blk_frozen BK101.out 3; have hfz10_4 := blk_frozen BK101.out 4) | ((with_reducible refine gate_callee (f := 66) rfl ?_); refine goesL_ (some 20) rfl rfl Try.func66 (by kernel_rfl) rfl #[.agg #[.int .i64 a0_0, .int .i64 a0_1, .int .i64 a0_2, .int .i64 a0_3, .int .i64 a0_4], .slice A1 l1.length c1, .slice A2 l2.length c2, .slice A3 l3.length c3, .int .i64 a4] rfl d46b ?_; (with_reducible refine (power_check.calls k a0_0 a0_1 a0_2 a0_3 a0_4 _ _ l1 _ _ l2 _ _ l3 a4 t102 _ ?side1 ?side2 ?side3 ?side4 ?side5 ?side6 A6.out).mono ?_); (case side1 => exact d46g); (case side2 => exact HC1.out); (case side3 => exact d46h); (case side4 => exact HC2.out); (case side5 => exact C_go (Kd.C_below HR3.out HB.out)); (case side6 => exact HC3.out); rintro e w11 ⟨rfl, hb⟩; refine ⟨_, rfl, ?_⟩; have n0_ := Aside0.mk (blk_below (g := gb101) (o := .cells #[.int .i64 a0_0, .int .i64 a0_1, .int .i64 a0_2, .int .i64 a0_3, .int .i64 a0_4] 23 (0, 0)) d46d hb); have n1_ := Aside0.mk (below_step d46a hb); clear BK101; clear HB; have BK101 := n0_; have HB := n1_; clear n0_ n1_; (try clear hb)) | ((with_reducible refine gate_callee (f := 80) rfl ?_); refine goesL_ (some 25) rfl rfl Try.func80 (by kernel_rfl) rfl #[.slice A3 l3.length c3] rfl d46b ?_; (with_reducible refine (api_Use_80.calls _ _ l3 t103 _ ?side1 ?side2 A8.out).mono ?_); (case side1 => exact C_go (Kd.C_below HR3.out HB.out)); (case side2 => exact HC3.out); rintro e w12 ⟨v104, rfl, ho0, hb⟩; refine ⟨_, rfl, ?_⟩; have n0_ := Aside0.mk (Kd.R_lower ho0 (below_size d46a)); have n1_ := Aside0.mk (blk_below (g := gb101) (o := .cells #[.int .i64 a0_0, .int .i64 a0_1, .int .i64 a0_2, .int .i64 a0_3, .int .i64 a0_4] 23 (0, 0)) d46d hb); have n2_ := Aside0.mk (below_step d46a hb); clear BK101; clear HB; have HO105 := n0_; have BK101 := n1_; have HB := n2_; clear n0_ n1_ n2_; (try clear hb); (try clear ho0)))
   go_loopg [3] k (fun kq v3 w' => ∃ (x3_1 : List (S47)), Aside0 (power_Shed.l0 kq l1 l2 x3_1 a4 a0_0 a0_1 a0_2 a0_3 a0_4 = some (r1, r2)) ∧ Aside0 (kq ≤ k) ∧ Aside0 (Kd.R k47 47 w' w.heap.size (fun _ => True) v3 x3_1) ∧ Aside0 (w'.heap[gb101]? = some (.cells #[.int .i64 a0_0, .int .i64 a0_1, .int .i64 a0_2, .int .i64 a0_3, .int .i64 a0_4] 23 (0, 0))) ∧ Aside0 (Below w.heap.size w w'))
   case atStart => exact ⟨(t103), H', ⟨Nat.le_refl _⟩, ⟨by (with_reducible repeat (first | apply Kd.R_alloc | apply Kd.R_drewN | apply Kd.R_drew)); exact HO105.out⟩, ⟨d46d⟩, ⟨d46a⟩⟩
   case round =>
    clear H'
    try clear c7b0
    try clear c7b1
    try clear hcz10_0
    try clear hcz10_1
    try clear hcz10_2
    try clear hcz10_3
    try clear hcz10_4
    try clear hfz10_0
    try clear hfz10_1
    try clear hfz10_2
    try clear hfz10_3
    try clear hfz10_4
    obtain ⟨x3_1, HA, HK1, HO_3, BK101, HB⟩ := hrel
    cases gk with
    | zero => exact absurd HA.out (by simp [power_Shed.l0])
    | succ k1 =>
     have H := HA.out
     clear HA
     simp only [power_Shed.l0] at H
     replace H := bindS H; obtain ⟨t106, A13, H⟩ := H
     by_cases c14 : t106 < 0
     · rw [if_pos c14] at H
       have c14b0 : decide (t106 < 0) = true := decide_eq_true c14
       clear c14
       simp only [Option.some.injEq, Prod.mk.injEq] at H
       obtain ⟨rfl, rfl⟩ := H
       obtain ⟨hcz15_0, hcz15_1, hcz15_2, hcz15_3, hcz15_4⟩ := blkC5 BK101.out
       have hfz15_0 := blk_frozen BK101.out 0
       have hfz15_1 := blk_frozen BK101.out 1
       have hfz15_2 := blk_frozen BK101.out 2
       have hfz15_3 := blk_frozen BK101.out 3
       have hfz15_4 := blk_frozen BK101.out 4
       obtain ⟨Ao16, co16, eo16⟩ := Kd.R_slice HO_3.out
       subst eo16
       go_wp2_with ((with_reducible refine gate_callee (f := 73) rfl ?_); refine goesL_ (some 31) rfl rfl Try.func73 (by kernel_rfl) rfl #[.agg #[.int .i64 a0_0, .int .i64 a0_1, .int .i64 a0_2, .int .i64 a0_3, .int .i64 a0_4], .slice A1 l1.length c1, .slice A2 l2.length c2, .slice Ao16 x3_1.length co16, .int .i64 a4] rfl d46b ?_; (with_reducible refine (power_empty.calls k1 a0_0 a0_1 a0_2 a0_3 a0_4 _ _ l1 _ _ l2 _ _ x3_1 a4 t106 _ ?side1 ?side2 ?side3 ?side4 ?side5 ?side6 A13.out).mono ?_); (case side1 => exact d46g); (case side2 => exact HC1.out); (case side3 => exact d46h); (case side4 => exact HC2.out); (case side5 => exact d46i); (case side6 => exact d46j); rintro e w17 ⟨rfl, hb⟩; refine ⟨_, rfl, ?_⟩; have n0_ := Aside0.mk (Kd.R_below d46e hb); have n1_ := Aside0.mk (blk_below (g := gb101) (o := .cells #[.int .i64 a0_0, .int .i64 a0_1, .int .i64 a0_2, .int .i64 a0_3, .int .i64 a0_4] 23 (0, 0)) d46d hb); have n2_ := Aside0.mk (below_step d46a hb); clear HO_3; clear BK101; clear HB; have HO_3 := n0_; have BK101 := n1_; have HB := n2_; clear n0_ n1_ n2_; (try clear hb))
       go_ret2
       exact ⟨_, d46f, d46e, d46a⟩
     · rw [if_neg c14] at H
       have c14b0 : decide (t106 < 0) = false := decide_eq_false c14
       clear c14
       replace H := bindS H; obtain ⟨t107, A18, H⟩ := H
       by_cases c19 : t107 < 0
       · rw [if_pos c19] at H
         have c19b0 : decide (t107 < 0) = true := decide_eq_true c19
         clear c19
         simp only [Option.some.injEq, Prod.mk.injEq] at H
         obtain ⟨rfl, rfl⟩ := H
         obtain ⟨hcz20_0, hcz20_1, hcz20_2, hcz20_3, hcz20_4⟩ := blkC5 BK101.out
         have hfz20_0 := blk_frozen BK101.out 0
         have hfz20_1 := blk_frozen BK101.out 1
         have hfz20_2 := blk_frozen BK101.out 2
         have hfz20_3 := blk_frozen BK101.out 3
         have hfz20_4 := blk_frozen BK101.out 4
         obtain ⟨Ao21, co21, eo21⟩ := Kd.R_slice HO_3.out
         subst eo21
         go_wp2_with (first | ((with_reducible refine gate_callee (f := 73) rfl ?_); refine goesL_ (some 31) rfl rfl Try.func73 (by kernel_rfl) rfl #[.agg #[.int .i64 a0_0, .int .i64 a0_1, .int .i64 a0_2, .int .i64 a0_3, .int .i64 a0_4], .slice A1 l1.length c1, .slice A2 l2.length c2, .slice Ao21 x3_1.length co21, .int .i64 a4] rfl d46b ?_; (with_reducible refine (power_empty.calls k1 a0_0 a0_1 a0_2 a0_3 a0_4 _ _ l1 _ _ l2 _ _ x3_1 a4 t106 _ ?side1 ?side2 ?side3 ?side4 ?side5 ?side6 A13.out).mono ?_); (case side1 => exact d46g); (case side2 => exact HC1.out); (case side3 => exact d46h); (case side4 => exact HC2.out); (case side5 => exact d46i); (case side6 => exact d46j); rintro e w22 ⟨rfl, hb⟩; refine ⟨_, rfl, ?_⟩; have n0_ := Aside0.mk (Kd.R_below d46e hb); have n1_ := Aside0.mk (blk_below (g := gb101) (o := .cells #[.int .i64 a0_0, .int .i64 a0_1, .int .i64 a0_2, .int .i64 a0_3, .int .i64 a0_4] 23 (0, 0)) d46d hb); have n2_ := Aside0.mk (below_step d46a hb); clear HO_3; clear BK101; clear HB; have HO_3 := n0_; have BK101 := n1_; have HB := n2_; clear n0_ n1_ n2_; (try clear hb)) | ((with_reducible refine gate_callee (f := 81) rfl ?_); refine goesL_ (some 38) rfl rfl Try.func81 (by kernel_rfl) rfl #[.slice A2 l2.length c2, .slice Ao21 x3_1.length co21, .int .i64 t106] rfl d46b ?_; (with_reducible refine (power_shed.calls k1 _ _ l2 _ _ x3_1 t106 t107 _ ?side1 ?side2 ?side3 ?side4 A18.out).mono ?_); (case side1 => exact d46h); (case side2 => exact HC2.out); (case side3 => exact d46i); (case side4 => exact d46j); rintro e w23 ⟨rfl, hb⟩; refine ⟨_, rfl, ?_⟩; have n0_ := Aside0.mk (Kd.R_below d46e hb); have n1_ := Aside0.mk (blk_below (g := gb101) (o := .cells #[.int .i64 a0_0, .int .i64 a0_1, .int .i64 a0_2, .int .i64 a0_3, .int .i64 a0_4] 23 (0, 0)) d46d hb); have n2_ := Aside0.mk (below_step d46a hb); clear HO_3; clear BK101; clear HB; have HO_3 := n0_; have BK101 := n1_; have HB := n2_; clear n0_ n1_ n2_; (try clear hb)))
         go_ret2
         exact ⟨_, d46f, d46e, d46a⟩
       · rw [if_neg c19] at H
         have c19b0 : decide (t107 < 0) = false := decide_eq_false c19
         clear c19
         replace H := bindS H; obtain ⟨t108, A24, H⟩ := H
         have H' := Aside0.mk H
         clear H
         obtain ⟨hcz25_0, hcz25_1, hcz25_2, hcz25_3, hcz25_4⟩ := blkC5 BK101.out
         have hfz25_0 := blk_frozen BK101.out 0
         have hfz25_1 := blk_frozen BK101.out 1
         have hfz25_2 := blk_frozen BK101.out 2
         have hfz25_3 := blk_frozen BK101.out 3
         have hfz25_4 := blk_frozen BK101.out 4
         obtain ⟨Ao26, co26, eo26⟩ := Kd.R_slice HO_3.out
         subst eo26
         go_wp2_with (first | ((with_reducible refine gate_callee (f := 73) rfl ?_); refine goesL_ (some 31) rfl rfl Try.func73 (by kernel_rfl) rfl #[.agg #[.int .i64 a0_0, .int .i64 a0_1, .int .i64 a0_2, .int .i64 a0_3, .int .i64 a0_4], .slice A1 l1.length c1, .slice A2 l2.length c2, .slice Ao26 x3_1.length co26, .int .i64 a4] rfl d46b ?_; (with_reducible refine (power_empty.calls k1 a0_0 a0_1 a0_2 a0_3 a0_4 _ _ l1 _ _ l2 _ _ x3_1 a4 t106 _ ?side1 ?side2 ?side3 ?side4 ?side5 ?side6 A13.out).mono ?_); (case side1 => exact d46g); (case side2 => exact HC1.out); (case side3 => exact d46h); (case side4 => exact HC2.out); (case side5 => exact d46i); (case side6 => exact d46j); rintro e w27 ⟨rfl, hb⟩; refine ⟨_, rfl, ?_⟩; have n0_ := Aside0.mk (Kd.R_below d46e hb); have n1_ := Aside0.mk (blk_below (g := gb101) (o := .cells #[.int .i64 a0_0, .int .i64 a0_1, .int .i64 a0_2, .int .i64 a0_3, .int .i64 a0_4] 23 (0, 0)) d46d hb); have n2_ := Aside0.mk (below_step d46a hb); clear HO_3; clear BK101; clear HB; have HO_3 := n0_; have BK101 := n1_; have HB := n2_; clear n0_ n1_ n2_; (try clear hb)) | ((with_reducible refine gate_callee (f := 81) rfl ?_); refine goesL_ (some 38) rfl rfl Try.func81 (by kernel_rfl) rfl #[.slice A2 l2.length c2, .slice Ao26 x3_1.length co26, .int .i64 t106] rfl d46b ?_; (with_reducible refine (power_shed.calls k1 _ _ l2 _ _ x3_1 t106 t107 _ ?side1 ?side2 ?side3 ?side4 A18.out).mono ?_); (case side1 => exact d46h); (case side2 => exact HC2.out); (case side3 => exact d46i); (case side4 => exact d46j); rintro e w28 ⟨rfl, hb⟩; refine ⟨_, rfl, ?_⟩; have n0_ := Aside0.mk (Kd.R_below d46e hb); have n1_ := Aside0.mk (blk_below (g := gb101) (o := .cells #[.int .i64 a0_0, .int .i64 a0_1, .int .i64 a0_2, .int .i64 a0_3, .int .i64 a0_4] 23 (0, 0)) d46d hb); have n2_ := Aside0.mk (below_step d46a hb); clear HO_3; clear BK101; clear HB; have HO_3 := n0_; have BK101 := n1_; have HB := n2_; clear n0_ n1_ n2_; (try clear hb)) | ((with_reducible refine gate_callee (f := 82) rfl ?_); refine goesL_ (some 46) rfl rfl Try.func82 (by kernel_rfl) rfl #[.slice Ao26 x3_1.length co26, .int .i64 t107, .int .i64 (wrap64 (t107 + 1))] rfl d46b ?_; (with_reducible refine (api_Use_82.calls (fun k_ => some k_ = (.slice Ao26 x3_1.length co26 : Value).ownBlock) (.slice Ao26 x3_1.length co26) x3_1 t107 (wrap64 (t107 + 1)) t108 w _ ?side1 ?side2 A24.out).mono ?_); (case side1 => exact d46a); (case side2 => exact Kd.R_tight rfl HO_3.out); rintro e w29 ⟨v109, rfl, ho0, hb, hkp⟩; refine ⟨_, rfl, ?_⟩; have n0_ := Aside0.mk (blk_kept d46d hkp (fun hs_ => (fun e_ => (Kd.R_ne HO_3.out BK101.out (by decide)) e_) hs_)); have n1_ := Aside0.mk (Kd.R_mono (ok' := fun k_ => True) ho0 (fun k_ hk_ => trivial)); have n2_ := Aside0.mk (hb); clear BK101; clear HB; clear HO_3; have BK101 := n0_; have HO110 := n1_; have HB := n2_; clear n0_ n1_ n2_; (try clear hb); (try clear hkp); (try clear ho0)))
         go_roundg k1
         case measure => have := HK1.out; omega
         case rel => exact ⟨(t108), H', ⟨by have := HK1.out; omega⟩, ⟨by (with_reducible repeat (first | apply Kd.R_alloc | apply Kd.R_drewN | apply Kd.R_drew)); exact HO110.out⟩, ⟨d46d⟩, ⟨d46a⟩⟩
 · rw [if_neg c7] at H
   have c7b0 : (t102 == 0) = false := beq_eq_false_iff_ne.mpr c7
   have c7b1 : (t102 != 0) = true := bne_iff_ne.mpr c7
   simp only [Option.some.injEq, Prod.mk.injEq] at H
   obtain ⟨rfl, rfl⟩ := H
   go_enter Try.func46, Try.ntmps46
   go_wp2_with (first | ((with_reducible refine gate_dst (N := 5) rfl ?_); refine box_event ?hg (N := 5) ?hd (cs := #[.int .i64 a0_0, .int .i64 a0_1, .int .i64 a0_2, .int .i64 a0_3, .int .i64 a0_4]) (t := 23) ?hr ?_; (case hd => rfl); (case hg => rfl); (case hr => first | (go_simp; done) | (go_simp; rfl)); intro gb101 hg w30 hbox hb; have n0_ := Aside0.mk (below_step d46c hb); have n1_ := Aside0.mk (hbox); have n2_ := Aside0.mk ((by rw [hg]; exact (below_size d46c) : w.heap.size ≤ gb101)); have n3_ := Aside0.mk ((by rw [hg]; exact (below_size d46c) : w.heap.size ≤ gb101)); clear HB; have HB := n0_; have BK101 := n1_; have GW101 := n2_; have GE101 := n3_; clear n0_ n1_ n2_ n3_; clear hb hbox hg; have hcz31_0 : w30.cell? ⟨gb101, 0, none⟩ = some (.int .i64 a0_0) := (blk_cell BK101.out 0).trans rfl; have hcz31_1 : w30.cell? ⟨gb101, 1, none⟩ = some (.int .i64 a0_1) := (blk_cell BK101.out 1).trans rfl; have hcz31_2 : w30.cell? ⟨gb101, 2, none⟩ = some (.int .i64 a0_2) := (blk_cell BK101.out 2).trans rfl; have hcz31_3 : w30.cell? ⟨gb101, 3, none⟩ = some (.int .i64 a0_3) := (blk_cell BK101.out 3).trans rfl; have hcz31_4 : w30.cell? ⟨gb101, 4, none⟩ = some (.int .i64 a0_4) := (blk_cell BK101.out 4).trans rfl; have hfz31_0 := blk_frozen BK101.out 0; have hfz31_1 := blk_frozen BK101.out 1; have hfz31_2 := blk_frozen BK101.out 2; have hfz31_3 := blk_frozen BK101.out 3; have hfz31_4 := blk_frozen BK101.out 4) | ((with_reducible refine gate_callee (f := 66) rfl ?_); refine goesL_ (some 20) rfl rfl Try.func66 (by kernel_rfl) rfl #[.agg #[.int .i64 a0_0, .int .i64 a0_1, .int .i64 a0_2, .int .i64 a0_3, .int .i64 a0_4], .slice A1 l1.length c1, .slice A2 l2.length c2, .slice A3 l3.length c3, .int .i64 a4] rfl d46b ?_; (with_reducible refine (power_check.calls k a0_0 a0_1 a0_2 a0_3 a0_4 _ _ l1 _ _ l2 _ _ l3 a4 t102 _ ?side1 ?side2 ?side3 ?side4 ?side5 ?side6 A6.out).mono ?_); (case side1 => exact d46g); (case side2 => exact HC1.out); (case side3 => exact d46h); (case side4 => exact HC2.out); (case side5 => exact C_go (Kd.C_below HR3.out HB.out)); (case side6 => exact HC3.out); rintro e w32 ⟨rfl, hb⟩; refine ⟨_, rfl, ?_⟩; have n0_ := Aside0.mk (blk_below (g := gb101) (o := .cells #[.int .i64 a0_0, .int .i64 a0_1, .int .i64 a0_2, .int .i64 a0_3, .int .i64 a0_4] 23 (0, 0)) d46d hb); have n1_ := Aside0.mk (below_step d46a hb); clear BK101; clear HB; have BK101 := n0_; have HB := n1_; clear n0_ n1_; (try clear hb)))
   go_ret2
   exact ⟨_, d46f, by first | exact Kd.R_nil _ _ _ _ _ | exact Kd.N_nil _ _ _ _ _ | exact Kd.V_nil _ _ _ _ _ | exact Kd.Q_nil _ _ _ _ _ | exact Kd.S_nil _ _ _ _ _, d46a⟩
end Go.Proofs.Ytplcdpiggpkppaa.Q
