-- Made by wip/tools/pp.py (this session's) over the kit's print program; Lean checks it.
import Derived.Test.YtbngmblgkkdhpaaQ0
import Derived.Test.YtbngmblgkkdhpaaG1
import Derived.Test.YtbngmblgkkdhpaaG2
import Derived.Test.YtbngmblgkkdhpaaG4
namespace Go.Proofs.Ytbngmblgkkdhpaa.Q
open Go.RowKit Go.Proofs.YtbngmblgkkdhpaaW.PrintWords Go.Proofs.YtbngmblgkkdhpaaW.PrintLast Go.Proofs.YtbngmblgkkdhpaaW.PrintMore
attribute [local go_sem] max2_int min2_int max_two min_two max_three min_three max_four min_four
open Go.Proofs.Ytbngmblgkkdhpaa.Base
attribute [local go_sem high] str_leq str_gtr str_geq
set_option linter.unusedVariables false
set_option linter.unusedSimpArgs false


/-! ### perigeeref10_volume: function 44 -/
def perigeeref10_volume.l0 : Nat → Int → Int → Int → Int → ByteArray → Int → Int → List (S75) → Option (Int)
  | 0, _, _, _, _, _, _, _, _ => none
  | k + 1, x1, x2, x7, x8, x102000, x102001, x102002, x102003 => if x8 < (x102003.length : Int) then (if (wrap64 (x8 + 1)) < (x102003.length : Int) then (if 0 ≤ (wrap64 (x8 + 1)) then (if 0 ≤ x8 then (if (mn x2 ((rd_T75 x102003 (wrap64 (x8 + 1))).f0)) > (mx x1 ((rd_T75 x102003 x8).f0)) then (perigeeref10_volume.l0 k x1 x2 (wrap64 (x7 + (wrap64 ((wrap64 ((mn x2 ((rd_T75 x102003 (wrap64 (x8 + 1))).f0)) - (mx x1 ((rd_T75 x102003 x8).f0)))) * ((rd_T75 x102003 x8).f1))))) (wrap64 (x8 + 1)) x102000 x102001 x102002 x102003) else (perigeeref10_volume.l0 k x1 x2 x7 (wrap64 (x8 + 1)) x102000 x102001 x102002 x102003)) else (none)) else (none)) else (if 0 ≤ x8 then (if (mn x2 x102002) > (mx x1 ((rd_T75 x102003 x8).f0)) then (perigeeref10_volume.l0 k x1 x2 (wrap64 (x7 + (wrap64 ((wrap64 ((mn x2 x102002) - (mx x1 ((rd_T75 x102003 x8).f0)))) * ((rd_T75 x102003 x8).f1))))) (wrap64 (x8 + 1)) x102000 x102001 x102002 x102003) else (perigeeref10_volume.l0 k x1 x2 x7 (wrap64 (x8 + 1)) x102000 x102001 x102002 x102003)) else (none))) else (some x7)
def perigeeref10_volume.f (k : Nat) (a0_0 : ByteArray) (a0_1 : Int) (a0_2 : Int) (l0_3 : List (S75)) (a1 : Int) (a2 : Int) : Option (Int) := perigeeref10_volume.l0 k a1 a2 0 0 a0_0 a0_1 a0_2 l0_3
theorem perigeeref10_volume.mono_l : ∀ k, (∀ y0 y1 y2 y3 y4 y5 y6 y7, LeO (perigeeref10_volume.l0 k y0 y1 y2 y3 y4 y5 y6 y7) (perigeeref10_volume.l0 (k + 1) y0 y1 y2 y3 y4 y5 y6 y7))
  | 0 => fun _ _ _ _ _ _ _ _ r h => by simp [perigeeref10_volume.l0] at h
  | k + 1 => by
    have ih0 := perigeeref10_volume.mono_l k
    · intro y0 y1 y2 y3 y4 y5 y6 y7
      unfold perigeeref10_volume.l0
      repeat' first
      | (with_reducible exact ih0 _ _ _ _ _ _ _ _)
      | (with_reducible exact LeO.refl _)
      | (with_reducible exact LeO.none _)
      | (with_reducible refine LeO.ite ?_ ?_)
      | (with_reducible refine LeO.bind ?_ (fun _ => ?_))
      | exact ih0 _ _ _ _ _ _ _ _
      | exact LeO.none _
      | refine LeO.ite ?_ ?_
      | refine LeO.bind ?_ (fun _ => ?_)
theorem perigeeref10_volume.mono : ∀ a0 a1 a2 a3 a4 a5 k, LeO (perigeeref10_volume.f k a0 a1 a2 a3 a4 a5) (perigeeref10_volume.f (k + 1) a0 a1 a2 a3 a4 a5) := by
  intro a0 a1 a2 a3 a4 a5 k
  have ih0 := perigeeref10_volume.mono_l k
  unfold perigeeref10_volume.f
  repeat' first
      | (with_reducible exact ih0 _ _ _ _ _ _ _ _)
      | (with_reducible exact LeO.refl _)
      | (with_reducible exact LeO.none _)
      | (with_reducible refine LeO.ite ?_ ?_)
      | (with_reducible refine LeO.bind ?_ (fun _ => ?_))
      | exact ih0 _ _ _ _ _ _ _ _
      | exact LeO.none _
      | refine LeO.ite ?_ ?_
      | refine LeO.bind ?_ (fun _ => ?_)
theorem d44a {p : Prop} (h : p := by repeat (first | (with_reducible first | exact HB.out | apply below_alloc | apply pw_below_drewN | apply below_drew1 | refine below_set ?_ GE101.out) | exact HB.out)) : p := h
theorem d44b {p : Prop} (h : p := by repeat (first | (with_reducible first | exact HB.out | apply below_alloc | apply pw_below_drewN | apply below_drew1) | exact HB.out)) : p := h
theorem d44c {p : Prop} (h : p := by (with_reducible repeat (first | refine blk_drewN ?_ _ | refine blk_drew ?_ | refine blk_alloc ?_ _)); exact BK101.out) : p := h
theorem d44d {p : Prop} (h : p := by first | (with_reducible assumption) | assumption) : p := h
theorem d44e {p : Prop} (h : p := by first | rfl | (simp; done) | (simp [*]; done)) : p := h
set_option maxHeartbeats 8000000 in
set_option maxRecDepth 100000 in
theorem perigeeref10_volume.calls (k : Nat) (a0_0 : ByteArray) (a0_1 : Int) (a0_2 : Int) (A0_3 : Option Addr) (c0_3 : Nat) (l0_3 : List (S75)) (a1 : Int) (a2 : Int) (r : Int) (w : World) (hr0_3 : Kd.C k75 w A0_3 l0_3.length l0_3) (hc0_3 : l0_3.length ≤ c0_3) (h : perigeeref10_volume.f k a0_0 a0_1 a0_2 l0_3 a1 a2 = some r) :
 Calls Try.prog 44 #[.agg #[.string a0_0, .int .i64 a0_1, .int .i64 a0_2, .slice A0_3 l0_3.length c0_3], .int .i64 a1, .int .i64 a2] w fun e w' => e = .returned (.int .i64 r) ∧ Below w.heap.size w w' := by
 have hu33 := Try.underlying33
 have HR0_3 := Aside0.mk hr0_3
 have HC0_3 := Aside0.mk hc0_3
 clear hr0_3 hc0_3
 have HB := Aside0.mk (Below.refl w.heap.size w)
 have H : (perigeeref10_volume.l0 k a1 a2 0 0 a0_0 a0_1 a0_2 l0_3) = some r := h
 clear h
 have H' := Aside0.mk H
 clear H
 go_enter Try.func44, Try.ntmps44
 go_wp2_with ((with_reducible refine gate_dst (N := 3) rfl ?_); refine box_event ?hg (N := 3) ?hd (cs := #[.string a0_0, .int .i64 a0_1, .int .i64 a0_2, .slice A0_3 l0_3.length c0_3]) (t := 33) ?hr ?_; (case hd => rfl); (case hg => rfl); (case hr => first | (go_simp; done) | (go_simp; rfl)); intro gb101 hg w4 hbox hb; have n0_ := Aside0.mk (below_step d44b hb); have n1_ := Aside0.mk (hbox); have n2_ := Aside0.mk ((by rw [hg]; exact (below_size d44b) : w.heap.size ≤ gb101)); have n3_ := Aside0.mk ((by rw [hg]; exact (below_size d44b) : w.heap.size ≤ gb101)); clear HB; have HB := n0_; have BK101 := n1_; have GW101 := n2_; have GE101 := n3_; clear n0_ n1_ n2_ n3_; clear hb hbox hg)
 go_loopg [7, 8] k (fun kq v7 v8 w' => ∃ (x7_1 : Int) (x8_1 : Int), v7 = .int .i64 x7_1 ∧ v8 = .int .i64 x8_1 ∧ Aside0 (perigeeref10_volume.l0 kq a1 a2 x7_1 x8_1 a0_0 a0_1 a0_2 l0_3 = some r) ∧ Aside0 (kq ≤ k) ∧ Aside0 (w'.heap[gb101]? = some (.cells #[.string a0_0, .int .i64 a0_1, .int .i64 a0_2, (.slice A0_3 l0_3.length c0_3)] 33 (0, 0))) ∧ Aside0 (Below w.heap.size w w'))
 case atStart => exact ⟨(0), (0), d44e, d44e, H', ⟨Nat.le_refl _⟩, ⟨d44c⟩, ⟨d44a⟩⟩
 case round =>
  clear H'
  obtain ⟨x7_1, x8_1, rfl, rfl, HA, HK1, BK101, HB⟩ := hrel
  cases gk with
  | zero => exact absurd HA.out (by simp [perigeeref10_volume.l0])
  | succ k1 =>
   have H := HA.out
   clear HA
   simp only [perigeeref10_volume.l0] at H
   by_cases c5 : x8_1 < (l0_3.length : Int)
   · rw [if_pos c5] at H
     have c5b0 : decide (x8_1 < (l0_3.length : Int)) = true := decide_eq_true c5
     clear c5
     by_cases c6 : (wrap64 (x8_1 + 1)) < (l0_3.length : Int)
     · rw [if_pos c6] at H
       have c6b0 : decide ((wrap64 (x8_1 + 1)) < (l0_3.length : Int)) = true := decide_eq_true c6
       clear c6
       obtain ⟨ji7, hji7⟩ : ∃ j_ : Int, (wrap64 (x8_1 + 1)) = j_ := ⟨_, rfl⟩
       replace H : (if 0 ≤ (ji7) then (if 0 ≤ x8_1 then (if (mn a2 ((rd_T75 l0_3 (ji7)).f0)) > (mx a1 ((rd_T75 l0_3 x8_1).f0)) then (perigeeref10_volume.l0 k1 a1 a2 (wrap64 (x7_1 + (wrap64 ((wrap64 ((mn a2 ((rd_T75 l0_3 (ji7)).f0)) - (mx a1 ((rd_T75 l0_3 x8_1).f0)))) * ((rd_T75 l0_3 x8_1).f1))))) ji7 a0_0 a0_1 a0_2 l0_3) else (perigeeref10_volume.l0 k1 a1 a2 x7_1 ji7 a0_0 a0_1 a0_2 l0_3)) else (none)) else (none)) = some r := by first | (rw [hji7] at H; exact H) | (simp only [hji7] at H ⊢; exact H)
       (try rw [hji7] at c6b0)
       have hji7w : (IntKind.i64.wrap (x8_1 + 1)) = ji7 := (i64_w _).trans hji7
       replace H := guardT H; obtain ⟨c8, H⟩ := H
       have c8b0 : decide (0 ≤ (ji7)) = true := decide_eq_true c8
       clear c8
       replace H := guardT H; obtain ⟨c9, H⟩ := H
       have c9b0 : decide (0 ≤ x8_1) = true := decide_eq_true c9
       clear c9
       obtain ⟨ji10, hji10⟩ : ∃ j_ : Int, (mx a1 ((rd_T75 l0_3 x8_1).f0)) = j_ := ⟨_, rfl⟩
       replace H : (if (mn a2 ((rd_T75 l0_3 (ji7)).f0)) > (ji10) then (perigeeref10_volume.l0 k1 a1 a2 (wrap64 (x7_1 + (wrap64 ((wrap64 ((mn a2 ((rd_T75 l0_3 (ji7)).f0)) - (ji10))) * ((rd_T75 l0_3 x8_1).f1))))) ji7 a0_0 a0_1 a0_2 l0_3) else (perigeeref10_volume.l0 k1 a1 a2 x7_1 ji7 a0_0 a0_1 a0_2 l0_3)) = some r := by first | (rw [hji10] at H; exact H) | (simp only [hji10] at H ⊢; exact H)
       have hji10_ : (if a1 < ((rd_T75 l0_3 x8_1).f0) then ((rd_T75 l0_3 x8_1).f0) else a1) = ji10 := hji10
       obtain ⟨ji11, hji11⟩ : ∃ j_ : Int, (mn a2 ((rd_T75 l0_3 (ji7)).f0)) = j_ := ⟨_, rfl⟩
       replace H : (if (ji11) > (ji10) then (perigeeref10_volume.l0 k1 a1 a2 (wrap64 (x7_1 + (wrap64 ((wrap64 ((ji11) - (ji10))) * ((rd_T75 l0_3 x8_1).f1))))) ji7 a0_0 a0_1 a0_2 l0_3) else (perigeeref10_volume.l0 k1 a1 a2 x7_1 ji7 a0_0 a0_1 a0_2 l0_3)) = some r := by first | (rw [hji11] at H; exact H) | (simp only [hji11] at H ⊢; exact H)
       have hji11_ : (if ((rd_T75 l0_3 (ji7)).f0) < a2 then ((rd_T75 l0_3 (ji7)).f0) else a2) = ji11 := hji11
       by_cases c12 : (ji11) > (ji10)
       · rw [if_pos c12] at H
         have c12b0 : decide ((ji10) < (ji11)) = true := decide_eq_true c12
         clear c12
         have H' := Aside0.mk H
         clear H
         obtain ⟨hcz13_0, hcz13_1, hcz13_2, hcz13_3⟩ := blkC4 BK101.out
         have hfz13_0 := blk_frozen BK101.out 0
         have hfz13_1 := blk_frozen BK101.out 1
         have hfz13_2 := blk_frozen BK101.out 2
         have hfz13_3 := blk_frozen BK101.out 3
         have p102 : 0 ≤ ((ji7) : Int) := of_decide_eq_true d44d
         have q102 : (ji7) < (l0_3.length : Int) := of_decide_eq_true d44d
         obtain ⟨ad102, e102, hx102_0, hx102_1⟩ := at_T75 HR0_3.out (ji7) p102 q102
         cases e102
         replace hx102_0 := cellB HB.out hx102_0
         replace hx102_1 := cellB HB.out hx102_1
         replace p102 := eq_true p102
         replace q102 := eq_true q102
         have p103 : 0 ≤ (x8_1 : Int) := of_decide_eq_true d44d
         have q103 : x8_1 < (l0_3.length : Int) := of_decide_eq_true d44d
         obtain ⟨ad103, e103, hx103_0, hx103_1⟩ := at_T75 HR0_3.out x8_1 p103 q103
         obtain rfl : ad102 = ad103 := (by injection e103)
         replace hx103_0 := cellB HB.out hx103_0
         replace hx103_1 := cellB HB.out hx103_1
         replace p103 := eq_true p103
         replace q103 := eq_true q103
         have p104 : 0 ≤ (x8_1 : Int) := of_decide_eq_true d44d
         have q104 : x8_1 < (l0_3.length : Int) := of_decide_eq_true d44d
         obtain ⟨ad104, e104, hx104_0, hx104_1⟩ := at_T75 HR0_3.out x8_1 p104 q104
         obtain rfl : ad102 = ad104 := (by injection e104)
         replace hx104_0 := cellB HB.out hx104_0
         replace hx104_1 := cellB HB.out hx104_1
         replace p104 := eq_true p104
         replace q104 := eq_true q104
         go_wp2
         go_roundg k1
         case measure => have := HK1.out; omega
         case rel => exact ⟨(wrap64 (x7_1 + (wrap64 ((wrap64 ((ji11) - (ji10))) * ((rd_T75 l0_3 x8_1).f1))))), (ji7), (by first | rfl | (simp; done) | (simp only [← hji10, ← hji11] <;> (first | rfl | simp)) | (simp [*]; done)), (by first | rfl | (simp; done) | (simp only [← hji7] <;> (first | rfl | simp)) | (simp [*]; done)), H', ⟨by have := HK1.out; omega⟩, ⟨d44c⟩, ⟨d44a⟩⟩
       · rw [if_neg c12] at H
         have c12b0 : decide ((ji10) < (ji11)) = false := decide_eq_false c12
         clear c12
         have H' := Aside0.mk H
         clear H
         obtain ⟨hcz14_0, hcz14_1, hcz14_2, hcz14_3⟩ := blkC4 BK101.out
         have hfz14_0 := blk_frozen BK101.out 0
         have hfz14_1 := blk_frozen BK101.out 1
         have hfz14_2 := blk_frozen BK101.out 2
         have hfz14_3 := blk_frozen BK101.out 3
         have p102 : 0 ≤ ((ji7) : Int) := of_decide_eq_true d44d
         have q102 : (ji7) < (l0_3.length : Int) := of_decide_eq_true d44d
         obtain ⟨ad102, e102, hx102_0, hx102_1⟩ := at_T75 HR0_3.out (ji7) p102 q102
         cases e102
         replace hx102_0 := cellB HB.out hx102_0
         replace hx102_1 := cellB HB.out hx102_1
         replace p102 := eq_true p102
         replace q102 := eq_true q102
         have p103 : 0 ≤ (x8_1 : Int) := of_decide_eq_true d44d
         have q103 : x8_1 < (l0_3.length : Int) := of_decide_eq_true d44d
         obtain ⟨ad103, e103, hx103_0, hx103_1⟩ := at_T75 HR0_3.out x8_1 p103 q103
         obtain rfl : ad102 = ad103 := (by injection e103)
         replace hx103_0 := cellB HB.out hx103_0
         replace hx103_1 := cellB HB.out hx103_1
         replace p103 := eq_true p103
         replace q103 := eq_true q103
         go_wp2
         go_roundg k1
         case measure => have := HK1.out; omega
         case rel => exact ⟨(x7_1), (ji7), d44e, (by first | rfl | (simp; done) | (simp only [← hji7] <;> (first | rfl | simp)) | (simp [*]; done)), H', ⟨by have := HK1.out; omega⟩, ⟨d44c⟩, ⟨d44a⟩⟩
     · rw [if_neg c6] at H
       have c6b0 : decide ((wrap64 (x8_1 + 1)) < (l0_3.length : Int)) = false := decide_eq_false c6
       clear c6
       replace H := guardT H; obtain ⟨c15, H⟩ := H
       have c15b0 : decide (0 ≤ x8_1) = true := decide_eq_true c15
       clear c15
       obtain ⟨ji16, hji16⟩ : ∃ j_ : Int, (mx a1 ((rd_T75 l0_3 x8_1).f0)) = j_ := ⟨_, rfl⟩
       replace H : (if (mn a2 a0_2) > (ji16) then (perigeeref10_volume.l0 k1 a1 a2 (wrap64 (x7_1 + (wrap64 ((wrap64 ((mn a2 a0_2) - (ji16))) * ((rd_T75 l0_3 x8_1).f1))))) (wrap64 (x8_1 + 1)) a0_0 a0_1 a0_2 l0_3) else (perigeeref10_volume.l0 k1 a1 a2 x7_1 (wrap64 (x8_1 + 1)) a0_0 a0_1 a0_2 l0_3)) = some r := by first | (rw [hji16] at H; exact H) | (simp only [hji16] at H ⊢; exact H)
       have hji16_ : (if a1 < ((rd_T75 l0_3 x8_1).f0) then ((rd_T75 l0_3 x8_1).f0) else a1) = ji16 := hji16
       obtain ⟨ji17, hji17⟩ : ∃ j_ : Int, (mn a2 a0_2) = j_ := ⟨_, rfl⟩
       replace H : (if (ji17) > (ji16) then (perigeeref10_volume.l0 k1 a1 a2 (wrap64 (x7_1 + (wrap64 ((wrap64 ((ji17) - (ji16))) * ((rd_T75 l0_3 x8_1).f1))))) (wrap64 (x8_1 + 1)) a0_0 a0_1 a0_2 l0_3) else (perigeeref10_volume.l0 k1 a1 a2 x7_1 (wrap64 (x8_1 + 1)) a0_0 a0_1 a0_2 l0_3)) = some r := by first | (rw [hji17] at H; exact H) | (simp only [hji17] at H ⊢; exact H)
       have hji17_ : (if a0_2 < a2 then a0_2 else a2) = ji17 := hji17
       by_cases c18 : (ji17) > (ji16)
       · rw [if_pos c18] at H
         have c18b0 : decide ((ji16) < (ji17)) = true := decide_eq_true c18
         clear c18
         have H' := Aside0.mk H
         clear H
         obtain ⟨hcz19_0, hcz19_1, hcz19_2, hcz19_3⟩ := blkC4 BK101.out
         have hfz19_0 := blk_frozen BK101.out 0
         have hfz19_1 := blk_frozen BK101.out 1
         have hfz19_2 := blk_frozen BK101.out 2
         have hfz19_3 := blk_frozen BK101.out 3
         have p105 : 0 ≤ (x8_1 : Int) := of_decide_eq_true d44d
         have q105 : x8_1 < (l0_3.length : Int) := of_decide_eq_true d44d
         obtain ⟨ad105, e105, hx105_0, hx105_1⟩ := at_T75 HR0_3.out x8_1 p105 q105
         cases e105
         replace hx105_0 := cellB HB.out hx105_0
         replace hx105_1 := cellB HB.out hx105_1
         replace p105 := eq_true p105
         replace q105 := eq_true q105
         have p106 : 0 ≤ (x8_1 : Int) := of_decide_eq_true d44d
         have q106 : x8_1 < (l0_3.length : Int) := of_decide_eq_true d44d
         obtain ⟨ad106, e106, hx106_0, hx106_1⟩ := at_T75 HR0_3.out x8_1 p106 q106
         obtain rfl : ad105 = ad106 := (by injection e106)
         replace hx106_0 := cellB HB.out hx106_0
         replace hx106_1 := cellB HB.out hx106_1
         replace p106 := eq_true p106
         replace q106 := eq_true q106
         go_wp2
         go_roundg k1
         case measure => have := HK1.out; omega
         case rel => exact ⟨(wrap64 (x7_1 + (wrap64 ((wrap64 ((ji17) - (ji16))) * ((rd_T75 l0_3 x8_1).f1))))), (wrap64 (x8_1 + 1)), (by first | rfl | (simp; done) | (simp only [← hji16, ← hji17] <;> (first | rfl | simp)) | (simp [*]; done)), d44e, H', ⟨by have := HK1.out; omega⟩, ⟨d44c⟩, ⟨d44a⟩⟩
       · rw [if_neg c18] at H
         have c18b0 : decide ((ji16) < (ji17)) = false := decide_eq_false c18
         clear c18
         have H' := Aside0.mk H
         clear H
         obtain ⟨hcz20_0, hcz20_1, hcz20_2, hcz20_3⟩ := blkC4 BK101.out
         have hfz20_0 := blk_frozen BK101.out 0
         have hfz20_1 := blk_frozen BK101.out 1
         have hfz20_2 := blk_frozen BK101.out 2
         have hfz20_3 := blk_frozen BK101.out 3
         have p105 : 0 ≤ (x8_1 : Int) := of_decide_eq_true d44d
         have q105 : x8_1 < (l0_3.length : Int) := of_decide_eq_true d44d
         obtain ⟨ad105, e105, hx105_0, hx105_1⟩ := at_T75 HR0_3.out x8_1 p105 q105
         cases e105
         replace hx105_0 := cellB HB.out hx105_0
         replace hx105_1 := cellB HB.out hx105_1
         replace p105 := eq_true p105
         replace q105 := eq_true q105
         go_wp2
         go_roundg k1
         case measure => have := HK1.out; omega
         case rel => exact ⟨(x7_1), (wrap64 (x8_1 + 1)), d44e, d44e, H', ⟨by have := HK1.out; omega⟩, ⟨d44c⟩, ⟨d44a⟩⟩
   · rw [if_neg c5] at H
     have c5b0 : decide (x8_1 < (l0_3.length : Int)) = false := decide_eq_false c5
     clear c5
     obtain rfl := Option.some.inj H
     obtain ⟨hcz21_0, hcz21_1, hcz21_2, hcz21_3⟩ := blkC4 BK101.out
     have hfz21_0 := blk_frozen BK101.out 0
     have hfz21_1 := blk_frozen BK101.out 1
     have hfz21_2 := blk_frozen BK101.out 2
     have hfz21_3 := blk_frozen BK101.out 3
     go_wp2
     go_ret
     exact ⟨by first | rfl | (simp [errW_none, errW_some] <;> rfl) | (simp [*, errW_none, errW_some] <;> rfl), d44a⟩
/-! ### perigeeref10_Volume: function 15 -/
def perigeeref10_Volume.f (k : Nat) (l0 : List (S33)) (a1 : Int) (a2 : Int) (a3 : Int) : Option (Int × Int) := (perigeeref10_CheckPasses.f k l0).bind fun t101 => (if t101 = 0 then ((perigeeref10_within.f a1 0 (wrap64 ((l0.length : Int) - 1))).bind fun t102 => (if t102 = true then ((perigeeref10_moment.f a2).bind fun t103 => (if t103 = true then ((perigeeref10_moment.f a3).bind fun t104 => (if t104 = true then (if 0 ≤ a1 then (if a1 < (l0.length : Int) then ((perigeeref10_volume.f k ((rd_T33 l0 a1).f0) ((rd_T33 l0 a1).f1) ((rd_T33 l0 a1).f2) ((rd_T33 l0 a1).f3) a2 a3).bind fun t106 => (some (t106, 0))) else (none)) else (none)) else (some (0, 1)))) else (some (0, 1)))) else (some (0, 9)))) else (some (0, t101)))
theorem perigeeref10_Volume.mono : ∀ a0 a1 a2 a3 k, LeO (perigeeref10_Volume.f k a0 a1 a2 a3) (perigeeref10_Volume.f (k + 1) a0 a1 a2 a3) := by
  intro a0 a1 a2 a3 k
  unfold perigeeref10_Volume.f
  repeat' first
      | (with_reducible exact perigeeref10_CheckPasses.mono _ _)
      | (with_reducible exact perigeeref10_volume.mono _ _ _ _ _ _ _)
      | (with_reducible exact LeO.refl _)
      | (with_reducible exact LeO.none _)
      | (with_reducible refine LeO.ite ?_ ?_)
      | (with_reducible refine LeO.bind ?_ (fun _ => ?_))
      | exact perigeeref10_CheckPasses.mono _ _
      | exact perigeeref10_volume.mono _ _ _ _ _ _ _
      | exact LeO.none _
      | refine LeO.ite ?_ ?_
      | refine LeO.bind ?_ (fun _ => ?_)
theorem d15a {p : Prop} (h : p := by (try simp only [List.map_toArray, List.map_cons, List.map_nil]); first | done | rfl | (simp only [List.length_drop, List.length_take]; rfl)) : p := h
theorem d15b {p : Prop} (h : p := by repeat (first | (with_reducible first | exact HB.out | apply below_alloc | apply pw_below_drewN | apply below_drew1) | exact HB.out)) : p := h
theorem d15c {p : Prop} (h : p := by first | rfl | (simp [errW_none, errW_some] <;> rfl) | (simp [*, errW_none, errW_some] <;> rfl)) : p := h
set_option maxHeartbeats 8000000 in
set_option maxRecDepth 100000 in
theorem perigeeref10_Volume.calls (k : Nat) (A0 : Option Addr) (c0 : Nat) (l0 : List (S33)) (a1 : Int) (a2 : Int) (a3 : Int) (r1 : Int) (r2 : Int) (w : World) (hr0 : Kd.C k33 w A0 l0.length l0) (hc0 : l0.length ≤ c0) (h : perigeeref10_Volume.f k l0 a1 a2 a3 = some (r1, r2)) :
 Calls Try.prog 15 #[.slice A0 l0.length c0, .int .i64 a1, .int .i64 a2, .int .i64 a3] w fun e w' => e = .returned (.tuple #[.int .i64 r1, .int .i64 r2]) ∧ Below w.heap.size w w' := by
 have hu33 := Try.underlying33
 have HR0 := Aside0.mk hr0
 have HC0 := Aside0.mk hc0
 clear hr0 hc0
 have HB := Aside0.mk (Below.refl w.heap.size w)
 have H : ((perigeeref10_CheckPasses.f k l0).bind fun t101 => (if t101 = 0 then ((perigeeref10_within.f a1 0 (wrap64 ((l0.length : Int) - 1))).bind fun t102 => (if t102 = true then ((perigeeref10_moment.f a2).bind fun t103 => (if t103 = true then ((perigeeref10_moment.f a3).bind fun t104 => (if t104 = true then (if 0 ≤ a1 then (if a1 < (l0.length : Int) then ((perigeeref10_volume.f k ((rd_T33 l0 a1).f0) ((rd_T33 l0 a1).f1) ((rd_T33 l0 a1).f2) ((rd_T33 l0 a1).f3) a2 a3).bind fun t106 => (some (t106, 0))) else (none)) else (none)) else (some (0, 1)))) else (some (0, 1)))) else (some (0, 9)))) else (some (0, t101)))) = some (r1, r2) := h
 clear h
 replace H := bindS H; obtain ⟨t101, A5, H⟩ := H
 by_cases c6 : t101 = 0
 · rw [if_pos c6] at H
   have c6b0 : (t101 == 0) = true := beq_iff_eq.mpr c6
   have c6b1 : (t101 != 0) = false := bne_eq_false_iff_eq.mpr c6
   clear c6
   replace H := bindS H; obtain ⟨t102, A7, H⟩ := H
   by_cases c8 : t102 = true
   · subst c8
     replace H := iteT H
     replace H := bindS H; obtain ⟨t103, A9, H⟩ := H
     by_cases c10 : t103 = true
     · subst c10
       replace H := iteT H
       replace H := bindS H; obtain ⟨t104, A11, H⟩ := H
       by_cases c12 : t104 = true
       · subst c12
         replace H := iteT H
         replace H := guardT H; obtain ⟨c13, H⟩ := H
         have c13b0 : decide (0 ≤ a1) = true := decide_eq_true c13
         clear c13
         replace H := guardT H; obtain ⟨c14, H⟩ := H
         have c14b0 : decide (a1 < (l0.length : Int)) = true := decide_eq_true c14
         clear c14
         replace H := bindS H; obtain ⟨t106, A15, H⟩ := H
         simp only [Option.some.injEq, Prod.mk.injEq] at H
         obtain ⟨rfl, rfl⟩ := H
         go_enter Try.func15, Try.ntmps15
         go_wp2_with (first | ((with_reducible refine gate_callee (f := 19) rfl ?_); refine goesL_ (some 12) rfl rfl Try.func19 (by kernel_rfl) rfl #[.slice A0 l0.length c0] rfl d15a ?_; (with_reducible refine (perigeeref10_CheckPasses.calls k _ _ l0 t101 _ ?side1 ?side2 A5.out).mono ?_); (case side1 => exact C_go HR0.out); (case side2 => exact HC0.out); rintro e w16 ⟨rfl, hb⟩; refine ⟨_, rfl, ?_⟩; replace HB := Aside0.mk (below_step d15b hb); (try clear hb)) | ((with_reducible refine gate_callee (f := 42) rfl ?_); refine goesL_ (some 20) rfl rfl Try.func42 (by kernel_rfl) rfl #[.int .i64 a1, .int .i64 0, .int .i64 (wrap64 ((l0.length : Int) - 1))] rfl d15a ?_; (with_reducible refine (perigeeref10_within.calls a1 0 (wrap64 ((l0.length : Int) - 1)) true _ A7.out).mono ?_); rintro e w' ⟨rfl, ⟨nd, rfl⟩⟩; refine ⟨_, rfl, ?_⟩) | ((with_reducible refine gate_callee (f := 43) rfl ?_); refine goesL_ (some 23) rfl rfl Try.func43 (by kernel_rfl) rfl #[.int .i64 a2] rfl d15a ?_; (with_reducible refine (perigeeref10_moment.calls a2 true _ A9.out).mono ?_); rintro e w' ⟨rfl, ⟨nd, rfl⟩⟩; refine ⟨_, rfl, ?_⟩) | (go_at_call 43; (with_reducible refine (perigeeref10_moment.calls a3 true _ A11.out).mono ?_); rintro e w' ⟨rfl, ⟨nd, rfl⟩⟩; have p105 : 0 ≤ (a1 : Int) := of_decide_eq_true (by first | (with_reducible assumption) | assumption); have q105 : a1 < (l0.length : Int) := of_decide_eq_true (by first | (with_reducible assumption) | assumption); obtain ⟨ad105, A105_3, c105_3, e105, hx105_0, hx105_1, hx105_2, hx105_3, hl105_3, hi105_3⟩ := at_T33 HR0.out a1 p105 q105; cases e105; replace hx105_0 := cellB HB.out hx105_0; replace hx105_1 := cellB HB.out hx105_1; replace hx105_2 := cellB HB.out hx105_2; replace hx105_3 := cellB HB.out hx105_3; have HR105_3 := Aside0.mk hi105_3; have HC105_3 := Aside0.mk hl105_3; clear hi105_3 hl105_3; replace p105 := eq_true p105; replace q105 := eq_true q105) | ((with_reducible refine gate_callee (f := 44) rfl ?_); refine goesL_ (some 36) rfl rfl Try.func44 (by kernel_rfl) rfl #[.agg #[.string ((rd_T33 l0 a1).f0), .int .i64 ((rd_T33 l0 a1).f1), .int .i64 ((rd_T33 l0 a1).f2), .slice A105_3 ((rd_T33 l0 a1).f3).length c105_3], .int .i64 a2, .int .i64 a3] rfl d15a ?_; (with_reducible refine (perigeeref10_volume.calls k ((rd_T33 l0 a1).f0) ((rd_T33 l0 a1).f1) ((rd_T33 l0 a1).f2) _ _ ((rd_T33 l0 a1).f3) a2 a3 t106 _ ?side1 ?side2 A15.out).mono ?_); (case side1 => repeat (first | exact (Kd.C_below HR105_3.out d15b) | (with_reducible refine Kd.C_alloc ?_ _) | (with_reducible refine Kd.C_drewN ?_ _) | (with_reducible refine Kd.C_drew ?_))); (case side2 => exact HC105_3.out); rintro e w17 ⟨rfl, hb⟩; refine ⟨_, rfl, ?_⟩; replace HB := Aside0.mk (below_step d15b hb); (try clear hb)))
         go_ret2
         exact ⟨d15c, d15b⟩
       · replace c12 := Bool.eq_false_iff.mpr c12
         subst c12
         replace H := iteF H
         simp only [Option.some.injEq, Prod.mk.injEq] at H
         obtain ⟨rfl, rfl⟩ := H
         go_enter Try.func15, Try.ntmps15
         go_wp2_with (first | ((with_reducible refine gate_callee (f := 19) rfl ?_); refine goesL_ (some 12) rfl rfl Try.func19 (by kernel_rfl) rfl #[.slice A0 l0.length c0] rfl d15a ?_; (with_reducible refine (perigeeref10_CheckPasses.calls k _ _ l0 t101 _ ?side1 ?side2 A5.out).mono ?_); (case side1 => exact C_go HR0.out); (case side2 => exact HC0.out); rintro e w18 ⟨rfl, hb⟩; refine ⟨_, rfl, ?_⟩; replace HB := Aside0.mk (below_step d15b hb); (try clear hb)) | ((with_reducible refine gate_callee (f := 42) rfl ?_); refine goesL_ (some 20) rfl rfl Try.func42 (by kernel_rfl) rfl #[.int .i64 a1, .int .i64 0, .int .i64 (wrap64 ((l0.length : Int) - 1))] rfl d15a ?_; (with_reducible refine (perigeeref10_within.calls a1 0 (wrap64 ((l0.length : Int) - 1)) true _ A7.out).mono ?_); rintro e w' ⟨rfl, ⟨nd, rfl⟩⟩; refine ⟨_, rfl, ?_⟩) | ((with_reducible refine gate_callee (f := 43) rfl ?_); refine goesL_ (some 23) rfl rfl Try.func43 (by kernel_rfl) rfl #[.int .i64 a2] rfl d15a ?_; (with_reducible refine (perigeeref10_moment.calls a2 true _ A9.out).mono ?_); rintro e w' ⟨rfl, ⟨nd, rfl⟩⟩; refine ⟨_, rfl, ?_⟩) | (go_at_call 43; (with_reducible refine (perigeeref10_moment.calls a3 false _ A11.out).mono ?_); rintro e w' ⟨rfl, ⟨nd, rfl⟩⟩))
         go_ret2
         exact ⟨d15c, d15b⟩
     · replace c10 := Bool.eq_false_iff.mpr c10
       subst c10
       replace H := iteF H
       simp only [Option.some.injEq, Prod.mk.injEq] at H
       obtain ⟨rfl, rfl⟩ := H
       go_enter Try.func15, Try.ntmps15
       go_wp2_with (first | ((with_reducible refine gate_callee (f := 19) rfl ?_); refine goesL_ (some 12) rfl rfl Try.func19 (by kernel_rfl) rfl #[.slice A0 l0.length c0] rfl d15a ?_; (with_reducible refine (perigeeref10_CheckPasses.calls k _ _ l0 t101 _ ?side1 ?side2 A5.out).mono ?_); (case side1 => exact C_go HR0.out); (case side2 => exact HC0.out); rintro e w19 ⟨rfl, hb⟩; refine ⟨_, rfl, ?_⟩; replace HB := Aside0.mk (below_step d15b hb); (try clear hb)) | ((with_reducible refine gate_callee (f := 42) rfl ?_); refine goesL_ (some 20) rfl rfl Try.func42 (by kernel_rfl) rfl #[.int .i64 a1, .int .i64 0, .int .i64 (wrap64 ((l0.length : Int) - 1))] rfl d15a ?_; (with_reducible refine (perigeeref10_within.calls a1 0 (wrap64 ((l0.length : Int) - 1)) true _ A7.out).mono ?_); rintro e w' ⟨rfl, ⟨nd, rfl⟩⟩; refine ⟨_, rfl, ?_⟩) | ((with_reducible refine gate_callee (f := 43) rfl ?_); refine goesL_ (some 23) rfl rfl Try.func43 (by kernel_rfl) rfl #[.int .i64 a2] rfl d15a ?_; (with_reducible refine (perigeeref10_moment.calls a2 false _ A9.out).mono ?_); rintro e w' ⟨rfl, ⟨nd, rfl⟩⟩; refine ⟨_, rfl, ?_⟩))
       go_ret2
       exact ⟨d15c, d15b⟩
   · replace c8 := Bool.eq_false_iff.mpr c8
     subst c8
     replace H := iteF H
     simp only [Option.some.injEq, Prod.mk.injEq] at H
     obtain ⟨rfl, rfl⟩ := H
     go_enter Try.func15, Try.ntmps15
     go_wp2_with (first | ((with_reducible refine gate_callee (f := 19) rfl ?_); refine goesL_ (some 12) rfl rfl Try.func19 (by kernel_rfl) rfl #[.slice A0 l0.length c0] rfl d15a ?_; (with_reducible refine (perigeeref10_CheckPasses.calls k _ _ l0 t101 _ ?side1 ?side2 A5.out).mono ?_); (case side1 => exact C_go HR0.out); (case side2 => exact HC0.out); rintro e w20 ⟨rfl, hb⟩; refine ⟨_, rfl, ?_⟩; replace HB := Aside0.mk (below_step d15b hb); (try clear hb)) | ((with_reducible refine gate_callee (f := 42) rfl ?_); refine goesL_ (some 20) rfl rfl Try.func42 (by kernel_rfl) rfl #[.int .i64 a1, .int .i64 0, .int .i64 (wrap64 ((l0.length : Int) - 1))] rfl d15a ?_; (with_reducible refine (perigeeref10_within.calls a1 0 (wrap64 ((l0.length : Int) - 1)) false _ A7.out).mono ?_); rintro e w' ⟨rfl, ⟨nd, rfl⟩⟩; refine ⟨_, rfl, ?_⟩))
     go_ret2
     exact ⟨d15c, d15b⟩
 · rw [if_neg c6] at H
   have c6b0 : (t101 == 0) = false := beq_eq_false_iff_ne.mpr c6
   have c6b1 : (t101 != 0) = true := bne_iff_ne.mpr c6
   simp only [Option.some.injEq, Prod.mk.injEq] at H
   obtain ⟨rfl, rfl⟩ := H
   go_enter Try.func15, Try.ntmps15
   go_wp2_with ((with_reducible refine gate_callee (f := 19) rfl ?_); refine goesL_ (some 12) rfl rfl Try.func19 (by kernel_rfl) rfl #[.slice A0 l0.length c0] rfl d15a ?_; (with_reducible refine (perigeeref10_CheckPasses.calls k _ _ l0 t101 _ ?side1 ?side2 A5.out).mono ?_); (case side1 => exact C_go HR0.out); (case side2 => exact HC0.out); rintro e w21 ⟨rfl, hb⟩; refine ⟨_, rfl, ?_⟩; replace HB := Aside0.mk (below_step d15b hb); (try clear hb))
   go_ret2
   exact ⟨d15c, d15b⟩
/-! ### kit_Down: function 77 -/
def kit_Down.f (a0 : Int) (a1 : Int) : Option (Int) := if a1 = 0 then (none) else (if (Int.tmod a0 a1) < 0 then (some (wrap64 ((wrap64 (Int.tdiv a0 a1)) - 1))) else (some (wrap64 (Int.tdiv a0 a1))))
set_option maxHeartbeats 8000000 in
set_option maxRecDepth 100000 in
theorem kit_Down.calls (a0 : Int) (a1 : Int) (r : Int) (w : World) (h : kit_Down.f a0 a1 = some r) :
 Calls Try.prog 77 #[.int .i64 a0, .int .i64 a1] w fun e w' => e = .returned (.int .i64 r) ∧ Drawn0 w w' := by
 have H : (if a1 = 0 then (none) else (if (Int.tmod a0 a1) < 0 then (some (wrap64 ((wrap64 (Int.tdiv a0 a1)) - 1))) else (some (wrap64 (Int.tdiv a0 a1))))) = some r := h
 clear h
 by_cases c3 : a1 = 0
 · rw [if_pos c3] at H
   exact absurd H (by simp)
 · rw [if_neg c3] at H
   have c3b0 : (a1 == 0) = false := beq_eq_false_iff_ne.mpr c3
   have c3b1 : (a1 != 0) = true := bne_iff_ne.mpr c3
   by_cases c4 : (Int.tmod a0 a1) < 0
   · rw [if_pos c4] at H
     have c4b0 : decide ((Int.tmod a0 a1) < 0) = true := decide_eq_true c4
     clear c4
     obtain rfl := Option.some.inj H
     go_enter Try.func77, Try.ntmps77
     go_wp2
     go_ret
     exact ⟨by first | rfl | (simp; done) | (simp [*]; done), by repeat (first | exact Drawn0.refl _ | apply Drawn0.step)⟩
   · rw [if_neg c4] at H
     have c4b0 : decide ((Int.tmod a0 a1) < 0) = false := decide_eq_false c4
     clear c4
     obtain rfl := Option.some.inj H
     go_enter Try.func77, Try.ntmps77
     go_wp2
     go_ret
     exact ⟨by first | rfl | (simp; done) | (simp [*]; done), by repeat (first | exact Drawn0.refl _ | apply Drawn0.step)⟩
/-! ### kit_Up: function 46 -/
def kit_Up.f (a0 : Int) (a1 : Int) : Option (Int) := (kit_Down.f (wrap64 (-a0)) a1).bind fun t101 => (some (wrap64 (-t101)))
set_option maxHeartbeats 8000000 in
set_option maxRecDepth 100000 in
theorem kit_Up.calls (a0 : Int) (a1 : Int) (r : Int) (w : World) (h : kit_Up.f a0 a1 = some r) :
 Calls Try.prog 46 #[.int .i64 a0, .int .i64 a1] w fun e w' => e = .returned (.int .i64 r) ∧ Drawn0 w w' := by
 have H : ((kit_Down.f (wrap64 (-a0)) a1).bind fun t101 => (some (wrap64 (-t101)))) = some r := h
 clear h
 replace H := bindS H; obtain ⟨t101, A3, H⟩ := H
 obtain rfl := Option.some.inj H
 go_enter Try.func46, Try.ntmps46
 go_wp2_with ((with_reducible refine gate_callee (f := 77) rfl ?_); refine goesL_ (some 8) rfl rfl Try.func77 (by kernel_rfl) rfl #[.int .i64 (wrap64 (-a0)), .int .i64 a1] rfl (by (try simp only [List.map_toArray, List.map_cons, List.map_nil]); first | done | rfl | (simp only [List.length_drop, List.length_take]; rfl)) ?_; (with_reducible refine (kit_Down.calls (wrap64 (-a0)) a1 t101 _ A3.out).mono ?_); rintro e w' ⟨rfl, ⟨nd, rfl⟩⟩; refine ⟨_, rfl, ?_⟩)
 go_ret
 exact ⟨by first | rfl | (simp; done) | (simp [*]; done), by repeat (first | exact Drawn0.refl _ | apply Drawn0.step)⟩
/-! ### contact_Until: function 16 -/
def contact_Until.l0 : Nat → Int → Int → List (S81) → Int → Int → Option (Int × Bool × Int)
  | 0, _, _, _, _, _ => none
  | k + 1, x2, x3, x35, x36, x37 => if x37 < x36 then (if 0 ≤ x37 then (if x37 < (x35.length : Int) then (if (mx ((rd_T81 x35 x37).f0) x2) ≥ ((rd_T81 x35 x37).f1) then (contact_Until.l0 k x2 x3 x35 x36 (wrap64 (x37 + 1))) else (if (wrap64 ((wrap64 (((rd_T81 x35 x37).f1) - (mx ((rd_T81 x35 x37).f0) x2))) * ((rd_T81 x35 x37).f2))) ≥ x3 then ((kit_Up.f x3 ((rd_T81 x35 x37).f2)).bind fun t114 => (some (wrap64 ((mx ((rd_T81 x35 x37).f0) x2) + t114), true, 0))) else (contact_Until.l0 k x2 (wrap64 (x3 - (wrap64 ((wrap64 (((rd_T81 x35 x37).f1) - (mx ((rd_T81 x35 x37).f0) x2))) * ((rd_T81 x35 x37).f2))))) x35 x36 (wrap64 (x37 + 1))))) else (none)) else (none)) else (some (0, false, 0))
def contact_Until.f (k : Nat) (l0 : List (S33)) (a1 : Int) (a2 : Int) (a3 : Int) : Option (Int × Bool × Int) := (contact_at.f k l0 a1).bind fun t101 => ((kit_Range.f a2 0 1000000000000).bind fun t102 => ((kit_Range.f a3 0 1000000000000).bind fun t103 => ((kit_First.f k (([t101, t102, t103] : List Int))).bind fun t107 => (if t107 = 0 then (if a3 = 0 then (some (a2, true, 0)) else (if 0 ≤ a1 then (if a1 < (l0.length : Int) then ((contact_stretches.f k ((rd_T33 l0 a1).f0) ((rd_T33 l0 a1).f1) ((rd_T33 l0 a1).f2) ((rd_T33 l0 a1).f3)).bind fun t109 => (contact_Until.l0 k a2 a3 t109 (t109.length : Int) 0)) else (none)) else (none))) else (some (0, false, t107))))))
theorem contact_Until.mono_l : ∀ k, (∀ y0 y1 y2 y3 y4, LeO (contact_Until.l0 k y0 y1 y2 y3 y4) (contact_Until.l0 (k + 1) y0 y1 y2 y3 y4))
  | 0 => fun _ _ _ _ _ r h => by simp [contact_Until.l0] at h
  | k + 1 => by
    have ih0 := contact_Until.mono_l k
    · intro y0 y1 y2 y3 y4
      unfold contact_Until.l0
      repeat' first
      | (with_reducible exact ih0 _ _ _ _ _)
      | (with_reducible exact contact_at.mono _ _ _)
      | (with_reducible exact contact_stretches.mono _ _ _ _ _)
      | (with_reducible exact kit_First.mono _ _)
      | (with_reducible exact LeO.refl _)
      | (with_reducible exact LeO.none _)
      | (with_reducible refine LeO.ite ?_ ?_)
      | (with_reducible refine LeO.bind ?_ (fun _ => ?_))
      | exact ih0 _ _ _ _ _
      | exact contact_at.mono _ _ _
      | exact contact_stretches.mono _ _ _ _ _
      | exact kit_First.mono _ _
      | exact LeO.none _
      | refine LeO.ite ?_ ?_
      | refine LeO.bind ?_ (fun _ => ?_)
theorem contact_Until.mono : ∀ a0 a1 a2 a3 k, LeO (contact_Until.f k a0 a1 a2 a3) (contact_Until.f (k + 1) a0 a1 a2 a3) := by
  intro a0 a1 a2 a3 k
  have ih0 := contact_Until.mono_l k
  unfold contact_Until.f
  repeat' first
      | (with_reducible exact ih0 _ _ _ _ _)
      | (with_reducible exact contact_at.mono _ _ _)
      | (with_reducible exact contact_stretches.mono _ _ _ _ _)
      | (with_reducible exact kit_First.mono _ _)
      | (with_reducible exact LeO.refl _)
      | (with_reducible exact LeO.none _)
      | (with_reducible refine LeO.ite ?_ ?_)
      | (with_reducible refine LeO.bind ?_ (fun _ => ?_))
      | exact ih0 _ _ _ _ _
      | exact contact_at.mono _ _ _
      | exact contact_stretches.mono _ _ _ _ _
      | exact kit_First.mono _ _
      | exact LeO.none _
      | refine LeO.ite ?_ ?_
      | refine LeO.bind ?_ (fun _ => ?_)
theorem d16a {p : Prop} (h : p := by repeat (first | (with_reducible first | exact HB.out | apply below_alloc | apply pw_below_drewN | apply below_drew1 | refine below_set ?_ GE113.out) | exact HB.out)) : p := h
theorem d16b {p : Prop} (h : p := by (try simp only [List.map_toArray, List.map_cons, List.map_nil]); first | done | rfl | (simp only [List.length_drop, List.length_take]; rfl)) : p := h
theorem d16c {p : Prop} (h : p := by repeat (first | (with_reducible first | exact HB.out | apply below_alloc | apply pw_below_drewN | apply below_drew1) | exact HB.out)) : p := h
theorem d16d {p : Prop} (h : p := by (with_reducible repeat (first | apply Kd.R_alloc | apply Kd.R_drewN | apply Kd.R_drew)); exact HO_35.out) : p := h
theorem d16e {p : Prop} (h : p := by first | rfl | (simp [errW_none, errW_some] <;> rfl) | (simp [*, errW_none, errW_some] <;> rfl)) : p := h
theorem d16f {p : Prop} (h : p := by first | (with_reducible assumption) | assumption) : p := h
theorem d16g {p : Prop} (h : p := by first | rfl | (simp; done) | (simp [*]; done)) : p := h
theorem d16h {p : Prop} (h : p := by first | (go_simp; done) | (go_simp; rfl)) : p := h
set_option maxHeartbeats 8000000 in
set_option maxRecDepth 100000 in
theorem contact_Until.calls (k : Nat) (A0 : Option Addr) (c0 : Nat) (l0 : List (S33)) (a1 : Int) (a2 : Int) (a3 : Int) (r1 : Int) (r2 : Bool) (r3 : Int) (w : World) (hr0 : Kd.C k33 w A0 l0.length l0) (hc0 : l0.length ≤ c0) (h : contact_Until.f k l0 a1 a2 a3 = some (r1, r2, r3)) :
 Calls Try.prog 16 #[.slice A0 l0.length c0, .int .i64 a1, .int .i64 a2, .int .i64 a3] w fun e w' => e = .returned (.tuple #[.int .i64 r1, .bool r2, .int .i64 r3]) ∧ Below w.heap.size w w' := by
 have hu33 := Try.underlying33
 have hu81 := Try.underlying81
 have HR0 := Aside0.mk hr0
 have HC0 := Aside0.mk hc0
 clear hr0 hc0
 have HB := Aside0.mk (Below.refl w.heap.size w)
 have H : ((contact_at.f k l0 a1).bind fun t101 => ((kit_Range.f a2 0 1000000000000).bind fun t102 => ((kit_Range.f a3 0 1000000000000).bind fun t103 => ((kit_First.f k (([t101, t102, t103] : List Int))).bind fun t107 => (if t107 = 0 then (if a3 = 0 then (some (a2, true, 0)) else (if 0 ≤ a1 then (if a1 < (l0.length : Int) then ((contact_stretches.f k ((rd_T33 l0 a1).f0) ((rd_T33 l0 a1).f1) ((rd_T33 l0 a1).f2) ((rd_T33 l0 a1).f3)).bind fun t109 => (contact_Until.l0 k a2 a3 t109 (t109.length : Int) 0)) else (none)) else (none))) else (some (0, false, t107))))))) = some (r1, r2, r3) := h
 clear h
 replace H := bindS H; obtain ⟨t101, A5, H⟩ := H
 replace H := bindS H; obtain ⟨t102, A6, H⟩ := H
 replace H := bindS H; obtain ⟨t103, A7, H⟩ := H
 obtain ⟨y104, hy104⟩ : ∃ y_ : List Int, y_ = (([t101, t102, t103] : List Int)) := ⟨_, rfl⟩
 replace H : ((kit_First.f k y104).bind fun t107 => (if t107 = 0 then (if a3 = 0 then (some (a2, true, 0)) else (if 0 ≤ a1 then (if a1 < (l0.length : Int) then ((contact_stretches.f k ((rd_T33 l0 a1).f0) ((rd_T33 l0 a1).f1) ((rd_T33 l0 a1).f2) ((rd_T33 l0 a1).f3)).bind fun t109 => (contact_Until.l0 k a2 a3 t109 (t109.length : Int) 0)) else (none)) else (none))) else (some (0, false, t107)))) = some (r1, r2, r3) := by first | (rw [hy104]; with_reducible exact H) | (have H2_ := (Option.bind_some _ _).symm.trans H; rw [hy104]; with_reducible exact H2_) | (have H2_ := (Option.bind_some _ _).symm.trans H; with_reducible exact H2_) | with_reducible exact H | (rw [hy104]; exact H) | exact H
 have Ny104 := Aside0.mk hy104
 clear hy104
 replace H := bindS H; obtain ⟨t107, A8, H⟩ := H
 by_cases c9 : t107 = 0
 · rw [if_pos c9] at H
   have c9b0 : (t107 == 0) = true := beq_iff_eq.mpr c9
   have c9b1 : (t107 != 0) = false := bne_eq_false_iff_eq.mpr c9
   clear c9
   by_cases c10 : a3 = 0
   · rw [if_pos c10] at H
     have c10b0 : (a3 == 0) = true := beq_iff_eq.mpr c10
     have c10b1 : (a3 != 0) = false := bne_eq_false_iff_eq.mpr c10
     clear c10
     simp only [Option.some.injEq, Prod.mk.injEq] at H
     obtain ⟨rfl, rfl, rfl⟩ := H
     go_enter Try.func16, Try.ntmps16
     go_wp2_with (first | ((with_reducible refine gate_callee (f := 39) rfl ?_); refine goesL_ (some 18) rfl rfl Try.func39 (by kernel_rfl) rfl #[.slice A0 l0.length c0, .int .i64 a1] rfl d16b ?_; (with_reducible refine (contact_at.calls k _ _ l0 a1 t101 _ ?side1 ?side2 A5.out).mono ?_); (case side1 => exact C_go HR0.out); (case side2 => exact HC0.out); rintro e w11 ⟨rfl, hb⟩; refine ⟨_, rfl, ?_⟩; replace HB := Aside0.mk (below_step d16c hb); (try clear hb)) | ((with_reducible refine gate_callee (f := 40) rfl ?_); refine goesL_ (some 20) rfl rfl Try.func40 (by kernel_rfl) rfl #[.int .i64 a2, .int .i64 0, .int .i64 1000000000000] rfl d16b ?_; (with_reducible refine (kit_Range.calls a2 0 1000000000000 t102 _ A6.out).mono ?_); rintro e w' ⟨rfl, ⟨nd, rfl⟩⟩; refine ⟨_, rfl, ?_⟩) | ((with_reducible refine gate_callee (f := 40) rfl ?_); refine goesL_ (some 22) rfl rfl Try.func40 (by kernel_rfl) rfl #[.int .i64 a3, .int .i64 0, .int .i64 1000000000000] rfl d16b ?_; (with_reducible refine (kit_Range.calls a3 0 1000000000000 t103 _ A7.out).mono ?_); rintro e w' ⟨rfl, ⟨nd, rfl⟩⟩; refine ⟨_, rfl, ?_⟩) | ((with_reducible refine gate_dst (N := 23) rfl ?_); refine Kd.R_lit (Kd.int .i64) _ 23 ?hg (N := 23) ?hd (xs := ([t101, t102, t103] : List Int)) (inner := [.int .i64 t101, .int .i64 t102, .int .i64 t103]) (ok := fun _ => True) (okp := fun _ => True) ?hr ?hp (fun _ hk => hk) trivial (Below.refl _ _) (Nat.le_refl _) (by simp) ?_; (case hd => rfl); (case hg => rfl); (case hr => exact d16h); (case hp => exact (Reps.one (show Kd.M (Kd.int .i64) _ _ _ t101 [.int .i64 t101] from rfl) (Reps.one (show Kd.M (Kd.int .i64) _ _ _ t102 [.int .i64 t102] from rfl) (Reps.one (show Kd.M (Kd.int .i64) _ _ _ t103 [.int .i64 t103] from rfl) (Reps.none _ _))))); intro v105 w12 ho13 hb hg_ hnew_; clear hg_ hnew_; (first | rw [← Ny104.out] at ho13 | (simp only [Int.reduceToNat] at ho13; rw [← Ny104.out] at ho13)); have n0_ := Aside0.mk (Kd.R_lower ho13 (below_size d16c)); have n1_ := Aside0.mk (below_step d16c hb); clear HB; have HO106 := n0_; have HB := n1_; clear n0_ n1_; clear hb ho13; obtain ⟨Ao14, co14, eo14⟩ := Kd.R_slice HO106.out; subst eo14) | ((with_reducible refine gate_callee (f := 38) rfl ?_); refine goesL_ (some 24) rfl rfl Try.func38 (by kernel_rfl) rfl #[.slice Ao14 y104.length co14] rfl d16b ?_; (with_reducible refine (kit_First.calls k _ _ y104 t107 _ ?side1 ?side2 A8.out).mono ?_); (case side1 => exact C_go (Kd.R_reads' HO106.out).2.2); (case side2 => exact (Kd.R_reads' HO106.out).2.1); rintro e w' ⟨rfl, ⟨nd, rfl⟩⟩; refine ⟨_, rfl, ?_⟩))
     go_ret3
     exact ⟨d16e, d16c⟩
   · rw [if_neg c10] at H
     have c10b0 : (a3 == 0) = false := beq_eq_false_iff_ne.mpr c10
     have c10b1 : (a3 != 0) = true := bne_iff_ne.mpr c10
     replace H := guardT H; obtain ⟨c15, H⟩ := H
     have c15b0 : decide (0 ≤ a1) = true := decide_eq_true c15
     clear c15
     replace H := guardT H; obtain ⟨c16, H⟩ := H
     have c16b0 : decide (a1 < (l0.length : Int)) = true := decide_eq_true c16
     clear c16
     replace H := bindS H; obtain ⟨t109, A17, H⟩ := H
     have H' := Aside0.mk H
     clear H
     go_enter Try.func16, Try.ntmps16
     go_wp2_with (first | ((with_reducible refine gate_callee (f := 39) rfl ?_); refine goesL_ (some 18) rfl rfl Try.func39 (by kernel_rfl) rfl #[.slice A0 l0.length c0, .int .i64 a1] rfl d16b ?_; (with_reducible refine (contact_at.calls k _ _ l0 a1 t101 _ ?side1 ?side2 A5.out).mono ?_); (case side1 => exact C_go HR0.out); (case side2 => exact HC0.out); rintro e w18 ⟨rfl, hb⟩; refine ⟨_, rfl, ?_⟩; replace HB := Aside0.mk (below_step d16c hb); (try clear hb)) | ((with_reducible refine gate_callee (f := 40) rfl ?_); refine goesL_ (some 20) rfl rfl Try.func40 (by kernel_rfl) rfl #[.int .i64 a2, .int .i64 0, .int .i64 1000000000000] rfl d16b ?_; (with_reducible refine (kit_Range.calls a2 0 1000000000000 t102 _ A6.out).mono ?_); rintro e w' ⟨rfl, ⟨nd, rfl⟩⟩; refine ⟨_, rfl, ?_⟩) | ((with_reducible refine gate_callee (f := 40) rfl ?_); refine goesL_ (some 22) rfl rfl Try.func40 (by kernel_rfl) rfl #[.int .i64 a3, .int .i64 0, .int .i64 1000000000000] rfl d16b ?_; (with_reducible refine (kit_Range.calls a3 0 1000000000000 t103 _ A7.out).mono ?_); rintro e w' ⟨rfl, ⟨nd, rfl⟩⟩; refine ⟨_, rfl, ?_⟩) | ((with_reducible refine gate_dst (N := 23) rfl ?_); refine Kd.R_lit (Kd.int .i64) _ 23 ?hg (N := 23) ?hd (xs := ([t101, t102, t103] : List Int)) (inner := [.int .i64 t101, .int .i64 t102, .int .i64 t103]) (ok := fun _ => True) (okp := fun _ => True) ?hr ?hp (fun _ hk => hk) trivial (Below.refl _ _) (Nat.le_refl _) (by simp) ?_; (case hd => rfl); (case hg => rfl); (case hr => exact d16h); (case hp => exact (Reps.one (show Kd.M (Kd.int .i64) _ _ _ t101 [.int .i64 t101] from rfl) (Reps.one (show Kd.M (Kd.int .i64) _ _ _ t102 [.int .i64 t102] from rfl) (Reps.one (show Kd.M (Kd.int .i64) _ _ _ t103 [.int .i64 t103] from rfl) (Reps.none _ _))))); intro v105 w19 ho20 hb hg_ hnew_; clear hg_ hnew_; (first | rw [← Ny104.out] at ho20 | (simp only [Int.reduceToNat] at ho20; rw [← Ny104.out] at ho20)); have n0_ := Aside0.mk (Kd.R_lower ho20 (below_size d16c)); have n1_ := Aside0.mk (below_step d16c hb); clear HB; have HO106 := n0_; have HB := n1_; clear n0_ n1_; clear hb ho20; obtain ⟨Ao21, co21, eo21⟩ := Kd.R_slice HO106.out; subst eo21) | ((with_reducible refine gate_callee (f := 38) rfl ?_); refine goesL_ (some 24) rfl rfl Try.func38 (by kernel_rfl) rfl #[.slice Ao21 y104.length co21] rfl d16b ?_; (with_reducible refine (kit_First.calls k _ _ y104 t107 _ ?side1 ?side2 A8.out).mono ?_); (case side1 => exact C_go (Kd.R_reads' HO106.out).2.2); (case side2 => exact (Kd.R_reads' HO106.out).2.1); rintro e w' ⟨rfl, ⟨nd, rfl⟩⟩; refine ⟨_, rfl, ?_⟩; have p108 : 0 ≤ (a1 : Int) := of_decide_eq_true d16f; have q108 : a1 < (l0.length : Int) := of_decide_eq_true d16f; obtain ⟨ad108, A108_3, c108_3, e108, hx108_0, hx108_1, hx108_2, hx108_3, hl108_3, hi108_3⟩ := at_T33 HR0.out a1 p108 q108; cases e108; replace hx108_0 := cellB HB.out hx108_0; replace hx108_1 := cellB HB.out hx108_1; replace hx108_2 := cellB HB.out hx108_2; replace hx108_3 := cellB HB.out hx108_3; have HR108_3 := Aside0.mk hi108_3; have HC108_3 := Aside0.mk hl108_3; clear hi108_3 hl108_3; replace p108 := eq_true p108; replace q108 := eq_true q108) | ((with_reducible refine gate_callee (f := 45) rfl ?_); refine goesL_ (some 35) rfl rfl Try.func45 (by kernel_rfl) rfl #[.agg #[.string ((rd_T33 l0 a1).f0), .int .i64 ((rd_T33 l0 a1).f1), .int .i64 ((rd_T33 l0 a1).f2), .slice A108_3 ((rd_T33 l0 a1).f3).length c108_3]] rfl d16b ?_; (with_reducible refine (contact_stretches.calls k ((rd_T33 l0 a1).f0) ((rd_T33 l0 a1).f1) ((rd_T33 l0 a1).f2) _ _ ((rd_T33 l0 a1).f3) t109 _ ?side1 ?side2 A17.out).mono ?_); (case side1 => repeat (first | exact (Kd.C_below HR108_3.out d16c) | (with_reducible refine Kd.C_alloc ?_ _) | (with_reducible refine Kd.C_drewN ?_ _) | (with_reducible refine Kd.C_drew ?_))); (case side2 => exact HC108_3.out); rintro e w22 ⟨v110, rfl, ho0, hb⟩; refine ⟨_, rfl, ?_⟩; have n0_ := Aside0.mk (Kd.R_below (by (with_reducible repeat (first | apply Kd.R_alloc | apply Kd.R_drewN | apply Kd.R_drew)); exact HO106.out) hb); have n1_ := Aside0.mk (Kd.R_lower ho0 (below_size d16c)); have n2_ := Aside0.mk (below_step d16c hb); clear HO106; clear HB; have HO106 := n0_; have HO111 := n1_; have HB := n2_; clear n0_ n1_ n2_; (try clear hb); (try clear ho0); obtain ⟨Ao23, co23, eo23⟩ := Kd.R_slice HO111.out; subst eo23))
     go_loopg [3, 37] k (fun kq v3 v37 w' => ∃ (x3_1 : Int) (x37_1 : Int), v3 = .int .i64 x3_1 ∧ v37 = .int .i64 x37_1 ∧ Aside0 (contact_Until.l0 kq a2 x3_1 t109 (t109.length : Int) x37_1 = some (r1, r2, r3)) ∧ Aside0 (kq ≤ k) ∧ Aside0 (Kd.R k81 81 w' w.heap.size (fun _ => True) (.slice Ao23 t109.length co23) t109) ∧ Aside0 (Below w.heap.size w w'))
     case atStart => exact ⟨(a3), (0), d16g, d16g, H', ⟨Nat.le_refl _⟩, ⟨by (with_reducible repeat (first | apply Kd.R_alloc | apply Kd.R_drewN | apply Kd.R_drew)); exact HO111.out⟩, ⟨d16c⟩⟩
     case round =>
      clear H'
      try clear c9b0
      try clear c9b1
      try clear c10
      try clear c10b0
      try clear c10b1
      try clear c15b0
      try clear c16b0
      try clear hx108_0
      try clear hx108_1
      try clear hx108_2
      try clear hx108_3
      try clear p108
      try clear q108
      obtain ⟨x3_1, x37_1, rfl, rfl, HA, HK1, HO_35, HB⟩ := hrel
      cases gk with
      | zero => exact absurd HA.out (by simp [contact_Until.l0])
      | succ k1 =>
       have H := HA.out
       clear HA
       simp only [contact_Until.l0] at H
       by_cases c24 : x37_1 < (t109.length : Int)
       · rw [if_pos c24] at H
         have c24b0 : decide (x37_1 < (t109.length : Int)) = true := decide_eq_true c24
         clear c24
         replace H := guardT H; obtain ⟨c25, H⟩ := H
         have c25b0 : decide (0 ≤ x37_1) = true := decide_eq_true c25
         clear c25
         replace H := guardT H; obtain ⟨c26, H⟩ := H
         have c26b0 : decide (x37_1 < (t109.length : Int)) = true := decide_eq_true c26
         clear c26
         obtain ⟨ji27, hji27⟩ : ∃ j_ : Int, (mx ((rd_T81 t109 x37_1).f0) a2) = j_ := ⟨_, rfl⟩
         replace H : (if (ji27) ≥ ((rd_T81 t109 x37_1).f1) then (contact_Until.l0 k1 a2 x3_1 t109 (t109.length : Int) (wrap64 (x37_1 + 1))) else (if (wrap64 ((wrap64 (((rd_T81 t109 x37_1).f1) - (ji27))) * ((rd_T81 t109 x37_1).f2))) ≥ x3_1 then ((kit_Up.f x3_1 ((rd_T81 t109 x37_1).f2)).bind fun t114 => (some (wrap64 ((ji27) + t114), true, 0))) else (contact_Until.l0 k1 a2 (wrap64 (x3_1 - (wrap64 ((wrap64 (((rd_T81 t109 x37_1).f1) - (ji27))) * ((rd_T81 t109 x37_1).f2))))) t109 (t109.length : Int) (wrap64 (x37_1 + 1))))) = some (r1, r2, r3) := by first | (rw [hji27] at H; exact H) | (simp only [hji27] at H ⊢; exact H)
         have hji27_ : (if ((rd_T81 t109 x37_1).f0) < a2 then a2 else ((rd_T81 t109 x37_1).f0)) = ji27 := hji27
         by_cases c28 : (ji27) ≥ ((rd_T81 t109 x37_1).f1)
         · rw [if_pos c28] at H
           have c28b0 : decide (((rd_T81 t109 x37_1).f1) ≤ (ji27)) = true := decide_eq_true c28
           clear c28
           have H' := Aside0.mk H
           clear H
           have p112 : 0 ≤ (x37_1 : Int) := of_decide_eq_true d16f
           have q112 : x37_1 < (t109.length : Int) := of_decide_eq_true d16f
           obtain ⟨ad112, e112, hx112_0, hx112_1, hx112_2⟩ := at_T81 (Kd.R_reads' HO_35.out).2.2 x37_1 p112 q112
           cases e112
           replace p112 := eq_true p112
           replace q112 := eq_true q112
           go_wp2_with ((with_reducible refine gate_dst (N := 13) rfl ?_); refine box_event ?hg (N := 13) ?hd (cs := #[.int .i64 0, .int .i64 0, .int .i64 0]) (t := 81) ?hr ?_; (case hd => rfl); (case hg => rfl); (case hr => exact d16h); intro gb113 hg w29 hbox hb; have n0_ := Aside0.mk (Kd.R_below (Kd.R_elderB d16d gb113 (Nat.le_of_eq hg.symm)) hb); have n1_ := Aside0.mk (below_step d16c hb); have n2_ := Aside0.mk (hbox); have n3_ := Aside0.mk ((by rw [hg]; exact (below_size d16c) : w.heap.size ≤ gb113)); have n4_ := Aside0.mk ((by rw [hg]; exact (below_size d16c) : w.heap.size ≤ gb113)); clear HO_35; clear HB; have HO_35 := n0_; have HB := n1_; have BK113 := n2_; have GW113 := n3_; have GE113 := n4_; clear n0_ n1_ n2_ n3_ n4_; clear hb hbox hg; have hcz30_0 : w29.cell? ⟨gb113, 0, none⟩ = some (.int .i64 0) := (blk_cell BK113.out 0).trans rfl; have hcz30_1 : w29.cell? ⟨gb113, 1, none⟩ = some (.int .i64 0) := (blk_cell BK113.out 1).trans rfl; have hcz30_2 : w29.cell? ⟨gb113, 2, none⟩ = some (.int .i64 0) := (blk_cell BK113.out 2).trans rfl; have hfz30_0 := blk_frozen BK113.out 0; have hfz30_1 := blk_frozen BK113.out 1; have hfz30_2 := blk_frozen BK113.out 2)
           go_roundg k1
           case measure => have := HK1.out; omega
           case rel => exact ⟨(x3_1), (wrap64 (x37_1 + 1)), d16g, d16g, H', ⟨by have := HK1.out; omega⟩, ⟨by (with_reducible repeat (first | apply Kd.R_alloc | apply Kd.R_drewN | apply Kd.R_drew)); exact Kd.R_mono (Kd.R_far (p := ⟨gb113, 2, none⟩) (Kd.R_far (p := ⟨gb113, 1, none⟩) (Kd.R_far (p := ⟨gb113, 0, none⟩) (Kd.R_mono HO_35.out (fun k_ hk => (⟨hk, hk.2⟩ : _ ∧ k_ ≠ gb113))) (fun _ hk => hk.2) (.int .i64 ((rd_T81 t109 x37_1).f0))) (fun _ hk => hk.2) (.int .i64 ((rd_T81 t109 x37_1).f1))) (fun _ hk => hk.2) (.int .i64 ((rd_T81 t109 x37_1).f2))) (fun _ hk => trivial)⟩, ⟨d16a⟩⟩
         · rw [if_neg c28] at H
           have c28b0 : decide (((rd_T81 t109 x37_1).f1) ≤ (ji27)) = false := decide_eq_false c28
           clear c28
           by_cases c31 : (wrap64 ((wrap64 (((rd_T81 t109 x37_1).f1) - (ji27))) * ((rd_T81 t109 x37_1).f2))) ≥ x3_1
           · rw [if_pos c31] at H
             have c31b0 : decide (x3_1 ≤ (wrap64 ((wrap64 (((rd_T81 t109 x37_1).f1) - (ji27))) * ((rd_T81 t109 x37_1).f2)))) = true := decide_eq_true c31
             clear c31
             replace H := bindS H; obtain ⟨t114, A32, H⟩ := H
             simp only [Option.some.injEq, Prod.mk.injEq] at H
             obtain ⟨rfl, rfl, rfl⟩ := H
             have p112 : 0 ≤ (x37_1 : Int) := of_decide_eq_true d16f
             have q112 : x37_1 < (t109.length : Int) := of_decide_eq_true d16f
             obtain ⟨ad112, e112, hx112_0, hx112_1, hx112_2⟩ := at_T81 (Kd.R_reads' HO_35.out).2.2 x37_1 p112 q112
             cases e112
             replace p112 := eq_true p112
             replace q112 := eq_true q112
             go_wp2_with (first | ((with_reducible refine gate_dst (N := 13) rfl ?_); refine box_event ?hg (N := 13) ?hd (cs := #[.int .i64 0, .int .i64 0, .int .i64 0]) (t := 81) ?hr ?_; (case hd => rfl); (case hg => rfl); (case hr => exact d16h); intro gb113 hg w33 hbox hb; have n0_ := Aside0.mk (Kd.R_below (Kd.R_elderB d16d gb113 (Nat.le_of_eq hg.symm)) hb); have n1_ := Aside0.mk (below_step d16c hb); have n2_ := Aside0.mk (hbox); have n3_ := Aside0.mk ((by rw [hg]; exact (below_size d16c) : w.heap.size ≤ gb113)); have n4_ := Aside0.mk ((by rw [hg]; exact (below_size d16c) : w.heap.size ≤ gb113)); clear HO_35; clear HB; have HO_35 := n0_; have HB := n1_; have BK113 := n2_; have GW113 := n3_; have GE113 := n4_; clear n0_ n1_ n2_ n3_ n4_; clear hb hbox hg; have hcz34_0 : w33.cell? ⟨gb113, 0, none⟩ = some (.int .i64 0) := (blk_cell BK113.out 0).trans rfl; have hcz34_1 : w33.cell? ⟨gb113, 1, none⟩ = some (.int .i64 0) := (blk_cell BK113.out 1).trans rfl; have hcz34_2 : w33.cell? ⟨gb113, 2, none⟩ = some (.int .i64 0) := (blk_cell BK113.out 2).trans rfl; have hfz34_0 := blk_frozen BK113.out 0; have hfz34_1 := blk_frozen BK113.out 1; have hfz34_2 := blk_frozen BK113.out 2) | ((with_reducible refine gate_callee (f := 46) rfl ?_); refine goesL_ (some 63) rfl rfl Try.func46 (by kernel_rfl) rfl #[.int .i64 x3_1, .int .i64 ((rd_T81 t109 x37_1).f2)] rfl d16b ?_; (with_reducible refine (kit_Up.calls x3_1 ((rd_T81 t109 x37_1).f2) t114 _ A32.out).mono ?_); rintro e w' ⟨rfl, ⟨nd, rfl⟩⟩; refine ⟨_, rfl, ?_⟩))
             go_ret3
             exact ⟨by first | rfl | (simp [errW_none, errW_some] <;> rfl) | (simp only [← hji27]; first | rfl | (simp [errW_none, errW_some] <;> rfl)) | (simp [*, errW_none, errW_some] <;> rfl), d16a⟩
           · rw [if_neg c31] at H
             have c31b0 : decide (x3_1 ≤ (wrap64 ((wrap64 (((rd_T81 t109 x37_1).f1) - (ji27))) * ((rd_T81 t109 x37_1).f2)))) = false := decide_eq_false c31
             clear c31
             have H' := Aside0.mk H
             clear H
             have p112 : 0 ≤ (x37_1 : Int) := of_decide_eq_true d16f
             have q112 : x37_1 < (t109.length : Int) := of_decide_eq_true d16f
             obtain ⟨ad112, e112, hx112_0, hx112_1, hx112_2⟩ := at_T81 (Kd.R_reads' HO_35.out).2.2 x37_1 p112 q112
             cases e112
             replace p112 := eq_true p112
             replace q112 := eq_true q112
             go_wp2_with ((with_reducible refine gate_dst (N := 13) rfl ?_); refine box_event ?hg (N := 13) ?hd (cs := #[.int .i64 0, .int .i64 0, .int .i64 0]) (t := 81) ?hr ?_; (case hd => rfl); (case hg => rfl); (case hr => exact d16h); intro gb113 hg w35 hbox hb; have n0_ := Aside0.mk (Kd.R_below (Kd.R_elderB d16d gb113 (Nat.le_of_eq hg.symm)) hb); have n1_ := Aside0.mk (below_step d16c hb); have n2_ := Aside0.mk (hbox); have n3_ := Aside0.mk ((by rw [hg]; exact (below_size d16c) : w.heap.size ≤ gb113)); have n4_ := Aside0.mk ((by rw [hg]; exact (below_size d16c) : w.heap.size ≤ gb113)); clear HO_35; clear HB; have HO_35 := n0_; have HB := n1_; have BK113 := n2_; have GW113 := n3_; have GE113 := n4_; clear n0_ n1_ n2_ n3_ n4_; clear hb hbox hg; have hcz36_0 : w35.cell? ⟨gb113, 0, none⟩ = some (.int .i64 0) := (blk_cell BK113.out 0).trans rfl; have hcz36_1 : w35.cell? ⟨gb113, 1, none⟩ = some (.int .i64 0) := (blk_cell BK113.out 1).trans rfl; have hcz36_2 : w35.cell? ⟨gb113, 2, none⟩ = some (.int .i64 0) := (blk_cell BK113.out 2).trans rfl; have hfz36_0 := blk_frozen BK113.out 0; have hfz36_1 := blk_frozen BK113.out 1; have hfz36_2 := blk_frozen BK113.out 2)
             go_roundg k1
             case measure => have := HK1.out; omega
             case rel => exact ⟨(wrap64 (x3_1 - (wrap64 ((wrap64 (((rd_T81 t109 x37_1).f1) - (ji27))) * ((rd_T81 t109 x37_1).f2))))), (wrap64 (x37_1 + 1)), (by first | rfl | (simp; done) | (simp only [← hji27] <;> (first | rfl | simp)) | (simp [*]; done)), d16g, H', ⟨by have := HK1.out; omega⟩, ⟨by (with_reducible repeat (first | apply Kd.R_alloc | apply Kd.R_drewN | apply Kd.R_drew)); exact Kd.R_mono (Kd.R_far (p := ⟨gb113, 2, none⟩) (Kd.R_far (p := ⟨gb113, 1, none⟩) (Kd.R_far (p := ⟨gb113, 0, none⟩) (Kd.R_mono HO_35.out (fun k_ hk => (⟨hk, hk.2⟩ : _ ∧ k_ ≠ gb113))) (fun _ hk => hk.2) (.int .i64 ((rd_T81 t109 x37_1).f0))) (fun _ hk => hk.2) (.int .i64 ((rd_T81 t109 x37_1).f1))) (fun _ hk => hk.2) (.int .i64 ((rd_T81 t109 x37_1).f2))) (fun _ hk => trivial)⟩, ⟨d16a⟩⟩
       · rw [if_neg c24] at H
         have c24b0 : decide (x37_1 < (t109.length : Int)) = false := decide_eq_false c24
         clear c24
         simp only [Option.some.injEq, Prod.mk.injEq] at H
         obtain ⟨rfl, rfl, rfl⟩ := H
         go_wp2
         go_ret3
         exact ⟨d16e, d16c⟩
 · rw [if_neg c9] at H
   have c9b0 : (t107 == 0) = false := beq_eq_false_iff_ne.mpr c9
   have c9b1 : (t107 != 0) = true := bne_iff_ne.mpr c9
   simp only [Option.some.injEq, Prod.mk.injEq] at H
   obtain ⟨rfl, rfl, rfl⟩ := H
   go_enter Try.func16, Try.ntmps16
   go_wp2_with (first | ((with_reducible refine gate_callee (f := 39) rfl ?_); refine goesL_ (some 18) rfl rfl Try.func39 (by kernel_rfl) rfl #[.slice A0 l0.length c0, .int .i64 a1] rfl d16b ?_; (with_reducible refine (contact_at.calls k _ _ l0 a1 t101 _ ?side1 ?side2 A5.out).mono ?_); (case side1 => exact C_go HR0.out); (case side2 => exact HC0.out); rintro e w37 ⟨rfl, hb⟩; refine ⟨_, rfl, ?_⟩; replace HB := Aside0.mk (below_step d16c hb); (try clear hb)) | ((with_reducible refine gate_callee (f := 40) rfl ?_); refine goesL_ (some 20) rfl rfl Try.func40 (by kernel_rfl) rfl #[.int .i64 a2, .int .i64 0, .int .i64 1000000000000] rfl d16b ?_; (with_reducible refine (kit_Range.calls a2 0 1000000000000 t102 _ A6.out).mono ?_); rintro e w' ⟨rfl, ⟨nd, rfl⟩⟩; refine ⟨_, rfl, ?_⟩) | ((with_reducible refine gate_callee (f := 40) rfl ?_); refine goesL_ (some 22) rfl rfl Try.func40 (by kernel_rfl) rfl #[.int .i64 a3, .int .i64 0, .int .i64 1000000000000] rfl d16b ?_; (with_reducible refine (kit_Range.calls a3 0 1000000000000 t103 _ A7.out).mono ?_); rintro e w' ⟨rfl, ⟨nd, rfl⟩⟩; refine ⟨_, rfl, ?_⟩) | ((with_reducible refine gate_dst (N := 23) rfl ?_); refine Kd.R_lit (Kd.int .i64) _ 23 ?hg (N := 23) ?hd (xs := ([t101, t102, t103] : List Int)) (inner := [.int .i64 t101, .int .i64 t102, .int .i64 t103]) (ok := fun _ => True) (okp := fun _ => True) ?hr ?hp (fun _ hk => hk) trivial (Below.refl _ _) (Nat.le_refl _) (by simp) ?_; (case hd => rfl); (case hg => rfl); (case hr => exact d16h); (case hp => exact (Reps.one (show Kd.M (Kd.int .i64) _ _ _ t101 [.int .i64 t101] from rfl) (Reps.one (show Kd.M (Kd.int .i64) _ _ _ t102 [.int .i64 t102] from rfl) (Reps.one (show Kd.M (Kd.int .i64) _ _ _ t103 [.int .i64 t103] from rfl) (Reps.none _ _))))); intro v105 w38 ho39 hb hg_ hnew_; clear hg_ hnew_; (first | rw [← Ny104.out] at ho39 | (simp only [Int.reduceToNat] at ho39; rw [← Ny104.out] at ho39)); have n0_ := Aside0.mk (Kd.R_lower ho39 (below_size d16c)); have n1_ := Aside0.mk (below_step d16c hb); clear HB; have HO106 := n0_; have HB := n1_; clear n0_ n1_; clear hb ho39; obtain ⟨Ao40, co40, eo40⟩ := Kd.R_slice HO106.out; subst eo40) | ((with_reducible refine gate_callee (f := 38) rfl ?_); refine goesL_ (some 24) rfl rfl Try.func38 (by kernel_rfl) rfl #[.slice Ao40 y104.length co40] rfl d16b ?_; (with_reducible refine (kit_First.calls k _ _ y104 t107 _ ?side1 ?side2 A8.out).mono ?_); (case side1 => exact C_go (Kd.R_reads' HO106.out).2.2); (case side2 => exact (Kd.R_reads' HO106.out).2.1); rintro e w' ⟨rfl, ⟨nd, rfl⟩⟩; refine ⟨_, rfl, ?_⟩))
   go_ret3
   exact ⟨d16e, d16c⟩
end Go.Proofs.Ytbngmblgkkdhpaa.Q
