-- Made by wip/tools/claimp.py of this session's texts; Lean checks it.
import Derived.Test.YtplcdpiggpkppaaDoorC2Q0
import Derived.Test.YtplcdpiggpkppaaDoorC2Gd6
namespace Go.Proofs.YtplcdpiggpkppaaDoor.Q
open Go.RowKit Go.Proofs.YtplcdpiggpkppaaDoorW.PrintWords Go.Proofs.YtplcdpiggpkppaaDoorW.PrintLast Go.Proofs.YtplcdpiggpkppaaDoorW.PrintMore
attribute [local go_sem] max2_int min2_int max_two min_two max_three min_three max_four min_four
open Go.Proofs.YtplcdpiggpkppaaDoor.Base
attribute [local go_sem high] str_leq str_gtr str_geq
set_option linter.unusedVariables false
set_option linter.unusedSimpArgs false
mutual
def perigeeref9_CheckUses.l0 : Nat → List (S32) → List (S35) → List (S35) → Int → Int → Option (Int)
  | 0, _, _, _, _, _ => none
  | k + 1, x0, x1, x22, x23, x24 => if x24 < x23 then (if 0 ≤ x24 then (if x24 < (x22.length : Int) then ((perigeeref9_loadOf.f k x0 ((rd_T35 x22 x24).f0)).bind fun bt104 => (if bt104.2.2.2 = true then ((perigeeref9_within.f ((rd_T35 x22 x24).f1) 0 1000000000000).bind fun t109 => (if t109 = true then ((perigeeref9_within.f ((rd_T35 x22 x24).f2) 0 1000000000000).bind fun t110 => (perigeeref9_CheckUses.j1 k x0 x1 x24 x22 x23 x24 (!t110) ((rd_T35 x22 x24).f0) ((rd_T35 x22 x24).f1) ((rd_T35 x22 x24).f2))) else (perigeeref9_CheckUses.j1 k x0 x1 x24 x22 x23 x24 true ((rd_T35 x22 x24).f0) ((rd_T35 x22 x24).f1) ((rd_T35 x22 x24).f2)))) else (some 9))) else (none)) else (none)) else (perigeeref9_CheckUses.l1 k x1 x1 (x1.length : Int) 0)
def perigeeref9_CheckUses.j1 : Nat → List (S32) → List (S35) → Int → List (S35) → Int → Int → Bool → ByteArray → Int → Int → Option (Int)
  | 0, _, _, _, _, _, _, _, _, _, _ => none
  | k + 1, x0, x1, x6, x22, x23, x24, x38, x104000, x104001, x104002 => if x38 = true then (some 1) else (if x104002 ≤ x104001 then (some 13) else (if x6 > 0 then (if 0 ≤ (wrap64 (x6 - 1)) then (if (wrap64 (x6 - 1)) < (x1.length : Int) then ((perigeeref9_comesAfter.f x104000 x104001 x104002 ((rd_T35 x1 (wrap64 (x6 - 1))).f0) ((rd_T35 x1 (wrap64 (x6 - 1))).f1) ((rd_T35 x1 (wrap64 (x6 - 1))).f2)).bind fun t112 => (if t112 = true then (perigeeref9_CheckUses.l0 k x0 x1 x22 x23 (wrap64 (x24 + 1))) else (some 8))) else (none)) else (none)) else (perigeeref9_CheckUses.l0 k x0 x1 x22 x23 (wrap64 (x24 + 1)))))
def perigeeref9_CheckUses.l1 : Nat → List (S35) → List (S35) → Int → Int → Option (Int)
  | 0, _, _, _, _ => none
  | k + 1, x1, x69, x70, x71 => if x71 < x70 then (if 0 ≤ x71 then (if x71 < (x69.length : Int) then (perigeeref9_CheckUses.l2 k x1 x71 x69 x70 x71 x1 (x1.length : Int) 0 ((rd_T35 x69 x71).f0) ((rd_T35 x69 x71).f1) ((rd_T35 x69 x71).f2)) else (none)) else (none)) else (some 0)
def perigeeref9_CheckUses.l2 : Nat → List (S35) → Int → List (S35) → Int → Int → List (S35) → Int → Int → ByteArray → Int → Int → Option (Int)
  | 0, _, _, _, _, _, _, _, _, _, _, _ => none
  | k + 1, x1, x10, x69, x70, x71, x76, x77, x78, x115000, x115001, x115002 => if x78 < x77 then (if 0 ≤ x78 then (if x78 < (x76.length : Int) then (if x78 = x10 then (perigeeref9_CheckUses.l2 k x1 x10 x69 x70 x71 x76 x77 (wrap64 (x78 + 1)) x115000 x115001 x115002) else (if ((rd_T35 x76 x78).f0).toList = x115000.toList then ((perigeeref9_within.f x115001 ((rd_T35 x76 x78).f1) (wrap64 (((rd_T35 x76 x78).f2) - 1))).bind fun t117 => (if t117 = true then (some 12) else (perigeeref9_CheckUses.l2 k x1 x10 x69 x70 x71 x76 x77 (wrap64 (x78 + 1)) x115000 x115001 x115002))) else (perigeeref9_CheckUses.l2 k x1 x10 x69 x70 x71 x76 x77 (wrap64 (x78 + 1)) x115000 x115001 x115002))) else (none)) else (none)) else (perigeeref9_CheckUses.l1 k x1 x69 x70 (wrap64 (x71 + 1)))
end
def perigeeref9_CheckUses.f (k : Nat) (l0 : List (S32)) (l1 : List (S35)) : Option (Int) := (perigeeref9_CheckLoads.f k l0).bind fun t101 => (if t101 = 0 then (if (l1.length : Int) > 300 then (some 2) else (perigeeref9_CheckUses.l0 k l0 l1 l1 (l1.length : Int) 0)) else (some t101))
def perigeeref9_CheckUses.T16 : Bool × List (List Nat × List Nat) := (true, [([], []), ([0], [0]), ([1], [1]), ([2], [2]), ([2], [2]), ([2], [2]), ([5, 2], [2, 5]), ([4, 6, 2], [2, 4, 6]), ([7, 2], [2, 7]), ([3, 8, 2, 2], [2, 3, 8]), ([9, 2], [2, 9]), ([2, 10], [2, 10]), ([11, 9], [11])])
def perigeeref9_CheckUses.B16 : List Nat := [0, 1, 3, 7, 7, 7, 39, 119, 247, 511, 1023, 2047, 4095]
theorem perigeeref9_CheckUses.tab16 : rtab .any (opsOf Tryd.f17 16) = perigeeref9_CheckUses.T16 := by kernel_rfl
theorem perigeeref9_CheckUses.bits16 : waitsOk perigeeref9_CheckUses.T16.2 perigeeref9_CheckUses.B16 = true := by kernel_rfl
theorem d17a {p : Prop} (h : p := by (with_reducible repeat (first | refine blk_drewN ?_ _ | refine blk_drew ?_ | refine blk_alloc ?_ _)); refine blk_far ?_ NB114_116.out _; (with_reducible repeat (first | refine blk_drewN ?_ _ | refine blk_drew ?_ | refine blk_alloc ?_ _)); refine blk_far ?_ NB114_116.out _; (with_reducible repeat (first | refine blk_drewN ?_ _ | refine blk_drew ?_ | refine blk_alloc ?_ _)); refine blk_far ?_ NB114_116.out _; (with_reducible repeat (first | refine blk_drewN ?_ _ | refine blk_drew ?_ | refine blk_alloc ?_ _)); exact BK114.out) : p := h
theorem d17b {p : Prop} (h : p := by repeat (first | (with_reducible first | exact HB.out | apply below_alloc | apply pw_below_drewN | apply below_drew1 | refine below_set ?_ GE103.out | refine below_set ?_ GE108.out) | exact HB.out)) : p := h
theorem d17c {p : Prop} (h : p := by repeat (first | (with_reducible first | exact HB.out | apply below_alloc | apply pw_below_drewN | apply below_drew1 | refine below_set ?_ GE114.out | refine below_set ?_ GE116.out) | exact HB.out)) : p := h
theorem d17d {p : Prop} (h : p := by repeat (first | (with_reducible first | exact HB.out | apply below_alloc | apply pw_below_drewN | apply below_drew1 | refine below_set ?_ GE103.out) | exact HB.out)) : p := h
theorem d17e {p : Prop} (h : p := by repeat (first | (with_reducible first | exact HB.out | apply below_alloc | apply pw_below_drewN | apply below_drew1 | refine below_set ?_ GE114.out) | exact HB.out)) : p := h
theorem d17f {p : Prop} (h : p := by (try simp only [List.map_toArray, List.map_cons, List.map_nil]); first | done | rfl | (simp only [List.length_drop, List.length_take]; rfl)) : p := h
theorem d17g {p : Prop} (h : p := by repeat (first | (with_reducible first | exact HB.out | apply below_alloc | apply pw_below_drewN | apply below_drew1) | exact HB.out)) : p := h
theorem d17h {p : Prop} (h : p := by (with_reducible repeat (first | refine blk_drewN ?_ _ | refine blk_drew ?_ | refine blk_alloc ?_ _)); exact BK103.out) : p := h
theorem d17i {p : Prop} (h : p := by (with_reducible repeat (first | refine blk_drewN ?_ _ | refine blk_drew ?_ | refine blk_alloc ?_ _)); exact BK114.out) : p := h
theorem d17j {p : Prop} (h : p := by first | rfl | (simp [errW_none, errW_some] <;> rfl) | (simp [*, errW_none, errW_some] <;> rfl)) : p := h
theorem d17k {p : Prop} (h : p := by first | (with_reducible assumption) | assumption) : p := h
theorem d17l {p : Prop} (h : p := by first | rfl | (simp; done) | (simp [*]; done)) : p := h
theorem d17m {p : Prop} (h : p := by first | (go_simp; done) | (go_simp; rfl)) : p := h
set_option maxHeartbeats 8000000 in
set_option maxRecDepth 100000 in
theorem perigeeref9_CheckUses.calls (k : Nat) (A0 : Option Addr) (c0 : Nat) (l0 : List (S32)) (A1 : Option Addr) (c1 : Nat) (l1 : List (S35)) (r : Int) (w : World) (hr0 : Kd.C k32 w A0 l0.length l0) (hc0 : l0.length ≤ c0) (hr1 : Kd.C k35 w A1 l1.length l1) (hc1 : l1.length ≤ c1) (h : perigeeref9_CheckUses.f k l0 l1 = some r) :
 Calls Tryd.prog 17 #[.slice A0 l0.length c0, .slice A1 l1.length c1] w fun e w' => e = .returned (.int .i64 r) ∧ Below w.heap.size w w' := by
 have hu35 := Tryd.underlying35
 have hu32 := Tryd.underlying32
 have HR0 := Aside0.mk hr0
 have HC0 := Aside0.mk hc0
 clear hr0 hc0
 have HR1 := Aside0.mk hr1
 have HC1 := Aside0.mk hc1
 clear hr1 hc1
 have HB := Aside0.mk (Below.refl w.heap.size w)
 have H : ((perigeeref9_CheckLoads.f k l0).bind fun t101 => (if t101 = 0 then (if (l1.length : Int) > 300 then (some 2) else (perigeeref9_CheckUses.l0 k l0 l1 l1 (l1.length : Int) 0)) else (some t101))) = some r := h
 clear h
 replace H := bindS H; obtain ⟨t101, A3, H⟩ := H
 by_cases c4 : t101 = 0
 · rw [if_pos c4] at H
   have c4b0 : (t101 == 0) = true := beq_iff_eq.mpr c4
   have c4b1 : (t101 != 0) = false := bne_eq_false_iff_eq.mpr c4
   clear c4
   by_cases c5 : (l1.length : Int) > 300
   · rw [if_pos c5] at H
     have c5b0 : decide (300 < (l1.length : Int)) = true := decide_eq_true c5
     have c5b1 : decide (300 < l1.length) = true := decide_eq_true (by omega)
     clear c5
     obtain rfl := Option.some.inj H
     go_enter Tryd.func17, Tryd.ntmps17
     go_wp2_with ((with_reducible refine gate_callee (f := 33) rfl ?_); refine goesL_ (some 15) rfl rfl Tryd.func33 (by kernel_rfl) rfl #[.slice A0 l0.length c0] rfl d17f ?_; (with_reducible refine (perigeeref9_CheckLoads.calls k _ _ l0 t101 _ ?side1 ?side2 A3.out).mono ?_); (case side1 => exact C_go HR0.out); (case side2 => exact HC0.out); rintro e w6 ⟨rfl, hb⟩; refine ⟨_, rfl, ?_⟩; replace HB := Aside0.mk (below_step d17g hb); (try clear hb))
     go_ret
     exact ⟨d17j, d17g⟩
   · rw [if_neg c5] at H
     have c5b0 : decide (300 < (l1.length : Int)) = false := decide_eq_false c5
     have c5b1 : decide (300 < l1.length) = false := decide_eq_false (by omega)
     clear c5
     have H' := Aside0.mk H
     clear H
     go_enter Tryd.func17, Tryd.ntmps17
     go_wp2_with ((with_reducible refine gate_callee (f := 33) rfl ?_); refine goesL_ (some 15) rfl rfl Tryd.func33 (by kernel_rfl) rfl #[.slice A0 l0.length c0] rfl d17f ?_; (with_reducible refine (perigeeref9_CheckLoads.calls k _ _ l0 t101 _ ?side1 ?side2 A3.out).mono ?_); (case side1 => exact C_go HR0.out); (case side2 => exact HC0.out); rintro e w7 ⟨rfl, hb⟩; refine ⟨_, rfl, ?_⟩; replace HB := Aside0.mk (below_step d17g hb); (try clear hb))
     go_loopg [24] k (fun kq v24 w' => ∃ (x24_1 : Int), v24 = .int .i64 x24_1 ∧ Aside0 (perigeeref9_CheckUses.l0 kq l0 l1 l1 (l1.length : Int) x24_1 = some r) ∧ Aside0 (kq ≤ k) ∧ Aside0 (Below w.heap.size w w'))
     case atStart => exact ⟨(0), d17l, H', ⟨Nat.le_refl _⟩, ⟨d17g⟩⟩
     case round =>
      clear H'
      try clear c4b0
      try clear c4b1
      try clear c5b0
      try clear c5b1
      obtain ⟨x24_1, rfl, HA, HK1, HB⟩ := hrel
      cases gk with
      | zero => exact absurd HA.out (by simp [perigeeref9_CheckUses.l0])
      | succ k1 =>
       have H := HA.out
       clear HA
       simp only [perigeeref9_CheckUses.l0] at H
       by_cases c8 : x24_1 < (l1.length : Int)
       · rw [if_pos c8] at H
         have c8b0 : decide (x24_1 < (l1.length : Int)) = true := decide_eq_true c8
         clear c8
         replace H := guardT H; obtain ⟨c9, H⟩ := H
         have c9b0 : decide (0 ≤ x24_1) = true := decide_eq_true c9
         clear c9
         replace H := guardT H; obtain ⟨c10, H⟩ := H
         have c10b0 : decide (x24_1 < (l1.length : Int)) = true := decide_eq_true c10
         clear c10
         replace H := bindS H; obtain ⟨⟨t104, t105, t106, t107⟩, A11, H⟩ := H
         by_cases c12 : t107 = true
         · subst c12
           replace H := iteT H
           have HC13 := Aside0.mk H
           clear H
           have p102 : 0 ≤ (x24_1 : Int) := of_decide_eq_true d17k
           have q102 : x24_1 < (l1.length : Int) := of_decide_eq_true d17k
           obtain ⟨ad102, e102, hx102_0, hx102_1, hx102_2⟩ := at_T35 HR1.out x24_1 p102 q102
           cases e102
           replace hx102_0 := cellB HB.out hx102_0
           replace hx102_1 := cellB HB.out hx102_1
           replace hx102_2 := cellB HB.out hx102_2
           replace p102 := eq_true p102
           replace q102 := eq_true q102
           go_upto_region 12 with (first | ((with_reducible refine gate_dst (N := 7) rfl ?_); refine box_event ?hg (N := 7) ?hd (cs := #[.string (⟨#[]⟩ : ByteArray), .int .i64 0, .int .i64 0]) (t := 35) ?hr ?_; (case hd => rfl); (case hg => rfl); (case hr => exact d17m); intro gb103 hg w14 hbox hb; have n0_ := Aside0.mk (below_step d17g hb); have n1_ := Aside0.mk (hbox); have n2_ := Aside0.mk ((by rw [hg]; exact (below_size d17g) : w.heap.size ≤ gb103)); have n3_ := Aside0.mk ((by rw [hg]; exact (below_size d17g) : w.heap.size ≤ gb103)); clear HB; have HB := n0_; have BK103 := n1_; have GW103 := n2_; have GE103 := n3_; clear n0_ n1_ n2_ n3_; clear hb hbox hg; have hcz15_0 : w14.cell? ⟨gb103, 0, none⟩ = some (.string (⟨#[]⟩ : ByteArray)) := (blk_cell BK103.out 0).trans rfl; have hcz15_1 : w14.cell? ⟨gb103, 1, none⟩ = some (.int .i64 0) := (blk_cell BK103.out 1).trans rfl; have hcz15_2 : w14.cell? ⟨gb103, 2, none⟩ = some (.int .i64 0) := (blk_cell BK103.out 2).trans rfl; have hfz15_0 := blk_frozen BK103.out 0; have hfz15_1 := blk_frozen BK103.out 1; have hfz15_2 := blk_frozen BK103.out 2) | ((with_reducible refine gate_callee (f := 34) rfl ?_); refine goesL_ (some 33) rfl rfl Tryd.func34 (by kernel_rfl) rfl #[.slice A0 l0.length c0, .string ((rd_T35 l1 x24_1).f0)] rfl d17f ?_; (with_reducible refine (perigeeref9_loadOf.calls k1 _ _ l0 ((rd_T35 l1 x24_1).f0) t104 t105 t106 true _ ?side1 ?side2 A11.out).mono ?_); (case side1 => exact Kd.C_below HR0.out d17d); (case side2 => exact HC0.out); rintro e w16 ⟨rfl, hb⟩; refine ⟨_, rfl, ?_⟩; have n0_ := Aside0.mk (blk_below (g := gb103) (o := .cells #[.string ((rd_T35 l1 x24_1).f0), .int .i64 ((rd_T35 l1 x24_1).f1), .int .i64 ((rd_T35 l1 x24_1).f2)] 35 (0, 0)) (by (with_reducible repeat (first | refine blk_drewN ?_ _ | refine blk_drew ?_ | refine blk_alloc ?_ _)); refine blk_put (cs := #[.string ((rd_T35 l1 x24_1).f0), .int .i64 ((rd_T35 l1 x24_1).f1), .int .i64 0]) ?_ 2 _ rfl; (with_reducible repeat (first | refine blk_drewN ?_ _ | refine blk_drew ?_ | refine blk_alloc ?_ _)); refine blk_put (cs := #[.string ((rd_T35 l1 x24_1).f0), .int .i64 0, .int .i64 0]) ?_ 1 _ rfl; (with_reducible repeat (first | refine blk_drewN ?_ _ | refine blk_drew ?_ | refine blk_alloc ?_ _)); refine blk_put (cs := #[.string (⟨#[]⟩ : ByteArray), .int .i64 0, .int .i64 0]) ?_ 0 _ rfl; (with_reducible repeat (first | refine blk_drewN ?_ _ | refine blk_drew ?_ | refine blk_alloc ?_ _)); exact BK103.out) hb); have n1_ := Aside0.mk (below_step d17d hb); clear BK103; clear HB; have BK103 := n0_; have HB := n1_; clear n0_ n1_; (try clear hb)) | ((with_reducible refine gate_dst (N := 8) rfl ?_); refine box_event ?hg (N := 8) ?hd (cs := #[.string (⟨#[]⟩ : ByteArray), .int .i64 0, .int .i64 0]) (t := 32) ?hr ?_; (case hd => rfl); (case hg => rfl); (case hr => exact d17m); intro gb108 hg w17 hbox hb; have n0_ := Aside0.mk (blk_below (g := gb103) (o := .cells #[.string ((rd_T35 l1 x24_1).f0), .int .i64 ((rd_T35 l1 x24_1).f1), .int .i64 ((rd_T35 l1 x24_1).f2)] 35 (0, 0)) d17h hb); have n1_ := Aside0.mk (below_step d17d hb); have n2_ := Aside0.mk (hbox); have n3_ := Aside0.mk ((by rw [hg]; exact (below_size d17d) : w.heap.size ≤ gb108)); have n4_ := Aside0.mk ((by rw [hg]; exact (below_size d17d) : w.heap.size ≤ gb108)); have n5_ := Aside0.mk ((by rw [hg]; exact Nat.ne_of_lt (blk_lt (g := gb103) (o := .cells #[.string ((rd_T35 l1 x24_1).f0), .int .i64 ((rd_T35 l1 x24_1).f1), .int .i64 ((rd_T35 l1 x24_1).f2)] 35 (0, 0)) d17h) : gb103 ≠ gb108)); have n6_ := Aside0.mk ((by rw [hg]; exact Nat.ne_of_gt (blk_lt (g := gb103) (o := .cells #[.string ((rd_T35 l1 x24_1).f0), .int .i64 ((rd_T35 l1 x24_1).f1), .int .i64 ((rd_T35 l1 x24_1).f2)] 35 (0, 0)) d17h) : gb108 ≠ gb103)); clear BK103; clear HB; have BK103 := n0_; have HB := n1_; have BK108 := n2_; have GW108 := n3_; have GE108 := n4_; have NB103_108 := n5_; have NB108_103 := n6_; clear n0_ n1_ n2_ n3_ n4_ n5_ n6_; clear hb hbox hg; have hnb18 := NB108_103.out; have hnc18 := NB103_108.out; have hcz19_0 : w17.cell? ⟨gb108, 0, none⟩ = some (.string (⟨#[]⟩ : ByteArray)) := (blk_cell BK108.out 0).trans rfl; have hcz19_1 : w17.cell? ⟨gb108, 1, none⟩ = some (.int .i64 0) := (blk_cell BK108.out 1).trans rfl; have hcz19_2 : w17.cell? ⟨gb108, 2, none⟩ = some (.int .i64 0) := (blk_cell BK108.out 2).trans rfl; have hfz19_0 := blk_frozen BK108.out 0; have hfz19_1 := blk_frozen BK108.out 1; have hfz19_2 := blk_frozen BK108.out 2))
           (try simp only [Act.put, List.setIfInBounds_toArray, List.set_cons_zero, List.set_cons_succ])
           go_cut [38] (fun v38 wc => ∃ (kq : Nat) (x38_12 : Bool), v38 = .bool x38_12 ∧ Aside0 (perigeeref9_CheckUses.j1 kq l0 l1 x24_1 l1 (l1.length : Int) x24_1 x38_12 ((rd_T35 l1 x24_1).f0) ((rd_T35 l1 x24_1).f1) ((rd_T35 l1 x24_1).f2) = some r) ∧ Aside0 (kq ≤ k1) ∧ Aside0 (wc.heap[gb103]? = some (.cells #[.string ((rd_T35 l1 x24_1).f0), .int .i64 ((rd_T35 l1 x24_1).f1), .int .i64 ((rd_T35 l1 x24_1).f2)] 35 (0, 0))) ∧ Aside0 (wc.heap[gb108]? = some (.cells #[.string t104, .int .i64 t105, .int .i64 t106] 32 (0, 0))) ∧ Aside0 (Below w.heap.size w wc))
           case first =>
            have H := HC13.out
            clear HC13
            replace H := bindS H; obtain ⟨t109, A20, H⟩ := H
            by_cases c21 : t109 = true
            · subst c21
              replace H := iteT H
              replace H := bindS H; obtain ⟨t110, A22, H⟩ := H
              have H' := Aside0.mk H
              clear H
              have hnb23 := NB103_108.out
              have hnc23 := NB108_103.out
              obtain ⟨hcz24_0, hcz24_1, hcz24_2⟩ := blkC3 BK103.out
              have hfz24_0 := blk_frozen BK103.out 0
              have hfz24_1 := blk_frozen BK103.out 1
              have hfz24_2 := blk_frozen BK103.out 2
              go_wp2_with (first | ((with_reducible refine gate_callee (f := 35) rfl ?_); refine goesL_ (some 41) rfl rfl Tryd.func35 (by kernel_rfl) rfl #[.int .i64 ((rd_T35 l1 x24_1).f1), .int .i64 0, .int .i64 1000000000000] rfl d17f ?_; (with_reducible refine (perigeeref9_within.calls ((rd_T35 l1 x24_1).f1) 0 1000000000000 true _ A20.out).mono ?_); rintro e w' ⟨rfl, ⟨nd, rfl⟩⟩; refine ⟨_, rfl, ?_⟩) | (go_at_call 35; (with_reducible refine (perigeeref9_within.calls ((rd_T35 l1 x24_1).f2) 0 1000000000000 t110 _ A22.out).mono ?_); rintro e w' ⟨rfl, ⟨nd, rfl⟩⟩))
              go_meet
              case rel => exact ⟨_, (!t110), d17l, H', ⟨by have := HK1.out; first | omega | exact Nat.le_refl _⟩, ⟨by (with_reducible repeat (first | refine blk_drewN ?_ _ | refine blk_drew ?_ | refine blk_alloc ?_ _)); refine blk_far ?_ NB103_108.out _; (with_reducible repeat (first | refine blk_drewN ?_ _ | refine blk_drew ?_ | refine blk_alloc ?_ _)); refine blk_far ?_ NB103_108.out _; (with_reducible repeat (first | refine blk_drewN ?_ _ | refine blk_drew ?_ | refine blk_alloc ?_ _)); refine blk_far ?_ NB103_108.out _; (with_reducible repeat (first | refine blk_drewN ?_ _ | refine blk_drew ?_ | refine blk_alloc ?_ _)); exact BK103.out⟩, ⟨by (with_reducible repeat (first | refine blk_drewN ?_ _ | refine blk_drew ?_ | refine blk_alloc ?_ _)); refine blk_put (cs := #[.string t104, .int .i64 t105, .int .i64 0]) ?_ 2 _ rfl; (with_reducible repeat (first | refine blk_drewN ?_ _ | refine blk_drew ?_ | refine blk_alloc ?_ _)); refine blk_put (cs := #[.string t104, .int .i64 0, .int .i64 0]) ?_ 1 _ rfl; (with_reducible repeat (first | refine blk_drewN ?_ _ | refine blk_drew ?_ | refine blk_alloc ?_ _)); refine blk_put (cs := #[.string (⟨#[]⟩ : ByteArray), .int .i64 0, .int .i64 0]) ?_ 0 _ rfl; (with_reducible repeat (first | refine blk_drewN ?_ _ | refine blk_drew ?_ | refine blk_alloc ?_ _)); exact BK108.out⟩, ⟨d17b⟩⟩
            · replace c21 := Bool.eq_false_iff.mpr c21
              subst c21
              replace H := iteF H
              have H' := Aside0.mk H
              clear H
              have hnb25 := NB103_108.out
              have hnc25 := NB108_103.out
              obtain ⟨hcz26_0, hcz26_1, hcz26_2⟩ := blkC3 BK103.out
              have hfz26_0 := blk_frozen BK103.out 0
              have hfz26_1 := blk_frozen BK103.out 1
              have hfz26_2 := blk_frozen BK103.out 2
              go_wp2_with ((with_reducible refine gate_callee (f := 35) rfl ?_); refine goesL_ (some 41) rfl rfl Tryd.func35 (by kernel_rfl) rfl #[.int .i64 ((rd_T35 l1 x24_1).f1), .int .i64 0, .int .i64 1000000000000] rfl d17f ?_; (with_reducible refine (perigeeref9_within.calls ((rd_T35 l1 x24_1).f1) 0 1000000000000 false _ A20.out).mono ?_); rintro e w' ⟨rfl, ⟨nd, rfl⟩⟩; refine ⟨_, rfl, ?_⟩)
              go_meet
              case rel => exact ⟨_, (true), d17l, H', ⟨by have := HK1.out; first | omega | exact Nat.le_refl _⟩, ⟨by (with_reducible repeat (first | refine blk_drewN ?_ _ | refine blk_drew ?_ | refine blk_alloc ?_ _)); refine blk_far ?_ NB103_108.out _; (with_reducible repeat (first | refine blk_drewN ?_ _ | refine blk_drew ?_ | refine blk_alloc ?_ _)); refine blk_far ?_ NB103_108.out _; (with_reducible repeat (first | refine blk_drewN ?_ _ | refine blk_drew ?_ | refine blk_alloc ?_ _)); refine blk_far ?_ NB103_108.out _; (with_reducible repeat (first | refine blk_drewN ?_ _ | refine blk_drew ?_ | refine blk_alloc ?_ _)); exact BK103.out⟩, ⟨by (with_reducible repeat (first | refine blk_drewN ?_ _ | refine blk_drew ?_ | refine blk_alloc ?_ _)); refine blk_put (cs := #[.string t104, .int .i64 t105, .int .i64 0]) ?_ 2 _ rfl; (with_reducible repeat (first | refine blk_drewN ?_ _ | refine blk_drew ?_ | refine blk_alloc ?_ _)); refine blk_put (cs := #[.string t104, .int .i64 0, .int .i64 0]) ?_ 1 _ rfl; (with_reducible repeat (first | refine blk_drewN ?_ _ | refine blk_drew ?_ | refine blk_alloc ?_ _)); refine blk_put (cs := #[.string (⟨#[]⟩ : ByteArray), .int .i64 0, .int .i64 0]) ?_ 0 _ rfl; (with_reducible repeat (first | refine blk_drewN ?_ _ | refine blk_drew ?_ | refine blk_alloc ?_ _)); exact BK108.out⟩, ⟨d17b⟩⟩
           case rest =>
            clear HC13
            try clear c8b0
            try clear c9b0
            try clear c10b0
            try clear hcz15_0
            try clear hcz15_1
            try clear hcz15_2
            try clear hcz19_0
            try clear hcz19_1
            try clear hcz19_2
            try clear hfz15_0
            try clear hfz15_1
            try clear hfz15_2
            try clear hfz19_0
            try clear hfz19_1
            try clear hfz19_2
            try clear hx102_0
            try clear hx102_1
            try clear hx102_2
            try clear p102
            try clear q102
            obtain ⟨kq, x38_12, rfl, HA, HJ12, BK103, BK108, HB⟩ := hcut
            cases kq with
            | zero => exact absurd HA.out (by simp [perigeeref9_CheckUses.j1])
            | succ kj12 =>
             have H := HA.out
             clear HA
             simp only [perigeeref9_CheckUses.j1] at H
             by_cases c27 : x38_12 = true
             · subst c27
               replace H := iteT H
               obtain rfl := Option.some.inj H
               go_wp2
               go_ret
               exact ⟨d17j, d17b⟩
             · replace c27 := Bool.eq_false_iff.mpr c27
               subst c27
               replace H := iteF H
               by_cases c28 : ((rd_T35 l1 x24_1).f2) ≤ ((rd_T35 l1 x24_1).f1)
               · rw [if_pos c28] at H
                 have c28b0 : decide (((rd_T35 l1 x24_1).f2) ≤ ((rd_T35 l1 x24_1).f1)) = true := decide_eq_true c28
                 clear c28
                 obtain rfl := Option.some.inj H
                 have hnb29 := NB103_108.out
                 have hnc29 := NB108_103.out
                 obtain ⟨hcz30_0, hcz30_1, hcz30_2⟩ := blkC3 BK103.out
                 have hfz30_0 := blk_frozen BK103.out 0
                 have hfz30_1 := blk_frozen BK103.out 1
                 have hfz30_2 := blk_frozen BK103.out 2
                 go_wp2
                 go_ret
                 exact ⟨d17j, d17b⟩
               · rw [if_neg c28] at H
                 have c28b0 : decide (((rd_T35 l1 x24_1).f2) ≤ ((rd_T35 l1 x24_1).f1)) = false := decide_eq_false c28
                 clear c28
                 by_cases c31 : x24_1 > 0
                 · rw [if_pos c31] at H
                   have c31b0 : decide (0 < x24_1) = true := decide_eq_true c31
                   clear c31
                   obtain ⟨ji32, hji32⟩ : ∃ j_ : Int, (wrap64 (x24_1 - 1)) = j_ := ⟨_, rfl⟩
                   replace H : (if 0 ≤ (ji32) then (if (ji32) < (l1.length : Int) then ((perigeeref9_comesAfter.f ((rd_T35 l1 x24_1).f0) ((rd_T35 l1 x24_1).f1) ((rd_T35 l1 x24_1).f2) ((rd_T35 l1 (ji32)).f0) ((rd_T35 l1 (ji32)).f1) ((rd_T35 l1 (ji32)).f2)).bind fun t112 => (if t112 = true then (perigeeref9_CheckUses.l0 kj12 l0 l1 l1 (l1.length : Int) (wrap64 (x24_1 + 1))) else (some 8))) else (none)) else (none)) = some r := by first | (rw [hji32] at H; exact H) | (simp only [hji32] at H ⊢; exact H)
                   have hji32w : (IntKind.i64.wrap (x24_1 - 1)) = ji32 := (i64_w _).trans hji32
                   replace H := guardT H; obtain ⟨c33, H⟩ := H
                   have c33b0 : decide (0 ≤ (ji32)) = true := decide_eq_true c33
                   clear c33
                   replace H := guardT H; obtain ⟨c34, H⟩ := H
                   have c34b0 : decide ((ji32) < (l1.length : Int)) = true := decide_eq_true c34
                   clear c34
                   replace H := bindS H; obtain ⟨t112, A35, H⟩ := H
                   by_cases c36 : t112 = true
                   · subst c36
                     replace H := iteT H
                     have H' := Aside0.mk H
                     clear H
                     have hnb37 := NB103_108.out
                     have hnc37 := NB108_103.out
                     obtain ⟨hcz38_0, hcz38_1, hcz38_2⟩ := blkC3 BK103.out
                     have hfz38_0 := blk_frozen BK103.out 0
                     have hfz38_1 := blk_frozen BK103.out 1
                     have hfz38_2 := blk_frozen BK103.out 2
                     try go_wp2
                     have n0_ := Aside0.mk (blk_drew BK103.out)
                     have n1_ := Aside0.mk (blk_drew BK108.out)
                     have n2_ := Aside0.mk (below_drew1 HB.out)
                     clear BK103
                     clear BK108
                     clear HB
                     have BK103 := n0_
                     have BK108 := n1_
                     have HB := n2_
                     clear n0_ n1_ n2_
                     have p111 : 0 ≤ ((ji32) : Int) := of_decide_eq_true d17k
                     have q111 : (ji32) < (l1.length : Int) := of_decide_eq_true d17k
                     obtain ⟨ad111, e111, hx111_0, hx111_1, hx111_2⟩ := at_T35 HR1.out (ji32) p111 q111
                     have hw111_2 := hx111_2
                     have hw111_1 := hx111_1
                     have hw111_0 := hx111_0
                     obtain rfl : ad102 = ad111 := (by injection e111)
                     replace hx111_0 := cellB HB.out hx111_0
                     replace hx111_1 := cellB HB.out hx111_1
                     replace hx111_2 := cellB HB.out hx111_2
                     replace p111 := eq_true p111
                     replace q111 := eq_true q111
                     refine start_ (n := 13) (S := fun w' => w'.cell? ⟨gb103, 0, none⟩ = some (.string ((rd_T35 l1 x24_1).f0)) ∧ w'.cell? ⟨gb103, 1, none⟩ = some (.int .i64 ((rd_T35 l1 x24_1).f1)) ∧ w'.cell? ⟨gb103, 2, none⟩ = some (.int .i64 ((rd_T35 l1 x24_1).f2)) ∧ w'.cell? (ad102.add (((ji32)).toNat * 3)) = some (.string ((rd_T35 l1 (ji32)).f0)) ∧ w'.cell? ⟨(ad102.add (((ji32)).toNat * 3)).block, (ad102.add (((ji32)).toNat * 3)).off + 1, none⟩ = some (.int .i64 ((rd_T35 l1 (ji32)).f1)) ∧ w'.cell? ⟨(ad102.add (((ji32)).toNat * 3)).block, (ad102.add (((ji32)).toNat * 3)).off + 2, none⟩ = some (.int .i64 ((rd_T35 l1 (ji32)).f2))) (ds := []) #[false, false, false, false, false, false, false, false, false, false, false, false, false] (by kernel_rfl) rfl rfl ⟨(blk_cell BK103.out 0).trans rfl, (blk_cell BK103.out 1).trans rfl, (blk_cell BK103.out 2).trans rfl, ((HB.out.cell (World.block_lt_of_cell? w _ hw111_0)).trans hw111_0), ((HB.out.cell (World.block_lt_of_cell? w _ hw111_1)).trans hw111_1), ((HB.out.cell (World.block_lt_of_cell? w _ hw111_2)).trans hw111_2)⟩ (fun hHeld => ?_); refine with_tabW perigeeref9_CheckUses.tab16 perigeeref9_CheckUses.bits16 (fun HT_ HW_ => ?_)
                     generalize wc.drew = w39 at BK103 BK108 HB hx111_0 hx111_1 hx111_2 hHeld ⊢
                     refine pure_ (i := 0) (N := some 56) (v := ?_) (a' := ?_) #[true, false, false, false, false, false, false, false, false, false, false, false, false] rfl rfl (any_of HT_.out (by kernel_rfl)) (fun _ _ _ h => h) (Or.inl ⟨by rfl, ?_⟩) ?_ ?_
                     rotate_left
                     · intro w'
                       go_simp
                       with_reducible rfl
                     rotate_left
                     · simp only [Act.put, List.setIfInBounds_toArray, List.set_cons_zero, List.set_cons_succ, i64_w, i32_w]
                       rfl
                     refine pure_ (i := 1) (N := some 57) (v := ?_) (a' := ?_) #[true, true, false, false, false, false, false, false, false, false, false, false, false] rfl rfl (any_of HT_.out (by kernel_rfl)) (fun _ _ _ h => h) (Or.inl ⟨by rfl, ?_⟩) ?_ ?_
                     rotate_left
                     · intro w'
                       go_simp
                       with_reducible rfl
                     rotate_left
                     · simp only [Act.put, List.setIfInBounds_toArray, List.set_cons_zero, List.set_cons_succ, i64_w, i32_w]
                       rfl
                     refine pure_ (i := 2) (N := some 58) (v := ?_) (a' := ?_) #[true, true, true, false, false, false, false, false, false, false, false, false, false] rfl rfl (any_of HT_.out (by kernel_rfl)) (fun _ _ _ h => h) (Or.inl ⟨by rfl, ?_⟩) ?_ ?_
                     rotate_left
                     · intro w'
                       go_simp
                       with_reducible rfl
                     rotate_left
                     · simp only [Act.put, List.setIfInBounds_toArray, List.set_cons_zero, List.set_cons_succ, i64_w, i32_w]
                       rfl
                     refine pure_ (i := 4) (N := some 60) (v := ?_) (a' := ?_) #[true, true, true, false, true, false, false, false, false, false, false, false, false] rfl rfl (any_of HT_.out (by kernel_rfl)) (fun _ _ _ h => h) (Or.inl ⟨by rfl, ?_⟩) ?_ ?_
                     rotate_left
                     · intro w'
                       go_simp
                       with_reducible rfl
                     rotate_left
                     · simp only [Act.put, List.setIfInBounds_toArray, List.set_cons_zero, List.set_cons_succ, i64_w, i32_w]
                       rfl
                     refine pure_ (i := 5) (N := some 61) (v := ?_) (a' := ?_) #[true, true, true, false, true, true, false, false, false, false, false, false, false] rfl rfl (any_of HT_.out (by kernel_rfl)) (fun _ _ _ h => h) (Or.inl ⟨by rfl, ?_⟩) ?_ ?_
                     rotate_left
                     · intro w'
                       go_simp
                       with_reducible rfl
                     rotate_left
                     · simp only [Act.put, List.setIfInBounds_toArray, List.set_cons_zero, List.set_cons_succ, i64_w, i32_w]
                       rfl
                     refine pure_ (i := 6) (N := some 62) (v := ?_) (a' := ?_) #[true, true, true, false, true, true, true, false, false, false, false, false, false] rfl rfl (any_of HT_.out (by kernel_rfl)) (fun _ _ _ h => h) (Or.inl ⟨by rfl, ?_⟩) ?_ ?_
                     rotate_left
                     · intro w'
                       go_simp
                       with_reducible rfl
                     rotate_left
                     · simp only [Act.put, List.setIfInBounds_toArray, List.set_cons_zero, List.set_cons_succ, i64_w, i32_w]
                       rfl
                     refine pure_ (i := 7) (N := some 63) (v := ?_) (a' := ?_) #[true, true, true, false, true, true, true, true, false, false, false, false, false] rfl rfl (any_of HT_.out (by kernel_rfl)) (fun _ _ _ h => h) (Or.inl ⟨by rfl, ?_⟩) ?_ ?_
                     rotate_left
                     · intro w'
                       go_simp
                       with_reducible rfl
                     rotate_left
                     · simp only [Act.put, List.setIfInBounds_toArray, List.set_cons_zero, List.set_cons_succ, i64_w, i32_w]
                       rfl
                     refine take_ (i := 3) (N := some 59) (v := ?_) (a' := ?_) #[true, true, true, true, true, true, true, true, false, false, false, false, false] rfl rfl (take_ofW HT_.out HW_.out (by kernel_rfl)) (fun _ _ _ h => h) (Or.inl ⟨by rfl, ?_⟩) hHeld ?_ ?_
                     rotate_left
                     · rintro w' ⟨s0, s1, s2, s3, s4, s5⟩
                       go_simp
                       with_reducible rfl
                     rotate_left
                     · simp only [Act.put, List.setIfInBounds_toArray, List.set_cons_zero, List.set_cons_succ, i64_w, i32_w]
                       rfl
                     refine take_ (i := 8) (N := some 64) (v := ?_) (a' := ?_) #[true, true, true, true, true, true, true, true, true, false, false, false, false] rfl rfl (take_ofW HT_.out HW_.out (by kernel_rfl)) (fun _ _ _ h => h) (Or.inl ⟨by rfl, ?_⟩) hHeld ?_ ?_
                     rotate_left
                     · rintro w' ⟨s0, s1, s2, s3, s4, s5⟩
                       go_simp
                       with_reducible rfl
                     rotate_left
                     · simp only [Act.put, List.setIfInBounds_toArray, List.set_cons_zero, List.set_cons_succ, i64_w, i32_w]
                       rfl
                     refine one_ (i := 9) (N := some 65) #[true, true, true, true, true, true, true, true, true, true, false, false, false] rfl rfl (one_of HT_.out (by kernel_rfl)) (by decide) (fun K hK => ?_)
                     refine goes_ Tryd.func36 (by kernel_rfl) rfl #[.agg #[.string ((rd_T35 l1 x24_1).f0), .int .i64 ((rd_T35 l1 x24_1).f1), .int .i64 ((rd_T35 l1 x24_1).f2)], .agg #[.string ((rd_T35 l1 (ji32)).f0), .int .i64 ((rd_T35 l1 (ji32)).f1), .int .i64 ((rd_T35 l1 (ji32)).f2)]] (by rfl) rfl rfl (by (try simp only [List.map_toArray, List.map_cons, List.map_nil]); first | done | (simp only [hji32]; rfl) | rfl | (simp only [List.length_drop, List.length_take]; rfl)) ?_
                     with_reducible refine (perigeeref9_comesAfter.calls ((rd_T35 l1 x24_1).f0) ((rd_T35 l1 x24_1).f1) ((rd_T35 l1 x24_1).f2) ((rd_T35 l1 (ji32)).f0) ((rd_T35 l1 (ji32)).f1) ((rd_T35 l1 (ji32)).f2) true _ A35.out).mono ?_
                     rintro e w40 ⟨rfl, hb⟩
                     refine ⟨_, rfl, ?_⟩
                     have n0_ := Aside0.mk (blk_below (g := gb103) (o := .cells #[.string ((rd_T35 l1 x24_1).f0), .int .i64 ((rd_T35 l1 x24_1).f1), .int .i64 ((rd_T35 l1 x24_1).f2)] 35 (0, 0)) d17h hb)
                     have n1_ := Aside0.mk (blk_below (g := gb108) (o := .cells #[.string t104, .int .i64 t105, .int .i64 t106] 32 (0, 0)) (by (with_reducible repeat (first | refine blk_drewN ?_ _ | refine blk_drew ?_ | refine blk_alloc ?_ _)); exact BK108.out) hb)
                     have n2_ := Aside0.mk (below_step d17b hb)
                     clear BK103
                     clear BK108
                     clear HB
                     have BK103 := n0_
                     have BK108 := n1_
                     have HB := n2_
                     clear n0_ n1_ n2_
                     (try clear hb)
                     skip
                     skip
                     skip
                     refine hK.out _ _ ⟨(blk_cell BK103.out 0).trans rfl, (blk_cell BK103.out 1).trans rfl, (blk_cell BK103.out 2).trans rfl, ((HB.out.cell (World.block_lt_of_cell? w _ hw111_0)).trans hw111_0), ((HB.out.cell (World.block_lt_of_cell? w _ hw111_1)).trans hw111_1), ((HB.out.cell (World.block_lt_of_cell? w _ hw111_2)).trans hw111_2)⟩ (fun hHeld => ?_)
                     clear hK K
                     refine norm_ (a' := ?_) ?_ ?_
                     rotate_left
                     · show Act.put _ (some 65) _ = _
                       simp only [Act.put, List.setIfInBounds_toArray, List.set_cons_zero, List.set_cons_succ, i64_w, i32_w]
                       rfl
                     refine pure_ (i := 10) (N := some 66) (v := ?_) (a' := ?_) #[true, true, true, true, true, true, true, true, true, true, true, false, false] rfl rfl (any_of HT_.out (by kernel_rfl)) (fun _ _ _ h => h) (Or.inl ⟨by rfl, ?_⟩) ?_ ?_
                     rotate_left
                     · intro w'
                       go_simp
                       with_reducible rfl
                     rotate_left
                     · simp only [Act.put, List.setIfInBounds_toArray, List.set_cons_zero, List.set_cons_succ, i64_w, i32_w]
                       rfl
                     refine pure_ (i := 11) (N := some 67) (v := ?_) (a' := ?_) #[true, true, true, true, true, true, true, true, true, true, true, true, false] rfl rfl (any_of HT_.out (by kernel_rfl)) (fun _ _ _ h => h) (Or.inl ⟨by rfl, ?_⟩) ?_ ?_
                     rotate_left
                     · intro w'
                       go_simp
                       with_reducible rfl
                     rotate_left
                     · simp only [Act.put, List.setIfInBounds_toArray, List.set_cons_zero, List.set_cons_succ, i64_w, i32_w]
                       rfl
                     refine pure_ (i := 12) (N := some 55) (v := ?_) (a' := ?_) #[true, true, true, true, true, true, true, true, true, true, true, true, true] rfl rfl (any_of HT_.out (by kernel_rfl)) (fun _ _ _ h => h) (Or.inl ⟨by rfl, ?_⟩) ?_ ?_
                     rotate_left
                     · intro w'
                       go_simp
                       with_reducible rfl
                     rotate_left
                     · simp only [Act.put, List.setIfInBounds_toArray, List.set_cons_zero, List.set_cons_succ, i64_w, i32_w]
                       rfl
                     refine done_ (done_of HT_.out (by kernel_rfl)) ?_
                     try go_wp2
                     go_roundg kj12
                     case measure => have := HK1.out; have := HJ12.out; omega
                     case rel => exact ⟨(wrap64 (x24_1 + 1)), d17l, H', ⟨by have := HK1.out; have := HJ12.out; omega⟩, ⟨d17b⟩⟩
                   · replace c36 := Bool.eq_false_iff.mpr c36
                     subst c36
                     replace H := iteF H
                     obtain rfl := Option.some.inj H
                     have hnb41 := NB103_108.out
                     have hnc41 := NB108_103.out
                     obtain ⟨hcz42_0, hcz42_1, hcz42_2⟩ := blkC3 BK103.out
                     have hfz42_0 := blk_frozen BK103.out 0
                     have hfz42_1 := blk_frozen BK103.out 1
                     have hfz42_2 := blk_frozen BK103.out 2
                     try go_wp2
                     have n0_ := Aside0.mk (blk_drew BK103.out)
                     have n1_ := Aside0.mk (blk_drew BK108.out)
                     have n2_ := Aside0.mk (below_drew1 HB.out)
                     clear BK103
                     clear BK108
                     clear HB
                     have BK103 := n0_
                     have BK108 := n1_
                     have HB := n2_
                     clear n0_ n1_ n2_
                     have p111 : 0 ≤ ((ji32) : Int) := of_decide_eq_true d17k
                     have q111 : (ji32) < (l1.length : Int) := of_decide_eq_true d17k
                     obtain ⟨ad111, e111, hx111_0, hx111_1, hx111_2⟩ := at_T35 HR1.out (ji32) p111 q111
                     have hw111_2 := hx111_2
                     have hw111_1 := hx111_1
                     have hw111_0 := hx111_0
                     obtain rfl : ad102 = ad111 := (by injection e111)
                     replace hx111_0 := cellB HB.out hx111_0
                     replace hx111_1 := cellB HB.out hx111_1
                     replace hx111_2 := cellB HB.out hx111_2
                     replace p111 := eq_true p111
                     replace q111 := eq_true q111
                     refine start_ (n := 13) (S := fun w' => w'.cell? ⟨gb103, 0, none⟩ = some (.string ((rd_T35 l1 x24_1).f0)) ∧ w'.cell? ⟨gb103, 1, none⟩ = some (.int .i64 ((rd_T35 l1 x24_1).f1)) ∧ w'.cell? ⟨gb103, 2, none⟩ = some (.int .i64 ((rd_T35 l1 x24_1).f2)) ∧ w'.cell? (ad102.add (((ji32)).toNat * 3)) = some (.string ((rd_T35 l1 (ji32)).f0)) ∧ w'.cell? ⟨(ad102.add (((ji32)).toNat * 3)).block, (ad102.add (((ji32)).toNat * 3)).off + 1, none⟩ = some (.int .i64 ((rd_T35 l1 (ji32)).f1)) ∧ w'.cell? ⟨(ad102.add (((ji32)).toNat * 3)).block, (ad102.add (((ji32)).toNat * 3)).off + 2, none⟩ = some (.int .i64 ((rd_T35 l1 (ji32)).f2))) (ds := []) #[false, false, false, false, false, false, false, false, false, false, false, false, false] (by kernel_rfl) rfl rfl ⟨(blk_cell BK103.out 0).trans rfl, (blk_cell BK103.out 1).trans rfl, (blk_cell BK103.out 2).trans rfl, ((HB.out.cell (World.block_lt_of_cell? w _ hw111_0)).trans hw111_0), ((HB.out.cell (World.block_lt_of_cell? w _ hw111_1)).trans hw111_1), ((HB.out.cell (World.block_lt_of_cell? w _ hw111_2)).trans hw111_2)⟩ (fun hHeld => ?_); refine with_tabW perigeeref9_CheckUses.tab16 perigeeref9_CheckUses.bits16 (fun HT_ HW_ => ?_)
                     generalize wc.drew = w43 at BK103 BK108 HB hx111_0 hx111_1 hx111_2 hHeld ⊢
                     refine pure_ (i := 0) (N := some 56) (v := ?_) (a' := ?_) #[true, false, false, false, false, false, false, false, false, false, false, false, false] rfl rfl (any_of HT_.out (by kernel_rfl)) (fun _ _ _ h => h) (Or.inl ⟨by rfl, ?_⟩) ?_ ?_
                     rotate_left
                     · intro w'
                       go_simp
                       with_reducible rfl
                     rotate_left
                     · simp only [Act.put, List.setIfInBounds_toArray, List.set_cons_zero, List.set_cons_succ, i64_w, i32_w]
                       rfl
                     refine pure_ (i := 1) (N := some 57) (v := ?_) (a' := ?_) #[true, true, false, false, false, false, false, false, false, false, false, false, false] rfl rfl (any_of HT_.out (by kernel_rfl)) (fun _ _ _ h => h) (Or.inl ⟨by rfl, ?_⟩) ?_ ?_
                     rotate_left
                     · intro w'
                       go_simp
                       with_reducible rfl
                     rotate_left
                     · simp only [Act.put, List.setIfInBounds_toArray, List.set_cons_zero, List.set_cons_succ, i64_w, i32_w]
                       rfl
                     refine pure_ (i := 2) (N := some 58) (v := ?_) (a' := ?_) #[true, true, true, false, false, false, false, false, false, false, false, false, false] rfl rfl (any_of HT_.out (by kernel_rfl)) (fun _ _ _ h => h) (Or.inl ⟨by rfl, ?_⟩) ?_ ?_
                     rotate_left
                     · intro w'
                       go_simp
                       with_reducible rfl
                     rotate_left
                     · simp only [Act.put, List.setIfInBounds_toArray, List.set_cons_zero, List.set_cons_succ, i64_w, i32_w]
                       rfl
                     refine pure_ (i := 4) (N := some 60) (v := ?_) (a' := ?_) #[true, true, true, false, true, false, false, false, false, false, false, false, false] rfl rfl (any_of HT_.out (by kernel_rfl)) (fun _ _ _ h => h) (Or.inl ⟨by rfl, ?_⟩) ?_ ?_
                     rotate_left
                     · intro w'
                       go_simp
                       with_reducible rfl
                     rotate_left
                     · simp only [Act.put, List.setIfInBounds_toArray, List.set_cons_zero, List.set_cons_succ, i64_w, i32_w]
                       rfl
                     refine pure_ (i := 5) (N := some 61) (v := ?_) (a' := ?_) #[true, true, true, false, true, true, false, false, false, false, false, false, false] rfl rfl (any_of HT_.out (by kernel_rfl)) (fun _ _ _ h => h) (Or.inl ⟨by rfl, ?_⟩) ?_ ?_
                     rotate_left
                     · intro w'
                       go_simp
                       with_reducible rfl
                     rotate_left
                     · simp only [Act.put, List.setIfInBounds_toArray, List.set_cons_zero, List.set_cons_succ, i64_w, i32_w]
                       rfl
                     refine pure_ (i := 6) (N := some 62) (v := ?_) (a' := ?_) #[true, true, true, false, true, true, true, false, false, false, false, false, false] rfl rfl (any_of HT_.out (by kernel_rfl)) (fun _ _ _ h => h) (Or.inl ⟨by rfl, ?_⟩) ?_ ?_
                     rotate_left
                     · intro w'
                       go_simp
                       with_reducible rfl
                     rotate_left
                     · simp only [Act.put, List.setIfInBounds_toArray, List.set_cons_zero, List.set_cons_succ, i64_w, i32_w]
                       rfl
                     refine pure_ (i := 7) (N := some 63) (v := ?_) (a' := ?_) #[true, true, true, false, true, true, true, true, false, false, false, false, false] rfl rfl (any_of HT_.out (by kernel_rfl)) (fun _ _ _ h => h) (Or.inl ⟨by rfl, ?_⟩) ?_ ?_
                     rotate_left
                     · intro w'
                       go_simp
                       with_reducible rfl
                     rotate_left
                     · simp only [Act.put, List.setIfInBounds_toArray, List.set_cons_zero, List.set_cons_succ, i64_w, i32_w]
                       rfl
                     refine take_ (i := 3) (N := some 59) (v := ?_) (a' := ?_) #[true, true, true, true, true, true, true, true, false, false, false, false, false] rfl rfl (take_ofW HT_.out HW_.out (by kernel_rfl)) (fun _ _ _ h => h) (Or.inl ⟨by rfl, ?_⟩) hHeld ?_ ?_
                     rotate_left
                     · rintro w' ⟨s0, s1, s2, s3, s4, s5⟩
                       go_simp
                       with_reducible rfl
                     rotate_left
                     · simp only [Act.put, List.setIfInBounds_toArray, List.set_cons_zero, List.set_cons_succ, i64_w, i32_w]
                       rfl
                     refine take_ (i := 8) (N := some 64) (v := ?_) (a' := ?_) #[true, true, true, true, true, true, true, true, true, false, false, false, false] rfl rfl (take_ofW HT_.out HW_.out (by kernel_rfl)) (fun _ _ _ h => h) (Or.inl ⟨by rfl, ?_⟩) hHeld ?_ ?_
                     rotate_left
                     · rintro w' ⟨s0, s1, s2, s3, s4, s5⟩
                       go_simp
                       with_reducible rfl
                     rotate_left
                     · simp only [Act.put, List.setIfInBounds_toArray, List.set_cons_zero, List.set_cons_succ, i64_w, i32_w]
                       rfl
                     refine one_ (i := 9) (N := some 65) #[true, true, true, true, true, true, true, true, true, true, false, false, false] rfl rfl (one_of HT_.out (by kernel_rfl)) (by decide) (fun K hK => ?_)
                     refine goes_ Tryd.func36 (by kernel_rfl) rfl #[.agg #[.string ((rd_T35 l1 x24_1).f0), .int .i64 ((rd_T35 l1 x24_1).f1), .int .i64 ((rd_T35 l1 x24_1).f2)], .agg #[.string ((rd_T35 l1 (ji32)).f0), .int .i64 ((rd_T35 l1 (ji32)).f1), .int .i64 ((rd_T35 l1 (ji32)).f2)]] (by rfl) rfl rfl (by (try simp only [List.map_toArray, List.map_cons, List.map_nil]); first | done | (simp only [hji32]; rfl) | rfl | (simp only [List.length_drop, List.length_take]; rfl)) ?_
                     with_reducible refine (perigeeref9_comesAfter.calls ((rd_T35 l1 x24_1).f0) ((rd_T35 l1 x24_1).f1) ((rd_T35 l1 x24_1).f2) ((rd_T35 l1 (ji32)).f0) ((rd_T35 l1 (ji32)).f1) ((rd_T35 l1 (ji32)).f2) false _ A35.out).mono ?_
                     rintro e w44 ⟨rfl, hb⟩
                     refine ⟨_, rfl, ?_⟩
                     have n0_ := Aside0.mk (blk_below (g := gb103) (o := .cells #[.string ((rd_T35 l1 x24_1).f0), .int .i64 ((rd_T35 l1 x24_1).f1), .int .i64 ((rd_T35 l1 x24_1).f2)] 35 (0, 0)) d17h hb)
                     have n1_ := Aside0.mk (blk_below (g := gb108) (o := .cells #[.string t104, .int .i64 t105, .int .i64 t106] 32 (0, 0)) (by (with_reducible repeat (first | refine blk_drewN ?_ _ | refine blk_drew ?_ | refine blk_alloc ?_ _)); exact BK108.out) hb)
                     have n2_ := Aside0.mk (below_step d17b hb)
                     clear BK103
                     clear BK108
                     clear HB
                     have BK103 := n0_
                     have BK108 := n1_
                     have HB := n2_
                     clear n0_ n1_ n2_
                     (try clear hb)
                     skip
                     skip
                     skip
                     refine hK.out _ _ ⟨(blk_cell BK103.out 0).trans rfl, (blk_cell BK103.out 1).trans rfl, (blk_cell BK103.out 2).trans rfl, ((HB.out.cell (World.block_lt_of_cell? w _ hw111_0)).trans hw111_0), ((HB.out.cell (World.block_lt_of_cell? w _ hw111_1)).trans hw111_1), ((HB.out.cell (World.block_lt_of_cell? w _ hw111_2)).trans hw111_2)⟩ (fun hHeld => ?_)
                     clear hK K
                     refine norm_ (a' := ?_) ?_ ?_
                     rotate_left
                     · show Act.put _ (some 65) _ = _
                       simp only [Act.put, List.setIfInBounds_toArray, List.set_cons_zero, List.set_cons_succ, i64_w, i32_w]
                       rfl
                     refine pure_ (i := 10) (N := some 66) (v := ?_) (a' := ?_) #[true, true, true, true, true, true, true, true, true, true, true, false, false] rfl rfl (any_of HT_.out (by kernel_rfl)) (fun _ _ _ h => h) (Or.inl ⟨by rfl, ?_⟩) ?_ ?_
                     rotate_left
                     · intro w'
                       go_simp
                       with_reducible rfl
                     rotate_left
                     · simp only [Act.put, List.setIfInBounds_toArray, List.set_cons_zero, List.set_cons_succ, i64_w, i32_w]
                       rfl
                     refine pure_ (i := 11) (N := some 67) (v := ?_) (a' := ?_) #[true, true, true, true, true, true, true, true, true, true, true, true, false] rfl rfl (any_of HT_.out (by kernel_rfl)) (fun _ _ _ h => h) (Or.inl ⟨by rfl, ?_⟩) ?_ ?_
                     rotate_left
                     · intro w'
                       go_simp
                       with_reducible rfl
                     rotate_left
                     · simp only [Act.put, List.setIfInBounds_toArray, List.set_cons_zero, List.set_cons_succ, i64_w, i32_w]
                       rfl
                     refine pure_ (i := 12) (N := some 55) (v := ?_) (a' := ?_) #[true, true, true, true, true, true, true, true, true, true, true, true, true] rfl rfl (any_of HT_.out (by kernel_rfl)) (fun _ _ _ h => h) (Or.inl ⟨by rfl, ?_⟩) ?_ ?_
                     rotate_left
                     · intro w'
                       go_simp
                       with_reducible rfl
                     rotate_left
                     · simp only [Act.put, List.setIfInBounds_toArray, List.set_cons_zero, List.set_cons_succ, i64_w, i32_w]
                       rfl
                     refine done_ (done_of HT_.out (by kernel_rfl)) ?_
                     try go_wp2
                     go_ret
                     exact ⟨by first | rfl | (simp [errW_none, errW_some] <;> rfl) | (simp only [← hji32]; first | rfl | (simp [errW_none, errW_some] <;> rfl)) | (simp [*, errW_none, errW_some] <;> rfl), d17b⟩
                 · rw [if_neg c31] at H
                   have c31b0 : decide (0 < x24_1) = false := decide_eq_false c31
                   clear c31
                   have H' := Aside0.mk H
                   clear H
                   have hnb45 := NB103_108.out
                   have hnc45 := NB108_103.out
                   obtain ⟨hcz46_0, hcz46_1, hcz46_2⟩ := blkC3 BK103.out
                   have hfz46_0 := blk_frozen BK103.out 0
                   have hfz46_1 := blk_frozen BK103.out 1
                   have hfz46_2 := blk_frozen BK103.out 2
                   try go_wp2
                   have n0_ := Aside0.mk (blk_drew BK103.out)
                   have n1_ := Aside0.mk (blk_drew BK108.out)
                   have n2_ := Aside0.mk (below_drew1 HB.out)
                   clear BK103
                   clear BK108
                   clear HB
                   have BK103 := n0_
                   have BK108 := n1_
                   have HB := n2_
                   clear n0_ n1_ n2_
                   refine start_ (n := 13) (S := fun w' => True) (ds := []) #[false, false, false, false, false, false, false, false, false, false, false, false, false] (by kernel_rfl) rfl rfl trivial (fun hHeld => ?_); refine with_tabW perigeeref9_CheckUses.tab16 perigeeref9_CheckUses.bits16 (fun HT_ HW_ => ?_)
                   generalize wc.drew = w47 at BK103 BK108 HB hHeld ⊢
                   refine pure_ (i := 0) (N := some 56) (v := ?_) (a' := ?_) #[true, false, false, false, false, false, false, false, false, false, false, false, false] rfl rfl (any_of HT_.out (by kernel_rfl)) (fun _ _ _ h => h) (Or.inl ⟨by rfl, ?_⟩) ?_ ?_
                   rotate_left
                   · intro w'
                     go_simp
                     with_reducible rfl
                   rotate_left
                   · simp only [Act.put, List.setIfInBounds_toArray, List.set_cons_zero, List.set_cons_succ, i64_w, i32_w]
                     rfl
                   refine pure_ (i := 1) (N := some 57) (v := ?_) (a' := ?_) #[true, true, false, false, false, false, false, false, false, false, false, false, false] rfl rfl (any_of HT_.out (by kernel_rfl)) (fun _ _ _ h => h) (Or.inl ⟨by rfl, ?_⟩) ?_ ?_
                   rotate_left
                   · intro w'
                     go_simp
                     with_reducible rfl
                   rotate_left
                   · simp only [Act.put, List.setIfInBounds_toArray, List.set_cons_zero, List.set_cons_succ, i64_w, i32_w]
                     rfl
                   refine pure_ (i := 2) (N := some 58) (v := ?_) (a' := ?_) #[true, true, true, false, false, false, false, false, false, false, false, false, false] rfl rfl (any_of HT_.out (by kernel_rfl)) (fun _ _ _ h => h) (Or.inl ⟨by rfl, ?_⟩) ?_ ?_
                   rotate_left
                   · intro w'
                     go_simp
                     with_reducible rfl
                   rotate_left
                   · simp only [Act.put, List.setIfInBounds_toArray, List.set_cons_zero, List.set_cons_succ, i64_w, i32_w]
                     rfl
                   refine pure_ (i := 3) (N := some 59) (v := undef) (a' := ?_) #[true, true, true, true, false, false, false, false, false, false, false, false, false] rfl rfl (any_of HT_.out (by kernel_rfl)) (fun _ _ _ h => h) (Or.inr ⟨by rfl, rfl⟩) ?_ ?_
                   rotate_left
                   · simp only [Act.put, List.setIfInBounds_toArray, List.set_cons_zero, List.set_cons_succ, i64_w, i32_w]
                     rfl
                   refine pure_ (i := 4) (N := some 60) (v := undef) (a' := ?_) #[true, true, true, true, true, false, false, false, false, false, false, false, false] rfl rfl (any_of HT_.out (by kernel_rfl)) (fun _ _ _ h => h) (Or.inr ⟨by rfl, rfl⟩) ?_ ?_
                   rotate_left
                   · simp only [Act.put, List.setIfInBounds_toArray, List.set_cons_zero, List.set_cons_succ, i64_w, i32_w]
                     rfl
                   refine pure_ (i := 5) (N := some 61) (v := undef) (a' := ?_) #[true, true, true, true, true, true, false, false, false, false, false, false, false] rfl rfl (any_of HT_.out (by kernel_rfl)) (fun _ _ _ h => h) (Or.inr ⟨by rfl, rfl⟩) ?_ ?_
                   rotate_left
                   · simp only [Act.put, List.setIfInBounds_toArray, List.set_cons_zero, List.set_cons_succ, i64_w, i32_w]
                     rfl
                   refine pure_ (i := 6) (N := some 62) (v := undef) (a' := ?_) #[true, true, true, true, true, true, true, false, false, false, false, false, false] rfl rfl (any_of HT_.out (by kernel_rfl)) (fun _ _ _ h => h) (Or.inr ⟨by rfl, rfl⟩) ?_ ?_
                   rotate_left
                   · simp only [Act.put, List.setIfInBounds_toArray, List.set_cons_zero, List.set_cons_succ, i64_w, i32_w]
                     rfl
                   refine pure_ (i := 7) (N := some 63) (v := undef) (a' := ?_) #[true, true, true, true, true, true, true, true, false, false, false, false, false] rfl rfl (any_of HT_.out (by kernel_rfl)) (fun _ _ _ h => h) (Or.inr ⟨by rfl, rfl⟩) ?_ ?_
                   rotate_left
                   · simp only [Act.put, List.setIfInBounds_toArray, List.set_cons_zero, List.set_cons_succ, i64_w, i32_w]
                     rfl
                   refine pure_ (i := 8) (N := some 64) (v := undef) (a' := ?_) #[true, true, true, true, true, true, true, true, true, false, false, false, false] rfl rfl (any_of HT_.out (by kernel_rfl)) (fun _ _ _ h => h) (Or.inr ⟨by rfl, rfl⟩) ?_ ?_
                   rotate_left
                   · simp only [Act.put, List.setIfInBounds_toArray, List.set_cons_zero, List.set_cons_succ, i64_w, i32_w]
                     rfl
                   refine pure_ (i := 9) (N := some 65) (v := undef) (a' := ?_) #[true, true, true, true, true, true, true, true, true, true, false, false, false] rfl rfl (any_of HT_.out (by kernel_rfl)) (fun _ _ _ h => h) (Or.inr ⟨by rfl, rfl⟩) ?_ ?_
                   rotate_left
                   · simp only [Act.put, List.setIfInBounds_toArray, List.set_cons_zero, List.set_cons_succ, i64_w, i32_w]
                     rfl
                   refine pure_ (i := 10) (N := some 66) (v := undef) (a' := ?_) #[true, true, true, true, true, true, true, true, true, true, true, false, false] rfl rfl (any_of HT_.out (by kernel_rfl)) (fun _ _ _ h => h) (Or.inr ⟨by rfl, rfl⟩) ?_ ?_
                   rotate_left
                   · simp only [Act.put, List.setIfInBounds_toArray, List.set_cons_zero, List.set_cons_succ, i64_w, i32_w]
                     rfl
                   refine pure_ (i := 11) (N := some 67) (v := ?_) (a' := ?_) #[true, true, true, true, true, true, true, true, true, true, true, true, false] rfl rfl (any_of HT_.out (by kernel_rfl)) (fun _ _ _ h => h) (Or.inl ⟨by rfl, ?_⟩) ?_ ?_
                   rotate_left
                   · intro w'
                     go_simp
                     with_reducible rfl
                   rotate_left
                   · simp only [Act.put, List.setIfInBounds_toArray, List.set_cons_zero, List.set_cons_succ, i64_w, i32_w]
                     rfl
                   refine pure_ (i := 12) (N := some 55) (v := ?_) (a' := ?_) #[true, true, true, true, true, true, true, true, true, true, true, true, true] rfl rfl (any_of HT_.out (by kernel_rfl)) (fun _ _ _ h => h) (Or.inl ⟨by rfl, ?_⟩) ?_ ?_
                   rotate_left
                   · intro w'
                     go_simp
                     with_reducible rfl
                   rotate_left
                   · simp only [Act.put, List.setIfInBounds_toArray, List.set_cons_zero, List.set_cons_succ, i64_w, i32_w]
                     rfl
                   refine done_ (done_of HT_.out (by kernel_rfl)) ?_
                   try go_wp2
                   go_roundg kj12
                   case measure => have := HK1.out; have := HJ12.out; omega
                   case rel => exact ⟨(wrap64 (x24_1 + 1)), d17l, H', ⟨by have := HK1.out; have := HJ12.out; omega⟩, ⟨d17b⟩⟩
         · replace c12 := Bool.eq_false_iff.mpr c12
           subst c12
           replace H := iteF H
           obtain rfl := Option.some.inj H
           have p102 : 0 ≤ (x24_1 : Int) := of_decide_eq_true d17k
           have q102 : x24_1 < (l1.length : Int) := of_decide_eq_true d17k
           obtain ⟨ad102, e102, hx102_0, hx102_1, hx102_2⟩ := at_T35 HR1.out x24_1 p102 q102
           cases e102
           replace hx102_0 := cellB HB.out hx102_0
           replace hx102_1 := cellB HB.out hx102_1
           replace hx102_2 := cellB HB.out hx102_2
           replace p102 := eq_true p102
           replace q102 := eq_true q102
           go_wp2_with (first | ((with_reducible refine gate_dst (N := 7) rfl ?_); refine box_event ?hg (N := 7) ?hd (cs := #[.string (⟨#[]⟩ : ByteArray), .int .i64 0, .int .i64 0]) (t := 35) ?hr ?_; (case hd => rfl); (case hg => rfl); (case hr => exact d17m); intro gb103 hg w48 hbox hb; have n0_ := Aside0.mk (below_step d17g hb); have n1_ := Aside0.mk (hbox); have n2_ := Aside0.mk ((by rw [hg]; exact (below_size d17g) : w.heap.size ≤ gb103)); have n3_ := Aside0.mk ((by rw [hg]; exact (below_size d17g) : w.heap.size ≤ gb103)); clear HB; have HB := n0_; have BK103 := n1_; have GW103 := n2_; have GE103 := n3_; clear n0_ n1_ n2_ n3_; clear hb hbox hg; have hcz49_0 : w48.cell? ⟨gb103, 0, none⟩ = some (.string (⟨#[]⟩ : ByteArray)) := (blk_cell BK103.out 0).trans rfl; have hcz49_1 : w48.cell? ⟨gb103, 1, none⟩ = some (.int .i64 0) := (blk_cell BK103.out 1).trans rfl; have hcz49_2 : w48.cell? ⟨gb103, 2, none⟩ = some (.int .i64 0) := (blk_cell BK103.out 2).trans rfl; have hfz49_0 := blk_frozen BK103.out 0; have hfz49_1 := blk_frozen BK103.out 1; have hfz49_2 := blk_frozen BK103.out 2) | ((with_reducible refine gate_callee (f := 34) rfl ?_); refine goesL_ (some 33) rfl rfl Tryd.func34 (by kernel_rfl) rfl #[.slice A0 l0.length c0, .string ((rd_T35 l1 x24_1).f0)] rfl d17f ?_; (with_reducible refine (perigeeref9_loadOf.calls k1 _ _ l0 ((rd_T35 l1 x24_1).f0) t104 t105 t106 false _ ?side1 ?side2 A11.out).mono ?_); (case side1 => exact Kd.C_below HR0.out d17d); (case side2 => exact HC0.out); rintro e w50 ⟨rfl, hb⟩; refine ⟨_, rfl, ?_⟩; have n0_ := Aside0.mk (blk_below (g := gb103) (o := .cells #[.string ((rd_T35 l1 x24_1).f0), .int .i64 ((rd_T35 l1 x24_1).f1), .int .i64 ((rd_T35 l1 x24_1).f2)] 35 (0, 0)) (by (with_reducible repeat (first | refine blk_drewN ?_ _ | refine blk_drew ?_ | refine blk_alloc ?_ _)); refine blk_put (cs := #[.string ((rd_T35 l1 x24_1).f0), .int .i64 ((rd_T35 l1 x24_1).f1), .int .i64 0]) ?_ 2 _ rfl; (with_reducible repeat (first | refine blk_drewN ?_ _ | refine blk_drew ?_ | refine blk_alloc ?_ _)); refine blk_put (cs := #[.string ((rd_T35 l1 x24_1).f0), .int .i64 0, .int .i64 0]) ?_ 1 _ rfl; (with_reducible repeat (first | refine blk_drewN ?_ _ | refine blk_drew ?_ | refine blk_alloc ?_ _)); refine blk_put (cs := #[.string (⟨#[]⟩ : ByteArray), .int .i64 0, .int .i64 0]) ?_ 0 _ rfl; (with_reducible repeat (first | refine blk_drewN ?_ _ | refine blk_drew ?_ | refine blk_alloc ?_ _)); exact BK103.out) hb); have n1_ := Aside0.mk (below_step d17d hb); clear BK103; clear HB; have BK103 := n0_; have HB := n1_; clear n0_ n1_; (try clear hb)) | ((with_reducible refine gate_dst (N := 8) rfl ?_); refine box_event ?hg (N := 8) ?hd (cs := #[.string (⟨#[]⟩ : ByteArray), .int .i64 0, .int .i64 0]) (t := 32) ?hr ?_; (case hd => rfl); (case hg => rfl); (case hr => exact d17m); intro gb108 hg w51 hbox hb; have n0_ := Aside0.mk (blk_below (g := gb103) (o := .cells #[.string ((rd_T35 l1 x24_1).f0), .int .i64 ((rd_T35 l1 x24_1).f1), .int .i64 ((rd_T35 l1 x24_1).f2)] 35 (0, 0)) d17h hb); have n1_ := Aside0.mk (below_step d17d hb); have n2_ := Aside0.mk (hbox); have n3_ := Aside0.mk ((by rw [hg]; exact (below_size d17d) : w.heap.size ≤ gb108)); have n4_ := Aside0.mk ((by rw [hg]; exact (below_size d17d) : w.heap.size ≤ gb108)); have n5_ := Aside0.mk ((by rw [hg]; exact Nat.ne_of_lt (blk_lt (g := gb103) (o := .cells #[.string ((rd_T35 l1 x24_1).f0), .int .i64 ((rd_T35 l1 x24_1).f1), .int .i64 ((rd_T35 l1 x24_1).f2)] 35 (0, 0)) d17h) : gb103 ≠ gb108)); have n6_ := Aside0.mk ((by rw [hg]; exact Nat.ne_of_gt (blk_lt (g := gb103) (o := .cells #[.string ((rd_T35 l1 x24_1).f0), .int .i64 ((rd_T35 l1 x24_1).f1), .int .i64 ((rd_T35 l1 x24_1).f2)] 35 (0, 0)) d17h) : gb108 ≠ gb103)); clear BK103; clear HB; have BK103 := n0_; have HB := n1_; have BK108 := n2_; have GW108 := n3_; have GE108 := n4_; have NB103_108 := n5_; have NB108_103 := n6_; clear n0_ n1_ n2_ n3_ n4_ n5_ n6_; clear hb hbox hg; have hnb52 := NB108_103.out; have hnc52 := NB103_108.out; have hcz53_0 : w51.cell? ⟨gb108, 0, none⟩ = some (.string (⟨#[]⟩ : ByteArray)) := (blk_cell BK108.out 0).trans rfl; have hcz53_1 : w51.cell? ⟨gb108, 1, none⟩ = some (.int .i64 0) := (blk_cell BK108.out 1).trans rfl; have hcz53_2 : w51.cell? ⟨gb108, 2, none⟩ = some (.int .i64 0) := (blk_cell BK108.out 2).trans rfl; have hfz53_0 := blk_frozen BK108.out 0; have hfz53_1 := blk_frozen BK108.out 1; have hfz53_2 := blk_frozen BK108.out 2))
           go_ret
           exact ⟨d17j, d17b⟩
       · rw [if_neg c8] at H
         have c8b0 : decide (x24_1 < (l1.length : Int)) = false := decide_eq_false c8
         clear c8
         have H' := Aside0.mk H
         clear H
         go_wp2
         go_loopg [71] k1 (fun kq v71 w' => ∃ (x71_2 : Int), v71 = .int .i64 x71_2 ∧ Aside0 (perigeeref9_CheckUses.l1 kq l1 l1 (l1.length : Int) x71_2 = some r) ∧ Aside0 (kq ≤ k1) ∧ Aside0 (Below w.heap.size w w'))
         case atStart => exact ⟨(0), d17l, H', ⟨Nat.le_refl _⟩, ⟨d17g⟩⟩
         case round =>
          clear H'
          try clear c8b0
          obtain ⟨x71_2, rfl, HA, HK2, HB⟩ := hrel
          cases gk with
          | zero => exact absurd HA.out (by simp [perigeeref9_CheckUses.l1])
          | succ k2 =>
           have H := HA.out
           clear HA
           simp only [perigeeref9_CheckUses.l1] at H
           by_cases c54 : x71_2 < (l1.length : Int)
           · rw [if_pos c54] at H
             have c54b0 : decide (x71_2 < (l1.length : Int)) = true := decide_eq_true c54
             clear c54
             replace H := guardT H; obtain ⟨c55, H⟩ := H
             have c55b0 : decide (0 ≤ x71_2) = true := decide_eq_true c55
             clear c55
             replace H := guardT H; obtain ⟨c56, H⟩ := H
             have c56b0 : decide (x71_2 < (l1.length : Int)) = true := decide_eq_true c56
             clear c56
             have H' := Aside0.mk H
             clear H
             have p113 : 0 ≤ (x71_2 : Int) := of_decide_eq_true d17k
             have q113 : x71_2 < (l1.length : Int) := of_decide_eq_true d17k
             obtain ⟨ad113, e113, hx113_0, hx113_1, hx113_2⟩ := at_T35 HR1.out x71_2 p113 q113
             cases e113
             replace hx113_0 := cellB HB.out hx113_0
             replace hx113_1 := cellB HB.out hx113_1
             replace hx113_2 := cellB HB.out hx113_2
             replace p113 := eq_true p113
             replace q113 := eq_true q113
             go_wp2_with ((with_reducible refine gate_dst (N := 11) rfl ?_); refine box_event ?hg (N := 11) ?hd (cs := #[.string (⟨#[]⟩ : ByteArray), .int .i64 0, .int .i64 0]) (t := 35) ?hr ?_; (case hd => rfl); (case hg => rfl); (case hr => exact d17m); intro gb114 hg w57 hbox hb; have n0_ := Aside0.mk (below_step d17g hb); have n1_ := Aside0.mk (hbox); have n2_ := Aside0.mk ((by rw [hg]; exact (below_size d17g) : w.heap.size ≤ gb114)); have n3_ := Aside0.mk ((by rw [hg]; exact (below_size d17g) : w.heap.size ≤ gb114)); clear HB; have HB := n0_; have BK114 := n1_; have GW114 := n2_; have GE114 := n3_; clear n0_ n1_ n2_ n3_; clear hb hbox hg; have hcz58_0 : w57.cell? ⟨gb114, 0, none⟩ = some (.string (⟨#[]⟩ : ByteArray)) := (blk_cell BK114.out 0).trans rfl; have hcz58_1 : w57.cell? ⟨gb114, 1, none⟩ = some (.int .i64 0) := (blk_cell BK114.out 1).trans rfl; have hcz58_2 : w57.cell? ⟨gb114, 2, none⟩ = some (.int .i64 0) := (blk_cell BK114.out 2).trans rfl; have hfz58_0 := blk_frozen BK114.out 0; have hfz58_1 := blk_frozen BK114.out 1; have hfz58_2 := blk_frozen BK114.out 2)
             go_loopg [78] k2 (fun kq v78 w' => ∃ (x78_3 : Int), v78 = .int .i64 x78_3 ∧ Aside0 (perigeeref9_CheckUses.l2 kq l1 x71_2 l1 (l1.length : Int) x71_2 l1 (l1.length : Int) x78_3 ((rd_T35 l1 x71_2).f0) ((rd_T35 l1 x71_2).f1) ((rd_T35 l1 x71_2).f2) = some r) ∧ Aside0 (kq ≤ k2) ∧ Aside0 (w'.heap[gb114]? = some (.cells #[.string ((rd_T35 l1 x71_2).f0), .int .i64 ((rd_T35 l1 x71_2).f1), .int .i64 ((rd_T35 l1 x71_2).f2)] 35 (0, 0))) ∧ Aside0 (Below w.heap.size w w'))
             case atStart => exact ⟨(0), d17l, H', ⟨Nat.le_refl _⟩, ⟨by (with_reducible repeat (first | refine blk_drewN ?_ _ | refine blk_drew ?_ | refine blk_alloc ?_ _)); refine blk_put (cs := #[.string ((rd_T35 l1 x71_2).f0), .int .i64 ((rd_T35 l1 x71_2).f1), .int .i64 0]) ?_ 2 _ rfl; (with_reducible repeat (first | refine blk_drewN ?_ _ | refine blk_drew ?_ | refine blk_alloc ?_ _)); refine blk_put (cs := #[.string ((rd_T35 l1 x71_2).f0), .int .i64 0, .int .i64 0]) ?_ 1 _ rfl; (with_reducible repeat (first | refine blk_drewN ?_ _ | refine blk_drew ?_ | refine blk_alloc ?_ _)); refine blk_put (cs := #[.string (⟨#[]⟩ : ByteArray), .int .i64 0, .int .i64 0]) ?_ 0 _ rfl; (with_reducible repeat (first | refine blk_drewN ?_ _ | refine blk_drew ?_ | refine blk_alloc ?_ _)); exact BK114.out⟩, ⟨d17e⟩⟩
             case round =>
              clear H'
              try clear c54b0
              try clear c55b0
              try clear c56b0
              try clear hcz58_0
              try clear hcz58_1
              try clear hcz58_2
              try clear hfz58_0
              try clear hfz58_1
              try clear hfz58_2
              try clear hx113_0
              try clear hx113_1
              try clear hx113_2
              try clear p113
              try clear q113
              obtain ⟨x78_3, rfl, HA, HK3, BK114, HB⟩ := hrel
              cases gk with
              | zero => exact absurd HA.out (by simp [perigeeref9_CheckUses.l2])
              | succ k3 =>
               have H := HA.out
               clear HA
               simp only [perigeeref9_CheckUses.l2] at H
               by_cases c59 : x78_3 < (l1.length : Int)
               · rw [if_pos c59] at H
                 have c59b0 : decide (x78_3 < (l1.length : Int)) = true := decide_eq_true c59
                 clear c59
                 replace H := guardT H; obtain ⟨c60, H⟩ := H
                 have c60b0 : decide (0 ≤ x78_3) = true := decide_eq_true c60
                 clear c60
                 replace H := guardT H; obtain ⟨c61, H⟩ := H
                 have c61b0 : decide (x78_3 < (l1.length : Int)) = true := decide_eq_true c61
                 clear c61
                 by_cases c62 : x78_3 = x71_2
                 · rw [if_pos c62] at H
                   have c62b0 : (x78_3 == x71_2) = true := beq_iff_eq.mpr c62
                   have c62b1 : (x78_3 != x71_2) = false := bne_eq_false_iff_eq.mpr c62
                   clear c62
                   have H' := Aside0.mk H
                   clear H
                   have p115 : 0 ≤ (x78_3 : Int) := of_decide_eq_true d17k
                   have q115 : x78_3 < (l1.length : Int) := of_decide_eq_true d17k
                   obtain ⟨ad115, e115, hx115_0, hx115_1, hx115_2⟩ := at_T35 HR1.out x78_3 p115 q115
                   obtain rfl : ad113 = ad115 := (by injection e115)
                   replace hx115_0 := cellB HB.out hx115_0
                   replace hx115_1 := cellB HB.out hx115_1
                   replace hx115_2 := cellB HB.out hx115_2
                   replace p115 := eq_true p115
                   replace q115 := eq_true q115
                   go_wp2_with ((with_reducible refine gate_dst (N := 13) rfl ?_); refine box_event ?hg (N := 13) ?hd (cs := #[.string (⟨#[]⟩ : ByteArray), .int .i64 0, .int .i64 0]) (t := 35) ?hr ?_; (case hd => rfl); (case hg => rfl); (case hr => exact d17m); intro gb116 hg w63 hbox hb; have n0_ := Aside0.mk (blk_below (g := gb114) (o := .cells #[.string ((rd_T35 l1 x71_2).f0), .int .i64 ((rd_T35 l1 x71_2).f1), .int .i64 ((rd_T35 l1 x71_2).f2)] 35 (0, 0)) d17i hb); have n1_ := Aside0.mk (below_step d17e hb); have n2_ := Aside0.mk (hbox); have n3_ := Aside0.mk ((by rw [hg]; exact (below_size d17e) : w.heap.size ≤ gb116)); have n4_ := Aside0.mk ((by rw [hg]; exact (below_size d17e) : w.heap.size ≤ gb116)); have n5_ := Aside0.mk ((by rw [hg]; exact Nat.ne_of_lt (blk_lt (g := gb114) (o := .cells #[.string ((rd_T35 l1 x71_2).f0), .int .i64 ((rd_T35 l1 x71_2).f1), .int .i64 ((rd_T35 l1 x71_2).f2)] 35 (0, 0)) d17i) : gb114 ≠ gb116)); have n6_ := Aside0.mk ((by rw [hg]; exact Nat.ne_of_gt (blk_lt (g := gb114) (o := .cells #[.string ((rd_T35 l1 x71_2).f0), .int .i64 ((rd_T35 l1 x71_2).f1), .int .i64 ((rd_T35 l1 x71_2).f2)] 35 (0, 0)) d17i) : gb116 ≠ gb114)); clear BK114; clear HB; have BK114 := n0_; have HB := n1_; have BK116 := n2_; have GW116 := n3_; have GE116 := n4_; have NB114_116 := n5_; have NB116_114 := n6_; clear n0_ n1_ n2_ n3_ n4_ n5_ n6_; clear hb hbox hg; have hnb64 := NB116_114.out; have hnc64 := NB114_116.out; have hcz65_0 : w63.cell? ⟨gb116, 0, none⟩ = some (.string (⟨#[]⟩ : ByteArray)) := (blk_cell BK116.out 0).trans rfl; have hcz65_1 : w63.cell? ⟨gb116, 1, none⟩ = some (.int .i64 0) := (blk_cell BK116.out 1).trans rfl; have hcz65_2 : w63.cell? ⟨gb116, 2, none⟩ = some (.int .i64 0) := (blk_cell BK116.out 2).trans rfl; have hfz65_0 := blk_frozen BK116.out 0; have hfz65_1 := blk_frozen BK116.out 1; have hfz65_2 := blk_frozen BK116.out 2)
                   go_roundg k3
                   case measure => have := HK1.out; have := HK2.out; have := HK3.out; omega
                   case rel => exact ⟨(wrap64 (x78_3 + 1)), d17l, H', ⟨by have := HK1.out; have := HK2.out; have := HK3.out; omega⟩, ⟨d17a⟩, ⟨d17c⟩⟩
                 · rw [if_neg c62] at H
                   have c62b0 : (x78_3 == x71_2) = false := beq_eq_false_iff_ne.mpr c62
                   have c62b1 : (x78_3 != x71_2) = true := bne_iff_ne.mpr c62
                   by_cases c66 : ((rd_T35 l1 x78_3).f0).toList = ((rd_T35 l1 x71_2).f0).toList
                   · rw [if_pos c66] at H
                     have c66b0 : (((rd_T35 l1 x78_3).f0).toList == ((rd_T35 l1 x71_2).f0).toList) = true := beq_iff_eq.mpr c66
                     have c66b1 : (((rd_T35 l1 x78_3).f0).toList != ((rd_T35 l1 x71_2).f0).toList) = false := bne_eq_false_iff_eq.mpr c66
                     clear c66
                     replace H := bindS H; obtain ⟨t117, A67, H⟩ := H
                     by_cases c68 : t117 = true
                     · subst c68
                       replace H := iteT H
                       obtain rfl := Option.some.inj H
                       have p115 : 0 ≤ (x78_3 : Int) := of_decide_eq_true d17k
                       have q115 : x78_3 < (l1.length : Int) := of_decide_eq_true d17k
                       obtain ⟨ad115, e115, hx115_0, hx115_1, hx115_2⟩ := at_T35 HR1.out x78_3 p115 q115
                       obtain rfl : ad113 = ad115 := (by injection e115)
                       replace hx115_0 := cellB HB.out hx115_0
                       replace hx115_1 := cellB HB.out hx115_1
                       replace hx115_2 := cellB HB.out hx115_2
                       replace p115 := eq_true p115
                       replace q115 := eq_true q115
                       go_wp2_with (first | ((with_reducible refine gate_dst (N := 13) rfl ?_); refine box_event ?hg (N := 13) ?hd (cs := #[.string (⟨#[]⟩ : ByteArray), .int .i64 0, .int .i64 0]) (t := 35) ?hr ?_; (case hd => rfl); (case hg => rfl); (case hr => exact d17m); intro gb116 hg w69 hbox hb; have n0_ := Aside0.mk (blk_below (g := gb114) (o := .cells #[.string ((rd_T35 l1 x71_2).f0), .int .i64 ((rd_T35 l1 x71_2).f1), .int .i64 ((rd_T35 l1 x71_2).f2)] 35 (0, 0)) d17i hb); have n1_ := Aside0.mk (below_step d17e hb); have n2_ := Aside0.mk (hbox); have n3_ := Aside0.mk ((by rw [hg]; exact (below_size d17e) : w.heap.size ≤ gb116)); have n4_ := Aside0.mk ((by rw [hg]; exact (below_size d17e) : w.heap.size ≤ gb116)); have n5_ := Aside0.mk ((by rw [hg]; exact Nat.ne_of_lt (blk_lt (g := gb114) (o := .cells #[.string ((rd_T35 l1 x71_2).f0), .int .i64 ((rd_T35 l1 x71_2).f1), .int .i64 ((rd_T35 l1 x71_2).f2)] 35 (0, 0)) d17i) : gb114 ≠ gb116)); have n6_ := Aside0.mk ((by rw [hg]; exact Nat.ne_of_gt (blk_lt (g := gb114) (o := .cells #[.string ((rd_T35 l1 x71_2).f0), .int .i64 ((rd_T35 l1 x71_2).f1), .int .i64 ((rd_T35 l1 x71_2).f2)] 35 (0, 0)) d17i) : gb116 ≠ gb114)); clear BK114; clear HB; have BK114 := n0_; have HB := n1_; have BK116 := n2_; have GW116 := n3_; have GE116 := n4_; have NB114_116 := n5_; have NB116_114 := n6_; clear n0_ n1_ n2_ n3_ n4_ n5_ n6_; clear hb hbox hg; have hnb70 := NB116_114.out; have hnc70 := NB114_116.out; have hcz71_0 : w69.cell? ⟨gb116, 0, none⟩ = some (.string (⟨#[]⟩ : ByteArray)) := (blk_cell BK116.out 0).trans rfl; have hcz71_1 : w69.cell? ⟨gb116, 1, none⟩ = some (.int .i64 0) := (blk_cell BK116.out 1).trans rfl; have hcz71_2 : w69.cell? ⟨gb116, 2, none⟩ = some (.int .i64 0) := (blk_cell BK116.out 2).trans rfl; have hfz71_0 := blk_frozen BK116.out 0; have hfz71_1 := blk_frozen BK116.out 1; have hfz71_2 := blk_frozen BK116.out 2; have hcz72_0 : w69.cell? ⟨gb114, 0, none⟩ = some (.string ((rd_T35 l1 x71_2).f0)) := (blk_cell BK114.out 0).trans rfl; have hcz72_1 : w69.cell? ⟨gb114, 1, none⟩ = some (.int .i64 ((rd_T35 l1 x71_2).f1)) := (blk_cell BK114.out 1).trans rfl; have hcz72_2 : w69.cell? ⟨gb114, 2, none⟩ = some (.int .i64 ((rd_T35 l1 x71_2).f2)) := (blk_cell BK114.out 2).trans rfl; have hfz72_0 := blk_frozen BK114.out 0; have hfz72_1 := blk_frozen BK114.out 1; have hfz72_2 := blk_frozen BK114.out 2) | (go_at_call 35; (with_reducible refine (perigeeref9_within.calls ((rd_T35 l1 x71_2).f1) ((rd_T35 l1 x78_3).f1) (wrap64 (((rd_T35 l1 x78_3).f2) - 1)) true _ A67.out).mono ?_); rintro e w' ⟨rfl, ⟨nd, rfl⟩⟩))
                       go_ret
                       exact ⟨d17j, d17c⟩
                     · replace c68 := Bool.eq_false_iff.mpr c68
                       subst c68
                       replace H := iteF H
                       have H' := Aside0.mk H
                       clear H
                       have p115 : 0 ≤ (x78_3 : Int) := of_decide_eq_true d17k
                       have q115 : x78_3 < (l1.length : Int) := of_decide_eq_true d17k
                       obtain ⟨ad115, e115, hx115_0, hx115_1, hx115_2⟩ := at_T35 HR1.out x78_3 p115 q115
                       obtain rfl : ad113 = ad115 := (by injection e115)
                       replace hx115_0 := cellB HB.out hx115_0
                       replace hx115_1 := cellB HB.out hx115_1
                       replace hx115_2 := cellB HB.out hx115_2
                       replace p115 := eq_true p115
                       replace q115 := eq_true q115
                       go_wp2_with (first | ((with_reducible refine gate_dst (N := 13) rfl ?_); refine box_event ?hg (N := 13) ?hd (cs := #[.string (⟨#[]⟩ : ByteArray), .int .i64 0, .int .i64 0]) (t := 35) ?hr ?_; (case hd => rfl); (case hg => rfl); (case hr => exact d17m); intro gb116 hg w73 hbox hb; have n0_ := Aside0.mk (blk_below (g := gb114) (o := .cells #[.string ((rd_T35 l1 x71_2).f0), .int .i64 ((rd_T35 l1 x71_2).f1), .int .i64 ((rd_T35 l1 x71_2).f2)] 35 (0, 0)) d17i hb); have n1_ := Aside0.mk (below_step d17e hb); have n2_ := Aside0.mk (hbox); have n3_ := Aside0.mk ((by rw [hg]; exact (below_size d17e) : w.heap.size ≤ gb116)); have n4_ := Aside0.mk ((by rw [hg]; exact (below_size d17e) : w.heap.size ≤ gb116)); have n5_ := Aside0.mk ((by rw [hg]; exact Nat.ne_of_lt (blk_lt (g := gb114) (o := .cells #[.string ((rd_T35 l1 x71_2).f0), .int .i64 ((rd_T35 l1 x71_2).f1), .int .i64 ((rd_T35 l1 x71_2).f2)] 35 (0, 0)) d17i) : gb114 ≠ gb116)); have n6_ := Aside0.mk ((by rw [hg]; exact Nat.ne_of_gt (blk_lt (g := gb114) (o := .cells #[.string ((rd_T35 l1 x71_2).f0), .int .i64 ((rd_T35 l1 x71_2).f1), .int .i64 ((rd_T35 l1 x71_2).f2)] 35 (0, 0)) d17i) : gb116 ≠ gb114)); clear BK114; clear HB; have BK114 := n0_; have HB := n1_; have BK116 := n2_; have GW116 := n3_; have GE116 := n4_; have NB114_116 := n5_; have NB116_114 := n6_; clear n0_ n1_ n2_ n3_ n4_ n5_ n6_; clear hb hbox hg; have hnb74 := NB116_114.out; have hnc74 := NB114_116.out; have hcz75_0 : w73.cell? ⟨gb116, 0, none⟩ = some (.string (⟨#[]⟩ : ByteArray)) := (blk_cell BK116.out 0).trans rfl; have hcz75_1 : w73.cell? ⟨gb116, 1, none⟩ = some (.int .i64 0) := (blk_cell BK116.out 1).trans rfl; have hcz75_2 : w73.cell? ⟨gb116, 2, none⟩ = some (.int .i64 0) := (blk_cell BK116.out 2).trans rfl; have hfz75_0 := blk_frozen BK116.out 0; have hfz75_1 := blk_frozen BK116.out 1; have hfz75_2 := blk_frozen BK116.out 2; have hcz76_0 : w73.cell? ⟨gb114, 0, none⟩ = some (.string ((rd_T35 l1 x71_2).f0)) := (blk_cell BK114.out 0).trans rfl; have hcz76_1 : w73.cell? ⟨gb114, 1, none⟩ = some (.int .i64 ((rd_T35 l1 x71_2).f1)) := (blk_cell BK114.out 1).trans rfl; have hcz76_2 : w73.cell? ⟨gb114, 2, none⟩ = some (.int .i64 ((rd_T35 l1 x71_2).f2)) := (blk_cell BK114.out 2).trans rfl; have hfz76_0 := blk_frozen BK114.out 0; have hfz76_1 := blk_frozen BK114.out 1; have hfz76_2 := blk_frozen BK114.out 2) | (go_at_call 35; (with_reducible refine (perigeeref9_within.calls ((rd_T35 l1 x71_2).f1) ((rd_T35 l1 x78_3).f1) (wrap64 (((rd_T35 l1 x78_3).f2) - 1)) false _ A67.out).mono ?_); rintro e w' ⟨rfl, ⟨nd, rfl⟩⟩))
                       go_roundg k3
                       case measure => have := HK1.out; have := HK2.out; have := HK3.out; omega
                       case rel => exact ⟨(wrap64 (x78_3 + 1)), d17l, H', ⟨by have := HK1.out; have := HK2.out; have := HK3.out; omega⟩, ⟨d17a⟩, ⟨d17c⟩⟩
                   · rw [if_neg c66] at H
                     have c66b0 : (((rd_T35 l1 x78_3).f0).toList == ((rd_T35 l1 x71_2).f0).toList) = false := beq_eq_false_iff_ne.mpr c66
                     have c66b1 : (((rd_T35 l1 x78_3).f0).toList != ((rd_T35 l1 x71_2).f0).toList) = true := bne_iff_ne.mpr c66
                     have H' := Aside0.mk H
                     clear H
                     have p115 : 0 ≤ (x78_3 : Int) := of_decide_eq_true d17k
                     have q115 : x78_3 < (l1.length : Int) := of_decide_eq_true d17k
                     obtain ⟨ad115, e115, hx115_0, hx115_1, hx115_2⟩ := at_T35 HR1.out x78_3 p115 q115
                     obtain rfl : ad113 = ad115 := (by injection e115)
                     replace hx115_0 := cellB HB.out hx115_0
                     replace hx115_1 := cellB HB.out hx115_1
                     replace hx115_2 := cellB HB.out hx115_2
                     replace p115 := eq_true p115
                     replace q115 := eq_true q115
                     go_wp2_with ((with_reducible refine gate_dst (N := 13) rfl ?_); refine box_event ?hg (N := 13) ?hd (cs := #[.string (⟨#[]⟩ : ByteArray), .int .i64 0, .int .i64 0]) (t := 35) ?hr ?_; (case hd => rfl); (case hg => rfl); (case hr => exact d17m); intro gb116 hg w77 hbox hb; have n0_ := Aside0.mk (blk_below (g := gb114) (o := .cells #[.string ((rd_T35 l1 x71_2).f0), .int .i64 ((rd_T35 l1 x71_2).f1), .int .i64 ((rd_T35 l1 x71_2).f2)] 35 (0, 0)) d17i hb); have n1_ := Aside0.mk (below_step d17e hb); have n2_ := Aside0.mk (hbox); have n3_ := Aside0.mk ((by rw [hg]; exact (below_size d17e) : w.heap.size ≤ gb116)); have n4_ := Aside0.mk ((by rw [hg]; exact (below_size d17e) : w.heap.size ≤ gb116)); have n5_ := Aside0.mk ((by rw [hg]; exact Nat.ne_of_lt (blk_lt (g := gb114) (o := .cells #[.string ((rd_T35 l1 x71_2).f0), .int .i64 ((rd_T35 l1 x71_2).f1), .int .i64 ((rd_T35 l1 x71_2).f2)] 35 (0, 0)) d17i) : gb114 ≠ gb116)); have n6_ := Aside0.mk ((by rw [hg]; exact Nat.ne_of_gt (blk_lt (g := gb114) (o := .cells #[.string ((rd_T35 l1 x71_2).f0), .int .i64 ((rd_T35 l1 x71_2).f1), .int .i64 ((rd_T35 l1 x71_2).f2)] 35 (0, 0)) d17i) : gb116 ≠ gb114)); clear BK114; clear HB; have BK114 := n0_; have HB := n1_; have BK116 := n2_; have GW116 := n3_; have GE116 := n4_; have NB114_116 := n5_; have NB116_114 := n6_; clear n0_ n1_ n2_ n3_ n4_ n5_ n6_; clear hb hbox hg; have hnb78 := NB116_114.out; have hnc78 := NB114_116.out; have hcz79_0 : w77.cell? ⟨gb116, 0, none⟩ = some (.string (⟨#[]⟩ : ByteArray)) := (blk_cell BK116.out 0).trans rfl; have hcz79_1 : w77.cell? ⟨gb116, 1, none⟩ = some (.int .i64 0) := (blk_cell BK116.out 1).trans rfl; have hcz79_2 : w77.cell? ⟨gb116, 2, none⟩ = some (.int .i64 0) := (blk_cell BK116.out 2).trans rfl; have hfz79_0 := blk_frozen BK116.out 0; have hfz79_1 := blk_frozen BK116.out 1; have hfz79_2 := blk_frozen BK116.out 2; have hcz80_0 : w77.cell? ⟨gb114, 0, none⟩ = some (.string ((rd_T35 l1 x71_2).f0)) := (blk_cell BK114.out 0).trans rfl; have hcz80_1 : w77.cell? ⟨gb114, 1, none⟩ = some (.int .i64 ((rd_T35 l1 x71_2).f1)) := (blk_cell BK114.out 1).trans rfl; have hcz80_2 : w77.cell? ⟨gb114, 2, none⟩ = some (.int .i64 ((rd_T35 l1 x71_2).f2)) := (blk_cell BK114.out 2).trans rfl; have hfz80_0 := blk_frozen BK114.out 0; have hfz80_1 := blk_frozen BK114.out 1; have hfz80_2 := blk_frozen BK114.out 2)
                     go_roundg k3
                     case measure => have := HK1.out; have := HK2.out; have := HK3.out; omega
                     case rel => exact ⟨(wrap64 (x78_3 + 1)), d17l, H', ⟨by have := HK1.out; have := HK2.out; have := HK3.out; omega⟩, ⟨d17a⟩, ⟨d17c⟩⟩
               · rw [if_neg c59] at H
                 have c59b0 : decide (x78_3 < (l1.length : Int)) = false := decide_eq_false c59
                 clear c59
                 have H' := Aside0.mk H
                 clear H
                 go_wp2
                 go_roundg k3
                 case measure => have := HK1.out; have := HK2.out; have := HK3.out; omega
                 case rel => exact ⟨(wrap64 (x71_2 + 1)), d17l, H', ⟨by have := HK1.out; have := HK2.out; have := HK3.out; omega⟩, ⟨d17e⟩⟩
           · rw [if_neg c54] at H
             have c54b0 : decide (x71_2 < (l1.length : Int)) = false := decide_eq_false c54
             clear c54
             obtain rfl := Option.some.inj H
             go_wp2
             go_ret
             exact ⟨d17j, d17g⟩
 · rw [if_neg c4] at H
   have c4b0 : (t101 == 0) = false := beq_eq_false_iff_ne.mpr c4
   have c4b1 : (t101 != 0) = true := bne_iff_ne.mpr c4
   obtain rfl := Option.some.inj H
   go_enter Tryd.func17, Tryd.ntmps17
   go_wp2_with ((with_reducible refine gate_callee (f := 33) rfl ?_); refine goesL_ (some 15) rfl rfl Tryd.func33 (by kernel_rfl) rfl #[.slice A0 l0.length c0] rfl d17f ?_; (with_reducible refine (perigeeref9_CheckLoads.calls k _ _ l0 t101 _ ?side1 ?side2 A3.out).mono ?_); (case side1 => exact C_go HR0.out); (case side2 => exact HC0.out); rintro e w81 ⟨rfl, hb⟩; refine ⟨_, rfl, ?_⟩; replace HB := Aside0.mk (below_step d17g hb); (try clear hb))
   go_ret
   exact ⟨d17j, d17g⟩
end Go.Proofs.YtplcdpiggpkppaaDoor.Q
