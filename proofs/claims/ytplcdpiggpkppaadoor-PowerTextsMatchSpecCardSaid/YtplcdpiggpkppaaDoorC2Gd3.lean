-- Made by wip/tools/claimp.py of this session's texts; Lean checks it.
import Derived.Test.YtplcdpiggpkppaaDoorC2Q0
import Derived.Test.YtplcdpiggpkppaaDoorC2Gd1
import Derived.Test.YtplcdpiggpkppaaDoorC2Gd2
namespace Go.Proofs.YtplcdpiggpkppaaDoor.Q
open Go.RowKit Go.Proofs.YtplcdpiggpkppaaDoorW.PrintWords Go.Proofs.YtplcdpiggpkppaaDoorW.PrintLast Go.Proofs.YtplcdpiggpkppaaDoorW.PrintMore
attribute [local go_sem] max2_int min2_int max_two min_two max_three min_three max_four min_four
open Go.Proofs.YtplcdpiggpkppaaDoor.Base
attribute [local go_sem high] str_leq str_gtr str_geq
set_option linter.unusedVariables false
set_option linter.unusedSimpArgs false
mutual
def power_CheckUses.l0 : Nat → List (S32) → List (S35) → List (S35) → Int → Int → Option (Int)
  | 0, _, _, _, _, _ => none
  | k + 1, x0, x1, x23, x24, x25 => if x25 < x24 then (if 0 ≤ x25 then (if x25 < (x23.length : Int) then ((power_load.f k x0 ((rd_T35 x23 x25).f0)).bind fun bt104 => (if bt104.2.2.2 = true then ((power_span.f k ((rd_T35 x23 x25).f1) ((rd_T35 x23 x25).f2)).bind fun t109 => (if t109 = 0 then (if x25 > 0 then (if 0 ≤ (wrap64 (x25 - 1)) then (if (wrap64 (x25 - 1)) < (x1.length : Int) then ((power_compare.f ((rd_T35 x23 x25).f0) ((rd_T35 x23 x25).f1) ((rd_T35 x23 x25).f2) ((rd_T35 x1 (wrap64 (x25 - 1))).f0) ((rd_T35 x1 (wrap64 (x25 - 1))).f1) ((rd_T35 x1 (wrap64 (x25 - 1))).f2)).bind fun t111 => (if t111 ≤ 0 then (some 8) else (power_CheckUses.l0 k x0 x1 x23 x24 (wrap64 (x25 + 1))))) else (none)) else (none)) else (power_CheckUses.l0 k x0 x1 x23 x24 (wrap64 (x25 + 1)))) else (some t109))) else (some 9))) else (none)) else (none)) else (power_CheckUses.l1 k x1 x1 (x1.length : Int) 0)
def power_CheckUses.l1 : Nat → List (S35) → List (S35) → Int → Int → Option (Int)
  | 0, _, _, _, _ => none
  | k + 1, x1, x60, x61, x62 => if x62 < x61 then (if 0 ≤ x62 then (if x62 < (x60.length : Int) then (power_CheckUses.l2 k x1 x62 x60 x61 x62 x1 (x1.length : Int) 0 ((rd_T35 x60 x62).f0) ((rd_T35 x60 x62).f1) ((rd_T35 x60 x62).f2)) else (none)) else (none)) else (some 0)
def power_CheckUses.l2 : Nat → List (S35) → Int → List (S35) → Int → Int → List (S35) → Int → Int → ByteArray → Int → Int → Option (Int)
  | 0, _, _, _, _, _, _, _, _, _, _, _ => none
  | k + 1, x1, x11, x60, x61, x62, x67, x68, x69, x114000, x114001, x114002 => if x69 < x68 then (if 0 ≤ x69 then (if x69 < (x67.length : Int) then (if x69 = x11 then (power_CheckUses.l2 k x1 x11 x60 x61 x62 x67 x68 (wrap64 (x69 + 1)) x114000 x114001 x114002) else (if ((rd_T35 x67 x69).f0).toList = x114000.toList then (if ((rd_T35 x67 x69).f1) ≤ x114001 then (if x114001 < ((rd_T35 x67 x69).f2) then (some 12) else (power_CheckUses.l2 k x1 x11 x60 x61 x62 x67 x68 (wrap64 (x69 + 1)) x114000 x114001 x114002)) else (power_CheckUses.l2 k x1 x11 x60 x61 x62 x67 x68 (wrap64 (x69 + 1)) x114000 x114001 x114002)) else (power_CheckUses.l2 k x1 x11 x60 x61 x62 x67 x68 (wrap64 (x69 + 1)) x114000 x114001 x114002))) else (none)) else (none)) else (power_CheckUses.l1 k x1 x60 x61 (wrap64 (x62 + 1)))
end
def power_CheckUses.f (k : Nat) (l0 : List (S32)) (l1 : List (S35)) : Option (Int) := (power_CheckLoads.f k l0).bind fun t101 => (if t101 = 0 then (if (l1.length : Int) > 300 then (some 2) else (power_CheckUses.l0 k l0 l1 l1 (l1.length : Int) 0)) else (some t101))
def power_CheckUses.T15 : Bool × List (List Nat × List Nat) := (true, [([], []), ([0], [0]), ([1], [1]), ([2], [2]), ([2], [2]), ([2], [2]), ([5, 2], [2, 5]), ([4, 6, 2], [2, 4, 6]), ([7, 2], [2, 7]), ([3, 8, 2, 2], [2, 3, 8]), ([9, 2], [2, 9]), ([2, 10], [2, 10])])
def power_CheckUses.B15 : List Nat := [0, 1, 3, 7, 7, 7, 39, 119, 247, 511, 1023, 2047]
theorem power_CheckUses.tab15 : rtab .any (opsOf Tryd.f12 15) = power_CheckUses.T15 := by kernel_rfl
theorem power_CheckUses.bits15 : waitsOk power_CheckUses.T15.2 power_CheckUses.B15 = true := by kernel_rfl
theorem d12a {p : Prop} (h : p := by (with_reducible repeat (first | refine blk_drewN ?_ _ | refine blk_drew ?_ | refine blk_alloc ?_ _)); refine blk_put (cs := #[.string ((rd_T35 l1 x25_1).f0), .int .i64 ((rd_T35 l1 x25_1).f1), .int .i64 0]) ?_ 2 _ rfl; (with_reducible repeat (first | refine blk_drewN ?_ _ | refine blk_drew ?_ | refine blk_alloc ?_ _)); refine blk_put (cs := #[.string ((rd_T35 l1 x25_1).f0), .int .i64 0, .int .i64 0]) ?_ 1 _ rfl; (with_reducible repeat (first | refine blk_drewN ?_ _ | refine blk_drew ?_ | refine blk_alloc ?_ _)); refine blk_put (cs := #[.string (⟨#[]⟩ : ByteArray), .int .i64 0, .int .i64 0]) ?_ 0 _ rfl; (with_reducible repeat (first | refine blk_drewN ?_ _ | refine blk_drew ?_ | refine blk_alloc ?_ _)); exact BK103.out) : p := h
theorem d12b {p : Prop} (h : p := by (with_reducible repeat (first | refine blk_drewN ?_ _ | refine blk_drew ?_ | refine blk_alloc ?_ _)); refine blk_put (cs := #[.string t104, .int .i64 t105, .int .i64 0]) ?_ 2 _ rfl; (with_reducible repeat (first | refine blk_drewN ?_ _ | refine blk_drew ?_ | refine blk_alloc ?_ _)); refine blk_put (cs := #[.string t104, .int .i64 0, .int .i64 0]) ?_ 1 _ rfl; (with_reducible repeat (first | refine blk_drewN ?_ _ | refine blk_drew ?_ | refine blk_alloc ?_ _)); refine blk_put (cs := #[.string (⟨#[]⟩ : ByteArray), .int .i64 0, .int .i64 0]) ?_ 0 _ rfl; (with_reducible repeat (first | refine blk_drewN ?_ _ | refine blk_drew ?_ | refine blk_alloc ?_ _)); exact BK108.out) : p := h
theorem d12c {p : Prop} (h : p := by (with_reducible repeat (first | refine blk_drewN ?_ _ | refine blk_drew ?_ | refine blk_alloc ?_ _)); refine blk_far ?_ NB103_108.out _; (with_reducible repeat (first | refine blk_drewN ?_ _ | refine blk_drew ?_ | refine blk_alloc ?_ _)); refine blk_far ?_ NB103_108.out _; (with_reducible repeat (first | refine blk_drewN ?_ _ | refine blk_drew ?_ | refine blk_alloc ?_ _)); refine blk_far ?_ NB103_108.out _; (with_reducible repeat (first | refine blk_drewN ?_ _ | refine blk_drew ?_ | refine blk_alloc ?_ _)); exact BK103.out) : p := h
theorem d12d {p : Prop} (h : p := by (with_reducible repeat (first | refine blk_drewN ?_ _ | refine blk_drew ?_ | refine blk_alloc ?_ _)); refine blk_far ?_ NB113_115.out _; (with_reducible repeat (first | refine blk_drewN ?_ _ | refine blk_drew ?_ | refine blk_alloc ?_ _)); refine blk_far ?_ NB113_115.out _; (with_reducible repeat (first | refine blk_drewN ?_ _ | refine blk_drew ?_ | refine blk_alloc ?_ _)); refine blk_far ?_ NB113_115.out _; (with_reducible repeat (first | refine blk_drewN ?_ _ | refine blk_drew ?_ | refine blk_alloc ?_ _)); exact BK113.out) : p := h
theorem d12e {p : Prop} (h : p := by repeat (first | (with_reducible first | exact HB.out | apply below_alloc | apply pw_below_drewN | apply below_drew1 | refine below_set ?_ GE103.out | refine below_set ?_ GE108.out) | exact HB.out)) : p := h
theorem d12f {p : Prop} (h : p := by repeat (first | (with_reducible first | exact HB.out | apply below_alloc | apply pw_below_drewN | apply below_drew1 | refine below_set ?_ GE113.out | refine below_set ?_ GE115.out) | exact HB.out)) : p := h
theorem d12g {p : Prop} (h : p := by exact Kd.C_below HR0.out (by repeat (first | (with_reducible first | exact HB.out | apply below_alloc | apply pw_below_drewN | apply below_drew1 | refine below_set ?_ GE103.out) | exact HB.out))) : p := h
theorem d12h {p : Prop} (h : p := by repeat (first | (with_reducible first | exact HB.out | apply below_alloc | apply pw_below_drewN | apply below_drew1 | refine below_set ?_ GE103.out) | exact HB.out)) : p := h
theorem d12i {p : Prop} (h : p := by repeat (first | (with_reducible first | exact HB.out | apply below_alloc | apply pw_below_drewN | apply below_drew1 | refine below_set ?_ GE113.out) | exact HB.out)) : p := h
theorem d12j {p : Prop} (h : p := by (try simp only [List.map_toArray, List.map_cons, List.map_nil]); first | done | rfl | (simp only [List.length_drop, List.length_take]; rfl)) : p := h
theorem d12k {p : Prop} (h : p := by repeat (first | (with_reducible first | exact HB.out | apply below_alloc | apply pw_below_drewN | apply below_drew1) | exact HB.out)) : p := h
theorem d12l {p : Prop} (h : p := by (with_reducible repeat (first | refine blk_drewN ?_ _ | refine blk_drew ?_ | refine blk_alloc ?_ _)); exact BK103.out) : p := h
theorem d12m {p : Prop} (h : p := by (with_reducible repeat (first | refine blk_drewN ?_ _ | refine blk_drew ?_ | refine blk_alloc ?_ _)); exact BK108.out) : p := h
theorem d12n {p : Prop} (h : p := by (with_reducible repeat (first | refine blk_drewN ?_ _ | refine blk_drew ?_ | refine blk_alloc ?_ _)); exact BK113.out) : p := h
theorem d12o {p : Prop} (h : p := by first | rfl | (simp [errW_none, errW_some] <;> rfl) | (simp [*, errW_none, errW_some] <;> rfl)) : p := h
theorem d12p {p : Prop} (h : p := by first | (with_reducible assumption) | assumption) : p := h
theorem d12q {p : Prop} (h : p := by first | rfl | (simp; done) | (simp [*]; done)) : p := h
theorem d12r {p : Prop} (h : p := by first | (go_simp; done) | (go_simp; rfl)) : p := h
set_option maxHeartbeats 8000000 in
set_option maxRecDepth 100000 in
theorem power_CheckUses.calls (k : Nat) (A0 : Option Addr) (c0 : Nat) (l0 : List (S32)) (A1 : Option Addr) (c1 : Nat) (l1 : List (S35)) (r : Int) (w : World) (hr0 : Kd.C k32 w A0 l0.length l0) (hc0 : l0.length ≤ c0) (hr1 : Kd.C k35 w A1 l1.length l1) (hc1 : l1.length ≤ c1) (h : power_CheckUses.f k l0 l1 = some r) :
 Calls Tryd.prog 12 #[.slice A0 l0.length c0, .slice A1 l1.length c1] w fun e w' => e = .returned (.int .i64 r) ∧ Below w.heap.size w w' := by
 have hu35 := Tryd.underlying35
 have hu32 := Tryd.underlying32
 have HR0 := Aside0.mk hr0
 have HC0 := Aside0.mk hc0
 clear hr0 hc0
 have HR1 := Aside0.mk hr1
 have HC1 := Aside0.mk hc1
 clear hr1 hc1
 have HB := Aside0.mk (Below.refl w.heap.size w)
 have H : ((power_CheckLoads.f k l0).bind fun t101 => (if t101 = 0 then (if (l1.length : Int) > 300 then (some 2) else (power_CheckUses.l0 k l0 l1 l1 (l1.length : Int) 0)) else (some t101))) = some r := h
 clear h
 replace H := bindS H; obtain ⟨t101, A3, H⟩ := H
 by_cases c4 : t101 = 0
 · rw [if_pos c4] at H
   have c4b0 : (t101 == 0) = true := beq_iff_eq.mpr c4
   have c4b1 : (t101 != 0) = false := bne_eq_false_iff_eq.mpr c4
   clear c4
   by_cases c5 : (l1.length : Int) > 300
   · rw [if_pos c5] at H
     have c5b0 : decide (300 < (l1.length : Int)) = true := decide_eq_true c5
     have c5b1 : decide (300 < l1.length) = true := decide_eq_true (by omega)
     clear c5
     obtain rfl := Option.some.inj H
     go_enter Tryd.func12, Tryd.ntmps12
     go_wp2_with ((with_reducible refine gate_callee (f := 27) rfl ?_); refine goesL_ (some 16) rfl rfl Tryd.func27 (by kernel_rfl) rfl #[.slice A0 l0.length c0] rfl d12j ?_; (with_reducible refine (power_CheckLoads.calls k _ _ l0 t101 _ ?side1 ?side2 A3.out).mono ?_); (case side1 => exact C_go HR0.out); (case side2 => exact HC0.out); rintro e w6 ⟨rfl, hb⟩; refine ⟨_, rfl, ?_⟩; replace HB := Aside0.mk (below_step d12k hb); (try clear hb))
     go_ret
     exact ⟨d12o, d12k⟩
   · rw [if_neg c5] at H
     have c5b0 : decide (300 < (l1.length : Int)) = false := decide_eq_false c5
     have c5b1 : decide (300 < l1.length) = false := decide_eq_false (by omega)
     clear c5
     have H' := Aside0.mk H
     clear H
     go_enter Tryd.func12, Tryd.ntmps12
     go_wp2_with ((with_reducible refine gate_callee (f := 27) rfl ?_); refine goesL_ (some 16) rfl rfl Tryd.func27 (by kernel_rfl) rfl #[.slice A0 l0.length c0] rfl d12j ?_; (with_reducible refine (power_CheckLoads.calls k _ _ l0 t101 _ ?side1 ?side2 A3.out).mono ?_); (case side1 => exact C_go HR0.out); (case side2 => exact HC0.out); rintro e w7 ⟨rfl, hb⟩; refine ⟨_, rfl, ?_⟩; replace HB := Aside0.mk (below_step d12k hb); (try clear hb))
     go_loopg [25] k (fun kq v25 w' => ∃ (x25_1 : Int), v25 = .int .i64 x25_1 ∧ Aside0 (power_CheckUses.l0 kq l0 l1 l1 (l1.length : Int) x25_1 = some r) ∧ Aside0 (kq ≤ k) ∧ Aside0 (Below w.heap.size w w'))
     case atStart => exact ⟨(0), d12q, H', ⟨Nat.le_refl _⟩, ⟨d12k⟩⟩
     case round =>
      clear H'
      try clear c4b0
      try clear c4b1
      try clear c5b0
      try clear c5b1
      obtain ⟨x25_1, rfl, HA, HK1, HB⟩ := hrel
      cases gk with
      | zero => exact absurd HA.out (by simp [power_CheckUses.l0])
      | succ k1 =>
       have H := HA.out
       clear HA
       simp only [power_CheckUses.l0] at H
       by_cases c8 : x25_1 < (l1.length : Int)
       · rw [if_pos c8] at H
         have c8b0 : decide (x25_1 < (l1.length : Int)) = true := decide_eq_true c8
         clear c8
         replace H := guardT H; obtain ⟨c9, H⟩ := H
         have c9b0 : decide (0 ≤ x25_1) = true := decide_eq_true c9
         clear c9
         replace H := guardT H; obtain ⟨c10, H⟩ := H
         have c10b0 : decide (x25_1 < (l1.length : Int)) = true := decide_eq_true c10
         clear c10
         replace H := bindS H; obtain ⟨⟨t104, t105, t106, t107⟩, A11, H⟩ := H
         by_cases c12 : t107 = true
         · subst c12
           replace H := iteT H
           replace H := bindS H; obtain ⟨t109, A13, H⟩ := H
           by_cases c14 : t109 = 0
           · rw [if_pos c14] at H
             have c14b0 : (t109 == 0) = true := beq_iff_eq.mpr c14
             have c14b1 : (t109 != 0) = false := bne_eq_false_iff_eq.mpr c14
             clear c14
             by_cases c15 : x25_1 > 0
             · rw [if_pos c15] at H
               have c15b0 : decide (0 < x25_1) = true := decide_eq_true c15
               clear c15
               obtain ⟨ji16, hji16⟩ : ∃ j_ : Int, (wrap64 (x25_1 - 1)) = j_ := ⟨_, rfl⟩
               replace H : (if 0 ≤ (ji16) then (if (ji16) < (l1.length : Int) then ((power_compare.f ((rd_T35 l1 x25_1).f0) ((rd_T35 l1 x25_1).f1) ((rd_T35 l1 x25_1).f2) ((rd_T35 l1 (ji16)).f0) ((rd_T35 l1 (ji16)).f1) ((rd_T35 l1 (ji16)).f2)).bind fun t111 => (if t111 ≤ 0 then (some 8) else (power_CheckUses.l0 k1 l0 l1 l1 (l1.length : Int) (wrap64 (x25_1 + 1))))) else (none)) else (none)) = some r := by first | (rw [hji16] at H; exact H) | (simp only [hji16] at H ⊢; exact H)
               (try rw [hji16] at A11)
               (try rw [hji16] at A13)
               have hji16w : (IntKind.i64.wrap (x25_1 - 1)) = ji16 := (i64_w _).trans hji16
               replace H := guardT H; obtain ⟨c17, H⟩ := H
               have c17b0 : decide (0 ≤ (ji16)) = true := decide_eq_true c17
               clear c17
               replace H := guardT H; obtain ⟨c18, H⟩ := H
               have c18b0 : decide ((ji16) < (l1.length : Int)) = true := decide_eq_true c18
               clear c18
               replace H := bindS H; obtain ⟨t111, A19, H⟩ := H
               by_cases c20 : t111 ≤ 0
               · rw [if_pos c20] at H
                 have c20b0 : decide (t111 ≤ 0) = true := decide_eq_true c20
                 clear c20
                 obtain rfl := Option.some.inj H
                 have p102 : 0 ≤ (x25_1 : Int) := of_decide_eq_true d12p
                 have q102 : x25_1 < (l1.length : Int) := of_decide_eq_true d12p
                 obtain ⟨ad102, e102, hx102_0, hx102_1, hx102_2⟩ := at_T35 HR1.out x25_1 p102 q102
                 cases e102
                 replace hx102_0 := cellB HB.out hx102_0
                 replace hx102_1 := cellB HB.out hx102_1
                 replace hx102_2 := cellB HB.out hx102_2
                 replace p102 := eq_true p102
                 replace q102 := eq_true q102
                 try go_wp2_with (first | ((with_reducible refine gate_dst (N := 7) rfl ?_); refine box_event ?hg (N := 7) ?hd (cs := #[.string (⟨#[]⟩ : ByteArray), .int .i64 0, .int .i64 0]) (t := 35) ?hr ?_; (case hd => rfl); (case hg => rfl); (case hr => exact d12r); intro gb103 hg w21 hbox hb; have n0_ := Aside0.mk (below_step d12k hb); have n1_ := Aside0.mk (hbox); have n2_ := Aside0.mk ((by rw [hg]; exact (below_size d12k) : w.heap.size ≤ gb103)); have n3_ := Aside0.mk ((by rw [hg]; exact (below_size d12k) : w.heap.size ≤ gb103)); clear HB; have HB := n0_; have BK103 := n1_; have GW103 := n2_; have GE103 := n3_; clear n0_ n1_ n2_ n3_; clear hb hbox hg; have hcz22_0 : w21.cell? ⟨gb103, 0, none⟩ = some (.string (⟨#[]⟩ : ByteArray)) := (blk_cell BK103.out 0).trans rfl; have hcz22_1 : w21.cell? ⟨gb103, 1, none⟩ = some (.int .i64 0) := (blk_cell BK103.out 1).trans rfl; have hcz22_2 : w21.cell? ⟨gb103, 2, none⟩ = some (.int .i64 0) := (blk_cell BK103.out 2).trans rfl; have hfz22_0 := blk_frozen BK103.out 0; have hfz22_1 := blk_frozen BK103.out 1; have hfz22_2 := blk_frozen BK103.out 2) | ((with_reducible refine gate_callee (f := 28) rfl ?_); refine goesL_ (some 34) rfl rfl Tryd.func28 (by kernel_rfl) rfl #[.slice A0 l0.length c0, .string ((rd_T35 l1 x25_1).f0)] rfl d12j ?_; (with_reducible refine (power_load.calls k1 _ _ l0 ((rd_T35 l1 x25_1).f0) t104 t105 t106 true _ ?side1 ?side2 A11.out).mono ?_); (case side1 => exact d12g); (case side2 => exact HC0.out); rintro e w23 ⟨rfl, hb⟩; refine ⟨_, rfl, ?_⟩; have n0_ := Aside0.mk (blk_below (g := gb103) (o := .cells #[.string ((rd_T35 l1 x25_1).f0), .int .i64 ((rd_T35 l1 x25_1).f1), .int .i64 ((rd_T35 l1 x25_1).f2)] 35 (0, 0)) d12a hb); have n1_ := Aside0.mk (below_step d12h hb); clear BK103; clear HB; have BK103 := n0_; have HB := n1_; clear n0_ n1_; (try clear hb)) | ((with_reducible refine gate_dst (N := 8) rfl ?_); refine box_event ?hg (N := 8) ?hd (cs := #[.string (⟨#[]⟩ : ByteArray), .int .i64 0, .int .i64 0]) (t := 32) ?hr ?_; (case hd => rfl); (case hg => rfl); (case hr => exact d12r); intro gb108 hg w24 hbox hb; have n0_ := Aside0.mk (blk_below (g := gb103) (o := .cells #[.string ((rd_T35 l1 x25_1).f0), .int .i64 ((rd_T35 l1 x25_1).f1), .int .i64 ((rd_T35 l1 x25_1).f2)] 35 (0, 0)) d12l hb); have n1_ := Aside0.mk (below_step d12h hb); have n2_ := Aside0.mk (hbox); have n3_ := Aside0.mk ((by rw [hg]; exact (below_size d12h) : w.heap.size ≤ gb108)); have n4_ := Aside0.mk ((by rw [hg]; exact (below_size d12h) : w.heap.size ≤ gb108)); have n5_ := Aside0.mk ((by rw [hg]; exact Nat.ne_of_lt (blk_lt (g := gb103) (o := .cells #[.string ((rd_T35 l1 x25_1).f0), .int .i64 ((rd_T35 l1 x25_1).f1), .int .i64 ((rd_T35 l1 x25_1).f2)] 35 (0, 0)) d12l) : gb103 ≠ gb108)); have n6_ := Aside0.mk ((by rw [hg]; exact Nat.ne_of_gt (blk_lt (g := gb103) (o := .cells #[.string ((rd_T35 l1 x25_1).f0), .int .i64 ((rd_T35 l1 x25_1).f1), .int .i64 ((rd_T35 l1 x25_1).f2)] 35 (0, 0)) d12l) : gb108 ≠ gb103)); clear BK103; clear HB; have BK103 := n0_; have HB := n1_; have BK108 := n2_; have GW108 := n3_; have GE108 := n4_; have NB103_108 := n5_; have NB108_103 := n6_; clear n0_ n1_ n2_ n3_ n4_ n5_ n6_; clear hb hbox hg; have hnb25 := NB108_103.out; have hnc25 := NB103_108.out; have hcz26_0 : w24.cell? ⟨gb108, 0, none⟩ = some (.string (⟨#[]⟩ : ByteArray)) := (blk_cell BK108.out 0).trans rfl; have hcz26_1 : w24.cell? ⟨gb108, 1, none⟩ = some (.int .i64 0) := (blk_cell BK108.out 1).trans rfl; have hcz26_2 : w24.cell? ⟨gb108, 2, none⟩ = some (.int .i64 0) := (blk_cell BK108.out 2).trans rfl; have hfz26_0 := blk_frozen BK108.out 0; have hfz26_1 := blk_frozen BK108.out 1; have hfz26_2 := blk_frozen BK108.out 2; have hcz27_0 : w24.cell? ⟨gb103, 0, none⟩ = some (.string ((rd_T35 l1 x25_1).f0)) := (blk_cell BK103.out 0).trans rfl; have hcz27_1 : w24.cell? ⟨gb103, 1, none⟩ = some (.int .i64 ((rd_T35 l1 x25_1).f1)) := (blk_cell BK103.out 1).trans rfl; have hcz27_2 : w24.cell? ⟨gb103, 2, none⟩ = some (.int .i64 ((rd_T35 l1 x25_1).f2)) := (blk_cell BK103.out 2).trans rfl; have hfz27_0 := blk_frozen BK103.out 0; have hfz27_1 := blk_frozen BK103.out 1; have hfz27_2 := blk_frozen BK103.out 2) | ((with_reducible refine gate_callee (f := 29) rfl ?_); refine goesL_ (some 43) rfl rfl Tryd.func29 (by kernel_rfl) rfl #[.int .i64 ((rd_T35 l1 x25_1).f1), .int .i64 ((rd_T35 l1 x25_1).f2)] rfl d12j ?_; (with_reducible refine (power_span.calls k1 ((rd_T35 l1 x25_1).f1) ((rd_T35 l1 x25_1).f2) t109 _ A13.out).mono ?_); rintro e w' ⟨rfl, ⟨nd, rfl⟩⟩; refine ⟨_, rfl, ?_⟩))
                 have n0_ : Aside0 ((((w24.setCell ⟨gb108, 0, none⟩ (.string t104)).setCell ⟨gb108, 1, none⟩ (.int .i64 t105)).setCell ⟨gb108, 2, none⟩ (.int .i64 t106)).heap[gb103]? = some (.cells #[.string ((rd_T35 l1 x25_1).f0), .int .i64 ((rd_T35 l1 x25_1).f1), .int .i64 ((rd_T35 l1 x25_1).f2)] 35 (0, 0))) := ⟨d12c⟩
                 have n1_ : Aside0 ((((w24.setCell ⟨gb108, 0, none⟩ (.string t104)).setCell ⟨gb108, 1, none⟩ (.int .i64 t105)).setCell ⟨gb108, 2, none⟩ (.int .i64 t106)).heap[gb108]? = some (.cells #[.string t104, .int .i64 t105, .int .i64 t106] 32 (0, 0))) := ⟨d12b⟩
                 have n2_ : Aside0 (Below w.heap.size w (((w24.setCell ⟨gb108, 0, none⟩ (.string t104)).setCell ⟨gb108, 1, none⟩ (.int .i64 t105)).setCell ⟨gb108, 2, none⟩ (.int .i64 t106))) := ⟨d12e⟩
                 (try clear BK103)
                 (try clear BK108)
                 (try clear HB)
                 generalize (((w24.setCell ⟨gb108, 0, none⟩ (.string t104)).setCell ⟨gb108, 1, none⟩ (.int .i64 t105)).setCell ⟨gb108, 2, none⟩ (.int .i64 t106)) = w28 at n0_ n1_ n2_ ⊢
                 have BK103 := n0_
                 have BK108 := n1_
                 have HB := n2_
                 clear n0_ n1_ n2_
                 (try (rw [drewN_self w28]; generalize hq_ : World.drewN w28 _ = w28; have n0_ : Aside0 (w28.heap[gb103]? = some (.cells #[.string ((rd_T35 l1 x25_1).f0), .int .i64 ((rd_T35 l1 x25_1).f1), .int .i64 ((rd_T35 l1 x25_1).f2)] 35 (0, 0))) := ⟨by rw [← hq_]; exact d12l⟩; have n1_ : Aside0 (w28.heap[gb108]? = some (.cells #[.string t104, .int .i64 t105, .int .i64 t106] 32 (0, 0))) := ⟨by rw [← hq_]; exact d12m⟩; have n2_ : Aside0 (Below w.heap.size w w28) := ⟨by rw [← hq_]; exact d12e⟩; clear BK103 BK108 HB hq_; have BK103 := n0_; have BK108 := n1_; have HB := n2_; clear n0_ n1_ n2_))
                 have n0_ := Aside0.mk (blk_drew BK103.out)
                 have n1_ := Aside0.mk (blk_drew BK108.out)
                 have n2_ := Aside0.mk (below_drew1 HB.out)
                 clear BK103
                 clear BK108
                 clear HB
                 have BK103 := n0_
                 have BK108 := n1_
                 have HB := n2_
                 clear n0_ n1_ n2_
                 have p110 : 0 ≤ ((ji16) : Int) := of_decide_eq_true d12p
                 have q110 : (ji16) < (l1.length : Int) := of_decide_eq_true d12p
                 obtain ⟨ad110, e110, hx110_0, hx110_1, hx110_2⟩ := at_T35 HR1.out (ji16) p110 q110
                 have hw110_2 := hx110_2
                 have hw110_1 := hx110_1
                 have hw110_0 := hx110_0
                 obtain rfl : ad102 = ad110 := (by injection e110)
                 replace hx110_0 := cellB HB.out hx110_0
                 replace hx110_1 := cellB HB.out hx110_1
                 replace hx110_2 := cellB HB.out hx110_2
                 replace p110 := eq_true p110
                 replace q110 := eq_true q110
                 refine start_ (n := 12) (S := fun w' => w'.cell? ⟨gb103, 0, none⟩ = some (.string ((rd_T35 l1 x25_1).f0)) ∧ w'.cell? ⟨gb103, 1, none⟩ = some (.int .i64 ((rd_T35 l1 x25_1).f1)) ∧ w'.cell? ⟨gb103, 2, none⟩ = some (.int .i64 ((rd_T35 l1 x25_1).f2)) ∧ w'.cell? (ad102.add (((ji16)).toNat * 3)) = some (.string ((rd_T35 l1 (ji16)).f0)) ∧ w'.cell? ⟨(ad102.add (((ji16)).toNat * 3)).block, (ad102.add (((ji16)).toNat * 3)).off + 1, none⟩ = some (.int .i64 ((rd_T35 l1 (ji16)).f1)) ∧ w'.cell? ⟨(ad102.add (((ji16)).toNat * 3)).block, (ad102.add (((ji16)).toNat * 3)).off + 2, none⟩ = some (.int .i64 ((rd_T35 l1 (ji16)).f2))) (ds := []) #[false, false, false, false, false, false, false, false, false, false, false, false] (by kernel_rfl) rfl rfl ⟨(blk_cell BK103.out 0).trans rfl, (blk_cell BK103.out 1).trans rfl, (blk_cell BK103.out 2).trans rfl, ((HB.out.cell (World.block_lt_of_cell? w _ hw110_0)).trans hw110_0), ((HB.out.cell (World.block_lt_of_cell? w _ hw110_1)).trans hw110_1), ((HB.out.cell (World.block_lt_of_cell? w _ hw110_2)).trans hw110_2)⟩ (fun hHeld => ?_); refine with_tabW power_CheckUses.tab15 power_CheckUses.bits15 (fun HT_ HW_ => ?_)
                 generalize w28.drew = w29 at BK103 BK108 HB hx110_0 hx110_1 hx110_2 hHeld ⊢
                 refine pure_ (i := 0) (N := some 47) (v := ?_) (a' := ?_) #[true, false, false, false, false, false, false, false, false, false, false, false] rfl rfl (any_of HT_.out (by kernel_rfl)) (fun _ _ _ h => h) (Or.inl ⟨by rfl, ?_⟩) ?_ ?_
                 rotate_left
                 · intro w'
                   go_simp
                   with_reducible rfl
                 rotate_left
                 · simp only [Act.put, List.setIfInBounds_toArray, List.set_cons_zero, List.set_cons_succ, i64_w, i32_w]
                   rfl
                 refine pure_ (i := 1) (N := some 48) (v := ?_) (a' := ?_) #[true, true, false, false, false, false, false, false, false, false, false, false] rfl rfl (any_of HT_.out (by kernel_rfl)) (fun _ _ _ h => h) (Or.inl ⟨by rfl, ?_⟩) ?_ ?_
                 rotate_left
                 · intro w'
                   go_simp
                   with_reducible rfl
                 rotate_left
                 · simp only [Act.put, List.setIfInBounds_toArray, List.set_cons_zero, List.set_cons_succ, i64_w, i32_w]
                   rfl
                 refine pure_ (i := 2) (N := some 49) (v := ?_) (a' := ?_) #[true, true, true, false, false, false, false, false, false, false, false, false] rfl rfl (any_of HT_.out (by kernel_rfl)) (fun _ _ _ h => h) (Or.inl ⟨by rfl, ?_⟩) ?_ ?_
                 rotate_left
                 · intro w'
                   go_simp
                   with_reducible rfl
                 rotate_left
                 · simp only [Act.put, List.setIfInBounds_toArray, List.set_cons_zero, List.set_cons_succ, i64_w, i32_w]
                   rfl
                 refine pure_ (i := 4) (N := some 51) (v := ?_) (a' := ?_) #[true, true, true, false, true, false, false, false, false, false, false, false] rfl rfl (any_of HT_.out (by kernel_rfl)) (fun _ _ _ h => h) (Or.inl ⟨by rfl, ?_⟩) ?_ ?_
                 rotate_left
                 · intro w'
                   go_simp
                   with_reducible rfl
                 rotate_left
                 · simp only [Act.put, List.setIfInBounds_toArray, List.set_cons_zero, List.set_cons_succ, i64_w, i32_w]
                   rfl
                 refine pure_ (i := 5) (N := some 52) (v := ?_) (a' := ?_) #[true, true, true, false, true, true, false, false, false, false, false, false] rfl rfl (any_of HT_.out (by kernel_rfl)) (fun _ _ _ h => h) (Or.inl ⟨by rfl, ?_⟩) ?_ ?_
                 rotate_left
                 · intro w'
                   go_simp
                   with_reducible rfl
                 rotate_left
                 · simp only [Act.put, List.setIfInBounds_toArray, List.set_cons_zero, List.set_cons_succ, i64_w, i32_w]
                   rfl
                 refine pure_ (i := 6) (N := some 53) (v := ?_) (a' := ?_) #[true, true, true, false, true, true, true, false, false, false, false, false] rfl rfl (any_of HT_.out (by kernel_rfl)) (fun _ _ _ h => h) (Or.inl ⟨by rfl, ?_⟩) ?_ ?_
                 rotate_left
                 · intro w'
                   go_simp
                   with_reducible rfl
                 rotate_left
                 · simp only [Act.put, List.setIfInBounds_toArray, List.set_cons_zero, List.set_cons_succ, i64_w, i32_w]
                   rfl
                 refine pure_ (i := 7) (N := some 54) (v := ?_) (a' := ?_) #[true, true, true, false, true, true, true, true, false, false, false, false] rfl rfl (any_of HT_.out (by kernel_rfl)) (fun _ _ _ h => h) (Or.inl ⟨by rfl, ?_⟩) ?_ ?_
                 rotate_left
                 · intro w'
                   go_simp
                   with_reducible rfl
                 rotate_left
                 · simp only [Act.put, List.setIfInBounds_toArray, List.set_cons_zero, List.set_cons_succ, i64_w, i32_w]
                   rfl
                 refine take_ (i := 3) (N := some 50) (v := ?_) (a' := ?_) #[true, true, true, true, true, true, true, true, false, false, false, false] rfl rfl (take_ofW HT_.out HW_.out (by kernel_rfl)) (fun _ _ _ h => h) (Or.inl ⟨by rfl, ?_⟩) hHeld ?_ ?_
                 rotate_left
                 · rintro w' ⟨s0, s1, s2, s3, s4, s5⟩
                   go_simp
                   with_reducible rfl
                 rotate_left
                 · simp only [Act.put, List.setIfInBounds_toArray, List.set_cons_zero, List.set_cons_succ, i64_w, i32_w]
                   rfl
                 refine take_ (i := 8) (N := some 55) (v := ?_) (a' := ?_) #[true, true, true, true, true, true, true, true, true, false, false, false] rfl rfl (take_ofW HT_.out HW_.out (by kernel_rfl)) (fun _ _ _ h => h) (Or.inl ⟨by rfl, ?_⟩) hHeld ?_ ?_
                 rotate_left
                 · rintro w' ⟨s0, s1, s2, s3, s4, s5⟩
                   go_simp
                   with_reducible rfl
                 rotate_left
                 · simp only [Act.put, List.setIfInBounds_toArray, List.set_cons_zero, List.set_cons_succ, i64_w, i32_w]
                   rfl
                 refine one_ (i := 9) (N := some 56) #[true, true, true, true, true, true, true, true, true, true, false, false] rfl rfl (one_of HT_.out (by kernel_rfl)) (by decide) (fun K hK => ?_)
                 refine goes_ Tryd.func30 (by kernel_rfl) rfl #[.agg #[.string ((rd_T35 l1 x25_1).f0), .int .i64 ((rd_T35 l1 x25_1).f1), .int .i64 ((rd_T35 l1 x25_1).f2)], .agg #[.string ((rd_T35 l1 (ji16)).f0), .int .i64 ((rd_T35 l1 (ji16)).f1), .int .i64 ((rd_T35 l1 (ji16)).f2)]] (by rfl) rfl rfl (by (try simp only [List.map_toArray, List.map_cons, List.map_nil]); first | done | (simp only [hji16]; rfl) | rfl | (simp only [List.length_drop, List.length_take]; rfl)) ?_
                 with_reducible refine (power_compare.calls ((rd_T35 l1 x25_1).f0) ((rd_T35 l1 x25_1).f1) ((rd_T35 l1 x25_1).f2) ((rd_T35 l1 (ji16)).f0) ((rd_T35 l1 (ji16)).f1) ((rd_T35 l1 (ji16)).f2) t111 _ A19.out).mono ?_
                 rintro e w30 ⟨rfl, hb⟩
                 refine ⟨_, rfl, ?_⟩
                 have n0_ := Aside0.mk (blk_below (g := gb103) (o := .cells #[.string ((rd_T35 l1 x25_1).f0), .int .i64 ((rd_T35 l1 x25_1).f1), .int .i64 ((rd_T35 l1 x25_1).f2)] 35 (0, 0)) d12l hb)
                 have n1_ := Aside0.mk (blk_below (g := gb108) (o := .cells #[.string t104, .int .i64 t105, .int .i64 t106] 32 (0, 0)) d12m hb)
                 have n2_ := Aside0.mk (below_step d12e hb)
                 clear BK103
                 clear BK108
                 clear HB
                 have BK103 := n0_
                 have BK108 := n1_
                 have HB := n2_
                 clear n0_ n1_ n2_
                 (try clear hb)
                 skip
                 skip
                 skip
                 refine hK.out _ _ ⟨(blk_cell BK103.out 0).trans rfl, (blk_cell BK103.out 1).trans rfl, (blk_cell BK103.out 2).trans rfl, ((HB.out.cell (World.block_lt_of_cell? w _ hw110_0)).trans hw110_0), ((HB.out.cell (World.block_lt_of_cell? w _ hw110_1)).trans hw110_1), ((HB.out.cell (World.block_lt_of_cell? w _ hw110_2)).trans hw110_2)⟩ (fun hHeld => ?_)
                 clear hK K
                 refine norm_ (a' := ?_) ?_ ?_
                 rotate_left
                 · show Act.put _ (some 56) _ = _
                   simp only [Act.put, List.setIfInBounds_toArray, List.set_cons_zero, List.set_cons_succ, i64_w, i32_w]
                   rfl
                 refine pure_ (i := 10) (N := some 57) (v := ?_) (a' := ?_) #[true, true, true, true, true, true, true, true, true, true, true, false] rfl rfl (any_of HT_.out (by kernel_rfl)) (fun _ _ _ h => h) (Or.inl ⟨by rfl, ?_⟩) ?_ ?_
                 rotate_left
                 · intro w'
                   go_simp
                   with_reducible rfl
                 rotate_left
                 · simp only [Act.put, List.setIfInBounds_toArray, List.set_cons_zero, List.set_cons_succ, i64_w, i32_w]
                   rfl
                 refine pure_ (i := 11) (N := some 58) (v := ?_) (a' := ?_) #[true, true, true, true, true, true, true, true, true, true, true, true] rfl rfl (any_of HT_.out (by kernel_rfl)) (fun _ _ _ h => h) (Or.inl ⟨by rfl, ?_⟩) ?_ ?_
                 rotate_left
                 · intro w'
                   go_simp
                   with_reducible rfl
                 rotate_left
                 · simp only [Act.put, List.setIfInBounds_toArray, List.set_cons_zero, List.set_cons_succ, i64_w, i32_w]
                   rfl
                 refine done_ (done_of HT_.out (by kernel_rfl)) ?_
                 try go_wp2
                 go_ret
                 exact ⟨by first | rfl | (simp [errW_none, errW_some] <;> rfl) | (simp only [← hji16]; first | rfl | (simp [errW_none, errW_some] <;> rfl)) | (simp [*, errW_none, errW_some] <;> rfl), d12e⟩
               · rw [if_neg c20] at H
                 have c20b0 : decide (t111 ≤ 0) = false := decide_eq_false c20
                 clear c20
                 have H' := Aside0.mk H
                 clear H
                 have p102 : 0 ≤ (x25_1 : Int) := of_decide_eq_true d12p
                 have q102 : x25_1 < (l1.length : Int) := of_decide_eq_true d12p
                 obtain ⟨ad102, e102, hx102_0, hx102_1, hx102_2⟩ := at_T35 HR1.out x25_1 p102 q102
                 cases e102
                 replace hx102_0 := cellB HB.out hx102_0
                 replace hx102_1 := cellB HB.out hx102_1
                 replace hx102_2 := cellB HB.out hx102_2
                 replace p102 := eq_true p102
                 replace q102 := eq_true q102
                 try go_wp2_with (first | ((with_reducible refine gate_dst (N := 7) rfl ?_); refine box_event ?hg (N := 7) ?hd (cs := #[.string (⟨#[]⟩ : ByteArray), .int .i64 0, .int .i64 0]) (t := 35) ?hr ?_; (case hd => rfl); (case hg => rfl); (case hr => exact d12r); intro gb103 hg w31 hbox hb; have n0_ := Aside0.mk (below_step d12k hb); have n1_ := Aside0.mk (hbox); have n2_ := Aside0.mk ((by rw [hg]; exact (below_size d12k) : w.heap.size ≤ gb103)); have n3_ := Aside0.mk ((by rw [hg]; exact (below_size d12k) : w.heap.size ≤ gb103)); clear HB; have HB := n0_; have BK103 := n1_; have GW103 := n2_; have GE103 := n3_; clear n0_ n1_ n2_ n3_; clear hb hbox hg; have hcz32_0 : w31.cell? ⟨gb103, 0, none⟩ = some (.string (⟨#[]⟩ : ByteArray)) := (blk_cell BK103.out 0).trans rfl; have hcz32_1 : w31.cell? ⟨gb103, 1, none⟩ = some (.int .i64 0) := (blk_cell BK103.out 1).trans rfl; have hcz32_2 : w31.cell? ⟨gb103, 2, none⟩ = some (.int .i64 0) := (blk_cell BK103.out 2).trans rfl; have hfz32_0 := blk_frozen BK103.out 0; have hfz32_1 := blk_frozen BK103.out 1; have hfz32_2 := blk_frozen BK103.out 2) | ((with_reducible refine gate_callee (f := 28) rfl ?_); refine goesL_ (some 34) rfl rfl Tryd.func28 (by kernel_rfl) rfl #[.slice A0 l0.length c0, .string ((rd_T35 l1 x25_1).f0)] rfl d12j ?_; (with_reducible refine (power_load.calls k1 _ _ l0 ((rd_T35 l1 x25_1).f0) t104 t105 t106 true _ ?side1 ?side2 A11.out).mono ?_); (case side1 => exact d12g); (case side2 => exact HC0.out); rintro e w33 ⟨rfl, hb⟩; refine ⟨_, rfl, ?_⟩; have n0_ := Aside0.mk (blk_below (g := gb103) (o := .cells #[.string ((rd_T35 l1 x25_1).f0), .int .i64 ((rd_T35 l1 x25_1).f1), .int .i64 ((rd_T35 l1 x25_1).f2)] 35 (0, 0)) d12a hb); have n1_ := Aside0.mk (below_step d12h hb); clear BK103; clear HB; have BK103 := n0_; have HB := n1_; clear n0_ n1_; (try clear hb)) | ((with_reducible refine gate_dst (N := 8) rfl ?_); refine box_event ?hg (N := 8) ?hd (cs := #[.string (⟨#[]⟩ : ByteArray), .int .i64 0, .int .i64 0]) (t := 32) ?hr ?_; (case hd => rfl); (case hg => rfl); (case hr => exact d12r); intro gb108 hg w34 hbox hb; have n0_ := Aside0.mk (blk_below (g := gb103) (o := .cells #[.string ((rd_T35 l1 x25_1).f0), .int .i64 ((rd_T35 l1 x25_1).f1), .int .i64 ((rd_T35 l1 x25_1).f2)] 35 (0, 0)) d12l hb); have n1_ := Aside0.mk (below_step d12h hb); have n2_ := Aside0.mk (hbox); have n3_ := Aside0.mk ((by rw [hg]; exact (below_size d12h) : w.heap.size ≤ gb108)); have n4_ := Aside0.mk ((by rw [hg]; exact (below_size d12h) : w.heap.size ≤ gb108)); have n5_ := Aside0.mk ((by rw [hg]; exact Nat.ne_of_lt (blk_lt (g := gb103) (o := .cells #[.string ((rd_T35 l1 x25_1).f0), .int .i64 ((rd_T35 l1 x25_1).f1), .int .i64 ((rd_T35 l1 x25_1).f2)] 35 (0, 0)) d12l) : gb103 ≠ gb108)); have n6_ := Aside0.mk ((by rw [hg]; exact Nat.ne_of_gt (blk_lt (g := gb103) (o := .cells #[.string ((rd_T35 l1 x25_1).f0), .int .i64 ((rd_T35 l1 x25_1).f1), .int .i64 ((rd_T35 l1 x25_1).f2)] 35 (0, 0)) d12l) : gb108 ≠ gb103)); clear BK103; clear HB; have BK103 := n0_; have HB := n1_; have BK108 := n2_; have GW108 := n3_; have GE108 := n4_; have NB103_108 := n5_; have NB108_103 := n6_; clear n0_ n1_ n2_ n3_ n4_ n5_ n6_; clear hb hbox hg; have hnb35 := NB108_103.out; have hnc35 := NB103_108.out; have hcz36_0 : w34.cell? ⟨gb108, 0, none⟩ = some (.string (⟨#[]⟩ : ByteArray)) := (blk_cell BK108.out 0).trans rfl; have hcz36_1 : w34.cell? ⟨gb108, 1, none⟩ = some (.int .i64 0) := (blk_cell BK108.out 1).trans rfl; have hcz36_2 : w34.cell? ⟨gb108, 2, none⟩ = some (.int .i64 0) := (blk_cell BK108.out 2).trans rfl; have hfz36_0 := blk_frozen BK108.out 0; have hfz36_1 := blk_frozen BK108.out 1; have hfz36_2 := blk_frozen BK108.out 2; have hcz37_0 : w34.cell? ⟨gb103, 0, none⟩ = some (.string ((rd_T35 l1 x25_1).f0)) := (blk_cell BK103.out 0).trans rfl; have hcz37_1 : w34.cell? ⟨gb103, 1, none⟩ = some (.int .i64 ((rd_T35 l1 x25_1).f1)) := (blk_cell BK103.out 1).trans rfl; have hcz37_2 : w34.cell? ⟨gb103, 2, none⟩ = some (.int .i64 ((rd_T35 l1 x25_1).f2)) := (blk_cell BK103.out 2).trans rfl; have hfz37_0 := blk_frozen BK103.out 0; have hfz37_1 := blk_frozen BK103.out 1; have hfz37_2 := blk_frozen BK103.out 2) | ((with_reducible refine gate_callee (f := 29) rfl ?_); refine goesL_ (some 43) rfl rfl Tryd.func29 (by kernel_rfl) rfl #[.int .i64 ((rd_T35 l1 x25_1).f1), .int .i64 ((rd_T35 l1 x25_1).f2)] rfl d12j ?_; (with_reducible refine (power_span.calls k1 ((rd_T35 l1 x25_1).f1) ((rd_T35 l1 x25_1).f2) t109 _ A13.out).mono ?_); rintro e w' ⟨rfl, ⟨nd, rfl⟩⟩; refine ⟨_, rfl, ?_⟩))
                 have n0_ : Aside0 ((((w34.setCell ⟨gb108, 0, none⟩ (.string t104)).setCell ⟨gb108, 1, none⟩ (.int .i64 t105)).setCell ⟨gb108, 2, none⟩ (.int .i64 t106)).heap[gb103]? = some (.cells #[.string ((rd_T35 l1 x25_1).f0), .int .i64 ((rd_T35 l1 x25_1).f1), .int .i64 ((rd_T35 l1 x25_1).f2)] 35 (0, 0))) := ⟨d12c⟩
                 have n1_ : Aside0 ((((w34.setCell ⟨gb108, 0, none⟩ (.string t104)).setCell ⟨gb108, 1, none⟩ (.int .i64 t105)).setCell ⟨gb108, 2, none⟩ (.int .i64 t106)).heap[gb108]? = some (.cells #[.string t104, .int .i64 t105, .int .i64 t106] 32 (0, 0))) := ⟨d12b⟩
                 have n2_ : Aside0 (Below w.heap.size w (((w34.setCell ⟨gb108, 0, none⟩ (.string t104)).setCell ⟨gb108, 1, none⟩ (.int .i64 t105)).setCell ⟨gb108, 2, none⟩ (.int .i64 t106))) := ⟨d12e⟩
                 (try clear BK103)
                 (try clear BK108)
                 (try clear HB)
                 generalize (((w34.setCell ⟨gb108, 0, none⟩ (.string t104)).setCell ⟨gb108, 1, none⟩ (.int .i64 t105)).setCell ⟨gb108, 2, none⟩ (.int .i64 t106)) = w38 at n0_ n1_ n2_ ⊢
                 have BK103 := n0_
                 have BK108 := n1_
                 have HB := n2_
                 clear n0_ n1_ n2_
                 (try (rw [drewN_self w38]; generalize hq_ : World.drewN w38 _ = w38; have n0_ : Aside0 (w38.heap[gb103]? = some (.cells #[.string ((rd_T35 l1 x25_1).f0), .int .i64 ((rd_T35 l1 x25_1).f1), .int .i64 ((rd_T35 l1 x25_1).f2)] 35 (0, 0))) := ⟨by rw [← hq_]; exact d12l⟩; have n1_ : Aside0 (w38.heap[gb108]? = some (.cells #[.string t104, .int .i64 t105, .int .i64 t106] 32 (0, 0))) := ⟨by rw [← hq_]; exact d12m⟩; have n2_ : Aside0 (Below w.heap.size w w38) := ⟨by rw [← hq_]; exact d12e⟩; clear BK103 BK108 HB hq_; have BK103 := n0_; have BK108 := n1_; have HB := n2_; clear n0_ n1_ n2_))
                 have n0_ := Aside0.mk (blk_drew BK103.out)
                 have n1_ := Aside0.mk (blk_drew BK108.out)
                 have n2_ := Aside0.mk (below_drew1 HB.out)
                 clear BK103
                 clear BK108
                 clear HB
                 have BK103 := n0_
                 have BK108 := n1_
                 have HB := n2_
                 clear n0_ n1_ n2_
                 have p110 : 0 ≤ ((ji16) : Int) := of_decide_eq_true d12p
                 have q110 : (ji16) < (l1.length : Int) := of_decide_eq_true d12p
                 obtain ⟨ad110, e110, hx110_0, hx110_1, hx110_2⟩ := at_T35 HR1.out (ji16) p110 q110
                 have hw110_2 := hx110_2
                 have hw110_1 := hx110_1
                 have hw110_0 := hx110_0
                 obtain rfl : ad102 = ad110 := (by injection e110)
                 replace hx110_0 := cellB HB.out hx110_0
                 replace hx110_1 := cellB HB.out hx110_1
                 replace hx110_2 := cellB HB.out hx110_2
                 replace p110 := eq_true p110
                 replace q110 := eq_true q110
                 refine start_ (n := 12) (S := fun w' => w'.cell? ⟨gb103, 0, none⟩ = some (.string ((rd_T35 l1 x25_1).f0)) ∧ w'.cell? ⟨gb103, 1, none⟩ = some (.int .i64 ((rd_T35 l1 x25_1).f1)) ∧ w'.cell? ⟨gb103, 2, none⟩ = some (.int .i64 ((rd_T35 l1 x25_1).f2)) ∧ w'.cell? (ad102.add (((ji16)).toNat * 3)) = some (.string ((rd_T35 l1 (ji16)).f0)) ∧ w'.cell? ⟨(ad102.add (((ji16)).toNat * 3)).block, (ad102.add (((ji16)).toNat * 3)).off + 1, none⟩ = some (.int .i64 ((rd_T35 l1 (ji16)).f1)) ∧ w'.cell? ⟨(ad102.add (((ji16)).toNat * 3)).block, (ad102.add (((ji16)).toNat * 3)).off + 2, none⟩ = some (.int .i64 ((rd_T35 l1 (ji16)).f2))) (ds := []) #[false, false, false, false, false, false, false, false, false, false, false, false] (by kernel_rfl) rfl rfl ⟨(blk_cell BK103.out 0).trans rfl, (blk_cell BK103.out 1).trans rfl, (blk_cell BK103.out 2).trans rfl, ((HB.out.cell (World.block_lt_of_cell? w _ hw110_0)).trans hw110_0), ((HB.out.cell (World.block_lt_of_cell? w _ hw110_1)).trans hw110_1), ((HB.out.cell (World.block_lt_of_cell? w _ hw110_2)).trans hw110_2)⟩ (fun hHeld => ?_); refine with_tabW power_CheckUses.tab15 power_CheckUses.bits15 (fun HT_ HW_ => ?_)
                 generalize w38.drew = w39 at BK103 BK108 HB hx110_0 hx110_1 hx110_2 hHeld ⊢
                 refine pure_ (i := 0) (N := some 47) (v := ?_) (a' := ?_) #[true, false, false, false, false, false, false, false, false, false, false, false] rfl rfl (any_of HT_.out (by kernel_rfl)) (fun _ _ _ h => h) (Or.inl ⟨by rfl, ?_⟩) ?_ ?_
                 rotate_left
                 · intro w'
                   go_simp
                   with_reducible rfl
                 rotate_left
                 · simp only [Act.put, List.setIfInBounds_toArray, List.set_cons_zero, List.set_cons_succ, i64_w, i32_w]
                   rfl
                 refine pure_ (i := 1) (N := some 48) (v := ?_) (a' := ?_) #[true, true, false, false, false, false, false, false, false, false, false, false] rfl rfl (any_of HT_.out (by kernel_rfl)) (fun _ _ _ h => h) (Or.inl ⟨by rfl, ?_⟩) ?_ ?_
                 rotate_left
                 · intro w'
                   go_simp
                   with_reducible rfl
                 rotate_left
                 · simp only [Act.put, List.setIfInBounds_toArray, List.set_cons_zero, List.set_cons_succ, i64_w, i32_w]
                   rfl
                 refine pure_ (i := 2) (N := some 49) (v := ?_) (a' := ?_) #[true, true, true, false, false, false, false, false, false, false, false, false] rfl rfl (any_of HT_.out (by kernel_rfl)) (fun _ _ _ h => h) (Or.inl ⟨by rfl, ?_⟩) ?_ ?_
                 rotate_left
                 · intro w'
                   go_simp
                   with_reducible rfl
                 rotate_left
                 · simp only [Act.put, List.setIfInBounds_toArray, List.set_cons_zero, List.set_cons_succ, i64_w, i32_w]
                   rfl
                 refine pure_ (i := 4) (N := some 51) (v := ?_) (a' := ?_) #[true, true, true, false, true, false, false, false, false, false, false, false] rfl rfl (any_of HT_.out (by kernel_rfl)) (fun _ _ _ h => h) (Or.inl ⟨by rfl, ?_⟩) ?_ ?_
                 rotate_left
                 · intro w'
                   go_simp
                   with_reducible rfl
                 rotate_left
                 · simp only [Act.put, List.setIfInBounds_toArray, List.set_cons_zero, List.set_cons_succ, i64_w, i32_w]
                   rfl
                 refine pure_ (i := 5) (N := some 52) (v := ?_) (a' := ?_) #[true, true, true, false, true, true, false, false, false, false, false, false] rfl rfl (any_of HT_.out (by kernel_rfl)) (fun _ _ _ h => h) (Or.inl ⟨by rfl, ?_⟩) ?_ ?_
                 rotate_left
                 · intro w'
                   go_simp
                   with_reducible rfl
                 rotate_left
                 · simp only [Act.put, List.setIfInBounds_toArray, List.set_cons_zero, List.set_cons_succ, i64_w, i32_w]
                   rfl
                 refine pure_ (i := 6) (N := some 53) (v := ?_) (a' := ?_) #[true, true, true, false, true, true, true, false, false, false, false, false] rfl rfl (any_of HT_.out (by kernel_rfl)) (fun _ _ _ h => h) (Or.inl ⟨by rfl, ?_⟩) ?_ ?_
                 rotate_left
                 · intro w'
                   go_simp
                   with_reducible rfl
                 rotate_left
                 · simp only [Act.put, List.setIfInBounds_toArray, List.set_cons_zero, List.set_cons_succ, i64_w, i32_w]
                   rfl
                 refine pure_ (i := 7) (N := some 54) (v := ?_) (a' := ?_) #[true, true, true, false, true, true, true, true, false, false, false, false] rfl rfl (any_of HT_.out (by kernel_rfl)) (fun _ _ _ h => h) (Or.inl ⟨by rfl, ?_⟩) ?_ ?_
                 rotate_left
                 · intro w'
                   go_simp
                   with_reducible rfl
                 rotate_left
                 · simp only [Act.put, List.setIfInBounds_toArray, List.set_cons_zero, List.set_cons_succ, i64_w, i32_w]
                   rfl
                 refine take_ (i := 3) (N := some 50) (v := ?_) (a' := ?_) #[true, true, true, true, true, true, true, true, false, false, false, false] rfl rfl (take_ofW HT_.out HW_.out (by kernel_rfl)) (fun _ _ _ h => h) (Or.inl ⟨by rfl, ?_⟩) hHeld ?_ ?_
                 rotate_left
                 · rintro w' ⟨s0, s1, s2, s3, s4, s5⟩
                   go_simp
                   with_reducible rfl
                 rotate_left
                 · simp only [Act.put, List.setIfInBounds_toArray, List.set_cons_zero, List.set_cons_succ, i64_w, i32_w]
                   rfl
                 refine take_ (i := 8) (N := some 55) (v := ?_) (a' := ?_) #[true, true, true, true, true, true, true, true, true, false, false, false] rfl rfl (take_ofW HT_.out HW_.out (by kernel_rfl)) (fun _ _ _ h => h) (Or.inl ⟨by rfl, ?_⟩) hHeld ?_ ?_
                 rotate_left
                 · rintro w' ⟨s0, s1, s2, s3, s4, s5⟩
                   go_simp
                   with_reducible rfl
                 rotate_left
                 · simp only [Act.put, List.setIfInBounds_toArray, List.set_cons_zero, List.set_cons_succ, i64_w, i32_w]
                   rfl
                 refine one_ (i := 9) (N := some 56) #[true, true, true, true, true, true, true, true, true, true, false, false] rfl rfl (one_of HT_.out (by kernel_rfl)) (by decide) (fun K hK => ?_)
                 refine goes_ Tryd.func30 (by kernel_rfl) rfl #[.agg #[.string ((rd_T35 l1 x25_1).f0), .int .i64 ((rd_T35 l1 x25_1).f1), .int .i64 ((rd_T35 l1 x25_1).f2)], .agg #[.string ((rd_T35 l1 (ji16)).f0), .int .i64 ((rd_T35 l1 (ji16)).f1), .int .i64 ((rd_T35 l1 (ji16)).f2)]] (by rfl) rfl rfl (by (try simp only [List.map_toArray, List.map_cons, List.map_nil]); first | done | (simp only [hji16]; rfl) | rfl | (simp only [List.length_drop, List.length_take]; rfl)) ?_
                 with_reducible refine (power_compare.calls ((rd_T35 l1 x25_1).f0) ((rd_T35 l1 x25_1).f1) ((rd_T35 l1 x25_1).f2) ((rd_T35 l1 (ji16)).f0) ((rd_T35 l1 (ji16)).f1) ((rd_T35 l1 (ji16)).f2) t111 _ A19.out).mono ?_
                 rintro e w40 ⟨rfl, hb⟩
                 refine ⟨_, rfl, ?_⟩
                 have n0_ := Aside0.mk (blk_below (g := gb103) (o := .cells #[.string ((rd_T35 l1 x25_1).f0), .int .i64 ((rd_T35 l1 x25_1).f1), .int .i64 ((rd_T35 l1 x25_1).f2)] 35 (0, 0)) d12l hb)
                 have n1_ := Aside0.mk (blk_below (g := gb108) (o := .cells #[.string t104, .int .i64 t105, .int .i64 t106] 32 (0, 0)) d12m hb)
                 have n2_ := Aside0.mk (below_step d12e hb)
                 clear BK103
                 clear BK108
                 clear HB
                 have BK103 := n0_
                 have BK108 := n1_
                 have HB := n2_
                 clear n0_ n1_ n2_
                 (try clear hb)
                 skip
                 skip
                 skip
                 refine hK.out _ _ ⟨(blk_cell BK103.out 0).trans rfl, (blk_cell BK103.out 1).trans rfl, (blk_cell BK103.out 2).trans rfl, ((HB.out.cell (World.block_lt_of_cell? w _ hw110_0)).trans hw110_0), ((HB.out.cell (World.block_lt_of_cell? w _ hw110_1)).trans hw110_1), ((HB.out.cell (World.block_lt_of_cell? w _ hw110_2)).trans hw110_2)⟩ (fun hHeld => ?_)
                 clear hK K
                 refine norm_ (a' := ?_) ?_ ?_
                 rotate_left
                 · show Act.put _ (some 56) _ = _
                   simp only [Act.put, List.setIfInBounds_toArray, List.set_cons_zero, List.set_cons_succ, i64_w, i32_w]
                   rfl
                 refine pure_ (i := 10) (N := some 57) (v := ?_) (a' := ?_) #[true, true, true, true, true, true, true, true, true, true, true, false] rfl rfl (any_of HT_.out (by kernel_rfl)) (fun _ _ _ h => h) (Or.inl ⟨by rfl, ?_⟩) ?_ ?_
                 rotate_left
                 · intro w'
                   go_simp
                   with_reducible rfl
                 rotate_left
                 · simp only [Act.put, List.setIfInBounds_toArray, List.set_cons_zero, List.set_cons_succ, i64_w, i32_w]
                   rfl
                 refine pure_ (i := 11) (N := some 58) (v := ?_) (a' := ?_) #[true, true, true, true, true, true, true, true, true, true, true, true] rfl rfl (any_of HT_.out (by kernel_rfl)) (fun _ _ _ h => h) (Or.inl ⟨by rfl, ?_⟩) ?_ ?_
                 rotate_left
                 · intro w'
                   go_simp
                   with_reducible rfl
                 rotate_left
                 · simp only [Act.put, List.setIfInBounds_toArray, List.set_cons_zero, List.set_cons_succ, i64_w, i32_w]
                   rfl
                 refine done_ (done_of HT_.out (by kernel_rfl)) ?_
                 try go_wp2
                 go_roundg k1
                 case measure => have := HK1.out; omega
                 case rel => exact ⟨(wrap64 (x25_1 + 1)), d12q, H', ⟨by have := HK1.out; omega⟩, ⟨d12e⟩⟩
             · rw [if_neg c15] at H
               have c15b0 : decide (0 < x25_1) = false := decide_eq_false c15
               clear c15
               have H' := Aside0.mk H
               clear H
               have p102 : 0 ≤ (x25_1 : Int) := of_decide_eq_true d12p
               have q102 : x25_1 < (l1.length : Int) := of_decide_eq_true d12p
               obtain ⟨ad102, e102, hx102_0, hx102_1, hx102_2⟩ := at_T35 HR1.out x25_1 p102 q102
               cases e102
               replace hx102_0 := cellB HB.out hx102_0
               replace hx102_1 := cellB HB.out hx102_1
               replace hx102_2 := cellB HB.out hx102_2
               replace p102 := eq_true p102
               replace q102 := eq_true q102
               try go_wp2_with (first | ((with_reducible refine gate_dst (N := 7) rfl ?_); refine box_event ?hg (N := 7) ?hd (cs := #[.string (⟨#[]⟩ : ByteArray), .int .i64 0, .int .i64 0]) (t := 35) ?hr ?_; (case hd => rfl); (case hg => rfl); (case hr => exact d12r); intro gb103 hg w41 hbox hb; have n0_ := Aside0.mk (below_step d12k hb); have n1_ := Aside0.mk (hbox); have n2_ := Aside0.mk ((by rw [hg]; exact (below_size d12k) : w.heap.size ≤ gb103)); have n3_ := Aside0.mk ((by rw [hg]; exact (below_size d12k) : w.heap.size ≤ gb103)); clear HB; have HB := n0_; have BK103 := n1_; have GW103 := n2_; have GE103 := n3_; clear n0_ n1_ n2_ n3_; clear hb hbox hg; have hcz42_0 : w41.cell? ⟨gb103, 0, none⟩ = some (.string (⟨#[]⟩ : ByteArray)) := (blk_cell BK103.out 0).trans rfl; have hcz42_1 : w41.cell? ⟨gb103, 1, none⟩ = some (.int .i64 0) := (blk_cell BK103.out 1).trans rfl; have hcz42_2 : w41.cell? ⟨gb103, 2, none⟩ = some (.int .i64 0) := (blk_cell BK103.out 2).trans rfl; have hfz42_0 := blk_frozen BK103.out 0; have hfz42_1 := blk_frozen BK103.out 1; have hfz42_2 := blk_frozen BK103.out 2) | ((with_reducible refine gate_callee (f := 28) rfl ?_); refine goesL_ (some 34) rfl rfl Tryd.func28 (by kernel_rfl) rfl #[.slice A0 l0.length c0, .string ((rd_T35 l1 x25_1).f0)] rfl d12j ?_; (with_reducible refine (power_load.calls k1 _ _ l0 ((rd_T35 l1 x25_1).f0) t104 t105 t106 true _ ?side1 ?side2 A11.out).mono ?_); (case side1 => exact d12g); (case side2 => exact HC0.out); rintro e w43 ⟨rfl, hb⟩; refine ⟨_, rfl, ?_⟩; have n0_ := Aside0.mk (blk_below (g := gb103) (o := .cells #[.string ((rd_T35 l1 x25_1).f0), .int .i64 ((rd_T35 l1 x25_1).f1), .int .i64 ((rd_T35 l1 x25_1).f2)] 35 (0, 0)) d12a hb); have n1_ := Aside0.mk (below_step d12h hb); clear BK103; clear HB; have BK103 := n0_; have HB := n1_; clear n0_ n1_; (try clear hb)) | ((with_reducible refine gate_dst (N := 8) rfl ?_); refine box_event ?hg (N := 8) ?hd (cs := #[.string (⟨#[]⟩ : ByteArray), .int .i64 0, .int .i64 0]) (t := 32) ?hr ?_; (case hd => rfl); (case hg => rfl); (case hr => exact d12r); intro gb108 hg w44 hbox hb; have n0_ := Aside0.mk (blk_below (g := gb103) (o := .cells #[.string ((rd_T35 l1 x25_1).f0), .int .i64 ((rd_T35 l1 x25_1).f1), .int .i64 ((rd_T35 l1 x25_1).f2)] 35 (0, 0)) d12l hb); have n1_ := Aside0.mk (below_step d12h hb); have n2_ := Aside0.mk (hbox); have n3_ := Aside0.mk ((by rw [hg]; exact (below_size d12h) : w.heap.size ≤ gb108)); have n4_ := Aside0.mk ((by rw [hg]; exact (below_size d12h) : w.heap.size ≤ gb108)); have n5_ := Aside0.mk ((by rw [hg]; exact Nat.ne_of_lt (blk_lt (g := gb103) (o := .cells #[.string ((rd_T35 l1 x25_1).f0), .int .i64 ((rd_T35 l1 x25_1).f1), .int .i64 ((rd_T35 l1 x25_1).f2)] 35 (0, 0)) d12l) : gb103 ≠ gb108)); have n6_ := Aside0.mk ((by rw [hg]; exact Nat.ne_of_gt (blk_lt (g := gb103) (o := .cells #[.string ((rd_T35 l1 x25_1).f0), .int .i64 ((rd_T35 l1 x25_1).f1), .int .i64 ((rd_T35 l1 x25_1).f2)] 35 (0, 0)) d12l) : gb108 ≠ gb103)); clear BK103; clear HB; have BK103 := n0_; have HB := n1_; have BK108 := n2_; have GW108 := n3_; have GE108 := n4_; have NB103_108 := n5_; have NB108_103 := n6_; clear n0_ n1_ n2_ n3_ n4_ n5_ n6_; clear hb hbox hg; have hnb45 := NB108_103.out; have hnc45 := NB103_108.out; have hcz46_0 : w44.cell? ⟨gb108, 0, none⟩ = some (.string (⟨#[]⟩ : ByteArray)) := (blk_cell BK108.out 0).trans rfl; have hcz46_1 : w44.cell? ⟨gb108, 1, none⟩ = some (.int .i64 0) := (blk_cell BK108.out 1).trans rfl; have hcz46_2 : w44.cell? ⟨gb108, 2, none⟩ = some (.int .i64 0) := (blk_cell BK108.out 2).trans rfl; have hfz46_0 := blk_frozen BK108.out 0; have hfz46_1 := blk_frozen BK108.out 1; have hfz46_2 := blk_frozen BK108.out 2; have hcz47_0 : w44.cell? ⟨gb103, 0, none⟩ = some (.string ((rd_T35 l1 x25_1).f0)) := (blk_cell BK103.out 0).trans rfl; have hcz47_1 : w44.cell? ⟨gb103, 1, none⟩ = some (.int .i64 ((rd_T35 l1 x25_1).f1)) := (blk_cell BK103.out 1).trans rfl; have hcz47_2 : w44.cell? ⟨gb103, 2, none⟩ = some (.int .i64 ((rd_T35 l1 x25_1).f2)) := (blk_cell BK103.out 2).trans rfl; have hfz47_0 := blk_frozen BK103.out 0; have hfz47_1 := blk_frozen BK103.out 1; have hfz47_2 := blk_frozen BK103.out 2) | ((with_reducible refine gate_callee (f := 29) rfl ?_); refine goesL_ (some 43) rfl rfl Tryd.func29 (by kernel_rfl) rfl #[.int .i64 ((rd_T35 l1 x25_1).f1), .int .i64 ((rd_T35 l1 x25_1).f2)] rfl d12j ?_; (with_reducible refine (power_span.calls k1 ((rd_T35 l1 x25_1).f1) ((rd_T35 l1 x25_1).f2) t109 _ A13.out).mono ?_); rintro e w' ⟨rfl, ⟨nd, rfl⟩⟩; refine ⟨_, rfl, ?_⟩))
               have n0_ : Aside0 ((((w44.setCell ⟨gb108, 0, none⟩ (.string t104)).setCell ⟨gb108, 1, none⟩ (.int .i64 t105)).setCell ⟨gb108, 2, none⟩ (.int .i64 t106)).heap[gb103]? = some (.cells #[.string ((rd_T35 l1 x25_1).f0), .int .i64 ((rd_T35 l1 x25_1).f1), .int .i64 ((rd_T35 l1 x25_1).f2)] 35 (0, 0))) := ⟨d12c⟩
               have n1_ : Aside0 ((((w44.setCell ⟨gb108, 0, none⟩ (.string t104)).setCell ⟨gb108, 1, none⟩ (.int .i64 t105)).setCell ⟨gb108, 2, none⟩ (.int .i64 t106)).heap[gb108]? = some (.cells #[.string t104, .int .i64 t105, .int .i64 t106] 32 (0, 0))) := ⟨d12b⟩
               have n2_ : Aside0 (Below w.heap.size w (((w44.setCell ⟨gb108, 0, none⟩ (.string t104)).setCell ⟨gb108, 1, none⟩ (.int .i64 t105)).setCell ⟨gb108, 2, none⟩ (.int .i64 t106))) := ⟨d12e⟩
               (try clear BK103)
               (try clear BK108)
               (try clear HB)
               generalize (((w44.setCell ⟨gb108, 0, none⟩ (.string t104)).setCell ⟨gb108, 1, none⟩ (.int .i64 t105)).setCell ⟨gb108, 2, none⟩ (.int .i64 t106)) = w48 at n0_ n1_ n2_ ⊢
               have BK103 := n0_
               have BK108 := n1_
               have HB := n2_
               clear n0_ n1_ n2_
               (try (rw [drewN_self w48]; generalize hq_ : World.drewN w48 _ = w48; have n0_ : Aside0 (w48.heap[gb103]? = some (.cells #[.string ((rd_T35 l1 x25_1).f0), .int .i64 ((rd_T35 l1 x25_1).f1), .int .i64 ((rd_T35 l1 x25_1).f2)] 35 (0, 0))) := ⟨by rw [← hq_]; exact d12l⟩; have n1_ : Aside0 (w48.heap[gb108]? = some (.cells #[.string t104, .int .i64 t105, .int .i64 t106] 32 (0, 0))) := ⟨by rw [← hq_]; exact d12m⟩; have n2_ : Aside0 (Below w.heap.size w w48) := ⟨by rw [← hq_]; exact d12e⟩; clear BK103 BK108 HB hq_; have BK103 := n0_; have BK108 := n1_; have HB := n2_; clear n0_ n1_ n2_))
               have n0_ := Aside0.mk (blk_drew BK103.out)
               have n1_ := Aside0.mk (blk_drew BK108.out)
               have n2_ := Aside0.mk (below_drew1 HB.out)
               clear BK103
               clear BK108
               clear HB
               have BK103 := n0_
               have BK108 := n1_
               have HB := n2_
               clear n0_ n1_ n2_
               refine start_ (n := 12) (S := fun w' => True) (ds := []) #[false, false, false, false, false, false, false, false, false, false, false, false] (by kernel_rfl) rfl rfl trivial (fun hHeld => ?_); refine with_tabW power_CheckUses.tab15 power_CheckUses.bits15 (fun HT_ HW_ => ?_)
               generalize w48.drew = w49 at BK103 BK108 HB hHeld ⊢
               refine pure_ (i := 0) (N := some 47) (v := ?_) (a' := ?_) #[true, false, false, false, false, false, false, false, false, false, false, false] rfl rfl (any_of HT_.out (by kernel_rfl)) (fun _ _ _ h => h) (Or.inl ⟨by rfl, ?_⟩) ?_ ?_
               rotate_left
               · intro w'
                 go_simp
                 with_reducible rfl
               rotate_left
               · simp only [Act.put, List.setIfInBounds_toArray, List.set_cons_zero, List.set_cons_succ, i64_w, i32_w]
                 rfl
               refine pure_ (i := 1) (N := some 48) (v := ?_) (a' := ?_) #[true, true, false, false, false, false, false, false, false, false, false, false] rfl rfl (any_of HT_.out (by kernel_rfl)) (fun _ _ _ h => h) (Or.inl ⟨by rfl, ?_⟩) ?_ ?_
               rotate_left
               · intro w'
                 go_simp
                 with_reducible rfl
               rotate_left
               · simp only [Act.put, List.setIfInBounds_toArray, List.set_cons_zero, List.set_cons_succ, i64_w, i32_w]
                 rfl
               refine pure_ (i := 2) (N := some 49) (v := ?_) (a' := ?_) #[true, true, true, false, false, false, false, false, false, false, false, false] rfl rfl (any_of HT_.out (by kernel_rfl)) (fun _ _ _ h => h) (Or.inl ⟨by rfl, ?_⟩) ?_ ?_
               rotate_left
               · intro w'
                 go_simp
                 with_reducible rfl
               rotate_left
               · simp only [Act.put, List.setIfInBounds_toArray, List.set_cons_zero, List.set_cons_succ, i64_w, i32_w]
                 rfl
               refine pure_ (i := 3) (N := some 50) (v := undef) (a' := ?_) #[true, true, true, true, false, false, false, false, false, false, false, false] rfl rfl (any_of HT_.out (by kernel_rfl)) (fun _ _ _ h => h) (Or.inr ⟨by rfl, rfl⟩) ?_ ?_
               rotate_left
               · simp only [Act.put, List.setIfInBounds_toArray, List.set_cons_zero, List.set_cons_succ, i64_w, i32_w]
                 rfl
               refine pure_ (i := 4) (N := some 51) (v := undef) (a' := ?_) #[true, true, true, true, true, false, false, false, false, false, false, false] rfl rfl (any_of HT_.out (by kernel_rfl)) (fun _ _ _ h => h) (Or.inr ⟨by rfl, rfl⟩) ?_ ?_
               rotate_left
               · simp only [Act.put, List.setIfInBounds_toArray, List.set_cons_zero, List.set_cons_succ, i64_w, i32_w]
                 rfl
               refine pure_ (i := 5) (N := some 52) (v := undef) (a' := ?_) #[true, true, true, true, true, true, false, false, false, false, false, false] rfl rfl (any_of HT_.out (by kernel_rfl)) (fun _ _ _ h => h) (Or.inr ⟨by rfl, rfl⟩) ?_ ?_
               rotate_left
               · simp only [Act.put, List.setIfInBounds_toArray, List.set_cons_zero, List.set_cons_succ, i64_w, i32_w]
                 rfl
               refine pure_ (i := 6) (N := some 53) (v := undef) (a' := ?_) #[true, true, true, true, true, true, true, false, false, false, false, false] rfl rfl (any_of HT_.out (by kernel_rfl)) (fun _ _ _ h => h) (Or.inr ⟨by rfl, rfl⟩) ?_ ?_
               rotate_left
               · simp only [Act.put, List.setIfInBounds_toArray, List.set_cons_zero, List.set_cons_succ, i64_w, i32_w]
                 rfl
               refine pure_ (i := 7) (N := some 54) (v := undef) (a' := ?_) #[true, true, true, true, true, true, true, true, false, false, false, false] rfl rfl (any_of HT_.out (by kernel_rfl)) (fun _ _ _ h => h) (Or.inr ⟨by rfl, rfl⟩) ?_ ?_
               rotate_left
               · simp only [Act.put, List.setIfInBounds_toArray, List.set_cons_zero, List.set_cons_succ, i64_w, i32_w]
                 rfl
               refine pure_ (i := 8) (N := some 55) (v := undef) (a' := ?_) #[true, true, true, true, true, true, true, true, true, false, false, false] rfl rfl (any_of HT_.out (by kernel_rfl)) (fun _ _ _ h => h) (Or.inr ⟨by rfl, rfl⟩) ?_ ?_
               rotate_left
               · simp only [Act.put, List.setIfInBounds_toArray, List.set_cons_zero, List.set_cons_succ, i64_w, i32_w]
                 rfl
               refine pure_ (i := 9) (N := some 56) (v := undef) (a' := ?_) #[true, true, true, true, true, true, true, true, true, true, false, false] rfl rfl (any_of HT_.out (by kernel_rfl)) (fun _ _ _ h => h) (Or.inr ⟨by rfl, rfl⟩) ?_ ?_
               rotate_left
               · simp only [Act.put, List.setIfInBounds_toArray, List.set_cons_zero, List.set_cons_succ, i64_w, i32_w]
                 rfl
               refine pure_ (i := 10) (N := some 57) (v := undef) (a' := ?_) #[true, true, true, true, true, true, true, true, true, true, true, false] rfl rfl (any_of HT_.out (by kernel_rfl)) (fun _ _ _ h => h) (Or.inr ⟨by rfl, rfl⟩) ?_ ?_
               rotate_left
               · simp only [Act.put, List.setIfInBounds_toArray, List.set_cons_zero, List.set_cons_succ, i64_w, i32_w]
                 rfl
               refine pure_ (i := 11) (N := some 58) (v := ?_) (a' := ?_) #[true, true, true, true, true, true, true, true, true, true, true, true] rfl rfl (any_of HT_.out (by kernel_rfl)) (fun _ _ _ h => h) (Or.inl ⟨by rfl, ?_⟩) ?_ ?_
               rotate_left
               · intro w'
                 go_simp
                 with_reducible rfl
               rotate_left
               · simp only [Act.put, List.setIfInBounds_toArray, List.set_cons_zero, List.set_cons_succ, i64_w, i32_w]
                 rfl
               refine done_ (done_of HT_.out (by kernel_rfl)) ?_
               try go_wp2
               go_roundg k1
               case measure => have := HK1.out; omega
               case rel => exact ⟨(wrap64 (x25_1 + 1)), d12q, H', ⟨by have := HK1.out; omega⟩, ⟨d12e⟩⟩
           · rw [if_neg c14] at H
             have c14b0 : (t109 == 0) = false := beq_eq_false_iff_ne.mpr c14
             have c14b1 : (t109 != 0) = true := bne_iff_ne.mpr c14
             obtain rfl := Option.some.inj H
             have p102 : 0 ≤ (x25_1 : Int) := of_decide_eq_true d12p
             have q102 : x25_1 < (l1.length : Int) := of_decide_eq_true d12p
             obtain ⟨ad102, e102, hx102_0, hx102_1, hx102_2⟩ := at_T35 HR1.out x25_1 p102 q102
             cases e102
             replace hx102_0 := cellB HB.out hx102_0
             replace hx102_1 := cellB HB.out hx102_1
             replace hx102_2 := cellB HB.out hx102_2
             replace p102 := eq_true p102
             replace q102 := eq_true q102
             go_wp2_with (first | ((with_reducible refine gate_dst (N := 7) rfl ?_); refine box_event ?hg (N := 7) ?hd (cs := #[.string (⟨#[]⟩ : ByteArray), .int .i64 0, .int .i64 0]) (t := 35) ?hr ?_; (case hd => rfl); (case hg => rfl); (case hr => exact d12r); intro gb103 hg w50 hbox hb; have n0_ := Aside0.mk (below_step d12k hb); have n1_ := Aside0.mk (hbox); have n2_ := Aside0.mk ((by rw [hg]; exact (below_size d12k) : w.heap.size ≤ gb103)); have n3_ := Aside0.mk ((by rw [hg]; exact (below_size d12k) : w.heap.size ≤ gb103)); clear HB; have HB := n0_; have BK103 := n1_; have GW103 := n2_; have GE103 := n3_; clear n0_ n1_ n2_ n3_; clear hb hbox hg; have hcz51_0 : w50.cell? ⟨gb103, 0, none⟩ = some (.string (⟨#[]⟩ : ByteArray)) := (blk_cell BK103.out 0).trans rfl; have hcz51_1 : w50.cell? ⟨gb103, 1, none⟩ = some (.int .i64 0) := (blk_cell BK103.out 1).trans rfl; have hcz51_2 : w50.cell? ⟨gb103, 2, none⟩ = some (.int .i64 0) := (blk_cell BK103.out 2).trans rfl; have hfz51_0 := blk_frozen BK103.out 0; have hfz51_1 := blk_frozen BK103.out 1; have hfz51_2 := blk_frozen BK103.out 2) | ((with_reducible refine gate_callee (f := 28) rfl ?_); refine goesL_ (some 34) rfl rfl Tryd.func28 (by kernel_rfl) rfl #[.slice A0 l0.length c0, .string ((rd_T35 l1 x25_1).f0)] rfl d12j ?_; (with_reducible refine (power_load.calls k1 _ _ l0 ((rd_T35 l1 x25_1).f0) t104 t105 t106 true _ ?side1 ?side2 A11.out).mono ?_); (case side1 => exact d12g); (case side2 => exact HC0.out); rintro e w52 ⟨rfl, hb⟩; refine ⟨_, rfl, ?_⟩; have n0_ := Aside0.mk (blk_below (g := gb103) (o := .cells #[.string ((rd_T35 l1 x25_1).f0), .int .i64 ((rd_T35 l1 x25_1).f1), .int .i64 ((rd_T35 l1 x25_1).f2)] 35 (0, 0)) d12a hb); have n1_ := Aside0.mk (below_step d12h hb); clear BK103; clear HB; have BK103 := n0_; have HB := n1_; clear n0_ n1_; (try clear hb)) | ((with_reducible refine gate_dst (N := 8) rfl ?_); refine box_event ?hg (N := 8) ?hd (cs := #[.string (⟨#[]⟩ : ByteArray), .int .i64 0, .int .i64 0]) (t := 32) ?hr ?_; (case hd => rfl); (case hg => rfl); (case hr => exact d12r); intro gb108 hg w53 hbox hb; have n0_ := Aside0.mk (blk_below (g := gb103) (o := .cells #[.string ((rd_T35 l1 x25_1).f0), .int .i64 ((rd_T35 l1 x25_1).f1), .int .i64 ((rd_T35 l1 x25_1).f2)] 35 (0, 0)) d12l hb); have n1_ := Aside0.mk (below_step d12h hb); have n2_ := Aside0.mk (hbox); have n3_ := Aside0.mk ((by rw [hg]; exact (below_size d12h) : w.heap.size ≤ gb108)); have n4_ := Aside0.mk ((by rw [hg]; exact (below_size d12h) : w.heap.size ≤ gb108)); have n5_ := Aside0.mk ((by rw [hg]; exact Nat.ne_of_lt (blk_lt (g := gb103) (o := .cells #[.string ((rd_T35 l1 x25_1).f0), .int .i64 ((rd_T35 l1 x25_1).f1), .int .i64 ((rd_T35 l1 x25_1).f2)] 35 (0, 0)) d12l) : gb103 ≠ gb108)); have n6_ := Aside0.mk ((by rw [hg]; exact Nat.ne_of_gt (blk_lt (g := gb103) (o := .cells #[.string ((rd_T35 l1 x25_1).f0), .int .i64 ((rd_T35 l1 x25_1).f1), .int .i64 ((rd_T35 l1 x25_1).f2)] 35 (0, 0)) d12l) : gb108 ≠ gb103)); clear BK103; clear HB; have BK103 := n0_; have HB := n1_; have BK108 := n2_; have GW108 := n3_; have GE108 := n4_; have NB103_108 := n5_; have NB108_103 := n6_; clear n0_ n1_ n2_ n3_ n4_ n5_ n6_; clear hb hbox hg; have hnb54 := NB108_103.out; have hnc54 := NB103_108.out; have hcz55_0 : w53.cell? ⟨gb108, 0, none⟩ = some (.string (⟨#[]⟩ : ByteArray)) := (blk_cell BK108.out 0).trans rfl; have hcz55_1 : w53.cell? ⟨gb108, 1, none⟩ = some (.int .i64 0) := (blk_cell BK108.out 1).trans rfl; have hcz55_2 : w53.cell? ⟨gb108, 2, none⟩ = some (.int .i64 0) := (blk_cell BK108.out 2).trans rfl; have hfz55_0 := blk_frozen BK108.out 0; have hfz55_1 := blk_frozen BK108.out 1; have hfz55_2 := blk_frozen BK108.out 2; have hcz56_0 : w53.cell? ⟨gb103, 0, none⟩ = some (.string ((rd_T35 l1 x25_1).f0)) := (blk_cell BK103.out 0).trans rfl; have hcz56_1 : w53.cell? ⟨gb103, 1, none⟩ = some (.int .i64 ((rd_T35 l1 x25_1).f1)) := (blk_cell BK103.out 1).trans rfl; have hcz56_2 : w53.cell? ⟨gb103, 2, none⟩ = some (.int .i64 ((rd_T35 l1 x25_1).f2)) := (blk_cell BK103.out 2).trans rfl; have hfz56_0 := blk_frozen BK103.out 0; have hfz56_1 := blk_frozen BK103.out 1; have hfz56_2 := blk_frozen BK103.out 2) | ((with_reducible refine gate_callee (f := 29) rfl ?_); refine goesL_ (some 43) rfl rfl Tryd.func29 (by kernel_rfl) rfl #[.int .i64 ((rd_T35 l1 x25_1).f1), .int .i64 ((rd_T35 l1 x25_1).f2)] rfl d12j ?_; (with_reducible refine (power_span.calls k1 ((rd_T35 l1 x25_1).f1) ((rd_T35 l1 x25_1).f2) t109 _ A13.out).mono ?_); rintro e w' ⟨rfl, ⟨nd, rfl⟩⟩; refine ⟨_, rfl, ?_⟩))
             go_ret
             exact ⟨d12o, d12e⟩
         · replace c12 := Bool.eq_false_iff.mpr c12
           subst c12
           replace H := iteF H
           obtain rfl := Option.some.inj H
           have p102 : 0 ≤ (x25_1 : Int) := of_decide_eq_true d12p
           have q102 : x25_1 < (l1.length : Int) := of_decide_eq_true d12p
           obtain ⟨ad102, e102, hx102_0, hx102_1, hx102_2⟩ := at_T35 HR1.out x25_1 p102 q102
           cases e102
           replace hx102_0 := cellB HB.out hx102_0
           replace hx102_1 := cellB HB.out hx102_1
           replace hx102_2 := cellB HB.out hx102_2
           replace p102 := eq_true p102
           replace q102 := eq_true q102
           go_wp2_with (first | ((with_reducible refine gate_dst (N := 7) rfl ?_); refine box_event ?hg (N := 7) ?hd (cs := #[.string (⟨#[]⟩ : ByteArray), .int .i64 0, .int .i64 0]) (t := 35) ?hr ?_; (case hd => rfl); (case hg => rfl); (case hr => exact d12r); intro gb103 hg w57 hbox hb; have n0_ := Aside0.mk (below_step d12k hb); have n1_ := Aside0.mk (hbox); have n2_ := Aside0.mk ((by rw [hg]; exact (below_size d12k) : w.heap.size ≤ gb103)); have n3_ := Aside0.mk ((by rw [hg]; exact (below_size d12k) : w.heap.size ≤ gb103)); clear HB; have HB := n0_; have BK103 := n1_; have GW103 := n2_; have GE103 := n3_; clear n0_ n1_ n2_ n3_; clear hb hbox hg; have hcz58_0 : w57.cell? ⟨gb103, 0, none⟩ = some (.string (⟨#[]⟩ : ByteArray)) := (blk_cell BK103.out 0).trans rfl; have hcz58_1 : w57.cell? ⟨gb103, 1, none⟩ = some (.int .i64 0) := (blk_cell BK103.out 1).trans rfl; have hcz58_2 : w57.cell? ⟨gb103, 2, none⟩ = some (.int .i64 0) := (blk_cell BK103.out 2).trans rfl; have hfz58_0 := blk_frozen BK103.out 0; have hfz58_1 := blk_frozen BK103.out 1; have hfz58_2 := blk_frozen BK103.out 2) | ((with_reducible refine gate_callee (f := 28) rfl ?_); refine goesL_ (some 34) rfl rfl Tryd.func28 (by kernel_rfl) rfl #[.slice A0 l0.length c0, .string ((rd_T35 l1 x25_1).f0)] rfl d12j ?_; (with_reducible refine (power_load.calls k1 _ _ l0 ((rd_T35 l1 x25_1).f0) t104 t105 t106 false _ ?side1 ?side2 A11.out).mono ?_); (case side1 => exact d12g); (case side2 => exact HC0.out); rintro e w59 ⟨rfl, hb⟩; refine ⟨_, rfl, ?_⟩; have n0_ := Aside0.mk (blk_below (g := gb103) (o := .cells #[.string ((rd_T35 l1 x25_1).f0), .int .i64 ((rd_T35 l1 x25_1).f1), .int .i64 ((rd_T35 l1 x25_1).f2)] 35 (0, 0)) d12a hb); have n1_ := Aside0.mk (below_step d12h hb); clear BK103; clear HB; have BK103 := n0_; have HB := n1_; clear n0_ n1_; (try clear hb)) | ((with_reducible refine gate_dst (N := 8) rfl ?_); refine box_event ?hg (N := 8) ?hd (cs := #[.string (⟨#[]⟩ : ByteArray), .int .i64 0, .int .i64 0]) (t := 32) ?hr ?_; (case hd => rfl); (case hg => rfl); (case hr => exact d12r); intro gb108 hg w60 hbox hb; have n0_ := Aside0.mk (blk_below (g := gb103) (o := .cells #[.string ((rd_T35 l1 x25_1).f0), .int .i64 ((rd_T35 l1 x25_1).f1), .int .i64 ((rd_T35 l1 x25_1).f2)] 35 (0, 0)) d12l hb); have n1_ := Aside0.mk (below_step d12h hb); have n2_ := Aside0.mk (hbox); have n3_ := Aside0.mk ((by rw [hg]; exact (below_size d12h) : w.heap.size ≤ gb108)); have n4_ := Aside0.mk ((by rw [hg]; exact (below_size d12h) : w.heap.size ≤ gb108)); have n5_ := Aside0.mk ((by rw [hg]; exact Nat.ne_of_lt (blk_lt (g := gb103) (o := .cells #[.string ((rd_T35 l1 x25_1).f0), .int .i64 ((rd_T35 l1 x25_1).f1), .int .i64 ((rd_T35 l1 x25_1).f2)] 35 (0, 0)) d12l) : gb103 ≠ gb108)); have n6_ := Aside0.mk ((by rw [hg]; exact Nat.ne_of_gt (blk_lt (g := gb103) (o := .cells #[.string ((rd_T35 l1 x25_1).f0), .int .i64 ((rd_T35 l1 x25_1).f1), .int .i64 ((rd_T35 l1 x25_1).f2)] 35 (0, 0)) d12l) : gb108 ≠ gb103)); clear BK103; clear HB; have BK103 := n0_; have HB := n1_; have BK108 := n2_; have GW108 := n3_; have GE108 := n4_; have NB103_108 := n5_; have NB108_103 := n6_; clear n0_ n1_ n2_ n3_ n4_ n5_ n6_; clear hb hbox hg; have hnb61 := NB108_103.out; have hnc61 := NB103_108.out; have hcz62_0 : w60.cell? ⟨gb108, 0, none⟩ = some (.string (⟨#[]⟩ : ByteArray)) := (blk_cell BK108.out 0).trans rfl; have hcz62_1 : w60.cell? ⟨gb108, 1, none⟩ = some (.int .i64 0) := (blk_cell BK108.out 1).trans rfl; have hcz62_2 : w60.cell? ⟨gb108, 2, none⟩ = some (.int .i64 0) := (blk_cell BK108.out 2).trans rfl; have hfz62_0 := blk_frozen BK108.out 0; have hfz62_1 := blk_frozen BK108.out 1; have hfz62_2 := blk_frozen BK108.out 2))
           go_ret
           exact ⟨d12o, d12e⟩
       · rw [if_neg c8] at H
         have c8b0 : decide (x25_1 < (l1.length : Int)) = false := decide_eq_false c8
         clear c8
         have H' := Aside0.mk H
         clear H
         go_wp2
         go_loopg [62] k1 (fun kq v62 w' => ∃ (x62_2 : Int), v62 = .int .i64 x62_2 ∧ Aside0 (power_CheckUses.l1 kq l1 l1 (l1.length : Int) x62_2 = some r) ∧ Aside0 (kq ≤ k1) ∧ Aside0 (Below w.heap.size w w'))
         case atStart => exact ⟨(0), d12q, H', ⟨Nat.le_refl _⟩, ⟨d12k⟩⟩
         case round =>
          clear H'
          try clear c8b0
          obtain ⟨x62_2, rfl, HA, HK2, HB⟩ := hrel
          cases gk with
          | zero => exact absurd HA.out (by simp [power_CheckUses.l1])
          | succ k2 =>
           have H := HA.out
           clear HA
           simp only [power_CheckUses.l1] at H
           by_cases c63 : x62_2 < (l1.length : Int)
           · rw [if_pos c63] at H
             have c63b0 : decide (x62_2 < (l1.length : Int)) = true := decide_eq_true c63
             clear c63
             replace H := guardT H; obtain ⟨c64, H⟩ := H
             have c64b0 : decide (0 ≤ x62_2) = true := decide_eq_true c64
             clear c64
             replace H := guardT H; obtain ⟨c65, H⟩ := H
             have c65b0 : decide (x62_2 < (l1.length : Int)) = true := decide_eq_true c65
             clear c65
             have H' := Aside0.mk H
             clear H
             have p112 : 0 ≤ (x62_2 : Int) := of_decide_eq_true d12p
             have q112 : x62_2 < (l1.length : Int) := of_decide_eq_true d12p
             obtain ⟨ad112, e112, hx112_0, hx112_1, hx112_2⟩ := at_T35 HR1.out x62_2 p112 q112
             cases e112
             replace hx112_0 := cellB HB.out hx112_0
             replace hx112_1 := cellB HB.out hx112_1
             replace hx112_2 := cellB HB.out hx112_2
             replace p112 := eq_true p112
             replace q112 := eq_true q112
             go_wp2_with ((with_reducible refine gate_dst (N := 12) rfl ?_); refine box_event ?hg (N := 12) ?hd (cs := #[.string (⟨#[]⟩ : ByteArray), .int .i64 0, .int .i64 0]) (t := 35) ?hr ?_; (case hd => rfl); (case hg => rfl); (case hr => exact d12r); intro gb113 hg w66 hbox hb; have n0_ := Aside0.mk (below_step d12k hb); have n1_ := Aside0.mk (hbox); have n2_ := Aside0.mk ((by rw [hg]; exact (below_size d12k) : w.heap.size ≤ gb113)); have n3_ := Aside0.mk ((by rw [hg]; exact (below_size d12k) : w.heap.size ≤ gb113)); clear HB; have HB := n0_; have BK113 := n1_; have GW113 := n2_; have GE113 := n3_; clear n0_ n1_ n2_ n3_; clear hb hbox hg; have hcz67_0 : w66.cell? ⟨gb113, 0, none⟩ = some (.string (⟨#[]⟩ : ByteArray)) := (blk_cell BK113.out 0).trans rfl; have hcz67_1 : w66.cell? ⟨gb113, 1, none⟩ = some (.int .i64 0) := (blk_cell BK113.out 1).trans rfl; have hcz67_2 : w66.cell? ⟨gb113, 2, none⟩ = some (.int .i64 0) := (blk_cell BK113.out 2).trans rfl; have hfz67_0 := blk_frozen BK113.out 0; have hfz67_1 := blk_frozen BK113.out 1; have hfz67_2 := blk_frozen BK113.out 2)
             go_loopg [69] k2 (fun kq v69 w' => ∃ (x69_3 : Int), v69 = .int .i64 x69_3 ∧ Aside0 (power_CheckUses.l2 kq l1 x62_2 l1 (l1.length : Int) x62_2 l1 (l1.length : Int) x69_3 ((rd_T35 l1 x62_2).f0) ((rd_T35 l1 x62_2).f1) ((rd_T35 l1 x62_2).f2) = some r) ∧ Aside0 (kq ≤ k2) ∧ Aside0 (w'.heap[gb113]? = some (.cells #[.string ((rd_T35 l1 x62_2).f0), .int .i64 ((rd_T35 l1 x62_2).f1), .int .i64 ((rd_T35 l1 x62_2).f2)] 35 (0, 0))) ∧ Aside0 (Below w.heap.size w w'))
             case atStart => exact ⟨(0), d12q, H', ⟨Nat.le_refl _⟩, ⟨by (with_reducible repeat (first | refine blk_drewN ?_ _ | refine blk_drew ?_ | refine blk_alloc ?_ _)); refine blk_put (cs := #[.string ((rd_T35 l1 x62_2).f0), .int .i64 ((rd_T35 l1 x62_2).f1), .int .i64 0]) ?_ 2 _ rfl; (with_reducible repeat (first | refine blk_drewN ?_ _ | refine blk_drew ?_ | refine blk_alloc ?_ _)); refine blk_put (cs := #[.string ((rd_T35 l1 x62_2).f0), .int .i64 0, .int .i64 0]) ?_ 1 _ rfl; (with_reducible repeat (first | refine blk_drewN ?_ _ | refine blk_drew ?_ | refine blk_alloc ?_ _)); refine blk_put (cs := #[.string (⟨#[]⟩ : ByteArray), .int .i64 0, .int .i64 0]) ?_ 0 _ rfl; (with_reducible repeat (first | refine blk_drewN ?_ _ | refine blk_drew ?_ | refine blk_alloc ?_ _)); exact BK113.out⟩, ⟨d12i⟩⟩
             case round =>
              clear H'
              try clear c63b0
              try clear c64b0
              try clear c65b0
              try clear hcz67_0
              try clear hcz67_1
              try clear hcz67_2
              try clear hfz67_0
              try clear hfz67_1
              try clear hfz67_2
              try clear hx112_0
              try clear hx112_1
              try clear hx112_2
              try clear p112
              try clear q112
              obtain ⟨x69_3, rfl, HA, HK3, BK113, HB⟩ := hrel
              cases gk with
              | zero => exact absurd HA.out (by simp [power_CheckUses.l2])
              | succ k3 =>
               have H := HA.out
               clear HA
               simp only [power_CheckUses.l2] at H
               by_cases c68 : x69_3 < (l1.length : Int)
               · rw [if_pos c68] at H
                 have c68b0 : decide (x69_3 < (l1.length : Int)) = true := decide_eq_true c68
                 clear c68
                 replace H := guardT H; obtain ⟨c69, H⟩ := H
                 have c69b0 : decide (0 ≤ x69_3) = true := decide_eq_true c69
                 clear c69
                 replace H := guardT H; obtain ⟨c70, H⟩ := H
                 have c70b0 : decide (x69_3 < (l1.length : Int)) = true := decide_eq_true c70
                 clear c70
                 by_cases c71 : x69_3 = x62_2
                 · rw [if_pos c71] at H
                   have c71b0 : (x69_3 == x62_2) = true := beq_iff_eq.mpr c71
                   have c71b1 : (x69_3 != x62_2) = false := bne_eq_false_iff_eq.mpr c71
                   clear c71
                   have H' := Aside0.mk H
                   clear H
                   have p114 : 0 ≤ (x69_3 : Int) := of_decide_eq_true d12p
                   have q114 : x69_3 < (l1.length : Int) := of_decide_eq_true d12p
                   obtain ⟨ad114, e114, hx114_0, hx114_1, hx114_2⟩ := at_T35 HR1.out x69_3 p114 q114
                   obtain rfl : ad112 = ad114 := (by injection e114)
                   replace hx114_0 := cellB HB.out hx114_0
                   replace hx114_1 := cellB HB.out hx114_1
                   replace hx114_2 := cellB HB.out hx114_2
                   replace p114 := eq_true p114
                   replace q114 := eq_true q114
                   go_wp2_with ((with_reducible refine gate_dst (N := 14) rfl ?_); refine box_event ?hg (N := 14) ?hd (cs := #[.string (⟨#[]⟩ : ByteArray), .int .i64 0, .int .i64 0]) (t := 35) ?hr ?_; (case hd => rfl); (case hg => rfl); (case hr => exact d12r); intro gb115 hg w72 hbox hb; have n0_ := Aside0.mk (blk_below (g := gb113) (o := .cells #[.string ((rd_T35 l1 x62_2).f0), .int .i64 ((rd_T35 l1 x62_2).f1), .int .i64 ((rd_T35 l1 x62_2).f2)] 35 (0, 0)) d12n hb); have n1_ := Aside0.mk (below_step d12i hb); have n2_ := Aside0.mk (hbox); have n3_ := Aside0.mk ((by rw [hg]; exact (below_size d12i) : w.heap.size ≤ gb115)); have n4_ := Aside0.mk ((by rw [hg]; exact (below_size d12i) : w.heap.size ≤ gb115)); have n5_ := Aside0.mk ((by rw [hg]; exact Nat.ne_of_lt (blk_lt (g := gb113) (o := .cells #[.string ((rd_T35 l1 x62_2).f0), .int .i64 ((rd_T35 l1 x62_2).f1), .int .i64 ((rd_T35 l1 x62_2).f2)] 35 (0, 0)) d12n) : gb113 ≠ gb115)); have n6_ := Aside0.mk ((by rw [hg]; exact Nat.ne_of_gt (blk_lt (g := gb113) (o := .cells #[.string ((rd_T35 l1 x62_2).f0), .int .i64 ((rd_T35 l1 x62_2).f1), .int .i64 ((rd_T35 l1 x62_2).f2)] 35 (0, 0)) d12n) : gb115 ≠ gb113)); clear BK113; clear HB; have BK113 := n0_; have HB := n1_; have BK115 := n2_; have GW115 := n3_; have GE115 := n4_; have NB113_115 := n5_; have NB115_113 := n6_; clear n0_ n1_ n2_ n3_ n4_ n5_ n6_; clear hb hbox hg; have hnb73 := NB115_113.out; have hnc73 := NB113_115.out; have hcz74_0 : w72.cell? ⟨gb115, 0, none⟩ = some (.string (⟨#[]⟩ : ByteArray)) := (blk_cell BK115.out 0).trans rfl; have hcz74_1 : w72.cell? ⟨gb115, 1, none⟩ = some (.int .i64 0) := (blk_cell BK115.out 1).trans rfl; have hcz74_2 : w72.cell? ⟨gb115, 2, none⟩ = some (.int .i64 0) := (blk_cell BK115.out 2).trans rfl; have hfz74_0 := blk_frozen BK115.out 0; have hfz74_1 := blk_frozen BK115.out 1; have hfz74_2 := blk_frozen BK115.out 2)
                   go_roundg k3
                   case measure => have := HK1.out; have := HK2.out; have := HK3.out; omega
                   case rel => exact ⟨(wrap64 (x69_3 + 1)), d12q, H', ⟨by have := HK1.out; have := HK2.out; have := HK3.out; omega⟩, ⟨d12d⟩, ⟨d12f⟩⟩
                 · rw [if_neg c71] at H
                   have c71b0 : (x69_3 == x62_2) = false := beq_eq_false_iff_ne.mpr c71
                   have c71b1 : (x69_3 != x62_2) = true := bne_iff_ne.mpr c71
                   by_cases c75 : ((rd_T35 l1 x69_3).f0).toList = ((rd_T35 l1 x62_2).f0).toList
                   · rw [if_pos c75] at H
                     have c75b0 : (((rd_T35 l1 x69_3).f0).toList == ((rd_T35 l1 x62_2).f0).toList) = true := beq_iff_eq.mpr c75
                     have c75b1 : (((rd_T35 l1 x69_3).f0).toList != ((rd_T35 l1 x62_2).f0).toList) = false := bne_eq_false_iff_eq.mpr c75
                     clear c75
                     by_cases c76 : ((rd_T35 l1 x69_3).f1) ≤ ((rd_T35 l1 x62_2).f1)
                     · rw [if_pos c76] at H
                       have c76b0 : decide (((rd_T35 l1 x69_3).f1) ≤ ((rd_T35 l1 x62_2).f1)) = true := decide_eq_true c76
                       clear c76
                       by_cases c77 : ((rd_T35 l1 x62_2).f1) < ((rd_T35 l1 x69_3).f2)
                       · rw [if_pos c77] at H
                         have c77b0 : decide (((rd_T35 l1 x62_2).f1) < ((rd_T35 l1 x69_3).f2)) = true := decide_eq_true c77
                         clear c77
                         obtain rfl := Option.some.inj H
                         have p114 : 0 ≤ (x69_3 : Int) := of_decide_eq_true d12p
                         have q114 : x69_3 < (l1.length : Int) := of_decide_eq_true d12p
                         obtain ⟨ad114, e114, hx114_0, hx114_1, hx114_2⟩ := at_T35 HR1.out x69_3 p114 q114
                         obtain rfl : ad112 = ad114 := (by injection e114)
                         replace hx114_0 := cellB HB.out hx114_0
                         replace hx114_1 := cellB HB.out hx114_1
                         replace hx114_2 := cellB HB.out hx114_2
                         replace p114 := eq_true p114
                         replace q114 := eq_true q114
                         go_wp2_with ((with_reducible refine gate_dst (N := 14) rfl ?_); refine box_event ?hg (N := 14) ?hd (cs := #[.string (⟨#[]⟩ : ByteArray), .int .i64 0, .int .i64 0]) (t := 35) ?hr ?_; (case hd => rfl); (case hg => rfl); (case hr => exact d12r); intro gb115 hg w78 hbox hb; have n0_ := Aside0.mk (blk_below (g := gb113) (o := .cells #[.string ((rd_T35 l1 x62_2).f0), .int .i64 ((rd_T35 l1 x62_2).f1), .int .i64 ((rd_T35 l1 x62_2).f2)] 35 (0, 0)) d12n hb); have n1_ := Aside0.mk (below_step d12i hb); have n2_ := Aside0.mk (hbox); have n3_ := Aside0.mk ((by rw [hg]; exact (below_size d12i) : w.heap.size ≤ gb115)); have n4_ := Aside0.mk ((by rw [hg]; exact (below_size d12i) : w.heap.size ≤ gb115)); have n5_ := Aside0.mk ((by rw [hg]; exact Nat.ne_of_lt (blk_lt (g := gb113) (o := .cells #[.string ((rd_T35 l1 x62_2).f0), .int .i64 ((rd_T35 l1 x62_2).f1), .int .i64 ((rd_T35 l1 x62_2).f2)] 35 (0, 0)) d12n) : gb113 ≠ gb115)); have n6_ := Aside0.mk ((by rw [hg]; exact Nat.ne_of_gt (blk_lt (g := gb113) (o := .cells #[.string ((rd_T35 l1 x62_2).f0), .int .i64 ((rd_T35 l1 x62_2).f1), .int .i64 ((rd_T35 l1 x62_2).f2)] 35 (0, 0)) d12n) : gb115 ≠ gb113)); clear BK113; clear HB; have BK113 := n0_; have HB := n1_; have BK115 := n2_; have GW115 := n3_; have GE115 := n4_; have NB113_115 := n5_; have NB115_113 := n6_; clear n0_ n1_ n2_ n3_ n4_ n5_ n6_; clear hb hbox hg; have hnb79 := NB115_113.out; have hnc79 := NB113_115.out; have hcz80_0 : w78.cell? ⟨gb115, 0, none⟩ = some (.string (⟨#[]⟩ : ByteArray)) := (blk_cell BK115.out 0).trans rfl; have hcz80_1 : w78.cell? ⟨gb115, 1, none⟩ = some (.int .i64 0) := (blk_cell BK115.out 1).trans rfl; have hcz80_2 : w78.cell? ⟨gb115, 2, none⟩ = some (.int .i64 0) := (blk_cell BK115.out 2).trans rfl; have hfz80_0 := blk_frozen BK115.out 0; have hfz80_1 := blk_frozen BK115.out 1; have hfz80_2 := blk_frozen BK115.out 2; have hcz81_0 : w78.cell? ⟨gb113, 0, none⟩ = some (.string ((rd_T35 l1 x62_2).f0)) := (blk_cell BK113.out 0).trans rfl; have hcz81_1 : w78.cell? ⟨gb113, 1, none⟩ = some (.int .i64 ((rd_T35 l1 x62_2).f1)) := (blk_cell BK113.out 1).trans rfl; have hcz81_2 : w78.cell? ⟨gb113, 2, none⟩ = some (.int .i64 ((rd_T35 l1 x62_2).f2)) := (blk_cell BK113.out 2).trans rfl; have hfz81_0 := blk_frozen BK113.out 0; have hfz81_1 := blk_frozen BK113.out 1; have hfz81_2 := blk_frozen BK113.out 2)
                         go_ret
                         exact ⟨d12o, d12f⟩
                       · rw [if_neg c77] at H
                         have c77b0 : decide (((rd_T35 l1 x62_2).f1) < ((rd_T35 l1 x69_3).f2)) = false := decide_eq_false c77
                         clear c77
                         have H' := Aside0.mk H
                         clear H
                         have p114 : 0 ≤ (x69_3 : Int) := of_decide_eq_true d12p
                         have q114 : x69_3 < (l1.length : Int) := of_decide_eq_true d12p
                         obtain ⟨ad114, e114, hx114_0, hx114_1, hx114_2⟩ := at_T35 HR1.out x69_3 p114 q114
                         obtain rfl : ad112 = ad114 := (by injection e114)
                         replace hx114_0 := cellB HB.out hx114_0
                         replace hx114_1 := cellB HB.out hx114_1
                         replace hx114_2 := cellB HB.out hx114_2
                         replace p114 := eq_true p114
                         replace q114 := eq_true q114
                         go_wp2_with ((with_reducible refine gate_dst (N := 14) rfl ?_); refine box_event ?hg (N := 14) ?hd (cs := #[.string (⟨#[]⟩ : ByteArray), .int .i64 0, .int .i64 0]) (t := 35) ?hr ?_; (case hd => rfl); (case hg => rfl); (case hr => exact d12r); intro gb115 hg w82 hbox hb; have n0_ := Aside0.mk (blk_below (g := gb113) (o := .cells #[.string ((rd_T35 l1 x62_2).f0), .int .i64 ((rd_T35 l1 x62_2).f1), .int .i64 ((rd_T35 l1 x62_2).f2)] 35 (0, 0)) d12n hb); have n1_ := Aside0.mk (below_step d12i hb); have n2_ := Aside0.mk (hbox); have n3_ := Aside0.mk ((by rw [hg]; exact (below_size d12i) : w.heap.size ≤ gb115)); have n4_ := Aside0.mk ((by rw [hg]; exact (below_size d12i) : w.heap.size ≤ gb115)); have n5_ := Aside0.mk ((by rw [hg]; exact Nat.ne_of_lt (blk_lt (g := gb113) (o := .cells #[.string ((rd_T35 l1 x62_2).f0), .int .i64 ((rd_T35 l1 x62_2).f1), .int .i64 ((rd_T35 l1 x62_2).f2)] 35 (0, 0)) d12n) : gb113 ≠ gb115)); have n6_ := Aside0.mk ((by rw [hg]; exact Nat.ne_of_gt (blk_lt (g := gb113) (o := .cells #[.string ((rd_T35 l1 x62_2).f0), .int .i64 ((rd_T35 l1 x62_2).f1), .int .i64 ((rd_T35 l1 x62_2).f2)] 35 (0, 0)) d12n) : gb115 ≠ gb113)); clear BK113; clear HB; have BK113 := n0_; have HB := n1_; have BK115 := n2_; have GW115 := n3_; have GE115 := n4_; have NB113_115 := n5_; have NB115_113 := n6_; clear n0_ n1_ n2_ n3_ n4_ n5_ n6_; clear hb hbox hg; have hnb83 := NB115_113.out; have hnc83 := NB113_115.out; have hcz84_0 : w82.cell? ⟨gb115, 0, none⟩ = some (.string (⟨#[]⟩ : ByteArray)) := (blk_cell BK115.out 0).trans rfl; have hcz84_1 : w82.cell? ⟨gb115, 1, none⟩ = some (.int .i64 0) := (blk_cell BK115.out 1).trans rfl; have hcz84_2 : w82.cell? ⟨gb115, 2, none⟩ = some (.int .i64 0) := (blk_cell BK115.out 2).trans rfl; have hfz84_0 := blk_frozen BK115.out 0; have hfz84_1 := blk_frozen BK115.out 1; have hfz84_2 := blk_frozen BK115.out 2; have hcz85_0 : w82.cell? ⟨gb113, 0, none⟩ = some (.string ((rd_T35 l1 x62_2).f0)) := (blk_cell BK113.out 0).trans rfl; have hcz85_1 : w82.cell? ⟨gb113, 1, none⟩ = some (.int .i64 ((rd_T35 l1 x62_2).f1)) := (blk_cell BK113.out 1).trans rfl; have hcz85_2 : w82.cell? ⟨gb113, 2, none⟩ = some (.int .i64 ((rd_T35 l1 x62_2).f2)) := (blk_cell BK113.out 2).trans rfl; have hfz85_0 := blk_frozen BK113.out 0; have hfz85_1 := blk_frozen BK113.out 1; have hfz85_2 := blk_frozen BK113.out 2)
                         go_roundg k3
                         case measure => have := HK1.out; have := HK2.out; have := HK3.out; omega
                         case rel => exact ⟨(wrap64 (x69_3 + 1)), d12q, H', ⟨by have := HK1.out; have := HK2.out; have := HK3.out; omega⟩, ⟨d12d⟩, ⟨d12f⟩⟩
                     · rw [if_neg c76] at H
                       have c76b0 : decide (((rd_T35 l1 x69_3).f1) ≤ ((rd_T35 l1 x62_2).f1)) = false := decide_eq_false c76
                       clear c76
                       have H' := Aside0.mk H
                       clear H
                       have p114 : 0 ≤ (x69_3 : Int) := of_decide_eq_true d12p
                       have q114 : x69_3 < (l1.length : Int) := of_decide_eq_true d12p
                       obtain ⟨ad114, e114, hx114_0, hx114_1, hx114_2⟩ := at_T35 HR1.out x69_3 p114 q114
                       obtain rfl : ad112 = ad114 := (by injection e114)
                       replace hx114_0 := cellB HB.out hx114_0
                       replace hx114_1 := cellB HB.out hx114_1
                       replace hx114_2 := cellB HB.out hx114_2
                       replace p114 := eq_true p114
                       replace q114 := eq_true q114
                       go_wp2_with ((with_reducible refine gate_dst (N := 14) rfl ?_); refine box_event ?hg (N := 14) ?hd (cs := #[.string (⟨#[]⟩ : ByteArray), .int .i64 0, .int .i64 0]) (t := 35) ?hr ?_; (case hd => rfl); (case hg => rfl); (case hr => exact d12r); intro gb115 hg w86 hbox hb; have n0_ := Aside0.mk (blk_below (g := gb113) (o := .cells #[.string ((rd_T35 l1 x62_2).f0), .int .i64 ((rd_T35 l1 x62_2).f1), .int .i64 ((rd_T35 l1 x62_2).f2)] 35 (0, 0)) d12n hb); have n1_ := Aside0.mk (below_step d12i hb); have n2_ := Aside0.mk (hbox); have n3_ := Aside0.mk ((by rw [hg]; exact (below_size d12i) : w.heap.size ≤ gb115)); have n4_ := Aside0.mk ((by rw [hg]; exact (below_size d12i) : w.heap.size ≤ gb115)); have n5_ := Aside0.mk ((by rw [hg]; exact Nat.ne_of_lt (blk_lt (g := gb113) (o := .cells #[.string ((rd_T35 l1 x62_2).f0), .int .i64 ((rd_T35 l1 x62_2).f1), .int .i64 ((rd_T35 l1 x62_2).f2)] 35 (0, 0)) d12n) : gb113 ≠ gb115)); have n6_ := Aside0.mk ((by rw [hg]; exact Nat.ne_of_gt (blk_lt (g := gb113) (o := .cells #[.string ((rd_T35 l1 x62_2).f0), .int .i64 ((rd_T35 l1 x62_2).f1), .int .i64 ((rd_T35 l1 x62_2).f2)] 35 (0, 0)) d12n) : gb115 ≠ gb113)); clear BK113; clear HB; have BK113 := n0_; have HB := n1_; have BK115 := n2_; have GW115 := n3_; have GE115 := n4_; have NB113_115 := n5_; have NB115_113 := n6_; clear n0_ n1_ n2_ n3_ n4_ n5_ n6_; clear hb hbox hg; have hnb87 := NB115_113.out; have hnc87 := NB113_115.out; have hcz88_0 : w86.cell? ⟨gb115, 0, none⟩ = some (.string (⟨#[]⟩ : ByteArray)) := (blk_cell BK115.out 0).trans rfl; have hcz88_1 : w86.cell? ⟨gb115, 1, none⟩ = some (.int .i64 0) := (blk_cell BK115.out 1).trans rfl; have hcz88_2 : w86.cell? ⟨gb115, 2, none⟩ = some (.int .i64 0) := (blk_cell BK115.out 2).trans rfl; have hfz88_0 := blk_frozen BK115.out 0; have hfz88_1 := blk_frozen BK115.out 1; have hfz88_2 := blk_frozen BK115.out 2; have hcz89_0 : w86.cell? ⟨gb113, 0, none⟩ = some (.string ((rd_T35 l1 x62_2).f0)) := (blk_cell BK113.out 0).trans rfl; have hcz89_1 : w86.cell? ⟨gb113, 1, none⟩ = some (.int .i64 ((rd_T35 l1 x62_2).f1)) := (blk_cell BK113.out 1).trans rfl; have hcz89_2 : w86.cell? ⟨gb113, 2, none⟩ = some (.int .i64 ((rd_T35 l1 x62_2).f2)) := (blk_cell BK113.out 2).trans rfl; have hfz89_0 := blk_frozen BK113.out 0; have hfz89_1 := blk_frozen BK113.out 1; have hfz89_2 := blk_frozen BK113.out 2)
                       go_roundg k3
                       case measure => have := HK1.out; have := HK2.out; have := HK3.out; omega
                       case rel => exact ⟨(wrap64 (x69_3 + 1)), d12q, H', ⟨by have := HK1.out; have := HK2.out; have := HK3.out; omega⟩, ⟨d12d⟩, ⟨d12f⟩⟩
                   · rw [if_neg c75] at H
                     have c75b0 : (((rd_T35 l1 x69_3).f0).toList == ((rd_T35 l1 x62_2).f0).toList) = false := beq_eq_false_iff_ne.mpr c75
                     have c75b1 : (((rd_T35 l1 x69_3).f0).toList != ((rd_T35 l1 x62_2).f0).toList) = true := bne_iff_ne.mpr c75
                     have H' := Aside0.mk H
                     clear H
                     have p114 : 0 ≤ (x69_3 : Int) := of_decide_eq_true d12p
                     have q114 : x69_3 < (l1.length : Int) := of_decide_eq_true d12p
                     obtain ⟨ad114, e114, hx114_0, hx114_1, hx114_2⟩ := at_T35 HR1.out x69_3 p114 q114
                     obtain rfl : ad112 = ad114 := (by injection e114)
                     replace hx114_0 := cellB HB.out hx114_0
                     replace hx114_1 := cellB HB.out hx114_1
                     replace hx114_2 := cellB HB.out hx114_2
                     replace p114 := eq_true p114
                     replace q114 := eq_true q114
                     go_wp2_with ((with_reducible refine gate_dst (N := 14) rfl ?_); refine box_event ?hg (N := 14) ?hd (cs := #[.string (⟨#[]⟩ : ByteArray), .int .i64 0, .int .i64 0]) (t := 35) ?hr ?_; (case hd => rfl); (case hg => rfl); (case hr => exact d12r); intro gb115 hg w90 hbox hb; have n0_ := Aside0.mk (blk_below (g := gb113) (o := .cells #[.string ((rd_T35 l1 x62_2).f0), .int .i64 ((rd_T35 l1 x62_2).f1), .int .i64 ((rd_T35 l1 x62_2).f2)] 35 (0, 0)) d12n hb); have n1_ := Aside0.mk (below_step d12i hb); have n2_ := Aside0.mk (hbox); have n3_ := Aside0.mk ((by rw [hg]; exact (below_size d12i) : w.heap.size ≤ gb115)); have n4_ := Aside0.mk ((by rw [hg]; exact (below_size d12i) : w.heap.size ≤ gb115)); have n5_ := Aside0.mk ((by rw [hg]; exact Nat.ne_of_lt (blk_lt (g := gb113) (o := .cells #[.string ((rd_T35 l1 x62_2).f0), .int .i64 ((rd_T35 l1 x62_2).f1), .int .i64 ((rd_T35 l1 x62_2).f2)] 35 (0, 0)) d12n) : gb113 ≠ gb115)); have n6_ := Aside0.mk ((by rw [hg]; exact Nat.ne_of_gt (blk_lt (g := gb113) (o := .cells #[.string ((rd_T35 l1 x62_2).f0), .int .i64 ((rd_T35 l1 x62_2).f1), .int .i64 ((rd_T35 l1 x62_2).f2)] 35 (0, 0)) d12n) : gb115 ≠ gb113)); clear BK113; clear HB; have BK113 := n0_; have HB := n1_; have BK115 := n2_; have GW115 := n3_; have GE115 := n4_; have NB113_115 := n5_; have NB115_113 := n6_; clear n0_ n1_ n2_ n3_ n4_ n5_ n6_; clear hb hbox hg; have hnb91 := NB115_113.out; have hnc91 := NB113_115.out; have hcz92_0 : w90.cell? ⟨gb115, 0, none⟩ = some (.string (⟨#[]⟩ : ByteArray)) := (blk_cell BK115.out 0).trans rfl; have hcz92_1 : w90.cell? ⟨gb115, 1, none⟩ = some (.int .i64 0) := (blk_cell BK115.out 1).trans rfl; have hcz92_2 : w90.cell? ⟨gb115, 2, none⟩ = some (.int .i64 0) := (blk_cell BK115.out 2).trans rfl; have hfz92_0 := blk_frozen BK115.out 0; have hfz92_1 := blk_frozen BK115.out 1; have hfz92_2 := blk_frozen BK115.out 2; have hcz93_0 : w90.cell? ⟨gb113, 0, none⟩ = some (.string ((rd_T35 l1 x62_2).f0)) := (blk_cell BK113.out 0).trans rfl; have hcz93_1 : w90.cell? ⟨gb113, 1, none⟩ = some (.int .i64 ((rd_T35 l1 x62_2).f1)) := (blk_cell BK113.out 1).trans rfl; have hcz93_2 : w90.cell? ⟨gb113, 2, none⟩ = some (.int .i64 ((rd_T35 l1 x62_2).f2)) := (blk_cell BK113.out 2).trans rfl; have hfz93_0 := blk_frozen BK113.out 0; have hfz93_1 := blk_frozen BK113.out 1; have hfz93_2 := blk_frozen BK113.out 2)
                     go_roundg k3
                     case measure => have := HK1.out; have := HK2.out; have := HK3.out; omega
                     case rel => exact ⟨(wrap64 (x69_3 + 1)), d12q, H', ⟨by have := HK1.out; have := HK2.out; have := HK3.out; omega⟩, ⟨d12d⟩, ⟨d12f⟩⟩
               · rw [if_neg c68] at H
                 have c68b0 : decide (x69_3 < (l1.length : Int)) = false := decide_eq_false c68
                 clear c68
                 have H' := Aside0.mk H
                 clear H
                 go_wp2
                 go_roundg k3
                 case measure => have := HK1.out; have := HK2.out; have := HK3.out; omega
                 case rel => exact ⟨(wrap64 (x62_2 + 1)), d12q, H', ⟨by have := HK1.out; have := HK2.out; have := HK3.out; omega⟩, ⟨d12i⟩⟩
           · rw [if_neg c63] at H
             have c63b0 : decide (x62_2 < (l1.length : Int)) = false := decide_eq_false c63
             clear c63
             obtain rfl := Option.some.inj H
             go_wp2
             go_ret
             exact ⟨d12o, d12k⟩
 · rw [if_neg c4] at H
   have c4b0 : (t101 == 0) = false := beq_eq_false_iff_ne.mpr c4
   have c4b1 : (t101 != 0) = true := bne_iff_ne.mpr c4
   obtain rfl := Option.some.inj H
   go_enter Tryd.func12, Tryd.ntmps12
   go_wp2_with ((with_reducible refine gate_callee (f := 27) rfl ?_); refine goesL_ (some 16) rfl rfl Tryd.func27 (by kernel_rfl) rfl #[.slice A0 l0.length c0] rfl d12j ?_; (with_reducible refine (power_CheckLoads.calls k _ _ l0 t101 _ ?side1 ?side2 A3.out).mono ?_); (case side1 => exact C_go HR0.out); (case side2 => exact HC0.out); rintro e w94 ⟨rfl, hb⟩; refine ⟨_, rfl, ?_⟩; replace HB := Aside0.mk (below_step d12k hb); (try clear hb))
   go_ret
   exact ⟨d12o, d12k⟩
end Go.Proofs.YtplcdpiggpkppaaDoor.Q
