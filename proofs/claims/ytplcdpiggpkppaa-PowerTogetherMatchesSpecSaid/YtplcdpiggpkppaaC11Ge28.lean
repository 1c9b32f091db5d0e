-- Made by wip/tools/claimp.py of this session's texts; Lean checks it.
import Derived.Test.YtplcdpiggpkppaaC11Q0
import Derived.Test.YtplcdpiggpkppaaC11Ge1
import Derived.Test.YtplcdpiggpkppaaC11Ge27
import Derived.Test.YtplcdpiggpkppaaC11Ge5
import Derived.Test.YtplcdpiggpkppaaC11Ge6
namespace Go.Proofs.Ytplcdpiggpkppaa.Q
open Go.RowKit Go.Proofs.YtplcdpiggpkppaaW.PrintWords Go.Proofs.YtplcdpiggpkppaaW.PrintLast Go.Proofs.YtplcdpiggpkppaaW.PrintMore
attribute [local go_sem] max2_int min2_int max_two min_two max_three min_three max_four min_four
open Go.Proofs.Ytplcdpiggpkppaa.Base
attribute [local go_sem high] str_leq str_gtr str_geq
set_option linter.unusedVariables false
set_option linter.unusedSimpArgs false
theorem eqA57 (d : Nat) (w : World) (x0 y0 : Int) (x1 y1 : Int) (x2 y2 : Int) :
    (Op.equalIn (d + 2) 57 (.agg #[.int .i64 x0, .int .i64 x1, .int .i64 x2]) (.agg #[.int .i64 y0, .int .i64 y1, .int .i64 y2])).run Try.prog w = .ok (x0 == y0 && (x1 == y1 && (x2 == y2))) w := by
  refine eqA_of Try.underlying57 (by kernel_rfl) ?_
  refine eqf_cons (by rfl) (by go_simp; rfl) (by go_simp; rfl) (by go_simp) ?_
  refine eqf_cons (by rfl) (by go_simp; rfl) (by go_simp; rfl) (by go_simp) ?_
  exact eqf_last (by rfl) (by go_simp; rfl) (by go_simp; rfl) (by go_simp)
attribute [local go_sem high] eqA57
mutual
def perigeeref9_Together.l0 : Nat → List (S76) → List (S47) → List (S100) → List (S100) → Int → Int → Option ((List (S57)) × Int)
  | 0, _, _, _, _, _, _ => none
  | k + 1, x0, x1, x2, x27, x28, x29 => if x29 < x28 then (if 0 ≤ x29 then (if x29 < (x27.length : Int) then (if (((rd_T100 x27 x29).f0).length : Int) > 50 then (some (([] : List (S57)), 2)) else (perigeeref9_Together.l1 k x0 x1 x2 x27 x28 x29 ((rd_T100 x27 x29).f0) (((rd_T100 x27 x29).f0).length : Int) 0 ((rd_T100 x27 x29).f0) ((rd_T100 x27 x29).f1))) else (none)) else (none)) else (perigeeref9_Together.l2 k x1 ([] : List (S57)) x2 (x2.length : Int) 0)
def perigeeref9_Together.l1 : Nat → List (S76) → List (S47) → List (S100) → List (S100) → Int → Int → List ByteArray → Int → Int → List ByteArray → Int → Option ((List (S57)) × Int)
  | 0, _, _, _, _, _, _, _, _, _, _, _ => none
  | k + 1, x0, x1, x2, x27, x28, x29, x38, x39, x40, x104000, x104001 => if x40 < x39 then (if 0 ≤ x40 then (if x40 < (x38.length : Int) then ((perigeeref9_loadOf.f k x0 (rdOf ByteArray.empty x38 x40)).bind fun bt106 => (if bt106.2.2.2 = true then (if x40 > 0 then (if 0 ≤ (wrap64 (x40 - 1)) then (if (wrap64 (x40 - 1)) < (x104000.length : Int) then (if ((Op.bytesLess ((rdOf ByteArray.empty x104000 (wrap64 (x40 - 1))).toList) ((rdOf ByteArray.empty x38 x40).toList)) = true) then (perigeeref9_Together.l1 k x0 x1 x2 x27 x28 x29 x38 x39 (wrap64 (x40 + 1)) x104000 x104001) else (some (([] : List (S57)), 8))) else (none)) else (none)) else (perigeeref9_Together.l1 k x0 x1 x2 x27 x28 x29 x38 x39 (wrap64 (x40 + 1)) x104000 x104001)) else (some (([] : List (S57)), 9)))) else (none)) else (none)) else ((perigeeref9_within.f x104001 0 50).bind fun t104 => (if t104 = true then (perigeeref9_Together.l0 k x0 x1 x2 x27 x28 (wrap64 (x29 + 1))) else (some (([] : List (S57)), 1))))
def perigeeref9_Together.l2 : Nat → List (S47) → List (S57) → List (S100) → Int → Int → Option ((List (S57)) × Int)
  | 0, _, _, _, _, _ => none
  | k + 1, x1, x15, x71, x72, x73 => if x73 < x72 then (if 0 ≤ x73 then (if x73 < (x71.length : Int) then ((perigeeref9_broken.f k x1 x73 ((rd_T100 x71 x73).f0) ((rd_T100 x71 x73).f1)).bind fun t114 => (if x15.length + t114.length < 5864062014805 then (perigeeref9_Together.l2 k x1 (x15 ++ t114) x71 x72 (wrap64 (x73 + 1))) else (none))) else (none)) else (none)) else (some (x15, 0))
end
def perigeeref9_Together.f (k : Nat) (l0 : List (S76)) (l1 : List (S47)) (l2 : List (S100)) : Option ((List (S57)) × Int) := (perigeeref9_CheckUses.f k l0 l1).bind fun t101 => (if t101 = 0 then (if (l2.length : Int) > 50 then (some (([] : List (S57)), 2)) else (perigeeref9_Together.l0 k l0 l1 l2 l2 (l2.length : Int) 0)) else (some (([] : List (S57)), t101)))
theorem d37a {p : Prop} (h : p := by repeat (first | (with_reducible first | exact HB.out | apply below_alloc | apply pw_below_drewN | apply below_drew1 | refine below_set ?_ GE103.out | refine below_set ?_ GE110.out) | exact HB.out)) : p := h
theorem d37b {p : Prop} (h : p := by repeat (first | (with_reducible first | exact HB.out | apply below_alloc | apply pw_below_drewN | apply below_drew1 | refine below_set ?_ GE103.out) | exact HB.out)) : p := h
theorem d37c {p : Prop} (h : p := by repeat (first | (with_reducible first | exact HB.out | apply below_alloc | apply pw_below_drewN | apply below_drew1 | refine below_set ?_ GE113.out) | exact HB.out)) : p := h
theorem d37d {p : Prop} (h : p := by first | exact Kd.R_nil _ _ _ _ _ | exact Kd.N_nil _ _ _ _ _ | exact Kd.V_nil _ _ _ _ _ | exact Kd.Q_nil _ _ _ _ _ | exact Kd.S_nil _ _ _ _ _) : p := h
theorem d37e {p : Prop} (h : p := by (try simp only [List.map_toArray, List.map_cons, List.map_nil]); first | done | rfl | (simp only [List.length_drop, List.length_take]; rfl)) : p := h
theorem d37f {p : Prop} (h : p := by repeat (first | (with_reducible first | exact HB.out | apply below_alloc | apply pw_below_drewN | apply below_drew1) | exact HB.out)) : p := h
theorem d37g {p : Prop} (h : p := by (with_reducible repeat (first | refine blk_drewN ?_ _ | refine blk_drew ?_ | refine blk_alloc ?_ _)); exact BK103.out) : p := h
theorem d37h {p : Prop} (h : p := by first | rfl | (simp [errW_none, errW_some] <;> rfl) | (simp [*, errW_none, errW_some] <;> rfl)) : p := h
theorem d37i {p : Prop} (h : p := by have := World.block_lt_of_cell? _ _ hx111_0; first | rwa [add_block] at this | exact this) : p := h
theorem d37j {p : Prop} (h : p := by first | (with_reducible assumption) | assumption) : p := h
theorem d37k {p : Prop} (h : p := by first | rfl | (simp; done) | (simp [*]; done)) : p := h
theorem d37l {p : Prop} (h : p := by first | (go_simp; done) | (go_simp; rfl)) : p := h
theorem d37m {p : Prop} (h : p := by exact C_go (Kd.C_below HR0.out HB.out)) : p := h
set_option maxHeartbeats 8000000 in
set_option maxRecDepth 100000 in
theorem perigeeref9_Together.calls (k : Nat) (A0 : Option Addr) (c0 : Nat) (l0 : List (S76)) (A1 : Option Addr) (c1 : Nat) (l1 : List (S47)) (A2 : Option Addr) (c2 : Nat) (l2 : List (S100)) (r1 : List (S57)) (r2 : Int) (w : World) (hr0 : Kd.C k76 w A0 l0.length l0) (hc0 : l0.length ≤ c0) (hr1 : Kd.C k47 w A1 l1.length l1) (hc1 : l1.length ≤ c1) (hr2 : Kd.C k100 w A2 l2.length l2) (hc2 : l2.length ≤ c2) (h : perigeeref9_Together.f k l0 l1 l2 = some (r1, r2)) :
 Calls Try.prog 37 #[.slice A0 l0.length c0, .slice A1 l1.length c1, .slice A2 l2.length c2] w fun e w' => ∃ v0_ : Value, e = .returned (.tuple #[v0_, .int .i64 r2]) ∧ Kd.R k57 57 w' w.heap.size (fun _ => True) v0_ r1 ∧ Below w.heap.size w w' := by
 have hu100 := Try.underlying100
 have hu76 := Try.underlying76
 have HR0 := Aside0.mk hr0
 have HC0 := Aside0.mk hc0
 clear hr0 hc0
 have HR1 := Aside0.mk hr1
 have HC1 := Aside0.mk hc1
 clear hr1 hc1
 have HR2 := Aside0.mk hr2
 have HC2 := Aside0.mk hc2
 clear hr2 hc2
 have HB := Aside0.mk (Below.refl w.heap.size w)
 have H : ((perigeeref9_CheckUses.f k l0 l1).bind fun t101 => (if t101 = 0 then (if (l2.length : Int) > 50 then (some (([] : List (S57)), 2)) else (perigeeref9_Together.l0 k l0 l1 l2 l2 (l2.length : Int) 0)) else (some (([] : List (S57)), t101)))) = some (r1, r2) := h
 clear h
 replace H := bindS H; obtain ⟨t101, A4, H⟩ := H
 by_cases c5 : t101 = 0
 · rw [if_pos c5] at H
   have c5b0 : (t101 == 0) = true := beq_iff_eq.mpr c5
   have c5b1 : (t101 != 0) = false := bne_eq_false_iff_eq.mpr c5
   clear c5
   by_cases c6 : (l2.length : Int) > 50
   · rw [if_pos c6] at H
     have c6b0 : decide (50 < (l2.length : Int)) = true := decide_eq_true c6
     have c6b1 : decide (50 < l2.length) = true := decide_eq_true (by omega)
     clear c6
     simp only [Option.some.injEq, Prod.mk.injEq] at H
     obtain ⟨rfl, rfl⟩ := H
     go_enter Try.func37, Try.ntmps37
     go_wp2_with ((with_reducible refine gate_callee (f := 22) rfl ?_); refine goesL_ (some 20) rfl rfl Try.func22 (by kernel_rfl) rfl #[.slice A0 l0.length c0, .slice A1 l1.length c1] rfl d37e ?_; (with_reducible refine (perigeeref9_CheckUses.calls k _ _ l0 _ _ l1 t101 _ ?side1 ?side2 ?side3 ?side4 A4.out).mono ?_); (case side1 => exact C_go HR0.out); (case side2 => exact HC0.out); (case side3 => exact C_go HR1.out); (case side4 => exact HC1.out); rintro e w7 ⟨rfl, hb⟩; refine ⟨_, rfl, ?_⟩; replace HB := Aside0.mk (below_step d37f hb); (try clear hb))
     go_ret2
     exact ⟨_, d37h, d37d, d37f⟩
   · rw [if_neg c6] at H
     have c6b0 : decide (50 < (l2.length : Int)) = false := decide_eq_false c6
     have c6b1 : decide (50 < l2.length) = false := decide_eq_false (by omega)
     clear c6
     have H' := Aside0.mk H
     clear H
     go_enter Try.func37, Try.ntmps37
     go_wp2_with ((with_reducible refine gate_callee (f := 22) rfl ?_); refine goesL_ (some 20) rfl rfl Try.func22 (by kernel_rfl) rfl #[.slice A0 l0.length c0, .slice A1 l1.length c1] rfl d37e ?_; (with_reducible refine (perigeeref9_CheckUses.calls k _ _ l0 _ _ l1 t101 _ ?side1 ?side2 ?side3 ?side4 A4.out).mono ?_); (case side1 => exact C_go HR0.out); (case side2 => exact HC0.out); (case side3 => exact C_go HR1.out); (case side4 => exact HC1.out); rintro e w8 ⟨rfl, hb⟩; refine ⟨_, rfl, ?_⟩; replace HB := Aside0.mk (below_step d37f hb); (try clear hb))
     go_loopg [29] k (fun kq v29 w' => ∃ (x29_1 : Int), v29 = .int .i64 x29_1 ∧ Aside0 (perigeeref9_Together.l0 kq l0 l1 l2 l2 (l2.length : Int) x29_1 = some (r1, r2)) ∧ Aside0 (kq ≤ k) ∧ Aside0 (Below w.heap.size w w'))
     case atStart => exact ⟨(0), d37k, H', ⟨Nat.le_refl _⟩, ⟨d37f⟩⟩
     case round =>
      clear H'
      try clear c5b0
      try clear c5b1
      try clear c6b0
      try clear c6b1
      obtain ⟨x29_1, rfl, HA, HK1, HB⟩ := hrel
      cases gk with
      | zero => exact absurd HA.out (by simp [perigeeref9_Together.l0])
      | succ k1 =>
       have H := HA.out
       clear HA
       simp only [perigeeref9_Together.l0] at H
       by_cases c9 : x29_1 < (l2.length : Int)
       · rw [if_pos c9] at H
         have c9b0 : decide (x29_1 < (l2.length : Int)) = true := decide_eq_true c9
         clear c9
         replace H := guardT H; obtain ⟨c10, H⟩ := H
         have c10b0 : decide (0 ≤ x29_1) = true := decide_eq_true c10
         clear c10
         replace H := guardT H; obtain ⟨c11, H⟩ := H
         have c11b0 : decide (x29_1 < (l2.length : Int)) = true := decide_eq_true c11
         clear c11
         by_cases c12 : (((rd_T100 l2 x29_1).f0).length : Int) > 50
         · rw [if_pos c12] at H
           have c12b0 : decide (50 < (((rd_T100 l2 x29_1).f0).length : Int)) = true := decide_eq_true c12
           have c12b1 : decide (50 < ((rd_T100 l2 x29_1).f0).length) = true := decide_eq_true (by omega)
           clear c12
           simp only [Option.some.injEq, Prod.mk.injEq] at H
           obtain ⟨rfl, rfl⟩ := H
           have p102 : 0 ≤ (x29_1 : Int) := of_decide_eq_true d37j
           have q102 : x29_1 < (l2.length : Int) := of_decide_eq_true d37j
           obtain ⟨ad102, A102_0, c102_0, e102, hx102_0, hx102_1, hl102_0, hi102_0⟩ := at_T100 HR2.out x29_1 p102 q102
           cases e102
           replace hx102_0 := cellB HB.out hx102_0
           replace hx102_1 := cellB HB.out hx102_1
           have HR102_0 := Aside0.mk hi102_0
           have HC102_0 := Aside0.mk hl102_0
           clear hi102_0 hl102_0
           replace p102 := eq_true p102
           replace q102 := eq_true q102
           go_wp2_with ((with_reducible refine gate_dst (N := 10) rfl ?_); refine box_event ?hg (N := 10) ?hd (cs := #[.slice none 0 0, .int .i64 0]) (t := 100) ?hr ?_; (case hd => rfl); (case hg => rfl); (case hr => exact d37l); intro gb103 hg w13 hbox hb; have n0_ := Aside0.mk (below_step d37f hb); have n1_ := Aside0.mk (hbox); have n2_ := Aside0.mk ((by rw [hg]; exact (below_size d37f) : w.heap.size ≤ gb103)); have n3_ := Aside0.mk ((by rw [hg]; exact (below_size d37f) : w.heap.size ≤ gb103)); clear HB; have HB := n0_; have BK103 := n1_; have GW103 := n2_; have GE103 := n3_; clear n0_ n1_ n2_ n3_; clear hb hbox hg; have hcz14_0 : w13.cell? ⟨gb103, 0, none⟩ = some (.slice none 0 0) := (blk_cell BK103.out 0).trans rfl; have hcz14_1 : w13.cell? ⟨gb103, 1, none⟩ = some (.int .i64 0) := (blk_cell BK103.out 1).trans rfl; have hfz14_0 := blk_frozen BK103.out 0; have hfz14_1 := blk_frozen BK103.out 1)
           go_ret2
           exact ⟨_, d37h, d37d, d37b⟩
         · rw [if_neg c12] at H
           have c12b0 : decide (50 < (((rd_T100 l2 x29_1).f0).length : Int)) = false := decide_eq_false c12
           have c12b1 : decide (50 < ((rd_T100 l2 x29_1).f0).length) = false := decide_eq_false (by omega)
           clear c12
           have H' := Aside0.mk H
           clear H
           have p102 : 0 ≤ (x29_1 : Int) := of_decide_eq_true d37j
           have q102 : x29_1 < (l2.length : Int) := of_decide_eq_true d37j
           obtain ⟨ad102, A102_0, c102_0, e102, hx102_0, hx102_1, hl102_0, hi102_0⟩ := at_T100 HR2.out x29_1 p102 q102
           cases e102
           replace hx102_0 := cellB HB.out hx102_0
           replace hx102_1 := cellB HB.out hx102_1
           have HR102_0 := Aside0.mk hi102_0
           have HC102_0 := Aside0.mk hl102_0
           clear hi102_0 hl102_0
           replace p102 := eq_true p102
           replace q102 := eq_true q102
           go_wp2_with ((with_reducible refine gate_dst (N := 10) rfl ?_); refine box_event ?hg (N := 10) ?hd (cs := #[.slice none 0 0, .int .i64 0]) (t := 100) ?hr ?_; (case hd => rfl); (case hg => rfl); (case hr => exact d37l); intro gb103 hg w15 hbox hb; have n0_ := Aside0.mk (below_step d37f hb); have n1_ := Aside0.mk (hbox); have n2_ := Aside0.mk ((by rw [hg]; exact (below_size d37f) : w.heap.size ≤ gb103)); have n3_ := Aside0.mk ((by rw [hg]; exact (below_size d37f) : w.heap.size ≤ gb103)); clear HB; have HB := n0_; have BK103 := n1_; have GW103 := n2_; have GE103 := n3_; clear n0_ n1_ n2_ n3_; clear hb hbox hg; have hcz16_0 : w15.cell? ⟨gb103, 0, none⟩ = some (.slice none 0 0) := (blk_cell BK103.out 0).trans rfl; have hcz16_1 : w15.cell? ⟨gb103, 1, none⟩ = some (.int .i64 0) := (blk_cell BK103.out 1).trans rfl; have hfz16_0 := blk_frozen BK103.out 0; have hfz16_1 := blk_frozen BK103.out 1)
           go_loopg [40] k1 (fun kq v40 w' => ∃ (x40_2 : Int), v40 = .int .i64 x40_2 ∧ Aside0 (perigeeref9_Together.l1 kq l0 l1 l2 l2 (l2.length : Int) x29_1 ((rd_T100 l2 x29_1).f0) (((rd_T100 l2 x29_1).f0).length : Int) x40_2 ((rd_T100 l2 x29_1).f0) ((rd_T100 l2 x29_1).f1) = some (r1, r2)) ∧ Aside0 (kq ≤ k1) ∧ Aside0 (w'.heap[gb103]? = some (.cells #[(.slice A102_0 ((rd_T100 l2 x29_1).f0).length c102_0), .int .i64 ((rd_T100 l2 x29_1).f1)] 100 (0, 0))) ∧ Aside0 (Below w.heap.size w w'))
           case atStart => exact ⟨(0), d37k, H', ⟨Nat.le_refl _⟩, ⟨by (with_reducible repeat (first | refine blk_drewN ?_ _ | refine blk_drew ?_ | refine blk_alloc ?_ _)); refine blk_put (cs := #[.slice A102_0 ((rd_T100 l2 x29_1).f0).length c102_0, .int .i64 0]) ?_ 1 _ rfl; (with_reducible repeat (first | refine blk_drewN ?_ _ | refine blk_drew ?_ | refine blk_alloc ?_ _)); refine blk_put (cs := #[.slice none 0 0, .int .i64 0]) ?_ 0 _ rfl; (with_reducible repeat (first | refine blk_drewN ?_ _ | refine blk_drew ?_ | refine blk_alloc ?_ _)); exact BK103.out⟩, ⟨d37b⟩⟩
           case round =>
            clear H'
            try clear c9b0
            try clear c10b0
            try clear c11b0
            try clear c12b0
            try clear c12b1
            try clear hcz16_0
            try clear hcz16_1
            try clear hfz16_0
            try clear hfz16_1
            try clear hx102_0
            try clear hx102_1
            try clear p102
            try clear q102
            obtain ⟨x40_2, rfl, HA, HK2, BK103, HB⟩ := hrel
            cases gk with
            | zero => exact absurd HA.out (by simp [perigeeref9_Together.l1])
            | succ k2 =>
             have H := HA.out
             clear HA
             simp only [perigeeref9_Together.l1] at H
             by_cases c17 : x40_2 < (((rd_T100 l2 x29_1).f0).length : Int)
             · rw [if_pos c17] at H
               have c17b0 : decide (x40_2 < (((rd_T100 l2 x29_1).f0).length : Int)) = true := decide_eq_true c17
               clear c17
               replace H := guardT H; obtain ⟨c18, H⟩ := H
               have c18b0 : decide (0 ≤ x40_2) = true := decide_eq_true c18
               clear c18
               replace H := guardT H; obtain ⟨c19, H⟩ := H
               have c19b0 : decide (x40_2 < (((rd_T100 l2 x29_1).f0).length : Int)) = true := decide_eq_true c19
               clear c19
               replace H := bindS H; obtain ⟨⟨t106, t107, t108, t109⟩, A20, H⟩ := H
               by_cases c21 : t109 = true
               · subst c21
                 replace H := iteT H
                 by_cases c22 : x40_2 > 0
                 · rw [if_pos c22] at H
                   have c22b0 : decide (0 < x40_2) = true := decide_eq_true c22
                   clear c22
                   obtain ⟨ji23, hji23⟩ : ∃ j_ : Int, (wrap64 (x40_2 - 1)) = j_ := ⟨_, rfl⟩
                   replace H : (if 0 ≤ (ji23) then (if (ji23) < (((rd_T100 l2 x29_1).f0).length : Int) then (if ((Op.bytesLess ((rdOf ByteArray.empty ((rd_T100 l2 x29_1).f0) (ji23)).toList) ((rdOf ByteArray.empty ((rd_T100 l2 x29_1).f0) x40_2).toList)) = true) then (perigeeref9_Together.l1 k2 l0 l1 l2 l2 (l2.length : Int) x29_1 ((rd_T100 l2 x29_1).f0) (((rd_T100 l2 x29_1).f0).length : Int) (wrap64 (x40_2 + 1)) ((rd_T100 l2 x29_1).f0) ((rd_T100 l2 x29_1).f1)) else (some (([] : List (S57)), 8))) else (none)) else (none)) = some (r1, r2) := by first | (rw [hji23] at H; exact H) | (simp only [hji23] at H ⊢; exact H)
                   (try rw [hji23] at A20)
                   have hji23w : (IntKind.i64.wrap (x40_2 - 1)) = ji23 := (i64_w _).trans hji23
                   replace H := guardT H; obtain ⟨c24, H⟩ := H
                   have c24b0 : decide (0 ≤ (ji23)) = true := decide_eq_true c24
                   clear c24
                   replace H := guardT H; obtain ⟨c25, H⟩ := H
                   have c25b0 : decide ((ji23) < (((rd_T100 l2 x29_1).f0).length : Int)) = true := decide_eq_true c25
                   clear c25
                   by_cases c26 : ((Op.bytesLess ((rdOf ByteArray.empty ((rd_T100 l2 x29_1).f0) (ji23)).toList) ((rdOf ByteArray.empty ((rd_T100 l2 x29_1).f0) x40_2).toList)) = true)
                   · rw [if_pos c26] at H
                     have c26b0 : (Op.bytesLess ((rdOf ByteArray.empty ((rd_T100 l2 x29_1).f0) (ji23)).toList) ((rdOf ByteArray.empty ((rd_T100 l2 x29_1).f0) x40_2).toList)) = true := c26
                     clear c26
                     have H' := Aside0.mk H
                     clear H
                     have p105 : 0 ≤ (x40_2 : Int) := of_decide_eq_true d37j
                     have q105 : x40_2 < (((rd_T100 l2 x29_1).f0).length : Int) := of_decide_eq_true d37j
                     obtain ⟨ad105, e105, hx105_0⟩ := Kd.at_string HR102_0.out x40_2 p105 q105
                     cases e105
                     replace hx105_0 := cellB HB.out hx105_0
                     replace p105 := eq_true p105
                     replace q105 := eq_true q105
                     go_wp2_with (first | ((with_reducible refine gate_callee (f := 60) rfl ?_); refine goesL_ (some 48) rfl rfl Try.func60 (by kernel_rfl) rfl #[.slice A0 l0.length c0, .string (rdOf ByteArray.empty ((rd_T100 l2 x29_1).f0) x40_2)] rfl d37e ?_; (with_reducible refine (perigeeref9_loadOf.calls k2 _ _ l0 (rdOf ByteArray.empty ((rd_T100 l2 x29_1).f0) x40_2) t106 t107 t108 true _ ?side1 ?side2 A20.out).mono ?_); (case side1 => exact d37m); (case side2 => exact HC0.out); rintro e w27 ⟨rfl, hb⟩; refine ⟨_, rfl, ?_⟩; have n0_ := Aside0.mk (blk_below (g := gb103) (o := .cells #[.slice (some ad105) ((rd_T100 l2 x29_1).f0).length c102_0, .int .i64 ((rd_T100 l2 x29_1).f1)] 100 (0, 0)) d37g hb); have n1_ := Aside0.mk (below_step d37b hb); clear BK103; clear HB; have BK103 := n0_; have HB := n1_; clear n0_ n1_; (try clear hb)) | ((with_reducible refine gate_dst (N := 13) rfl ?_); refine box_event ?hg (N := 13) ?hd (cs := #[.string (⟨#[]⟩ : ByteArray), .int .i64 0, .int .i64 0]) (t := 76) ?hr ?_; (case hd => rfl); (case hg => rfl); (case hr => exact d37l); intro gb110 hg w28 hbox hb; have n0_ := Aside0.mk (blk_below (g := gb103) (o := .cells #[.slice (some ad105) ((rd_T100 l2 x29_1).f0).length c102_0, .int .i64 ((rd_T100 l2 x29_1).f1)] 100 (0, 0)) d37g hb); have n1_ := Aside0.mk (below_step d37b hb); have n2_ := Aside0.mk (hbox); have n3_ := Aside0.mk ((by rw [hg]; exact (below_size d37b) : w.heap.size ≤ gb110)); have n4_ := Aside0.mk ((by rw [hg]; exact (below_size d37b) : w.heap.size ≤ gb110)); have n5_ := Aside0.mk ((by rw [hg]; exact Nat.ne_of_lt (blk_lt (g := gb103) (o := .cells #[.slice (some ad105) ((rd_T100 l2 x29_1).f0).length c102_0, .int .i64 ((rd_T100 l2 x29_1).f1)] 100 (0, 0)) d37g) : gb103 ≠ gb110)); have n6_ := Aside0.mk ((by rw [hg]; exact Nat.ne_of_gt (blk_lt (g := gb103) (o := .cells #[.slice (some ad105) ((rd_T100 l2 x29_1).f0).length c102_0, .int .i64 ((rd_T100 l2 x29_1).f1)] 100 (0, 0)) d37g) : gb110 ≠ gb103)); clear BK103; clear HB; have BK103 := n0_; have HB := n1_; have BK110 := n2_; have GW110 := n3_; have GE110 := n4_; have NB103_110 := n5_; have NB110_103 := n6_; clear n0_ n1_ n2_ n3_ n4_ n5_ n6_; clear hb hbox hg; have hnb29 := NB110_103.out; have hnc29 := NB103_110.out; have hcz30_0 : w28.cell? ⟨gb110, 0, none⟩ = some (.string (⟨#[]⟩ : ByteArray)) := (blk_cell BK110.out 0).trans rfl; have hcz30_1 : w28.cell? ⟨gb110, 1, none⟩ = some (.int .i64 0) := (blk_cell BK110.out 1).trans rfl; have hcz30_2 : w28.cell? ⟨gb110, 2, none⟩ = some (.int .i64 0) := (blk_cell BK110.out 2).trans rfl; have hfz30_0 := blk_frozen BK110.out 0; have hfz30_1 := blk_frozen BK110.out 1; have hfz30_2 := blk_frozen BK110.out 2; have hcz31_0 : w28.cell? ⟨gb103, 0, none⟩ = some (.slice (some ad105) ((rd_T100 l2 x29_1).f0).length c102_0) := (blk_cell BK103.out 0).trans rfl; have hcz31_1 : w28.cell? ⟨gb103, 1, none⟩ = some (.int .i64 ((rd_T100 l2 x29_1).f1)) := (blk_cell BK103.out 1).trans rfl; have hfz31_0 := blk_frozen BK103.out 0; have hfz31_1 := blk_frozen BK103.out 1; have p111 : 0 ≤ ((ji23) : Int) := of_decide_eq_true d37j; have q111 : (ji23) < (((rd_T100 l2 x29_1).f0).length : Int) := of_decide_eq_true d37j; obtain ⟨ad111, e111, hx111_0⟩ := Kd.at_string HR102_0.out (ji23) p111 q111; obtain rfl : ad105 = ad111 := (by injection e111); have hn111_0 : ad105.block ≠ gb110 := Nat.ne_of_lt (Nat.lt_of_lt_of_le d37i GW110.out); have hn111_1 : ad105.block ≠ gb110 := Nat.ne_of_lt (Nat.lt_of_lt_of_le d37i GW110.out); have hn111_2 : ad105.block ≠ gb110 := Nat.ne_of_lt (Nat.lt_of_lt_of_le d37i GW110.out); replace hx111_0 := cellB HB.out hx111_0; replace hx111_0 := (cell_far (p := ⟨gb110, 0, none⟩) (by first | (rw [add_block]; exact hn111_0) | (show (Addr.add _ _).block ≠ _; rw [add_block]; exact hn111_0) | exact hn111_0) (.string t106)).trans hx111_0; replace hx111_0 := (cell_far (p := ⟨gb110, 1, none⟩) (by first | (rw [add_block]; exact hn111_1) | (show (Addr.add _ _).block ≠ _; rw [add_block]; exact hn111_1) | exact hn111_1) (.int .i64 t107)).trans hx111_0; replace hx111_0 := (cell_far (p := ⟨gb110, 2, none⟩) (by first | (rw [add_block]; exact hn111_2) | (show (Addr.add _ _).block ≠ _; rw [add_block]; exact hn111_2) | exact hn111_2) (.int .i64 t108)).trans hx111_0; clear hn111_0; clear hn111_1; clear hn111_2; replace p111 := eq_true p111; replace q111 := eq_true q111))
                     go_roundg k2
                     case measure => have := HK1.out; have := HK2.out; omega
                     case rel => exact ⟨(wrap64 (x40_2 + 1)), d37k, H', ⟨by have := HK1.out; have := HK2.out; omega⟩, ⟨by (with_reducible repeat (first | refine blk_drewN ?_ _ | refine blk_drew ?_ | refine blk_alloc ?_ _)); refine blk_far ?_ NB103_110.out _; (with_reducible repeat (first | refine blk_drewN ?_ _ | refine blk_drew ?_ | refine blk_alloc ?_ _)); refine blk_far ?_ NB103_110.out _; (with_reducible repeat (first | refine blk_drewN ?_ _ | refine blk_drew ?_ | refine blk_alloc ?_ _)); refine blk_far ?_ NB103_110.out _; (with_reducible repeat (first | refine blk_drewN ?_ _ | refine blk_drew ?_ | refine blk_alloc ?_ _)); exact BK103.out⟩, ⟨d37a⟩⟩
                   · rw [if_neg c26] at H
                     have c26b0 : (Op.bytesLess ((rdOf ByteArray.empty ((rd_T100 l2 x29_1).f0) (ji23)).toList) ((rdOf ByteArray.empty ((rd_T100 l2 x29_1).f0) x40_2).toList)) = false := by simpa using c26
                     clear c26
                     simp only [Option.some.injEq, Prod.mk.injEq] at H
                     obtain ⟨rfl, rfl⟩ := H
                     have p105 : 0 ≤ (x40_2 : Int) := of_decide_eq_true d37j
                     have q105 : x40_2 < (((rd_T100 l2 x29_1).f0).length : Int) := of_decide_eq_true d37j
                     obtain ⟨ad105, e105, hx105_0⟩ := Kd.at_string HR102_0.out x40_2 p105 q105
                     cases e105
                     replace hx105_0 := cellB HB.out hx105_0
                     replace p105 := eq_true p105
                     replace q105 := eq_true q105
                     go_wp2_with (first | ((with_reducible refine gate_callee (f := 60) rfl ?_); refine goesL_ (some 48) rfl rfl Try.func60 (by kernel_rfl) rfl #[.slice A0 l0.length c0, .string (rdOf ByteArray.empty ((rd_T100 l2 x29_1).f0) x40_2)] rfl d37e ?_; (with_reducible refine (perigeeref9_loadOf.calls k2 _ _ l0 (rdOf ByteArray.empty ((rd_T100 l2 x29_1).f0) x40_2) t106 t107 t108 true _ ?side1 ?side2 A20.out).mono ?_); (case side1 => exact d37m); (case side2 => exact HC0.out); rintro e w32 ⟨rfl, hb⟩; refine ⟨_, rfl, ?_⟩; have n0_ := Aside0.mk (blk_below (g := gb103) (o := .cells #[.slice (some ad105) ((rd_T100 l2 x29_1).f0).length c102_0, .int .i64 ((rd_T100 l2 x29_1).f1)] 100 (0, 0)) d37g hb); have n1_ := Aside0.mk (below_step d37b hb); clear BK103; clear HB; have BK103 := n0_; have HB := n1_; clear n0_ n1_; (try clear hb)) | ((with_reducible refine gate_dst (N := 13) rfl ?_); refine box_event ?hg (N := 13) ?hd (cs := #[.string (⟨#[]⟩ : ByteArray), .int .i64 0, .int .i64 0]) (t := 76) ?hr ?_; (case hd => rfl); (case hg => rfl); (case hr => exact d37l); intro gb110 hg w33 hbox hb; have n0_ := Aside0.mk (blk_below (g := gb103) (o := .cells #[.slice (some ad105) ((rd_T100 l2 x29_1).f0).length c102_0, .int .i64 ((rd_T100 l2 x29_1).f1)] 100 (0, 0)) d37g hb); have n1_ := Aside0.mk (below_step d37b hb); have n2_ := Aside0.mk (hbox); have n3_ := Aside0.mk ((by rw [hg]; exact (below_size d37b) : w.heap.size ≤ gb110)); have n4_ := Aside0.mk ((by rw [hg]; exact (below_size d37b) : w.heap.size ≤ gb110)); have n5_ := Aside0.mk ((by rw [hg]; exact Nat.ne_of_lt (blk_lt (g := gb103) (o := .cells #[.slice (some ad105) ((rd_T100 l2 x29_1).f0).length c102_0, .int .i64 ((rd_T100 l2 x29_1).f1)] 100 (0, 0)) d37g) : gb103 ≠ gb110)); have n6_ := Aside0.mk ((by rw [hg]; exact Nat.ne_of_gt (blk_lt (g := gb103) (o := .cells #[.slice (some ad105) ((rd_T100 l2 x29_1).f0).length c102_0, .int .i64 ((rd_T100 l2 x29_1).f1)] 100 (0, 0)) d37g) : gb110 ≠ gb103)); clear BK103; clear HB; have BK103 := n0_; have HB := n1_; have BK110 := n2_; have GW110 := n3_; have GE110 := n4_; have NB103_110 := n5_; have NB110_103 := n6_; clear n0_ n1_ n2_ n3_ n4_ n5_ n6_; clear hb hbox hg; have hnb34 := NB110_103.out; have hnc34 := NB103_110.out; have hcz35_0 : w33.cell? ⟨gb110, 0, none⟩ = some (.string (⟨#[]⟩ : ByteArray)) := (blk_cell BK110.out 0).trans rfl; have hcz35_1 : w33.cell? ⟨gb110, 1, none⟩ = some (.int .i64 0) := (blk_cell BK110.out 1).trans rfl; have hcz35_2 : w33.cell? ⟨gb110, 2, none⟩ = some (.int .i64 0) := (blk_cell BK110.out 2).trans rfl; have hfz35_0 := blk_frozen BK110.out 0; have hfz35_1 := blk_frozen BK110.out 1; have hfz35_2 := blk_frozen BK110.out 2; have hcz36_0 : w33.cell? ⟨gb103, 0, none⟩ = some (.slice (some ad105) ((rd_T100 l2 x29_1).f0).length c102_0) := (blk_cell BK103.out 0).trans rfl; have hcz36_1 : w33.cell? ⟨gb103, 1, none⟩ = some (.int .i64 ((rd_T100 l2 x29_1).f1)) := (blk_cell BK103.out 1).trans rfl; have hfz36_0 := blk_frozen BK103.out 0; have hfz36_1 := blk_frozen BK103.out 1; have p111 : 0 ≤ ((ji23) : Int) := of_decide_eq_true d37j; have q111 : (ji23) < (((rd_T100 l2 x29_1).f0).length : Int) := of_decide_eq_true d37j; obtain ⟨ad111, e111, hx111_0⟩ := Kd.at_string HR102_0.out (ji23) p111 q111; obtain rfl : ad105 = ad111 := (by injection e111); have hn111_0 : ad105.block ≠ gb110 := Nat.ne_of_lt (Nat.lt_of_lt_of_le d37i GW110.out); have hn111_1 : ad105.block ≠ gb110 := Nat.ne_of_lt (Nat.lt_of_lt_of_le d37i GW110.out); have hn111_2 : ad105.block ≠ gb110 := Nat.ne_of_lt (Nat.lt_of_lt_of_le d37i GW110.out); replace hx111_0 := cellB HB.out hx111_0; replace hx111_0 := (cell_far (p := ⟨gb110, 0, none⟩) (by first | (rw [add_block]; exact hn111_0) | (show (Addr.add _ _).block ≠ _; rw [add_block]; exact hn111_0) | exact hn111_0) (.string t106)).trans hx111_0; replace hx111_0 := (cell_far (p := ⟨gb110, 1, none⟩) (by first | (rw [add_block]; exact hn111_1) | (show (Addr.add _ _).block ≠ _; rw [add_block]; exact hn111_1) | exact hn111_1) (.int .i64 t107)).trans hx111_0; replace hx111_0 := (cell_far (p := ⟨gb110, 2, none⟩) (by first | (rw [add_block]; exact hn111_2) | (show (Addr.add _ _).block ≠ _; rw [add_block]; exact hn111_2) | exact hn111_2) (.int .i64 t108)).trans hx111_0; clear hn111_0; clear hn111_1; clear hn111_2; replace p111 := eq_true p111; replace q111 := eq_true q111))
                     go_ret2
                     exact ⟨_, by first | rfl | (simp [errW_none, errW_some] <;> rfl) | (simp only [← hji23]; first | rfl | (simp [errW_none, errW_some] <;> rfl)) | (simp [*, errW_none, errW_some] <;> rfl), d37d, d37a⟩
                 · rw [if_neg c22] at H
                   have c22b0 : decide (0 < x40_2) = false := decide_eq_false c22
                   clear c22
                   have H' := Aside0.mk H
                   clear H
                   have p105 : 0 ≤ (x40_2 : Int) := of_decide_eq_true d37j
                   have q105 : x40_2 < (((rd_T100 l2 x29_1).f0).length : Int) := of_decide_eq_true d37j
                   obtain ⟨ad105, e105, hx105_0⟩ := Kd.at_string HR102_0.out x40_2 p105 q105
                   cases e105
                   replace hx105_0 := cellB HB.out hx105_0
                   replace p105 := eq_true p105
                   replace q105 := eq_true q105
                   go_wp2_with (first | ((with_reducible refine gate_callee (f := 60) rfl ?_); refine goesL_ (some 48) rfl rfl Try.func60 (by kernel_rfl) rfl #[.slice A0 l0.length c0, .string (rdOf ByteArray.empty ((rd_T100 l2 x29_1).f0) x40_2)] rfl d37e ?_; (with_reducible refine (perigeeref9_loadOf.calls k2 _ _ l0 (rdOf ByteArray.empty ((rd_T100 l2 x29_1).f0) x40_2) t106 t107 t108 true _ ?side1 ?side2 A20.out).mono ?_); (case side1 => exact d37m); (case side2 => exact HC0.out); rintro e w37 ⟨rfl, hb⟩; refine ⟨_, rfl, ?_⟩; have n0_ := Aside0.mk (blk_below (g := gb103) (o := .cells #[.slice (some ad105) ((rd_T100 l2 x29_1).f0).length c102_0, .int .i64 ((rd_T100 l2 x29_1).f1)] 100 (0, 0)) d37g hb); have n1_ := Aside0.mk (below_step d37b hb); clear BK103; clear HB; have BK103 := n0_; have HB := n1_; clear n0_ n1_; (try clear hb)) | ((with_reducible refine gate_dst (N := 13) rfl ?_); refine box_event ?hg (N := 13) ?hd (cs := #[.string (⟨#[]⟩ : ByteArray), .int .i64 0, .int .i64 0]) (t := 76) ?hr ?_; (case hd => rfl); (case hg => rfl); (case hr => exact d37l); intro gb110 hg w38 hbox hb; have n0_ := Aside0.mk (blk_below (g := gb103) (o := .cells #[.slice (some ad105) ((rd_T100 l2 x29_1).f0).length c102_0, .int .i64 ((rd_T100 l2 x29_1).f1)] 100 (0, 0)) d37g hb); have n1_ := Aside0.mk (below_step d37b hb); have n2_ := Aside0.mk (hbox); have n3_ := Aside0.mk ((by rw [hg]; exact (below_size d37b) : w.heap.size ≤ gb110)); have n4_ := Aside0.mk ((by rw [hg]; exact (below_size d37b) : w.heap.size ≤ gb110)); have n5_ := Aside0.mk ((by rw [hg]; exact Nat.ne_of_lt (blk_lt (g := gb103) (o := .cells #[.slice (some ad105) ((rd_T100 l2 x29_1).f0).length c102_0, .int .i64 ((rd_T100 l2 x29_1).f1)] 100 (0, 0)) d37g) : gb103 ≠ gb110)); have n6_ := Aside0.mk ((by rw [hg]; exact Nat.ne_of_gt (blk_lt (g := gb103) (o := .cells #[.slice (some ad105) ((rd_T100 l2 x29_1).f0).length c102_0, .int .i64 ((rd_T100 l2 x29_1).f1)] 100 (0, 0)) d37g) : gb110 ≠ gb103)); clear BK103; clear HB; have BK103 := n0_; have HB := n1_; have BK110 := n2_; have GW110 := n3_; have GE110 := n4_; have NB103_110 := n5_; have NB110_103 := n6_; clear n0_ n1_ n2_ n3_ n4_ n5_ n6_; clear hb hbox hg; have hnb39 := NB110_103.out; have hnc39 := NB103_110.out; have hcz40_0 : w38.cell? ⟨gb110, 0, none⟩ = some (.string (⟨#[]⟩ : ByteArray)) := (blk_cell BK110.out 0).trans rfl; have hcz40_1 : w38.cell? ⟨gb110, 1, none⟩ = some (.int .i64 0) := (blk_cell BK110.out 1).trans rfl; have hcz40_2 : w38.cell? ⟨gb110, 2, none⟩ = some (.int .i64 0) := (blk_cell BK110.out 2).trans rfl; have hfz40_0 := blk_frozen BK110.out 0; have hfz40_1 := blk_frozen BK110.out 1; have hfz40_2 := blk_frozen BK110.out 2))
                   go_roundg k2
                   case measure => have := HK1.out; have := HK2.out; omega
                   case rel => exact ⟨(wrap64 (x40_2 + 1)), d37k, H', ⟨by have := HK1.out; have := HK2.out; omega⟩, ⟨by (with_reducible repeat (first | refine blk_drewN ?_ _ | refine blk_drew ?_ | refine blk_alloc ?_ _)); refine blk_far ?_ NB103_110.out _; (with_reducible repeat (first | refine blk_drewN ?_ _ | refine blk_drew ?_ | refine blk_alloc ?_ _)); refine blk_far ?_ NB103_110.out _; (with_reducible repeat (first | refine blk_drewN ?_ _ | refine blk_drew ?_ | refine blk_alloc ?_ _)); refine blk_far ?_ NB103_110.out _; (with_reducible repeat (first | refine blk_drewN ?_ _ | refine blk_drew ?_ | refine blk_alloc ?_ _)); exact BK103.out⟩, ⟨d37a⟩⟩
               · replace c21 := Bool.eq_false_iff.mpr c21
                 subst c21
                 replace H := iteF H
                 simp only [Option.some.injEq, Prod.mk.injEq] at H
                 obtain ⟨rfl, rfl⟩ := H
                 have p105 : 0 ≤ (x40_2 : Int) := of_decide_eq_true d37j
                 have q105 : x40_2 < (((rd_T100 l2 x29_1).f0).length : Int) := of_decide_eq_true d37j
                 obtain ⟨ad105, e105, hx105_0⟩ := Kd.at_string HR102_0.out x40_2 p105 q105
                 cases e105
                 replace hx105_0 := cellB HB.out hx105_0
                 replace p105 := eq_true p105
                 replace q105 := eq_true q105
                 go_wp2_with (first | ((with_reducible refine gate_callee (f := 60) rfl ?_); refine goesL_ (some 48) rfl rfl Try.func60 (by kernel_rfl) rfl #[.slice A0 l0.length c0, .string (rdOf ByteArray.empty ((rd_T100 l2 x29_1).f0) x40_2)] rfl d37e ?_; (with_reducible refine (perigeeref9_loadOf.calls k2 _ _ l0 (rdOf ByteArray.empty ((rd_T100 l2 x29_1).f0) x40_2) t106 t107 t108 false _ ?side1 ?side2 A20.out).mono ?_); (case side1 => exact d37m); (case side2 => exact HC0.out); rintro e w41 ⟨rfl, hb⟩; refine ⟨_, rfl, ?_⟩; have n0_ := Aside0.mk (blk_below (g := gb103) (o := .cells #[.slice (some ad105) ((rd_T100 l2 x29_1).f0).length c102_0, .int .i64 ((rd_T100 l2 x29_1).f1)] 100 (0, 0)) d37g hb); have n1_ := Aside0.mk (below_step d37b hb); clear BK103; clear HB; have BK103 := n0_; have HB := n1_; clear n0_ n1_; (try clear hb)) | ((with_reducible refine gate_dst (N := 13) rfl ?_); refine box_event ?hg (N := 13) ?hd (cs := #[.string (⟨#[]⟩ : ByteArray), .int .i64 0, .int .i64 0]) (t := 76) ?hr ?_; (case hd => rfl); (case hg => rfl); (case hr => exact d37l); intro gb110 hg w42 hbox hb; have n0_ := Aside0.mk (blk_below (g := gb103) (o := .cells #[.slice (some ad105) ((rd_T100 l2 x29_1).f0).length c102_0, .int .i64 ((rd_T100 l2 x29_1).f1)] 100 (0, 0)) d37g hb); have n1_ := Aside0.mk (below_step d37b hb); have n2_ := Aside0.mk (hbox); have n3_ := Aside0.mk ((by rw [hg]; exact (below_size d37b) : w.heap.size ≤ gb110)); have n4_ := Aside0.mk ((by rw [hg]; exact (below_size d37b) : w.heap.size ≤ gb110)); have n5_ := Aside0.mk ((by rw [hg]; exact Nat.ne_of_lt (blk_lt (g := gb103) (o := .cells #[.slice (some ad105) ((rd_T100 l2 x29_1).f0).length c102_0, .int .i64 ((rd_T100 l2 x29_1).f1)] 100 (0, 0)) d37g) : gb103 ≠ gb110)); have n6_ := Aside0.mk ((by rw [hg]; exact Nat.ne_of_gt (blk_lt (g := gb103) (o := .cells #[.slice (some ad105) ((rd_T100 l2 x29_1).f0).length c102_0, .int .i64 ((rd_T100 l2 x29_1).f1)] 100 (0, 0)) d37g) : gb110 ≠ gb103)); clear BK103; clear HB; have BK103 := n0_; have HB := n1_; have BK110 := n2_; have GW110 := n3_; have GE110 := n4_; have NB103_110 := n5_; have NB110_103 := n6_; clear n0_ n1_ n2_ n3_ n4_ n5_ n6_; clear hb hbox hg; have hnb43 := NB110_103.out; have hnc43 := NB103_110.out; have hcz44_0 : w42.cell? ⟨gb110, 0, none⟩ = some (.string (⟨#[]⟩ : ByteArray)) := (blk_cell BK110.out 0).trans rfl; have hcz44_1 : w42.cell? ⟨gb110, 1, none⟩ = some (.int .i64 0) := (blk_cell BK110.out 1).trans rfl; have hcz44_2 : w42.cell? ⟨gb110, 2, none⟩ = some (.int .i64 0) := (blk_cell BK110.out 2).trans rfl; have hfz44_0 := blk_frozen BK110.out 0; have hfz44_1 := blk_frozen BK110.out 1; have hfz44_2 := blk_frozen BK110.out 2))
                 go_ret2
                 exact ⟨_, d37h, d37d, d37a⟩
             · rw [if_neg c17] at H
               have c17b0 : decide (x40_2 < (((rd_T100 l2 x29_1).f0).length : Int)) = false := decide_eq_false c17
               clear c17
               replace H := bindS H; obtain ⟨t104, A45, H⟩ := H
               by_cases c46 : t104 = true
               · subst c46
                 replace H := iteT H
                 have H' := Aside0.mk H
                 clear H
                 obtain ⟨hcz47_0, hcz47_1⟩ := blkC2 BK103.out
                 have hfz47_0 := blk_frozen BK103.out 0
                 have hfz47_1 := blk_frozen BK103.out 1
                 go_wp2_with ((with_reducible refine gate_callee (f := 54) rfl ?_); refine goesL_ (some 68) rfl rfl Try.func54 (by kernel_rfl) rfl #[.int .i64 ((rd_T100 l2 x29_1).f1), .int .i64 0, .int .i64 50] rfl d37e ?_; (with_reducible refine (perigeeref9_within.calls ((rd_T100 l2 x29_1).f1) 0 50 true _ A45.out).mono ?_); rintro e w' ⟨rfl, ⟨nd, rfl⟩⟩; refine ⟨_, rfl, ?_⟩)
                 go_roundg k2
                 case measure => have := HK1.out; have := HK2.out; omega
                 case rel => exact ⟨(wrap64 (x29_1 + 1)), d37k, H', ⟨by have := HK1.out; have := HK2.out; omega⟩, ⟨d37b⟩⟩
               · replace c46 := Bool.eq_false_iff.mpr c46
                 subst c46
                 replace H := iteF H
                 simp only [Option.some.injEq, Prod.mk.injEq] at H
                 obtain ⟨rfl, rfl⟩ := H
                 obtain ⟨hcz48_0, hcz48_1⟩ := blkC2 BK103.out
                 have hfz48_0 := blk_frozen BK103.out 0
                 have hfz48_1 := blk_frozen BK103.out 1
                 go_wp2_with ((with_reducible refine gate_callee (f := 54) rfl ?_); refine goesL_ (some 68) rfl rfl Try.func54 (by kernel_rfl) rfl #[.int .i64 ((rd_T100 l2 x29_1).f1), .int .i64 0, .int .i64 50] rfl d37e ?_; (with_reducible refine (perigeeref9_within.calls ((rd_T100 l2 x29_1).f1) 0 50 false _ A45.out).mono ?_); rintro e w' ⟨rfl, ⟨nd, rfl⟩⟩; refine ⟨_, rfl, ?_⟩)
                 go_ret2
                 exact ⟨_, d37h, d37d, d37b⟩
       · rw [if_neg c9] at H
         have c9b0 : decide (x29_1 < (l2.length : Int)) = false := decide_eq_false c9
         clear c9
         have H' := Aside0.mk H
         clear H
         go_wp2
         go_loopg [15, 73] k1 (fun kq v15 v73 w' => ∃ (x15_2 : List (S57)) (x73_2 : Int), v73 = .int .i64 x73_2 ∧ Aside0 (perigeeref9_Together.l2 kq l1 x15_2 l2 (l2.length : Int) x73_2 = some (r1, r2)) ∧ Aside0 (kq ≤ k1) ∧ Aside0 (Kd.R k57 57 w' w.heap.size (fun _ => True) v15 x15_2) ∧ Aside0 (Below w.heap.size w w'))
         case atStart => exact ⟨(([] : List (S57))), (0), d37k, H', ⟨Nat.le_refl _⟩, ⟨d37d⟩, ⟨d37f⟩⟩
         case round =>
          clear H'
          try clear c9b0
          obtain ⟨x15_2, x73_2, rfl, HA, HK2, HO_15, HB⟩ := hrel
          cases gk with
          | zero => exact absurd HA.out (by simp [perigeeref9_Together.l2])
          | succ k2 =>
           have H := HA.out
           clear HA
           simp only [perigeeref9_Together.l2] at H
           by_cases c49 : x73_2 < (l2.length : Int)
           · rw [if_pos c49] at H
             have c49b0 : decide (x73_2 < (l2.length : Int)) = true := decide_eq_true c49
             clear c49
             replace H := guardT H; obtain ⟨c50, H⟩ := H
             have c50b0 : decide (0 ≤ x73_2) = true := decide_eq_true c50
             clear c50
             replace H := guardT H; obtain ⟨c51, H⟩ := H
             have c51b0 : decide (x73_2 < (l2.length : Int)) = true := decide_eq_true c51
             clear c51
             replace H := bindS H; obtain ⟨t114, A52, H⟩ := H
             replace H := guardT H; obtain ⟨c53, H⟩ := H
             have LMc53 := Aside0.mk c53
             clear c53
             obtain ⟨y117, hy117⟩ : ∃ y_ : List (S57), y_ = (x15_2 ++ t114) := ⟨_, rfl⟩
             replace H : (perigeeref9_Together.l2 k2 l1 y117 l2 (l2.length : Int) (wrap64 (x73_2 + 1))) = some (r1, r2) := by first | (rw [hy117]; with_reducible exact H) | (have H2_ := (Option.bind_some _ _).symm.trans H; rw [hy117]; with_reducible exact H2_) | (have H2_ := (Option.bind_some _ _).symm.trans H; with_reducible exact H2_) | with_reducible exact H | (rw [hy117]; exact H) | exact H
             have Ny117 := Aside0.mk hy117
             clear hy117
             have H' := Aside0.mk H
             clear H
             have p112 : 0 ≤ (x73_2 : Int) := of_decide_eq_true d37j
             have q112 : x73_2 < (l2.length : Int) := of_decide_eq_true d37j
             obtain ⟨ad112, A112_0, c112_0, e112, hx112_0, hx112_1, hl112_0, hi112_0⟩ := at_T100 HR2.out x73_2 p112 q112
             cases e112
             replace hx112_0 := cellB HB.out hx112_0
             replace hx112_1 := cellB HB.out hx112_1
             have HR112_0 := Aside0.mk hi112_0
             have HC112_0 := Aside0.mk hl112_0
             clear hi112_0 hl112_0
             replace p112 := eq_true p112
             replace q112 := eq_true q112
             go_wp2_with (first | ((with_reducible refine gate_dst (N := 17) rfl ?_); refine box_event ?hg (N := 17) ?hd (cs := #[.slice none 0 0, .int .i64 0]) (t := 100) ?hr ?_; (case hd => rfl); (case hg => rfl); (case hr => exact d37l); intro gb113 hg w54 hbox hb; have n0_ := Aside0.mk (Kd.R_below (by (with_reducible repeat (first | apply Kd.R_alloc | apply Kd.R_drewN | apply Kd.R_drew)); exact HO_15.out) hb); have n1_ := Aside0.mk (below_step d37f hb); have n2_ := Aside0.mk (hbox); have n3_ := Aside0.mk ((by rw [hg]; exact (below_size d37f) : w.heap.size ≤ gb113)); have n4_ := Aside0.mk ((by rw [hg]; exact (below_size d37f) : w.heap.size ≤ gb113)); clear HO_15; clear HB; have HO_15 := n0_; have HB := n1_; have BK113 := n2_; have GW113 := n3_; have GE113 := n4_; clear n0_ n1_ n2_ n3_ n4_; clear hb hbox hg; have hcz55_0 : w54.cell? ⟨gb113, 0, none⟩ = some (.slice none 0 0) := (blk_cell BK113.out 0).trans rfl; have hcz55_1 : w54.cell? ⟨gb113, 1, none⟩ = some (.int .i64 0) := (blk_cell BK113.out 1).trans rfl; have hfz55_0 := blk_frozen BK113.out 0; have hfz55_1 := blk_frozen BK113.out 1) | ((with_reducible refine gate_callee (f := 76) rfl ?_); refine goesL_ (some 82) rfl rfl Try.func76 (by kernel_rfl) rfl #[.slice A1 l1.length c1, .int .i64 x73_2, .agg #[.slice A112_0 ((rd_T100 l2 x73_2).f0).length c112_0, .int .i64 ((rd_T100 l2 x73_2).f1)]] rfl d37e ?_; (with_reducible refine (perigeeref9_broken.calls k2 _ _ l1 x73_2 _ _ ((rd_T100 l2 x73_2).f0) ((rd_T100 l2 x73_2).f1) t114 _ ?side1 ?side2 ?side3 ?side4 A52.out).mono ?_); (case side1 => exact Kd.C_below HR1.out d37c); (case side2 => exact HC1.out); (case side3 => exact Kd.C_below HR112_0.out d37c); (case side4 => exact HC112_0.out); rintro e w56 ⟨v115, rfl, ho0, hb⟩; refine ⟨_, rfl, ?_⟩; have n0_ := Aside0.mk (Kd.R_elder' (by (with_reducible repeat (first | apply Kd.R_alloc | apply Kd.R_drewN | apply Kd.R_drew)); exact (Kd.R_mono (Kd.R_far (p := ⟨gb113, 1, none⟩) (Kd.R_far (p := ⟨gb113, 0, none⟩) (Kd.R_types HO_15.out BK113.out (by decide)) (fun _ hk => hk.2) (.slice A112_0 ((rd_T100 l2 x73_2).f0).length c112_0)) (fun _ hk => hk.2) (.int .i64 ((rd_T100 l2 x73_2).f1))) (fun _ h_ => h_.1))) (Kd.R_base ho0) hb); have n1_ := Aside0.mk (Kd.R_lower (Kd.R_new' ho0 (Kd.R_lt (by (with_reducible repeat (first | apply Kd.R_alloc | apply Kd.R_drewN | apply Kd.R_drew)); exact (Kd.R_mono (Kd.R_far (p := ⟨gb113, 1, none⟩) (Kd.R_far (p := ⟨gb113, 0, none⟩) (Kd.R_types HO_15.out BK113.out (by decide)) (fun _ hk => hk.2) (.slice A112_0 ((rd_T100 l2 x73_2).f0).length c112_0)) (fun _ hk => hk.2) (.int .i64 ((rd_T100 l2 x73_2).f1))) (fun _ h_ => h_.1))))) (below_size d37c)); have n2_ := Aside0.mk (blk_below (g := gb113) (o := .cells #[.slice A112_0 ((rd_T100 l2 x73_2).f0).length c112_0, .int .i64 ((rd_T100 l2 x73_2).f1)] 100 (0, 0)) (by (with_reducible repeat (first | refine blk_drewN ?_ _ | refine blk_drew ?_ | refine blk_alloc ?_ _)); refine blk_put (cs := #[.slice A112_0 ((rd_T100 l2 x73_2).f0).length c112_0, .int .i64 0]) ?_ 1 _ rfl; (with_reducible repeat (first | refine blk_drewN ?_ _ | refine blk_drew ?_ | refine blk_alloc ?_ _)); refine blk_put (cs := #[.slice none 0 0, .int .i64 0]) ?_ 0 _ rfl; (with_reducible repeat (first | refine blk_drewN ?_ _ | refine blk_drew ?_ | refine blk_alloc ?_ _)); exact BK113.out) hb); have n3_ := Aside0.mk (below_step d37c hb); clear HO_15; clear BK113; clear HB; have HO_15 := n0_; have HO116 := n1_; have BK113 := n2_; have HB := n3_; clear n0_ n1_ n2_ n3_; (try clear hb); (try clear ho0); obtain ⟨Ao58, co58, eo58⟩ := Kd.R_slice HO116.out; subst eo58) | ((with_reducible refine gate_builtin (b := .append) (xs := #[.tmp 78, .tmp 82]) rfl ?_); at_builtin; refine Kd.R_append_rows k57 (w0 := w) w.heap.size rfl (.tmp 78) (.tmp 82) 52 57 (.agg #[(.int .i64 0), (.int .i64 0), (.int .i64 0)]) 24 rfl Try.underlying52 info57 rfl (by decide) (by omega) u15 x15_2 t114 _ _ _ (fun k_ => some k_ ≠ (.slice Ao58 t114.length co58 : Value).ownBlock) (fun _ => False) rfl rfl ?aO ?aR (fun _ _ h => h) (fun _ h => h.elim) ?aF ?aB ?aS ?aL ?_; (case aR => exact C_go (Kd.R_reads' HO116.out).2.2); (case aB => exact d37c); (case aF => exact (fun k_ hk => Kd.fresh' (Kd.R_lt (by (with_reducible repeat (first | apply Kd.R_alloc | apply Kd.R_drewN | apply Kd.R_drew)); exact HO116.out)) k_ hk)); (case aO => exact (by (with_reducible repeat (first | apply Kd.R_alloc | apply Kd.R_drewN | apply Kd.R_drew)); exact Kd.R_mono HO_15.out (fun _ hk => hk.2))); (case aS => exact (below_size d37c)); (case aL => have := LMc53.out; omega); intro v118 w57 ho hb hg hat; rw [← Ny117.out] at ho; have n0_ := Aside0.mk (blk_grown (g := gb113) (o := .cells #[.slice A112_0 ((rd_T100 l2 x73_2).f0).length c112_0, .int .i64 ((rd_T100 l2 x73_2).f1)] 100 (0, 0)) (by (with_reducible repeat (first | refine blk_drewN ?_ _ | refine blk_drew ?_ | refine blk_alloc ?_ _)); exact BK113.out) hg (Kd.R_ne HO_15.out BK113.out (by decide))); have n1_ := Aside0.mk (Kd.R_after (ok := (fun _ => True)) (by (with_reducible repeat (first | apply Kd.R_alloc | apply Kd.R_drewN | apply Kd.R_drew)); exact HO116.out) hg hat); have n2_ := Aside0.mk (hb); have n3_ := Aside0.mk (ho); clear BK113; clear HO116; clear HB; clear HO_15; have BK113 := n0_; have HO116 := n1_; have HB := n2_; have HO119 := n3_; clear n0_ n1_ n2_ n3_; clear ho hb hg hat))
             go_roundg k2
             case measure => have := HK1.out; have := HK2.out; omega
             case rel => exact ⟨(y117), (wrap64 (x73_2 + 1)), d37k, H', ⟨by have := HK1.out; have := HK2.out; omega⟩, ⟨by (with_reducible repeat (first | apply Kd.R_alloc | apply Kd.R_drewN | apply Kd.R_drew)); exact Kd.R_mono HO119.out (fun _ hk => trivial)⟩, ⟨d37c⟩⟩
           · rw [if_neg c49] at H
             have c49b0 : decide (x73_2 < (l2.length : Int)) = false := decide_eq_false c49
             clear c49
             simp only [Option.some.injEq, Prod.mk.injEq] at H
             obtain ⟨rfl, rfl⟩ := H
             go_wp2
             go_ret2
             exact ⟨_, d37h, by (with_reducible repeat (first | apply Kd.R_alloc | apply Kd.R_drewN | apply Kd.R_drew)); exact HO_15.out, d37f⟩
 · rw [if_neg c5] at H
   have c5b0 : (t101 == 0) = false := beq_eq_false_iff_ne.mpr c5
   have c5b1 : (t101 != 0) = true := bne_iff_ne.mpr c5
   simp only [Option.some.injEq, Prod.mk.injEq] at H
   obtain ⟨rfl, rfl⟩ := H
   go_enter Try.func37, Try.ntmps37
   go_wp2_with ((with_reducible refine gate_callee (f := 22) rfl ?_); refine goesL_ (some 20) rfl rfl Try.func22 (by kernel_rfl) rfl #[.slice A0 l0.length c0, .slice A1 l1.length c1] rfl d37e ?_; (with_reducible refine (perigeeref9_CheckUses.calls k _ _ l0 _ _ l1 t101 _ ?side1 ?side2 ?side3 ?side4 A4.out).mono ?_); (case side1 => exact C_go HR0.out); (case side2 => exact HC0.out); (case side3 => exact C_go HR1.out); (case side4 => exact HC1.out); rintro e w59 ⟨rfl, hb⟩; refine ⟨_, rfl, ?_⟩; replace HB := Aside0.mk (below_step d37f hb); (try clear hb))
   go_ret2
   exact ⟨_, d37h, d37d, d37f⟩
def api_Bad.l0 : Nat → List (S57) → List (S57) → Int → Int → Option (Bool)
  | 0, _, _, _, _ => none
  | k + 1, x0, x1, x12, x13 => if x13 < x12 then (if 0 ≤ x13 then (if x13 < (x0.length : Int) then (if x13 < (x1.length : Int) then (if (!(((rd_T57 x0 x13).f0) == ((rd_T57 x1 x13).f0)) || (!(((rd_T57 x0 x13).f1) == ((rd_T57 x1 x13).f1)) || (!(((rd_T57 x0 x13).f2) == ((rd_T57 x1 x13).f2))))) = true then (some false) else (api_Bad.l0 k x0 x1 x12 (wrap64 (x13 + 1)))) else (none)) else (none)) else (none)) else (some true)
def api_Bad.f (k : Nat) (l0 : List (S57)) (l1 : List (S57)) : Option (Bool) := if (l0.length : Int) = (l1.length : Int) then (api_Bad.l0 k l0 l1 (l0.length : Int) 0) else (some false)
theorem d38a {p : Prop} (h : p := by repeat (first | exact Drawn0.refl _ | apply Drawn0.step)) : p := h
theorem d38b {p : Prop} (h : p := by first | (with_reducible assumption) | assumption) : p := h
theorem d38c {p : Prop} (h : p := by first | rfl | (simp; done) | (simp [*]; done)) : p := h
set_option maxHeartbeats 8000000 in
set_option maxRecDepth 100000 in
theorem api_Bad.calls (k : Nat) (A0 : Option Addr) (c0 : Nat) (l0 : List (S57)) (A1 : Option Addr) (c1 : Nat) (l1 : List (S57)) (r : Bool) (w : World) (hr0 : Kd.C k57 w A0 l0.length l0) (hc0 : l0.length ≤ c0) (hr1 : Kd.C k57 w A1 l1.length l1) (hc1 : l1.length ≤ c1) (h : api_Bad.f k l0 l1 = some r) :
 Calls Try.prog 38 #[.slice A0 l0.length c0, .slice A1 l1.length c1] w fun e w' => e = .returned (.bool r) ∧ Drawn0 w w' := by
 have hu57 := Try.underlying57
 have HR0 := Aside0.mk hr0
 have HC0 := Aside0.mk hc0
 clear hr0 hc0
 have HR1 := Aside0.mk hr1
 have HC1 := Aside0.mk hc1
 clear hr1 hc1
 have H : (if (l0.length : Int) = (l1.length : Int) then (api_Bad.l0 k l0 l1 (l0.length : Int) 0) else (some false)) = some r := h
 clear h
 by_cases c3 : (l0.length : Int) = (l1.length : Int)
 · rw [if_pos c3] at H
   have c3b0 : ((l0.length : Int) == (l1.length : Int)) = true := beq_iff_eq.mpr c3
   have c3b1 : ((l0.length : Int) != (l1.length : Int)) = false := bne_eq_false_iff_eq.mpr c3
   have c3b2 : (l0.length == l1.length) = true := by first | simpa using c3 | (simp at c3 ⊢; omega)
   clear c3
   have H' := Aside0.mk H
   clear H
   go_enter Try.func38, Try.ntmps38
   go_wp2
   go_loopg [13] k (fun kq v13 w' => ∃ (x13_1 : Int), v13 = .int .i64 x13_1 ∧ Aside0 (api_Bad.l0 kq l0 l1 (l0.length : Int) x13_1 = some r) ∧ Aside0 (kq ≤ k) ∧ Drawn0 w w')
   case atStart => exact ⟨(0), d38c, H', ⟨Nat.le_refl _⟩, d38a⟩
   case round =>
    clear H'
    try clear c3b0
    try clear c3b1
    try clear c3b2
    obtain ⟨x13_1, rfl, HA, HK1, ⟨m1, rfl⟩⟩ := hrel
    cases gk with
    | zero => exact absurd HA.out (by simp [api_Bad.l0])
    | succ k1 =>
     have H := HA.out
     clear HA
     simp only [api_Bad.l0] at H
     by_cases c4 : x13_1 < (l0.length : Int)
     · rw [if_pos c4] at H
       have c4b0 : decide (x13_1 < (l0.length : Int)) = true := decide_eq_true c4
       clear c4
       replace H := guardT H; obtain ⟨c5, H⟩ := H
       have c5b0 : decide (0 ≤ x13_1) = true := decide_eq_true c5
       clear c5
       replace H := guardT H; obtain ⟨c6, H⟩ := H
       have c6b0 : decide (x13_1 < (l0.length : Int)) = true := decide_eq_true c6
       clear c6
       replace H := guardT H; obtain ⟨c7, H⟩ := H
       have c7b0 : decide (x13_1 < (l1.length : Int)) = true := decide_eq_true c7
       clear c7
       by_cases c8 : (!(((rd_T57 l0 x13_1).f0) == ((rd_T57 l1 x13_1).f0)) || (!(((rd_T57 l0 x13_1).f1) == ((rd_T57 l1 x13_1).f1)) || (!(((rd_T57 l0 x13_1).f2) == ((rd_T57 l1 x13_1).f2))))) = true
       · rw [if_pos c8] at H
         have c8b0 : (!(((rd_T57 l0 x13_1).f0) == ((rd_T57 l1 x13_1).f0)) || (!(((rd_T57 l0 x13_1).f1) == ((rd_T57 l1 x13_1).f1)) || (!(((rd_T57 l0 x13_1).f2) == ((rd_T57 l1 x13_1).f2))))) = true := c8
         clear c8
         obtain rfl := Option.some.inj H
         have p101 : 0 ≤ (x13_1 : Int) := of_decide_eq_true d38b
         have q101 : x13_1 < (l0.length : Int) := of_decide_eq_true d38b
         obtain ⟨ad101, e101, hx101_0, hx101_1, hx101_2⟩ := at_T57 HR0.out x13_1 p101 q101
         cases e101
         replace p101 := eq_true p101
         replace q101 := eq_true q101
         have p102 : 0 ≤ (x13_1 : Int) := of_decide_eq_true d38b
         have q102 : x13_1 < (l1.length : Int) := of_decide_eq_true d38b
         obtain ⟨ad102, e102, hx102_0, hx102_1, hx102_2⟩ := at_T57 HR1.out x13_1 p102 q102
         cases e102
         replace p102 := eq_true p102
         replace q102 := eq_true q102
         go_wp2
         repeat (go_quiet (fail); try go_wp2)
         go_ret
         exact ⟨d38c, d38a⟩
       · rw [if_neg c8] at H
         have c8b0 : (!(((rd_T57 l0 x13_1).f0) == ((rd_T57 l1 x13_1).f0)) || (!(((rd_T57 l0 x13_1).f1) == ((rd_T57 l1 x13_1).f1)) || (!(((rd_T57 l0 x13_1).f2) == ((rd_T57 l1 x13_1).f2))))) = false := by simpa using c8
         clear c8
         have H' := Aside0.mk H
         clear H
         have p101 : 0 ≤ (x13_1 : Int) := of_decide_eq_true d38b
         have q101 : x13_1 < (l0.length : Int) := of_decide_eq_true d38b
         obtain ⟨ad101, e101, hx101_0, hx101_1, hx101_2⟩ := at_T57 HR0.out x13_1 p101 q101
         cases e101
         replace p101 := eq_true p101
         replace q101 := eq_true q101
         have p102 : 0 ≤ (x13_1 : Int) := of_decide_eq_true d38b
         have q102 : x13_1 < (l1.length : Int) := of_decide_eq_true d38b
         obtain ⟨ad102, e102, hx102_0, hx102_1, hx102_2⟩ := at_T57 HR1.out x13_1 p102 q102
         cases e102
         replace p102 := eq_true p102
         replace q102 := eq_true q102
         go_wp2
         repeat (go_quiet (fail); try go_wp2)
         go_roundg k1
         case measure => have := HK1.out; omega
         case rel => exact ⟨(wrap64 (x13_1 + 1)), d38c, H', ⟨by have := HK1.out; omega⟩, d38a⟩
     · rw [if_neg c4] at H
       have c4b0 : decide (x13_1 < (l0.length : Int)) = false := decide_eq_false c4
       clear c4
       obtain rfl := Option.some.inj H
       go_wp2
       go_ret
       exact ⟨d38c, d38a⟩
 · rw [if_neg c3] at H
   have c3b0 : ((l0.length : Int) == (l1.length : Int)) = false := beq_eq_false_iff_ne.mpr c3
   have c3b1 : ((l0.length : Int) != (l1.length : Int)) = true := bne_iff_ne.mpr c3
   have c3b2 : (l0.length == l1.length) = false := by first | simpa using c3 | (simp at c3 ⊢; omega)
   obtain rfl := Option.some.inj H
   go_enter Try.func38, Try.ntmps38
   go_wp2
   go_ret
   exact ⟨d38c, d38a⟩
end Go.Proofs.Ytplcdpiggpkppaa.Q
