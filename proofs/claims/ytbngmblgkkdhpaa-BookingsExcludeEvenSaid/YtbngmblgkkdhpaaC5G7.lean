-- Made by wip/tools/claimp.py of this session's texts; Lean checks it.
import Derived.Test.YtbngmblgkkdhpaaC5Q0
import Derived.Test.YtbngmblgkkdhpaaC5G1
import Derived.Test.YtbngmblgkkdhpaaC5G2
import Derived.Test.YtbngmblgkkdhpaaC5G6
namespace Go.Proofs.Ytbngmblgkkdhpaa.Q
open Go.RowKit Go.Proofs.YtbngmblgkkdhpaaW.PrintWords Go.Proofs.YtbngmblgkkdhpaaW.PrintLast Go.Proofs.YtbngmblgkkdhpaaW.PrintMore
attribute [local go_sem] max2_int min2_int max_two min_two max_three min_three max_four min_four
open Go.Proofs.Ytbngmblgkkdhpaa.Base
attribute [local go_sem high] str_leq str_gtr str_geq
set_option linter.unusedVariables false
set_option linter.unusedSimpArgs false
mutual
def contact_Exclude.l0 : Nat → List (S33) → Int → List (List Int) → List (S33) → Int → Int → Option ((List (List Int)) × Int)
  | 0, _, _, _, _, _, _ => none
  | k + 1, x0, x1, x7, x22, x23, x24 => if x24 < x23 then (if 0 ≤ x24 then (if x24 < (x22.length : Int) then (contact_Exclude.l1 k x0 x1 x7 x24 ([] : List Int) x22 x23 x24 x0 (x0.length : Int) 0 ((rd_T33 x22 x24).f0) ((rd_T33 x22 x24).f1) ((rd_T33 x22 x24).f2) ((rd_T33 x22 x24).f3)) else (none)) else (none)) else (some (x7, 0))
def contact_Exclude.l1 : Nat → List (S33) → Int → List (List Int) → Int → List Int → List (S33) → Int → Int → List (S33) → Int → Int → ByteArray → Int → Int → List (S75) → Option ((List (List Int)) × Int)
  | 0, _, _, _, _, _, _, _, _, _, _, _, _, _, _, _ => none
  | k + 1, x0, x1, x7, x8, x10, x22, x23, x24, x29, x30, x31, x109000, x109001, x109002, x109003 => if x31 < x30 then (if 0 ≤ x31 then (if x31 < (x29.length : Int) then (if x31 = x8 then (contact_Exclude.l1 k x0 x1 x7 x8 x10 x22 x23 x24 x29 x30 (wrap64 (x31 + 1)) x109000 x109001 x109002 x109003) else ((contact_exclude.f x109000 x109001 x109002 x109003 ((rd_T33 x29 x31).f0) ((rd_T33 x29 x31).f1) ((rd_T33 x29 x31).f2) ((rd_T33 x29 x31).f3) x1).bind fun t111 => (if t111 = true then (if x10.length < 17592186044416 then (contact_Exclude.l1 k x0 x1 x7 x8 (x10 ++ [x31]) x22 x23 x24 x29 x30 (wrap64 (x31 + 1)) x109000 x109001 x109002 x109003) else (none)) else (contact_Exclude.l1 k x0 x1 x7 x8 x10 x22 x23 x24 x29 x30 (wrap64 (x31 + 1)) x109000 x109001 x109002 x109003)))) else (none)) else (none)) else (if x7.length < 5864062014805 then (contact_Exclude.l0 k x0 x1 (x7 ++ [x10]) x22 x23 (wrap64 (x24 + 1))) else (none))
end
def contact_Exclude.f (k : Nat) (l0 : List (S33)) (a1 : Int) : Option ((List (List Int)) × Int) := (contact_CheckPasses.f k l0).bind fun t101 => ((kit_Range.f a1 0 10000000).bind fun t102 => ((kit_First.f k (([t101, t102] : List Int))).bind fun t106 => (if t106 = 0 then (contact_Exclude.l0 k l0 a1 ([] : List (List Int)) l0 (l0.length : Int) 0) else (some (([] : List (List Int)), t106)))))
theorem d20a {p : Prop} (h : p := by (with_reducible repeat (first | refine blk_drewN ?_ _ | refine blk_drew ?_ | refine blk_alloc ?_ _)); refine blk_far ?_ NB108_110.out _; (with_reducible repeat (first | refine blk_drewN ?_ _ | refine blk_drew ?_ | refine blk_alloc ?_ _)); refine blk_far ?_ NB108_110.out _; (with_reducible repeat (first | refine blk_drewN ?_ _ | refine blk_drew ?_ | refine blk_alloc ?_ _)); refine blk_far ?_ NB108_110.out _; (with_reducible repeat (first | refine blk_drewN ?_ _ | refine blk_drew ?_ | refine blk_alloc ?_ _)); refine blk_far ?_ NB108_110.out _; (with_reducible repeat (first | refine blk_drewN ?_ _ | refine blk_drew ?_ | refine blk_alloc ?_ _)); exact BK108.out) : p := h
theorem d20b {p : Prop} (h : p := by repeat (first | (with_reducible first | exact HB.out | apply below_alloc | apply pw_below_drewN | apply below_drew1 | refine below_set ?_ GE108.out | refine below_set ?_ GE110.out) | exact HB.out)) : p := h
theorem d20c {p : Prop} (h : p := by repeat (first | (with_reducible first | exact HB.out | apply below_alloc | apply pw_below_drewN | apply below_drew1 | refine below_set ?_ GE108.out) | exact HB.out)) : p := h
theorem d20d {p : Prop} (h : p := by (try simp only [List.map_toArray, List.map_cons, List.map_nil]); first | done | rfl | (simp only [List.length_drop, List.length_take]; rfl)) : p := h
theorem d20e {p : Prop} (h : p := by repeat (first | (with_reducible first | exact HB.out | apply below_alloc | apply pw_below_drewN | apply below_drew1) | exact HB.out)) : p := h
theorem d20f {p : Prop} (h : p := by (with_reducible repeat (first | refine blk_drewN ?_ _ | refine blk_drew ?_ | refine blk_alloc ?_ _)); exact BK108.out) : p := h
theorem d20g {p : Prop} (h : p := by (with_reducible repeat (first | apply Kd.R_alloc | apply Kd.R_drewN | apply Kd.R_drew)); exact HO_10.out) : p := h
theorem d20h {p : Prop} (h : p := by (with_reducible repeat (first | apply Kd.S_alloc | apply Kd.S_drewN | apply Kd.S_drew)); exact HO_7.out) : p := h
theorem d20i {p : Prop} (h : p := by first | (with_reducible assumption) | assumption) : p := h
theorem d20j {p : Prop} (h : p := by first | rfl | (simp; done) | (simp [*]; done)) : p := h
theorem d20k {p : Prop} (h : p := by first | (go_simp; done) | (go_simp; rfl)) : p := h
set_option maxHeartbeats 8000000 in
set_option maxRecDepth 100000 in
theorem contact_Exclude.calls (k : Nat) (A0 : Option Addr) (c0 : Nat) (l0 : List (S33)) (a1 : Int) (r1 : List (List Int)) (r2 : Int) (w : World) (hr0 : Kd.C k33 w A0 l0.length l0) (hc0 : l0.length ≤ c0) (h : contact_Exclude.f k l0 a1 = some (r1, r2)) :
 Calls Try.prog 20 #[.slice A0 l0.length c0, .int .i64 a1] w fun e w' => ∃ v0_ : Value, e = .returned (.tuple #[v0_, .int .i64 r2]) ∧ Kd.S (Kd.slice 3 (Kd.int .i64)) 35 w' w.heap.size (fun _ => True) v0_ r1 ∧ Below w.heap.size w w' := by
 have hu33 := Try.underlying33
 have HR0 := Aside0.mk hr0
 have HC0 := Aside0.mk hc0
 clear hr0 hc0
 have HB := Aside0.mk (Below.refl w.heap.size w)
 have H : ((contact_CheckPasses.f k l0).bind fun t101 => ((kit_Range.f a1 0 10000000).bind fun t102 => ((kit_First.f k (([t101, t102] : List Int))).bind fun t106 => (if t106 = 0 then (contact_Exclude.l0 k l0 a1 ([] : List (List Int)) l0 (l0.length : Int) 0) else (some (([] : List (List Int)), t106)))))) = some (r1, r2) := h
 clear h
 replace H := bindS H; obtain ⟨t101, A3, H⟩ := H
 replace H := bindS H; obtain ⟨t102, A4, H⟩ := H
 obtain ⟨y103, hy103⟩ : ∃ y_ : List Int, y_ = (([t101, t102] : List Int)) := ⟨_, rfl⟩
 replace H : ((kit_First.f k y103).bind fun t106 => (if t106 = 0 then (contact_Exclude.l0 k l0 a1 ([] : List (List Int)) l0 (l0.length : Int) 0) else (some (([] : List (List Int)), t106)))) = some (r1, r2) := by first | (rw [hy103]; with_reducible exact H) | (have H2_ := (Option.bind_some _ _).symm.trans H; rw [hy103]; with_reducible exact H2_) | (have H2_ := (Option.bind_some _ _).symm.trans H; with_reducible exact H2_) | with_reducible exact H | (rw [hy103]; exact H) | exact H
 have Ny103 := Aside0.mk hy103
 clear hy103
 replace H := bindS H; obtain ⟨t106, A5, H⟩ := H
 by_cases c6 : t106 = 0
 · rw [if_pos c6] at H
   have c6b0 : (t106 == 0) = true := beq_iff_eq.mpr c6
   have c6b1 : (t106 != 0) = false := bne_eq_false_iff_eq.mpr c6
   clear c6
   have H' := Aside0.mk H
   clear H
   go_enter Try.func20, Try.ntmps20
   go_wp2_with (first | ((with_reducible refine gate_callee (f := 18) rfl ?_); refine goesL_ (some 14) rfl rfl Try.func18 (by kernel_rfl) rfl #[.slice A0 l0.length c0] rfl d20d ?_; (with_reducible refine (contact_CheckPasses.calls k _ _ l0 t101 _ ?side1 ?side2 A3.out).mono ?_); (case side1 => exact C_go HR0.out); (case side2 => exact HC0.out); rintro e w7 ⟨rfl, hb⟩; refine ⟨_, rfl, ?_⟩; replace HB := Aside0.mk (below_step d20e hb); (try clear hb)) | ((with_reducible refine gate_callee (f := 40) rfl ?_); refine goesL_ (some 16) rfl rfl Try.func40 (by kernel_rfl) rfl #[.int .i64 a1, .int .i64 0, .int .i64 10000000] rfl d20d ?_; (with_reducible refine (kit_Range.calls a1 0 10000000 t102 _ A4.out).mono ?_); rintro e w' ⟨rfl, ⟨nd, rfl⟩⟩; refine ⟨_, rfl, ?_⟩) | ((with_reducible refine gate_dst (N := 17) rfl ?_); refine Kd.R_lit (Kd.int .i64) _ 23 ?hg (N := 17) ?hd (xs := ([t101, t102] : List Int)) (inner := [.int .i64 t101, .int .i64 t102]) (ok := fun _ => True) (okp := fun _ => True) ?hr ?hp (fun _ hk => hk) trivial (Below.refl _ _) (Nat.le_refl _) (by simp) ?_; (case hd => rfl); (case hg => rfl); (case hr => exact d20k); (case hp => exact (Reps.one (show Kd.M (Kd.int .i64) _ _ _ t101 [.int .i64 t101] from rfl) (Reps.one (show Kd.M (Kd.int .i64) _ _ _ t102 [.int .i64 t102] from rfl) (Reps.none _ _)))); intro v104 w8 ho9 hb hg_ hnew_; clear hg_ hnew_; (first | rw [← Ny103.out] at ho9 | (simp only [Int.reduceToNat] at ho9; rw [← Ny103.out] at ho9)); have n0_ := Aside0.mk (Kd.R_lower ho9 (below_size d20e)); have n1_ := Aside0.mk (below_step d20e hb); clear HB; have HO105 := n0_; have HB := n1_; clear n0_ n1_; clear hb ho9; obtain ⟨Ao10, co10, eo10⟩ := Kd.R_slice HO105.out; subst eo10) | ((with_reducible refine gate_callee (f := 38) rfl ?_); refine goesL_ (some 18) rfl rfl Try.func38 (by kernel_rfl) rfl #[.slice Ao10 y103.length co10] rfl d20d ?_; (with_reducible refine (kit_First.calls k _ _ y103 t106 _ ?side1 ?side2 A5.out).mono ?_); (case side1 => exact C_go (Kd.R_reads' HO105.out).2.2); (case side2 => exact (Kd.R_reads' HO105.out).2.1); rintro e w' ⟨rfl, ⟨nd, rfl⟩⟩; refine ⟨_, rfl, ?_⟩))
   go_loopg [7, 24] k (fun kq v7 v24 w' => ∃ (x7_1 : List (List Int)) (x24_1 : Int), v24 = .int .i64 x24_1 ∧ Aside0 (contact_Exclude.l0 kq l0 a1 x7_1 l0 (l0.length : Int) x24_1 = some (r1, r2)) ∧ Aside0 (kq ≤ k) ∧ Aside0 (Kd.S (Kd.slice 3 (Kd.int .i64)) 35 w' w.heap.size (fun _ => True) v7 x7_1) ∧ Aside0 (Below w.heap.size w w'))
   case atStart => exact ⟨(([] : List (List Int))), (0), d20j, H', ⟨Nat.le_refl _⟩, ⟨by first | exact Kd.S_nil _ _ _ _ _ | exact Kd.N_nil _ _ _ _ _ | exact Kd.V_nil _ _ _ _ _ | exact Kd.Q_nil _ _ _ _ _ | exact Kd.R_nil _ _ _ _ _⟩, ⟨d20e⟩⟩
   case round =>
    clear H'
    try clear c6b0
    try clear c6b1
    obtain ⟨x7_1, x24_1, rfl, HA, HK1, HO_7, HB⟩ := hrel
    cases gk with
    | zero => exact absurd HA.out (by simp [contact_Exclude.l0])
    | succ k1 =>
     have H := HA.out
     clear HA
     simp only [contact_Exclude.l0] at H
     by_cases c11 : x24_1 < (l0.length : Int)
     · rw [if_pos c11] at H
       have c11b0 : decide (x24_1 < (l0.length : Int)) = true := decide_eq_true c11
       clear c11
       replace H := guardT H; obtain ⟨c12, H⟩ := H
       have c12b0 : decide (0 ≤ x24_1) = true := decide_eq_true c12
       clear c12
       replace H := guardT H; obtain ⟨c13, H⟩ := H
       have c13b0 : decide (x24_1 < (l0.length : Int)) = true := decide_eq_true c13
       clear c13
       have H' := Aside0.mk H
       clear H
       have p107 : 0 ≤ (x24_1 : Int) := of_decide_eq_true d20i
       have q107 : x24_1 < (l0.length : Int) := of_decide_eq_true d20i
       obtain ⟨ad107, A107_3, c107_3, e107, hx107_0, hx107_1, hx107_2, hx107_3, hl107_3, hi107_3⟩ := at_T33 HR0.out x24_1 p107 q107
       cases e107
       replace hx107_0 := cellB HB.out hx107_0
       replace hx107_1 := cellB HB.out hx107_1
       replace hx107_2 := cellB HB.out hx107_2
       replace hx107_3 := cellB HB.out hx107_3
       have HR107_3 := Aside0.mk hi107_3
       have HC107_3 := Aside0.mk hl107_3
       clear hi107_3 hl107_3
       replace p107 := eq_true p107
       replace q107 := eq_true q107
       go_wp2_with ((with_reducible refine gate_dst (N := 9) rfl ?_); refine box_event ?hg (N := 9) ?hd (cs := #[.string (⟨#[]⟩ : ByteArray), .int .i64 0, .int .i64 0, .slice none 0 0]) (t := 33) ?hr ?_; (case hd => rfl); (case hg => rfl); (case hr => exact d20k); intro gb108 hg w14 hbox hb; have n0_ := Aside0.mk (Kd.S_below d20h hb); have n1_ := Aside0.mk (below_step d20e hb); have n2_ := Aside0.mk (hbox); have n3_ := Aside0.mk ((by rw [hg]; exact (below_size d20e) : w.heap.size ≤ gb108)); have n4_ := Aside0.mk ((by rw [hg]; exact (below_size d20e) : w.heap.size ≤ gb108)); clear HO_7; clear HB; have HO_7 := n0_; have HB := n1_; have BK108 := n2_; have GW108 := n3_; have GE108 := n4_; clear n0_ n1_ n2_ n3_ n4_; clear hb hbox hg; have hcz15_0 : w14.cell? ⟨gb108, 0, none⟩ = some (.string (⟨#[]⟩ : ByteArray)) := (blk_cell BK108.out 0).trans rfl; have hcz15_1 : w14.cell? ⟨gb108, 1, none⟩ = some (.int .i64 0) := (blk_cell BK108.out 1).trans rfl; have hcz15_2 : w14.cell? ⟨gb108, 2, none⟩ = some (.int .i64 0) := (blk_cell BK108.out 2).trans rfl; have hcz15_3 : w14.cell? ⟨gb108, 3, none⟩ = some (.slice none 0 0) := (blk_cell BK108.out 3).trans rfl; have hfz15_0 := blk_frozen BK108.out 0; have hfz15_1 := blk_frozen BK108.out 1; have hfz15_2 := blk_frozen BK108.out 2; have hfz15_3 := blk_frozen BK108.out 3)
       go_loopg [10, 31] k1 (fun kq v10 v31 w' => ∃ (x10_2 : List Int) (x31_2 : Int), v31 = .int .i64 x31_2 ∧ Aside0 (contact_Exclude.l1 kq l0 a1 x7_1 x24_1 x10_2 l0 (l0.length : Int) x24_1 l0 (l0.length : Int) x31_2 ((rd_T33 l0 x24_1).f0) ((rd_T33 l0 x24_1).f1) ((rd_T33 l0 x24_1).f2) ((rd_T33 l0 x24_1).f3) = some (r1, r2)) ∧ Aside0 (kq ≤ k1) ∧ Aside0 (Kd.S (Kd.slice 3 (Kd.int .i64)) 35 w' w.heap.size (fun k_ => some k_ ≠ (v10 : Value).ownBlock) u7 x7_1) ∧ Aside0 (Kd.R (Kd.int .i64) 3 w' w.heap.size (fun _ => True) v10 x10_2) ∧ Aside0 (w'.heap[gb108]? = some (.cells #[.string ((rd_T33 l0 x24_1).f0), .int .i64 ((rd_T33 l0 x24_1).f1), .int .i64 ((rd_T33 l0 x24_1).f2), (.slice A107_3 ((rd_T33 l0 x24_1).f3).length c107_3)] 33 (0, 0))) ∧ Aside0 (Below w.heap.size w w'))
       case atStart => exact ⟨(([] : List Int)), (0), d20j, H', ⟨Nat.le_refl _⟩, ⟨by (with_reducible repeat (first | apply Kd.S_alloc | apply Kd.S_drewN | apply Kd.S_drew)); exact Kd.S_mono (Kd.S_far (p := ⟨gb108, 3, none⟩) (Kd.S_far (p := ⟨gb108, 2, none⟩) (Kd.S_far (p := ⟨gb108, 1, none⟩) (Kd.S_far (p := ⟨gb108, 0, none⟩) (Kd.S_types HO_7.out BK108.out (by decide)) (fun _ hk => hk.2) (.string ((rd_T33 l0 x24_1).f0))) (fun _ hk => hk.2) (.int .i64 ((rd_T33 l0 x24_1).f1))) (fun _ hk => hk.2) (.int .i64 ((rd_T33 l0 x24_1).f2))) (fun _ hk => hk.2) (.slice A107_3 ((rd_T33 l0 x24_1).f3).length c107_3)) (fun _ hk => (by simp [Value.ownBlock]))⟩, ⟨by first | exact Kd.R_nil _ _ _ _ _ | exact Kd.N_nil _ _ _ _ _ | exact Kd.V_nil _ _ _ _ _ | exact Kd.Q_nil _ _ _ _ _ | exact Kd.S_nil _ _ _ _ _⟩, ⟨by (with_reducible repeat (first | refine blk_drewN ?_ _ | refine blk_drew ?_ | refine blk_alloc ?_ _)); refine blk_put (cs := #[.string ((rd_T33 l0 x24_1).f0), .int .i64 ((rd_T33 l0 x24_1).f1), .int .i64 ((rd_T33 l0 x24_1).f2), .slice none 0 0]) ?_ 3 _ rfl; (with_reducible repeat (first | refine blk_drewN ?_ _ | refine blk_drew ?_ | refine blk_alloc ?_ _)); refine blk_put (cs := #[.string ((rd_T33 l0 x24_1).f0), .int .i64 ((rd_T33 l0 x24_1).f1), .int .i64 0, .slice none 0 0]) ?_ 2 _ rfl; (with_reducible repeat (first | refine blk_drewN ?_ _ | refine blk_drew ?_ | refine blk_alloc ?_ _)); refine blk_put (cs := #[.string ((rd_T33 l0 x24_1).f0), .int .i64 0, .int .i64 0, .slice none 0 0]) ?_ 1 _ rfl; (with_reducible repeat (first | refine blk_drewN ?_ _ | refine blk_drew ?_ | refine blk_alloc ?_ _)); refine blk_put (cs := #[.string (⟨#[]⟩ : ByteArray), .int .i64 0, .int .i64 0, .slice none 0 0]) ?_ 0 _ rfl; (with_reducible repeat (first | refine blk_drewN ?_ _ | refine blk_drew ?_ | refine blk_alloc ?_ _)); exact BK108.out⟩, ⟨d20c⟩⟩
       case round =>
        clear H'
        try clear c11b0
        try clear c12b0
        try clear c13b0
        try clear hcz15_0
        try clear hcz15_1
        try clear hcz15_2
        try clear hcz15_3
        try clear hfz15_0
        try clear hfz15_1
        try clear hfz15_2
        try clear hfz15_3
        try clear hx107_0
        try clear hx107_1
        try clear hx107_2
        try clear hx107_3
        try clear p107
        try clear q107
        obtain ⟨x10_2, x31_2, rfl, HA, HK2, HO_7, HO_10, BK108, HB⟩ := hrel
        cases gk with
        | zero => exact absurd HA.out (by simp [contact_Exclude.l1])
        | succ k2 =>
         have H := HA.out
         clear HA
         simp only [contact_Exclude.l1] at H
         by_cases c16 : x31_2 < (l0.length : Int)
         · rw [if_pos c16] at H
           have c16b0 : decide (x31_2 < (l0.length : Int)) = true := decide_eq_true c16
           clear c16
           replace H := guardT H; obtain ⟨c17, H⟩ := H
           have c17b0 : decide (0 ≤ x31_2) = true := decide_eq_true c17
           clear c17
           replace H := guardT H; obtain ⟨c18, H⟩ := H
           have c18b0 : decide (x31_2 < (l0.length : Int)) = true := decide_eq_true c18
           clear c18
           by_cases c19 : x31_2 = x24_1
           · rw [if_pos c19] at H
             have c19b0 : (x31_2 == x24_1) = true := beq_iff_eq.mpr c19
             have c19b1 : (x31_2 != x24_1) = false := bne_eq_false_iff_eq.mpr c19
             clear c19
             have H' := Aside0.mk H
             clear H
             have p109 : 0 ≤ (x31_2 : Int) := of_decide_eq_true d20i
             have q109 : x31_2 < (l0.length : Int) := of_decide_eq_true d20i
             obtain ⟨ad109, A109_3, c109_3, e109, hx109_0, hx109_1, hx109_2, hx109_3, hl109_3, hi109_3⟩ := at_T33 HR0.out x31_2 p109 q109
             obtain rfl : ad107 = ad109 := (by injection e109)
             replace hx109_0 := cellB HB.out hx109_0
             replace hx109_1 := cellB HB.out hx109_1
             replace hx109_2 := cellB HB.out hx109_2
             replace hx109_3 := cellB HB.out hx109_3
             have HR109_3 := Aside0.mk hi109_3
             have HC109_3 := Aside0.mk hl109_3
             clear hi109_3 hl109_3
             replace p109 := eq_true p109
             replace q109 := eq_true q109
             go_wp2_with ((with_reducible refine gate_dst (N := 12) rfl ?_); refine box_event ?hg (N := 12) ?hd (cs := #[.string (⟨#[]⟩ : ByteArray), .int .i64 0, .int .i64 0, .slice none 0 0]) (t := 33) ?hr ?_; (case hd => rfl); (case hg => rfl); (case hr => exact d20k); intro gb110 hg w20 hbox hb; have n0_ := Aside0.mk (Kd.S_below d20h hb); have n1_ := Aside0.mk (Kd.R_below d20g hb); have n2_ := Aside0.mk (blk_below (g := gb108) (o := .cells #[.string ((rd_T33 l0 x24_1).f0), .int .i64 ((rd_T33 l0 x24_1).f1), .int .i64 ((rd_T33 l0 x24_1).f2), .slice A107_3 ((rd_T33 l0 x24_1).f3).length c107_3] 33 (0, 0)) d20f hb); have n3_ := Aside0.mk (below_step d20c hb); have n4_ := Aside0.mk (hbox); have n5_ := Aside0.mk ((by rw [hg]; exact (below_size d20c) : w.heap.size ≤ gb110)); have n6_ := Aside0.mk ((by rw [hg]; exact (below_size d20c) : w.heap.size ≤ gb110)); have n7_ := Aside0.mk ((by rw [hg]; exact Nat.ne_of_lt (blk_lt (g := gb108) (o := .cells #[.string ((rd_T33 l0 x24_1).f0), .int .i64 ((rd_T33 l0 x24_1).f1), .int .i64 ((rd_T33 l0 x24_1).f2), .slice A107_3 ((rd_T33 l0 x24_1).f3).length c107_3] 33 (0, 0)) d20f) : gb108 ≠ gb110)); have n8_ := Aside0.mk ((by rw [hg]; exact Nat.ne_of_gt (blk_lt (g := gb108) (o := .cells #[.string ((rd_T33 l0 x24_1).f0), .int .i64 ((rd_T33 l0 x24_1).f1), .int .i64 ((rd_T33 l0 x24_1).f2), .slice A107_3 ((rd_T33 l0 x24_1).f3).length c107_3] 33 (0, 0)) d20f) : gb110 ≠ gb108)); clear HO_7; clear HO_10; clear BK108; clear HB; have HO_7 := n0_; have HO_10 := n1_; have BK108 := n2_; have HB := n3_; have BK110 := n4_; have GW110 := n5_; have GE110 := n6_; have NB108_110 := n7_; have NB110_108 := n8_; clear n0_ n1_ n2_ n3_ n4_ n5_ n6_ n7_ n8_; clear hb hbox hg; have hnb21 := NB110_108.out; have hnc21 := NB108_110.out; have hcz22_0 : w20.cell? ⟨gb110, 0, none⟩ = some (.string (⟨#[]⟩ : ByteArray)) := (blk_cell BK110.out 0).trans rfl; have hcz22_1 : w20.cell? ⟨gb110, 1, none⟩ = some (.int .i64 0) := (blk_cell BK110.out 1).trans rfl; have hcz22_2 : w20.cell? ⟨gb110, 2, none⟩ = some (.int .i64 0) := (blk_cell BK110.out 2).trans rfl; have hcz22_3 : w20.cell? ⟨gb110, 3, none⟩ = some (.slice none 0 0) := (blk_cell BK110.out 3).trans rfl; have hfz22_0 := blk_frozen BK110.out 0; have hfz22_1 := blk_frozen BK110.out 1; have hfz22_2 := blk_frozen BK110.out 2; have hfz22_3 := blk_frozen BK110.out 3)
             go_roundg k2
             case measure => have := HK1.out; have := HK2.out; omega
             case rel => exact ⟨(x10_2), (wrap64 (x31_2 + 1)), d20j, H', ⟨by have := HK1.out; have := HK2.out; omega⟩, ⟨by (with_reducible repeat (first | apply Kd.S_alloc | apply Kd.S_drewN | apply Kd.S_drew)); exact Kd.S_mono (Kd.S_far (p := ⟨gb110, 3, none⟩) (Kd.S_far (p := ⟨gb110, 2, none⟩) (Kd.S_far (p := ⟨gb110, 1, none⟩) (Kd.S_far (p := ⟨gb110, 0, none⟩) (Kd.S_types HO_7.out BK110.out (by decide)) (fun _ hk => hk.2) (.string ((rd_T33 l0 x31_2).f0))) (fun _ hk => hk.2) (.int .i64 ((rd_T33 l0 x31_2).f1))) (fun _ hk => hk.2) (.int .i64 ((rd_T33 l0 x31_2).f2))) (fun _ hk => hk.2) (.slice A109_3 ((rd_T33 l0 x31_2).f3).length c109_3)) (fun _ hk => hk.1)⟩, ⟨by (with_reducible repeat (first | apply Kd.R_alloc | apply Kd.R_drewN | apply Kd.R_drew)); exact Kd.R_mono (Kd.R_far (p := ⟨gb110, 3, none⟩) (Kd.R_far (p := ⟨gb110, 2, none⟩) (Kd.R_far (p := ⟨gb110, 1, none⟩) (Kd.R_far (p := ⟨gb110, 0, none⟩) (Kd.R_types HO_10.out BK110.out (by decide)) (fun _ hk => hk.2) (.string ((rd_T33 l0 x31_2).f0))) (fun _ hk => hk.2) (.int .i64 ((rd_T33 l0 x31_2).f1))) (fun _ hk => hk.2) (.int .i64 ((rd_T33 l0 x31_2).f2))) (fun _ hk => hk.2) (.slice A109_3 ((rd_T33 l0 x31_2).f3).length c109_3)) (fun _ hk => trivial)⟩, ⟨d20a⟩, ⟨d20b⟩⟩
           · rw [if_neg c19] at H
             have c19b0 : (x31_2 == x24_1) = false := beq_eq_false_iff_ne.mpr c19
             have c19b1 : (x31_2 != x24_1) = true := bne_iff_ne.mpr c19
             replace H := bindS H; obtain ⟨t111, A23, H⟩ := H
             by_cases c24 : t111 = true
             · subst c24
               replace H := iteT H
               replace H := guardT H; obtain ⟨c25, H⟩ := H
               have LMc25 := Aside0.mk c25
               clear c25
               obtain ⟨y112, hy112⟩ : ∃ y_ : List Int, y_ = (x10_2 ++ [x31_2]) := ⟨_, rfl⟩
               replace H : (contact_Exclude.l1 k2 l0 a1 x7_1 x24_1 y112 l0 (l0.length : Int) x24_1 l0 (l0.length : Int) (wrap64 (x31_2 + 1)) ((rd_T33 l0 x24_1).f0) ((rd_T33 l0 x24_1).f1) ((rd_T33 l0 x24_1).f2) ((rd_T33 l0 x24_1).f3)) = some (r1, r2) := by first | (rw [hy112]; with_reducible exact H) | (have H2_ := (Option.bind_some _ _).symm.trans H; rw [hy112]; with_reducible exact H2_) | (have H2_ := (Option.bind_some _ _).symm.trans H; with_reducible exact H2_) | with_reducible exact H | (rw [hy112]; exact H) | exact H
               have Ny112 := Aside0.mk hy112
               clear hy112
               have H' := Aside0.mk H
               clear H
               have p109 : 0 ≤ (x31_2 : Int) := of_decide_eq_true d20i
               have q109 : x31_2 < (l0.length : Int) := of_decide_eq_true d20i
               obtain ⟨ad109, A109_3, c109_3, e109, hx109_0, hx109_1, hx109_2, hx109_3, hl109_3, hi109_3⟩ := at_T33 HR0.out x31_2 p109 q109
               obtain rfl : ad107 = ad109 := (by injection e109)
               replace hx109_0 := cellB HB.out hx109_0
               replace hx109_1 := cellB HB.out hx109_1
               replace hx109_2 := cellB HB.out hx109_2
               replace hx109_3 := cellB HB.out hx109_3
               have HR109_3 := Aside0.mk hi109_3
               have HC109_3 := Aside0.mk hl109_3
               clear hi109_3 hl109_3
               replace p109 := eq_true p109
               replace q109 := eq_true q109
               go_wp2_with (first | ((with_reducible refine gate_dst (N := 12) rfl ?_); refine box_event ?hg (N := 12) ?hd (cs := #[.string (⟨#[]⟩ : ByteArray), .int .i64 0, .int .i64 0, .slice none 0 0]) (t := 33) ?hr ?_; (case hd => rfl); (case hg => rfl); (case hr => exact d20k); intro gb110 hg w26 hbox hb; have n0_ := Aside0.mk (Kd.S_below d20h hb); have n1_ := Aside0.mk (Kd.R_below d20g hb); have n2_ := Aside0.mk (blk_below (g := gb108) (o := .cells #[.string ((rd_T33 l0 x24_1).f0), .int .i64 ((rd_T33 l0 x24_1).f1), .int .i64 ((rd_T33 l0 x24_1).f2), .slice A107_3 ((rd_T33 l0 x24_1).f3).length c107_3] 33 (0, 0)) d20f hb); have n3_ := Aside0.mk (below_step d20c hb); have n4_ := Aside0.mk (hbox); have n5_ := Aside0.mk ((by rw [hg]; exact (below_size d20c) : w.heap.size ≤ gb110)); have n6_ := Aside0.mk ((by rw [hg]; exact (below_size d20c) : w.heap.size ≤ gb110)); have n7_ := Aside0.mk ((by rw [hg]; exact Nat.ne_of_lt (blk_lt (g := gb108) (o := .cells #[.string ((rd_T33 l0 x24_1).f0), .int .i64 ((rd_T33 l0 x24_1).f1), .int .i64 ((rd_T33 l0 x24_1).f2), .slice A107_3 ((rd_T33 l0 x24_1).f3).length c107_3] 33 (0, 0)) d20f) : gb108 ≠ gb110)); have n8_ := Aside0.mk ((by rw [hg]; exact Nat.ne_of_gt (blk_lt (g := gb108) (o := .cells #[.string ((rd_T33 l0 x24_1).f0), .int .i64 ((rd_T33 l0 x24_1).f1), .int .i64 ((rd_T33 l0 x24_1).f2), .slice A107_3 ((rd_T33 l0 x24_1).f3).length c107_3] 33 (0, 0)) d20f) : gb110 ≠ gb108)); clear HO_7; clear HO_10; clear BK108; clear HB; have HO_7 := n0_; have HO_10 := n1_; have BK108 := n2_; have HB := n3_; have BK110 := n4_; have GW110 := n5_; have GE110 := n6_; have NB108_110 := n7_; have NB110_108 := n8_; clear n0_ n1_ n2_ n3_ n4_ n5_ n6_ n7_ n8_; clear hb hbox hg; have hnb27 := NB110_108.out; have hnc27 := NB108_110.out; have hcz28_0 : w26.cell? ⟨gb110, 0, none⟩ = some (.string (⟨#[]⟩ : ByteArray)) := (blk_cell BK110.out 0).trans rfl; have hcz28_1 : w26.cell? ⟨gb110, 1, none⟩ = some (.int .i64 0) := (blk_cell BK110.out 1).trans rfl; have hcz28_2 : w26.cell? ⟨gb110, 2, none⟩ = some (.int .i64 0) := (blk_cell BK110.out 2).trans rfl; have hcz28_3 : w26.cell? ⟨gb110, 3, none⟩ = some (.slice none 0 0) := (blk_cell BK110.out 3).trans rfl; have hfz28_0 := blk_frozen BK110.out 0; have hfz28_1 := blk_frozen BK110.out 1; have hfz28_2 := blk_frozen BK110.out 2; have hfz28_3 := blk_frozen BK110.out 3; have hcz29_0 : w26.cell? ⟨gb108, 0, none⟩ = some (.string ((rd_T33 l0 x24_1).f0)) := (blk_cell BK108.out 0).trans rfl; have hcz29_1 : w26.cell? ⟨gb108, 1, none⟩ = some (.int .i64 ((rd_T33 l0 x24_1).f1)) := (blk_cell BK108.out 1).trans rfl; have hcz29_2 : w26.cell? ⟨gb108, 2, none⟩ = some (.int .i64 ((rd_T33 l0 x24_1).f2)) := (blk_cell BK108.out 2).trans rfl; have hcz29_3 : w26.cell? ⟨gb108, 3, none⟩ = some (.slice A107_3 ((rd_T33 l0 x24_1).f3).length c107_3) := (blk_cell BK108.out 3).trans rfl; have hfz29_0 := blk_frozen BK108.out 0; have hfz29_1 := blk_frozen BK108.out 1; have hfz29_2 := blk_frozen BK108.out 2; have hfz29_3 := blk_frozen BK108.out 3) | (go_at_call 50; (with_reducible refine (contact_exclude.calls ((rd_T33 l0 x24_1).f0) ((rd_T33 l0 x24_1).f1) ((rd_T33 l0 x24_1).f2) _ _ ((rd_T33 l0 x24_1).f3) ((rd_T33 l0 x31_2).f0) ((rd_T33 l0 x31_2).f1) ((rd_T33 l0 x31_2).f2) _ _ ((rd_T33 l0 x31_2).f3) a1 true _ ?side1 ?side2 ?side3 ?side4 A23.out).mono ?_); (case side1 => exact Kd.C_below HR107_3.out d20b); (case side2 => exact HC107_3.out); (case side3 => exact Kd.C_below HR109_3.out d20b); (case side4 => exact HC109_3.out); rintro e w30 ⟨rfl, hb⟩; have n0_ := Aside0.mk (Kd.S_below (by (with_reducible repeat (first | apply Kd.S_alloc | apply Kd.S_drewN | apply Kd.S_drew)); exact (Kd.S_mono (Kd.S_far (p := ⟨gb110, 3, none⟩) (Kd.S_far (p := ⟨gb110, 2, none⟩) (Kd.S_far (p := ⟨gb110, 1, none⟩) (Kd.S_far (p := ⟨gb110, 0, none⟩) (Kd.S_types HO_7.out BK110.out (by decide)) (fun _ hk => hk.2) (.string ((rd_T33 l0 x31_2).f0))) (fun _ hk => hk.2) (.int .i64 ((rd_T33 l0 x31_2).f1))) (fun _ hk => hk.2) (.int .i64 ((rd_T33 l0 x31_2).f2))) (fun _ hk => hk.2) (.slice A109_3 ((rd_T33 l0 x31_2).f3).length c109_3)) (fun _ h_ => h_.1))) hb); have n1_ := Aside0.mk (Kd.R_below (by (with_reducible repeat (first | apply Kd.R_alloc | apply Kd.R_drewN | apply Kd.R_drew)); exact (Kd.R_mono (Kd.R_far (p := ⟨gb110, 3, none⟩) (Kd.R_far (p := ⟨gb110, 2, none⟩) (Kd.R_far (p := ⟨gb110, 1, none⟩) (Kd.R_far (p := ⟨gb110, 0, none⟩) (Kd.R_types HO_10.out BK110.out (by decide)) (fun _ hk => hk.2) (.string ((rd_T33 l0 x31_2).f0))) (fun _ hk => hk.2) (.int .i64 ((rd_T33 l0 x31_2).f1))) (fun _ hk => hk.2) (.int .i64 ((rd_T33 l0 x31_2).f2))) (fun _ hk => hk.2) (.slice A109_3 ((rd_T33 l0 x31_2).f3).length c109_3)) (fun _ h_ => h_.1))) hb); have n2_ := Aside0.mk (blk_below (g := gb108) (o := .cells #[.string ((rd_T33 l0 x24_1).f0), .int .i64 ((rd_T33 l0 x24_1).f1), .int .i64 ((rd_T33 l0 x24_1).f2), .slice A107_3 ((rd_T33 l0 x24_1).f3).length c107_3] 33 (0, 0)) d20a hb); have n3_ := Aside0.mk (blk_below (g := gb110) (o := .cells #[.string ((rd_T33 l0 x31_2).f0), .int .i64 ((rd_T33 l0 x31_2).f1), .int .i64 ((rd_T33 l0 x31_2).f2), .slice A109_3 ((rd_T33 l0 x31_2).f3).length c109_3] 33 (0, 0)) (by (with_reducible repeat (first | refine blk_drewN ?_ _ | refine blk_drew ?_ | refine blk_alloc ?_ _)); refine blk_put (cs := #[.string ((rd_T33 l0 x31_2).f0), .int .i64 ((rd_T33 l0 x31_2).f1), .int .i64 ((rd_T33 l0 x31_2).f2), .slice none 0 0]) ?_ 3 _ rfl; (with_reducible repeat (first | refine blk_drewN ?_ _ | refine blk_drew ?_ | refine blk_alloc ?_ _)); refine blk_put (cs := #[.string ((rd_T33 l0 x31_2).f0), .int .i64 ((rd_T33 l0 x31_2).f1), .int .i64 0, .slice none 0 0]) ?_ 2 _ rfl; (with_reducible repeat (first | refine blk_drewN ?_ _ | refine blk_drew ?_ | refine blk_alloc ?_ _)); refine blk_put (cs := #[.string ((rd_T33 l0 x31_2).f0), .int .i64 0, .int .i64 0, .slice none 0 0]) ?_ 1 _ rfl; (with_reducible repeat (first | refine blk_drewN ?_ _ | refine blk_drew ?_ | refine blk_alloc ?_ _)); refine blk_put (cs := #[.string (⟨#[]⟩ : ByteArray), .int .i64 0, .int .i64 0, .slice none 0 0]) ?_ 0 _ rfl; (with_reducible repeat (first | refine blk_drewN ?_ _ | refine blk_drew ?_ | refine blk_alloc ?_ _)); exact BK110.out) hb); have n4_ := Aside0.mk (below_step d20b hb); clear HO_7; clear HO_10; clear BK108; clear BK110; clear HB; have HO_7 := n0_; have HO_10 := n1_; have BK108 := n2_; have BK110 := n3_; have HB := n4_; clear n0_ n1_ n2_ n3_ n4_; (try clear hb)) | ((with_reducible refine gate_builtin (b := .append) (xs := #[.tmp 45, .tmp 47]) rfl ?_); at_builtin; refine Kd.R_append (Kd.int .i64) (w0 := w) w.heap.size rfl (.tmp 45) (.tmp 47) 35 3 (.int .i64 0) 8 rfl Try.underlying35 info3 rfl (by decide) (by omega) u10 x10_2 x31_2 [.int .i64 x31_2] (fun _ => True) (fun _ => False) rfl rfl ?aP (fun _ hk => hk.elim) ?aF ?aO ?aB ?aS ?aL ?_; (case aP => exact rfl); (case aB => exact d20b); (case aF => exact (fun _ _ => trivial)); (case aO => exact d20g); (case aS => exact (below_size d20b)); (case aL => have := LMc25.out; omega); intro v113 w31 ho hb hg hat; rw [← Ny112.out] at ho; have n0_ := Aside0.mk (Kd.S_after (ok := (fun _ => True)) (by (with_reducible repeat (first | apply Kd.S_alloc | apply Kd.S_drewN | apply Kd.S_drew)); exact Kd.S_mono HO_7.out (fun _ hk => ⟨trivial, hk⟩)) hg hat); have n1_ := Aside0.mk (blk_grown (g := gb108) (o := .cells #[.string ((rd_T33 l0 x24_1).f0), .int .i64 ((rd_T33 l0 x24_1).f1), .int .i64 ((rd_T33 l0 x24_1).f2), .slice A107_3 ((rd_T33 l0 x24_1).f3).length c107_3] 33 (0, 0)) d20f hg (Kd.R_ne HO_10.out BK108.out (by decide))); have n2_ := Aside0.mk (blk_grown (g := gb110) (o := .cells #[.string ((rd_T33 l0 x31_2).f0), .int .i64 ((rd_T33 l0 x31_2).f1), .int .i64 ((rd_T33 l0 x31_2).f2), .slice A109_3 ((rd_T33 l0 x31_2).f3).length c109_3] 33 (0, 0)) (by (with_reducible repeat (first | refine blk_drewN ?_ _ | refine blk_drew ?_ | refine blk_alloc ?_ _)); exact BK110.out) hg (Kd.R_ne HO_10.out BK110.out (by decide))); have n3_ := Aside0.mk (hb); have n4_ := Aside0.mk (ho); clear HO_7; clear BK108; clear BK110; clear HB; clear HO_10; have HO_7 := n0_; have BK108 := n1_; have BK110 := n2_; have HB := n3_; have HO114 := n4_; clear n0_ n1_ n2_ n3_ n4_; clear ho hb hg hat))
               go_roundg k2
               case measure => have := HK1.out; have := HK2.out; omega
               case rel => exact ⟨(y112), (wrap64 (x31_2 + 1)), d20j, H', ⟨by have := HK1.out; have := HK2.out; omega⟩, ⟨by (with_reducible repeat (first | apply Kd.S_alloc | apply Kd.S_drewN | apply Kd.S_drew)); exact Kd.S_mono HO_7.out (fun _ hk => hk.2)⟩, ⟨by (with_reducible repeat (first | apply Kd.R_alloc | apply Kd.R_drewN | apply Kd.R_drew)); exact HO114.out⟩, ⟨d20f⟩, ⟨d20b⟩⟩
             · replace c24 := Bool.eq_false_iff.mpr c24
               subst c24
               replace H := iteF H
               have H' := Aside0.mk H
               clear H
               have p109 : 0 ≤ (x31_2 : Int) := of_decide_eq_true d20i
               have q109 : x31_2 < (l0.length : Int) := of_decide_eq_true d20i
               obtain ⟨ad109, A109_3, c109_3, e109, hx109_0, hx109_1, hx109_2, hx109_3, hl109_3, hi109_3⟩ := at_T33 HR0.out x31_2 p109 q109
               obtain rfl : ad107 = ad109 := (by injection e109)
               replace hx109_0 := cellB HB.out hx109_0
               replace hx109_1 := cellB HB.out hx109_1
               replace hx109_2 := cellB HB.out hx109_2
               replace hx109_3 := cellB HB.out hx109_3
               have HR109_3 := Aside0.mk hi109_3
               have HC109_3 := Aside0.mk hl109_3
               clear hi109_3 hl109_3
               replace p109 := eq_true p109
               replace q109 := eq_true q109
               go_wp2_with (first | ((with_reducible refine gate_dst (N := 12) rfl ?_); refine box_event ?hg (N := 12) ?hd (cs := #[.string (⟨#[]⟩ : ByteArray), .int .i64 0, .int .i64 0, .slice none 0 0]) (t := 33) ?hr ?_; (case hd => rfl); (case hg => rfl); (case hr => exact d20k); intro gb110 hg w32 hbox hb; have n0_ := Aside0.mk (Kd.S_below d20h hb); have n1_ := Aside0.mk (Kd.R_below d20g hb); have n2_ := Aside0.mk (blk_below (g := gb108) (o := .cells #[.string ((rd_T33 l0 x24_1).f0), .int .i64 ((rd_T33 l0 x24_1).f1), .int .i64 ((rd_T33 l0 x24_1).f2), .slice A107_3 ((rd_T33 l0 x24_1).f3).length c107_3] 33 (0, 0)) d20f hb); have n3_ := Aside0.mk (below_step d20c hb); have n4_ := Aside0.mk (hbox); have n5_ := Aside0.mk ((by rw [hg]; exact (below_size d20c) : w.heap.size ≤ gb110)); have n6_ := Aside0.mk ((by rw [hg]; exact (below_size d20c) : w.heap.size ≤ gb110)); have n7_ := Aside0.mk ((by rw [hg]; exact Nat.ne_of_lt (blk_lt (g := gb108) (o := .cells #[.string ((rd_T33 l0 x24_1).f0), .int .i64 ((rd_T33 l0 x24_1).f1), .int .i64 ((rd_T33 l0 x24_1).f2), .slice A107_3 ((rd_T33 l0 x24_1).f3).length c107_3] 33 (0, 0)) d20f) : gb108 ≠ gb110)); have n8_ := Aside0.mk ((by rw [hg]; exact Nat.ne_of_gt (blk_lt (g := gb108) (o := .cells #[.string ((rd_T33 l0 x24_1).f0), .int .i64 ((rd_T33 l0 x24_1).f1), .int .i64 ((rd_T33 l0 x24_1).f2), .slice A107_3 ((rd_T33 l0 x24_1).f3).length c107_3] 33 (0, 0)) d20f) : gb110 ≠ gb108)); clear HO_7; clear HO_10; clear BK108; clear HB; have HO_7 := n0_; have HO_10 := n1_; have BK108 := n2_; have HB := n3_; have BK110 := n4_; have GW110 := n5_; have GE110 := n6_; have NB108_110 := n7_; have NB110_108 := n8_; clear n0_ n1_ n2_ n3_ n4_ n5_ n6_ n7_ n8_; clear hb hbox hg; have hnb33 := NB110_108.out; have hnc33 := NB108_110.out; have hcz34_0 : w32.cell? ⟨gb110, 0, none⟩ = some (.string (⟨#[]⟩ : ByteArray)) := (blk_cell BK110.out 0).trans rfl; have hcz34_1 : w32.cell? ⟨gb110, 1, none⟩ = some (.int .i64 0) := (blk_cell BK110.out 1).trans rfl; have hcz34_2 : w32.cell? ⟨gb110, 2, none⟩ = some (.int .i64 0) := (blk_cell BK110.out 2).trans rfl; have hcz34_3 : w32.cell? ⟨gb110, 3, none⟩ = some (.slice none 0 0) := (blk_cell BK110.out 3).trans rfl; have hfz34_0 := blk_frozen BK110.out 0; have hfz34_1 := blk_frozen BK110.out 1; have hfz34_2 := blk_frozen BK110.out 2; have hfz34_3 := blk_frozen BK110.out 3; have hcz35_0 : w32.cell? ⟨gb108, 0, none⟩ = some (.string ((rd_T33 l0 x24_1).f0)) := (blk_cell BK108.out 0).trans rfl; have hcz35_1 : w32.cell? ⟨gb108, 1, none⟩ = some (.int .i64 ((rd_T33 l0 x24_1).f1)) := (blk_cell BK108.out 1).trans rfl; have hcz35_2 : w32.cell? ⟨gb108, 2, none⟩ = some (.int .i64 ((rd_T33 l0 x24_1).f2)) := (blk_cell BK108.out 2).trans rfl; have hcz35_3 : w32.cell? ⟨gb108, 3, none⟩ = some (.slice A107_3 ((rd_T33 l0 x24_1).f3).length c107_3) := (blk_cell BK108.out 3).trans rfl; have hfz35_0 := blk_frozen BK108.out 0; have hfz35_1 := blk_frozen BK108.out 1; have hfz35_2 := blk_frozen BK108.out 2; have hfz35_3 := blk_frozen BK108.out 3) | (go_at_call 50; (with_reducible refine (contact_exclude.calls ((rd_T33 l0 x24_1).f0) ((rd_T33 l0 x24_1).f1) ((rd_T33 l0 x24_1).f2) _ _ ((rd_T33 l0 x24_1).f3) ((rd_T33 l0 x31_2).f0) ((rd_T33 l0 x31_2).f1) ((rd_T33 l0 x31_2).f2) _ _ ((rd_T33 l0 x31_2).f3) a1 false _ ?side1 ?side2 ?side3 ?side4 A23.out).mono ?_); (case side1 => exact Kd.C_below HR107_3.out d20b); (case side2 => exact HC107_3.out); (case side3 => exact Kd.C_below HR109_3.out d20b); (case side4 => exact HC109_3.out); rintro e w36 ⟨rfl, hb⟩; have n0_ := Aside0.mk (Kd.S_below (by (with_reducible repeat (first | apply Kd.S_alloc | apply Kd.S_drewN | apply Kd.S_drew)); exact (Kd.S_mono (Kd.S_far (p := ⟨gb110, 3, none⟩) (Kd.S_far (p := ⟨gb110, 2, none⟩) (Kd.S_far (p := ⟨gb110, 1, none⟩) (Kd.S_far (p := ⟨gb110, 0, none⟩) (Kd.S_types HO_7.out BK110.out (by decide)) (fun _ hk => hk.2) (.string ((rd_T33 l0 x31_2).f0))) (fun _ hk => hk.2) (.int .i64 ((rd_T33 l0 x31_2).f1))) (fun _ hk => hk.2) (.int .i64 ((rd_T33 l0 x31_2).f2))) (fun _ hk => hk.2) (.slice A109_3 ((rd_T33 l0 x31_2).f3).length c109_3)) (fun _ h_ => h_.1))) hb); have n1_ := Aside0.mk (Kd.R_below (by (with_reducible repeat (first | apply Kd.R_alloc | apply Kd.R_drewN | apply Kd.R_drew)); exact (Kd.R_mono (Kd.R_far (p := ⟨gb110, 3, none⟩) (Kd.R_far (p := ⟨gb110, 2, none⟩) (Kd.R_far (p := ⟨gb110, 1, none⟩) (Kd.R_far (p := ⟨gb110, 0, none⟩) (Kd.R_types HO_10.out BK110.out (by decide)) (fun _ hk => hk.2) (.string ((rd_T33 l0 x31_2).f0))) (fun _ hk => hk.2) (.int .i64 ((rd_T33 l0 x31_2).f1))) (fun _ hk => hk.2) (.int .i64 ((rd_T33 l0 x31_2).f2))) (fun _ hk => hk.2) (.slice A109_3 ((rd_T33 l0 x31_2).f3).length c109_3)) (fun _ h_ => h_.1))) hb); have n2_ := Aside0.mk (blk_below (g := gb108) (o := .cells #[.string ((rd_T33 l0 x24_1).f0), .int .i64 ((rd_T33 l0 x24_1).f1), .int .i64 ((rd_T33 l0 x24_1).f2), .slice A107_3 ((rd_T33 l0 x24_1).f3).length c107_3] 33 (0, 0)) d20a hb); have n3_ := Aside0.mk (blk_below (g := gb110) (o := .cells #[.string ((rd_T33 l0 x31_2).f0), .int .i64 ((rd_T33 l0 x31_2).f1), .int .i64 ((rd_T33 l0 x31_2).f2), .slice A109_3 ((rd_T33 l0 x31_2).f3).length c109_3] 33 (0, 0)) (by (with_reducible repeat (first | refine blk_drewN ?_ _ | refine blk_drew ?_ | refine blk_alloc ?_ _)); refine blk_put (cs := #[.string ((rd_T33 l0 x31_2).f0), .int .i64 ((rd_T33 l0 x31_2).f1), .int .i64 ((rd_T33 l0 x31_2).f2), .slice none 0 0]) ?_ 3 _ rfl; (with_reducible repeat (first | refine blk_drewN ?_ _ | refine blk_drew ?_ | refine blk_alloc ?_ _)); refine blk_put (cs := #[.string ((rd_T33 l0 x31_2).f0), .int .i64 ((rd_T33 l0 x31_2).f1), .int .i64 0, .slice none 0 0]) ?_ 2 _ rfl; (with_reducible repeat (first | refine blk_drewN ?_ _ | refine blk_drew ?_ | refine blk_alloc ?_ _)); refine blk_put (cs := #[.string ((rd_T33 l0 x31_2).f0), .int .i64 0, .int .i64 0, .slice none 0 0]) ?_ 1 _ rfl; (with_reducible repeat (first | refine blk_drewN ?_ _ | refine blk_drew ?_ | refine blk_alloc ?_ _)); refine blk_put (cs := #[.string (⟨#[]⟩ : ByteArray), .int .i64 0, .int .i64 0, .slice none 0 0]) ?_ 0 _ rfl; (with_reducible repeat (first | refine blk_drewN ?_ _ | refine blk_drew ?_ | refine blk_alloc ?_ _)); exact BK110.out) hb); have n4_ := Aside0.mk (below_step d20b hb); clear HO_7; clear HO_10; clear BK108; clear BK110; clear HB; have HO_7 := n0_; have HO_10 := n1_; have BK108 := n2_; have BK110 := n3_; have HB := n4_; clear n0_ n1_ n2_ n3_ n4_; (try clear hb)))
               go_roundg k2
               case measure => have := HK1.out; have := HK2.out; omega
               case rel => exact ⟨(x10_2), (wrap64 (x31_2 + 1)), d20j, H', ⟨by have := HK1.out; have := HK2.out; omega⟩, ⟨d20h⟩, ⟨d20g⟩, ⟨d20f⟩, ⟨d20b⟩⟩
         · rw [if_neg c16] at H
           have c16b0 : decide (x31_2 < (l0.length : Int)) = false := decide_eq_false c16
           clear c16
           replace H := guardT H; obtain ⟨c37, H⟩ := H
           have LMc37 := Aside0.mk c37
           clear c37
           obtain ⟨y115, hy115⟩ : ∃ y_ : List (List Int), y_ = (x7_1 ++ [x10_2]) := ⟨_, rfl⟩
           replace H : (contact_Exclude.l0 k2 l0 a1 y115 l0 (l0.length : Int) (wrap64 (x24_1 + 1))) = some (r1, r2) := by first | (rw [hy115]; with_reducible exact H) | (have H2_ := (Option.bind_some _ _).symm.trans H; rw [hy115]; with_reducible exact H2_) | (have H2_ := (Option.bind_some _ _).symm.trans H; with_reducible exact H2_) | with_reducible exact H | (rw [hy115]; exact H) | exact H
           have Ny115 := Aside0.mk hy115
           clear hy115
           have H' := Aside0.mk H
           clear H
           obtain ⟨Ao39, co39, eo39⟩ := Kd.R_slice HO_10.out
           subst eo39
           go_wp2_with ((with_reducible refine gate_builtin (b := .append) (xs := #[.tmp 50, .tmp 52]) rfl ?_); at_builtin; refine Kd.S_append (Kd.slice 3 (Kd.int .i64)) (w0 := w) w.heap.size rfl (.tmp 50) (.tmp 52) 36 35 (.slice none 0 0) 24 rfl Try.underlying36 info35 rfl (by decide) (by omega) u7 x7_1 x10_2 [.slice Ao39 x10_2.length co39] (fun _ => True) (fun k_ => some k_ = (.slice Ao39 x10_2.length co39 : Value).ownBlock) rfl rfl ?aP (fun k_ hk_ => ((Kd.R_mono (ok' := fun k_ => ((fun _ => True)) k_ ∧ some k_ ≠ (u7 : Value).ownBlock) (Kd.R_apart' (HO_10.out) (Kd.S_typed HO_7.out) (by decide)) (fun k_ hk => ⟨trivial, hk.2⟩))).1 k_ hk_.symm) ?aF ?aO ?aB ?aS ?aL ?_; (case aP => exact Kd.M_row (Kd.R_mono (Kd.R_tight rfl (Kd.R_mono (ok' := fun k_ => ((fun _ => True)) k_ ∧ some k_ ≠ (u7 : Value).ownBlock) (Kd.R_apart' (HO_10.out) (Kd.S_typed HO_7.out) (by decide)) (fun k_ hk => ⟨trivial, hk.2⟩))) (fun _ h_ => h_))); (case aB => exact d20c); (case aF => exact (fun _ _ => trivial)); (case aO => exact (by (with_reducible repeat (first | apply Kd.S_alloc | apply Kd.S_drewN | apply Kd.S_drew)); exact Kd.S_mono HO_7.out (fun k_ hk => ⟨trivial, fun e_ => hk e_⟩))); (case aS => exact (below_size d20c)); (case aL => have := LMc37.out; omega); intro v116 w38 ho hb hg hat; rw [← Ny115.out] at ho; have n0_ := Aside0.mk (blk_grown (g := gb108) (o := .cells #[.string ((rd_T33 l0 x24_1).f0), .int .i64 ((rd_T33 l0 x24_1).f1), .int .i64 ((rd_T33 l0 x24_1).f2), .slice A107_3 ((rd_T33 l0 x24_1).f3).length c107_3] 33 (0, 0)) d20f hg (Kd.S_ne HO_7.out BK108.out (by decide))); have n1_ := Aside0.mk (hb); have n2_ := Aside0.mk (ho); clear BK108; clear HB; clear HO_7; clear HO_10; have BK108 := n0_; have HB := n1_; have HO117 := n2_; clear n0_ n1_ n2_; clear ho hb hg hat)
           go_roundg k2
           case measure => have := HK1.out; have := HK2.out; omega
           case rel => exact ⟨(y115), (wrap64 (x24_1 + 1)), d20j, H', ⟨by have := HK1.out; have := HK2.out; omega⟩, ⟨by (with_reducible repeat (first | apply Kd.S_alloc | apply Kd.S_drewN | apply Kd.S_drew)); exact HO117.out⟩, ⟨d20c⟩⟩
     · rw [if_neg c11] at H
       have c11b0 : decide (x24_1 < (l0.length : Int)) = false := decide_eq_false c11
       clear c11
       simp only [Option.some.injEq, Prod.mk.injEq] at H
       obtain ⟨rfl, rfl⟩ := H
       go_wp2
       go_ret2
       exact ⟨_, by first | rfl | (simp [errW_none, errW_some] <;> rfl) | (simp [*, errW_none, errW_some] <;> rfl), d20h, d20e⟩
 · rw [if_neg c6] at H
   have c6b0 : (t106 == 0) = false := beq_eq_false_iff_ne.mpr c6
   have c6b1 : (t106 != 0) = true := bne_iff_ne.mpr c6
   simp only [Option.some.injEq, Prod.mk.injEq] at H
   obtain ⟨rfl, rfl⟩ := H
   go_enter Try.func20, Try.ntmps20
   go_wp2_with (first | ((with_reducible refine gate_callee (f := 18) rfl ?_); refine goesL_ (some 14) rfl rfl Try.func18 (by kernel_rfl) rfl #[.slice A0 l0.length c0] rfl d20d ?_; (with_reducible refine (contact_CheckPasses.calls k _ _ l0 t101 _ ?side1 ?side2 A3.out).mono ?_); (case side1 => exact C_go HR0.out); (case side2 => exact HC0.out); rintro e w40 ⟨rfl, hb⟩; refine ⟨_, rfl, ?_⟩; replace HB := Aside0.mk (below_step d20e hb); (try clear hb)) | ((with_reducible refine gate_callee (f := 40) rfl ?_); refine goesL_ (some 16) rfl rfl Try.func40 (by kernel_rfl) rfl #[.int .i64 a1, .int .i64 0, .int .i64 10000000] rfl d20d ?_; (with_reducible refine (kit_Range.calls a1 0 10000000 t102 _ A4.out).mono ?_); rintro e w' ⟨rfl, ⟨nd, rfl⟩⟩; refine ⟨_, rfl, ?_⟩) | ((with_reducible refine gate_dst (N := 17) rfl ?_); refine Kd.R_lit (Kd.int .i64) _ 23 ?hg (N := 17) ?hd (xs := ([t101, t102] : List Int)) (inner := [.int .i64 t101, .int .i64 t102]) (ok := fun _ => True) (okp := fun _ => True) ?hr ?hp (fun _ hk => hk) trivial (Below.refl _ _) (Nat.le_refl _) (by simp) ?_; (case hd => rfl); (case hg => rfl); (case hr => exact d20k); (case hp => exact (Reps.one (show Kd.M (Kd.int .i64) _ _ _ t101 [.int .i64 t101] from rfl) (Reps.one (show Kd.M (Kd.int .i64) _ _ _ t102 [.int .i64 t102] from rfl) (Reps.none _ _)))); intro v104 w41 ho42 hb hg_ hnew_; clear hg_ hnew_; (first | rw [← Ny103.out] at ho42 | (simp only [Int.reduceToNat] at ho42; rw [← Ny103.out] at ho42)); have n0_ := Aside0.mk (Kd.R_lower ho42 (below_size d20e)); have n1_ := Aside0.mk (below_step d20e hb); clear HB; have HO105 := n0_; have HB := n1_; clear n0_ n1_; clear hb ho42; obtain ⟨Ao43, co43, eo43⟩ := Kd.R_slice HO105.out; subst eo43) | ((with_reducible refine gate_callee (f := 38) rfl ?_); refine goesL_ (some 18) rfl rfl Try.func38 (by kernel_rfl) rfl #[.slice Ao43 y103.length co43] rfl d20d ?_; (with_reducible refine (kit_First.calls k _ _ y103 t106 _ ?side1 ?side2 A5.out).mono ?_); (case side1 => exact C_go (Kd.R_reads' HO105.out).2.2); (case side2 => exact (Kd.R_reads' HO105.out).2.1); rintro e w' ⟨rfl, ⟨nd, rfl⟩⟩; refine ⟨_, rfl, ?_⟩))
   go_ret2
   exact ⟨_, by first | rfl | (simp [errW_none, errW_some] <;> rfl) | (simp [*, errW_none, errW_some] <;> rfl), by first | exact Kd.S_nil _ _ _ _ _ | exact Kd.N_nil _ _ _ _ _ | exact Kd.V_nil _ _ _ _ _ | exact Kd.Q_nil _ _ _ _ _ | exact Kd.R_nil _ _ _ _ _, d20e⟩
mutual
def contact_checkBooked.l0 : Nat → List (S33) → List Int → List Int → Int → Int → Option (Int)
  | 0, _, _, _, _, _ => none
  | k + 1, x0, x1, x7, x8, x9 => if x9 < x8 then (if 0 ≤ x9 then (if x9 < (x7.length : Int) then (if (rd x7 x9) < 0 then (contact_checkBooked.j1 k x0 x1 x9 (rd x7 x9) x7 x8 x9 true) else (contact_checkBooked.j1 k x0 x1 x9 (rd x7 x9) x7 x8 x9 (decide ((rd x7 x9) ≥ (x0.length : Int))))) else (none)) else (none)) else (some 0)
def contact_checkBooked.j1 : Nat → List (S33) → List Int → Int → Int → List Int → Int → Int → Bool → Option (Int)
  | 0, _, _, _, _, _, _, _, _ => none
  | k + 1, x0, x1, x5, x6, x7, x8, x9, x21 => if x21 = true then (some 9) else (if x5 > 0 then (if 0 ≤ (wrap64 (x5 - 1)) then (if (wrap64 (x5 - 1)) < (x1.length : Int) then (if x6 ≤ (rd x1 (wrap64 (x5 - 1))) then (some 8) else (contact_checkBooked.l0 k x0 x1 x7 x8 (wrap64 (x9 + 1)))) else (none)) else (none)) else (contact_checkBooked.l0 k x0 x1 x7 x8 (wrap64 (x9 + 1))))
end
def contact_checkBooked.f (k : Nat) (l0 : List (S33)) (l1 : List Int) : Option (Int) := contact_checkBooked.l0 k l0 l1 l1 (l1.length : Int) 0
theorem d52a {p : Prop} (h : p := by repeat (first | exact Drawn0.refl _ | apply Drawn0.step)) : p := h
theorem d52b {p : Prop} (h : p := by first | (with_reducible assumption) | assumption) : p := h
theorem d52c {p : Prop} (h : p := by first | rfl | (simp; done) | (simp [*]; done)) : p := h
set_option maxHeartbeats 8000000 in
set_option maxRecDepth 100000 in
theorem contact_checkBooked.calls (k : Nat) (A0 : Option Addr) (c0 : Nat) (l0 : List (S33)) (A1 : Option Addr) (c1 : Nat) (l1 : List Int) (r : Int) (w : World) (hr0 : Kd.C k33 w A0 l0.length l0) (hc0 : l0.length ≤ c0) (hr1 : Kd.C (Kd.int .i64) w A1 l1.length l1) (hc1 : l1.length ≤ c1) (h : contact_checkBooked.f k l0 l1 = some r) :
 Calls Try.prog 52 #[.slice A0 l0.length c0, .slice A1 l1.length c1] w fun e w' => e = .returned (.int .i64 r) ∧ Drawn0 w w' := by
 have HR0 := Aside0.mk hr0
 have HC0 := Aside0.mk hc0
 clear hr0 hc0
 have HR1 := Aside0.mk hr1
 have HC1 := Aside0.mk hc1
 clear hr1 hc1
 have H : (contact_checkBooked.l0 k l0 l1 l1 (l1.length : Int) 0) = some r := h
 clear h
 have H' := Aside0.mk H
 clear H
 go_enter Try.func52, Try.ntmps52
 go_wp2
 go_loopg [9] k (fun kq v9 w' => ∃ (x9_1 : Int), v9 = .int .i64 x9_1 ∧ Aside0 (contact_checkBooked.l0 kq l0 l1 l1 (l1.length : Int) x9_1 = some r) ∧ Aside0 (kq ≤ k) ∧ Drawn0 w w')
 case atStart => exact ⟨(0), d52c, H', ⟨Nat.le_refl _⟩, d52a⟩
 case round =>
  clear H'
  obtain ⟨x9_1, rfl, HA, HK1, ⟨m1, rfl⟩⟩ := hrel
  cases gk with
  | zero => exact absurd HA.out (by simp [contact_checkBooked.l0])
  | succ k1 =>
   have H := HA.out
   clear HA
   simp only [contact_checkBooked.l0] at H
   by_cases c3 : x9_1 < (l1.length : Int)
   · rw [if_pos c3] at H
     have c3b0 : decide (x9_1 < (l1.length : Int)) = true := decide_eq_true c3
     clear c3
     replace H := guardT H; obtain ⟨c4, H⟩ := H
     have c4b0 : decide (0 ≤ x9_1) = true := decide_eq_true c4
     clear c4
     replace H := guardT H; obtain ⟨c5, H⟩ := H
     have c5b0 : decide (x9_1 < (l1.length : Int)) = true := decide_eq_true c5
     clear c5
     have HC6 := Aside0.mk H
     clear H
     have p101 : 0 ≤ (x9_1 : Int) := of_decide_eq_true d52b
     have q101 : x9_1 < (l1.length : Int) := of_decide_eq_true d52b
     obtain ⟨ad101, e101, hx101_0⟩ := Kd.at_int HR1.out x9_1 p101 q101
     cases e101
     replace p101 := eq_true p101
     replace q101 := eq_true q101
     go_upto_region 4 with (fail)
     go_cut [21] (fun v21 wc => ∃ (kq : Nat) (x21_5 : Bool), v21 = .bool x21_5 ∧ Aside0 (contact_checkBooked.j1 kq l0 l1 x9_1 (rd l1 x9_1) l1 (l1.length : Int) x9_1 x21_5 = some r) ∧ Aside0 (kq ≤ k1) ∧ Drawn0 w wc)
     case first =>
      have H := HC6.out
      clear HC6
      by_cases c7 : (rd l1 x9_1) < 0
      · rw [if_pos c7] at H
        have c7b0 : decide ((rd l1 x9_1) < 0) = true := decide_eq_true c7
        clear c7
        (first | rw [c7b0] | (simp only [i64_w, i32_w]; rw [c7b0]) | skip)
        have H' := Aside0.mk H
        clear H
        go_wp2
        go_meet
        case rel => exact ⟨_, (true), d52c, H', ⟨by have := HK1.out; first | omega | exact Nat.le_refl _⟩, d52a⟩
      · rw [if_neg c7] at H
        have c7b0 : decide ((rd l1 x9_1) < 0) = false := decide_eq_false c7
        clear c7
        (first | rw [c7b0] | (simp only [i64_w, i32_w]; rw [c7b0]) | skip)
        have H' := Aside0.mk H
        clear H
        go_wp2
        go_meet
        case rel => exact ⟨_, (decide ((rd l1 x9_1) ≥ (l0.length : Int))), d52c, H', ⟨by have := HK1.out; first | omega | exact Nat.le_refl _⟩, d52a⟩
     case rest =>
      clear HC6
      try clear c3b0
      try clear c4b0
      try clear c5b0
      try clear hx101_0
      try clear p101
      try clear q101
      obtain ⟨kq, x21_5, rfl, HA, HJ5, ⟨mc5, rfl⟩⟩ := hcut
      cases kq with
      | zero => exact absurd HA.out (by simp [contact_checkBooked.j1])
      | succ kj5 =>
       have H := HA.out
       clear HA
       simp only [contact_checkBooked.j1] at H
       by_cases c8 : x21_5 = true
       · subst c8
         replace H := iteT H
         obtain rfl := Option.some.inj H
         go_wp2
         go_ret
         exact ⟨d52c, d52a⟩
       · replace c8 := Bool.eq_false_iff.mpr c8
         subst c8
         replace H := iteF H
         by_cases c9 : x9_1 > 0
         · rw [if_pos c9] at H
           have c9b0 : decide (0 < x9_1) = true := decide_eq_true c9
           clear c9
           obtain ⟨ji10, hji10⟩ : ∃ j_ : Int, (wrap64 (x9_1 - 1)) = j_ := ⟨_, rfl⟩
           replace H : (if 0 ≤ (ji10) then (if (ji10) < (l1.length : Int) then (if (rd l1 x9_1) ≤ (rd l1 (ji10)) then (some 8) else (contact_checkBooked.l0 kj5 l0 l1 l1 (l1.length : Int) (wrap64 (x9_1 + 1)))) else (none)) else (none)) = some r := by first | (rw [hji10] at H; exact H) | (simp only [hji10] at H ⊢; exact H)
           have hji10w : (IntKind.i64.wrap (x9_1 - 1)) = ji10 := (i64_w _).trans hji10
           replace H := guardT H; obtain ⟨c11, H⟩ := H
           have c11b0 : decide (0 ≤ (ji10)) = true := decide_eq_true c11
           clear c11
           replace H := guardT H; obtain ⟨c12, H⟩ := H
           have c12b0 : decide ((ji10) < (l1.length : Int)) = true := decide_eq_true c12
           clear c12
           by_cases c13 : (rd l1 x9_1) ≤ (rd l1 (ji10))
           · rw [if_pos c13] at H
             have c13b0 : decide ((rd l1 x9_1) ≤ (rd l1 (ji10))) = true := decide_eq_true c13
             clear c13
             obtain rfl := Option.some.inj H
             have p102 : 0 ≤ ((ji10) : Int) := of_decide_eq_true d52b
             have q102 : (ji10) < (l1.length : Int) := of_decide_eq_true d52b
             obtain ⟨ad102, e102, hx102_0⟩ := Kd.at_int HR1.out (ji10) p102 q102
             obtain rfl : ad101 = ad102 := (by injection e102)
             replace p102 := eq_true p102
             replace q102 := eq_true q102
             go_wp2
             go_ret
             exact ⟨by first | rfl | (simp; done) | (simp only [← hji10] <;> (first | rfl | simp)) | (simp [*]; done), d52a⟩
           · rw [if_neg c13] at H
             have c13b0 : decide ((rd l1 x9_1) ≤ (rd l1 (ji10))) = false := decide_eq_false c13
             clear c13
             have H' := Aside0.mk H
             clear H
             have p102 : 0 ≤ ((ji10) : Int) := of_decide_eq_true d52b
             have q102 : (ji10) < (l1.length : Int) := of_decide_eq_true d52b
             obtain ⟨ad102, e102, hx102_0⟩ := Kd.at_int HR1.out (ji10) p102 q102
             obtain rfl : ad101 = ad102 := (by injection e102)
             replace p102 := eq_true p102
             replace q102 := eq_true q102
             go_wp2
             go_roundg kj5
             case measure => have := HK1.out; have := HJ5.out; omega
             case rel => exact ⟨(wrap64 (x9_1 + 1)), d52c, H', ⟨by have := HK1.out; have := HJ5.out; omega⟩, d52a⟩
         · rw [if_neg c9] at H
           have c9b0 : decide (0 < x9_1) = false := decide_eq_false c9
           clear c9
           have H' := Aside0.mk H
           clear H
           go_wp2
           go_roundg kj5
           case measure => have := HK1.out; have := HJ5.out; omega
           case rel => exact ⟨(wrap64 (x9_1 + 1)), d52c, H', ⟨by have := HK1.out; have := HJ5.out; omega⟩, d52a⟩
   · rw [if_neg c3] at H
     have c3b0 : decide (x9_1 < (l1.length : Int)) = false := decide_eq_false c3
     clear c3
     obtain rfl := Option.some.inj H
     go_wp2
     go_ret
     exact ⟨d52c, d52a⟩
end Go.Proofs.Ytbngmblgkkdhpaa.Q
