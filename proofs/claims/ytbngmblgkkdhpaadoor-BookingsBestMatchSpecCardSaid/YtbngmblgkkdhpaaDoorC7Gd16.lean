-- Made by wip/tools/claimp.py of this session's texts; Lean checks it.
import Derived.Test.YtbngmblgkkdhpaaDoorC7Q0
import Derived.Test.YtbngmblgkkdhpaaDoorC7Gd14
import Derived.Test.YtbngmblgkkdhpaaDoorC7Gd15
import Derived.Test.YtbngmblgkkdhpaaDoorC7Gd5
import Derived.Test.YtbngmblgkkdhpaaDoorC7Gd6
import Derived.Test.YtbngmblgkkdhpaaDoorC7Gd7
namespace Go.Proofs.YtbngmblgkkdhpaaDoor.Q
open Go.RowKit Go.Proofs.YtbngmblgkkdhpaaDoorW.PrintWords Go.Proofs.YtbngmblgkkdhpaaDoorW.PrintLast Go.Proofs.YtbngmblgkkdhpaaDoorW.PrintMore
attribute [local go_sem] max2_int min2_int max_two min_two max_three min_three max_four min_four
open Go.Proofs.YtbngmblgkkdhpaaDoor.Base
attribute [local go_sem high] str_leq str_gtr str_geq
set_option linter.unusedVariables false
set_option linter.unusedSimpArgs false
mutual
def perigeeref10_Fair.l0 : Nat → List (S55) → Int → List ByteArray → Int → Int → List Int → Int → Option (List Int × Int × Bool × Int)
  | 0, _, _, _, _, _, _, _ => none
  | k + 1, x0, x1, x9, x11, x12, x107000, x107001 => if 0 ≤ (IntKind.u64.wrap ((x0.length : Int))) then (if x12 < (shl .i64 1 (IntKind.u64.wrap ((x0.length : Int)))) then ((perigeeref10_chosen.f k x12 (x0.length : Int)).bind fun t107 => ((perigeeref10_apart.f k x0 t107 x1).bind fun t110 => (if t110 = true then (perigeeref10_Fair.l1 k x0 x1 x9 x11 x12 t107 0 0 x107000 x107001) else (perigeeref10_Fair.l0 k x0 x1 x9 x11 (wrap64 (x12 + 1)) x107000 x107001)))) else (some (x107000, x11, true, 0))) else (none)
def perigeeref10_Fair.l1 : Nat → List (S55) → Int → List ByteArray → Int → Int → List Int → Int → Int → List Int → Int → Option (List Int × Int × Bool × Int)
  | 0, _, _, _, _, _, _, _, _, _, _ => none
  | k + 1, x0, x1, x9, x11, x12, x13, x14, x15, x107000, x107001 => if x15 < (x9.length : Int) then (if 0 ≤ x15 then ((perigeeref10_carried.f k x0 x13 (rdOf ByteArray.empty x9 x15)).bind fun bt112 => (if x15 = 0 then (perigeeref10_Fair.l1 k x0 x1 x9 x11 x12 x13 bt112.1 (wrap64 (x15 + 1)) x107000 x107001) else (if bt112.1 < x14 then (perigeeref10_Fair.l1 k x0 x1 x9 x11 x12 x13 bt112.1 (wrap64 (x15 + 1)) x107000 x107001) else (perigeeref10_Fair.l1 k x0 x1 x9 x11 x12 x13 x14 (wrap64 (x15 + 1)) x107000 x107001)))) else (none)) else ((perigeeref10_total.f k x0 x13).bind fun t114 => (if x14 > x11 then (perigeeref10_Fair.l0 k x0 x1 x9 x14 (wrap64 (x12 + 1)) x13 t114) else (if x14 = x11 then ((perigeeref10_better.f k x13 t114 x107000 x107001).bind fun t116 => (if t116 = true then (perigeeref10_Fair.l0 k x0 x1 x9 x14 (wrap64 (x12 + 1)) x13 t114) else (perigeeref10_Fair.l0 k x0 x1 x9 x11 (wrap64 (x12 + 1)) x107000 x107001))) else (perigeeref10_Fair.l0 k x0 x1 x9 x11 (wrap64 (x12 + 1)) x107000 x107001))))
end
def perigeeref10_Fair.f (k : Nat) (l0 : List (S55)) (a1 : Int) : Option (List Int × Int × Bool × Int) := (perigeeref10_CheckPasses.f k l0).bind fun t101 => (if t101 = 0 then ((perigeeref10_gapOK.f a1).bind fun t102 => (if t102 = true then (if (l0.length : Int) > 12 then (some (([] : List Int), 0, false, 0)) else ((perigeeref10_stations.f k l0).bind fun t103 => (perigeeref10_Fair.l0 k l0 a1 t103 (-1) 0 ([] : List Int) 0))) else (some (([] : List Int), 0, false, 1)))) else (some (([] : List Int), 0, false, t101)))
theorem d17a {p : Prop} (h : p := by (with_reducible repeat (first | refine blk_drewN ?_ _ | refine blk_drew ?_ | refine blk_alloc ?_ _)); refine blk_far ?_ NB106_115.out _; (with_reducible repeat (first | refine blk_drewN ?_ _ | refine blk_drew ?_ | refine blk_alloc ?_ _)); refine blk_far ?_ NB106_115.out _; (with_reducible repeat (first | refine blk_drewN ?_ _ | refine blk_drew ?_ | refine blk_alloc ?_ _)); exact BK106.out) : p := h
theorem d17b {p : Prop} (h : p := by (with_reducible repeat (first | apply Kd.R_alloc | apply Kd.R_drewN | apply Kd.R_drew)); exact (Kd.R_mono (Kd.R_far (p := ⟨gb115, 1, none⟩) (Kd.R_far (p := ⟨gb115, 0, none⟩) (Kd.R_types HO_107000.out BK115.out (by decide)) (fun _ hk => hk.2) (.slice Ao22 t107.length co22)) (fun _ hk => hk.2) (.int .i64 t114)) (fun _ h_ => h_.1))) : p := h
theorem d17c {p : Prop} (h : p := by (with_reducible repeat (first | apply Kd.R_alloc | apply Kd.R_drewN | apply Kd.R_drew)); exact (Kd.R_mono (Kd.R_far (p := ⟨gb115, 1, none⟩) (Kd.R_far (p := ⟨gb115, 0, none⟩) (Kd.R_types HO_13.out BK115.out (by decide)) (fun _ hk => hk.2) (.slice Ao22 t107.length co22)) (fun _ hk => hk.2) (.int .i64 t114)) (fun _ h_ => h_.1))) : p := h
theorem d17d {p : Prop} (h : p := by repeat (first | (with_reducible first | exact HB.out | apply below_alloc | apply pw_below_drewN | apply below_drew1 | refine below_set ?_ GE106.out | refine below_set ?_ GE115.out) | exact HB.out)) : p := h
theorem d17e {p : Prop} (h : p := by repeat (first | (with_reducible first | exact HB.out | apply below_alloc | apply pw_below_drewN | apply below_drew1 | refine below_set ?_ GE106.out) | exact HB.out)) : p := h
theorem d17f {p : Prop} (h : p := by first | exact Kd.R_nil _ _ _ _ _ | exact Kd.N_nil _ _ _ _ _ | exact Kd.V_nil _ _ _ _ _ | exact Kd.Q_nil _ _ _ _ _ | exact Kd.S_nil _ _ _ _ _) : p := h
theorem d17g {p : Prop} (h : p := by (try simp only [List.map_toArray, List.map_cons, List.map_nil]); first | done | rfl | (simp only [List.length_drop, List.length_take]; rfl)) : p := h
theorem d17h {p : Prop} (h : p := by repeat (first | (with_reducible first | exact HB.out | apply below_alloc | apply pw_below_drewN | apply below_drew1) | exact HB.out)) : p := h
theorem d17i {p : Prop} (h : p := by (with_reducible repeat (first | refine blk_drewN ?_ _ | refine blk_drew ?_ | refine blk_alloc ?_ _)); exact BK106.out) : p := h
theorem d17j {p : Prop} (h : p := by (with_reducible repeat (first | apply Kd.R_alloc | apply Kd.R_drewN | apply Kd.R_drew)); exact HO_107000.out) : p := h
theorem d17k {p : Prop} (h : p := by (with_reducible repeat (first | apply Kd.R_alloc | apply Kd.R_drewN | apply Kd.R_drew)); exact HO_13.out) : p := h
theorem d17l {p : Prop} (h : p := by (with_reducible repeat (first | apply Kd.R_alloc | apply Kd.R_drewN | apply Kd.R_drew)); exact HO_9.out) : p := h
theorem d17m {p : Prop} (h : p := by first | rfl | (simp [errW_none, errW_some] <;> rfl) | (simp [*, errW_none, errW_some] <;> rfl)) : p := h
theorem d17n {p : Prop} (h : p := by first | (with_reducible assumption) | assumption) : p := h
theorem d17o {p : Prop} (h : p := by first | rfl | (simp; done) | (simp [*]; done)) : p := h
theorem d17p {p : Prop} (h : p := by first | (go_simp; done) | (go_simp; rfl)) : p := h
theorem d17q {p : Prop} (h : p := by exact C_go (Kd.C_below HR0.out HB.out)) : p := h
theorem d17r {p : Prop} (h : p := by exact C_go (Kd.R_reads' HO_13.out).2.2) : p := h
theorem d17s {p : Prop} (h : p := by exact (Kd.R_reads' HO_13.out).2.1) : p := h
set_option maxHeartbeats 8000000 in
set_option maxRecDepth 100000 in
theorem perigeeref10_Fair.calls (k : Nat) (A0 : Option Addr) (c0 : Nat) (l0 : List (S55)) (a1 : Int) (r1 : List Int) (r2 : Int) (r3 : Bool) (r4 : Int) (w : World) (hr0 : Kd.C k55 w A0 l0.length l0) (hc0 : l0.length ≤ c0) (h : perigeeref10_Fair.f k l0 a1 = some (r1, r2, r3, r4)) :
 Calls Tryd.prog 17 #[.slice A0 l0.length c0, .int .i64 a1] w fun e w' => ∃ v0_ : Value, e = .returned (.tuple #[v0_, .int .i64 r2, .bool r3, .int .i64 r4]) ∧ Kd.R (Kd.int .i64) 3 w' w.heap.size (fun _ => True) v0_ r1 ∧ Below w.heap.size w w' := by
 have hu89 := Tryd.underlying89
 have HR0 := Aside0.mk hr0
 have HC0 := Aside0.mk hc0
 clear hr0 hc0
 have HB := Aside0.mk (Below.refl w.heap.size w)
 have H : ((perigeeref10_CheckPasses.f k l0).bind fun t101 => (if t101 = 0 then ((perigeeref10_gapOK.f a1).bind fun t102 => (if t102 = true then (if (l0.length : Int) > 12 then (some (([] : List Int), 0, false, 0)) else ((perigeeref10_stations.f k l0).bind fun t103 => (perigeeref10_Fair.l0 k l0 a1 t103 (-1) 0 ([] : List Int) 0))) else (some (([] : List Int), 0, false, 1)))) else (some (([] : List Int), 0, false, t101)))) = some (r1, r2, r3, r4) := h
 clear h
 replace H := bindS H; obtain ⟨t101, A3, H⟩ := H
 by_cases c4 : t101 = 0
 · rw [if_pos c4] at H
   have c4b0 : (t101 == 0) = true := beq_iff_eq.mpr c4
   have c4b1 : (t101 != 0) = false := bne_eq_false_iff_eq.mpr c4
   clear c4
   replace H := bindS H; obtain ⟨t102, A5, H⟩ := H
   by_cases c6 : t102 = true
   · subst c6
     replace H := iteT H
     by_cases c7 : (l0.length : Int) > 12
     · rw [if_pos c7] at H
       have c7b0 : decide (12 < (l0.length : Int)) = true := decide_eq_true c7
       have c7b1 : decide (12 < l0.length) = true := decide_eq_true (by omega)
       clear c7
       simp only [Option.some.injEq, Prod.mk.injEq] at H
       obtain ⟨rfl, rfl, rfl, rfl⟩ := H
       go_enter Tryd.func17, Tryd.ntmps17
       go_wp2_with (first | ((with_reducible refine gate_callee (f := 33) rfl ?_); refine goesL_ (some 20) rfl rfl Tryd.func33 (by kernel_rfl) rfl #[.slice A0 l0.length c0] rfl d17g ?_; (with_reducible refine (perigeeref10_CheckPasses.calls k _ _ l0 t101 _ ?side1 ?side2 A3.out).mono ?_); (case side1 => exact C_go HR0.out); (case side2 => exact HC0.out); rintro e w8 ⟨rfl, hb⟩; refine ⟨_, rfl, ?_⟩; replace HB := Aside0.mk (below_step d17h hb); (try clear hb)) | ((with_reducible refine gate_callee (f := 44) rfl ?_); refine goesL_ (some 25) rfl rfl Tryd.func44 (by kernel_rfl) rfl #[.int .i64 a1] rfl d17g ?_; (with_reducible refine (perigeeref10_gapOK.calls a1 true _ A5.out).mono ?_); rintro e w' ⟨rfl, ⟨nd, rfl⟩⟩; refine ⟨_, rfl, ?_⟩))
       refine bodyPost_ret (results_list (rs := [.tmp 4, .tmp 5, .tmp 6, .tmp 7]) rfl (by simp) (.tmp (.tmp (.tmp (.tmp .nil))))) rfl ?_
       exact ⟨_, d17m, d17f, d17h⟩
     · rw [if_neg c7] at H
       have c7b0 : decide (12 < (l0.length : Int)) = false := decide_eq_false c7
       have c7b1 : decide (12 < l0.length) = false := decide_eq_false (by omega)
       clear c7
       replace H := bindS H; obtain ⟨t103, A9, H⟩ := H
       have H' := Aside0.mk H
       clear H
       go_enter Tryd.func17, Tryd.ntmps17
       go_wp2_with (first | ((with_reducible refine gate_callee (f := 33) rfl ?_); refine goesL_ (some 20) rfl rfl Tryd.func33 (by kernel_rfl) rfl #[.slice A0 l0.length c0] rfl d17g ?_; (with_reducible refine (perigeeref10_CheckPasses.calls k _ _ l0 t101 _ ?side1 ?side2 A3.out).mono ?_); (case side1 => exact C_go HR0.out); (case side2 => exact HC0.out); rintro e w10 ⟨rfl, hb⟩; refine ⟨_, rfl, ?_⟩; replace HB := Aside0.mk (below_step d17h hb); (try clear hb)) | ((with_reducible refine gate_callee (f := 44) rfl ?_); refine goesL_ (some 25) rfl rfl Tryd.func44 (by kernel_rfl) rfl #[.int .i64 a1] rfl d17g ?_; (with_reducible refine (perigeeref10_gapOK.calls a1 true _ A5.out).mono ?_); rintro e w' ⟨rfl, ⟨nd, rfl⟩⟩; refine ⟨_, rfl, ?_⟩; (try (rw [drewN_self w10]; generalize hq_ : World.drewN w10 _ = w10; have n0_ : Aside0 (Below w.heap.size w w10) := ⟨by rw [← hq_]; exact d17h⟩; clear HB hq_; have HB := n0_; clear n0_))) | ((with_reducible refine gate_callee (f := 51) rfl ?_); refine goesL_ (some 31) rfl rfl Tryd.func51 (by kernel_rfl) rfl #[.slice A0 l0.length c0] rfl d17g ?_; (with_reducible refine (perigeeref10_stations.calls k _ _ l0 t103 _ ?side1 ?side2 A9.out).mono ?_); (case side1 => exact d17q); (case side2 => exact HC0.out); rintro e w11 ⟨v104, rfl, ho0, hb⟩; refine ⟨_, rfl, ?_⟩; have n0_ := Aside0.mk (Kd.R_lower ho0 (below_size d17h)); have n1_ := Aside0.mk (below_step d17h hb); clear HB; have HO105 := n0_; have HB := n1_; clear n0_ n1_; (try clear hb); (try clear ho0)) | ((with_reducible refine gate_dst (N := 10) rfl ?_); refine box_event ?hg (N := 10) ?hd (cs := #[.slice none 0 0, .int .i64 0]) (t := 89) ?hr ?_; (case hd => rfl); (case hg => rfl); (case hr => exact d17p); intro gb106 hg w12 hbox hb; have n0_ := Aside0.mk (Kd.R_below (by (with_reducible repeat (first | apply Kd.R_alloc | apply Kd.R_drewN | apply Kd.R_drew)); exact HO105.out) hb); have n1_ := Aside0.mk (below_step d17h hb); have n2_ := Aside0.mk (hbox); have n3_ := Aside0.mk ((by rw [hg]; exact (below_size d17h) : w.heap.size ≤ gb106)); have n4_ := Aside0.mk ((by rw [hg]; exact (below_size d17h) : w.heap.size ≤ gb106)); clear HO105; clear HB; have HO105 := n0_; have HB := n1_; have BK106 := n2_; have GW106 := n3_; have GE106 := n4_; clear n0_ n1_ n2_ n3_ n4_; clear hb hbox hg; have hcz13_0 : w12.cell? ⟨gb106, 0, none⟩ = some (.slice none 0 0) := (blk_cell BK106.out 0).trans rfl; have hcz13_1 : w12.cell? ⟨gb106, 1, none⟩ = some (.int .i64 0) := (blk_cell BK106.out 1).trans rfl; have hfz13_0 := blk_frozen BK106.out 0; have hfz13_1 := blk_frozen BK106.out 1))
       go_loopg [11, 12] k (fun kq v11 v12 w' => ∃ (x11_1 : Int) (x12_1 : Int) (x107000_1 : List Int) (x107001_1 : Int) (u107000 : Value), v11 = .int .i64 x11_1 ∧ v12 = .int .i64 x12_1 ∧ Aside0 (perigeeref10_Fair.l0 kq l0 a1 t103 x11_1 x12_1 x107000_1 x107001_1 = some (r1, r2, r3, r4)) ∧ Aside0 (kq ≤ k) ∧ Aside0 (Kd.R Kd.string 9 w' w.heap.size (fun _ => True) v104 t103) ∧ Aside0 (Kd.R (Kd.int .i64) 3 w' w.heap.size (fun _ => True) u107000 x107000_1) ∧ Aside0 (w'.heap[gb106]? = some (.cells #[u107000, .int .i64 x107001_1] 89 (0, 0))) ∧ Aside0 (Below w.heap.size w w'))
       case atStart => exact ⟨((-1)), (0), (([] : List Int)), (0), (.slice none 0 0), d17o, d17o, H', ⟨Nat.le_refl _⟩, ⟨by (with_reducible repeat (first | apply Kd.R_alloc | apply Kd.R_drewN | apply Kd.R_drew)); exact Kd.R_mono (Kd.R_far (p := ⟨gb106, 1, none⟩) (Kd.R_far (p := ⟨gb106, 0, none⟩) (Kd.R_types HO105.out BK106.out (by decide)) (fun _ hk => hk.2) (.slice none 0 0)) (fun _ hk => hk.2) (.int .i64 0)) (fun _ hk => trivial)⟩, ⟨d17f⟩, ⟨by (with_reducible repeat (first | refine blk_drewN ?_ _ | refine blk_drew ?_ | refine blk_alloc ?_ _)); refine blk_put (cs := #[.slice none 0 0, .int .i64 0]) ?_ 1 _ rfl; (with_reducible repeat (first | refine blk_drewN ?_ _ | refine blk_drew ?_ | refine blk_alloc ?_ _)); refine blk_put (cs := #[.slice none 0 0, .int .i64 0]) ?_ 0 _ rfl; (with_reducible repeat (first | refine blk_drewN ?_ _ | refine blk_drew ?_ | refine blk_alloc ?_ _)); exact BK106.out⟩, ⟨d17e⟩⟩
       case round =>
        clear H'
        try clear c4b0
        try clear c4b1
        try clear c7b0
        try clear c7b1
        try clear hcz13_0
        try clear hcz13_1
        try clear hfz13_0
        try clear hfz13_1
        obtain ⟨x11_1, x12_1, x107000_1, x107001_1, u107000, rfl, rfl, HA, HK1, HO_9, HO_107000, BK106, HB⟩ := hrel
        cases gk with
        | zero => exact absurd HA.out (by simp [perigeeref10_Fair.l0])
        | succ k1 =>
         have H := HA.out
         clear HA
         simp only [perigeeref10_Fair.l0] at H
         obtain ⟨ji14, hji14⟩ : ∃ j_ : Int, (IntKind.u64.wrap ((l0.length : Int))) = j_ := ⟨_, rfl⟩
         replace H : (if 0 ≤ (ji14) then (if x12_1 < (shl .i64 1 (ji14)) then ((perigeeref10_chosen.f k1 x12_1 (l0.length : Int)).bind fun t107 => ((perigeeref10_apart.f k1 l0 t107 a1).bind fun t110 => (if t110 = true then (perigeeref10_Fair.l1 k1 l0 a1 t103 x11_1 x12_1 t107 0 0 x107000_1 x107001_1) else (perigeeref10_Fair.l0 k1 l0 a1 t103 x11_1 (wrap64 (x12_1 + 1)) x107000_1 x107001_1)))) else (some (x107000_1, x11_1, true, 0))) else (none)) = some (r1, r2, r3, r4) := by first | (rw [hji14] at H; exact H) | (simp only [hji14] at H ⊢; exact H)
         replace H := guardT H; obtain ⟨c15, H⟩ := H
         have c15b0 := eq_true c15
         have c15b1 : decide (0 ≤ (ji14)) = true := decide_eq_true c15
         clear c15
         obtain ⟨ji16, hji16⟩ : ∃ j_ : Int, (shl .i64 1 (ji14)) = j_ := ⟨_, rfl⟩
         replace H : (if x12_1 < (ji16) then ((perigeeref10_chosen.f k1 x12_1 (l0.length : Int)).bind fun t107 => ((perigeeref10_apart.f k1 l0 t107 a1).bind fun t110 => (if t110 = true then (perigeeref10_Fair.l1 k1 l0 a1 t103 x11_1 x12_1 t107 0 0 x107000_1 x107001_1) else (perigeeref10_Fair.l0 k1 l0 a1 t103 x11_1 (wrap64 (x12_1 + 1)) x107000_1 x107001_1)))) else (some (x107000_1, x11_1, true, 0))) = some (r1, r2, r3, r4) := by first | (rw [hji16] at H; exact H) | (simp only [hji16] at H ⊢; exact H)
         have hji16_ : (IntKind.i64.wrap (1 * 2 ^ min (ji14).toNat 64)) = ji16 := hji16
         have hji16z : (ji14) ≤ 64 → (IntKind.i64.wrap (1 * 2 ^ (ji14).toNat)) = ji16 := shl_small hji16
         have hji16u : (IntKind.i64.wrap (2 ^ min (ji14).toNat 64)) = ji16 := by have h_ := hji16_; rw [Int.one_mul] at h_; exact h_
         have hji16v : (ji14) ≤ 64 → (IntKind.i64.wrap (2 ^ (ji14).toNat)) = ji16 := fun hle_ => by have h_ := hji16z hle_; rw [Int.one_mul] at h_; exact h_
         have hji16y : (wrap64 (1 * 2 ^ min (ji14).toNat 64)) = ji16 := (i64_w _).symm.trans hji16_
         have hji16x : (ji14) ≤ 64 → (wrap64 (1 * 2 ^ (ji14).toNat)) = ji16 := fun h_ => (i64_w _).symm.trans (hji16z h_)
         by_cases c17 : x12_1 < (ji16)
         · rw [if_pos c17] at H
           have c17b0 : decide (x12_1 < (ji16)) = true := decide_eq_true c17
           clear c17
           replace H := bindS H; obtain ⟨t107, A18, H⟩ := H
           replace H := bindS H; obtain ⟨t110, A19, H⟩ := H
           by_cases c20 : t110 = true
           · subst c20
             replace H := iteT H
             have H' := Aside0.mk H
             clear H
             go_wp2_with (first | ((with_reducible refine gate_callee (f := 52) rfl ?_); refine goesL_ (some 44) rfl rfl Tryd.func52 (by kernel_rfl) rfl #[.int .i64 x12_1, .int .i64 (l0.length : Int)] rfl d17g ?_; (with_reducible refine (perigeeref10_chosen.calls k1 x12_1 (l0.length : Int) t107 _ A18.out).mono ?_); rintro e w21 ⟨v108, rfl, ho0, hb⟩; refine ⟨_, rfl, ?_⟩; have n0_ := Aside0.mk (Kd.R_below d17l hb); have n1_ := Aside0.mk (Kd.R_elder' d17j (Kd.R_base ho0) hb); have n2_ := Aside0.mk (Kd.R_lower (Kd.R_new' ho0 (Kd.R_lt d17j)) (below_size d17e)); have n3_ := Aside0.mk (blk_below (g := gb106) (o := .cells #[u107000, .int .i64 x107001_1] 89 (0, 0)) d17i hb); have n4_ := Aside0.mk (below_step d17e hb); clear HO_9; clear HO_107000; clear BK106; clear HB; have HO_9 := n0_; have HO_107000 := n1_; have HO109 := n2_; have BK106 := n3_; have HB := n4_; clear n0_ n1_ n2_ n3_ n4_; (try clear hb); (try clear ho0); obtain ⟨Ao22, co22, eo22⟩ := Kd.R_slice HO109.out; subst eo22) | ((with_reducible refine gate_callee (f := 53) rfl ?_); refine goesL_ (some 48) rfl rfl Tryd.func53 (by kernel_rfl) rfl #[.slice A0 l0.length c0, .slice Ao22 t107.length co22, .int .i64 a1] rfl d17g ?_; (with_reducible refine (perigeeref10_apart.calls k1 _ _ l0 _ _ t107 a1 true _ ?side1 ?side2 ?side3 ?side4 A19.out).mono ?_); (case side1 => exact d17q); (case side2 => exact HC0.out); (case side3 => exact C_go (Kd.R_reads' HO109.out).2.2); (case side4 => exact (Kd.R_reads' HO109.out).2.1); rintro e w23 ⟨rfl, hb⟩; refine ⟨_, rfl, ?_⟩; have n0_ := Aside0.mk (Kd.R_below d17l hb); have n1_ := Aside0.mk (Kd.R_below d17j hb); have n2_ := Aside0.mk (Kd.R_below (by (with_reducible repeat (first | apply Kd.R_alloc | apply Kd.R_drewN | apply Kd.R_drew)); exact HO109.out) hb); have n3_ := Aside0.mk (blk_below (g := gb106) (o := .cells #[u107000, .int .i64 x107001_1] 89 (0, 0)) d17i hb); have n4_ := Aside0.mk (below_step d17e hb); clear HO_9; clear HO_107000; clear HO109; clear BK106; clear HB; have HO_9 := n0_; have HO_107000 := n1_; have HO109 := n2_; have BK106 := n3_; have HB := n4_; clear n0_ n1_ n2_ n3_ n4_; (try clear hb)))
             go_loopg [14, 15] k1 (fun kq v14 v15 w' => ∃ (x14_2 : Int) (x15_2 : Int), v14 = .int .i64 x14_2 ∧ v15 = .int .i64 x15_2 ∧ Aside0 (perigeeref10_Fair.l1 kq l0 a1 t103 x11_1 x12_1 t107 x14_2 x15_2 x107000_1 x107001_1 = some (r1, r2, r3, r4)) ∧ Aside0 (kq ≤ k1) ∧ Aside0 (Kd.R Kd.string 9 w' w.heap.size (fun _ => True) v104 t103) ∧ Aside0 (Kd.R (Kd.int .i64) 3 w' w.heap.size (fun k_ => some k_ ≠ (u107000 : Value).ownBlock) (.slice Ao22 t107.length co22) t107) ∧ Aside0 (Kd.R (Kd.int .i64) 3 w' w.heap.size (fun k_ => some k_ ≠ ((.slice Ao22 t107.length co22) : Value).ownBlock) u107000 x107000_1) ∧ Aside0 (w'.heap[gb106]? = some (.cells #[u107000, .int .i64 x107001_1] 89 (0, 0))) ∧ Aside0 (Below w.heap.size w w'))
             case atStart => exact ⟨(0), (0), d17o, d17o, H', ⟨Nat.le_refl _⟩, ⟨d17l⟩, ⟨by (with_reducible repeat (first | apply Kd.R_alloc | apply Kd.R_drewN | apply Kd.R_drew)); exact Kd.R_mono HO109.out (fun _ hk => hk.2)⟩, ⟨by (with_reducible repeat (first | apply Kd.R_alloc | apply Kd.R_drewN | apply Kd.R_drew)); exact Kd.R_mono HO_107000.out (fun _ hk => hk.2)⟩, ⟨d17i⟩, ⟨d17e⟩⟩
             case round =>
              clear H'
              try clear c15b0
              try clear c15b1
              try clear c17b0
              obtain ⟨x14_2, x15_2, rfl, rfl, HA, HK2, HO_9, HO_13, HO_107000, BK106, HB⟩ := hrel
              cases gk with
              | zero => exact absurd HA.out (by simp [perigeeref10_Fair.l1])
              | succ k2 =>
               have H := HA.out
               clear HA
               simp only [perigeeref10_Fair.l1] at H
               by_cases c24 : x15_2 < (t103.length : Int)
               · rw [if_pos c24] at H
                 have c24b0 : decide (x15_2 < (t103.length : Int)) = true := decide_eq_true c24
                 clear c24
                 replace H := guardT H; obtain ⟨c25, H⟩ := H
                 have c25b0 : decide (0 ≤ x15_2) = true := decide_eq_true c25
                 clear c25
                 replace H := bindS H; obtain ⟨⟨t112, t113⟩, A26, H⟩ := H
                 by_cases c27 : x15_2 = 0
                 · rw [if_pos c27] at H
                   have c27b0 : (x15_2 == 0) = true := beq_iff_eq.mpr c27
                   have c27b1 : (x15_2 != 0) = false := bne_eq_false_iff_eq.mpr c27
                   clear c27
                   have H' := Aside0.mk H
                   clear H
                   obtain ⟨Ao28, co28, eo28⟩ := Kd.R_slice HO_9.out
                   subst eo28
                   have p111 : 0 ≤ (x15_2 : Int) := of_decide_eq_true d17n
                   have q111 : x15_2 < (t103.length : Int) := of_decide_eq_true d17n
                   obtain ⟨ad111, e111, hx111_0⟩ := Kd.at_string (Kd.R_reads' HO_9.out).2.2 x15_2 p111 q111
                   cases e111
                   replace p111 := eq_true p111
                   replace q111 := eq_true q111
                   go_wp2_with ((with_reducible refine gate_callee (f := 54) rfl ?_); refine goesL_ (some 63) rfl rfl Tryd.func54 (by kernel_rfl) rfl #[.slice A0 l0.length c0, .slice Ao22 t107.length co22, .string (rdOf ByteArray.empty t103 x15_2)] rfl d17g ?_; (with_reducible refine (perigeeref10_carried.calls k2 _ _ l0 _ _ t107 (rdOf ByteArray.empty t103 x15_2) t112 t113 _ ?side1 ?side2 ?side3 ?side4 A26.out).mono ?_); (case side1 => exact d17q); (case side2 => exact HC0.out); (case side3 => exact d17r); (case side4 => exact d17s); rintro e w29 ⟨rfl, hb⟩; refine ⟨_, rfl, ?_⟩; have n0_ := Aside0.mk (Kd.R_below d17l hb); have n1_ := Aside0.mk (Kd.R_below d17k hb); have n2_ := Aside0.mk (Kd.R_below d17j hb); have n3_ := Aside0.mk (blk_below (g := gb106) (o := .cells #[u107000, .int .i64 x107001_1] 89 (0, 0)) d17i hb); have n4_ := Aside0.mk (below_step d17e hb); clear HO_9; clear HO_13; clear HO_107000; clear BK106; clear HB; have HO_9 := n0_; have HO_13 := n1_; have HO_107000 := n2_; have BK106 := n3_; have HB := n4_; clear n0_ n1_ n2_ n3_ n4_; (try clear hb))
                   go_roundg k2
                   case measure => have := HK1.out; have := HK2.out; omega
                   case rel => exact ⟨(t112), (wrap64 (x15_2 + 1)), d17o, d17o, H', ⟨by have := HK1.out; have := HK2.out; omega⟩, ⟨d17l⟩, ⟨d17k⟩, ⟨d17j⟩, ⟨d17i⟩, ⟨d17e⟩⟩
                 · rw [if_neg c27] at H
                   have c27b0 : (x15_2 == 0) = false := beq_eq_false_iff_ne.mpr c27
                   have c27b1 : (x15_2 != 0) = true := bne_iff_ne.mpr c27
                   by_cases c30 : t112 < x14_2
                   · rw [if_pos c30] at H
                     have c30b0 : decide (t112 < x14_2) = true := decide_eq_true c30
                     clear c30
                     have H' := Aside0.mk H
                     clear H
                     obtain ⟨Ao31, co31, eo31⟩ := Kd.R_slice HO_9.out
                     subst eo31
                     have p111 : 0 ≤ (x15_2 : Int) := of_decide_eq_true d17n
                     have q111 : x15_2 < (t103.length : Int) := of_decide_eq_true d17n
                     obtain ⟨ad111, e111, hx111_0⟩ := Kd.at_string (Kd.R_reads' HO_9.out).2.2 x15_2 p111 q111
                     cases e111
                     replace p111 := eq_true p111
                     replace q111 := eq_true q111
                     go_wp2_with ((with_reducible refine gate_callee (f := 54) rfl ?_); refine goesL_ (some 63) rfl rfl Tryd.func54 (by kernel_rfl) rfl #[.slice A0 l0.length c0, .slice Ao22 t107.length co22, .string (rdOf ByteArray.empty t103 x15_2)] rfl d17g ?_; (with_reducible refine (perigeeref10_carried.calls k2 _ _ l0 _ _ t107 (rdOf ByteArray.empty t103 x15_2) t112 t113 _ ?side1 ?side2 ?side3 ?side4 A26.out).mono ?_); (case side1 => exact d17q); (case side2 => exact HC0.out); (case side3 => exact d17r); (case side4 => exact d17s); rintro e w32 ⟨rfl, hb⟩; refine ⟨_, rfl, ?_⟩; have n0_ := Aside0.mk (Kd.R_below d17l hb); have n1_ := Aside0.mk (Kd.R_below d17k hb); have n2_ := Aside0.mk (Kd.R_below d17j hb); have n3_ := Aside0.mk (blk_below (g := gb106) (o := .cells #[u107000, .int .i64 x107001_1] 89 (0, 0)) d17i hb); have n4_ := Aside0.mk (below_step d17e hb); clear HO_9; clear HO_13; clear HO_107000; clear BK106; clear HB; have HO_9 := n0_; have HO_13 := n1_; have HO_107000 := n2_; have BK106 := n3_; have HB := n4_; clear n0_ n1_ n2_ n3_ n4_; (try clear hb))
                     go_roundg k2
                     case measure => have := HK1.out; have := HK2.out; omega
                     case rel => exact ⟨(t112), (wrap64 (x15_2 + 1)), d17o, d17o, H', ⟨by have := HK1.out; have := HK2.out; omega⟩, ⟨d17l⟩, ⟨d17k⟩, ⟨d17j⟩, ⟨d17i⟩, ⟨d17e⟩⟩
                   · rw [if_neg c30] at H
                     have c30b0 : decide (t112 < x14_2) = false := decide_eq_false c30
                     clear c30
                     have H' := Aside0.mk H
                     clear H
                     obtain ⟨Ao33, co33, eo33⟩ := Kd.R_slice HO_9.out
                     subst eo33
                     have p111 : 0 ≤ (x15_2 : Int) := of_decide_eq_true d17n
                     have q111 : x15_2 < (t103.length : Int) := of_decide_eq_true d17n
                     obtain ⟨ad111, e111, hx111_0⟩ := Kd.at_string (Kd.R_reads' HO_9.out).2.2 x15_2 p111 q111
                     cases e111
                     replace p111 := eq_true p111
                     replace q111 := eq_true q111
                     go_wp2_with ((with_reducible refine gate_callee (f := 54) rfl ?_); refine goesL_ (some 63) rfl rfl Tryd.func54 (by kernel_rfl) rfl #[.slice A0 l0.length c0, .slice Ao22 t107.length co22, .string (rdOf ByteArray.empty t103 x15_2)] rfl d17g ?_; (with_reducible refine (perigeeref10_carried.calls k2 _ _ l0 _ _ t107 (rdOf ByteArray.empty t103 x15_2) t112 t113 _ ?side1 ?side2 ?side3 ?side4 A26.out).mono ?_); (case side1 => exact d17q); (case side2 => exact HC0.out); (case side3 => exact d17r); (case side4 => exact d17s); rintro e w34 ⟨rfl, hb⟩; refine ⟨_, rfl, ?_⟩; have n0_ := Aside0.mk (Kd.R_below d17l hb); have n1_ := Aside0.mk (Kd.R_below d17k hb); have n2_ := Aside0.mk (Kd.R_below d17j hb); have n3_ := Aside0.mk (blk_below (g := gb106) (o := .cells #[u107000, .int .i64 x107001_1] 89 (0, 0)) d17i hb); have n4_ := Aside0.mk (below_step d17e hb); clear HO_9; clear HO_13; clear HO_107000; clear BK106; clear HB; have HO_9 := n0_; have HO_13 := n1_; have HO_107000 := n2_; have BK106 := n3_; have HB := n4_; clear n0_ n1_ n2_ n3_ n4_; (try clear hb))
                     go_roundg k2
                     case measure => have := HK1.out; have := HK2.out; omega
                     case rel => exact ⟨(x14_2), (wrap64 (x15_2 + 1)), d17o, d17o, H', ⟨by have := HK1.out; have := HK2.out; omega⟩, ⟨d17l⟩, ⟨d17k⟩, ⟨d17j⟩, ⟨d17i⟩, ⟨d17e⟩⟩
               · rw [if_neg c24] at H
                 have c24b0 : decide (x15_2 < (t103.length : Int)) = false := decide_eq_false c24
                 clear c24
                 replace H := bindS H; obtain ⟨t114, A35, H⟩ := H
                 by_cases c36 : x14_2 > x11_1
                 · rw [if_pos c36] at H
                   have c36b0 : decide (x11_1 < x14_2) = true := decide_eq_true c36
                   clear c36
                   have H' := Aside0.mk H
                   clear H
                   obtain ⟨Ao37, co37, eo37⟩ := Kd.R_slice HO_9.out
                   subst eo37
                   go_wp2_with (first | ((with_reducible refine gate_callee (f := 55) rfl ?_); refine goesL_ (some 77) rfl rfl Tryd.func55 (by kernel_rfl) rfl #[.slice A0 l0.length c0, .slice Ao22 t107.length co22] rfl d17g ?_; (with_reducible refine (perigeeref10_total.calls k2 _ _ l0 _ _ t107 t114 _ ?side1 ?side2 ?side3 ?side4 A35.out).mono ?_); (case side1 => exact d17q); (case side2 => exact HC0.out); (case side3 => exact d17r); (case side4 => exact d17s); rintro e w38 ⟨rfl, hb⟩; refine ⟨_, rfl, ?_⟩; have n0_ := Aside0.mk (Kd.R_below d17l hb); have n1_ := Aside0.mk (Kd.R_below d17k hb); have n2_ := Aside0.mk (Kd.R_below d17j hb); have n3_ := Aside0.mk (blk_below (g := gb106) (o := .cells #[u107000, .int .i64 x107001_1] 89 (0, 0)) d17i hb); have n4_ := Aside0.mk (below_step d17e hb); clear HO_9; clear HO_13; clear HO_107000; clear BK106; clear HB; have HO_9 := n0_; have HO_13 := n1_; have HO_107000 := n2_; have BK106 := n3_; have HB := n4_; clear n0_ n1_ n2_ n3_ n4_; (try clear hb)) | ((with_reducible refine gate_dst (N := 18) rfl ?_); refine box_event ?hg (N := 18) ?hd (cs := #[.slice none 0 0, .int .i64 0]) (t := 89) ?hr ?_; (case hd => rfl); (case hg => rfl); (case hr => exact d17p); intro gb115 hg w39 hbox hb; have n0_ := Aside0.mk (Kd.R_below d17l hb); have n1_ := Aside0.mk (Kd.R_below d17k hb); have n2_ := Aside0.mk (Kd.R_below d17j hb); have n3_ := Aside0.mk (blk_below (g := gb106) (o := .cells #[u107000, .int .i64 x107001_1] 89 (0, 0)) d17i hb); have n4_ := Aside0.mk (below_step d17e hb); have n5_ := Aside0.mk (hbox); have n6_ := Aside0.mk ((by rw [hg]; exact (below_size d17e) : w.heap.size ≤ gb115)); have n7_ := Aside0.mk ((by rw [hg]; exact (below_size d17e) : w.heap.size ≤ gb115)); have n8_ := Aside0.mk ((by rw [hg]; exact Nat.ne_of_lt (blk_lt (g := gb106) (o := .cells #[u107000, .int .i64 x107001_1] 89 (0, 0)) d17i) : gb106 ≠ gb115)); have n9_ := Aside0.mk ((by rw [hg]; exact Nat.ne_of_gt (blk_lt (g := gb106) (o := .cells #[u107000, .int .i64 x107001_1] 89 (0, 0)) d17i) : gb115 ≠ gb106)); clear HO_9; clear HO_13; clear HO_107000; clear BK106; clear HB; have HO_9 := n0_; have HO_13 := n1_; have HO_107000 := n2_; have BK106 := n3_; have HB := n4_; have BK115 := n5_; have GW115 := n6_; have GE115 := n7_; have NB106_115 := n8_; have NB115_106 := n9_; clear n0_ n1_ n2_ n3_ n4_ n5_ n6_ n7_ n8_ n9_; clear hb hbox hg; have hnb40 := NB115_106.out; have hnc40 := NB106_115.out; have hcz41_0 : w39.cell? ⟨gb115, 0, none⟩ = some (.slice none 0 0) := (blk_cell BK115.out 0).trans rfl; have hcz41_1 : w39.cell? ⟨gb115, 1, none⟩ = some (.int .i64 0) := (blk_cell BK115.out 1).trans rfl; have hfz41_0 := blk_frozen BK115.out 0; have hfz41_1 := blk_frozen BK115.out 1; have hcz42_0 : w39.cell? ⟨gb106, 0, none⟩ = some (u107000) := (blk_cell BK106.out 0).trans rfl; have hcz42_1 : w39.cell? ⟨gb106, 1, none⟩ = some (.int .i64 x107001_1) := (blk_cell BK106.out 1).trans rfl; have hfz42_0 := blk_frozen BK106.out 0; have hfz42_1 := blk_frozen BK106.out 1))
                   go_roundg k2
                   case measure => have := HK1.out; have := HK2.out; omega
                   case rel => exact ⟨(x14_2), (wrap64 (x12_1 + 1)), (t107), (t114), (.slice Ao22 t107.length co22), d17o, d17o, H', ⟨by have := HK1.out; have := HK2.out; omega⟩, ⟨by (with_reducible repeat (first | apply Kd.R_alloc | apply Kd.R_drewN | apply Kd.R_drew)); exact Kd.R_mono (Kd.R_far (p := ⟨gb106, 1, none⟩) (Kd.R_far (p := ⟨gb106, 0, none⟩) (Kd.R_far (p := ⟨gb115, 1, none⟩) (Kd.R_far (p := ⟨gb115, 0, none⟩) (Kd.R_types (Kd.R_types HO_9.out BK115.out (by decide)) BK106.out (by decide)) (fun _ hk => hk.1.2) (.slice Ao22 t107.length co22)) (fun _ hk => hk.1.2) (.int .i64 t114)) (fun _ hk => hk.2) (.slice Ao22 t107.length co22)) (fun _ hk => hk.2) (.int .i64 t114)) (fun _ hk => trivial)⟩, ⟨by (with_reducible repeat (first | apply Kd.R_alloc | apply Kd.R_drewN | apply Kd.R_drew)); exact Kd.R_mono (Kd.R_far (p := ⟨gb106, 1, none⟩) (Kd.R_far (p := ⟨gb106, 0, none⟩) (Kd.R_far (p := ⟨gb115, 1, none⟩) (Kd.R_far (p := ⟨gb115, 0, none⟩) (Kd.R_types (Kd.R_types HO_13.out BK115.out (by decide)) BK106.out (by decide)) (fun _ hk => hk.1.2) (.slice Ao22 t107.length co22)) (fun _ hk => hk.1.2) (.int .i64 t114)) (fun _ hk => hk.2) (.slice Ao22 t107.length co22)) (fun _ hk => hk.2) (.int .i64 t114)) (fun _ hk => trivial)⟩, ⟨by (with_reducible repeat (first | refine blk_drewN ?_ _ | refine blk_drew ?_ | refine blk_alloc ?_ _)); refine blk_put (cs := #[.slice Ao22 t107.length co22, .int .i64 x107001_1]) ?_ 1 _ rfl; (with_reducible repeat (first | refine blk_drewN ?_ _ | refine blk_drew ?_ | refine blk_alloc ?_ _)); refine blk_put (cs := #[u107000, .int .i64 x107001_1]) ?_ 0 _ rfl; (with_reducible repeat (first | refine blk_drewN ?_ _ | refine blk_drew ?_ | refine blk_alloc ?_ _)); refine blk_far ?_ NB106_115.out _; (with_reducible repeat (first | refine blk_drewN ?_ _ | refine blk_drew ?_ | refine blk_alloc ?_ _)); refine blk_far ?_ NB106_115.out _; (with_reducible repeat (first | refine blk_drewN ?_ _ | refine blk_drew ?_ | refine blk_alloc ?_ _)); exact BK106.out⟩, ⟨d17d⟩⟩
                 · rw [if_neg c36] at H
                   have c36b0 : decide (x11_1 < x14_2) = false := decide_eq_false c36
                   clear c36
                   by_cases c43 : x14_2 = x11_1
                   · rw [if_pos c43] at H
                     have c43b0 : (x14_2 == x11_1) = true := beq_iff_eq.mpr c43
                     have c43b1 : (x14_2 != x11_1) = false := bne_eq_false_iff_eq.mpr c43
                     clear c43
                     replace H := bindS H; obtain ⟨t116, A44, H⟩ := H
                     by_cases c45 : t116 = true
                     · subst c45
                       replace H := iteT H
                       have H' := Aside0.mk H
                       clear H
                       obtain ⟨Ao46, co46, eo46⟩ := Kd.R_slice HO_9.out
                       subst eo46
                       go_wp2_with (first | ((with_reducible refine gate_callee (f := 55) rfl ?_); refine goesL_ (some 77) rfl rfl Tryd.func55 (by kernel_rfl) rfl #[.slice A0 l0.length c0, .slice Ao22 t107.length co22] rfl d17g ?_; (with_reducible refine (perigeeref10_total.calls k2 _ _ l0 _ _ t107 t114 _ ?side1 ?side2 ?side3 ?side4 A35.out).mono ?_); (case side1 => exact d17q); (case side2 => exact HC0.out); (case side3 => exact d17r); (case side4 => exact d17s); rintro e w47 ⟨rfl, hb⟩; refine ⟨_, rfl, ?_⟩; have n0_ := Aside0.mk (Kd.R_below d17l hb); have n1_ := Aside0.mk (Kd.R_below d17k hb); have n2_ := Aside0.mk (Kd.R_below d17j hb); have n3_ := Aside0.mk (blk_below (g := gb106) (o := .cells #[u107000, .int .i64 x107001_1] 89 (0, 0)) d17i hb); have n4_ := Aside0.mk (below_step d17e hb); clear HO_9; clear HO_13; clear HO_107000; clear BK106; clear HB; have HO_9 := n0_; have HO_13 := n1_; have HO_107000 := n2_; have BK106 := n3_; have HB := n4_; clear n0_ n1_ n2_ n3_ n4_; (try clear hb)) | ((with_reducible refine gate_dst (N := 18) rfl ?_); refine box_event ?hg (N := 18) ?hd (cs := #[.slice none 0 0, .int .i64 0]) (t := 89) ?hr ?_; (case hd => rfl); (case hg => rfl); (case hr => exact d17p); intro gb115 hg w48 hbox hb; have n0_ := Aside0.mk (Kd.R_below d17l hb); have n1_ := Aside0.mk (Kd.R_below d17k hb); have n2_ := Aside0.mk (Kd.R_below d17j hb); have n3_ := Aside0.mk (blk_below (g := gb106) (o := .cells #[u107000, .int .i64 x107001_1] 89 (0, 0)) d17i hb); have n4_ := Aside0.mk (below_step d17e hb); have n5_ := Aside0.mk (hbox); have n6_ := Aside0.mk ((by rw [hg]; exact (below_size d17e) : w.heap.size ≤ gb115)); have n7_ := Aside0.mk ((by rw [hg]; exact (below_size d17e) : w.heap.size ≤ gb115)); have n8_ := Aside0.mk ((by rw [hg]; exact Nat.ne_of_lt (blk_lt (g := gb106) (o := .cells #[u107000, .int .i64 x107001_1] 89 (0, 0)) d17i) : gb106 ≠ gb115)); have n9_ := Aside0.mk ((by rw [hg]; exact Nat.ne_of_gt (blk_lt (g := gb106) (o := .cells #[u107000, .int .i64 x107001_1] 89 (0, 0)) d17i) : gb115 ≠ gb106)); clear HO_9; clear HO_13; clear HO_107000; clear BK106; clear HB; have HO_9 := n0_; have HO_13 := n1_; have HO_107000 := n2_; have BK106 := n3_; have HB := n4_; have BK115 := n5_; have GW115 := n6_; have GE115 := n7_; have NB106_115 := n8_; have NB115_106 := n9_; clear n0_ n1_ n2_ n3_ n4_ n5_ n6_ n7_ n8_ n9_; clear hb hbox hg; have hnb49 := NB115_106.out; have hnc49 := NB106_115.out; have hcz50_0 : w48.cell? ⟨gb115, 0, none⟩ = some (.slice none 0 0) := (blk_cell BK115.out 0).trans rfl; have hcz50_1 : w48.cell? ⟨gb115, 1, none⟩ = some (.int .i64 0) := (blk_cell BK115.out 1).trans rfl; have hfz50_0 := blk_frozen BK115.out 0; have hfz50_1 := blk_frozen BK115.out 1; have hcz51_0 : w48.cell? ⟨gb106, 0, none⟩ = some (u107000) := (blk_cell BK106.out 0).trans rfl; have hcz51_1 : w48.cell? ⟨gb106, 1, none⟩ = some (.int .i64 x107001_1) := (blk_cell BK106.out 1).trans rfl; have hfz51_0 := blk_frozen BK106.out 0; have hfz51_1 := blk_frozen BK106.out 1; obtain ⟨Ao52, co52, eo52⟩ := Kd.R_slice HO_107000.out; subst eo52) | (go_at_call 47; (with_reducible refine (perigeeref10_better.calls k2 _ _ t107 t114 _ _ x107000_1 x107001_1 true _ ?side1 ?side2 ?side3 ?side4 A44.out).mono ?_); (case side1 => refine (Kd.R_reads' (e := 3) (base := w.heap.size) (ok := fun k_ => some k_ ≠ (.slice Ao52 x107000_1.length co52 : Value).ownBlock) (n := t107.length) (c := co22) ?_).2.2; exact d17c); (case side2 => exact d17s); (case side3 => refine (Kd.R_reads' (e := 3) (base := w.heap.size) (ok := fun k_ => some k_ ≠ (.slice Ao22 t107.length co22 : Value).ownBlock) (n := x107000_1.length) (c := co52) ?_).2.2; exact d17b); (case side4 => exact (Kd.R_reads' HO_107000.out).2.1); rintro e w53 ⟨rfl, hb⟩; have n0_ := Aside0.mk (Kd.R_below (by (with_reducible repeat (first | apply Kd.R_alloc | apply Kd.R_drewN | apply Kd.R_drew)); exact (Kd.R_mono (Kd.R_far (p := ⟨gb115, 1, none⟩) (Kd.R_far (p := ⟨gb115, 0, none⟩) (Kd.R_types HO_9.out BK115.out (by decide)) (fun _ hk => hk.2) (.slice Ao22 t107.length co22)) (fun _ hk => hk.2) (.int .i64 t114)) (fun _ h_ => h_.1))) hb); have n1_ := Aside0.mk (Kd.R_below d17c hb); have n2_ := Aside0.mk (Kd.R_below d17b hb); have n3_ := Aside0.mk (blk_below (g := gb106) (o := .cells #[.slice Ao52 x107000_1.length co52, .int .i64 x107001_1] 89 (0, 0)) d17a hb); have n4_ := Aside0.mk (blk_below (g := gb115) (o := .cells #[.slice Ao22 t107.length co22, .int .i64 t114] 89 (0, 0)) (by (with_reducible repeat (first | refine blk_drewN ?_ _ | refine blk_drew ?_ | refine blk_alloc ?_ _)); refine blk_put (cs := #[.slice Ao22 t107.length co22, .int .i64 0]) ?_ 1 _ rfl; (with_reducible repeat (first | refine blk_drewN ?_ _ | refine blk_drew ?_ | refine blk_alloc ?_ _)); refine blk_put (cs := #[.slice none 0 0, .int .i64 0]) ?_ 0 _ rfl; (with_reducible repeat (first | refine blk_drewN ?_ _ | refine blk_drew ?_ | refine blk_alloc ?_ _)); exact BK115.out) hb); have n5_ := Aside0.mk (below_step d17d hb); clear HO_9; clear HO_13; clear HO_107000; clear BK106; clear BK115; clear HB; have HO_9 := n0_; have HO_13 := n1_; have HO_107000 := n2_; have BK106 := n3_; have BK115 := n4_; have HB := n5_; clear n0_ n1_ n2_ n3_ n4_ n5_; (try clear hb); have hcz54_0 : w53.cell? ⟨gb115, 0, none⟩ = some (.slice Ao22 t107.length co22) := (blk_cell BK115.out 0).trans rfl; have hcz54_1 : w53.cell? ⟨gb115, 1, none⟩ = some (.int .i64 t114) := (blk_cell BK115.out 1).trans rfl; have hfz54_0 := blk_frozen BK115.out 0; have hfz54_1 := blk_frozen BK115.out 1; have hcz55_0 : w53.cell? ⟨gb106, 0, none⟩ = some (.slice Ao52 x107000_1.length co52) := (blk_cell BK106.out 0).trans rfl; have hcz55_1 : w53.cell? ⟨gb106, 1, none⟩ = some (.int .i64 x107001_1) := (blk_cell BK106.out 1).trans rfl; have hfz55_0 := blk_frozen BK106.out 0; have hfz55_1 := blk_frozen BK106.out 1))
                       go_roundg k2
                       case measure => have := HK1.out; have := HK2.out; omega
                       case rel => exact ⟨(x14_2), (wrap64 (x12_1 + 1)), (t107), (t114), (.slice Ao22 t107.length co22), d17o, d17o, H', ⟨by have := HK1.out; have := HK2.out; omega⟩, ⟨by (with_reducible repeat (first | apply Kd.R_alloc | apply Kd.R_drewN | apply Kd.R_drew)); exact Kd.R_mono (Kd.R_far (p := ⟨gb106, 1, none⟩) (Kd.R_far (p := ⟨gb106, 0, none⟩) (Kd.R_types HO_9.out BK106.out (by decide)) (fun _ hk => hk.2) (.slice Ao22 t107.length co22)) (fun _ hk => hk.2) (.int .i64 t114)) (fun _ hk => trivial)⟩, ⟨by (with_reducible repeat (first | apply Kd.R_alloc | apply Kd.R_drewN | apply Kd.R_drew)); exact Kd.R_mono (Kd.R_far (p := ⟨gb106, 1, none⟩) (Kd.R_far (p := ⟨gb106, 0, none⟩) (Kd.R_types HO_13.out BK106.out (by decide)) (fun _ hk => hk.2) (.slice Ao22 t107.length co22)) (fun _ hk => hk.2) (.int .i64 t114)) (fun _ hk => trivial)⟩, ⟨by (with_reducible repeat (first | refine blk_drewN ?_ _ | refine blk_drew ?_ | refine blk_alloc ?_ _)); refine blk_put (cs := #[.slice Ao22 t107.length co22, .int .i64 x107001_1]) ?_ 1 _ rfl; (with_reducible repeat (first | refine blk_drewN ?_ _ | refine blk_drew ?_ | refine blk_alloc ?_ _)); refine blk_put (cs := #[.slice Ao52 x107000_1.length co52, .int .i64 x107001_1]) ?_ 0 _ rfl; (with_reducible repeat (first | refine blk_drewN ?_ _ | refine blk_drew ?_ | refine blk_alloc ?_ _)); exact BK106.out⟩, ⟨d17d⟩⟩
                     · replace c45 := Bool.eq_false_iff.mpr c45
                       subst c45
                       replace H := iteF H
                       have H' := Aside0.mk H
                       clear H
                       obtain ⟨Ao56, co56, eo56⟩ := Kd.R_slice HO_9.out
                       subst eo56
                       go_wp2_with (first | ((with_reducible refine gate_callee (f := 55) rfl ?_); refine goesL_ (some 77) rfl rfl Tryd.func55 (by kernel_rfl) rfl #[.slice A0 l0.length c0, .slice Ao22 t107.length co22] rfl d17g ?_; (with_reducible refine (perigeeref10_total.calls k2 _ _ l0 _ _ t107 t114 _ ?side1 ?side2 ?side3 ?side4 A35.out).mono ?_); (case side1 => exact d17q); (case side2 => exact HC0.out); (case side3 => exact d17r); (case side4 => exact d17s); rintro e w57 ⟨rfl, hb⟩; refine ⟨_, rfl, ?_⟩; have n0_ := Aside0.mk (Kd.R_below d17l hb); have n1_ := Aside0.mk (Kd.R_below d17k hb); have n2_ := Aside0.mk (Kd.R_below d17j hb); have n3_ := Aside0.mk (blk_below (g := gb106) (o := .cells #[u107000, .int .i64 x107001_1] 89 (0, 0)) d17i hb); have n4_ := Aside0.mk (below_step d17e hb); clear HO_9; clear HO_13; clear HO_107000; clear BK106; clear HB; have HO_9 := n0_; have HO_13 := n1_; have HO_107000 := n2_; have BK106 := n3_; have HB := n4_; clear n0_ n1_ n2_ n3_ n4_; (try clear hb)) | ((with_reducible refine gate_dst (N := 18) rfl ?_); refine box_event ?hg (N := 18) ?hd (cs := #[.slice none 0 0, .int .i64 0]) (t := 89) ?hr ?_; (case hd => rfl); (case hg => rfl); (case hr => exact d17p); intro gb115 hg w58 hbox hb; have n0_ := Aside0.mk (Kd.R_below d17l hb); have n1_ := Aside0.mk (Kd.R_below d17k hb); have n2_ := Aside0.mk (Kd.R_below d17j hb); have n3_ := Aside0.mk (blk_below (g := gb106) (o := .cells #[u107000, .int .i64 x107001_1] 89 (0, 0)) d17i hb); have n4_ := Aside0.mk (below_step d17e hb); have n5_ := Aside0.mk (hbox); have n6_ := Aside0.mk ((by rw [hg]; exact (below_size d17e) : w.heap.size ≤ gb115)); have n7_ := Aside0.mk ((by rw [hg]; exact (below_size d17e) : w.heap.size ≤ gb115)); have n8_ := Aside0.mk ((by rw [hg]; exact Nat.ne_of_lt (blk_lt (g := gb106) (o := .cells #[u107000, .int .i64 x107001_1] 89 (0, 0)) d17i) : gb106 ≠ gb115)); have n9_ := Aside0.mk ((by rw [hg]; exact Nat.ne_of_gt (blk_lt (g := gb106) (o := .cells #[u107000, .int .i64 x107001_1] 89 (0, 0)) d17i) : gb115 ≠ gb106)); clear HO_9; clear HO_13; clear HO_107000; clear BK106; clear HB; have HO_9 := n0_; have HO_13 := n1_; have HO_107000 := n2_; have BK106 := n3_; have HB := n4_; have BK115 := n5_; have GW115 := n6_; have GE115 := n7_; have NB106_115 := n8_; have NB115_106 := n9_; clear n0_ n1_ n2_ n3_ n4_ n5_ n6_ n7_ n8_ n9_; clear hb hbox hg; have hnb59 := NB115_106.out; have hnc59 := NB106_115.out; have hcz60_0 : w58.cell? ⟨gb115, 0, none⟩ = some (.slice none 0 0) := (blk_cell BK115.out 0).trans rfl; have hcz60_1 : w58.cell? ⟨gb115, 1, none⟩ = some (.int .i64 0) := (blk_cell BK115.out 1).trans rfl; have hfz60_0 := blk_frozen BK115.out 0; have hfz60_1 := blk_frozen BK115.out 1; have hcz61_0 : w58.cell? ⟨gb106, 0, none⟩ = some (u107000) := (blk_cell BK106.out 0).trans rfl; have hcz61_1 : w58.cell? ⟨gb106, 1, none⟩ = some (.int .i64 x107001_1) := (blk_cell BK106.out 1).trans rfl; have hfz61_0 := blk_frozen BK106.out 0; have hfz61_1 := blk_frozen BK106.out 1; obtain ⟨Ao62, co62, eo62⟩ := Kd.R_slice HO_107000.out; subst eo62) | (go_at_call 47; (with_reducible refine (perigeeref10_better.calls k2 _ _ t107 t114 _ _ x107000_1 x107001_1 false _ ?side1 ?side2 ?side3 ?side4 A44.out).mono ?_); (case side1 => refine (Kd.R_reads' (e := 3) (base := w.heap.size) (ok := fun k_ => some k_ ≠ (.slice Ao62 x107000_1.length co62 : Value).ownBlock) (n := t107.length) (c := co22) ?_).2.2; exact d17c); (case side2 => exact d17s); (case side3 => refine (Kd.R_reads' (e := 3) (base := w.heap.size) (ok := fun k_ => some k_ ≠ (.slice Ao22 t107.length co22 : Value).ownBlock) (n := x107000_1.length) (c := co62) ?_).2.2; exact d17b); (case side4 => exact (Kd.R_reads' HO_107000.out).2.1); rintro e w63 ⟨rfl, hb⟩; have n0_ := Aside0.mk (Kd.R_below (by (with_reducible repeat (first | apply Kd.R_alloc | apply Kd.R_drewN | apply Kd.R_drew)); exact (Kd.R_mono (Kd.R_far (p := ⟨gb115, 1, none⟩) (Kd.R_far (p := ⟨gb115, 0, none⟩) (Kd.R_types HO_9.out BK115.out (by decide)) (fun _ hk => hk.2) (.slice Ao22 t107.length co22)) (fun _ hk => hk.2) (.int .i64 t114)) (fun _ h_ => h_.1))) hb); have n1_ := Aside0.mk (Kd.R_below d17c hb); have n2_ := Aside0.mk (Kd.R_below d17b hb); have n3_ := Aside0.mk (blk_below (g := gb106) (o := .cells #[.slice Ao62 x107000_1.length co62, .int .i64 x107001_1] 89 (0, 0)) d17a hb); have n4_ := Aside0.mk (blk_below (g := gb115) (o := .cells #[.slice Ao22 t107.length co22, .int .i64 t114] 89 (0, 0)) (by (with_reducible repeat (first | refine blk_drewN ?_ _ | refine blk_drew ?_ | refine blk_alloc ?_ _)); refine blk_put (cs := #[.slice Ao22 t107.length co22, .int .i64 0]) ?_ 1 _ rfl; (with_reducible repeat (first | refine blk_drewN ?_ _ | refine blk_drew ?_ | refine blk_alloc ?_ _)); refine blk_put (cs := #[.slice none 0 0, .int .i64 0]) ?_ 0 _ rfl; (with_reducible repeat (first | refine blk_drewN ?_ _ | refine blk_drew ?_ | refine blk_alloc ?_ _)); exact BK115.out) hb); have n5_ := Aside0.mk (below_step d17d hb); clear HO_9; clear HO_13; clear HO_107000; clear BK106; clear BK115; clear HB; have HO_9 := n0_; have HO_13 := n1_; have HO_107000 := n2_; have BK106 := n3_; have BK115 := n4_; have HB := n5_; clear n0_ n1_ n2_ n3_ n4_ n5_; (try clear hb)))
                       go_roundg k2
                       case measure => have := HK1.out; have := HK2.out; omega
                       case rel => exact ⟨(x11_1), (wrap64 (x12_1 + 1)), (x107000_1), (x107001_1), (.slice Ao62 x107000_1.length co62), d17o, d17o, H', ⟨by have := HK1.out; have := HK2.out; omega⟩, ⟨d17l⟩, ⟨by (with_reducible repeat (first | apply Kd.R_alloc | apply Kd.R_drewN | apply Kd.R_drew)); exact Kd.R_mono HO_107000.out (fun _ hk => trivial)⟩, ⟨d17i⟩, ⟨d17d⟩⟩
                   · rw [if_neg c43] at H
                     have c43b0 : (x14_2 == x11_1) = false := beq_eq_false_iff_ne.mpr c43
                     have c43b1 : (x14_2 != x11_1) = true := bne_iff_ne.mpr c43
                     have H' := Aside0.mk H
                     clear H
                     obtain ⟨Ao64, co64, eo64⟩ := Kd.R_slice HO_9.out
                     subst eo64
                     go_wp2_with (first | ((with_reducible refine gate_callee (f := 55) rfl ?_); refine goesL_ (some 77) rfl rfl Tryd.func55 (by kernel_rfl) rfl #[.slice A0 l0.length c0, .slice Ao22 t107.length co22] rfl d17g ?_; (with_reducible refine (perigeeref10_total.calls k2 _ _ l0 _ _ t107 t114 _ ?side1 ?side2 ?side3 ?side4 A35.out).mono ?_); (case side1 => exact d17q); (case side2 => exact HC0.out); (case side3 => exact d17r); (case side4 => exact d17s); rintro e w65 ⟨rfl, hb⟩; refine ⟨_, rfl, ?_⟩; have n0_ := Aside0.mk (Kd.R_below d17l hb); have n1_ := Aside0.mk (Kd.R_below d17k hb); have n2_ := Aside0.mk (Kd.R_below d17j hb); have n3_ := Aside0.mk (blk_below (g := gb106) (o := .cells #[u107000, .int .i64 x107001_1] 89 (0, 0)) d17i hb); have n4_ := Aside0.mk (below_step d17e hb); clear HO_9; clear HO_13; clear HO_107000; clear BK106; clear HB; have HO_9 := n0_; have HO_13 := n1_; have HO_107000 := n2_; have BK106 := n3_; have HB := n4_; clear n0_ n1_ n2_ n3_ n4_; (try clear hb)) | ((with_reducible refine gate_dst (N := 18) rfl ?_); refine box_event ?hg (N := 18) ?hd (cs := #[.slice none 0 0, .int .i64 0]) (t := 89) ?hr ?_; (case hd => rfl); (case hg => rfl); (case hr => exact d17p); intro gb115 hg w66 hbox hb; have n0_ := Aside0.mk (Kd.R_below d17l hb); have n1_ := Aside0.mk (Kd.R_below d17k hb); have n2_ := Aside0.mk (Kd.R_below d17j hb); have n3_ := Aside0.mk (blk_below (g := gb106) (o := .cells #[u107000, .int .i64 x107001_1] 89 (0, 0)) d17i hb); have n4_ := Aside0.mk (below_step d17e hb); have n5_ := Aside0.mk (hbox); have n6_ := Aside0.mk ((by rw [hg]; exact (below_size d17e) : w.heap.size ≤ gb115)); have n7_ := Aside0.mk ((by rw [hg]; exact (below_size d17e) : w.heap.size ≤ gb115)); have n8_ := Aside0.mk ((by rw [hg]; exact Nat.ne_of_lt (blk_lt (g := gb106) (o := .cells #[u107000, .int .i64 x107001_1] 89 (0, 0)) d17i) : gb106 ≠ gb115)); have n9_ := Aside0.mk ((by rw [hg]; exact Nat.ne_of_gt (blk_lt (g := gb106) (o := .cells #[u107000, .int .i64 x107001_1] 89 (0, 0)) d17i) : gb115 ≠ gb106)); clear HO_9; clear HO_13; clear HO_107000; clear BK106; clear HB; have HO_9 := n0_; have HO_13 := n1_; have HO_107000 := n2_; have BK106 := n3_; have HB := n4_; have BK115 := n5_; have GW115 := n6_; have GE115 := n7_; have NB106_115 := n8_; have NB115_106 := n9_; clear n0_ n1_ n2_ n3_ n4_ n5_ n6_ n7_ n8_ n9_; clear hb hbox hg; have hnb67 := NB115_106.out; have hnc67 := NB106_115.out; have hcz68_0 : w66.cell? ⟨gb115, 0, none⟩ = some (.slice none 0 0) := (blk_cell BK115.out 0).trans rfl; have hcz68_1 : w66.cell? ⟨gb115, 1, none⟩ = some (.int .i64 0) := (blk_cell BK115.out 1).trans rfl; have hfz68_0 := blk_frozen BK115.out 0; have hfz68_1 := blk_frozen BK115.out 1))
                     go_roundg k2
                     case measure => have := HK1.out; have := HK2.out; omega
                     case rel => exact ⟨(x11_1), (wrap64 (x12_1 + 1)), (x107000_1), (x107001_1), (u107000), d17o, d17o, H', ⟨by have := HK1.out; have := HK2.out; omega⟩, ⟨by (with_reducible repeat (first | apply Kd.R_alloc | apply Kd.R_drewN | apply Kd.R_drew)); exact Kd.R_mono (Kd.R_far (p := ⟨gb115, 1, none⟩) (Kd.R_far (p := ⟨gb115, 0, none⟩) (Kd.R_types HO_9.out BK115.out (by decide)) (fun _ hk => hk.2) (.slice Ao22 t107.length co22)) (fun _ hk => hk.2) (.int .i64 t114)) (fun _ hk => trivial)⟩, ⟨by (with_reducible repeat (first | apply Kd.R_alloc | apply Kd.R_drewN | apply Kd.R_drew)); exact Kd.R_mono (Kd.R_far (p := ⟨gb115, 1, none⟩) (Kd.R_far (p := ⟨gb115, 0, none⟩) (Kd.R_types HO_107000.out BK115.out (by decide)) (fun _ hk => hk.2) (.slice Ao22 t107.length co22)) (fun _ hk => hk.2) (.int .i64 t114)) (fun _ hk => trivial)⟩, ⟨d17a⟩, ⟨d17d⟩⟩
           · replace c20 := Bool.eq_false_iff.mpr c20
             subst c20
             replace H := iteF H
             have H' := Aside0.mk H
             clear H
             go_wp2_with (first | ((with_reducible refine gate_callee (f := 52) rfl ?_); refine goesL_ (some 44) rfl rfl Tryd.func52 (by kernel_rfl) rfl #[.int .i64 x12_1, .int .i64 (l0.length : Int)] rfl d17g ?_; (with_reducible refine (perigeeref10_chosen.calls k1 x12_1 (l0.length : Int) t107 _ A18.out).mono ?_); rintro e w69 ⟨v108, rfl, ho0, hb⟩; refine ⟨_, rfl, ?_⟩; have n0_ := Aside0.mk (Kd.R_below d17l hb); have n1_ := Aside0.mk (Kd.R_elder' d17j (Kd.R_base ho0) hb); have n2_ := Aside0.mk (Kd.R_lower (Kd.R_new' ho0 (Kd.R_lt d17j)) (below_size d17e)); have n3_ := Aside0.mk (blk_below (g := gb106) (o := .cells #[u107000, .int .i64 x107001_1] 89 (0, 0)) d17i hb); have n4_ := Aside0.mk (below_step d17e hb); clear HO_9; clear HO_107000; clear BK106; clear HB; have HO_9 := n0_; have HO_107000 := n1_; have HO109 := n2_; have BK106 := n3_; have HB := n4_; clear n0_ n1_ n2_ n3_ n4_; (try clear hb); (try clear ho0); obtain ⟨Ao70, co70, eo70⟩ := Kd.R_slice HO109.out; subst eo70) | ((with_reducible refine gate_callee (f := 53) rfl ?_); refine goesL_ (some 48) rfl rfl Tryd.func53 (by kernel_rfl) rfl #[.slice A0 l0.length c0, .slice Ao70 t107.length co70, .int .i64 a1] rfl d17g ?_; (with_reducible refine (perigeeref10_apart.calls k1 _ _ l0 _ _ t107 a1 false _ ?side1 ?side2 ?side3 ?side4 A19.out).mono ?_); (case side1 => exact d17q); (case side2 => exact HC0.out); (case side3 => exact C_go (Kd.R_reads' HO109.out).2.2); (case side4 => exact (Kd.R_reads' HO109.out).2.1); rintro e w71 ⟨rfl, hb⟩; refine ⟨_, rfl, ?_⟩; have n0_ := Aside0.mk (Kd.R_below d17l hb); have n1_ := Aside0.mk (Kd.R_below d17j hb); have n2_ := Aside0.mk (Kd.R_below (by (with_reducible repeat (first | apply Kd.R_alloc | apply Kd.R_drewN | apply Kd.R_drew)); exact HO109.out) hb); have n3_ := Aside0.mk (blk_below (g := gb106) (o := .cells #[u107000, .int .i64 x107001_1] 89 (0, 0)) d17i hb); have n4_ := Aside0.mk (below_step d17e hb); clear HO_9; clear HO_107000; clear HO109; clear BK106; clear HB; have HO_9 := n0_; have HO_107000 := n1_; have HO109 := n2_; have BK106 := n3_; have HB := n4_; clear n0_ n1_ n2_ n3_ n4_; (try clear hb)))
             go_roundg k1
             case measure => have := HK1.out; omega
             case rel => exact ⟨(x11_1), (wrap64 (x12_1 + 1)), (x107000_1), (x107001_1), (u107000), d17o, d17o, H', ⟨by have := HK1.out; omega⟩, ⟨d17l⟩, ⟨by (with_reducible repeat (first | apply Kd.R_alloc | apply Kd.R_drewN | apply Kd.R_drew)); exact Kd.R_mono HO_107000.out (fun _ hk => trivial)⟩, ⟨d17i⟩, ⟨d17e⟩⟩
         · rw [if_neg c17] at H
           have c17b0 : decide (x12_1 < (ji16)) = false := decide_eq_false c17
           clear c17
           simp only [Option.some.injEq, Prod.mk.injEq] at H
           obtain ⟨rfl, rfl, rfl, rfl⟩ := H
           obtain ⟨hcz72_0, hcz72_1⟩ := blkC2 BK106.out
           have hfz72_0 := blk_frozen BK106.out 0
           have hfz72_1 := blk_frozen BK106.out 1
           go_wp2
           refine bodyPost_ret (results_list (rs := [.tmp 4, .tmp 5, .tmp 6, .tmp 7]) rfl (by simp) (.tmp (.tmp (.tmp (.tmp .nil))))) rfl ?_
           exact ⟨_, by first | rfl | (simp [errW_none, errW_some] <;> rfl) | (simp only [← hji14, ← hji16]; first | rfl | (simp [errW_none, errW_some] <;> rfl)) | (simp [*, errW_none, errW_some] <;> rfl), d17j, d17e⟩
   · replace c6 := Bool.eq_false_iff.mpr c6
     subst c6
     replace H := iteF H
     simp only [Option.some.injEq, Prod.mk.injEq] at H
     obtain ⟨rfl, rfl, rfl, rfl⟩ := H
     go_enter Tryd.func17, Tryd.ntmps17
     go_wp2_with (first | ((with_reducible refine gate_callee (f := 33) rfl ?_); refine goesL_ (some 20) rfl rfl Tryd.func33 (by kernel_rfl) rfl #[.slice A0 l0.length c0] rfl d17g ?_; (with_reducible refine (perigeeref10_CheckPasses.calls k _ _ l0 t101 _ ?side1 ?side2 A3.out).mono ?_); (case side1 => exact C_go HR0.out); (case side2 => exact HC0.out); rintro e w73 ⟨rfl, hb⟩; refine ⟨_, rfl, ?_⟩; replace HB := Aside0.mk (below_step d17h hb); (try clear hb)) | ((with_reducible refine gate_callee (f := 44) rfl ?_); refine goesL_ (some 25) rfl rfl Tryd.func44 (by kernel_rfl) rfl #[.int .i64 a1] rfl d17g ?_; (with_reducible refine (perigeeref10_gapOK.calls a1 false _ A5.out).mono ?_); rintro e w' ⟨rfl, ⟨nd, rfl⟩⟩; refine ⟨_, rfl, ?_⟩))
     refine bodyPost_ret (results_list (rs := [.tmp 4, .tmp 5, .tmp 6, .tmp 7]) rfl (by simp) (.tmp (.tmp (.tmp (.tmp .nil))))) rfl ?_
     exact ⟨_, d17m, d17f, d17h⟩
 · rw [if_neg c4] at H
   have c4b0 : (t101 == 0) = false := beq_eq_false_iff_ne.mpr c4
   have c4b1 : (t101 != 0) = true := bne_iff_ne.mpr c4
   simp only [Option.some.injEq, Prod.mk.injEq] at H
   obtain ⟨rfl, rfl, rfl, rfl⟩ := H
   go_enter Tryd.func17, Tryd.ntmps17
   go_wp2_with ((with_reducible refine gate_callee (f := 33) rfl ?_); refine goesL_ (some 20) rfl rfl Tryd.func33 (by kernel_rfl) rfl #[.slice A0 l0.length c0] rfl d17g ?_; (with_reducible refine (perigeeref10_CheckPasses.calls k _ _ l0 t101 _ ?side1 ?side2 A3.out).mono ?_); (case side1 => exact C_go HR0.out); (case side2 => exact HC0.out); rintro e w74 ⟨rfl, hb⟩; refine ⟨_, rfl, ?_⟩; replace HB := Aside0.mk (below_step d17h hb); (try clear hb))
   refine bodyPost_ret (results_list (rs := [.tmp 4, .tmp 5, .tmp 6, .tmp 7]) rfl (by simp) (.tmp (.tmp (.tmp (.tmp .nil))))) rfl ?_
   exact ⟨_, d17m, d17f, d17h⟩
def perigeeref10_checkNumbers.l0 : Nat → List (S55) → List Int → Int → Option (Int)
  | 0, _, _, _ => none
  | k + 1, x0, x1, x5 => if x5 < (x1.length : Int) then (if 0 ≤ x5 then ((perigeeref10_within.f (rd x1 x5) 0 (wrap64 ((x0.length : Int) - 1))).bind fun t102 => (if t102 = true then (if x5 > 0 then (if 0 ≤ (wrap64 (x5 - 1)) then (if (wrap64 (x5 - 1)) < (x1.length : Int) then (if (rd x1 x5) ≤ (rd x1 (wrap64 (x5 - 1))) then (some 8) else (perigeeref10_checkNumbers.l0 k x0 x1 (wrap64 (x5 + 1)))) else (none)) else (none)) else (perigeeref10_checkNumbers.l0 k x0 x1 (wrap64 (x5 + 1)))) else (some 9))) else (none)) else (some 0)
def perigeeref10_checkNumbers.f (k : Nat) (l0 : List (S55)) (l1 : List Int) : Option (Int) := perigeeref10_checkNumbers.l0 k l0 l1 0
theorem d58a {p : Prop} (h : p := by repeat (first | exact Drawn0.refl _ | apply Drawn0.step)) : p := h
theorem d58b {p : Prop} (h : p := by first | (with_reducible assumption) | assumption) : p := h
theorem d58c {p : Prop} (h : p := by first | rfl | (simp; done) | (simp [*]; done)) : p := h
set_option maxHeartbeats 8000000 in
set_option maxRecDepth 100000 in
theorem perigeeref10_checkNumbers.calls (k : Nat) (A0 : Option Addr) (c0 : Nat) (l0 : List (S55)) (A1 : Option Addr) (c1 : Nat) (l1 : List Int) (r : Int) (w : World) (hr0 : Kd.C k55 w A0 l0.length l0) (hc0 : l0.length ≤ c0) (hr1 : Kd.C (Kd.int .i64) w A1 l1.length l1) (hc1 : l1.length ≤ c1) (h : perigeeref10_checkNumbers.f k l0 l1 = some r) :
 Calls Tryd.prog 58 #[.slice A0 l0.length c0, .slice A1 l1.length c1] w fun e w' => e = .returned (.int .i64 r) ∧ Drawn0 w w' := by
 have HR0 := Aside0.mk hr0
 have HC0 := Aside0.mk hc0
 clear hr0 hc0
 have HR1 := Aside0.mk hr1
 have HC1 := Aside0.mk hc1
 clear hr1 hc1
 have H : (perigeeref10_checkNumbers.l0 k l0 l1 0) = some r := h
 clear h
 have H' := Aside0.mk H
 clear H
 go_enter Tryd.func58, Tryd.ntmps58
 go_wp2
 go_loopg [5] k (fun kq v5 w' => ∃ (x5_1 : Int), v5 = .int .i64 x5_1 ∧ Aside0 (perigeeref10_checkNumbers.l0 kq l0 l1 x5_1 = some r) ∧ Aside0 (kq ≤ k) ∧ Drawn0 w w')
 case atStart => exact ⟨(0), d58c, H', ⟨Nat.le_refl _⟩, d58a⟩
 case round =>
  clear H'
  obtain ⟨x5_1, rfl, HA, HK1, ⟨m1, rfl⟩⟩ := hrel
  cases gk with
  | zero => exact absurd HA.out (by simp [perigeeref10_checkNumbers.l0])
  | succ k1 =>
   have H := HA.out
   clear HA
   simp only [perigeeref10_checkNumbers.l0] at H
   by_cases c3 : x5_1 < (l1.length : Int)
   · rw [if_pos c3] at H
     have c3b0 : decide (x5_1 < (l1.length : Int)) = true := decide_eq_true c3
     clear c3
     replace H := guardT H; obtain ⟨c4, H⟩ := H
     have c4b0 : decide (0 ≤ x5_1) = true := decide_eq_true c4
     clear c4
     replace H := bindS H; obtain ⟨t102, A5, H⟩ := H
     by_cases c6 : t102 = true
     · subst c6
       replace H := iteT H
       by_cases c7 : x5_1 > 0
       · rw [if_pos c7] at H
         have c7b0 : decide (0 < x5_1) = true := decide_eq_true c7
         clear c7
         obtain ⟨ji8, hji8⟩ : ∃ j_ : Int, (wrap64 (x5_1 - 1)) = j_ := ⟨_, rfl⟩
         replace H : (if 0 ≤ (ji8) then (if (ji8) < (l1.length : Int) then (if (rd l1 x5_1) ≤ (rd l1 (ji8)) then (some 8) else (perigeeref10_checkNumbers.l0 k1 l0 l1 (wrap64 (x5_1 + 1)))) else (none)) else (none)) = some r := by first | (rw [hji8] at H; exact H) | (simp only [hji8] at H ⊢; exact H)
         (try rw [hji8] at A5)
         have hji8w : (IntKind.i64.wrap (x5_1 - 1)) = ji8 := (i64_w _).trans hji8
         replace H := guardT H; obtain ⟨c9, H⟩ := H
         have c9b0 : decide (0 ≤ (ji8)) = true := decide_eq_true c9
         clear c9
         replace H := guardT H; obtain ⟨c10, H⟩ := H
         have c10b0 : decide ((ji8) < (l1.length : Int)) = true := decide_eq_true c10
         clear c10
         by_cases c11 : (rd l1 x5_1) ≤ (rd l1 (ji8))
         · rw [if_pos c11] at H
           have c11b0 : decide ((rd l1 x5_1) ≤ (rd l1 (ji8))) = true := decide_eq_true c11
           clear c11
           obtain rfl := Option.some.inj H
           have p101 : 0 ≤ (x5_1 : Int) := of_decide_eq_true d58b
           have q101 : x5_1 < (l1.length : Int) := of_decide_eq_true d58b
           obtain ⟨ad101, e101, hx101_0⟩ := Kd.at_int HR1.out x5_1 p101 q101
           cases e101
           replace p101 := eq_true p101
           replace q101 := eq_true q101
           go_wp2_with (go_at_call 76; (with_reducible refine (perigeeref10_within.calls (rd l1 x5_1) 0 (wrap64 ((l0.length : Int) - 1)) true _ A5.out).mono ?_); rintro e w' ⟨rfl, ⟨nd, rfl⟩⟩; (try first | exact ⟨rfl, _, World.drewN_drewN _ _ _⟩ | exact ⟨rfl, _, Eq.trans (World.drewN_drewN _ _ _) (congrArg (World.drewN _) (Nat.add_assoc _ _ _))⟩); have p103 : 0 ≤ (x5_1 : Int) := of_decide_eq_true d58b; have q103 : x5_1 < (l1.length : Int) := of_decide_eq_true d58b; obtain ⟨ad103, e103, hx103_0⟩ := Kd.at_int HR1.out x5_1 p103 q103; obtain rfl : ad101 = ad103 := (by injection e103); replace p103 := eq_true p103; replace q103 := eq_true q103; have p104 : 0 ≤ ((ji8) : Int) := of_decide_eq_true d58b; have q104 : (ji8) < (l1.length : Int) := of_decide_eq_true d58b; obtain ⟨ad104, e104, hx104_0⟩ := Kd.at_int HR1.out (ji8) p104 q104; obtain rfl : ad101 = ad104 := (by injection e104); replace p104 := eq_true p104; replace q104 := eq_true q104)
           repeat (go_quiet (fail); try go_wp2_with (fail))
           go_ret
           exact ⟨by first | rfl | (simp; done) | (simp only [← hji8] <;> (first | rfl | simp)) | (simp [*]; done), d58a⟩
         · rw [if_neg c11] at H
           have c11b0 : decide ((rd l1 x5_1) ≤ (rd l1 (ji8))) = false := decide_eq_false c11
           clear c11
           have H' := Aside0.mk H
           clear H
           have p101 : 0 ≤ (x5_1 : Int) := of_decide_eq_true d58b
           have q101 : x5_1 < (l1.length : Int) := of_decide_eq_true d58b
           obtain ⟨ad101, e101, hx101_0⟩ := Kd.at_int HR1.out x5_1 p101 q101
           cases e101
           replace p101 := eq_true p101
           replace q101 := eq_true q101
           go_wp2_with (go_at_call 76; (with_reducible refine (perigeeref10_within.calls (rd l1 x5_1) 0 (wrap64 ((l0.length : Int) - 1)) true _ A5.out).mono ?_); rintro e w' ⟨rfl, ⟨nd, rfl⟩⟩; (try first | exact ⟨rfl, _, World.drewN_drewN _ _ _⟩ | exact ⟨rfl, _, Eq.trans (World.drewN_drewN _ _ _) (congrArg (World.drewN _) (Nat.add_assoc _ _ _))⟩); have p103 : 0 ≤ (x5_1 : Int) := of_decide_eq_true d58b; have q103 : x5_1 < (l1.length : Int) := of_decide_eq_true d58b; obtain ⟨ad103, e103, hx103_0⟩ := Kd.at_int HR1.out x5_1 p103 q103; obtain rfl : ad101 = ad103 := (by injection e103); replace p103 := eq_true p103; replace q103 := eq_true q103; have p104 : 0 ≤ ((ji8) : Int) := of_decide_eq_true d58b; have q104 : (ji8) < (l1.length : Int) := of_decide_eq_true d58b; obtain ⟨ad104, e104, hx104_0⟩ := Kd.at_int HR1.out (ji8) p104 q104; obtain rfl : ad101 = ad104 := (by injection e104); replace p104 := eq_true p104; replace q104 := eq_true q104)
           repeat (go_quiet (fail); try go_wp2_with (fail))
           go_roundg k1
           case measure => have := HK1.out; omega
           case rel => exact ⟨(wrap64 (x5_1 + 1)), d58c, H', ⟨by have := HK1.out; omega⟩, d58a⟩
       · rw [if_neg c7] at H
         have c7b0 : decide (0 < x5_1) = false := decide_eq_false c7
         clear c7
         have H' := Aside0.mk H
         clear H
         have p101 : 0 ≤ (x5_1 : Int) := of_decide_eq_true d58b
         have q101 : x5_1 < (l1.length : Int) := of_decide_eq_true d58b
         obtain ⟨ad101, e101, hx101_0⟩ := Kd.at_int HR1.out x5_1 p101 q101
         cases e101
         replace p101 := eq_true p101
         replace q101 := eq_true q101
         go_wp2_with (go_at_call 76; (with_reducible refine (perigeeref10_within.calls (rd l1 x5_1) 0 (wrap64 ((l0.length : Int) - 1)) true _ A5.out).mono ?_); rintro e w' ⟨rfl, ⟨nd, rfl⟩⟩; (try first | exact ⟨rfl, _, World.drewN_drewN _ _ _⟩ | exact ⟨rfl, _, Eq.trans (World.drewN_drewN _ _ _) (congrArg (World.drewN _) (Nat.add_assoc _ _ _))⟩))
         repeat (go_quiet (fail); try go_wp2_with (fail))
         go_roundg k1
         case measure => have := HK1.out; omega
         case rel => exact ⟨(wrap64 (x5_1 + 1)), d58c, H', ⟨by have := HK1.out; omega⟩, d58a⟩
     · replace c6 := Bool.eq_false_iff.mpr c6
       subst c6
       replace H := iteF H
       obtain rfl := Option.some.inj H
       have p101 : 0 ≤ (x5_1 : Int) := of_decide_eq_true d58b
       have q101 : x5_1 < (l1.length : Int) := of_decide_eq_true d58b
       obtain ⟨ad101, e101, hx101_0⟩ := Kd.at_int HR1.out x5_1 p101 q101
       cases e101
       replace p101 := eq_true p101
       replace q101 := eq_true q101
       go_wp2_with (go_at_call 76; (with_reducible refine (perigeeref10_within.calls (rd l1 x5_1) 0 (wrap64 ((l0.length : Int) - 1)) false _ A5.out).mono ?_); rintro e w' ⟨rfl, ⟨nd, rfl⟩⟩; (try first | exact ⟨rfl, _, World.drewN_drewN _ _ _⟩ | exact ⟨rfl, _, Eq.trans (World.drewN_drewN _ _ _) (congrArg (World.drewN _) (Nat.add_assoc _ _ _))⟩))
       go_ret
       exact ⟨d58c, d58a⟩
   · rw [if_neg c3] at H
     have c3b0 : decide (x5_1 < (l1.length : Int)) = false := decide_eq_false c3
     clear c3
     obtain rfl := Option.some.inj H
     go_wp2
     go_ret
     exact ⟨d58c, d58a⟩
end Go.Proofs.YtbngmblgkkdhpaaDoor.Q
