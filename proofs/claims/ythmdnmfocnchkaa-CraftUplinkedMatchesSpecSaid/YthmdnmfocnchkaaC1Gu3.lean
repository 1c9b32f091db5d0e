-- Made by wip/tools/claimp.py of this session's texts; Lean checks it.
import Derived.Test.YthmdnmfocnchkaaC1Q0
import Derived.Test.YthmdnmfocnchkaaC1Gu1
import Derived.Test.YthmdnmfocnchkaaC1Gu2
namespace Go.Proofs.Ythmdnmfocnchkaa.Q
open Go.RowKit Go.Proofs.YthmdnmfocnchkaaW.PrintWords Go.Proofs.YthmdnmfocnchkaaW.PrintLast Go.Proofs.YthmdnmfocnchkaaW.PrintMore
attribute [local go_sem] max2_int min2_int max_two min_two max_three min_three max_four min_four
open Go.Proofs.Ythmdnmfocnchkaa.Base
attribute [local go_sem high] str_leq str_gtr str_geq
set_option linter.unusedVariables false
set_option linter.unusedSimpArgs false
def packet_raw.j0 : Nat → Int → Int → Bool → Int → Int → List Int → Option (List Int)
  | 0, _, _, _, _, _, _ => none
  | k + 1, x3, x102000, x102001, x102002, x102003, x102004 => (packet_two.f x3).bind fun t102 => ((packet_two.f (wrap64 ((wrap64 (x102002 * 16384)) + x102003))).bind fun t105 => (if t102.length + t105.length < 140737488355328 then ((some (t102 ++ t105 : List Int)).bind fun y108 => ((packet_two.f (wrap64 ((x102004.length : Int) + 1))).bind fun t111 => (if y108.length + t111.length < 140737488355328 then ((some (y108 ++ t111 : List Int)).bind fun y114 => (if y114.length + x102004.length < 140737488355328 then ((packet_summed.f k (y114 ++ x102004)).bind fun t120 => (some t120)) else (none))) else (none)))) else (none)))
def packet_raw.f (k : Nat) (a0_0 : Int) (a0_1 : Bool) (a0_2 : Int) (a0_3 : Int) (l0_4 : List Int) : Option (List Int) := if a0_1 = true then (packet_raw.j0 k (wrap64 (a0_0 + 4096)) a0_0 a0_1 a0_2 a0_3 l0_4) else (packet_raw.j0 k a0_0 a0_0 a0_1 a0_2 a0_3 l0_4)
def packet_raw.T4 : Bool × List (List Nat × List Nat) := (true, [([], []), ([0], [0]), ([], []), ([2], [2]), ([3], [3]), ([], []), ([5], [5]), ([4, 6], [4, 6]), ([7, 1], [7]), ([1, 8, 8], [1, 8]), ([9, 9, 0, 1, 2, 3, 4, 5, 6, 7, 8, 9], [9])])
def packet_raw.B4 : List Nat := [0, 1, 0, 4, 12, 0, 32, 124, 255, 511, 1023]
theorem packet_raw.tab4 : rtab .any (opsOf Try.f72 4) = packet_raw.T4 := by kernel_rfl
theorem packet_raw.bits4 : waitsOk packet_raw.T4.2 packet_raw.B4 = true := by kernel_rfl
theorem d72a {p : Prop} (h : p := by repeat (first | (with_reducible first | exact HB.out | apply below_alloc | apply pw_below_drewN | apply below_drew1 | refine below_set ?_ GE101.out) | exact HB.out)) : p := h
theorem d72b {p : Prop} (h : p := by (try simp only [List.map_toArray, List.map_cons, List.map_nil]); first | done | rfl | (simp only [List.length_drop, List.length_take]; rfl)) : p := h
theorem d72c {p : Prop} (h : p := by repeat (first | (with_reducible first | exact HB.out | apply below_alloc | apply pw_below_drewN | apply below_drew1) | exact HB.out)) : p := h
theorem d72d {p : Prop} (h : p := by (with_reducible repeat (first | refine blk_drewN ?_ _ | refine blk_drew ?_ | refine blk_alloc ?_ _)); exact BK101.out) : p := h
theorem d72e {p : Prop} (h : p := by (with_reducible repeat (first | apply Kd.R_alloc | apply Kd.R_drewN | apply Kd.R_drew)); exact HO107.out) : p := h
theorem d72f {p : Prop} (h : p := by (with_reducible repeat (first | apply Kd.R_alloc | apply Kd.R_drewN | apply Kd.R_drew)); exact HO110.out) : p := h
theorem d72g {p : Prop} (h : p := by (with_reducible repeat (first | apply Kd.R_alloc | apply Kd.R_drewN | apply Kd.R_drew)); exact HO113.out) : p := h
set_option maxHeartbeats 8000000 in
set_option maxRecDepth 100000 in
theorem packet_raw.calls (k : Nat) (a0_0 : Int) (a0_1 : Bool) (a0_2 : Int) (a0_3 : Int) (A0_4 : Option Addr) (c0_4 : Nat) (l0_4 : List Int) (r : List Int) (w : World) (hr0_4 : Kd.C (Kd.int .u8) w A0_4 l0_4.length l0_4) (hc0_4 : l0_4.length ≤ c0_4) (h : packet_raw.f k a0_0 a0_1 a0_2 a0_3 l0_4 = some r) :
 Calls Try.prog 72 #[.agg #[.int .i64 a0_0, .bool a0_1, .int .i64 a0_2, .int .i64 a0_3, .slice A0_4 l0_4.length c0_4]] w fun e w' => ∃ v0_ : Value, e = .returned (v0_) ∧ Kd.R (Kd.int .u8) 5 w' w.heap.size (fun _ => True) v0_ r ∧ Below w.heap.size w w' := by
 have hu41 := Try.underlying41
 have HR0_4 := Aside0.mk hr0_4
 have HC0_4 := Aside0.mk hc0_4
 clear hr0_4 hc0_4
 have HB := Aside0.mk (Below.refl w.heap.size w)
 have H : (if a0_1 = true then (packet_raw.j0 k (wrap64 (a0_0 + 4096)) a0_0 a0_1 a0_2 a0_3 l0_4) else (packet_raw.j0 k a0_0 a0_0 a0_1 a0_2 a0_3 l0_4)) = some r := h
 clear h
 have HC2 := Aside0.mk H
 clear H
 go_enter Try.func72, Try.ntmps72
 go_upto_if 8 with ((with_reducible refine gate_dst (N := 1) rfl ?_); refine box_event ?hg (N := 1) ?hd (cs := #[.int .i64 a0_0, .bool a0_1, .int .i64 a0_2, .int .i64 a0_3, .slice A0_4 l0_4.length c0_4]) (t := 41) ?hr ?_; (case hd => rfl); (case hg => rfl); (case hr => first | (go_simp; done) | (go_simp; rfl)); intro gb101 hg w3 hbox hb; have n0_ := Aside0.mk (below_step d72c hb); have n1_ := Aside0.mk (hbox); have n2_ := Aside0.mk ((by rw [hg]; exact (below_size d72c) : w.heap.size ≤ gb101)); have n3_ := Aside0.mk ((by rw [hg]; exact (below_size d72c) : w.heap.size ≤ gb101)); clear HB; have HB := n0_; have BK101 := n1_; have GW101 := n2_; have GE101 := n3_; clear n0_ n1_ n2_ n3_; clear hb hbox hg; have hcz4_0 : w3.cell? ⟨gb101, 0, none⟩ = some (.int .i64 a0_0) := (blk_cell BK101.out 0).trans rfl; have hcz4_1 : w3.cell? ⟨gb101, 1, none⟩ = some (.bool a0_1) := (blk_cell BK101.out 1).trans rfl; have hcz4_2 : w3.cell? ⟨gb101, 2, none⟩ = some (.int .i64 a0_2) := (blk_cell BK101.out 2).trans rfl; have hcz4_3 : w3.cell? ⟨gb101, 3, none⟩ = some (.int .i64 a0_3) := (blk_cell BK101.out 3).trans rfl; have hcz4_4 : w3.cell? ⟨gb101, 4, none⟩ = some (.slice A0_4 l0_4.length c0_4) := (blk_cell BK101.out 4).trans rfl; have hfz4_0 := blk_frozen BK101.out 0; have hfz4_1 := blk_frozen BK101.out 1; have hfz4_2 := blk_frozen BK101.out 2; have hfz4_3 := blk_frozen BK101.out 3; have hfz4_4 := blk_frozen BK101.out 4)
 (try simp only [Act.put, List.setIfInBounds_toArray, List.set_cons_zero, List.set_cons_succ])
 go_cut [3] (fun v3 wc => ∃ (kq : Nat) (x3_1 : Int), v3 = .int .i64 x3_1 ∧ Aside0 (packet_raw.j0 kq x3_1 a0_0 a0_1 a0_2 a0_3 l0_4 = some r) ∧ Aside0 (kq ≤ k) ∧ Aside0 (wc.heap[gb101]? = some (.cells #[.int .i64 a0_0, .bool a0_1, .int .i64 a0_2, .int .i64 a0_3, (.slice A0_4 l0_4.length c0_4)] 41 (0, 0))) ∧ Aside0 (Below w.heap.size w wc))
 case first =>
  have H := HC2.out
  clear HC2
  by_cases c5 : a0_1 = true
  · subst c5
    replace H := iteT H
    have H' := Aside0.mk H
    clear H
    go_wp2
    go_meet
    case rel => exact ⟨_, (wrap64 (a0_0 + 4096)), (by first | rfl | (simp; done) | (simp [*]; done)), H', ⟨by first | omega | exact Nat.le_refl _⟩, ⟨d72d⟩, ⟨d72a⟩⟩
  · replace c5 := Bool.eq_false_iff.mpr c5
    subst c5
    replace H := iteF H
    have H' := Aside0.mk H
    clear H
    go_wp2
    go_meet
    case rel => exact ⟨_, (a0_0), (by first | rfl | (simp; done) | (simp [*]; done)), H', ⟨by first | omega | exact Nat.le_refl _⟩, ⟨d72d⟩, ⟨d72a⟩⟩
 case rest =>
  clear HC2
  try clear hcz4_0
  try clear hcz4_1
  try clear hcz4_2
  try clear hcz4_3
  try clear hcz4_4
  try clear hfz4_0
  try clear hfz4_1
  try clear hfz4_2
  try clear hfz4_3
  try clear hfz4_4
  obtain ⟨kq, x3_1, rfl, HA, HJ1, BK101, HB⟩ := hcut
  cases kq with
  | zero => exact absurd HA.out (by simp [packet_raw.j0])
  | succ kj1 =>
   have H := HA.out
   clear HA
   simp only [packet_raw.j0] at H
   replace H := bindS H; obtain ⟨t102, A6, H⟩ := H
   replace H := bindS H; obtain ⟨t105, A7, H⟩ := H
   replace H := guardT H; obtain ⟨c8, H⟩ := H
   have LMc8 := Aside0.mk c8
   clear c8
   obtain ⟨y108, hy108⟩ : ∃ y_ : List Int, y_ = (t102 ++ t105) := ⟨_, rfl⟩
   replace H : ((packet_two.f (wrap64 ((l0_4.length : Int) + 1))).bind fun t111 => (if y108.length + t111.length < 140737488355328 then ((some (y108 ++ t111 : List Int)).bind fun y114 => (if y114.length + l0_4.length < 140737488355328 then ((packet_summed.f kj1 (y114 ++ l0_4)).bind fun t120 => (some t120)) else (none))) else (none))) = some r := by first | (rw [hy108]; with_reducible exact H) | (have H2_ := (Option.bind_some _ _).symm.trans H; rw [hy108]; with_reducible exact H2_) | (have H2_ := (Option.bind_some _ _).symm.trans H; with_reducible exact H2_) | with_reducible exact H | (rw [hy108]; exact H) | exact H
   have Ny108 := Aside0.mk hy108
   clear hy108
   replace H := bindS H; obtain ⟨t111, A9, H⟩ := H
   replace H := guardT H; obtain ⟨c10, H⟩ := H
   have LMc10 := Aside0.mk c10
   clear c10
   obtain ⟨y114, hy114⟩ : ∃ y_ : List Int, y_ = (y108 ++ t111) := ⟨_, rfl⟩
   replace H : (if y114.length + l0_4.length < 140737488355328 then ((packet_summed.f kj1 (y114 ++ l0_4)).bind fun t120 => (some t120)) else (none)) = some r := by first | (rw [hy114]; with_reducible exact H) | (have H2_ := (Option.bind_some _ _).symm.trans H; rw [hy114]; with_reducible exact H2_) | (have H2_ := (Option.bind_some _ _).symm.trans H; with_reducible exact H2_) | with_reducible exact H | (rw [hy114]; exact H) | exact H
   have Ny114 := Aside0.mk hy114
   clear hy114
   replace H := guardT H; obtain ⟨c11, H⟩ := H
   have LMc11 := Aside0.mk c11
   clear c11
   obtain ⟨y117, hy117⟩ : ∃ y_ : List Int, y_ = (y114 ++ l0_4) := ⟨_, rfl⟩
   replace H : ((packet_summed.f kj1 y117).bind fun t120 => (some t120)) = some r := by first | (rw [hy117]; with_reducible exact H) | (have H2_ := (Option.bind_some _ _).symm.trans H; rw [hy117]; with_reducible exact H2_) | (have H2_ := (Option.bind_some _ _).symm.trans H; with_reducible exact H2_) | with_reducible exact H | (rw [hy117]; exact H) | exact H
   have Ny117 := Aside0.mk hy117
   clear hy117
   replace H := bindS H; obtain ⟨t120, A12, H⟩ := H
   obtain rfl := Option.some.inj H
   try go_wp2
   have n0_ := Aside0.mk (blk_drew BK101.out)
   have n1_ := Aside0.mk (below_drew1 HB.out)
   clear BK101
   clear HB
   have BK101 := n0_
   have HB := n1_
   clear n0_ n1_
   refine start_ (n := 11) (S := fun w' => w'.cell? ⟨gb101, 0, none⟩ = some (.int .i64 a0_0) ∧ w'.cell? ⟨gb101, 1, none⟩ = some (.bool a0_1) ∧ w'.cell? ⟨gb101, 2, none⟩ = some (.int .i64 a0_2) ∧ w'.cell? ⟨gb101, 3, none⟩ = some (.int .i64 a0_3) ∧ w'.cell? ⟨gb101, 4, none⟩ = some (.slice A0_4 l0_4.length c0_4)) (ds := []) #[false, false, false, false, false, false, false, false, false, false, false] (by kernel_rfl) rfl rfl ⟨(blk_cell BK101.out 0).trans rfl, (blk_cell BK101.out 1).trans rfl, (blk_cell BK101.out 2).trans rfl, (blk_cell BK101.out 3).trans rfl, (blk_cell BK101.out 4).trans rfl⟩ (fun hHeld => ?_); refine with_tabW packet_raw.tab4 packet_raw.bits4 (fun HT_ HW_ => ?_)
   generalize wc.drew = w13 at BK101 HB hHeld ⊢
   refine pure_ (i := 0) (N := some 11) (v := ?_) (a' := ?_) #[true, false, false, false, false, false, false, false, false, false, false] rfl rfl (any_of HT_.out (by kernel_rfl)) (fun _ _ _ h => h) (Or.inl ⟨by rfl, ?_⟩) ?_ ?_
   rotate_left
   · intro w'
     go_simp
     with_reducible rfl
   rotate_left
   · simp only [Act.put, List.setIfInBounds_toArray, List.set_cons_zero, List.set_cons_succ, i64_w, i32_w]
     rfl
   refine pure_ (i := 2) (N := some 13) (v := ?_) (a' := ?_) #[true, false, true, false, false, false, false, false, false, false, false] rfl rfl (any_of HT_.out (by kernel_rfl)) (fun _ _ _ h => h) (Or.inl ⟨by rfl, ?_⟩) ?_ ?_
   rotate_left
   · intro w'
     go_simp
     with_reducible rfl
   rotate_left
   · simp only [Act.put, List.setIfInBounds_toArray, List.set_cons_zero, List.set_cons_succ, i64_w, i32_w]
     rfl
   refine pure_ (i := 5) (N := some 16) (v := ?_) (a' := ?_) #[true, false, true, false, false, true, false, false, false, false, false] rfl rfl (any_of HT_.out (by kernel_rfl)) (fun _ _ _ h => h) (Or.inl ⟨by rfl, ?_⟩) ?_ ?_
   rotate_left
   · intro w'
     go_simp
     with_reducible rfl
   rotate_left
   · simp only [Act.put, List.setIfInBounds_toArray, List.set_cons_zero, List.set_cons_succ, i64_w, i32_w]
     rfl
   refine take_ (i := 3) (N := some 14) (v := ?_) (a' := ?_) #[true, false, true, true, false, true, false, false, false, false, false] rfl rfl (take_ofW HT_.out HW_.out (by kernel_rfl)) (fun _ _ _ h => h) (Or.inl ⟨by rfl, ?_⟩) hHeld ?_ ?_
   rotate_left
   · rintro w' ⟨s0, s1, s2, s3, s4⟩
     go_simp
     with_reducible rfl
   rotate_left
   · simp only [Act.put, List.setIfInBounds_toArray, List.set_cons_zero, List.set_cons_succ, i64_w, i32_w]
     rfl
   refine pure_ (i := 4) (N := some 15) (v := ?_) (a' := ?_) #[true, false, true, true, true, true, false, false, false, false, false] rfl rfl (any_of HT_.out (by kernel_rfl)) (fun _ _ _ h => h) (Or.inl ⟨by rfl, ?_⟩) ?_ ?_
   rotate_left
   · intro w'
     go_simp
     with_reducible rfl
   rotate_left
   · simp only [Act.put, List.setIfInBounds_toArray, List.set_cons_zero, List.set_cons_succ, i64_w, i32_w]
     rfl
   refine take_ (i := 6) (N := some 17) (v := ?_) (a' := ?_) #[true, false, true, true, true, true, true, false, false, false, false] rfl rfl (take_ofW HT_.out HW_.out (by kernel_rfl)) (fun _ _ _ h => h) (Or.inl ⟨by rfl, ?_⟩) hHeld ?_ ?_
   rotate_left
   · rintro w' ⟨s0, s1, s2, s3, s4⟩
     go_simp
     with_reducible rfl
   rotate_left
   · simp only [Act.put, List.setIfInBounds_toArray, List.set_cons_zero, List.set_cons_succ, i64_w, i32_w]
     rfl
   refine pure_ (i := 7) (N := some 18) (v := ?_) (a' := ?_) #[true, false, true, true, true, true, true, true, false, false, false] rfl rfl (any_of HT_.out (by kernel_rfl)) (fun _ _ _ h => h) (Or.inl ⟨by rfl, ?_⟩) ?_ ?_
   rotate_left
   · intro w'
     go_simp
     with_reducible rfl
   rotate_left
   · simp only [Act.put, List.setIfInBounds_toArray, List.set_cons_zero, List.set_cons_succ, i64_w, i32_w]
     rfl
   refine one_ (i := 1) (N := some 12) #[true, true, true, true, true, true, true, true, false, false, false] rfl rfl (one_of HT_.out (by kernel_rfl)) (by decide) (fun K hK => ?_)
   refine goes_ Try.func100 (by kernel_rfl) rfl #[.int .i64 x3_1] (by rfl) rfl rfl d72b ?_
   with_reducible refine (packet_two.calls x3_1 t102 _ A6.out).mono ?_
   rintro e w14 ⟨v103, rfl, ho0, hb⟩
   refine ⟨_, rfl, ?_⟩
   have n0_ := Aside0.mk (Kd.R_lower ho0 (below_size d72a))
   have n1_ := Aside0.mk (blk_below (g := gb101) (o := .cells #[.int .i64 a0_0, .bool a0_1, .int .i64 a0_2, .int .i64 a0_3, .slice A0_4 l0_4.length c0_4] 41 (0, 0)) d72d hb)
   have n2_ := Aside0.mk (below_step d72a hb)
   clear BK101
   clear HB
   have HO104 := n0_
   have BK101 := n1_
   have HB := n2_
   clear n0_ n1_ n2_
   (try clear hb)
   skip
   skip
   skip
   (try clear ho0)
   refine hK.out _ _ ⟨(blk_cell BK101.out 0).trans rfl, (blk_cell BK101.out 1).trans rfl, (blk_cell BK101.out 2).trans rfl, (blk_cell BK101.out 3).trans rfl, (blk_cell BK101.out 4).trans rfl⟩ (fun hHeld => ?_)
   clear hK K
   refine norm_ (a' := ?_) ?_ ?_
   rotate_left
   · show Act.put _ (some 12) _ = _
     simp only [Act.put, List.setIfInBounds_toArray, List.set_cons_zero, List.set_cons_succ, i64_w, i32_w]
     rfl
   refine one_ (i := 8) (N := some 19) #[true, true, true, true, true, true, true, true, true, false, false] rfl rfl (one_of HT_.out (by kernel_rfl)) (by decide) (fun K hK => ?_)
   refine goes_ Try.func100 (by kernel_rfl) rfl #[.int .i64 (wrap64 ((wrap64 (a0_2 * 16384)) + a0_3))] (by rfl) rfl rfl d72b ?_
   with_reducible refine (packet_two.calls (wrap64 ((wrap64 (a0_2 * 16384)) + a0_3)) t105 _ A7.out).mono ?_
   rintro e w15 ⟨v106, rfl, ho0, hb⟩
   refine ⟨_, rfl, ?_⟩
   have n0_ := Aside0.mk (Kd.R_elder' (by (with_reducible repeat (first | apply Kd.R_alloc | apply Kd.R_drewN | apply Kd.R_drew)); exact HO104.out) (Kd.R_base ho0) hb)
   have n1_ := Aside0.mk (Kd.R_lower (Kd.R_new' ho0 (Kd.R_lt (by (with_reducible repeat (first | apply Kd.R_alloc | apply Kd.R_drewN | apply Kd.R_drew)); exact HO104.out))) (below_size d72a))
   have n2_ := Aside0.mk (blk_below (g := gb101) (o := .cells #[.int .i64 a0_0, .bool a0_1, .int .i64 a0_2, .int .i64 a0_3, .slice A0_4 l0_4.length c0_4] 41 (0, 0)) d72d hb)
   have n3_ := Aside0.mk (below_step d72a hb)
   clear HO104
   clear BK101
   clear HB
   have HO104 := n0_
   have HO107 := n1_
   have BK101 := n2_
   have HB := n3_
   clear n0_ n1_ n2_ n3_
   (try clear hb)
   skip
   skip
   skip
   (try clear ho0)
   obtain ⟨Ao17, co17, eo17⟩ := Kd.R_slice HO107.out
   (first | subst eo17 | (injection eo17 with f1_ f2_ f3_; have f4_ := f1_.symm; have f5_ := f3_.symm; clear f1_ f2_ f3_; subst f4_; subst f5_))
   refine hK.out _ _ ⟨(blk_cell BK101.out 0).trans rfl, (blk_cell BK101.out 1).trans rfl, (blk_cell BK101.out 2).trans rfl, (blk_cell BK101.out 3).trans rfl, (blk_cell BK101.out 4).trans rfl⟩ (fun hHeld => ?_)
   clear hK K
   refine norm_ (a' := ?_) ?_ ?_
   rotate_left
   · show Act.put _ (some 19) _ = _
     simp only [Act.put, List.setIfInBounds_toArray, List.set_cons_zero, List.set_cons_succ, i64_w, i32_w]
     rfl
   refine one_ (i := 9) (N := some 20) #[true, true, true, true, true, true, true, true, true, true, false] rfl rfl (one_of HT_.out (by kernel_rfl)) (by decide) (fun K hK => ?_)
   refine Kd.R_append_rows_step (Kd.int .u8) (w0 := w) w.heap.size (by rfl) (.tmp 12) (.tmp 19) 28 5 (.int .u8 0) 1 rfl Try.underlying28 info5 rfl (by decide) (by omega) v103 t102 t105 _ _ _ (fun k_ => some k_ ≠ (.slice Ao17 t105.length co17 : Value).ownBlock) (fun _ => False) rfl rfl ?aO ?aR (fun _ _ h => h) (fun _ h => h.elim) ?aF ?aB ?aS ?aL ?_
   (case aR => exact C_go (Kd.R_reads' HO107.out).2.2)
   (case aB => exact d72a)
   (case aF => exact (fun k_ hk => Kd.fresh' (Kd.R_lt d72e) k_ hk))
   (case aO => exact (by (with_reducible repeat (first | apply Kd.R_alloc | apply Kd.R_drewN | apply Kd.R_drew)); exact Kd.R_mono HO104.out (fun _ hk => hk.2)))
   (case aS => exact (below_size d72a))
   (case aL => have := LMc8.out; omega)
   intro v109 w16 ho hb hg hat
   rw [← Ny108.out] at ho
   have n0_ := Aside0.mk (blk_grown (g := gb101) (o := .cells #[.int .i64 a0_0, .bool a0_1, .int .i64 a0_2, .int .i64 a0_3, .slice A0_4 l0_4.length c0_4] 41 (0, 0)) d72d hg (Kd.R_ne HO104.out BK101.out (by decide)))
   have n1_ := Aside0.mk (Kd.R_after (ok := (fun _ => True)) d72e hg hat)
   have n2_ := Aside0.mk (hb)
   have n3_ := Aside0.mk (ho)
   clear BK101
   clear HO107
   clear HB
   clear HO104
   have BK101 := n0_
   have HO107 := n1_
   have HB := n2_
   have HO110 := n3_
   clear n0_ n1_ n2_ n3_
   clear ho hb hg hat
   refine hK.out _ _ ⟨(blk_cell BK101.out 0).trans rfl, (blk_cell BK101.out 1).trans rfl, (blk_cell BK101.out 2).trans rfl, (blk_cell BK101.out 3).trans rfl, (blk_cell BK101.out 4).trans rfl⟩ (fun hHeld => ?_)
   clear hK K
   refine norm_ (a' := ?_) ?_ ?_
   rotate_left
   · show Act.put _ (some 20) _ = _
     simp only [Act.put, List.setIfInBounds_toArray, List.set_cons_zero, List.set_cons_succ, i64_w, i32_w]
     rfl
   refine pure_ (i := 10) (N := some 4) (v := ?_) (a' := ?_) #[true, true, true, true, true, true, true, true, true, true, true] rfl rfl (any_of HT_.out (by kernel_rfl)) (fun _ _ _ h => h) (Or.inl ⟨by rfl, ?_⟩) ?_ ?_
   rotate_left
   · intro w'
     go_simp
     with_reducible rfl
   rotate_left
   · simp only [Act.put, List.setIfInBounds_toArray, List.set_cons_zero, List.set_cons_succ, i64_w, i32_w]
     rfl
   refine done_ (done_of HT_.out (by kernel_rfl)) ?_
   obtain ⟨hcz18_0, hcz18_1, hcz18_2, hcz18_3, hcz18_4⟩ := blkC5 BK101.out
   have hfz18_0 := blk_frozen BK101.out 0
   have hfz18_1 := blk_frozen BK101.out 1
   have hfz18_2 := blk_frozen BK101.out 2
   have hfz18_3 := blk_frozen BK101.out 3
   have hfz18_4 := blk_frozen BK101.out 4
   try go_wp2_with (first | ((with_reducible refine gate_callee (f := 100) rfl ?_); refine goesL_ (some 26) rfl rfl Try.func100 (by kernel_rfl) rfl #[.int .i64 (wrap64 ((l0_4.length : Int) + 1))] rfl d72b ?_; (with_reducible refine (packet_two.calls (wrap64 ((l0_4.length : Int) + 1)) t111 _ A9.out).mono ?_); rintro e w19 ⟨v112, rfl, ho0, hb⟩; refine ⟨_, rfl, ?_⟩; have n0_ := Aside0.mk (Kd.R_elder' d72e (Kd.R_base ho0) hb); have n1_ := Aside0.mk (Kd.R_elder' d72f (Kd.R_base ho0) hb); have n2_ := Aside0.mk (Kd.R_lower (Kd.R_new' (Kd.R_new' ho0 (Kd.R_lt d72e)) (Kd.R_lt d72f)) (below_size d72a)); have n3_ := Aside0.mk (blk_below (g := gb101) (o := .cells #[.int .i64 a0_0, .bool a0_1, .int .i64 a0_2, .int .i64 a0_3, .slice A0_4 l0_4.length c0_4] 41 (0, 0)) d72d hb); have n4_ := Aside0.mk (below_step d72a hb); clear HO107; clear HO110; clear BK101; clear HB; have HO107 := n0_; have HO110 := n1_; have HO113 := n2_; have BK101 := n3_; have HB := n4_; clear n0_ n1_ n2_ n3_ n4_; (try clear hb); (try clear ho0); obtain ⟨Ao21, co21, eo21⟩ := Kd.R_slice HO113.out; subst eo21) | ((with_reducible refine gate_builtin (b := .append) (xs := #[.tmp 21, .tmp 26]) rfl ?_); at_builtin; refine Kd.R_append_rows (Kd.int .u8) (w0 := w) w.heap.size rfl (.tmp 21) (.tmp 26) 28 5 (.int .u8 0) 1 rfl Try.underlying28 info5 rfl (by decide) (by omega) v109 y108 t111 _ _ _ (fun k_ => some k_ ≠ (.slice Ao17 t105.length co17 : Value).ownBlock ∧ some k_ ≠ (.slice Ao21 t111.length co21 : Value).ownBlock) (fun _ => False) rfl rfl ?aO ?aR (fun _ _ h => h) (fun _ h => h.elim) ?aF ?aB ?aS ?aL ?_; (case aR => exact C_go (Kd.R_reads' HO113.out).2.2); (case aB => exact d72a); (case aF => exact (fun k_ hk => ⟨Kd.fresh' (Kd.R_lt d72e) k_ hk, Kd.fresh' (Kd.R_lt d72g) k_ hk⟩)); (case aO => exact d72f); (case aS => exact (below_size d72a)); (case aL => have := LMc10.out; omega); intro v115 w20 ho hb hg hat; rw [← Ny114.out] at ho; have n0_ := Aside0.mk (blk_grown (g := gb101) (o := .cells #[.int .i64 a0_0, .bool a0_1, .int .i64 a0_2, .int .i64 a0_3, .slice A0_4 l0_4.length c0_4] 41 (0, 0)) d72d hg (Kd.R_ne HO110.out BK101.out (by decide))); have n1_ := Aside0.mk (Kd.R_after (ok := (fun k_ => some k_ ≠ (.slice Ao21 t111.length co21 : Value).ownBlock)) (by (with_reducible repeat (first | apply Kd.R_alloc | apply Kd.R_drewN | apply Kd.R_drew)); exact Kd.R_mono HO107.out (fun _ hk => ⟨hk.2, hk.1.2⟩)) hg hat); have n2_ := Aside0.mk (Kd.R_after (ok := (fun k_ => some k_ ≠ (.slice Ao17 t105.length co17 : Value).ownBlock)) (by (with_reducible repeat (first | apply Kd.R_alloc | apply Kd.R_drewN | apply Kd.R_drew)); exact Kd.R_mono HO113.out (fun _ hk => ⟨hk.1.2, hk.2⟩)) hg hat); have n3_ := Aside0.mk (hb); have n4_ := Aside0.mk (ho); clear BK101; clear HO107; clear HO113; clear HB; clear HO110; have BK101 := n0_; have HO107 := n1_; have HO113 := n2_; have HB := n3_; have HO116 := n4_; clear n0_ n1_ n2_ n3_ n4_; clear ho hb hg hat; have hcz22_0 : w20.cell? ⟨gb101, 0, none⟩ = some (.int .i64 a0_0) := (blk_cell BK101.out 0).trans rfl; have hcz22_1 : w20.cell? ⟨gb101, 1, none⟩ = some (.bool a0_1) := (blk_cell BK101.out 1).trans rfl; have hcz22_2 : w20.cell? ⟨gb101, 2, none⟩ = some (.int .i64 a0_2) := (blk_cell BK101.out 2).trans rfl; have hcz22_3 : w20.cell? ⟨gb101, 3, none⟩ = some (.int .i64 a0_3) := (blk_cell BK101.out 3).trans rfl; have hcz22_4 : w20.cell? ⟨gb101, 4, none⟩ = some (.slice A0_4 l0_4.length c0_4) := (blk_cell BK101.out 4).trans rfl; have hfz22_0 := blk_frozen BK101.out 0; have hfz22_1 := blk_frozen BK101.out 1; have hfz22_2 := blk_frozen BK101.out 2; have hfz22_3 := blk_frozen BK101.out 3; have hfz22_4 := blk_frozen BK101.out 4) | ((with_reducible refine gate_builtin (b := .append) (xs := #[.tmp 28, .tmp 30]) rfl ?_); at_builtin; refine Kd.R_append_rows (Kd.int .u8) (w0 := w) w.heap.size rfl (.tmp 28) (.tmp 30) 28 5 (.int .u8 0) 1 rfl Try.underlying28 info5 rfl (by decide) (by omega) v115 y114 l0_4 _ _ _ (fun k_ => some k_ ≠ (.slice Ao17 t105.length co17 : Value).ownBlock ∧ some k_ ≠ (.slice Ao21 t111.length co21 : Value).ownBlock) (fun _ => False) rfl rfl ?aO ?aR (fun _ _ h => h) (fun _ h => h.elim) ?aF ?aB ?aS ?aL ?_; (case aR => exact C_go (Kd.C_below HR0_4.out HB.out)); (case aB => exact d72a); (case aF => exact (fun k_ hk => ⟨Kd.fresh' (Kd.R_lt d72e) k_ hk, Kd.fresh' (Kd.R_lt d72g) k_ hk⟩)); (case aO => exact (by (with_reducible repeat (first | apply Kd.R_alloc | apply Kd.R_drewN | apply Kd.R_drew)); exact HO116.out)); (case aS => exact (below_size d72a)); (case aL => have := LMc11.out; omega); intro v118 w23 ho hb hg hat; rw [← Ny117.out] at ho; have n0_ := Aside0.mk (blk_grown (g := gb101) (o := .cells #[.int .i64 a0_0, .bool a0_1, .int .i64 a0_2, .int .i64 a0_3, .slice A0_4 l0_4.length c0_4] 41 (0, 0)) d72d hg (Kd.R_ne HO116.out BK101.out (by decide))); have n1_ := Aside0.mk (Kd.R_after (ok := (fun k_ => some k_ ≠ (.slice Ao21 t111.length co21 : Value).ownBlock)) d72e hg hat); have n2_ := Aside0.mk (Kd.R_after (ok := (fun k_ => some k_ ≠ (.slice Ao17 t105.length co17 : Value).ownBlock)) d72g hg hat); have n3_ := Aside0.mk (hb); have n4_ := Aside0.mk (ho); clear BK101; clear HO107; clear HO113; clear HB; clear HO116; have BK101 := n0_; have HO107 := n1_; have HO113 := n2_; have HB := n3_; have HO119 := n4_; clear n0_ n1_ n2_ n3_ n4_; clear ho hb hg hat; obtain ⟨Ao24, co24, eo24⟩ := Kd.R_slice HO119.out; subst eo24) | ((with_reducible refine gate_callee (f := 101) rfl ?_); refine goesL_ (some 32) rfl rfl Try.func101 (by kernel_rfl) rfl #[.slice Ao24 y117.length co24] rfl d72b ?_; (with_reducible refine (packet_summed.calls kj1 (fun k_ => some k_ = (.slice Ao24 y117.length co24 : Value).ownBlock) (.slice Ao24 y117.length co24) y117 t120 w _ ?side1 ?side2 A12.out).mono ?_); (case side1 => exact d72a); (case side2 => exact Kd.R_tight rfl HO119.out); rintro e w25 ⟨v121, rfl, ho0, hb, hkp⟩; refine ⟨_, rfl, ?_⟩; have n0_ := Aside0.mk (blk_kept d72d hkp (fun hs_ => (fun e_ => (Kd.R_ne HO119.out BK101.out (by decide)) e_) hs_)); have n1_ := Aside0.mk (Kd.R_mono (ok' := fun k_ => some k_ ≠ (.slice Ao21 t111.length co21 : Value).ownBlock ∧ some k_ ≠ (v121 : Value).ownBlock) (Kd.R_keptB (HO107.out) hkp (fun k_ hk_ hs_ => (hk_.2) hs_)) (fun k_ hk_ => ⟨hk_.1.1, fun e_ => Or.elim (ho0.1 k_ e_.symm) (fun hs_ => hk_.2.1 hs_) (fun hn_ => Nat.not_le.2 hk_.2.2 hn_)⟩)); have n2_ := Aside0.mk (Kd.R_mono (ok' := fun k_ => some k_ ≠ (.slice Ao17 t105.length co17 : Value).ownBlock ∧ some k_ ≠ (v121 : Value).ownBlock) (Kd.R_keptB (HO113.out) hkp (fun k_ hk_ hs_ => (hk_.2) hs_)) (fun k_ hk_ => ⟨hk_.1.1, fun e_ => Or.elim (ho0.1 k_ e_.symm) (fun hs_ => hk_.2.1 hs_) (fun hn_ => Nat.not_le.2 hk_.2.2 hn_)⟩)); have n3_ := Aside0.mk (Kd.R_mono (ok' := fun k_ => some k_ ≠ (.slice Ao17 t105.length co17 : Value).ownBlock ∧ some k_ ≠ (.slice Ao21 t111.length co21 : Value).ownBlock) ho0 (fun k_ hk_ => ⟨Or.elim hk_ (fun hs_ => fun e_ => (((HO107.out).1 k_ e_.symm).2) hs_) (fun hn_ => (Kd.fresh' (Kd.R_lt d72e) k_ hn_)), Or.elim hk_ (fun hs_ => fun e_ => (((HO113.out).1 k_ e_.symm).2) hs_) (fun hn_ => (Kd.fresh' (Kd.R_lt d72g) k_ hn_))⟩)); have n4_ := Aside0.mk (hb); clear BK101; clear HO107; clear HO113; clear HB; clear HO119; have BK101 := n0_; have HO107 := n1_; have HO113 := n2_; have HO122 := n3_; have HB := n4_; clear n0_ n1_ n2_ n3_ n4_; (try clear hb); (try clear hkp); (try clear ho0)))
   go_ret
   exact ⟨_, by first | rfl | (simp [errW_none, errW_some] <;> rfl) | (simp [*, errW_none, errW_some] <;> rfl), by (with_reducible repeat (first | apply Kd.R_alloc | apply Kd.R_drewN | apply Kd.R_drew)); exact Kd.R_mono HO122.out (fun _ hk => trivial), d72a⟩
def packet_Bytes.f (k : Nat) (a0_0 : Int) (a0_1 : Bool) (a0_2 : Int) (a0_3 : Int) (l0_4 : List Int) : Option (List Int × Int) := (packet_CheckPacket.f a0_0 a0_1 a0_2 a0_3 l0_4).bind fun t102 => (if t102 = 0 then ((packet_raw.f k a0_0 a0_1 a0_2 a0_3 l0_4).bind fun t103 => (some (t103, 0))) else (some (([] : List Int), t102)))
theorem d38a {p : Prop} (h : p := by repeat (first | (with_reducible first | exact HB.out | apply below_alloc | apply pw_below_drewN | apply below_drew1 | refine below_set ?_ GE101.out) | exact HB.out)) : p := h
theorem d38b {p : Prop} (h : p := by (try simp only [List.map_toArray, List.map_cons, List.map_nil]); first | done | rfl | (simp only [List.length_drop, List.length_take]; rfl)) : p := h
theorem d38c {p : Prop} (h : p := by repeat (first | (with_reducible first | exact HB.out | apply below_alloc | apply pw_below_drewN | apply below_drew1) | exact HB.out)) : p := h
theorem d38d {p : Prop} (h : p := by (with_reducible repeat (first | refine blk_drewN ?_ _ | refine blk_drew ?_ | refine blk_alloc ?_ _)); exact BK101.out) : p := h
set_option maxHeartbeats 8000000 in
set_option maxRecDepth 100000 in
theorem packet_Bytes.calls (k : Nat) (a0_0 : Int) (a0_1 : Bool) (a0_2 : Int) (a0_3 : Int) (A0_4 : Option Addr) (c0_4 : Nat) (l0_4 : List Int) (r1 : List Int) (r2 : Int) (w : World) (hr0_4 : Kd.C (Kd.int .u8) w A0_4 l0_4.length l0_4) (hc0_4 : l0_4.length ≤ c0_4) (h : packet_Bytes.f k a0_0 a0_1 a0_2 a0_3 l0_4 = some (r1, r2)) :
 Calls Try.prog 38 #[.agg #[.int .i64 a0_0, .bool a0_1, .int .i64 a0_2, .int .i64 a0_3, .slice A0_4 l0_4.length c0_4]] w fun e w' => ∃ v0_ : Value, e = .returned (.tuple #[v0_, .int .i64 r2]) ∧ Kd.R (Kd.int .u8) 5 w' w.heap.size (fun _ => True) v0_ r1 ∧ Below w.heap.size w w' := by
 have hu41 := Try.underlying41
 have HR0_4 := Aside0.mk hr0_4
 have HC0_4 := Aside0.mk hc0_4
 clear hr0_4 hc0_4
 have HB := Aside0.mk (Below.refl w.heap.size w)
 have H : ((packet_CheckPacket.f a0_0 a0_1 a0_2 a0_3 l0_4).bind fun t102 => (if t102 = 0 then ((packet_raw.f k a0_0 a0_1 a0_2 a0_3 l0_4).bind fun t103 => (some (t103, 0))) else (some (([] : List Int), t102)))) = some (r1, r2) := h
 clear h
 replace H := bindS H; obtain ⟨t102, A2, H⟩ := H
 by_cases c3 : t102 = 0
 · rw [if_pos c3] at H
   have c3b0 : (t102 == 0) = true := beq_iff_eq.mpr c3
   have c3b1 : (t102 != 0) = false := bne_eq_false_iff_eq.mpr c3
   clear c3
   replace H := bindS H; obtain ⟨t103, A4, H⟩ := H
   simp only [Option.some.injEq, Prod.mk.injEq] at H
   obtain ⟨rfl, rfl⟩ := H
   go_enter Try.func38, Try.ntmps38
   go_wp2_with (first | ((with_reducible refine gate_dst (N := 1) rfl ?_); refine box_event ?hg (N := 1) ?hd (cs := #[.int .i64 a0_0, .bool a0_1, .int .i64 a0_2, .int .i64 a0_3, .slice A0_4 l0_4.length c0_4]) (t := 41) ?hr ?_; (case hd => rfl); (case hg => rfl); (case hr => first | (go_simp; done) | (go_simp; rfl)); intro gb101 hg w5 hbox hb; have n0_ := Aside0.mk (below_step d38c hb); have n1_ := Aside0.mk (hbox); have n2_ := Aside0.mk ((by rw [hg]; exact (below_size d38c) : w.heap.size ≤ gb101)); have n3_ := Aside0.mk ((by rw [hg]; exact (below_size d38c) : w.heap.size ≤ gb101)); clear HB; have HB := n0_; have BK101 := n1_; have GW101 := n2_; have GE101 := n3_; clear n0_ n1_ n2_ n3_; clear hb hbox hg; have hcz6_0 : w5.cell? ⟨gb101, 0, none⟩ = some (.int .i64 a0_0) := (blk_cell BK101.out 0).trans rfl; have hcz6_1 : w5.cell? ⟨gb101, 1, none⟩ = some (.bool a0_1) := (blk_cell BK101.out 1).trans rfl; have hcz6_2 : w5.cell? ⟨gb101, 2, none⟩ = some (.int .i64 a0_2) := (blk_cell BK101.out 2).trans rfl; have hcz6_3 : w5.cell? ⟨gb101, 3, none⟩ = some (.int .i64 a0_3) := (blk_cell BK101.out 3).trans rfl; have hcz6_4 : w5.cell? ⟨gb101, 4, none⟩ = some (.slice A0_4 l0_4.length c0_4) := (blk_cell BK101.out 4).trans rfl; have hfz6_0 := blk_frozen BK101.out 0; have hfz6_1 := blk_frozen BK101.out 1; have hfz6_2 := blk_frozen BK101.out 2; have hfz6_3 := blk_frozen BK101.out 3; have hfz6_4 := blk_frozen BK101.out 4) | ((with_reducible refine gate_callee (f := 71) rfl ?_); refine goesL_ (some 6) rfl rfl Try.func71 (by kernel_rfl) rfl #[.agg #[.int .i64 a0_0, .bool a0_1, .int .i64 a0_2, .int .i64 a0_3, .slice A0_4 l0_4.length c0_4]] rfl d38b ?_; (with_reducible refine (packet_CheckPacket.calls a0_0 a0_1 a0_2 a0_3 _ _ l0_4 t102 _ ?side1 ?side2 A2.out).mono ?_); (case side1 => exact C_go (Kd.C_below HR0_4.out HB.out)); (case side2 => exact HC0_4.out); rintro e w7 ⟨rfl, hb⟩; refine ⟨_, rfl, ?_⟩; have n0_ := Aside0.mk (blk_below (g := gb101) (o := .cells #[.int .i64 a0_0, .bool a0_1, .int .i64 a0_2, .int .i64 a0_3, .slice A0_4 l0_4.length c0_4] 41 (0, 0)) d38d hb); have n1_ := Aside0.mk (below_step d38a hb); clear BK101; clear HB; have BK101 := n0_; have HB := n1_; clear n0_ n1_; (try clear hb); have hcz8_0 : w7.cell? ⟨gb101, 0, none⟩ = some (.int .i64 a0_0) := (blk_cell BK101.out 0).trans rfl; have hcz8_1 : w7.cell? ⟨gb101, 1, none⟩ = some (.bool a0_1) := (blk_cell BK101.out 1).trans rfl; have hcz8_2 : w7.cell? ⟨gb101, 2, none⟩ = some (.int .i64 a0_2) := (blk_cell BK101.out 2).trans rfl; have hcz8_3 : w7.cell? ⟨gb101, 3, none⟩ = some (.int .i64 a0_3) := (blk_cell BK101.out 3).trans rfl; have hcz8_4 : w7.cell? ⟨gb101, 4, none⟩ = some (.slice A0_4 l0_4.length c0_4) := (blk_cell BK101.out 4).trans rfl; have hfz8_0 := blk_frozen BK101.out 0; have hfz8_1 := blk_frozen BK101.out 1; have hfz8_2 := blk_frozen BK101.out 2; have hfz8_3 := blk_frozen BK101.out 3; have hfz8_4 := blk_frozen BK101.out 4) | ((with_reducible refine gate_callee (f := 72) rfl ?_); refine goesL_ (some 11) rfl rfl Try.func72 (by kernel_rfl) rfl #[.agg #[.int .i64 a0_0, .bool a0_1, .int .i64 a0_2, .int .i64 a0_3, .slice A0_4 l0_4.length c0_4]] rfl d38b ?_; (with_reducible refine (packet_raw.calls k a0_0 a0_1 a0_2 a0_3 _ _ l0_4 t103 _ ?side1 ?side2 A4.out).mono ?_); (case side1 => exact C_go (Kd.C_below HR0_4.out HB.out)); (case side2 => exact HC0_4.out); rintro e w9 ⟨v104, rfl, ho0, hb⟩; refine ⟨_, rfl, ?_⟩; have n0_ := Aside0.mk (Kd.R_lower ho0 (below_size d38a)); have n1_ := Aside0.mk (blk_below (g := gb101) (o := .cells #[.int .i64 a0_0, .bool a0_1, .int .i64 a0_2, .int .i64 a0_3, .slice A0_4 l0_4.length c0_4] 41 (0, 0)) d38d hb); have n2_ := Aside0.mk (below_step d38a hb); clear BK101; clear HB; have HO105 := n0_; have BK101 := n1_; have HB := n2_; clear n0_ n1_ n2_; (try clear hb); (try clear ho0)))
   go_ret2
   exact ⟨_, by first | rfl | (simp [errW_none, errW_some] <;> rfl) | (simp [*, errW_none, errW_some] <;> rfl), by (with_reducible repeat (first | apply Kd.R_alloc | apply Kd.R_drewN | apply Kd.R_drew)); exact HO105.out, d38a⟩
 · rw [if_neg c3] at H
   have c3b0 : (t102 == 0) = false := beq_eq_false_iff_ne.mpr c3
   have c3b1 : (t102 != 0) = true := bne_iff_ne.mpr c3
   simp only [Option.some.injEq, Prod.mk.injEq] at H
   obtain ⟨rfl, rfl⟩ := H
   go_enter Try.func38, Try.ntmps38
   go_wp2_with (first | ((with_reducible refine gate_dst (N := 1) rfl ?_); refine box_event ?hg (N := 1) ?hd (cs := #[.int .i64 a0_0, .bool a0_1, .int .i64 a0_2, .int .i64 a0_3, .slice A0_4 l0_4.length c0_4]) (t := 41) ?hr ?_; (case hd => rfl); (case hg => rfl); (case hr => first | (go_simp; done) | (go_simp; rfl)); intro gb101 hg w10 hbox hb; have n0_ := Aside0.mk (below_step d38c hb); have n1_ := Aside0.mk (hbox); have n2_ := Aside0.mk ((by rw [hg]; exact (below_size d38c) : w.heap.size ≤ gb101)); have n3_ := Aside0.mk ((by rw [hg]; exact (below_size d38c) : w.heap.size ≤ gb101)); clear HB; have HB := n0_; have BK101 := n1_; have GW101 := n2_; have GE101 := n3_; clear n0_ n1_ n2_ n3_; clear hb hbox hg; have hcz11_0 : w10.cell? ⟨gb101, 0, none⟩ = some (.int .i64 a0_0) := (blk_cell BK101.out 0).trans rfl; have hcz11_1 : w10.cell? ⟨gb101, 1, none⟩ = some (.bool a0_1) := (blk_cell BK101.out 1).trans rfl; have hcz11_2 : w10.cell? ⟨gb101, 2, none⟩ = some (.int .i64 a0_2) := (blk_cell BK101.out 2).trans rfl; have hcz11_3 : w10.cell? ⟨gb101, 3, none⟩ = some (.int .i64 a0_3) := (blk_cell BK101.out 3).trans rfl; have hcz11_4 : w10.cell? ⟨gb101, 4, none⟩ = some (.slice A0_4 l0_4.length c0_4) := (blk_cell BK101.out 4).trans rfl; have hfz11_0 := blk_frozen BK101.out 0; have hfz11_1 := blk_frozen BK101.out 1; have hfz11_2 := blk_frozen BK101.out 2; have hfz11_3 := blk_frozen BK101.out 3; have hfz11_4 := blk_frozen BK101.out 4) | ((with_reducible refine gate_callee (f := 71) rfl ?_); refine goesL_ (some 6) rfl rfl Try.func71 (by kernel_rfl) rfl #[.agg #[.int .i64 a0_0, .bool a0_1, .int .i64 a0_2, .int .i64 a0_3, .slice A0_4 l0_4.length c0_4]] rfl d38b ?_; (with_reducible refine (packet_CheckPacket.calls a0_0 a0_1 a0_2 a0_3 _ _ l0_4 t102 _ ?side1 ?side2 A2.out).mono ?_); (case side1 => exact C_go (Kd.C_below HR0_4.out HB.out)); (case side2 => exact HC0_4.out); rintro e w12 ⟨rfl, hb⟩; refine ⟨_, rfl, ?_⟩; have n0_ := Aside0.mk (blk_below (g := gb101) (o := .cells #[.int .i64 a0_0, .bool a0_1, .int .i64 a0_2, .int .i64 a0_3, .slice A0_4 l0_4.length c0_4] 41 (0, 0)) d38d hb); have n1_ := Aside0.mk (below_step d38a hb); clear BK101; clear HB; have BK101 := n0_; have HB := n1_; clear n0_ n1_; (try clear hb)))
   go_ret2
   exact ⟨_, by first | rfl | (simp [errW_none, errW_some] <;> rfl) | (simp [*, errW_none, errW_some] <;> rfl), by first | exact Kd.R_nil _ _ _ _ _ | exact Kd.N_nil _ _ _ _ _ | exact Kd.V_nil _ _ _ _ _ | exact Kd.Q_nil _ _ _ _ _ | exact Kd.S_nil _ _ _ _ _, d38a⟩
def bytesOf (s : ByteArray) : List Int := s.data.toList.map fun b => (b.toNat : Int)
theorem conv_below (w : World) (s : ByteArray) : Below w.heap.size w (Lib.bytesWorld w 5 s) := ⟨rfl, rfl, rfl, by rw [Lib.bytesWorld_size]; omega, fun j hj => Lib.bytesWorld_at_old w 5 s j hj⟩
theorem bytesOf_len (s : ByteArray) : (bytesOf s).length = s.size := by rw [bytesOf, List.length_map, Array.length_toList]; rfl
theorem conv_row (w : World) (s : ByteArray) (hs : s.size < 140737488355328) : Kd.C (Kd.int .u8) (Lib.bytesWorld w 5 s) (some ⟨w.heap.size, 0, none⟩) (bytesOf s).length (bytesOf s) := by
  refine Kd.C_of_reads (d := (0 : Int)) ⟨rfl, by rw [bytesOf_len]; omega, fun _ => ⟨_, rfl, fun j hj => ?_⟩⟩
  rw [bytesOf_len] at hj
  have h := Lib.bytesWorld_cell w 5 s j hj
  have e : (⟨w.heap.size, 0, none⟩ : Addr).add j = ⟨w.heap.size, j, none⟩ := by rw [add_plain]
  rw [e, h]
  have hl : j < s.data.toList.length := by rw [Array.length_toList]; exact hj
  simp [bytesOf, List.getD_eq_getElem?_getD, List.getElem?_map, List.getElem?_eq_getElem hl]
theorem conv_event {ops : Array Oper} {rest : List Oper} {o : Oper} {a : Act} {Q : Exit → Act → World → Prop} {W : World} (hgd : o.guard = none) {x : Operand} (ho : o.op = .convert 9 28 x) {s : ByteArray} (hx : a.eval x = .string s) (hs : s.size < 140737488355328)
    (h : ∀ c w1, Kd.C (Kd.int .u8) w1 (some ⟨W.heap.size, 0, none⟩) (bytesOf s).length (bytesOf s) → (bytesOf s).length ≤ c → Below W.heap.size W w1 → wpList Try.prog ops Q rest (a.put o.dst (.slice (some ⟨W.heap.size, 0, none⟩) (bytesOf s).length c)) w1) : wpList Try.prog ops Q (o :: rest) a W := by
  have hr := Lib.run_convert_string_bytes (P := Try.prog) W 9 28 5 s Try.underlying9 Try.underlying28 Try.underlying5
  refine Kd.event_run hgd (v := .slice (some ⟨W.heap.size, 0, none⟩) (bytesOf s).length (grownCap W s.size 0 5)) (w1 := Lib.bytesWorld W 5 s) ?_ (h _ _ (conv_row W s hs) (by rw [bytesOf_len]; exact grownCap_ge W s.size 0 5) (conv_below W s))
  rw [bytesOf_len]
  unfold execOp
  simp only [ho, hx, Sem.run_bind, hr, Result.andThen_ok, Sem.run_pure]
def craft_Uplinked.go (K : Nat) (key counter number : Int) (lines : List ByteArray) : Nat → Nat → List (List Int) → Option (List (List Int) × Int)
  | 0, _, out => some (out, 0)
  | d + 1, i, out => if (rdOf ByteArray.empty lines (i : Int)).size < 140737488355328 then (command_OrderBytes.f K 1 (Int.tmod (wrap64 (number + i)) 256) (bytesOf (rdOf ByteArray.empty lines (i : Int)))).bind fun o => if o.2 = 0 then (if counter > 1000000000 then some ([], 1) else ((command_Signed.f K key (wrap64 (counter + i)) o.1).bind fun g => if g.2 = 0 then
      (packet_Bytes.f K 1 true 3 (Int.tmod (wrap64 (counter + i)) 16384) g.1).bind fun b => if b.2 = 0 then (if out.length < 4398046511104 then craft_Uplinked.go K key counter number lines d (i + 1) (out ++ [b.1]) else none) else some ([], b.2) else some ([], g.2))) else some ([], o.2) else none
def craft_Uplinked.f (K : Nat) (key counter number : Int) (lines : List ByteArray) : Option (List (List Int) × Int) :=
  if (lines.length : Int) > 500 then some ([], 2) else (kit_In.f number 0 255).bind fun b => if b = true then craft_Uplinked.go K key counter number lines lines.length 0 [] else some ([], 1)
theorem up.info : (Try.prog.info? 28).map (fun i => (i.zero, i.size, i.bytes)) = some (some (.slice none 0 0), 1, 24) := by kernel_rfl
set_option maxHeartbeats 8000000 in
set_option maxRecDepth 100000 in
theorem craft_Uplinked.calls (k : Nat) (a0 a1 a2 : Int) (A3 : Option Addr) (c3 : Nat) (l3 : List ByteArray) (r1 : List (List Int)) (r2 : Int) (w : World) (hr3 : Kd.C Kd.string w A3 l3.length l3) (hc3 : l3.length ≤ c3) (h : craft_Uplinked.f k a0 a1 a2 l3 = some (r1, r2)) :
    Calls Try.prog 9 #[.int .i64 a0, .int .i64 a1, .int .i64 a2, .slice A3 l3.length c3] w fun e w' => ∃ v0_ : Value, e = .returned (.tuple #[v0_, .int .i64 r2]) ∧ Kd.S (Kd.slice 5 (Kd.int .u8)) 28 w' w.heap.size (fun _ => True) v0_ r1 ∧ Below w.heap.size w w' := by
  have HR3 := Aside0.mk hr3
  have HC3 := Aside0.mk hc3
  clear hr3 hc3
  unfold craft_Uplinked.f at h
  split at h
  · rename_i hl
    have hd : decide ((l3.length : Int) > 500) = true := decide_eq_true hl
    have hd2 : ((500 : Int) < (l3.length : Int)) = True := eq_true hl
    have e := Option.some.inj h
    injection e with e1 e2
    subst e1 e2
    clear h
    go_enter Try.func9, Try.ntmps9
    go_wp2
    go_ret2
    exact ⟨_, rfl, Kd.S_nil _ _ _ _ _, Below.refl _ _⟩
  · rename_i hl
    have hd : decide ((l3.length : Int) > 500) = false := decide_eq_false hl
    have hd2 : ((500 : Int) < (l3.length : Int)) = False := eq_false hl
    have HL := Aside0.mk (show l3.length ≤ 500 by omega)
    clear hl
    replace h := Option.bind_eq_some_iff.mp h
    obtain ⟨bI, hI, h⟩ := h
    have HI := Aside0.mk hI
    clear hI
    cases bI with
    | false =>
      rw [if_neg Bool.false_ne_true] at h
      have e := Option.some.inj h
      injection e with e1 e2
      subst e1 e2
      clear h
      go_enter Try.func9, Try.ntmps9
      go_wp2_with (go_at_call 35; (with_reducible refine (kit_In.calls a2 0 255 false _ HI.out).mono ?_); rintro e wq ⟨rfl, ⟨nd, rfl⟩⟩)
      go_ret2
      exact ⟨_, rfl, Kd.S_nil _ _ _ _ _, pw_below_drewN (Below.refl _ _) _⟩
    | true =>
      rw [if_pos rfl] at h
      have HG := Aside0.mk h
      clear h
      go_enter Try.func9, Try.ntmps9
      go_wp2_with (go_at_call 35; (with_reducible refine (kit_In.calls a2 0 255 true _ HI.out).mono ?_); rintro e wq ⟨rfl, ⟨nd, rfl⟩⟩)
      have HO0 := Aside0.mk (show Kd.S (Kd.slice 5 (Kd.int .u8)) 28 (w.drewN nd) w.heap.size (fun _ => True) (.slice none 0 0) [] from Kd.S_nil _ _ _ _ _)
      have HB0 := Aside0.mk (pw_below_drewN (Below.refl w.heap.size w) nd)
      go_loopg [10, 25] l3.length (fun kq v10 v25 w' => ∃ (i : Nat) (out : List (List Int)), v25 = .int .i64 i ∧ Aside0 (kq + i = l3.length) ∧ Aside0 (Kd.S (Kd.slice 5 (Kd.int .u8)) 28 w' w.heap.size (fun _ => True) v10 out) ∧ Aside0 (Below w.heap.size w w') ∧ Aside0 (craft_Uplinked.go k a0 a1 a2 l3 kq i out = some (r1, r2)))
      case atStart => exact ⟨0, [], rfl, ⟨rfl⟩, ⟨HO0.out⟩, ⟨HB0.out⟩, ⟨HG.out⟩⟩
      case round =>
        clear HO0 HB0 HG
        obtain ⟨i, out, rfl, HK, HO, HB, HG⟩ := hrel
        cases gk with
        | zero =>
          have hi : i = l3.length := by have := HK.out; omega
          subst hi
          have hg := HG.out
          unfold craft_Uplinked.go at hg
          have e := Option.some.inj hg
          injection e with e1 e2
          subst e1 e2
          clear hg HG
          go_wp2
          go_ret2
          exact ⟨_, rfl, HO.out, HB.out⟩
        | succ d =>
          have hi0 : (0 : Int) ≤ (i : Int) := by omega
          have hi1 : (i : Int) < (l3.length : Int) := by have := HK.out; omega
          have hd1 : decide ((i : Int) < (l3.length : Int)) = true := decide_eq_true hi1
          have hwi : wrap64 ((i : Int) + 1) = (i : Int) + 1 := by have := HL.out; unfold wrap64; omega
          obtain ⟨ad, e, hx⟩ := Kd.at_string (Kd.C_below HR3.out HB.out) (i : Int) hi0 hi1
          subst e
          rw [Int.toNat_natCast] at hx
          have hg := HG.out
          unfold craft_Uplinked.go at hg
          obtain ⟨s, hs⟩ : ∃ s, s = rdOf ByteArray.empty l3 (i : Int) := ⟨_, rfl⟩
          rw [← hs] at hx hg
          split at hg
          · rename_i hsz
            have HSZ := Aside0.mk hsz
            obtain ⟨y, hy⟩ : ∃ y, y = bytesOf s := ⟨_, rfl⟩
            rw [← hy] at hg
            have HY := Aside0.mk hy
            replace hg := Option.bind_eq_some_iff.mp hg
            obtain ⟨⟨o1, o2⟩, hOB, hg⟩ := hg
            have HOB := Aside0.mk hOB
            clear hs hsz hy hOB HG
            split at hg
            · rename_i ho2
              have eo2 : o2 = 0 := ho2
              subst eo2
              clear ho2
              split at hg
              · rename_i hcc
                have hcd : decide (a1 > 1000000000) = true := decide_eq_true hcc
                have hcd2 : (1000000000 < a1) = True := eq_true hcc
                have e := Option.some.inj hg
                injection e with e1 e2
                subst e1 e2
                clear hg hcc
                go_wp2_with (first | ((with_reducible refine gate_dst (N := 36) rfl ?_); refine conv_event rfl rfl rfl HSZ.out ?_; intro cy wy hy0 hyc hb; rw [← HY.out] at hy0 hyc ⊢; have HYR := Aside0.mk hy0; have HYC := Aside0.mk hyc; have n0_ := Aside0.mk (Kd.S_below HO.out hb); have n1_ := Aside0.mk (below_step HB.out hb); clear HO HB hy0 hyc hb; have HO := n0_; have HB := n1_; clear n0_ n1_) | ((with_reducible refine gate_callee (f := 36) rfl ?_); go_loud (refine goesL_ (some 38) rfl rfl Try.func36 (by kernel_rfl) rfl #[.agg #[.int .i64 1, .int .i64 (Int.tmod (wrap64 (a2 + i)) 256), .slice (some ⟨_, 0, none⟩) y.length cy]] rfl (by (try simp only [List.map_toArray, List.map_cons, List.map_nil]); first | done | rfl) ?_); go_loud (with_reducible refine (command_OrderBytes.calls k 1 (Int.tmod (wrap64 (a2 + i)) 256) _ _ y o1 _ _ HYR.out HYC.out HOB.out).mono ?_); rintro e wo ⟨vo, rfl, ho, hb⟩; refine ⟨_, rfl, ?_⟩; have n0_ := Aside0.mk (Kd.R_lower ho HB.out.size); have n1_ := Aside0.mk (Kd.S_mono (Kd.S_elder' HO.out (Kd.R_base ho) hb) (fun _ _ => trivial)); have n2_ := Aside0.mk (below_step HB.out hb); clear HO HB ho hb; have Ho := n0_; have HO := n1_; have HB := n2_; clear n0_ n1_ n2_; obtain ⟨Ao, co, eo⟩ := Kd.R_slice Ho.out; subst eo))
                go_ret2
                exact ⟨_, rfl, Kd.S_nil _ _ _ _ _, HB.out⟩
              · rename_i hcc
                have hcd : decide (a1 > 1000000000) = false := decide_eq_false hcc
                have hcd2 : (1000000000 < a1) = False := eq_false hcc
                clear hcc
                replace hg := Option.bind_eq_some_iff.mp hg
                obtain ⟨⟨g1, g2⟩, hSG, hg⟩ := hg
                have HSG := Aside0.mk hSG
                clear hSG
                split at hg
                · rename_i hzg2
                  have ezg2 : g2 = 0 := hzg2
                  subst ezg2
                  clear hzg2
                  replace hg := Option.bind_eq_some_iff.mp hg
                  obtain ⟨⟨b1, b2⟩, hPB, hg⟩ := hg
                  have HPB := Aside0.mk hPB
                  clear hPB
                  split at hg
                  · rename_i hzb2
                    have ezb2 : b2 = 0 := hzb2
                    subst ezb2
                    clear hzb2
                    replace hg := hg
                    split at hg
                    · rename_i hln
                      have HLN := Aside0.mk (show (out.length + 1) * 24 ≤ 140737488355328 by omega)
                      have HG := Aside0.mk (show craft_Uplinked.go k a0 a1 a2 l3 d (i + 1) (out ++ [b1]) = some (r1, r2) from hg)
                      clear hg hln
                      go_wp2_with (first | ((with_reducible refine gate_dst (N := 36) rfl ?_); refine conv_event rfl rfl rfl HSZ.out ?_; intro cy wy hy0 hyc hb; rw [← HY.out] at hy0 hyc ⊢; have HYR := Aside0.mk hy0; have HYC := Aside0.mk hyc; have n0_ := Aside0.mk (Kd.S_below HO.out hb); have n1_ := Aside0.mk (below_step HB.out hb); clear HO HB hy0 hyc hb; have HO := n0_; have HB := n1_; clear n0_ n1_) | ((with_reducible refine gate_callee (f := 36) rfl ?_); go_loud (refine goesL_ (some 38) rfl rfl Try.func36 (by kernel_rfl) rfl #[.agg #[.int .i64 1, .int .i64 (Int.tmod (wrap64 (a2 + i)) 256), .slice (some ⟨_, 0, none⟩) y.length cy]] rfl (by (try simp only [List.map_toArray, List.map_cons, List.map_nil]); first | done | rfl) ?_); go_loud (with_reducible refine (command_OrderBytes.calls k 1 (Int.tmod (wrap64 (a2 + i)) 256) _ _ y o1 _ _ HYR.out HYC.out HOB.out).mono ?_); rintro e wo ⟨vo, rfl, ho, hb⟩; refine ⟨_, rfl, ?_⟩; have n0_ := Aside0.mk (Kd.R_lower ho HB.out.size); have n1_ := Aside0.mk (Kd.S_mono (Kd.S_elder' HO.out (Kd.R_base ho) hb) (fun _ _ => trivial)); have n2_ := Aside0.mk (below_step HB.out hb); clear HO HB ho hb; have Ho := n0_; have HO := n1_; have HB := n2_; clear n0_ n1_ n2_; obtain ⟨Ao, co, eo⟩ := Kd.R_slice Ho.out; subst eo) | (go_at_call 37; go_loud (with_reducible refine (command_Signed.calls k a0 (wrap64 (a1 + i)) _ _ o1 g1 _ _ (Kd.R_reads' Ho.out).2.2 (Kd.R_reads' Ho.out).2.1 HSG.out).mono ?_); rintro e wg ⟨vg, rfl, ho, hb⟩; have n0_ := Aside0.mk (Kd.R_lower ho HB.out.size); have n1_ := Aside0.mk (Kd.S_mono (Kd.S_elder' HO.out (Kd.R_base ho) hb) (fun _ _ => trivial)); have n2_ := Aside0.mk (below_step HB.out hb); clear HO HB ho hb; have Hg := n0_; have HO := n1_; have HB := n2_; clear n0_ n1_ n2_; obtain ⟨Ag, cg, eg⟩ := Kd.R_slice Hg.out; subst eg) | ((with_reducible refine gate_callee (f := 38) rfl ?_); go_loud (refine goesL_ (some 65) rfl rfl Try.func38 (by kernel_rfl) rfl #[.agg #[.int .i64 1, .bool true, .int .i64 3, .int .i64 (Int.tmod (wrap64 (a1 + i)) 16384), .slice Ag g1.length cg]] rfl (by (try simp only [List.map_toArray, List.map_cons, List.map_nil]); first | done | rfl) ?_); go_loud (with_reducible refine (packet_Bytes.calls k 1 true 3 (Int.tmod (wrap64 (a1 + i)) 16384) _ _ g1 b1 _ _ (Kd.R_reads' Hg.out).2.2 (Kd.R_reads' Hg.out).2.1 HPB.out).mono ?_); rintro e wb ⟨vb, rfl, ho, hb⟩; refine ⟨_, rfl, ?_⟩; have n0_ := Aside0.mk (Kd.R_lower ho HB.out.size); have n1_ := Aside0.mk (Kd.S_elder' HO.out (Kd.R_base ho) hb); have n2_ := Aside0.mk (below_step HB.out hb); clear HO HB ho hb; have Hb := n0_; have HO := n1_; have HB := n2_; clear n0_ n1_ n2_; obtain ⟨Ab, cb, eb⟩ := Kd.R_slice Hb.out; subst eb) | (at_builtin; go_loud (refine Kd.S_append (Kd.slice 5 (Kd.int .u8)) (w0 := w) w.heap.size rfl (.tmp 71) (.tmp 73) 23 28 (.slice none 0 0) 24 rfl Try.underlying23 up.info rfl (by decide) (by omega) _ out b1 [.slice Ab b1.length cb] (fun _ => True) (fun k_ => some k_ = (.slice Ab b1.length cb : Value).ownBlock) rfl rfl (Kd.M_row (Kd.R_mono (Kd.R_tight rfl Hb.out) (fun _ h_ => h_))) (fun k_ hk_ => ((Kd.R_mono (ok' := fun k_ => True ∧ some k_ ≠ (u10 : Value).ownBlock) (Kd.R_apart' Hb.out (Kd.S_typed HO.out) (by decide)) (fun k_ hk => ⟨trivial, hk.2⟩))).1 k_ hk_.symm) (fun _ _ => trivial) (Kd.S_mono HO.out (fun k_ hk => ⟨trivial, fun e_ => hk.2 e_⟩)) HB.out HB.out.size HLN.out ?_); intro va wa ho hb hg hat; have n0_ := Aside0.mk ho; have n1_ := Aside0.mk hb; clear HO HB ho hb hg hat; have HO := n0_; have HB := n1_; clear n0_ n1_))
                      go_roundg d
                      case measure => have := HK.out; omega
                      case rel => exact ⟨i + 1, out ++ [b1], by simp [hwi], ⟨by have := HK.out; omega⟩, ⟨HO.out⟩, ⟨HB.out⟩, ⟨HG.out⟩⟩
                    · cases hg
                  · rename_i hnb2
                    have hnb2' : ¬ b2 = 0 := hnb2
                    have hq1 : (b2 == 0) = false := beq_eq_false_iff_ne.2 hnb2'
                    have hq2 : (b2 != 0) = true := bne_iff_ne.2 hnb2'
                    have e := Option.some.inj hg
                    injection e with e1 e2
                    subst e1 e2
                    clear hg hnb2 hnb2'
                    go_wp2_with (first | ((with_reducible refine gate_dst (N := 36) rfl ?_); refine conv_event rfl rfl rfl HSZ.out ?_; intro cy wy hy0 hyc hb; rw [← HY.out] at hy0 hyc ⊢; have HYR := Aside0.mk hy0; have HYC := Aside0.mk hyc; have n0_ := Aside0.mk (Kd.S_below HO.out hb); have n1_ := Aside0.mk (below_step HB.out hb); clear HO HB hy0 hyc hb; have HO := n0_; have HB := n1_; clear n0_ n1_) | ((with_reducible refine gate_callee (f := 36) rfl ?_); go_loud (refine goesL_ (some 38) rfl rfl Try.func36 (by kernel_rfl) rfl #[.agg #[.int .i64 1, .int .i64 (Int.tmod (wrap64 (a2 + i)) 256), .slice (some ⟨_, 0, none⟩) y.length cy]] rfl (by (try simp only [List.map_toArray, List.map_cons, List.map_nil]); first | done | rfl) ?_); go_loud (with_reducible refine (command_OrderBytes.calls k 1 (Int.tmod (wrap64 (a2 + i)) 256) _ _ y o1 _ _ HYR.out HYC.out HOB.out).mono ?_); rintro e wo ⟨vo, rfl, ho, hb⟩; refine ⟨_, rfl, ?_⟩; have n0_ := Aside0.mk (Kd.R_lower ho HB.out.size); have n1_ := Aside0.mk (Kd.S_mono (Kd.S_elder' HO.out (Kd.R_base ho) hb) (fun _ _ => trivial)); have n2_ := Aside0.mk (below_step HB.out hb); clear HO HB ho hb; have Ho := n0_; have HO := n1_; have HB := n2_; clear n0_ n1_ n2_; obtain ⟨Ao, co, eo⟩ := Kd.R_slice Ho.out; subst eo) | (go_at_call 37; go_loud (with_reducible refine (command_Signed.calls k a0 (wrap64 (a1 + i)) _ _ o1 g1 _ _ (Kd.R_reads' Ho.out).2.2 (Kd.R_reads' Ho.out).2.1 HSG.out).mono ?_); rintro e wg ⟨vg, rfl, ho, hb⟩; have n0_ := Aside0.mk (Kd.R_lower ho HB.out.size); have n1_ := Aside0.mk (Kd.S_mono (Kd.S_elder' HO.out (Kd.R_base ho) hb) (fun _ _ => trivial)); have n2_ := Aside0.mk (below_step HB.out hb); clear HO HB ho hb; have Hg := n0_; have HO := n1_; have HB := n2_; clear n0_ n1_ n2_; obtain ⟨Ag, cg, eg⟩ := Kd.R_slice Hg.out; subst eg) | ((with_reducible refine gate_callee (f := 38) rfl ?_); go_loud (refine goesL_ (some 65) rfl rfl Try.func38 (by kernel_rfl) rfl #[.agg #[.int .i64 1, .bool true, .int .i64 3, .int .i64 (Int.tmod (wrap64 (a1 + i)) 16384), .slice Ag g1.length cg]] rfl (by (try simp only [List.map_toArray, List.map_cons, List.map_nil]); first | done | rfl) ?_); go_loud (with_reducible refine (packet_Bytes.calls k 1 true 3 (Int.tmod (wrap64 (a1 + i)) 16384) _ _ g1 b1 _ _ (Kd.R_reads' Hg.out).2.2 (Kd.R_reads' Hg.out).2.1 HPB.out).mono ?_); rintro e wb ⟨vb, rfl, ho, hb⟩; refine ⟨_, rfl, ?_⟩; have n0_ := Aside0.mk (Kd.R_lower ho HB.out.size); have n1_ := Aside0.mk (Kd.S_elder' HO.out (Kd.R_base ho) hb); have n2_ := Aside0.mk (below_step HB.out hb); clear HO HB ho hb; have Hb := n0_; have HO := n1_; have HB := n2_; clear n0_ n1_ n2_; obtain ⟨Ab, cb, eb⟩ := Kd.R_slice Hb.out; subst eb))
                    go_ret2
                    exact ⟨_, rfl, Kd.S_nil _ _ _ _ _, HB.out⟩
                · rename_i hng2
                  have hng2' : ¬ g2 = 0 := hng2
                  have hq1 : (g2 == 0) = false := beq_eq_false_iff_ne.2 hng2'
                  have hq2 : (g2 != 0) = true := bne_iff_ne.2 hng2'
                  have e := Option.some.inj hg
                  injection e with e1 e2
                  subst e1 e2
                  clear hg hng2 hng2'
                  go_wp2_with (first | ((with_reducible refine gate_dst (N := 36) rfl ?_); refine conv_event rfl rfl rfl HSZ.out ?_; intro cy wy hy0 hyc hb; rw [← HY.out] at hy0 hyc ⊢; have HYR := Aside0.mk hy0; have HYC := Aside0.mk hyc; have n0_ := Aside0.mk (Kd.S_below HO.out hb); have n1_ := Aside0.mk (below_step HB.out hb); clear HO HB hy0 hyc hb; have HO := n0_; have HB := n1_; clear n0_ n1_) | ((with_reducible refine gate_callee (f := 36) rfl ?_); go_loud (refine goesL_ (some 38) rfl rfl Try.func36 (by kernel_rfl) rfl #[.agg #[.int .i64 1, .int .i64 (Int.tmod (wrap64 (a2 + i)) 256), .slice (some ⟨_, 0, none⟩) y.length cy]] rfl (by (try simp only [List.map_toArray, List.map_cons, List.map_nil]); first | done | rfl) ?_); go_loud (with_reducible refine (command_OrderBytes.calls k 1 (Int.tmod (wrap64 (a2 + i)) 256) _ _ y o1 _ _ HYR.out HYC.out HOB.out).mono ?_); rintro e wo ⟨vo, rfl, ho, hb⟩; refine ⟨_, rfl, ?_⟩; have n0_ := Aside0.mk (Kd.R_lower ho HB.out.size); have n1_ := Aside0.mk (Kd.S_mono (Kd.S_elder' HO.out (Kd.R_base ho) hb) (fun _ _ => trivial)); have n2_ := Aside0.mk (below_step HB.out hb); clear HO HB ho hb; have Ho := n0_; have HO := n1_; have HB := n2_; clear n0_ n1_ n2_; obtain ⟨Ao, co, eo⟩ := Kd.R_slice Ho.out; subst eo) | (go_at_call 37; go_loud (with_reducible refine (command_Signed.calls k a0 (wrap64 (a1 + i)) _ _ o1 g1 _ _ (Kd.R_reads' Ho.out).2.2 (Kd.R_reads' Ho.out).2.1 HSG.out).mono ?_); rintro e wg ⟨vg, rfl, ho, hb⟩; have n0_ := Aside0.mk (Kd.R_lower ho HB.out.size); have n1_ := Aside0.mk (Kd.S_mono (Kd.S_elder' HO.out (Kd.R_base ho) hb) (fun _ _ => trivial)); have n2_ := Aside0.mk (below_step HB.out hb); clear HO HB ho hb; have Hg := n0_; have HO := n1_; have HB := n2_; clear n0_ n1_ n2_; obtain ⟨Ag, cg, eg⟩ := Kd.R_slice Hg.out; subst eg))
                  go_ret2
                  exact ⟨_, rfl, Kd.S_nil _ _ _ _ _, HB.out⟩
            · rename_i ho2
              have ho2' : ¬ o2 = 0 := ho2
              have hq1 : (o2 == 0) = false := beq_eq_false_iff_ne.2 ho2'
              have hq2 : (o2 != 0) = true := bne_iff_ne.2 ho2'
              have e := Option.some.inj hg
              injection e with e1 e2
              subst e1 e2
              clear hg ho2 ho2'
              go_wp2_with (first | ((with_reducible refine gate_dst (N := 36) rfl ?_); refine conv_event rfl rfl rfl HSZ.out ?_; intro cy wy hy0 hyc hb; rw [← HY.out] at hy0 hyc ⊢; have HYR := Aside0.mk hy0; have HYC := Aside0.mk hyc; have n0_ := Aside0.mk (Kd.S_below HO.out hb); have n1_ := Aside0.mk (below_step HB.out hb); clear HO HB hy0 hyc hb; have HO := n0_; have HB := n1_; clear n0_ n1_) | ((with_reducible refine gate_callee (f := 36) rfl ?_); go_loud (refine goesL_ (some 38) rfl rfl Try.func36 (by kernel_rfl) rfl #[.agg #[.int .i64 1, .int .i64 (Int.tmod (wrap64 (a2 + i)) 256), .slice (some ⟨_, 0, none⟩) y.length cy]] rfl (by (try simp only [List.map_toArray, List.map_cons, List.map_nil]); first | done | rfl) ?_); go_loud (with_reducible refine (command_OrderBytes.calls k 1 (Int.tmod (wrap64 (a2 + i)) 256) _ _ y o1 _ _ HYR.out HYC.out HOB.out).mono ?_); rintro e wo ⟨vo, rfl, ho, hb⟩; refine ⟨_, rfl, ?_⟩; have n0_ := Aside0.mk (Kd.R_lower ho HB.out.size); have n1_ := Aside0.mk (Kd.S_elder' HO.out (Kd.R_base ho) hb); have n2_ := Aside0.mk (below_step HB.out hb); clear HO HB ho hb; have Ho := n0_; have HO := n1_; have HB := n2_; clear n0_ n1_ n2_; obtain ⟨Ao, co, eo⟩ := Kd.R_slice Ho.out; subst eo))
              go_ret2
              exact ⟨_, rfl, Kd.S_nil _ _ _ _ _, HB.out⟩
          · cases hg
def perigeeref1_within.f (a0 : Int) (a1 : Int) (a2 : Int) : Option (Bool) := if a1 ≤ a0 then (some (decide (a0 ≤ a2))) else (some false)
set_option maxHeartbeats 8000000 in
set_option maxRecDepth 100000 in
theorem perigeeref1_within.calls (a0 : Int) (a1 : Int) (a2 : Int) (r : Bool) (w : World) (h : perigeeref1_within.f a0 a1 a2 = some r) :
 Calls Try.prog 84 #[.int .i64 a0, .int .i64 a1, .int .i64 a2] w fun e w' => e = .returned (.bool r) ∧ Drawn0 w w' := by
 have H : (if a1 ≤ a0 then (some (decide (a0 ≤ a2))) else (some false)) = some r := h
 clear h
 by_cases c4 : a1 ≤ a0
 · rw [if_pos c4] at H
   have c4b0 : decide (a1 ≤ a0) = true := decide_eq_true c4
   clear c4
   obtain rfl := Option.some.inj H
   go_enter Try.func84, Try.ntmps84
   go_wp2
   go_ret
   exact ⟨by first | rfl | (simp; done) | (simp [*]; done), by repeat (first | exact Drawn0.refl _ | apply Drawn0.step)⟩
 · rw [if_neg c4] at H
   have c4b0 : decide (a1 ≤ a0) = false := decide_eq_false c4
   clear c4
   obtain rfl := Option.some.inj H
   go_enter Try.func84, Try.ntmps84
   go_wp2
   go_ret
   exact ⟨by first | rfl | (simp; done) | (simp [*]; done), by repeat (first | exact Drawn0.refl _ | apply Drawn0.step)⟩
end Go.Proofs.Ythmdnmfocnchkaa.Q
