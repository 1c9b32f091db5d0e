-- Made by wip/tools/claimp.py of this session's texts; Lean checks it.
import Derived.Test.YtplcdpiggpkppaaC13Q0
namespace Go.Proofs.Ytplcdpiggpkppaa.Q
open Go.RowKit Go.Proofs.YtplcdpiggpkppaaW.PrintWords Go.Proofs.YtplcdpiggpkppaaW.PrintLast Go.Proofs.YtplcdpiggpkppaaW.PrintMore
attribute [local go_sem] max2_int min2_int max_two min_two max_three min_three max_four min_four
open Go.Proofs.Ytplcdpiggpkppaa.Base
attribute [local go_sem high] str_leq str_gtr str_geq
set_option linter.unusedVariables false
set_option linter.unusedSimpArgs false
def kit_In.f (a0 : Int) (a1 : Int) (a2 : Int) : Option (Bool) := if a1 ≤ a0 then (some (decide (a0 ≤ a2))) else (some false)
set_option maxHeartbeats 8000000 in
set_option maxRecDepth 100000 in
theorem kit_In.calls (a0 : Int) (a1 : Int) (a2 : Int) (r : Bool) (w : World) (h : kit_In.f a0 a1 a2 = some r) :
 Calls Try.prog 56 #[.int .i64 a0, .int .i64 a1, .int .i64 a2] w fun e w' => e = .returned (.bool r) ∧ Drawn0 w w' := by
 have H : (if a1 ≤ a0 then (some (decide (a0 ≤ a2))) else (some false)) = some r := h
 clear h
 by_cases c4 : a1 ≤ a0
 · rw [if_pos c4] at H
   have c4b0 : decide (a1 ≤ a0) = true := decide_eq_true c4
   clear c4
   obtain rfl := Option.some.inj H
   go_enter Try.func56, Try.ntmps56
   go_wp2
   go_ret
   exact ⟨by first | rfl | (simp; done) | (simp [*]; done), by repeat (first | exact Drawn0.refl _ | apply Drawn0.step)⟩
 · rw [if_neg c4] at H
   have c4b0 : decide (a1 ≤ a0) = false := decide_eq_false c4
   clear c4
   obtain rfl := Option.some.inj H
   go_enter Try.func56, Try.ntmps56
   go_wp2
   go_ret
   exact ⟨by first | rfl | (simp; done) | (simp [*]; done), by repeat (first | exact Drawn0.refl _ | apply Drawn0.step)⟩
def power_span.j0 : Nat → Int → Int → Bool → Option (Int)
  | 0, _, _, _ => none
  | k + 1, x0, x1, x12 => if x12 = true then (some 1) else (if x1 ≤ x0 then (some 13) else (some 0))
def power_span.f (k : Nat) (a0 : Int) (a1 : Int) : Option (Int) := (kit_In.f a0 0 1000000000000).bind fun t101 => (if t101 = true then ((kit_In.f a1 0 1000000000000).bind fun t102 => (power_span.j0 k a0 a1 (!t102))) else (power_span.j0 k a0 a1 true))
theorem d53a {p : Prop} (h : p := by repeat (first | exact Drawn0.refl _ | apply Drawn0.step)) : p := h
theorem d53b {p : Prop} (h : p := by first | rfl | (simp; done) | (simp [*]; done)) : p := h
set_option maxHeartbeats 8000000 in
set_option maxRecDepth 100000 in
theorem power_span.calls (k : Nat) (a0 : Int) (a1 : Int) (r : Int) (w : World) (h : power_span.f k a0 a1 = some r) :
 Calls Try.prog 53 #[.int .i64 a0, .int .i64 a1] w fun e w' => e = .returned (.int .i64 r) ∧ Drawn0 w w' := by
 have H : ((kit_In.f a0 0 1000000000000).bind fun t101 => (if t101 = true then ((kit_In.f a1 0 1000000000000).bind fun t102 => (power_span.j0 k a0 a1 (!t102))) else (power_span.j0 k a0 a1 true))) = some r := h
 clear h
 have HC3 := Aside0.mk H
 clear H
 go_enter Try.func53, Try.ntmps53
 go_upto_region 1 with (fail)
 go_cut [12] (fun v12 wc => ∃ (kq : Nat) (x12_2 : Bool), v12 = .bool x12_2 ∧ Aside0 (power_span.j0 kq a0 a1 x12_2 = some r) ∧ Aside0 (kq ≤ k) ∧ Drawn0 w wc)
 case first =>
  have H := HC3.out
  clear HC3
  replace H := bindS H; obtain ⟨t101, A4, H⟩ := H
  by_cases c5 : t101 = true
  · subst c5
    replace H := iteT H
    replace H := bindS H; obtain ⟨t102, A6, H⟩ := H
    have H' := Aside0.mk H
    clear H
    go_wp2_with (first | ((with_reducible refine gate_callee (f := 56) rfl ?_); refine goesL_ (some 6) rfl rfl Try.func56 (by kernel_rfl) rfl #[.int .i64 a0, .int .i64 0, .int .i64 1000000000000] rfl (by (try simp only [List.map_toArray, List.map_cons, List.map_nil]); first | done | rfl | (simp only [List.length_drop, List.length_take]; rfl)) ?_; (with_reducible refine (kit_In.calls a0 0 1000000000000 true _ A4.out).mono ?_); rintro e w' ⟨rfl, ⟨nd, rfl⟩⟩; refine ⟨_, rfl, ?_⟩) | (go_at_call 56; (with_reducible refine (kit_In.calls a1 0 1000000000000 t102 _ A6.out).mono ?_); rintro e w' ⟨rfl, ⟨nd, rfl⟩⟩))
    go_meet
    case rel => exact ⟨_, (!t102), d53b, H', ⟨by first | omega | exact Nat.le_refl _⟩, d53a⟩
  · replace c5 := Bool.eq_false_iff.mpr c5
    subst c5
    replace H := iteF H
    have H' := Aside0.mk H
    clear H
    go_wp2_with ((with_reducible refine gate_callee (f := 56) rfl ?_); refine goesL_ (some 6) rfl rfl Try.func56 (by kernel_rfl) rfl #[.int .i64 a0, .int .i64 0, .int .i64 1000000000000] rfl (by (try simp only [List.map_toArray, List.map_cons, List.map_nil]); first | done | rfl | (simp only [List.length_drop, List.length_take]; rfl)) ?_; (with_reducible refine (kit_In.calls a0 0 1000000000000 false _ A4.out).mono ?_); rintro e w' ⟨rfl, ⟨nd, rfl⟩⟩; refine ⟨_, rfl, ?_⟩)
    go_meet
    case rel => exact ⟨_, (true), d53b, H', ⟨by first | omega | exact Nat.le_refl _⟩, d53a⟩
 case rest =>
  clear HC3
  obtain ⟨kq, x12_2, rfl, HA, HJ2, ⟨mc2, rfl⟩⟩ := hcut
  cases kq with
  | zero => exact absurd HA.out (by simp [power_span.j0])
  | succ kj2 =>
   have H := HA.out
   clear HA
   simp only [power_span.j0] at H
   by_cases c7 : x12_2 = true
   · subst c7
     replace H := iteT H
     obtain rfl := Option.some.inj H
     go_wp2
     go_ret
     exact ⟨d53b, d53a⟩
   · replace c7 := Bool.eq_false_iff.mpr c7
     subst c7
     replace H := iteF H
     by_cases c8 : a1 ≤ a0
     · rw [if_pos c8] at H
       have c8b0 : decide (a1 ≤ a0) = true := decide_eq_true c8
       clear c8
       obtain rfl := Option.some.inj H
       go_wp2
       go_ret
       exact ⟨d53b, d53a⟩
     · rw [if_neg c8] at H
       have c8b0 : decide (a1 ≤ a0) = false := decide_eq_false c8
       clear c8
       obtain rfl := Option.some.inj H
       go_wp2
       go_ret
       exact ⟨d53b, d53a⟩
def power_CheckSun.l0 : Nat → List (S72) → List (S72) → Int → Int → Option (Int)
  | 0, _, _, _, _ => none
  | k + 1, x0, x9, x10, x11 => if x11 < x10 then (if 0 ≤ x11 then (if x11 < (x9.length : Int) then ((power_span.f k ((rd_T72 x9 x11).f0) ((rd_T72 x9 x11).f1)).bind fun t103 => (if t103 = 0 then (if x11 > 0 then (if 0 ≤ (wrap64 (x11 - 1)) then (if (wrap64 (x11 - 1)) < (x0.length : Int) then (if ((rd_T72 x9 x11).f0) ≤ ((rd_T72 x0 (wrap64 (x11 - 1))).f1) then (some 8) else (power_CheckSun.l0 k x0 x9 x10 (wrap64 (x11 + 1)))) else (none)) else (none)) else (power_CheckSun.l0 k x0 x9 x10 (wrap64 (x11 + 1)))) else (some t103))) else (none)) else (none)) else (some 0)
def power_CheckSun.f (k : Nat) (l0 : List (S72)) : Option (Int) := if (l0.length : Int) > 500 then (some 2) else (power_CheckSun.l0 k l0 l0 (l0.length : Int) 0)
theorem d15a {p : Prop} (h : p := by repeat (first | (with_reducible first | exact HB.out | apply below_alloc | apply pw_below_drewN | apply below_drew1 | refine below_set ?_ GE102.out) | exact HB.out)) : p := h
theorem d15b {p : Prop} (h : p := by repeat (first | (with_reducible first | exact HB.out | apply below_alloc | apply pw_below_drewN | apply below_drew1) | exact HB.out)) : p := h
theorem d15c {p : Prop} (h : p := by first | (rw [add_block]; exact hn104_0) | (show (Addr.add _ _).block ≠ _; rw [add_block]; exact hn104_0) | exact hn104_0) : p := h
theorem d15d {p : Prop} (h : p := by first | (rw [add_block]; exact hn104_1) | (show (Addr.add _ _).block ≠ _; rw [add_block]; exact hn104_1) | exact hn104_1) : p := h
theorem d15e {p : Prop} (h : p := by first | rfl | (simp [errW_none, errW_some] <;> rfl) | (simp [*, errW_none, errW_some] <;> rfl)) : p := h
theorem d15f {p : Prop} (h : p := by have := World.block_lt_of_cell? _ _ hx104_0; first | rwa [add_block] at this | exact this) : p := h
theorem d15g {p : Prop} (h : p := by first | (with_reducible assumption) | assumption) : p := h
theorem d15h {p : Prop} (h : p := by first | (go_simp; done) | (go_simp; rfl)) : p := h
set_option maxHeartbeats 8000000 in
set_option maxRecDepth 100000 in
theorem power_CheckSun.calls (k : Nat) (A0 : Option Addr) (c0 : Nat) (l0 : List (S72)) (r : Int) (w : World) (hr0 : Kd.C k72 w A0 l0.length l0) (hc0 : l0.length ≤ c0) (h : power_CheckSun.f k l0 = some r) :
 Calls Try.prog 15 #[.slice A0 l0.length c0] w fun e w' => e = .returned (.int .i64 r) ∧ Below w.heap.size w w' := by
 have hu72 := Try.underlying72
 have HR0 := Aside0.mk hr0
 have HC0 := Aside0.mk hc0
 clear hr0 hc0
 have HB := Aside0.mk (Below.refl w.heap.size w)
 have H : (if (l0.length : Int) > 500 then (some 2) else (power_CheckSun.l0 k l0 l0 (l0.length : Int) 0)) = some r := h
 clear h
 by_cases c2 : (l0.length : Int) > 500
 · rw [if_pos c2] at H
   have c2b0 : decide (500 < (l0.length : Int)) = true := decide_eq_true c2
   have c2b1 : decide (500 < l0.length) = true := decide_eq_true (by omega)
   clear c2
   obtain rfl := Option.some.inj H
   go_enter Try.func15, Try.ntmps15
   go_wp2
   go_ret
   exact ⟨d15e, d15b⟩
 · rw [if_neg c2] at H
   have c2b0 : decide (500 < (l0.length : Int)) = false := decide_eq_false c2
   have c2b1 : decide (500 < l0.length) = false := decide_eq_false (by omega)
   clear c2
   have H' := Aside0.mk H
   clear H
   go_enter Try.func15, Try.ntmps15
   go_wp2
   go_loopg [11] k (fun kq v11 w' => ∃ (x11_1 : Int), v11 = .int .i64 x11_1 ∧ Aside0 (power_CheckSun.l0 kq l0 l0 (l0.length : Int) x11_1 = some r) ∧ Aside0 (kq ≤ k) ∧ Aside0 (Below w.heap.size w w'))
   case atStart => exact ⟨(0), (by first | rfl | (simp; done) | (simp [*]; done)), H', ⟨Nat.le_refl _⟩, ⟨d15b⟩⟩
   case round =>
    clear H'
    try clear c2b0
    try clear c2b1
    obtain ⟨x11_1, rfl, HA, HK1, HB⟩ := hrel
    cases gk with
    | zero => exact absurd HA.out (by simp [power_CheckSun.l0])
    | succ k1 =>
     have H := HA.out
     clear HA
     simp only [power_CheckSun.l0] at H
     by_cases c3 : x11_1 < (l0.length : Int)
     · rw [if_pos c3] at H
       have c3b0 : decide (x11_1 < (l0.length : Int)) = true := decide_eq_true c3
       clear c3
       replace H := guardT H; obtain ⟨c4, H⟩ := H
       have c4b0 : decide (0 ≤ x11_1) = true := decide_eq_true c4
       clear c4
       replace H := guardT H; obtain ⟨c5, H⟩ := H
       have c5b0 : decide (x11_1 < (l0.length : Int)) = true := decide_eq_true c5
       clear c5
       replace H := bindS H; obtain ⟨t103, A6, H⟩ := H
       by_cases c7 : t103 = 0
       · rw [if_pos c7] at H
         have c7b0 : (t103 == 0) = true := beq_iff_eq.mpr c7
         have c7b1 : (t103 != 0) = false := bne_eq_false_iff_eq.mpr c7
         clear c7
         by_cases c8 : x11_1 > 0
         · rw [if_pos c8] at H
           have c8b0 : decide (0 < x11_1) = true := decide_eq_true c8
           clear c8
           obtain ⟨ji9, hji9⟩ : ∃ j_ : Int, (wrap64 (x11_1 - 1)) = j_ := ⟨_, rfl⟩
           replace H : (if 0 ≤ (ji9) then (if (ji9) < (l0.length : Int) then (if ((rd_T72 l0 x11_1).f0) ≤ ((rd_T72 l0 (ji9)).f1) then (some 8) else (power_CheckSun.l0 k1 l0 l0 (l0.length : Int) (wrap64 (x11_1 + 1)))) else (none)) else (none)) = some r := by first | (rw [hji9] at H; exact H) | (simp only [hji9] at H ⊢; exact H)
           (try rw [hji9] at A6)
           have hji9w : (IntKind.i64.wrap (x11_1 - 1)) = ji9 := (i64_w _).trans hji9
           replace H := guardT H; obtain ⟨c10, H⟩ := H
           have c10b0 : decide (0 ≤ (ji9)) = true := decide_eq_true c10
           clear c10
           replace H := guardT H; obtain ⟨c11, H⟩ := H
           have c11b0 : decide ((ji9) < (l0.length : Int)) = true := decide_eq_true c11
           clear c11
           by_cases c12 : ((rd_T72 l0 x11_1).f0) ≤ ((rd_T72 l0 (ji9)).f1)
           · rw [if_pos c12] at H
             have c12b0 : decide (((rd_T72 l0 x11_1).f0) ≤ ((rd_T72 l0 (ji9)).f1)) = true := decide_eq_true c12
             clear c12
             obtain rfl := Option.some.inj H
             have p101 : 0 ≤ (x11_1 : Int) := of_decide_eq_true d15g
             have q101 : x11_1 < (l0.length : Int) := of_decide_eq_true d15g
             obtain ⟨ad101, e101, hx101_0, hx101_1⟩ := at_T72 HR0.out x11_1 p101 q101
             cases e101
             replace hx101_0 := cellB HB.out hx101_0
             replace hx101_1 := cellB HB.out hx101_1
             replace p101 := eq_true p101
             replace q101 := eq_true q101
             go_wp2_with (first | ((with_reducible refine gate_dst (N := 4) rfl ?_); refine box_event ?hg (N := 4) ?hd (cs := #[.int .i64 0, .int .i64 0]) (t := 72) ?hr ?_; (case hd => rfl); (case hg => rfl); (case hr => exact d15h); intro gb102 hg w13 hbox hb; have n0_ := Aside0.mk (below_step d15b hb); have n1_ := Aside0.mk (hbox); have n2_ := Aside0.mk ((by rw [hg]; exact (below_size d15b) : w.heap.size ≤ gb102)); have n3_ := Aside0.mk ((by rw [hg]; exact (below_size d15b) : w.heap.size ≤ gb102)); clear HB; have HB := n0_; have BK102 := n1_; have GW102 := n2_; have GE102 := n3_; clear n0_ n1_ n2_ n3_; clear hb hbox hg; have hcz14_0 : w13.cell? ⟨gb102, 0, none⟩ = some (.int .i64 0) := (blk_cell BK102.out 0).trans rfl; have hcz14_1 : w13.cell? ⟨gb102, 1, none⟩ = some (.int .i64 0) := (blk_cell BK102.out 1).trans rfl; have hfz14_0 := blk_frozen BK102.out 0; have hfz14_1 := blk_frozen BK102.out 1) | (go_at_call 53; (with_reducible refine (power_span.calls k1 ((rd_T72 l0 x11_1).f0) ((rd_T72 l0 x11_1).f1) t103 _ A6.out).mono ?_); rintro e w' ⟨rfl, ⟨nd, rfl⟩⟩; (try first | exact ⟨rfl, _, World.drewN_drewN _ _ _⟩ | exact ⟨rfl, _, Eq.trans (World.drewN_drewN _ _ _) (congrArg (World.drewN _) (Nat.add_assoc _ _ _))⟩); have p104 : 0 ≤ ((ji9) : Int) := of_decide_eq_true d15g; have q104 : (ji9) < (l0.length : Int) := of_decide_eq_true d15g; obtain ⟨ad104, e104, hx104_0, hx104_1⟩ := at_T72 HR0.out (ji9) p104 q104; obtain rfl : ad101 = ad104 := (by injection e104); have hn104_0 : ad101.block ≠ gb102 := Nat.ne_of_lt (Nat.lt_of_lt_of_le d15f GW102.out); have hn104_1 : ad101.block ≠ gb102 := Nat.ne_of_lt (Nat.lt_of_lt_of_le d15f GW102.out); replace hx104_0 := cellB HB.out hx104_0; replace hx104_1 := cellB HB.out hx104_1; replace hx104_0 := (cell_far (p := ⟨gb102, 0, none⟩) d15c (.int .i64 ((rd_T72 l0 x11_1).f0))).trans hx104_0; replace hx104_1 := (cell_far (p := ⟨gb102, 0, none⟩) d15c (.int .i64 ((rd_T72 l0 x11_1).f0))).trans hx104_1; replace hx104_0 := (cell_far (p := ⟨gb102, 1, none⟩) d15d (.int .i64 ((rd_T72 l0 x11_1).f1))).trans hx104_0; replace hx104_1 := (cell_far (p := ⟨gb102, 1, none⟩) d15d (.int .i64 ((rd_T72 l0 x11_1).f1))).trans hx104_1; (try have hy104_0 := fun (n_ : Nat) => (show ((((w13.drewN n_).setCell ⟨gb102, 0, none⟩ (.int .i64 ((rd_T72 l0 x11_1).f0))).setCell ⟨gb102, 1, none⟩ (.int .i64 ((rd_T72 l0 x11_1).f1)))).cell? _ = some _ from hx104_0)); (try have hy104_1 := fun (n_ : Nat) => (show ((((w13.drewN n_).setCell ⟨gb102, 0, none⟩ (.int .i64 ((rd_T72 l0 x11_1).f0))).setCell ⟨gb102, 1, none⟩ (.int .i64 ((rd_T72 l0 x11_1).f1)))).cell? _ = some _ from hx104_1)); clear hn104_0; clear hn104_1; replace p104 := eq_true p104; replace q104 := eq_true q104))
             repeat (go_quiet (fail); try go_wp2_with (fail))
             go_ret
             exact ⟨by first | rfl | (simp [errW_none, errW_some] <;> rfl) | (simp only [← hji9]; first | rfl | (simp [errW_none, errW_some] <;> rfl)) | (simp [*, errW_none, errW_some] <;> rfl), d15a⟩
           · rw [if_neg c12] at H
             have c12b0 : decide (((rd_T72 l0 x11_1).f0) ≤ ((rd_T72 l0 (ji9)).f1)) = false := decide_eq_false c12
             clear c12
             have H' := Aside0.mk H
             clear H
             have p101 : 0 ≤ (x11_1 : Int) := of_decide_eq_true d15g
             have q101 : x11_1 < (l0.length : Int) := of_decide_eq_true d15g
             obtain ⟨ad101, e101, hx101_0, hx101_1⟩ := at_T72 HR0.out x11_1 p101 q101
             cases e101
             replace hx101_0 := cellB HB.out hx101_0
             replace hx101_1 := cellB HB.out hx101_1
             replace p101 := eq_true p101
             replace q101 := eq_true q101
             go_wp2_with (first | ((with_reducible refine gate_dst (N := 4) rfl ?_); refine box_event ?hg (N := 4) ?hd (cs := #[.int .i64 0, .int .i64 0]) (t := 72) ?hr ?_; (case hd => rfl); (case hg => rfl); (case hr => exact d15h); intro gb102 hg w15 hbox hb; have n0_ := Aside0.mk (below_step d15b hb); have n1_ := Aside0.mk (hbox); have n2_ := Aside0.mk ((by rw [hg]; exact (below_size d15b) : w.heap.size ≤ gb102)); have n3_ := Aside0.mk ((by rw [hg]; exact (below_size d15b) : w.heap.size ≤ gb102)); clear HB; have HB := n0_; have BK102 := n1_; have GW102 := n2_; have GE102 := n3_; clear n0_ n1_ n2_ n3_; clear hb hbox hg; have hcz16_0 : w15.cell? ⟨gb102, 0, none⟩ = some (.int .i64 0) := (blk_cell BK102.out 0).trans rfl; have hcz16_1 : w15.cell? ⟨gb102, 1, none⟩ = some (.int .i64 0) := (blk_cell BK102.out 1).trans rfl; have hfz16_0 := blk_frozen BK102.out 0; have hfz16_1 := blk_frozen BK102.out 1) | (go_at_call 53; (with_reducible refine (power_span.calls k1 ((rd_T72 l0 x11_1).f0) ((rd_T72 l0 x11_1).f1) t103 _ A6.out).mono ?_); rintro e w' ⟨rfl, ⟨nd, rfl⟩⟩; (try first | exact ⟨rfl, _, World.drewN_drewN _ _ _⟩ | exact ⟨rfl, _, Eq.trans (World.drewN_drewN _ _ _) (congrArg (World.drewN _) (Nat.add_assoc _ _ _))⟩); have p104 : 0 ≤ ((ji9) : Int) := of_decide_eq_true d15g; have q104 : (ji9) < (l0.length : Int) := of_decide_eq_true d15g; obtain ⟨ad104, e104, hx104_0, hx104_1⟩ := at_T72 HR0.out (ji9) p104 q104; obtain rfl : ad101 = ad104 := (by injection e104); have hn104_0 : ad101.block ≠ gb102 := Nat.ne_of_lt (Nat.lt_of_lt_of_le d15f GW102.out); have hn104_1 : ad101.block ≠ gb102 := Nat.ne_of_lt (Nat.lt_of_lt_of_le d15f GW102.out); replace hx104_0 := cellB HB.out hx104_0; replace hx104_1 := cellB HB.out hx104_1; replace hx104_0 := (cell_far (p := ⟨gb102, 0, none⟩) d15c (.int .i64 ((rd_T72 l0 x11_1).f0))).trans hx104_0; replace hx104_1 := (cell_far (p := ⟨gb102, 0, none⟩) d15c (.int .i64 ((rd_T72 l0 x11_1).f0))).trans hx104_1; replace hx104_0 := (cell_far (p := ⟨gb102, 1, none⟩) d15d (.int .i64 ((rd_T72 l0 x11_1).f1))).trans hx104_0; replace hx104_1 := (cell_far (p := ⟨gb102, 1, none⟩) d15d (.int .i64 ((rd_T72 l0 x11_1).f1))).trans hx104_1; (try have hy104_0 := fun (n_ : Nat) => (show ((((w15.drewN n_).setCell ⟨gb102, 0, none⟩ (.int .i64 ((rd_T72 l0 x11_1).f0))).setCell ⟨gb102, 1, none⟩ (.int .i64 ((rd_T72 l0 x11_1).f1)))).cell? _ = some _ from hx104_0)); (try have hy104_1 := fun (n_ : Nat) => (show ((((w15.drewN n_).setCell ⟨gb102, 0, none⟩ (.int .i64 ((rd_T72 l0 x11_1).f0))).setCell ⟨gb102, 1, none⟩ (.int .i64 ((rd_T72 l0 x11_1).f1)))).cell? _ = some _ from hx104_1)); clear hn104_0; clear hn104_1; replace p104 := eq_true p104; replace q104 := eq_true q104))
             repeat (go_quiet (fail); try go_wp2_with (fail))
             go_roundg k1
             case measure => have := HK1.out; omega
             case rel => exact ⟨(wrap64 (x11_1 + 1)), (by first | rfl | (simp; done) | (simp [*]; done)), H', ⟨by have := HK1.out; omega⟩, ⟨d15a⟩⟩
         · rw [if_neg c8] at H
           have c8b0 : decide (0 < x11_1) = false := decide_eq_false c8
           clear c8
           have H' := Aside0.mk H
           clear H
           have p101 : 0 ≤ (x11_1 : Int) := of_decide_eq_true d15g
           have q101 : x11_1 < (l0.length : Int) := of_decide_eq_true d15g
           obtain ⟨ad101, e101, hx101_0, hx101_1⟩ := at_T72 HR0.out x11_1 p101 q101
           cases e101
           replace hx101_0 := cellB HB.out hx101_0
           replace hx101_1 := cellB HB.out hx101_1
           replace p101 := eq_true p101
           replace q101 := eq_true q101
           go_wp2_with (first | ((with_reducible refine gate_dst (N := 4) rfl ?_); refine box_event ?hg (N := 4) ?hd (cs := #[.int .i64 0, .int .i64 0]) (t := 72) ?hr ?_; (case hd => rfl); (case hg => rfl); (case hr => exact d15h); intro gb102 hg w17 hbox hb; have n0_ := Aside0.mk (below_step d15b hb); have n1_ := Aside0.mk (hbox); have n2_ := Aside0.mk ((by rw [hg]; exact (below_size d15b) : w.heap.size ≤ gb102)); have n3_ := Aside0.mk ((by rw [hg]; exact (below_size d15b) : w.heap.size ≤ gb102)); clear HB; have HB := n0_; have BK102 := n1_; have GW102 := n2_; have GE102 := n3_; clear n0_ n1_ n2_ n3_; clear hb hbox hg; have hcz18_0 : w17.cell? ⟨gb102, 0, none⟩ = some (.int .i64 0) := (blk_cell BK102.out 0).trans rfl; have hcz18_1 : w17.cell? ⟨gb102, 1, none⟩ = some (.int .i64 0) := (blk_cell BK102.out 1).trans rfl; have hfz18_0 := blk_frozen BK102.out 0; have hfz18_1 := blk_frozen BK102.out 1) | (go_at_call 53; (with_reducible refine (power_span.calls k1 ((rd_T72 l0 x11_1).f0) ((rd_T72 l0 x11_1).f1) t103 _ A6.out).mono ?_); rintro e w' ⟨rfl, ⟨nd, rfl⟩⟩; (try first | exact ⟨rfl, _, World.drewN_drewN _ _ _⟩ | exact ⟨rfl, _, Eq.trans (World.drewN_drewN _ _ _) (congrArg (World.drewN _) (Nat.add_assoc _ _ _))⟩)))
           repeat (go_quiet (fail); try go_wp2_with (fail))
           go_roundg k1
           case measure => have := HK1.out; omega
           case rel => exact ⟨(wrap64 (x11_1 + 1)), (by first | rfl | (simp; done) | (simp [*]; done)), H', ⟨by have := HK1.out; omega⟩, ⟨d15a⟩⟩
       · rw [if_neg c7] at H
         have c7b0 : (t103 == 0) = false := beq_eq_false_iff_ne.mpr c7
         have c7b1 : (t103 != 0) = true := bne_iff_ne.mpr c7
         obtain rfl := Option.some.inj H
         have p101 : 0 ≤ (x11_1 : Int) := of_decide_eq_true d15g
         have q101 : x11_1 < (l0.length : Int) := of_decide_eq_true d15g
         obtain ⟨ad101, e101, hx101_0, hx101_1⟩ := at_T72 HR0.out x11_1 p101 q101
         cases e101
         replace hx101_0 := cellB HB.out hx101_0
         replace hx101_1 := cellB HB.out hx101_1
         replace p101 := eq_true p101
         replace q101 := eq_true q101
         go_wp2_with (first | ((with_reducible refine gate_dst (N := 4) rfl ?_); refine box_event ?hg (N := 4) ?hd (cs := #[.int .i64 0, .int .i64 0]) (t := 72) ?hr ?_; (case hd => rfl); (case hg => rfl); (case hr => exact d15h); intro gb102 hg w19 hbox hb; have n0_ := Aside0.mk (below_step d15b hb); have n1_ := Aside0.mk (hbox); have n2_ := Aside0.mk ((by rw [hg]; exact (below_size d15b) : w.heap.size ≤ gb102)); have n3_ := Aside0.mk ((by rw [hg]; exact (below_size d15b) : w.heap.size ≤ gb102)); clear HB; have HB := n0_; have BK102 := n1_; have GW102 := n2_; have GE102 := n3_; clear n0_ n1_ n2_ n3_; clear hb hbox hg; have hcz20_0 : w19.cell? ⟨gb102, 0, none⟩ = some (.int .i64 0) := (blk_cell BK102.out 0).trans rfl; have hcz20_1 : w19.cell? ⟨gb102, 1, none⟩ = some (.int .i64 0) := (blk_cell BK102.out 1).trans rfl; have hfz20_0 := blk_frozen BK102.out 0; have hfz20_1 := blk_frozen BK102.out 1) | (go_at_call 53; (with_reducible refine (power_span.calls k1 ((rd_T72 l0 x11_1).f0) ((rd_T72 l0 x11_1).f1) t103 _ A6.out).mono ?_); rintro e w' ⟨rfl, ⟨nd, rfl⟩⟩; (try first | exact ⟨rfl, _, World.drewN_drewN _ _ _⟩ | exact ⟨rfl, _, Eq.trans (World.drewN_drewN _ _ _) (congrArg (World.drewN _) (Nat.add_assoc _ _ _))⟩)))
         go_ret
         exact ⟨d15e, d15a⟩
     · rw [if_neg c3] at H
       have c3b0 : decide (x11_1 < (l0.length : Int)) = false := decide_eq_false c3
       clear c3
       obtain rfl := Option.some.inj H
       go_wp2
       go_ret
       exact ⟨d15e, d15b⟩
def perigeeref9_within.f (a0 : Int) (a1 : Int) (a2 : Int) : Option (Bool) := if a1 ≤ a0 then (some (decide (a0 ≤ a2))) else (some false)
set_option maxHeartbeats 8000000 in
set_option maxRecDepth 100000 in
theorem perigeeref9_within.calls (a0 : Int) (a1 : Int) (a2 : Int) (r : Bool) (w : World) (h : perigeeref9_within.f a0 a1 a2 = some r) :
 Calls Try.prog 54 #[.int .i64 a0, .int .i64 a1, .int .i64 a2] w fun e w' => e = .returned (.bool r) ∧ Drawn0 w w' := by
 have H : (if a1 ≤ a0 then (some (decide (a0 ≤ a2))) else (some false)) = some r := h
 clear h
 by_cases c4 : a1 ≤ a0
 · rw [if_pos c4] at H
   have c4b0 : decide (a1 ≤ a0) = true := decide_eq_true c4
   clear c4
   obtain rfl := Option.some.inj H
   go_enter Try.func54, Try.ntmps54
   go_wp2
   go_ret
   exact ⟨by first | rfl | (simp; done) | (simp [*]; done), by repeat (first | exact Drawn0.refl _ | apply Drawn0.step)⟩
 · rw [if_neg c4] at H
   have c4b0 : decide (a1 ≤ a0) = false := decide_eq_false c4
   clear c4
   obtain rfl := Option.some.inj H
   go_enter Try.func54, Try.ntmps54
   go_wp2
   go_ret
   exact ⟨by first | rfl | (simp; done) | (simp [*]; done), by repeat (first | exact Drawn0.refl _ | apply Drawn0.step)⟩
mutual
def perigeeref9_CheckSun.l0 : Nat → List (S72) → List (S72) → Int → Int → Option (Int)
  | 0, _, _, _, _ => none
  | k + 1, x0, x8, x9, x10 => if x10 < x9 then (if 0 ≤ x10 then (if x10 < (x8.length : Int) then ((perigeeref9_within.f ((rd_T72 x8 x10).f0) 0 1000000000000).bind fun t103 => (if t103 = true then ((perigeeref9_within.f ((rd_T72 x8 x10).f1) 0 1000000000000).bind fun t104 => (perigeeref9_CheckSun.j1 k x0 x10 x8 x9 x10 (!t104) ((rd_T72 x8 x10).f0) ((rd_T72 x8 x10).f1))) else (perigeeref9_CheckSun.j1 k x0 x10 x8 x9 x10 true ((rd_T72 x8 x10).f0) ((rd_T72 x8 x10).f1)))) else (none)) else (none)) else (some 0)
def perigeeref9_CheckSun.j1 : Nat → List (S72) → Int → List (S72) → Int → Int → Bool → Int → Int → Option (Int)
  | 0, _, _, _, _, _, _, _, _ => none
  | k + 1, x0, x3, x8, x9, x10, x15, x103000, x103001 => if x15 = true then (some 1) else (if x103001 ≤ x103000 then (some 13) else (if x3 > 0 then (if 0 ≤ (wrap64 (x3 - 1)) then (if (wrap64 (x3 - 1)) < (x0.length : Int) then (if x103000 ≤ ((rd_T72 x0 (wrap64 (x3 - 1))).f1) then (some 8) else (perigeeref9_CheckSun.l0 k x0 x8 x9 (wrap64 (x10 + 1)))) else (none)) else (none)) else (perigeeref9_CheckSun.l0 k x0 x8 x9 (wrap64 (x10 + 1)))))
end
def perigeeref9_CheckSun.f (k : Nat) (l0 : List (S72)) : Option (Int) := if (l0.length : Int) > 500 then (some 2) else (perigeeref9_CheckSun.l0 k l0 l0 (l0.length : Int) 0)
theorem d16a {p : Prop} (h : p := by repeat (first | (with_reducible first | exact HB.out | apply below_alloc | apply pw_below_drewN | apply below_drew1 | refine below_set ?_ GE102.out) | exact HB.out)) : p := h
theorem d16b {p : Prop} (h : p := by repeat (first | (with_reducible first | exact HB.out | apply below_alloc | apply pw_below_drewN | apply below_drew1) | exact HB.out)) : p := h
theorem d16c {p : Prop} (h : p := by first | rfl | (simp [errW_none, errW_some] <;> rfl) | (simp [*, errW_none, errW_some] <;> rfl)) : p := h
theorem d16d {p : Prop} (h : p := by first | (with_reducible assumption) | assumption) : p := h
theorem d16e {p : Prop} (h : p := by first | rfl | (simp; done) | (simp [*]; done)) : p := h
set_option maxHeartbeats 8000000 in
set_option maxRecDepth 100000 in
theorem perigeeref9_CheckSun.calls (k : Nat) (A0 : Option Addr) (c0 : Nat) (l0 : List (S72)) (r : Int) (w : World) (hr0 : Kd.C k72 w A0 l0.length l0) (hc0 : l0.length ≤ c0) (h : perigeeref9_CheckSun.f k l0 = some r) :
 Calls Try.prog 16 #[.slice A0 l0.length c0] w fun e w' => e = .returned (.int .i64 r) ∧ Below w.heap.size w w' := by
 have hu72 := Try.underlying72
 have HR0 := Aside0.mk hr0
 have HC0 := Aside0.mk hc0
 clear hr0 hc0
 have HB := Aside0.mk (Below.refl w.heap.size w)
 have H : (if (l0.length : Int) > 500 then (some 2) else (perigeeref9_CheckSun.l0 k l0 l0 (l0.length : Int) 0)) = some r := h
 clear h
 by_cases c2 : (l0.length : Int) > 500
 · rw [if_pos c2] at H
   have c2b0 : decide (500 < (l0.length : Int)) = true := decide_eq_true c2
   have c2b1 : decide (500 < l0.length) = true := decide_eq_true (by omega)
   clear c2
   obtain rfl := Option.some.inj H
   go_enter Try.func16, Try.ntmps16
   go_wp2
   go_ret
   exact ⟨d16c, d16b⟩
 · rw [if_neg c2] at H
   have c2b0 : decide (500 < (l0.length : Int)) = false := decide_eq_false c2
   have c2b1 : decide (500 < l0.length) = false := decide_eq_false (by omega)
   clear c2
   have H' := Aside0.mk H
   clear H
   go_enter Try.func16, Try.ntmps16
   go_wp2
   go_loopg [10] k (fun kq v10 w' => ∃ (x10_1 : Int), v10 = .int .i64 x10_1 ∧ Aside0 (perigeeref9_CheckSun.l0 kq l0 l0 (l0.length : Int) x10_1 = some r) ∧ Aside0 (kq ≤ k) ∧ Aside0 (Below w.heap.size w w'))
   case atStart => exact ⟨(0), d16e, H', ⟨Nat.le_refl _⟩, ⟨d16b⟩⟩
   case round =>
    clear H'
    try clear c2b0
    try clear c2b1
    obtain ⟨x10_1, rfl, HA, HK1, HB⟩ := hrel
    cases gk with
    | zero => exact absurd HA.out (by simp [perigeeref9_CheckSun.l0])
    | succ k1 =>
     have H := HA.out
     clear HA
     simp only [perigeeref9_CheckSun.l0] at H
     by_cases c3 : x10_1 < (l0.length : Int)
     · rw [if_pos c3] at H
       have c3b0 : decide (x10_1 < (l0.length : Int)) = true := decide_eq_true c3
       clear c3
       replace H := guardT H; obtain ⟨c4, H⟩ := H
       have c4b0 : decide (0 ≤ x10_1) = true := decide_eq_true c4
       clear c4
       replace H := guardT H; obtain ⟨c5, H⟩ := H
       have c5b0 : decide (x10_1 < (l0.length : Int)) = true := decide_eq_true c5
       clear c5
       have HC6 := Aside0.mk H
       clear H
       have p101 : 0 ≤ (x10_1 : Int) := of_decide_eq_true d16d
       have q101 : x10_1 < (l0.length : Int) := of_decide_eq_true d16d
       obtain ⟨ad101, e101, hx101_0, hx101_1⟩ := at_T72 HR0.out x10_1 p101 q101
       cases e101
       replace hx101_0 := cellB HB.out hx101_0
       replace hx101_1 := cellB HB.out hx101_1
       replace p101 := eq_true p101
       replace q101 := eq_true q101
       go_upto_region 6 with ((with_reducible refine gate_dst (N := 4) rfl ?_); refine box_event ?hg (N := 4) ?hd (cs := #[.int .i64 0, .int .i64 0]) (t := 72) ?hr ?_; (case hd => rfl); (case hg => rfl); (case hr => first | (go_simp; done) | (go_simp; rfl)); intro gb102 hg w7 hbox hb; have n0_ := Aside0.mk (below_step d16b hb); have n1_ := Aside0.mk (hbox); have n2_ := Aside0.mk ((by rw [hg]; exact (below_size d16b) : w.heap.size ≤ gb102)); have n3_ := Aside0.mk ((by rw [hg]; exact (below_size d16b) : w.heap.size ≤ gb102)); clear HB; have HB := n0_; have BK102 := n1_; have GW102 := n2_; have GE102 := n3_; clear n0_ n1_ n2_ n3_; clear hb hbox hg; have hcz8_0 : w7.cell? ⟨gb102, 0, none⟩ = some (.int .i64 0) := (blk_cell BK102.out 0).trans rfl; have hcz8_1 : w7.cell? ⟨gb102, 1, none⟩ = some (.int .i64 0) := (blk_cell BK102.out 1).trans rfl; have hfz8_0 := blk_frozen BK102.out 0; have hfz8_1 := blk_frozen BK102.out 1)
       (try simp only [Act.put, List.setIfInBounds_toArray, List.set_cons_zero, List.set_cons_succ])
       go_cut [15] (fun v15 wc => ∃ (kq : Nat) (x15_5 : Bool), v15 = .bool x15_5 ∧ Aside0 (perigeeref9_CheckSun.j1 kq l0 x10_1 l0 (l0.length : Int) x10_1 x15_5 ((rd_T72 l0 x10_1).f0) ((rd_T72 l0 x10_1).f1) = some r) ∧ Aside0 (kq ≤ k1) ∧ Aside0 (wc.heap[gb102]? = some (.cells #[.int .i64 ((rd_T72 l0 x10_1).f0), .int .i64 ((rd_T72 l0 x10_1).f1)] 72 (0, 0))) ∧ Aside0 (Below w.heap.size w wc))
       case first =>
        have H := HC6.out
        clear HC6
        replace H := bindS H; obtain ⟨t103, A9, H⟩ := H
        by_cases c10 : t103 = true
        · subst c10
          replace H := iteT H
          replace H := bindS H; obtain ⟨t104, A11, H⟩ := H
          have H' := Aside0.mk H
          clear H
          obtain ⟨hcz12_0, hcz12_1⟩ := blkC2 BK102.out
          have hfz12_0 := blk_frozen BK102.out 0
          have hfz12_1 := blk_frozen BK102.out 1
          go_wp2_with (first | (go_at_call 54; (with_reducible refine (perigeeref9_within.calls ((rd_T72 l0 x10_1).f0) 0 1000000000000 true _ A9.out).mono ?_); rintro e w' ⟨rfl, ⟨nd, rfl⟩⟩; (try first | exact ⟨rfl, _, World.drewN_drewN _ _ _⟩ | exact ⟨rfl, _, Eq.trans (World.drewN_drewN _ _ _) (congrArg (World.drewN _) (Nat.add_assoc _ _ _))⟩)) | (go_at_call 54; (with_reducible refine (perigeeref9_within.calls ((rd_T72 l0 x10_1).f1) 0 1000000000000 t104 _ A11.out).mono ?_); rintro e w' ⟨rfl, ⟨nd, rfl⟩⟩; (try first | exact ⟨rfl, _, World.drewN_drewN _ _ _⟩ | exact ⟨rfl, _, Eq.trans (World.drewN_drewN _ _ _) (congrArg (World.drewN _) (Nat.add_assoc _ _ _))⟩)))
          go_meet
          case rel => exact ⟨_, (!t104), d16e, H', ⟨by have := HK1.out; first | omega | exact Nat.le_refl _⟩, ⟨by (with_reducible repeat (first | refine blk_drewN ?_ _ | refine blk_drew ?_ | refine blk_alloc ?_ _)); refine blk_put (cs := #[.int .i64 ((rd_T72 l0 x10_1).f0), .int .i64 0]) ?_ 1 _ rfl; (with_reducible repeat (first | refine blk_drewN ?_ _ | refine blk_drew ?_ | refine blk_alloc ?_ _)); refine blk_put (cs := #[.int .i64 0, .int .i64 0]) ?_ 0 _ rfl; (with_reducible repeat (first | refine blk_drewN ?_ _ | refine blk_drew ?_ | refine blk_alloc ?_ _)); exact BK102.out⟩, ⟨d16a⟩⟩
        · replace c10 := Bool.eq_false_iff.mpr c10
          subst c10
          replace H := iteF H
          have H' := Aside0.mk H
          clear H
          obtain ⟨hcz13_0, hcz13_1⟩ := blkC2 BK102.out
          have hfz13_0 := blk_frozen BK102.out 0
          have hfz13_1 := blk_frozen BK102.out 1
          go_wp2_with (go_at_call 54; (with_reducible refine (perigeeref9_within.calls ((rd_T72 l0 x10_1).f0) 0 1000000000000 false _ A9.out).mono ?_); rintro e w' ⟨rfl, ⟨nd, rfl⟩⟩; (try first | exact ⟨rfl, _, World.drewN_drewN _ _ _⟩ | exact ⟨rfl, _, Eq.trans (World.drewN_drewN _ _ _) (congrArg (World.drewN _) (Nat.add_assoc _ _ _))⟩))
          go_meet
          case rel => exact ⟨_, (true), d16e, H', ⟨by have := HK1.out; first | omega | exact Nat.le_refl _⟩, ⟨by (with_reducible repeat (first | refine blk_drewN ?_ _ | refine blk_drew ?_ | refine blk_alloc ?_ _)); refine blk_put (cs := #[.int .i64 ((rd_T72 l0 x10_1).f0), .int .i64 0]) ?_ 1 _ rfl; (with_reducible repeat (first | refine blk_drewN ?_ _ | refine blk_drew ?_ | refine blk_alloc ?_ _)); refine blk_put (cs := #[.int .i64 0, .int .i64 0]) ?_ 0 _ rfl; (with_reducible repeat (first | refine blk_drewN ?_ _ | refine blk_drew ?_ | refine blk_alloc ?_ _)); exact BK102.out⟩, ⟨d16a⟩⟩
       case rest =>
        clear HC6
        try clear c3b0
        try clear c4b0
        try clear c5b0
        try clear hcz8_0
        try clear hcz8_1
        try clear hfz8_0
        try clear hfz8_1
        try clear hx101_0
        try clear hx101_1
        try clear p101
        try clear q101
        obtain ⟨kq, x15_5, rfl, HA, HJ5, BK102, HB⟩ := hcut
        cases kq with
        | zero => exact absurd HA.out (by simp [perigeeref9_CheckSun.j1])
        | succ kj5 =>
         have H := HA.out
         clear HA
         simp only [perigeeref9_CheckSun.j1] at H
         by_cases c14 : x15_5 = true
         · subst c14
           replace H := iteT H
           obtain rfl := Option.some.inj H
           go_wp2
           go_ret
           exact ⟨d16c, d16a⟩
         · replace c14 := Bool.eq_false_iff.mpr c14
           subst c14
           replace H := iteF H
           by_cases c15 : ((rd_T72 l0 x10_1).f1) ≤ ((rd_T72 l0 x10_1).f0)
           · rw [if_pos c15] at H
             have c15b0 : decide (((rd_T72 l0 x10_1).f1) ≤ ((rd_T72 l0 x10_1).f0)) = true := decide_eq_true c15
             clear c15
             obtain rfl := Option.some.inj H
             obtain ⟨hcz16_0, hcz16_1⟩ := blkC2 BK102.out
             have hfz16_0 := blk_frozen BK102.out 0
             have hfz16_1 := blk_frozen BK102.out 1
             go_wp2
             go_ret
             exact ⟨d16c, d16a⟩
           · rw [if_neg c15] at H
             have c15b0 : decide (((rd_T72 l0 x10_1).f1) ≤ ((rd_T72 l0 x10_1).f0)) = false := decide_eq_false c15
             clear c15
             by_cases c17 : x10_1 > 0
             · rw [if_pos c17] at H
               have c17b0 : decide (0 < x10_1) = true := decide_eq_true c17
               clear c17
               obtain ⟨ji18, hji18⟩ : ∃ j_ : Int, (wrap64 (x10_1 - 1)) = j_ := ⟨_, rfl⟩
               replace H : (if 0 ≤ (ji18) then (if (ji18) < (l0.length : Int) then (if ((rd_T72 l0 x10_1).f0) ≤ ((rd_T72 l0 (ji18)).f1) then (some 8) else (perigeeref9_CheckSun.l0 kj5 l0 l0 (l0.length : Int) (wrap64 (x10_1 + 1)))) else (none)) else (none)) = some r := by first | (rw [hji18] at H; exact H) | (simp only [hji18] at H ⊢; exact H)
               have hji18w : (IntKind.i64.wrap (x10_1 - 1)) = ji18 := (i64_w _).trans hji18
               replace H := guardT H; obtain ⟨c19, H⟩ := H
               have c19b0 : decide (0 ≤ (ji18)) = true := decide_eq_true c19
               clear c19
               replace H := guardT H; obtain ⟨c20, H⟩ := H
               have c20b0 : decide ((ji18) < (l0.length : Int)) = true := decide_eq_true c20
               clear c20
               by_cases c21 : ((rd_T72 l0 x10_1).f0) ≤ ((rd_T72 l0 (ji18)).f1)
               · rw [if_pos c21] at H
                 have c21b0 : decide (((rd_T72 l0 x10_1).f0) ≤ ((rd_T72 l0 (ji18)).f1)) = true := decide_eq_true c21
                 clear c21
                 obtain rfl := Option.some.inj H
                 obtain ⟨hcz22_0, hcz22_1⟩ := blkC2 BK102.out
                 have hfz22_0 := blk_frozen BK102.out 0
                 have hfz22_1 := blk_frozen BK102.out 1
                 have p105 : 0 ≤ ((ji18) : Int) := of_decide_eq_true d16d
                 have q105 : (ji18) < (l0.length : Int) := of_decide_eq_true d16d
                 obtain ⟨ad105, e105, hx105_0, hx105_1⟩ := at_T72 HR0.out (ji18) p105 q105
                 obtain rfl : ad101 = ad105 := (by injection e105)
                 replace hx105_0 := cellB HB.out hx105_0
                 replace hx105_1 := cellB HB.out hx105_1
                 replace p105 := eq_true p105
                 replace q105 := eq_true q105
                 go_wp2
                 repeat (go_quiet (fail); try go_wp2)
                 go_ret
                 exact ⟨by first | rfl | (simp [errW_none, errW_some] <;> rfl) | (simp only [← hji18]; first | rfl | (simp [errW_none, errW_some] <;> rfl)) | (simp [*, errW_none, errW_some] <;> rfl), d16a⟩
               · rw [if_neg c21] at H
                 have c21b0 : decide (((rd_T72 l0 x10_1).f0) ≤ ((rd_T72 l0 (ji18)).f1)) = false := decide_eq_false c21
                 clear c21
                 have H' := Aside0.mk H
                 clear H
                 obtain ⟨hcz23_0, hcz23_1⟩ := blkC2 BK102.out
                 have hfz23_0 := blk_frozen BK102.out 0
                 have hfz23_1 := blk_frozen BK102.out 1
                 have p105 : 0 ≤ ((ji18) : Int) := of_decide_eq_true d16d
                 have q105 : (ji18) < (l0.length : Int) := of_decide_eq_true d16d
                 obtain ⟨ad105, e105, hx105_0, hx105_1⟩ := at_T72 HR0.out (ji18) p105 q105
                 obtain rfl : ad101 = ad105 := (by injection e105)
                 replace hx105_0 := cellB HB.out hx105_0
                 replace hx105_1 := cellB HB.out hx105_1
                 replace p105 := eq_true p105
                 replace q105 := eq_true q105
                 go_wp2
                 repeat (go_quiet (fail); try go_wp2)
                 go_roundg kj5
                 case measure => have := HK1.out; have := HJ5.out; omega
                 case rel => exact ⟨(wrap64 (x10_1 + 1)), d16e, H', ⟨by have := HK1.out; have := HJ5.out; omega⟩, ⟨d16a⟩⟩
             · rw [if_neg c17] at H
               have c17b0 : decide (0 < x10_1) = false := decide_eq_false c17
               clear c17
               have H' := Aside0.mk H
               clear H
               obtain ⟨hcz24_0, hcz24_1⟩ := blkC2 BK102.out
               have hfz24_0 := blk_frozen BK102.out 0
               have hfz24_1 := blk_frozen BK102.out 1
               go_wp2
               repeat (go_quiet (fail); try go_wp2)
               go_roundg kj5
               case measure => have := HK1.out; have := HJ5.out; omega
               case rel => exact ⟨(wrap64 (x10_1 + 1)), d16e, H', ⟨by have := HK1.out; have := HJ5.out; omega⟩, ⟨d16a⟩⟩
     · rw [if_neg c3] at H
       have c3b0 : decide (x10_1 < (l0.length : Int)) = false := decide_eq_false c3
       clear c3
       obtain rfl := Option.some.inj H
       go_wp2
       go_ret
       exact ⟨d16c, d16b⟩
mutual
def telemetry_Word.j0 : Nat → ByteArray → Bool → Option (Bool)
  | 0, _, _ => none
  | k + 1, x0, x11 => if x11 = true then (some false) else (telemetry_Word.l0 k x0 (x0.size : Int) 0)
def telemetry_Word.l0 : Nat → ByteArray → Int → Int → Option (Bool)
  | 0, _, _, _ => none
  | k + 1, x0, x13, x14 => if x14 < x13 then (if 0 ≤ x14 then (if x14 < (x0.size : Int) then (if (bt x0 x14) < 97 then (if x14 = 0 then (some false) else (if (bt x0 x14) = 95 then (telemetry_Word.l0 k x0 x13 (wrap64 (x14 + 1))) else (if (bt x0 x14) < 48 then (some false) else (if (bt x0 x14) > 57 then (some false) else (telemetry_Word.l0 k x0 x13 (wrap64 (x14 + 1))))))) else (if (bt x0 x14) > 122 then (if x14 = 0 then (some false) else (if (bt x0 x14) = 95 then (telemetry_Word.l0 k x0 x13 (wrap64 (x14 + 1))) else (if (bt x0 x14) < 48 then (some false) else (if (bt x0 x14) > 57 then (some false) else (telemetry_Word.l0 k x0 x13 (wrap64 (x14 + 1))))))) else (telemetry_Word.l0 k x0 x13 (wrap64 (x14 + 1))))) else (none)) else (none)) else (some true)
end
def telemetry_Word.f (k : Nat) (a0 : ByteArray) : Option (Bool) := if a0.toList = ([] : List UInt8) then (telemetry_Word.j0 k a0 true) else (telemetry_Word.j0 k a0 (decide ((a0.size : Int) > 40)))
theorem d55a {p : Prop} (h : p := by repeat (first | exact Drawn0.refl _ | apply Drawn0.step)) : p := h
theorem d55b {p : Prop} (h : p := by first | (with_reducible assumption) | assumption) : p := h
theorem d55c {p : Prop} (h : p := by first | rfl | (simp; done) | (simp [*]; done)) : p := h
set_option maxHeartbeats 8000000 in
set_option maxRecDepth 100000 in
theorem telemetry_Word.calls (k : Nat) (a0 : ByteArray) (r : Bool) (w : World) (h : telemetry_Word.f k a0 = some r) :
 Calls Try.prog 55 #[.string a0] w fun e w' => e = .returned (.bool r) ∧ Drawn0 w w' := by
 have H : (if a0.toList = ([] : List UInt8) then (telemetry_Word.j0 k a0 true) else (telemetry_Word.j0 k a0 (decide ((a0.size : Int) > 40)))) = some r := h
 clear h
 have HC2 := Aside0.mk H
 clear H
 go_enter Try.func55, Try.ntmps55
 go_upto_region 1 with (fail)
 go_cut [11] (fun v11 wc => ∃ (kq : Nat) (x11_1 : Bool), v11 = .bool x11_1 ∧ Aside0 (telemetry_Word.j0 kq a0 x11_1 = some r) ∧ Aside0 (kq ≤ k) ∧ Drawn0 w wc)
 case first =>
  have H := HC2.out
  clear HC2
  by_cases c3 : a0.toList = ([] : List UInt8)
  · rw [if_pos c3] at H
    have c3b0 : (a0.toList == ([] : List UInt8)) = true := beq_iff_eq.mpr c3
    have c3b1 : (a0.toList != ([] : List UInt8)) = false := bne_eq_false_iff_eq.mpr c3
    clear c3
    (first | rw [c3b0] | (simp only [i64_w, i32_w]; rw [c3b0]) | skip)
    have H' := Aside0.mk H
    clear H
    go_wp2
    go_meet
    case rel => exact ⟨_, (true), d55c, H', ⟨by first | omega | exact Nat.le_refl _⟩, d55a⟩
  · rw [if_neg c3] at H
    have c3b0 : (a0.toList == ([] : List UInt8)) = false := beq_eq_false_iff_ne.mpr c3
    have c3b1 : (a0.toList != ([] : List UInt8)) = true := bne_iff_ne.mpr c3
    (first | rw [c3b0] | (simp only [i64_w, i32_w]; rw [c3b0]) | skip)
    have H' := Aside0.mk H
    clear H
    go_wp2
    go_meet
    case rel => exact ⟨_, (decide ((a0.size : Int) > 40)), d55c, H', ⟨by first | omega | exact Nat.le_refl _⟩, d55a⟩
 case rest =>
  clear HC2
  obtain ⟨kq, x11_1, rfl, HA, HJ1, ⟨mc1, rfl⟩⟩ := hcut
  cases kq with
  | zero => exact absurd HA.out (by simp [telemetry_Word.j0])
  | succ kj1 =>
   have H := HA.out
   clear HA
   simp only [telemetry_Word.j0] at H
   by_cases c4 : x11_1 = true
   · subst c4
     replace H := iteT H
     obtain rfl := Option.some.inj H
     go_wp2
     go_ret
     exact ⟨d55c, d55a⟩
   · replace c4 := Bool.eq_false_iff.mpr c4
     subst c4
     replace H := iteF H
     have H' := Aside0.mk H
     clear H
     go_wp2
     go_loopg [14] kj1 (fun kq v14 w' => ∃ (x14_2 : Int), v14 = .int .i64 x14_2 ∧ Aside0 (telemetry_Word.l0 kq a0 (a0.size : Int) x14_2 = some r) ∧ Aside0 (kq ≤ kj1) ∧ Drawn0 w w')
     case atStart => exact ⟨(0), d55c, H', ⟨Nat.le_refl _⟩, d55a⟩
     case round =>
      clear H'
      obtain ⟨x14_2, rfl, HA, HK2, ⟨m2, rfl⟩⟩ := hrel
      cases gk with
      | zero => exact absurd HA.out (by simp [telemetry_Word.l0])
      | succ k2 =>
       have H := HA.out
       clear HA
       simp only [telemetry_Word.l0] at H
       by_cases c5 : x14_2 < (a0.size : Int)
       · rw [if_pos c5] at H
         have c5b0 : decide (x14_2 < (a0.size : Int)) = true := decide_eq_true c5
         clear c5
         replace H := guardT H; obtain ⟨c6, H⟩ := H
         have c6b0 : decide (0 ≤ x14_2) = true := decide_eq_true c6
         clear c6
         replace H := guardT H; obtain ⟨c7, H⟩ := H
         have c7b0 : decide (x14_2 < (a0.size : Int)) = true := decide_eq_true c7
         clear c7
         by_cases c9 : (bt a0 x14_2) < 97
         · rw [if_pos c9] at H
           have c9b0 : decide ((bt a0 x14_2) < 97) = true := decide_eq_true c9
           clear c9
           by_cases c10 : x14_2 = 0
           · rw [if_pos c10] at H
             have c10b0 : (x14_2 == 0) = true := beq_iff_eq.mpr c10
             have c10b1 : (x14_2 != 0) = false := bne_eq_false_iff_eq.mpr c10
             clear c10
             obtain rfl := Option.some.inj H
             have p8 : 0 ≤ (x14_2 : Int) := of_decide_eq_true d55b
             have q8 : x14_2 < (a0.size : Int) := of_decide_eq_true d55b
             have hx8 := bt_at a0 x14_2
             replace p8 := eq_true p8
             replace q8 := eq_true q8
             go_wp2
             go_ret
             exact ⟨d55c, d55a⟩
           · rw [if_neg c10] at H
             have c10b0 : (x14_2 == 0) = false := beq_eq_false_iff_ne.mpr c10
             have c10b1 : (x14_2 != 0) = true := bne_iff_ne.mpr c10
             by_cases c11 : (bt a0 x14_2) = 95
             · rw [if_pos c11] at H
               have c11b0 : ((bt a0 x14_2) == 95) = true := beq_iff_eq.mpr c11
               have c11b1 : ((bt a0 x14_2) != 95) = false := bne_eq_false_iff_eq.mpr c11
               clear c11
               have H' := Aside0.mk H
               clear H
               have p8 : 0 ≤ (x14_2 : Int) := of_decide_eq_true d55b
               have q8 : x14_2 < (a0.size : Int) := of_decide_eq_true d55b
               have hx8 := bt_at a0 x14_2
               replace p8 := eq_true p8
               replace q8 := eq_true q8
               go_wp2
               go_roundg k2
               case measure => have := HJ1.out; have := HK2.out; omega
               case rel => exact ⟨(wrap64 (x14_2 + 1)), d55c, H', ⟨by have := HJ1.out; have := HK2.out; omega⟩, d55a⟩
             · rw [if_neg c11] at H
               have c11b0 : ((bt a0 x14_2) == 95) = false := beq_eq_false_iff_ne.mpr c11
               have c11b1 : ((bt a0 x14_2) != 95) = true := bne_iff_ne.mpr c11
               by_cases c12 : (bt a0 x14_2) < 48
               · rw [if_pos c12] at H
                 have c12b0 : decide ((bt a0 x14_2) < 48) = true := decide_eq_true c12
                 clear c12
                 obtain rfl := Option.some.inj H
                 have p8 : 0 ≤ (x14_2 : Int) := of_decide_eq_true d55b
                 have q8 : x14_2 < (a0.size : Int) := of_decide_eq_true d55b
                 have hx8 := bt_at a0 x14_2
                 replace p8 := eq_true p8
                 replace q8 := eq_true q8
                 go_wp2
                 go_ret
                 exact ⟨d55c, d55a⟩
               · rw [if_neg c12] at H
                 have c12b0 : decide ((bt a0 x14_2) < 48) = false := decide_eq_false c12
                 clear c12
                 by_cases c13 : (bt a0 x14_2) > 57
                 · rw [if_pos c13] at H
                   have c13b0 : decide (57 < (bt a0 x14_2)) = true := decide_eq_true c13
                   clear c13
                   obtain rfl := Option.some.inj H
                   have p8 : 0 ≤ (x14_2 : Int) := of_decide_eq_true d55b
                   have q8 : x14_2 < (a0.size : Int) := of_decide_eq_true d55b
                   have hx8 := bt_at a0 x14_2
                   replace p8 := eq_true p8
                   replace q8 := eq_true q8
                   go_wp2
                   go_ret
                   exact ⟨d55c, d55a⟩
                 · rw [if_neg c13] at H
                   have c13b0 : decide (57 < (bt a0 x14_2)) = false := decide_eq_false c13
                   clear c13
                   have H' := Aside0.mk H
                   clear H
                   have p8 : 0 ≤ (x14_2 : Int) := of_decide_eq_true d55b
                   have q8 : x14_2 < (a0.size : Int) := of_decide_eq_true d55b
                   have hx8 := bt_at a0 x14_2
                   replace p8 := eq_true p8
                   replace q8 := eq_true q8
                   go_wp2
                   go_roundg k2
                   case measure => have := HJ1.out; have := HK2.out; omega
                   case rel => exact ⟨(wrap64 (x14_2 + 1)), d55c, H', ⟨by have := HJ1.out; have := HK2.out; omega⟩, d55a⟩
         · rw [if_neg c9] at H
           have c9b0 : decide ((bt a0 x14_2) < 97) = false := decide_eq_false c9
           clear c9
           by_cases c14 : (bt a0 x14_2) > 122
           · rw [if_pos c14] at H
             have c14b0 : decide (122 < (bt a0 x14_2)) = true := decide_eq_true c14
             clear c14
             by_cases c15 : x14_2 = 0
             · rw [if_pos c15] at H
               have c15b0 : (x14_2 == 0) = true := beq_iff_eq.mpr c15
               have c15b1 : (x14_2 != 0) = false := bne_eq_false_iff_eq.mpr c15
               clear c15
               obtain rfl := Option.some.inj H
               have p8 : 0 ≤ (x14_2 : Int) := of_decide_eq_true d55b
               have q8 : x14_2 < (a0.size : Int) := of_decide_eq_true d55b
               have hx8 := bt_at a0 x14_2
               replace p8 := eq_true p8
               replace q8 := eq_true q8
               go_wp2
               go_ret
               exact ⟨d55c, d55a⟩
             · rw [if_neg c15] at H
               have c15b0 : (x14_2 == 0) = false := beq_eq_false_iff_ne.mpr c15
               have c15b1 : (x14_2 != 0) = true := bne_iff_ne.mpr c15
               by_cases c16 : (bt a0 x14_2) = 95
               · rw [if_pos c16] at H
                 have c16b0 : ((bt a0 x14_2) == 95) = true := beq_iff_eq.mpr c16
                 have c16b1 : ((bt a0 x14_2) != 95) = false := bne_eq_false_iff_eq.mpr c16
                 clear c16
                 have H' := Aside0.mk H
                 clear H
                 have p8 : 0 ≤ (x14_2 : Int) := of_decide_eq_true d55b
                 have q8 : x14_2 < (a0.size : Int) := of_decide_eq_true d55b
                 have hx8 := bt_at a0 x14_2
                 replace p8 := eq_true p8
                 replace q8 := eq_true q8
                 go_wp2
                 go_roundg k2
                 case measure => have := HJ1.out; have := HK2.out; omega
                 case rel => exact ⟨(wrap64 (x14_2 + 1)), d55c, H', ⟨by have := HJ1.out; have := HK2.out; omega⟩, d55a⟩
               · rw [if_neg c16] at H
                 have c16b0 : ((bt a0 x14_2) == 95) = false := beq_eq_false_iff_ne.mpr c16
                 have c16b1 : ((bt a0 x14_2) != 95) = true := bne_iff_ne.mpr c16
                 by_cases c17 : (bt a0 x14_2) < 48
                 · rw [if_pos c17] at H
                   have c17b0 : decide ((bt a0 x14_2) < 48) = true := decide_eq_true c17
                   clear c17
                   obtain rfl := Option.some.inj H
                   have p8 : 0 ≤ (x14_2 : Int) := of_decide_eq_true d55b
                   have q8 : x14_2 < (a0.size : Int) := of_decide_eq_true d55b
                   have hx8 := bt_at a0 x14_2
                   replace p8 := eq_true p8
                   replace q8 := eq_true q8
                   go_wp2
                   go_ret
                   exact ⟨d55c, d55a⟩
                 · rw [if_neg c17] at H
                   have c17b0 : decide ((bt a0 x14_2) < 48) = false := decide_eq_false c17
                   clear c17
                   by_cases c18 : (bt a0 x14_2) > 57
                   · rw [if_pos c18] at H
                     have c18b0 : decide (57 < (bt a0 x14_2)) = true := decide_eq_true c18
                     clear c18
                     obtain rfl := Option.some.inj H
                     have p8 : 0 ≤ (x14_2 : Int) := of_decide_eq_true d55b
                     have q8 : x14_2 < (a0.size : Int) := of_decide_eq_true d55b
                     have hx8 := bt_at a0 x14_2
                     replace p8 := eq_true p8
                     replace q8 := eq_true q8
                     go_wp2
                     go_ret
                     exact ⟨d55c, d55a⟩
                   · rw [if_neg c18] at H
                     have c18b0 : decide (57 < (bt a0 x14_2)) = false := decide_eq_false c18
                     clear c18
                     have H' := Aside0.mk H
                     clear H
                     have p8 : 0 ≤ (x14_2 : Int) := of_decide_eq_true d55b
                     have q8 : x14_2 < (a0.size : Int) := of_decide_eq_true d55b
                     have hx8 := bt_at a0 x14_2
                     replace p8 := eq_true p8
                     replace q8 := eq_true q8
                     go_wp2
                     go_roundg k2
                     case measure => have := HJ1.out; have := HK2.out; omega
                     case rel => exact ⟨(wrap64 (x14_2 + 1)), d55c, H', ⟨by have := HJ1.out; have := HK2.out; omega⟩, d55a⟩
           · rw [if_neg c14] at H
             have c14b0 : decide (122 < (bt a0 x14_2)) = false := decide_eq_false c14
             clear c14
             have H' := Aside0.mk H
             clear H
             have p8 : 0 ≤ (x14_2 : Int) := of_decide_eq_true d55b
             have q8 : x14_2 < (a0.size : Int) := of_decide_eq_true d55b
             have hx8 := bt_at a0 x14_2
             replace p8 := eq_true p8
             replace q8 := eq_true q8
             go_wp2
             go_roundg k2
             case measure => have := HJ1.out; have := HK2.out; omega
             case rel => exact ⟨(wrap64 (x14_2 + 1)), d55c, H', ⟨by have := HJ1.out; have := HK2.out; omega⟩, d55a⟩
       · rw [if_neg c5] at H
         have c5b0 : decide (x14_2 < (a0.size : Int)) = false := decide_eq_false c5
         clear c5
         obtain rfl := Option.some.inj H
         go_wp2
         go_ret
         exact ⟨d55c, d55a⟩
end Go.Proofs.Ytplcdpiggpkppaa.Q
