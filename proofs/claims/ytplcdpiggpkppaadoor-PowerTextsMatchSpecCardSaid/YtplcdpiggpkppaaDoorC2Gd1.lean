-- Made by wip/tools/claimp.py of this session's texts; Lean checks it.
import Derived.Test.YtplcdpiggpkppaaDoorC2Q0
namespace Go.Proofs.YtplcdpiggpkppaaDoor.Q
open Go.RowKit Go.Proofs.YtplcdpiggpkppaaDoorW.PrintWords Go.Proofs.YtplcdpiggpkppaaDoorW.PrintLast Go.Proofs.YtplcdpiggpkppaaDoorW.PrintMore
attribute [local go_sem] max2_int min2_int max_two min_two max_three min_three max_four min_four
open Go.Proofs.YtplcdpiggpkppaaDoor.Base
attribute [local go_sem high] str_leq str_gtr str_geq
set_option linter.unusedVariables false
set_option linter.unusedSimpArgs false
def kit_First.l0 : Nat → List Int → Int → Int → Option (Int)
  | 0, _, _, _ => none
  | k + 1, x5, x6, x7 => if x7 < x6 then (if 0 ≤ x7 then (if x7 < (x5.length : Int) then (if (rd x5 x7) = 0 then (kit_First.l0 k x5 x6 (wrap64 (x7 + 1))) else (some (rd x5 x7))) else (none)) else (none)) else (some 0)
def kit_First.f (k : Nat) (l0 : List Int) : Option (Int) := kit_First.l0 k l0 (l0.length : Int) 0
theorem d37a {p : Prop} (h : p := by repeat (first | exact Drawn0.refl _ | apply Drawn0.step)) : p := h
theorem d37b {p : Prop} (h : p := by first | (with_reducible assumption) | assumption) : p := h
theorem d37c {p : Prop} (h : p := by first | rfl | (simp; done) | (simp [*]; done)) : p := h
set_option maxHeartbeats 8000000 in
set_option maxRecDepth 100000 in
theorem kit_First.calls (k : Nat) (A0 : Option Addr) (c0 : Nat) (l0 : List Int) (r : Int) (w : World) (hr0 : Kd.C (Kd.int .i64) w A0 l0.length l0) (hc0 : l0.length ≤ c0) (h : kit_First.f k l0 = some r) :
 Calls Tryd.prog 37 #[.slice A0 l0.length c0] w fun e w' => e = .returned (.int .i64 r) ∧ Drawn0 w w' := by
 have HR0 := Aside0.mk hr0
 have HC0 := Aside0.mk hc0
 clear hr0 hc0
 have H : (kit_First.l0 k l0 (l0.length : Int) 0) = some r := h
 clear h
 have H' := Aside0.mk H
 clear H
 go_enter Tryd.func37, Tryd.ntmps37
 go_wp2
 go_loopg [7] k (fun kq v7 w' => ∃ (x7_1 : Int), v7 = .int .i64 x7_1 ∧ Aside0 (kit_First.l0 kq l0 (l0.length : Int) x7_1 = some r) ∧ Aside0 (kq ≤ k) ∧ Drawn0 w w')
 case atStart => exact ⟨(0), d37c, H', ⟨Nat.le_refl _⟩, d37a⟩
 case round =>
  clear H'
  obtain ⟨x7_1, rfl, HA, HK1, ⟨m1, rfl⟩⟩ := hrel
  cases gk with
  | zero => exact absurd HA.out (by simp [kit_First.l0])
  | succ k1 =>
   have H := HA.out
   clear HA
   simp only [kit_First.l0] at H
   by_cases c2 : x7_1 < (l0.length : Int)
   · rw [if_pos c2] at H
     have c2b0 : decide (x7_1 < (l0.length : Int)) = true := decide_eq_true c2
     clear c2
     replace H := guardT H; obtain ⟨c3, H⟩ := H
     have c3b0 : decide (0 ≤ x7_1) = true := decide_eq_true c3
     clear c3
     replace H := guardT H; obtain ⟨c4, H⟩ := H
     have c4b0 : decide (x7_1 < (l0.length : Int)) = true := decide_eq_true c4
     clear c4
     by_cases c5 : (rd l0 x7_1) = 0
     · rw [if_pos c5] at H
       have c5b0 : ((rd l0 x7_1) == 0) = true := beq_iff_eq.mpr c5
       have c5b1 : ((rd l0 x7_1) != 0) = false := bne_eq_false_iff_eq.mpr c5
       clear c5
       have H' := Aside0.mk H
       clear H
       have p101 : 0 ≤ (x7_1 : Int) := of_decide_eq_true d37b
       have q101 : x7_1 < (l0.length : Int) := of_decide_eq_true d37b
       obtain ⟨ad101, e101, hx101_0⟩ := Kd.at_int HR0.out x7_1 p101 q101
       cases e101
       replace p101 := eq_true p101
       replace q101 := eq_true q101
       go_wp2
       go_roundg k1
       case measure => have := HK1.out; omega
       case rel => exact ⟨(wrap64 (x7_1 + 1)), d37c, H', ⟨by have := HK1.out; omega⟩, d37a⟩
     · rw [if_neg c5] at H
       have c5b0 : ((rd l0 x7_1) == 0) = false := beq_eq_false_iff_ne.mpr c5
       have c5b1 : ((rd l0 x7_1) != 0) = true := bne_iff_ne.mpr c5
       obtain rfl := Option.some.inj H
       have p101 : 0 ≤ (x7_1 : Int) := of_decide_eq_true d37b
       have q101 : x7_1 < (l0.length : Int) := of_decide_eq_true d37b
       obtain ⟨ad101, e101, hx101_0⟩ := Kd.at_int HR0.out x7_1 p101 q101
       cases e101
       replace p101 := eq_true p101
       replace q101 := eq_true q101
       go_wp2
       go_ret
       exact ⟨d37c, d37a⟩
   · rw [if_neg c2] at H
     have c2b0 : decide (x7_1 < (l0.length : Int)) = false := decide_eq_false c2
     clear c2
     obtain rfl := Option.some.inj H
     go_wp2
     go_ret
     exact ⟨d37c, d37a⟩
def kit_In.f (a0 : Int) (a1 : Int) (a2 : Int) : Option (Bool) := if a1 ≤ a0 then (some (decide (a0 ≤ a2))) else (some false)
set_option maxHeartbeats 8000000 in
set_option maxRecDepth 100000 in
theorem kit_In.calls (a0 : Int) (a1 : Int) (a2 : Int) (r : Bool) (w : World) (h : kit_In.f a0 a1 a2 = some r) :
 Calls Tryd.prog 46 #[.int .i64 a0, .int .i64 a1, .int .i64 a2] w fun e w' => e = .returned (.bool r) ∧ Drawn0 w w' := by
 have H : (if a1 ≤ a0 then (some (decide (a0 ≤ a2))) else (some false)) = some r := h
 clear h
 by_cases c4 : a1 ≤ a0
 · rw [if_pos c4] at H
   have c4b0 : decide (a1 ≤ a0) = true := decide_eq_true c4
   clear c4
   obtain rfl := Option.some.inj H
   go_enter Tryd.func46, Tryd.ntmps46
   go_wp2
   go_ret
   exact ⟨by first | rfl | (simp; done) | (simp [*]; done), by repeat (first | exact Drawn0.refl _ | apply Drawn0.step)⟩
 · rw [if_neg c4] at H
   have c4b0 : decide (a1 ≤ a0) = false := decide_eq_false c4
   clear c4
   obtain rfl := Option.some.inj H
   go_enter Tryd.func46, Tryd.ntmps46
   go_wp2
   go_ret
   exact ⟨by first | rfl | (simp; done) | (simp [*]; done), by repeat (first | exact Drawn0.refl _ | apply Drawn0.step)⟩
def power_span.j0 : Nat → Int → Int → Bool → Option (Int)
  | 0, _, _, _ => none
  | k + 1, x0, x1, x12 => if x12 = true then (some 1) else (if x1 ≤ x0 then (some 13) else (some 0))
def power_span.f (k : Nat) (a0 : Int) (a1 : Int) : Option (Int) := (kit_In.f a0 0 1000000000000).bind fun t101 => (if t101 = true then ((kit_In.f a1 0 1000000000000).bind fun t102 => (power_span.j0 k a0 a1 (!t102))) else (power_span.j0 k a0 a1 true))
theorem d29a {p : Prop} (h : p := by repeat (first | exact Drawn0.refl _ | apply Drawn0.step)) : p := h
theorem d29b {p : Prop} (h : p := by first | rfl | (simp; done) | (simp [*]; done)) : p := h
set_option maxHeartbeats 8000000 in
set_option maxRecDepth 100000 in
theorem power_span.calls (k : Nat) (a0 : Int) (a1 : Int) (r : Int) (w : World) (h : power_span.f k a0 a1 = some r) :
 Calls Tryd.prog 29 #[.int .i64 a0, .int .i64 a1] w fun e w' => e = .returned (.int .i64 r) ∧ Drawn0 w w' := by
 have H : ((kit_In.f a0 0 1000000000000).bind fun t101 => (if t101 = true then ((kit_In.f a1 0 1000000000000).bind fun t102 => (power_span.j0 k a0 a1 (!t102))) else (power_span.j0 k a0 a1 true))) = some r := h
 clear h
 have HC3 := Aside0.mk H
 clear H
 go_enter Tryd.func29, Tryd.ntmps29
 go_upto_region 1 with (fail)
 go_cut [12] (fun v12 wc => ∃ (kq : Nat) (x12_2 : Bool), v12 = .bool x12_2 ∧ Aside0 (power_span.j0 kq a0 a1 x12_2 = some r) ∧ Aside0 (kq ≤ k) ∧ Drawn0 w wc)
 case first =>
  have H := HC3.out
  clear HC3
  replace H := bindS H; obtain ⟨t101, A4, H⟩ := H
  by_cases c5 : t101 = true
  · subst c5
    replace H := iteT H
    replace H := bindS H; obtain ⟨t102, A6, H⟩ := H
    have H' := Aside0.mk H
    clear H
    go_wp2_with (first | ((with_reducible refine gate_callee (f := 46) rfl ?_); refine goesL_ (some 6) rfl rfl Tryd.func46 (by kernel_rfl) rfl #[.int .i64 a0, .int .i64 0, .int .i64 1000000000000] rfl (by (try simp only [List.map_toArray, List.map_cons, List.map_nil]); first | done | rfl | (simp only [List.length_drop, List.length_take]; rfl)) ?_; (with_reducible refine (kit_In.calls a0 0 1000000000000 true _ A4.out).mono ?_); rintro e w' ⟨rfl, ⟨nd, rfl⟩⟩; refine ⟨_, rfl, ?_⟩) | (go_at_call 46; (with_reducible refine (kit_In.calls a1 0 1000000000000 t102 _ A6.out).mono ?_); rintro e w' ⟨rfl, ⟨nd, rfl⟩⟩))
    go_meet
    case rel => exact ⟨_, (!t102), d29b, H', ⟨by first | omega | exact Nat.le_refl _⟩, d29a⟩
  · replace c5 := Bool.eq_false_iff.mpr c5
    subst c5
    replace H := iteF H
    have H' := Aside0.mk H
    clear H
    go_wp2_with ((with_reducible refine gate_callee (f := 46) rfl ?_); refine goesL_ (some 6) rfl rfl Tryd.func46 (by kernel_rfl) rfl #[.int .i64 a0, .int .i64 0, .int .i64 1000000000000] rfl (by (try simp only [List.map_toArray, List.map_cons, List.map_nil]); first | done | rfl | (simp only [List.length_drop, List.length_take]; rfl)) ?_; (with_reducible refine (kit_In.calls a0 0 1000000000000 false _ A4.out).mono ?_); rintro e w' ⟨rfl, ⟨nd, rfl⟩⟩; refine ⟨_, rfl, ?_⟩)
    go_meet
    case rel => exact ⟨_, (true), d29b, H', ⟨by first | omega | exact Nat.le_refl _⟩, d29a⟩
 case rest =>
  clear HC3
  obtain ⟨kq, x12_2, rfl, HA, HJ2, ⟨mc2, rfl⟩⟩ := hcut
  cases kq with
  | zero => exact absurd HA.out (by simp [power_span.j0])
  | succ kj2 =>
   have H := HA.out
   clear HA
   simp only [power_span.j0] at H
   by_cases c7 : x12_2 = true
   · subst c7
     replace H := iteT H
     obtain rfl := Option.some.inj H
     go_wp2
     go_ret
     exact ⟨d29b, d29a⟩
   · replace c7 := Bool.eq_false_iff.mpr c7
     subst c7
     replace H := iteF H
     by_cases c8 : a1 ≤ a0
     · rw [if_pos c8] at H
       have c8b0 : decide (a1 ≤ a0) = true := decide_eq_true c8
       clear c8
       obtain rfl := Option.some.inj H
       go_wp2
       go_ret
       exact ⟨d29b, d29a⟩
     · rw [if_neg c8] at H
       have c8b0 : decide (a1 ≤ a0) = false := decide_eq_false c8
       clear c8
       obtain rfl := Option.some.inj H
       go_wp2
       go_ret
       exact ⟨d29b, d29a⟩
def power_CheckSun.l0 : Nat → List (S53) → List (S53) → Int → Int → Option (Int)
  | 0, _, _, _, _ => none
  | k + 1, x0, x9, x10, x11 => if x11 < x10 then (if 0 ≤ x11 then (if x11 < (x9.length : Int) then ((power_span.f k ((rd_T53 x9 x11).f0) ((rd_T53 x9 x11).f1)).bind fun t103 => (if t103 = 0 then (if x11 > 0 then (if 0 ≤ (wrap64 (x11 - 1)) then (if (wrap64 (x11 - 1)) < (x0.length : Int) then (if ((rd_T53 x9 x11).f0) ≤ ((rd_T53 x0 (wrap64 (x11 - 1))).f1) then (some 8) else (power_CheckSun.l0 k x0 x9 x10 (wrap64 (x11 + 1)))) else (none)) else (none)) else (power_CheckSun.l0 k x0 x9 x10 (wrap64 (x11 + 1)))) else (some t103))) else (none)) else (none)) else (some 0)
def power_CheckSun.f (k : Nat) (l0 : List (S53)) : Option (Int) := if (l0.length : Int) > 500 then (some 2) else (power_CheckSun.l0 k l0 l0 (l0.length : Int) 0)
theorem d38a {p : Prop} (h : p := by repeat (first | (with_reducible first | exact HB.out | apply below_alloc | apply pw_below_drewN | apply below_drew1 | refine below_set ?_ GE102.out) | exact HB.out)) : p := h
theorem d38b {p : Prop} (h : p := by repeat (first | (with_reducible first | exact HB.out | apply below_alloc | apply pw_below_drewN | apply below_drew1) | exact HB.out)) : p := h
theorem d38c {p : Prop} (h : p := by first | (rw [add_block]; exact hn104_0) | (show (Addr.add _ _).block ≠ _; rw [add_block]; exact hn104_0) | exact hn104_0) : p := h
theorem d38d {p : Prop} (h : p := by first | (rw [add_block]; exact hn104_1) | (show (Addr.add _ _).block ≠ _; rw [add_block]; exact hn104_1) | exact hn104_1) : p := h
theorem d38e {p : Prop} (h : p := by first | rfl | (simp [errW_none, errW_some] <;> rfl) | (simp [*, errW_none, errW_some] <;> rfl)) : p := h
theorem d38f {p : Prop} (h : p := by have := World.block_lt_of_cell? _ _ hx104_0; first | rwa [add_block] at this | exact this) : p := h
theorem d38g {p : Prop} (h : p := by first | (with_reducible assumption) | assumption) : p := h
theorem d38h {p : Prop} (h : p := by first | (go_simp; done) | (go_simp; rfl)) : p := h
set_option maxHeartbeats 8000000 in
set_option maxRecDepth 100000 in
theorem power_CheckSun.calls (k : Nat) (A0 : Option Addr) (c0 : Nat) (l0 : List (S53)) (r : Int) (w : World) (hr0 : Kd.C k53 w A0 l0.length l0) (hc0 : l0.length ≤ c0) (h : power_CheckSun.f k l0 = some r) :
 Calls Tryd.prog 38 #[.slice A0 l0.length c0] w fun e w' => e = .returned (.int .i64 r) ∧ Below w.heap.size w w' := by
 have hu53 := Tryd.underlying53
 have HR0 := Aside0.mk hr0
 have HC0 := Aside0.mk hc0
 clear hr0 hc0
 have HB := Aside0.mk (Below.refl w.heap.size w)
 have H : (if (l0.length : Int) > 500 then (some 2) else (power_CheckSun.l0 k l0 l0 (l0.length : Int) 0)) = some r := h
 clear h
 by_cases c2 : (l0.length : Int) > 500
 · rw [if_pos c2] at H
   have c2b0 : decide (500 < (l0.length : Int)) = true := decide_eq_true c2
   have c2b1 : decide (500 < l0.length) = true := decide_eq_true (by omega)
   clear c2
   obtain rfl := Option.some.inj H
   go_enter Tryd.func38, Tryd.ntmps38
   go_wp2
   go_ret
   exact ⟨d38e, d38b⟩
 · rw [if_neg c2] at H
   have c2b0 : decide (500 < (l0.length : Int)) = false := decide_eq_false c2
   have c2b1 : decide (500 < l0.length) = false := decide_eq_false (by omega)
   clear c2
   have H' := Aside0.mk H
   clear H
   go_enter Tryd.func38, Tryd.ntmps38
   go_wp2
   go_loopg [11] k (fun kq v11 w' => ∃ (x11_1 : Int), v11 = .int .i64 x11_1 ∧ Aside0 (power_CheckSun.l0 kq l0 l0 (l0.length : Int) x11_1 = some r) ∧ Aside0 (kq ≤ k) ∧ Aside0 (Below w.heap.size w w'))
   case atStart => exact ⟨(0), (by first | rfl | (simp; done) | (simp [*]; done)), H', ⟨Nat.le_refl _⟩, ⟨d38b⟩⟩
   case round =>
    clear H'
    try clear c2b0
    try clear c2b1
    obtain ⟨x11_1, rfl, HA, HK1, HB⟩ := hrel
    cases gk with
    | zero => exact absurd HA.out (by simp [power_CheckSun.l0])
    | succ k1 =>
     have H := HA.out
     clear HA
     simp only [power_CheckSun.l0] at H
     by_cases c3 : x11_1 < (l0.length : Int)
     · rw [if_pos c3] at H
       have c3b0 : decide (x11_1 < (l0.length : Int)) = true := decide_eq_true c3
       clear c3
       replace H := guardT H; obtain ⟨c4, H⟩ := H
       have c4b0 : decide (0 ≤ x11_1) = true := decide_eq_true c4
       clear c4
       replace H := guardT H; obtain ⟨c5, H⟩ := H
       have c5b0 : decide (x11_1 < (l0.length : Int)) = true := decide_eq_true c5
       clear c5
       replace H := bindS H; obtain ⟨t103, A6, H⟩ := H
       by_cases c7 : t103 = 0
       · rw [if_pos c7] at H
         have c7b0 : (t103 == 0) = true := beq_iff_eq.mpr c7
         have c7b1 : (t103 != 0) = false := bne_eq_false_iff_eq.mpr c7
         clear c7
         by_cases c8 : x11_1 > 0
         · rw [if_pos c8] at H
           have c8b0 : decide (0 < x11_1) = true := decide_eq_true c8
           clear c8
           obtain ⟨ji9, hji9⟩ : ∃ j_ : Int, (wrap64 (x11_1 - 1)) = j_ := ⟨_, rfl⟩
           replace H : (if 0 ≤ (ji9) then (if (ji9) < (l0.length : Int) then (if ((rd_T53 l0 x11_1).f0) ≤ ((rd_T53 l0 (ji9)).f1) then (some 8) else (power_CheckSun.l0 k1 l0 l0 (l0.length : Int) (wrap64 (x11_1 + 1)))) else (none)) else (none)) = some r := by first | (rw [hji9] at H; exact H) | (simp only [hji9] at H ⊢; exact H)
           (try rw [hji9] at A6)
           have hji9w : (IntKind.i64.wrap (x11_1 - 1)) = ji9 := (i64_w _).trans hji9
           replace H := guardT H; obtain ⟨c10, H⟩ := H
           have c10b0 : decide (0 ≤ (ji9)) = true := decide_eq_true c10
           clear c10
           replace H := guardT H; obtain ⟨c11, H⟩ := H
           have c11b0 : decide ((ji9) < (l0.length : Int)) = true := decide_eq_true c11
           clear c11
           by_cases c12 : ((rd_T53 l0 x11_1).f0) ≤ ((rd_T53 l0 (ji9)).f1)
           · rw [if_pos c12] at H
             have c12b0 : decide (((rd_T53 l0 x11_1).f0) ≤ ((rd_T53 l0 (ji9)).f1)) = true := decide_eq_true c12
             clear c12
             obtain rfl := Option.some.inj H
             have p101 : 0 ≤ (x11_1 : Int) := of_decide_eq_true d38g
             have q101 : x11_1 < (l0.length : Int) := of_decide_eq_true d38g
             obtain ⟨ad101, e101, hx101_0, hx101_1⟩ := at_T53 HR0.out x11_1 p101 q101
             cases e101
             replace hx101_0 := cellB HB.out hx101_0
             replace hx101_1 := cellB HB.out hx101_1
             replace p101 := eq_true p101
             replace q101 := eq_true q101
             go_wp2_with (first | ((with_reducible refine gate_dst (N := 4) rfl ?_); refine box_event ?hg (N := 4) ?hd (cs := #[.int .i64 0, .int .i64 0]) (t := 53) ?hr ?_; (case hd => rfl); (case hg => rfl); (case hr => exact d38h); intro gb102 hg w13 hbox hb; have n0_ := Aside0.mk (below_step d38b hb); have n1_ := Aside0.mk (hbox); have n2_ := Aside0.mk ((by rw [hg]; exact (below_size d38b) : w.heap.size ≤ gb102)); have n3_ := Aside0.mk ((by rw [hg]; exact (below_size d38b) : w.heap.size ≤ gb102)); clear HB; have HB := n0_; have BK102 := n1_; have GW102 := n2_; have GE102 := n3_; clear n0_ n1_ n2_ n3_; clear hb hbox hg; have hcz14_0 : w13.cell? ⟨gb102, 0, none⟩ = some (.int .i64 0) := (blk_cell BK102.out 0).trans rfl; have hcz14_1 : w13.cell? ⟨gb102, 1, none⟩ = some (.int .i64 0) := (blk_cell BK102.out 1).trans rfl; have hfz14_0 := blk_frozen BK102.out 0; have hfz14_1 := blk_frozen BK102.out 1) | (go_at_call 29; (with_reducible refine (power_span.calls k1 ((rd_T53 l0 x11_1).f0) ((rd_T53 l0 x11_1).f1) t103 _ A6.out).mono ?_); rintro e w' ⟨rfl, ⟨nd, rfl⟩⟩; (try first | exact ⟨rfl, _, World.drewN_drewN _ _ _⟩ | exact ⟨rfl, _, Eq.trans (World.drewN_drewN _ _ _) (congrArg (World.drewN _) (Nat.add_assoc _ _ _))⟩); have p104 : 0 ≤ ((ji9) : Int) := of_decide_eq_true d38g; have q104 : (ji9) < (l0.length : Int) := of_decide_eq_true d38g; obtain ⟨ad104, e104, hx104_0, hx104_1⟩ := at_T53 HR0.out (ji9) p104 q104; obtain rfl : ad101 = ad104 := (by injection e104); have hn104_0 : ad101.block ≠ gb102 := Nat.ne_of_lt (Nat.lt_of_lt_of_le d38f GW102.out); have hn104_1 : ad101.block ≠ gb102 := Nat.ne_of_lt (Nat.lt_of_lt_of_le d38f GW102.out); replace hx104_0 := cellB HB.out hx104_0; replace hx104_1 := cellB HB.out hx104_1; replace hx104_0 := (cell_far (p := ⟨gb102, 0, none⟩) d38c (.int .i64 ((rd_T53 l0 x11_1).f0))).trans hx104_0; replace hx104_1 := (cell_far (p := ⟨gb102, 0, none⟩) d38c (.int .i64 ((rd_T53 l0 x11_1).f0))).trans hx104_1; replace hx104_0 := (cell_far (p := ⟨gb102, 1, none⟩) d38d (.int .i64 ((rd_T53 l0 x11_1).f1))).trans hx104_0; replace hx104_1 := (cell_far (p := ⟨gb102, 1, none⟩) d38d (.int .i64 ((rd_T53 l0 x11_1).f1))).trans hx104_1; (try have hy104_0 := fun (n_ : Nat) => (show ((((w13.drewN n_).setCell ⟨gb102, 0, none⟩ (.int .i64 ((rd_T53 l0 x11_1).f0))).setCell ⟨gb102, 1, none⟩ (.int .i64 ((rd_T53 l0 x11_1).f1)))).cell? _ = some _ from hx104_0)); (try have hy104_1 := fun (n_ : Nat) => (show ((((w13.drewN n_).setCell ⟨gb102, 0, none⟩ (.int .i64 ((rd_T53 l0 x11_1).f0))).setCell ⟨gb102, 1, none⟩ (.int .i64 ((rd_T53 l0 x11_1).f1)))).cell? _ = some _ from hx104_1)); clear hn104_0; clear hn104_1; replace p104 := eq_true p104; replace q104 := eq_true q104))
             repeat (go_quiet (fail); try go_wp2_with (fail))
             go_ret
             exact ⟨by first | rfl | (simp [errW_none, errW_some] <;> rfl) | (simp only [← hji9]; first | rfl | (simp [errW_none, errW_some] <;> rfl)) | (simp [*, errW_none, errW_some] <;> rfl), d38a⟩
           · rw [if_neg c12] at H
             have c12b0 : decide (((rd_T53 l0 x11_1).f0) ≤ ((rd_T53 l0 (ji9)).f1)) = false := decide_eq_false c12
             clear c12
             have H' := Aside0.mk H
             clear H
             have p101 : 0 ≤ (x11_1 : Int) := of_decide_eq_true d38g
             have q101 : x11_1 < (l0.length : Int) := of_decide_eq_true d38g
             obtain ⟨ad101, e101, hx101_0, hx101_1⟩ := at_T53 HR0.out x11_1 p101 q101
             cases e101
             replace hx101_0 := cellB HB.out hx101_0
             replace hx101_1 := cellB HB.out hx101_1
             replace p101 := eq_true p101
             replace q101 := eq_true q101
             go_wp2_with (first | ((with_reducible refine gate_dst (N := 4) rfl ?_); refine box_event ?hg (N := 4) ?hd (cs := #[.int .i64 0, .int .i64 0]) (t := 53) ?hr ?_; (case hd => rfl); (case hg => rfl); (case hr => exact d38h); intro gb102 hg w15 hbox hb; have n0_ := Aside0.mk (below_step d38b hb); have n1_ := Aside0.mk (hbox); have n2_ := Aside0.mk ((by rw [hg]; exact (below_size d38b) : w.heap.size ≤ gb102)); have n3_ := Aside0.mk ((by rw [hg]; exact (below_size d38b) : w.heap.size ≤ gb102)); clear HB; have HB := n0_; have BK102 := n1_; have GW102 := n2_; have GE102 := n3_; clear n0_ n1_ n2_ n3_; clear hb hbox hg; have hcz16_0 : w15.cell? ⟨gb102, 0, none⟩ = some (.int .i64 0) := (blk_cell BK102.out 0).trans rfl; have hcz16_1 : w15.cell? ⟨gb102, 1, none⟩ = some (.int .i64 0) := (blk_cell BK102.out 1).trans rfl; have hfz16_0 := blk_frozen BK102.out 0; have hfz16_1 := blk_frozen BK102.out 1) | (go_at_call 29; (with_reducible refine (power_span.calls k1 ((rd_T53 l0 x11_1).f0) ((rd_T53 l0 x11_1).f1) t103 _ A6.out).mono ?_); rintro e w' ⟨rfl, ⟨nd, rfl⟩⟩; (try first | exact ⟨rfl, _, World.drewN_drewN _ _ _⟩ | exact ⟨rfl, _, Eq.trans (World.drewN_drewN _ _ _) (congrArg (World.drewN _) (Nat.add_assoc _ _ _))⟩); have p104 : 0 ≤ ((ji9) : Int) := of_decide_eq_true d38g; have q104 : (ji9) < (l0.length : Int) := of_decide_eq_true d38g; obtain ⟨ad104, e104, hx104_0, hx104_1⟩ := at_T53 HR0.out (ji9) p104 q104; obtain rfl : ad101 = ad104 := (by injection e104); have hn104_0 : ad101.block ≠ gb102 := Nat.ne_of_lt (Nat.lt_of_lt_of_le d38f GW102.out); have hn104_1 : ad101.block ≠ gb102 := Nat.ne_of_lt (Nat.lt_of_lt_of_le d38f GW102.out); replace hx104_0 := cellB HB.out hx104_0; replace hx104_1 := cellB HB.out hx104_1; replace hx104_0 := (cell_far (p := ⟨gb102, 0, none⟩) d38c (.int .i64 ((rd_T53 l0 x11_1).f0))).trans hx104_0; replace hx104_1 := (cell_far (p := ⟨gb102, 0, none⟩) d38c (.int .i64 ((rd_T53 l0 x11_1).f0))).trans hx104_1; replace hx104_0 := (cell_far (p := ⟨gb102, 1, none⟩) d38d (.int .i64 ((rd_T53 l0 x11_1).f1))).trans hx104_0; replace hx104_1 := (cell_far (p := ⟨gb102, 1, none⟩) d38d (.int .i64 ((rd_T53 l0 x11_1).f1))).trans hx104_1; (try have hy104_0 := fun (n_ : Nat) => (show ((((w15.drewN n_).setCell ⟨gb102, 0, none⟩ (.int .i64 ((rd_T53 l0 x11_1).f0))).setCell ⟨gb102, 1, none⟩ (.int .i64 ((rd_T53 l0 x11_1).f1)))).cell? _ = some _ from hx104_0)); (try have hy104_1 := fun (n_ : Nat) => (show ((((w15.drewN n_).setCell ⟨gb102, 0, none⟩ (.int .i64 ((rd_T53 l0 x11_1).f0))).setCell ⟨gb102, 1, none⟩ (.int .i64 ((rd_T53 l0 x11_1).f1)))).cell? _ = some _ from hx104_1)); clear hn104_0; clear hn104_1; replace p104 := eq_true p104; replace q104 := eq_true q104))
             repeat (go_quiet (fail); try go_wp2_with (fail))
             go_roundg k1
             case measure => have := HK1.out; omega
             case rel => exact ⟨(wrap64 (x11_1 + 1)), (by first | rfl | (simp; done) | (simp [*]; done)), H', ⟨by have := HK1.out; omega⟩, ⟨d38a⟩⟩
         · rw [if_neg c8] at H
           have c8b0 : decide (0 < x11_1) = false := decide_eq_false c8
           clear c8
           have H' := Aside0.mk H
           clear H
           have p101 : 0 ≤ (x11_1 : Int) := of_decide_eq_true d38g
           have q101 : x11_1 < (l0.length : Int) := of_decide_eq_true d38g
           obtain ⟨ad101, e101, hx101_0, hx101_1⟩ := at_T53 HR0.out x11_1 p101 q101
           cases e101
           replace hx101_0 := cellB HB.out hx101_0
           replace hx101_1 := cellB HB.out hx101_1
           replace p101 := eq_true p101
           replace q101 := eq_true q101
           go_wp2_with (first | ((with_reducible refine gate_dst (N := 4) rfl ?_); refine box_event ?hg (N := 4) ?hd (cs := #[.int .i64 0, .int .i64 0]) (t := 53) ?hr ?_; (case hd => rfl); (case hg => rfl); (case hr => exact d38h); intro gb102 hg w17 hbox hb; have n0_ := Aside0.mk (below_step d38b hb); have n1_ := Aside0.mk (hbox); have n2_ := Aside0.mk ((by rw [hg]; exact (below_size d38b) : w.heap.size ≤ gb102)); have n3_ := Aside0.mk ((by rw [hg]; exact (below_size d38b) : w.heap.size ≤ gb102)); clear HB; have HB := n0_; have BK102 := n1_; have GW102 := n2_; have GE102 := n3_; clear n0_ n1_ n2_ n3_; clear hb hbox hg; have hcz18_0 : w17.cell? ⟨gb102, 0, none⟩ = some (.int .i64 0) := (blk_cell BK102.out 0).trans rfl; have hcz18_1 : w17.cell? ⟨gb102, 1, none⟩ = some (.int .i64 0) := (blk_cell BK102.out 1).trans rfl; have hfz18_0 := blk_frozen BK102.out 0; have hfz18_1 := blk_frozen BK102.out 1) | (go_at_call 29; (with_reducible refine (power_span.calls k1 ((rd_T53 l0 x11_1).f0) ((rd_T53 l0 x11_1).f1) t103 _ A6.out).mono ?_); rintro e w' ⟨rfl, ⟨nd, rfl⟩⟩; (try first | exact ⟨rfl, _, World.drewN_drewN _ _ _⟩ | exact ⟨rfl, _, Eq.trans (World.drewN_drewN _ _ _) (congrArg (World.drewN _) (Nat.add_assoc _ _ _))⟩)))
           repeat (go_quiet (fail); try go_wp2_with (fail))
           go_roundg k1
           case measure => have := HK1.out; omega
           case rel => exact ⟨(wrap64 (x11_1 + 1)), (by first | rfl | (simp; done) | (simp [*]; done)), H', ⟨by have := HK1.out; omega⟩, ⟨d38a⟩⟩
       · rw [if_neg c7] at H
         have c7b0 : (t103 == 0) = false := beq_eq_false_iff_ne.mpr c7
         have c7b1 : (t103 != 0) = true := bne_iff_ne.mpr c7
         obtain rfl := Option.some.inj H
         have p101 : 0 ≤ (x11_1 : Int) := of_decide_eq_true d38g
         have q101 : x11_1 < (l0.length : Int) := of_decide_eq_true d38g
         obtain ⟨ad101, e101, hx101_0, hx101_1⟩ := at_T53 HR0.out x11_1 p101 q101
         cases e101
         replace hx101_0 := cellB HB.out hx101_0
         replace hx101_1 := cellB HB.out hx101_1
         replace p101 := eq_true p101
         replace q101 := eq_true q101
         go_wp2_with (first | ((with_reducible refine gate_dst (N := 4) rfl ?_); refine box_event ?hg (N := 4) ?hd (cs := #[.int .i64 0, .int .i64 0]) (t := 53) ?hr ?_; (case hd => rfl); (case hg => rfl); (case hr => exact d38h); intro gb102 hg w19 hbox hb; have n0_ := Aside0.mk (below_step d38b hb); have n1_ := Aside0.mk (hbox); have n2_ := Aside0.mk ((by rw [hg]; exact (below_size d38b) : w.heap.size ≤ gb102)); have n3_ := Aside0.mk ((by rw [hg]; exact (below_size d38b) : w.heap.size ≤ gb102)); clear HB; have HB := n0_; have BK102 := n1_; have GW102 := n2_; have GE102 := n3_; clear n0_ n1_ n2_ n3_; clear hb hbox hg; have hcz20_0 : w19.cell? ⟨gb102, 0, none⟩ = some (.int .i64 0) := (blk_cell BK102.out 0).trans rfl; have hcz20_1 : w19.cell? ⟨gb102, 1, none⟩ = some (.int .i64 0) := (blk_cell BK102.out 1).trans rfl; have hfz20_0 := blk_frozen BK102.out 0; have hfz20_1 := blk_frozen BK102.out 1) | (go_at_call 29; (with_reducible refine (power_span.calls k1 ((rd_T53 l0 x11_1).f0) ((rd_T53 l0 x11_1).f1) t103 _ A6.out).mono ?_); rintro e w' ⟨rfl, ⟨nd, rfl⟩⟩; (try first | exact ⟨rfl, _, World.drewN_drewN _ _ _⟩ | exact ⟨rfl, _, Eq.trans (World.drewN_drewN _ _ _) (congrArg (World.drewN _) (Nat.add_assoc _ _ _))⟩)))
         go_ret
         exact ⟨d38e, d38a⟩
     · rw [if_neg c3] at H
       have c3b0 : decide (x11_1 < (l0.length : Int)) = false := decide_eq_false c3
       clear c3
       obtain rfl := Option.some.inj H
       go_wp2
       go_ret
       exact ⟨d38e, d38b⟩
def kit_Range.f (a0 : Int) (a1 : Int) (a2 : Int) : Option (Int) := (kit_In.f a0 a1 a2).bind fun t101 => (if t101 = true then (some 0) else (some 1))
set_option maxHeartbeats 8000000 in
set_option maxRecDepth 100000 in
theorem kit_Range.calls (a0 : Int) (a1 : Int) (a2 : Int) (r : Int) (w : World) (h : kit_Range.f a0 a1 a2 = some r) :
 Calls Tryd.prog 39 #[.int .i64 a0, .int .i64 a1, .int .i64 a2] w fun e w' => e = .returned (.int .i64 r) ∧ Drawn0 w w' := by
 have H : ((kit_In.f a0 a1 a2).bind fun t101 => (if t101 = true then (some 0) else (some 1))) = some r := h
 clear h
 replace H := bindS H; obtain ⟨t101, A4, H⟩ := H
 by_cases c5 : t101 = true
 · subst c5
   replace H := iteT H
   obtain rfl := Option.some.inj H
   go_enter Tryd.func39, Tryd.ntmps39
   go_wp2_with ((with_reducible refine gate_callee (f := 46) rfl ?_); refine goesL_ (some 10) rfl rfl Tryd.func46 (by kernel_rfl) rfl #[.int .i64 a0, .int .i64 a1, .int .i64 a2] rfl (by (try simp only [List.map_toArray, List.map_cons, List.map_nil]); first | done | rfl | (simp only [List.length_drop, List.length_take]; rfl)) ?_; (with_reducible refine (kit_In.calls a0 a1 a2 true _ A4.out).mono ?_); rintro e w' ⟨rfl, ⟨nd, rfl⟩⟩; refine ⟨_, rfl, ?_⟩)
   go_ret
   exact ⟨by first | rfl | (simp; done) | (simp [*]; done), by repeat (first | exact Drawn0.refl _ | apply Drawn0.step)⟩
 · replace c5 := Bool.eq_false_iff.mpr c5
   subst c5
   replace H := iteF H
   obtain rfl := Option.some.inj H
   go_enter Tryd.func39, Tryd.ntmps39
   go_wp2_with ((with_reducible refine gate_callee (f := 46) rfl ?_); refine goesL_ (some 10) rfl rfl Tryd.func46 (by kernel_rfl) rfl #[.int .i64 a0, .int .i64 a1, .int .i64 a2] rfl (by (try simp only [List.map_toArray, List.map_cons, List.map_nil]); first | done | rfl | (simp only [List.length_drop, List.length_take]; rfl)) ?_; (with_reducible refine (kit_In.calls a0 a1 a2 false _ A4.out).mono ?_); rintro e w' ⟨rfl, ⟨nd, rfl⟩⟩; refine ⟨_, rfl, ?_⟩)
   go_ret
   exact ⟨by first | rfl | (simp; done) | (simp [*]; done), by repeat (first | exact Drawn0.refl _ | apply Drawn0.step)⟩
def power_Sunny.l0 : Nat → Int → Int → Int → List (S53) → Int → Int → Option (Int × Int)
  | 0, _, _, _, _, _, _ => none
  | k + 1, x1, x2, x9, x23, x24, x25 => if x25 < x24 then (if 0 ≤ x25 then (if x25 < (x23.length : Int) then (power_Sunny.l0 k x1 x2 (wrap64 (x9 + (mx 0 (wrap64 ((mn ((rd_T53 x23 x25).f1) x2) - (mx ((rd_T53 x23 x25).f0) x1)))))) x23 x24 (wrap64 (x25 + 1))) else (none)) else (none)) else (some (x9, 0))
def power_Sunny.f (k : Nat) (l0 : List (S53)) (a1 : Int) (a2 : Int) : Option (Int × Int) := (power_CheckSun.f k l0).bind fun t101 => ((kit_Range.f a1 0 1000000000000).bind fun t102 => ((kit_Range.f a2 0 1000000000000).bind fun t103 => ((kit_First.f k (([t101, t102, t103] : List Int))).bind fun t107 => (if t107 = 0 then (power_Sunny.l0 k a1 a2 0 l0 (l0.length : Int) 0) else (some (0, t107))))))
theorem d18a {p : Prop} (h : p := by (try simp only [List.map_toArray, List.map_cons, List.map_nil]); first | done | rfl | (simp only [List.length_drop, List.length_take]; rfl)) : p := h
theorem d18b {p : Prop} (h : p := by repeat (first | (with_reducible first | exact HB.out | apply below_alloc | apply pw_below_drewN | apply below_drew1) | exact HB.out)) : p := h
set_option maxHeartbeats 8000000 in
set_option maxRecDepth 100000 in
theorem power_Sunny.calls (k : Nat) (A0 : Option Addr) (c0 : Nat) (l0 : List (S53)) (a1 : Int) (a2 : Int) (r1 : Int) (r2 : Int) (w : World) (hr0 : Kd.C k53 w A0 l0.length l0) (hc0 : l0.length ≤ c0) (h : power_Sunny.f k l0 a1 a2 = some (r1, r2)) :
 Calls Tryd.prog 18 #[.slice A0 l0.length c0, .int .i64 a1, .int .i64 a2] w fun e w' => e = .returned (.tuple #[.int .i64 r1, .int .i64 r2]) ∧ Below w.heap.size w w' := by
 have hu53 := Tryd.underlying53
 have HR0 := Aside0.mk hr0
 have HC0 := Aside0.mk hc0
 clear hr0 hc0
 have HB := Aside0.mk (Below.refl w.heap.size w)
 have H : ((power_CheckSun.f k l0).bind fun t101 => ((kit_Range.f a1 0 1000000000000).bind fun t102 => ((kit_Range.f a2 0 1000000000000).bind fun t103 => ((kit_First.f k (([t101, t102, t103] : List Int))).bind fun t107 => (if t107 = 0 then (power_Sunny.l0 k a1 a2 0 l0 (l0.length : Int) 0) else (some (0, t107))))))) = some (r1, r2) := h
 clear h
 replace H := bindS H; obtain ⟨t101, A4, H⟩ := H
 replace H := bindS H; obtain ⟨t102, A5, H⟩ := H
 replace H := bindS H; obtain ⟨t103, A6, H⟩ := H
 obtain ⟨y104, hy104⟩ : ∃ y_ : List Int, y_ = (([t101, t102, t103] : List Int)) := ⟨_, rfl⟩
 replace H : ((kit_First.f k y104).bind fun t107 => (if t107 = 0 then (power_Sunny.l0 k a1 a2 0 l0 (l0.length : Int) 0) else (some (0, t107)))) = some (r1, r2) := by first | (rw [hy104]; with_reducible exact H) | (have H2_ := (Option.bind_some _ _).symm.trans H; rw [hy104]; with_reducible exact H2_) | (have H2_ := (Option.bind_some _ _).symm.trans H; with_reducible exact H2_) | with_reducible exact H | (rw [hy104]; exact H) | exact H
 have Ny104 := Aside0.mk hy104
 clear hy104
 replace H := bindS H; obtain ⟨t107, A7, H⟩ := H
 by_cases c8 : t107 = 0
 · rw [if_pos c8] at H
   have c8b0 : (t107 == 0) = true := beq_iff_eq.mpr c8
   have c8b1 : (t107 != 0) = false := bne_eq_false_iff_eq.mpr c8
   clear c8
   have H' := Aside0.mk H
   clear H
   go_enter Tryd.func18, Tryd.ntmps18
   go_wp2_with (first | ((with_reducible refine gate_callee (f := 38) rfl ?_); refine goesL_ (some 13) rfl rfl Tryd.func38 (by kernel_rfl) rfl #[.slice A0 l0.length c0] rfl d18a ?_; (with_reducible refine (power_CheckSun.calls k _ _ l0 t101 _ ?side1 ?side2 A4.out).mono ?_); (case side1 => exact C_go HR0.out); (case side2 => exact HC0.out); rintro e w9 ⟨rfl, hb⟩; refine ⟨_, rfl, ?_⟩; replace HB := Aside0.mk (below_step d18b hb); (try clear hb)) | ((with_reducible refine gate_callee (f := 39) rfl ?_); refine goesL_ (some 15) rfl rfl Tryd.func39 (by kernel_rfl) rfl #[.int .i64 a1, .int .i64 0, .int .i64 1000000000000] rfl d18a ?_; (with_reducible refine (kit_Range.calls a1 0 1000000000000 t102 _ A5.out).mono ?_); rintro e w' ⟨rfl, ⟨nd, rfl⟩⟩; refine ⟨_, rfl, ?_⟩) | ((with_reducible refine gate_callee (f := 39) rfl ?_); refine goesL_ (some 17) rfl rfl Tryd.func39 (by kernel_rfl) rfl #[.int .i64 a2, .int .i64 0, .int .i64 1000000000000] rfl d18a ?_; (with_reducible refine (kit_Range.calls a2 0 1000000000000 t103 _ A6.out).mono ?_); rintro e w' ⟨rfl, ⟨nd, rfl⟩⟩; refine ⟨_, rfl, ?_⟩) | ((with_reducible refine gate_dst (N := 18) rfl ?_); refine Kd.R_lit (Kd.int .i64) _ 24 ?hg (N := 18) ?hd (xs := ([t101, t102, t103] : List Int)) (inner := [.int .i64 t101, .int .i64 t102, .int .i64 t103]) (ok := fun _ => True) (okp := fun _ => True) ?hr ?hp (fun _ hk => hk) trivial (Below.refl _ _) (Nat.le_refl _) (by simp) ?_; (case hd => rfl); (case hg => rfl); (case hr => first | (go_simp; done) | (go_simp; rfl)); (case hp => exact (Reps.one (show Kd.M (Kd.int .i64) _ _ _ t101 [.int .i64 t101] from rfl) (Reps.one (show Kd.M (Kd.int .i64) _ _ _ t102 [.int .i64 t102] from rfl) (Reps.one (show Kd.M (Kd.int .i64) _ _ _ t103 [.int .i64 t103] from rfl) (Reps.none _ _))))); intro v105 w10 ho11 hb hg_ hnew_; clear hg_ hnew_; (first | rw [← Ny104.out] at ho11 | (simp only [Int.reduceToNat] at ho11; rw [← Ny104.out] at ho11)); have n0_ := Aside0.mk (Kd.R_lower ho11 (below_size d18b)); have n1_ := Aside0.mk (below_step d18b hb); clear HB; have HO106 := n0_; have HB := n1_; clear n0_ n1_; clear hb ho11; obtain ⟨Ao12, co12, eo12⟩ := Kd.R_slice HO106.out; subst eo12) | ((with_reducible refine gate_callee (f := 37) rfl ?_); refine goesL_ (some 19) rfl rfl Tryd.func37 (by kernel_rfl) rfl #[.slice Ao12 y104.length co12] rfl d18a ?_; (with_reducible refine (kit_First.calls k _ _ y104 t107 _ ?side1 ?side2 A7.out).mono ?_); (case side1 => exact C_go (Kd.R_reads' HO106.out).2.2); (case side2 => exact (Kd.R_reads' HO106.out).2.1); rintro e w' ⟨rfl, ⟨nd, rfl⟩⟩; refine ⟨_, rfl, ?_⟩))
   go_loopg [9, 25] k (fun kq v9 v25 w' => ∃ (x9_1 : Int) (x25_1 : Int), v9 = .int .i64 x9_1 ∧ v25 = .int .i64 x25_1 ∧ Aside0 (power_Sunny.l0 kq a1 a2 x9_1 l0 (l0.length : Int) x25_1 = some (r1, r2)) ∧ Aside0 (kq ≤ k) ∧ Aside0 (Below w.heap.size w w'))
   case atStart => exact ⟨(0), (0), (by first | rfl | (simp; done) | (simp [*]; done)), (by first | rfl | (simp; done) | (simp [*]; done)), H', ⟨Nat.le_refl _⟩, ⟨d18b⟩⟩
   case round =>
    clear H'
    try clear c8b0
    try clear c8b1
    obtain ⟨x9_1, x25_1, rfl, rfl, HA, HK1, HB⟩ := hrel
    cases gk with
    | zero => exact absurd HA.out (by simp [power_Sunny.l0])
    | succ k1 =>
     have H := HA.out
     clear HA
     simp only [power_Sunny.l0] at H
     by_cases c13 : x25_1 < (l0.length : Int)
     · rw [if_pos c13] at H
       have c13b0 : decide (x25_1 < (l0.length : Int)) = true := decide_eq_true c13
       clear c13
       replace H := guardT H; obtain ⟨c14, H⟩ := H
       have c14b0 : decide (0 ≤ x25_1) = true := decide_eq_true c14
       clear c14
       replace H := guardT H; obtain ⟨c15, H⟩ := H
       have c15b0 : decide (x25_1 < (l0.length : Int)) = true := decide_eq_true c15
       clear c15
       obtain ⟨ji16, hji16⟩ : ∃ j_ : Int, (mn ((rd_T53 l0 x25_1).f1) a2) = j_ := ⟨_, rfl⟩
       replace H : (power_Sunny.l0 k1 a1 a2 (wrap64 (x9_1 + (mx 0 (wrap64 ((ji16) - (mx ((rd_T53 l0 x25_1).f0) a1)))))) l0 (l0.length : Int) (wrap64 (x25_1 + 1))) = some (r1, r2) := by first | (rw [hji16] at H; exact H) | (simp only [hji16] at H ⊢; exact H)
       have hji16_ : (if a2 < ((rd_T53 l0 x25_1).f1) then a2 else ((rd_T53 l0 x25_1).f1)) = ji16 := hji16
       obtain ⟨ji17, hji17⟩ : ∃ j_ : Int, (mx ((rd_T53 l0 x25_1).f0) a1) = j_ := ⟨_, rfl⟩
       replace H : (power_Sunny.l0 k1 a1 a2 (wrap64 (x9_1 + (mx 0 (wrap64 ((ji16) - (ji17)))))) l0 (l0.length : Int) (wrap64 (x25_1 + 1))) = some (r1, r2) := by first | (rw [hji17] at H; exact H) | (simp only [hji17] at H ⊢; exact H)
       have hji17_ : (if ((rd_T53 l0 x25_1).f0) < a1 then a1 else ((rd_T53 l0 x25_1).f0)) = ji17 := hji17
       obtain ⟨ji18, hji18⟩ : ∃ j_ : Int, (mx 0 (wrap64 ((ji16) - (ji17)))) = j_ := ⟨_, rfl⟩
       replace H : (power_Sunny.l0 k1 a1 a2 (wrap64 (x9_1 + (ji18))) l0 (l0.length : Int) (wrap64 (x25_1 + 1))) = some (r1, r2) := by first | (rw [hji18] at H; exact H) | (simp only [hji18] at H ⊢; exact H)
       have hji18_ : (if 0 < (wrap64 ((ji16) - (ji17))) then (wrap64 ((ji16) - (ji17))) else 0) = ji18 := hji18
       have H' := Aside0.mk H
       clear H
       have p108 : 0 ≤ (x25_1 : Int) := of_decide_eq_true (by first | (with_reducible assumption) | assumption)
       have q108 : x25_1 < (l0.length : Int) := of_decide_eq_true (by first | (with_reducible assumption) | assumption)
       obtain ⟨ad108, e108, hx108_0, hx108_1⟩ := at_T53 HR0.out x25_1 p108 q108
       cases e108
       replace hx108_0 := cellB HB.out hx108_0
       replace hx108_1 := cellB HB.out hx108_1
       replace p108 := eq_true p108
       replace q108 := eq_true q108
       go_wp2_with ((with_reducible refine gate_dst (N := 11) rfl ?_); refine box_event ?hg (N := 11) ?hd (cs := #[.int .i64 0, .int .i64 0]) (t := 53) ?hr ?_; (case hd => rfl); (case hg => rfl); (case hr => first | (go_simp; done) | (go_simp; rfl)); intro gb109 hg w19 hbox hb; have n0_ := Aside0.mk (below_step d18b hb); have n1_ := Aside0.mk (hbox); have n2_ := Aside0.mk ((by rw [hg]; exact (below_size d18b) : w.heap.size ≤ gb109)); have n3_ := Aside0.mk ((by rw [hg]; exact (below_size d18b) : w.heap.size ≤ gb109)); clear HB; have HB := n0_; have BK109 := n1_; have GW109 := n2_; have GE109 := n3_; clear n0_ n1_ n2_ n3_; clear hb hbox hg; have hcz20_0 : w19.cell? ⟨gb109, 0, none⟩ = some (.int .i64 0) := (blk_cell BK109.out 0).trans rfl; have hcz20_1 : w19.cell? ⟨gb109, 1, none⟩ = some (.int .i64 0) := (blk_cell BK109.out 1).trans rfl; have hfz20_0 := blk_frozen BK109.out 0; have hfz20_1 := blk_frozen BK109.out 1)
       go_roundg k1
       case measure => have := HK1.out; omega
       case rel => exact ⟨(wrap64 (x9_1 + (ji18))), (wrap64 (x25_1 + 1)), (by first | rfl | (simp; done) | (simp only [← hji18] <;> (first | rfl | simp)) | (simp [*]; done)), (by first | rfl | (simp; done) | (simp [*]; done)), H', ⟨by have := HK1.out; omega⟩, ⟨by repeat (first | (with_reducible first | exact HB.out | apply below_alloc | apply pw_below_drewN | apply below_drew1 | refine below_set ?_ GE109.out) | exact HB.out)⟩⟩
     · rw [if_neg c13] at H
       have c13b0 : decide (x25_1 < (l0.length : Int)) = false := decide_eq_false c13
       clear c13
       simp only [Option.some.injEq, Prod.mk.injEq] at H
       obtain ⟨rfl, rfl⟩ := H
       go_wp2
       go_ret2
       exact ⟨by first | rfl | (simp [errW_none, errW_some] <;> rfl) | (simp [*, errW_none, errW_some] <;> rfl), d18b⟩
 · rw [if_neg c8] at H
   have c8b0 : (t107 == 0) = false := beq_eq_false_iff_ne.mpr c8
   have c8b1 : (t107 != 0) = true := bne_iff_ne.mpr c8
   simp only [Option.some.injEq, Prod.mk.injEq] at H
   obtain ⟨rfl, rfl⟩ := H
   go_enter Tryd.func18, Tryd.ntmps18
   go_wp2_with (first | ((with_reducible refine gate_callee (f := 38) rfl ?_); refine goesL_ (some 13) rfl rfl Tryd.func38 (by kernel_rfl) rfl #[.slice A0 l0.length c0] rfl d18a ?_; (with_reducible refine (power_CheckSun.calls k _ _ l0 t101 _ ?side1 ?side2 A4.out).mono ?_); (case side1 => exact C_go HR0.out); (case side2 => exact HC0.out); rintro e w21 ⟨rfl, hb⟩; refine ⟨_, rfl, ?_⟩; replace HB := Aside0.mk (below_step d18b hb); (try clear hb)) | ((with_reducible refine gate_callee (f := 39) rfl ?_); refine goesL_ (some 15) rfl rfl Tryd.func39 (by kernel_rfl) rfl #[.int .i64 a1, .int .i64 0, .int .i64 1000000000000] rfl d18a ?_; (with_reducible refine (kit_Range.calls a1 0 1000000000000 t102 _ A5.out).mono ?_); rintro e w' ⟨rfl, ⟨nd, rfl⟩⟩; refine ⟨_, rfl, ?_⟩) | ((with_reducible refine gate_callee (f := 39) rfl ?_); refine goesL_ (some 17) rfl rfl Tryd.func39 (by kernel_rfl) rfl #[.int .i64 a2, .int .i64 0, .int .i64 1000000000000] rfl d18a ?_; (with_reducible refine (kit_Range.calls a2 0 1000000000000 t103 _ A6.out).mono ?_); rintro e w' ⟨rfl, ⟨nd, rfl⟩⟩; refine ⟨_, rfl, ?_⟩) | ((with_reducible refine gate_dst (N := 18) rfl ?_); refine Kd.R_lit (Kd.int .i64) _ 24 ?hg (N := 18) ?hd (xs := ([t101, t102, t103] : List Int)) (inner := [.int .i64 t101, .int .i64 t102, .int .i64 t103]) (ok := fun _ => True) (okp := fun _ => True) ?hr ?hp (fun _ hk => hk) trivial (Below.refl _ _) (Nat.le_refl _) (by simp) ?_; (case hd => rfl); (case hg => rfl); (case hr => first | (go_simp; done) | (go_simp; rfl)); (case hp => exact (Reps.one (show Kd.M (Kd.int .i64) _ _ _ t101 [.int .i64 t101] from rfl) (Reps.one (show Kd.M (Kd.int .i64) _ _ _ t102 [.int .i64 t102] from rfl) (Reps.one (show Kd.M (Kd.int .i64) _ _ _ t103 [.int .i64 t103] from rfl) (Reps.none _ _))))); intro v105 w22 ho23 hb hg_ hnew_; clear hg_ hnew_; (first | rw [← Ny104.out] at ho23 | (simp only [Int.reduceToNat] at ho23; rw [← Ny104.out] at ho23)); have n0_ := Aside0.mk (Kd.R_lower ho23 (below_size d18b)); have n1_ := Aside0.mk (below_step d18b hb); clear HB; have HO106 := n0_; have HB := n1_; clear n0_ n1_; clear hb ho23; obtain ⟨Ao24, co24, eo24⟩ := Kd.R_slice HO106.out; subst eo24) | ((with_reducible refine gate_callee (f := 37) rfl ?_); refine goesL_ (some 19) rfl rfl Tryd.func37 (by kernel_rfl) rfl #[.slice Ao24 y104.length co24] rfl d18a ?_; (with_reducible refine (kit_First.calls k _ _ y104 t107 _ ?side1 ?side2 A7.out).mono ?_); (case side1 => exact C_go (Kd.R_reads' HO106.out).2.2); (case side2 => exact (Kd.R_reads' HO106.out).2.1); rintro e w' ⟨rfl, ⟨nd, rfl⟩⟩; refine ⟨_, rfl, ?_⟩))
   go_ret2
   exact ⟨by first | rfl | (simp [errW_none, errW_some] <;> rfl) | (simp [*, errW_none, errW_some] <;> rfl), d18b⟩
def perigeelaw9_awake.f (k : Nat)  : Option (Bool) := (power_Sunny.f k (([(⟨2, 5⟩ : S53)] : List (S53))) 0 4).bind fun bt104 => (if bt104.2 = 0 then (some (bt104.1 == 2)) else (some false))
theorem d7a {p : Prop} (h : p := by repeat (first | (with_reducible first | exact HB.out | apply below_alloc | apply pw_below_drewN | apply below_drew1) | exact HB.out)) : p := h
set_option maxHeartbeats 8000000 in
set_option maxRecDepth 100000 in
theorem perigeelaw9_awake.calls (k : Nat)  (r : Bool) (w : World) (h : perigeelaw9_awake.f k  = some r) :
 Calls Tryd.prog 7 #[] w fun e w' => e = .returned (.bool r) ∧ Below w.heap.size w w' := by
 have hu53 := Tryd.underlying53
 have HB := Aside0.mk (Below.refl w.heap.size w)
 have H : ((power_Sunny.f k (([(⟨2, 5⟩ : S53)] : List (S53))) 0 4).bind fun bt104 => (if bt104.2 = 0 then (some (bt104.1 == 2)) else (some false))) = some r := h
 clear h
 obtain ⟨y101, hy101⟩ : ∃ y_ : List (S53), y_ = (([(⟨2, 5⟩ : S53)] : List (S53))) := ⟨_, rfl⟩
 replace H : ((power_Sunny.f k y101 0 4).bind fun bt104 => (if bt104.2 = 0 then (some (bt104.1 == 2)) else (some false))) = some r := by first | (rw [hy101]; with_reducible exact H) | (have H2_ := (Option.bind_some _ _).symm.trans H; rw [hy101]; with_reducible exact H2_) | (have H2_ := (Option.bind_some _ _).symm.trans H; with_reducible exact H2_) | with_reducible exact H | (rw [hy101]; exact H) | exact H
 have Ny101 := Aside0.mk hy101
 clear hy101
 replace H := bindS H; obtain ⟨⟨t104, t105⟩, A1, H⟩ := H
 by_cases c2 : t105 = 0
 · rw [if_pos c2] at H
   have c2b0 : (t105 == 0) = true := beq_iff_eq.mpr c2
   have c2b1 : (t105 != 0) = false := bne_eq_false_iff_eq.mpr c2
   clear c2
   obtain rfl := Option.some.inj H
   go_enter Tryd.func7, Tryd.ntmps7
   go_wp2_with (first | ((with_reducible refine gate_dst (N := 5) rfl ?_); refine Kd.R_lit k53 _ 53 ?hg (N := 5) ?hd (xs := ([(⟨2, 5⟩ : S53)] : List (S53))) (inner := [.int .i64 2, .int .i64 5]) (ok := fun _ => True) (okp := fun _ => True) ?hr ?hp (fun _ hk => hk) trivial (Below.refl _ _) (Nat.le_refl _) (by simp) ?_; (case hd => rfl); (case hg => rfl); (case hr => first | (go_simp; done) | (go_simp; rfl)); (case hp => exact (Reps.c2 (show Kd.M k53 _ _ _ (⟨2, 5⟩ : S53) [.int .i64 2, .int .i64 5] from (k53_mkM _ _ _ (⟨2, 5⟩ : S53) )) (Reps.none _ _))); intro v102 w3 ho4 hb hg_ hnew_; clear hg_ hnew_; (first | rw [← Ny101.out] at ho4 | (simp only [Int.reduceToNat] at ho4; rw [← Ny101.out] at ho4)); have n0_ := Aside0.mk (Kd.R_lower ho4 (below_size d7a)); have n1_ := Aside0.mk (below_step d7a hb); clear HB; have HO103 := n0_; have HB := n1_; clear n0_ n1_; clear hb ho4; obtain ⟨Ao5, co5, eo5⟩ := Kd.R_slice HO103.out; subst eo5) | ((with_reducible refine gate_callee (f := 18) rfl ?_); refine goesL_ (some 6) rfl rfl Tryd.func18 (by kernel_rfl) rfl #[.slice Ao5 y101.length co5, .int .i64 0, .int .i64 4] rfl (by (try simp only [List.map_toArray, List.map_cons, List.map_nil]); first | done | rfl | (simp only [List.length_drop, List.length_take]; rfl)) ?_; (with_reducible refine (power_Sunny.calls k _ _ y101 0 4 t104 t105 _ ?side1 ?side2 A1.out).mono ?_); (case side1 => exact C_go (Kd.R_reads' HO103.out).2.2); (case side2 => exact (Kd.R_reads' HO103.out).2.1); rintro e w6 ⟨rfl, hb⟩; refine ⟨_, rfl, ?_⟩; have n0_ := Aside0.mk (Kd.R_below (by (with_reducible repeat (first | apply Kd.R_alloc | apply Kd.R_drewN | apply Kd.R_drew)); exact HO103.out) hb); have n1_ := Aside0.mk (below_step d7a hb); clear HO103; clear HB; have HO103 := n0_; have HB := n1_; clear n0_ n1_; (try clear hb)))
   go_ret
   exact ⟨by first | rfl | (simp [errW_none, errW_some] <;> rfl) | (simp [*, errW_none, errW_some] <;> rfl), d7a⟩
 · rw [if_neg c2] at H
   have c2b0 : (t105 == 0) = false := beq_eq_false_iff_ne.mpr c2
   have c2b1 : (t105 != 0) = true := bne_iff_ne.mpr c2
   obtain rfl := Option.some.inj H
   go_enter Tryd.func7, Tryd.ntmps7
   go_wp2_with (first | ((with_reducible refine gate_dst (N := 5) rfl ?_); refine Kd.R_lit k53 _ 53 ?hg (N := 5) ?hd (xs := ([(⟨2, 5⟩ : S53)] : List (S53))) (inner := [.int .i64 2, .int .i64 5]) (ok := fun _ => True) (okp := fun _ => True) ?hr ?hp (fun _ hk => hk) trivial (Below.refl _ _) (Nat.le_refl _) (by simp) ?_; (case hd => rfl); (case hg => rfl); (case hr => first | (go_simp; done) | (go_simp; rfl)); (case hp => exact (Reps.c2 (show Kd.M k53 _ _ _ (⟨2, 5⟩ : S53) [.int .i64 2, .int .i64 5] from (k53_mkM _ _ _ (⟨2, 5⟩ : S53) )) (Reps.none _ _))); intro v102 w7 ho8 hb hg_ hnew_; clear hg_ hnew_; (first | rw [← Ny101.out] at ho8 | (simp only [Int.reduceToNat] at ho8; rw [← Ny101.out] at ho8)); have n0_ := Aside0.mk (Kd.R_lower ho8 (below_size d7a)); have n1_ := Aside0.mk (below_step d7a hb); clear HB; have HO103 := n0_; have HB := n1_; clear n0_ n1_; clear hb ho8; obtain ⟨Ao9, co9, eo9⟩ := Kd.R_slice HO103.out; subst eo9) | ((with_reducible refine gate_callee (f := 18) rfl ?_); refine goesL_ (some 6) rfl rfl Tryd.func18 (by kernel_rfl) rfl #[.slice Ao9 y101.length co9, .int .i64 0, .int .i64 4] rfl (by (try simp only [List.map_toArray, List.map_cons, List.map_nil]); first | done | rfl | (simp only [List.length_drop, List.length_take]; rfl)) ?_; (with_reducible refine (power_Sunny.calls k _ _ y101 0 4 t104 t105 _ ?side1 ?side2 A1.out).mono ?_); (case side1 => exact C_go (Kd.R_reads' HO103.out).2.2); (case side2 => exact (Kd.R_reads' HO103.out).2.1); rintro e w10 ⟨rfl, hb⟩; refine ⟨_, rfl, ?_⟩; have n0_ := Aside0.mk (Kd.R_below (by (with_reducible repeat (first | apply Kd.R_alloc | apply Kd.R_drewN | apply Kd.R_drew)); exact HO103.out) hb); have n1_ := Aside0.mk (below_step d7a hb); clear HO103; clear HB; have HO103 := n0_; have HB := n1_; clear n0_ n1_; (try clear hb)))
   go_ret
   exact ⟨by first | rfl | (simp [errW_none, errW_some] <;> rfl) | (simp [*, errW_none, errW_some] <;> rfl), d7a⟩
mutual
def telemetry_Word.j0 : Nat → ByteArray → Bool → Option (Bool)
  | 0, _, _ => none
  | k + 1, x0, x11 => if x11 = true then (some false) else (telemetry_Word.l0 k x0 (x0.size : Int) 0)
def telemetry_Word.l0 : Nat → ByteArray → Int → Int → Option (Bool)
  | 0, _, _, _ => none
  | k + 1, x0, x13, x14 => if x14 < x13 then (if 0 ≤ x14 then (if x14 < (x0.size : Int) then (if (bt x0 x14) < 97 then (if x14 = 0 then (some false) else (if (bt x0 x14) = 95 then (telemetry_Word.l0 k x0 x13 (wrap64 (x14 + 1))) else (if (bt x0 x14) < 48 then (some false) else (if (bt x0 x14) > 57 then (some false) else (telemetry_Word.l0 k x0 x13 (wrap64 (x14 + 1))))))) else (if (bt x0 x14) > 122 then (if x14 = 0 then (some false) else (if (bt x0 x14) = 95 then (telemetry_Word.l0 k x0 x13 (wrap64 (x14 + 1))) else (if (bt x0 x14) < 48 then (some false) else (if (bt x0 x14) > 57 then (some false) else (telemetry_Word.l0 k x0 x13 (wrap64 (x14 + 1))))))) else (telemetry_Word.l0 k x0 x13 (wrap64 (x14 + 1))))) else (none)) else (none)) else (some true)
end
def telemetry_Word.f (k : Nat) (a0 : ByteArray) : Option (Bool) := if a0.toList = ([] : List UInt8) then (telemetry_Word.j0 k a0 true) else (telemetry_Word.j0 k a0 (decide ((a0.size : Int) > 40)))
theorem d45a {p : Prop} (h : p := by repeat (first | exact Drawn0.refl _ | apply Drawn0.step)) : p := h
theorem d45b {p : Prop} (h : p := by first | (with_reducible assumption) | assumption) : p := h
theorem d45c {p : Prop} (h : p := by first | rfl | (simp; done) | (simp [*]; done)) : p := h
set_option maxHeartbeats 8000000 in
set_option maxRecDepth 100000 in
theorem telemetry_Word.calls (k : Nat) (a0 : ByteArray) (r : Bool) (w : World) (h : telemetry_Word.f k a0 = some r) :
 Calls Tryd.prog 45 #[.string a0] w fun e w' => e = .returned (.bool r) ∧ Drawn0 w w' := by
 have H : (if a0.toList = ([] : List UInt8) then (telemetry_Word.j0 k a0 true) else (telemetry_Word.j0 k a0 (decide ((a0.size : Int) > 40)))) = some r := h
 clear h
 have HC2 := Aside0.mk H
 clear H
 go_enter Tryd.func45, Tryd.ntmps45
 go_upto_region 1 with (fail)
 go_cut [11] (fun v11 wc => ∃ (kq : Nat) (x11_1 : Bool), v11 = .bool x11_1 ∧ Aside0 (telemetry_Word.j0 kq a0 x11_1 = some r) ∧ Aside0 (kq ≤ k) ∧ Drawn0 w wc)
 case first =>
  have H := HC2.out
  clear HC2
  by_cases c3 : a0.toList = ([] : List UInt8)
  · rw [if_pos c3] at H
    have c3b0 : (a0.toList == ([] : List UInt8)) = true := beq_iff_eq.mpr c3
    have c3b1 : (a0.toList != ([] : List UInt8)) = false := bne_eq_false_iff_eq.mpr c3
    clear c3
    (first | rw [c3b0] | (simp only [i64_w, i32_w]; rw [c3b0]) | skip)
    have H' := Aside0.mk H
    clear H
    go_wp2
    go_meet
    case rel => exact ⟨_, (true), d45c, H', ⟨by first | omega | exact Nat.le_refl _⟩, d45a⟩
  · rw [if_neg c3] at H
    have c3b0 : (a0.toList == ([] : List UInt8)) = false := beq_eq_false_iff_ne.mpr c3
    have c3b1 : (a0.toList != ([] : List UInt8)) = true := bne_iff_ne.mpr c3
    (first | rw [c3b0] | (simp only [i64_w, i32_w]; rw [c3b0]) | skip)
    have H' := Aside0.mk H
    clear H
    go_wp2
    go_meet
    case rel => exact ⟨_, (decide ((a0.size : Int) > 40)), d45c, H', ⟨by first | omega | exact Nat.le_refl _⟩, d45a⟩
 case rest =>
  clear HC2
  obtain ⟨kq, x11_1, rfl, HA, HJ1, ⟨mc1, rfl⟩⟩ := hcut
  cases kq with
  | zero => exact absurd HA.out (by simp [telemetry_Word.j0])
  | succ kj1 =>
   have H := HA.out
   clear HA
   simp only [telemetry_Word.j0] at H
   by_cases c4 : x11_1 = true
   · subst c4
     replace H := iteT H
     obtain rfl := Option.some.inj H
     go_wp2
     go_ret
     exact ⟨d45c, d45a⟩
   · replace c4 := Bool.eq_false_iff.mpr c4
     subst c4
     replace H := iteF H
     have H' := Aside0.mk H
     clear H
     go_wp2
     go_loopg [14] kj1 (fun kq v14 w' => ∃ (x14_2 : Int), v14 = .int .i64 x14_2 ∧ Aside0 (telemetry_Word.l0 kq a0 (a0.size : Int) x14_2 = some r) ∧ Aside0 (kq ≤ kj1) ∧ Drawn0 w w')
     case atStart => exact ⟨(0), d45c, H', ⟨Nat.le_refl _⟩, d45a⟩
     case round =>
      clear H'
      obtain ⟨x14_2, rfl, HA, HK2, ⟨m2, rfl⟩⟩ := hrel
      cases gk with
      | zero => exact absurd HA.out (by simp [telemetry_Word.l0])
      | succ k2 =>
       have H := HA.out
       clear HA
       simp only [telemetry_Word.l0] at H
       by_cases c5 : x14_2 < (a0.size : Int)
       · rw [if_pos c5] at H
         have c5b0 : decide (x14_2 < (a0.size : Int)) = true := decide_eq_true c5
         clear c5
         replace H := guardT H; obtain ⟨c6, H⟩ := H
         have c6b0 : decide (0 ≤ x14_2) = true := decide_eq_true c6
         clear c6
         replace H := guardT H; obtain ⟨c7, H⟩ := H
         have c7b0 : decide (x14_2 < (a0.size : Int)) = true := decide_eq_true c7
         clear c7
         by_cases c9 : (bt a0 x14_2) < 97
         · rw [if_pos c9] at H
           have c9b0 : decide ((bt a0 x14_2) < 97) = true := decide_eq_true c9
           clear c9
           by_cases c10 : x14_2 = 0
           · rw [if_pos c10] at H
             have c10b0 : (x14_2 == 0) = true := beq_iff_eq.mpr c10
             have c10b1 : (x14_2 != 0) = false := bne_eq_false_iff_eq.mpr c10
             clear c10
             obtain rfl := Option.some.inj H
             have p8 : 0 ≤ (x14_2 : Int) := of_decide_eq_true d45b
             have q8 : x14_2 < (a0.size : Int) := of_decide_eq_true d45b
             have hx8 := bt_at a0 x14_2
             replace p8 := eq_true p8
             replace q8 := eq_true q8
             go_wp2
             go_ret
             exact ⟨d45c, d45a⟩
           · rw [if_neg c10] at H
             have c10b0 : (x14_2 == 0) = false := beq_eq_false_iff_ne.mpr c10
             have c10b1 : (x14_2 != 0) = true := bne_iff_ne.mpr c10
             by_cases c11 : (bt a0 x14_2) = 95
             · rw [if_pos c11] at H
               have c11b0 : ((bt a0 x14_2) == 95) = true := beq_iff_eq.mpr c11
               have c11b1 : ((bt a0 x14_2) != 95) = false := bne_eq_false_iff_eq.mpr c11
               clear c11
               have H' := Aside0.mk H
               clear H
               have p8 : 0 ≤ (x14_2 : Int) := of_decide_eq_true d45b
               have q8 : x14_2 < (a0.size : Int) := of_decide_eq_true d45b
               have hx8 := bt_at a0 x14_2
               replace p8 := eq_true p8
               replace q8 := eq_true q8
               go_wp2
               go_roundg k2
               case measure => have := HJ1.out; have := HK2.out; omega
               case rel => exact ⟨(wrap64 (x14_2 + 1)), d45c, H', ⟨by have := HJ1.out; have := HK2.out; omega⟩, d45a⟩
             · rw [if_neg c11] at H
               have c11b0 : ((bt a0 x14_2) == 95) = false := beq_eq_false_iff_ne.mpr c11
               have c11b1 : ((bt a0 x14_2) != 95) = true := bne_iff_ne.mpr c11
               by_cases c12 : (bt a0 x14_2) < 48
               · rw [if_pos c12] at H
                 have c12b0 : decide ((bt a0 x14_2) < 48) = true := decide_eq_true c12
                 clear c12
                 obtain rfl := Option.some.inj H
                 have p8 : 0 ≤ (x14_2 : Int) := of_decide_eq_true d45b
                 have q8 : x14_2 < (a0.size : Int) := of_decide_eq_true d45b
                 have hx8 := bt_at a0 x14_2
                 replace p8 := eq_true p8
                 replace q8 := eq_true q8
                 go_wp2
                 go_ret
                 exact ⟨d45c, d45a⟩
               · rw [if_neg c12] at H
                 have c12b0 : decide ((bt a0 x14_2) < 48) = false := decide_eq_false c12
                 clear c12
                 by_cases c13 : (bt a0 x14_2) > 57
                 · rw [if_pos c13] at H
                   have c13b0 : decide (57 < (bt a0 x14_2)) = true := decide_eq_true c13
                   clear c13
                   obtain rfl := Option.some.inj H
                   have p8 : 0 ≤ (x14_2 : Int) := of_decide_eq_true d45b
                   have q8 : x14_2 < (a0.size : Int) := of_decide_eq_true d45b
                   have hx8 := bt_at a0 x14_2
                   replace p8 := eq_true p8
                   replace q8 := eq_true q8
                   go_wp2
                   go_ret
                   exact ⟨d45c, d45a⟩
                 · rw [if_neg c13] at H
                   have c13b0 : decide (57 < (bt a0 x14_2)) = false := decide_eq_false c13
                   clear c13
                   have H' := Aside0.mk H
                   clear H
                   have p8 : 0 ≤ (x14_2 : Int) := of_decide_eq_true d45b
                   have q8 : x14_2 < (a0.size : Int) := of_decide_eq_true d45b
                   have hx8 := bt_at a0 x14_2
                   replace p8 := eq_true p8
                   replace q8 := eq_true q8
                   go_wp2
                   go_roundg k2
                   case measure => have := HJ1.out; have := HK2.out; omega
                   case rel => exact ⟨(wrap64 (x14_2 + 1)), d45c, H', ⟨by have := HJ1.out; have := HK2.out; omega⟩, d45a⟩
         · rw [if_neg c9] at H
           have c9b0 : decide ((bt a0 x14_2) < 97) = false := decide_eq_false c9
           clear c9
           by_cases c14 : (bt a0 x14_2) > 122
           · rw [if_pos c14] at H
             have c14b0 : decide (122 < (bt a0 x14_2)) = true := decide_eq_true c14
             clear c14
             by_cases c15 : x14_2 = 0
             · rw [if_pos c15] at H
               have c15b0 : (x14_2 == 0) = true := beq_iff_eq.mpr c15
               have c15b1 : (x14_2 != 0) = false := bne_eq_false_iff_eq.mpr c15
               clear c15
               obtain rfl := Option.some.inj H
               have p8 : 0 ≤ (x14_2 : Int) := of_decide_eq_true d45b
               have q8 : x14_2 < (a0.size : Int) := of_decide_eq_true d45b
               have hx8 := bt_at a0 x14_2
               replace p8 := eq_true p8
               replace q8 := eq_true q8
               go_wp2
               go_ret
               exact ⟨d45c, d45a⟩
             · rw [if_neg c15] at H
               have c15b0 : (x14_2 == 0) = false := beq_eq_false_iff_ne.mpr c15
               have c15b1 : (x14_2 != 0) = true := bne_iff_ne.mpr c15
               by_cases c16 : (bt a0 x14_2) = 95
               · rw [if_pos c16] at H
                 have c16b0 : ((bt a0 x14_2) == 95) = true := beq_iff_eq.mpr c16
                 have c16b1 : ((bt a0 x14_2) != 95) = false := bne_eq_false_iff_eq.mpr c16
                 clear c16
                 have H' := Aside0.mk H
                 clear H
                 have p8 : 0 ≤ (x14_2 : Int) := of_decide_eq_true d45b
                 have q8 : x14_2 < (a0.size : Int) := of_decide_eq_true d45b
                 have hx8 := bt_at a0 x14_2
                 replace p8 := eq_true p8
                 replace q8 := eq_true q8
                 go_wp2
                 go_roundg k2
                 case measure => have := HJ1.out; have := HK2.out; omega
                 case rel => exact ⟨(wrap64 (x14_2 + 1)), d45c, H', ⟨by have := HJ1.out; have := HK2.out; omega⟩, d45a⟩
               · rw [if_neg c16] at H
                 have c16b0 : ((bt a0 x14_2) == 95) = false := beq_eq_false_iff_ne.mpr c16
                 have c16b1 : ((bt a0 x14_2) != 95) = true := bne_iff_ne.mpr c16
                 by_cases c17 : (bt a0 x14_2) < 48
                 · rw [if_pos c17] at H
                   have c17b0 : decide ((bt a0 x14_2) < 48) = true := decide_eq_true c17
                   clear c17
                   obtain rfl := Option.some.inj H
                   have p8 : 0 ≤ (x14_2 : Int) := of_decide_eq_true d45b
                   have q8 : x14_2 < (a0.size : Int) := of_decide_eq_true d45b
                   have hx8 := bt_at a0 x14_2
                   replace p8 := eq_true p8
                   replace q8 := eq_true q8
                   go_wp2
                   go_ret
                   exact ⟨d45c, d45a⟩
                 · rw [if_neg c17] at H
                   have c17b0 : decide ((bt a0 x14_2) < 48) = false := decide_eq_false c17
                   clear c17
                   by_cases c18 : (bt a0 x14_2) > 57
                   · rw [if_pos c18] at H
                     have c18b0 : decide (57 < (bt a0 x14_2)) = true := decide_eq_true c18
                     clear c18
                     obtain rfl := Option.some.inj H
                     have p8 : 0 ≤ (x14_2 : Int) := of_decide_eq_true d45b
                     have q8 : x14_2 < (a0.size : Int) := of_decide_eq_true d45b
                     have hx8 := bt_at a0 x14_2
                     replace p8 := eq_true p8
                     replace q8 := eq_true q8
                     go_wp2
                     go_ret
                     exact ⟨d45c, d45a⟩
                   · rw [if_neg c18] at H
                     have c18b0 : decide (57 < (bt a0 x14_2)) = false := decide_eq_false c18
                     clear c18
                     have H' := Aside0.mk H
                     clear H
                     have p8 : 0 ≤ (x14_2 : Int) := of_decide_eq_true d45b
                     have q8 : x14_2 < (a0.size : Int) := of_decide_eq_true d45b
                     have hx8 := bt_at a0 x14_2
                     replace p8 := eq_true p8
                     replace q8 := eq_true q8
                     go_wp2
                     go_roundg k2
                     case measure => have := HJ1.out; have := HK2.out; omega
                     case rel => exact ⟨(wrap64 (x14_2 + 1)), d45c, H', ⟨by have := HJ1.out; have := HK2.out; omega⟩, d45a⟩
           · rw [if_neg c14] at H
             have c14b0 : decide (122 < (bt a0 x14_2)) = false := decide_eq_false c14
             clear c14
             have H' := Aside0.mk H
             clear H
             have p8 : 0 ≤ (x14_2 : Int) := of_decide_eq_true d45b
             have q8 : x14_2 < (a0.size : Int) := of_decide_eq_true d45b
             have hx8 := bt_at a0 x14_2
             replace p8 := eq_true p8
             replace q8 := eq_true q8
             go_wp2
             go_roundg k2
             case measure => have := HJ1.out; have := HK2.out; omega
             case rel => exact ⟨(wrap64 (x14_2 + 1)), d45c, H', ⟨by have := HJ1.out; have := HK2.out; omega⟩, d45a⟩
       · rw [if_neg c5] at H
         have c5b0 : decide (x14_2 < (a0.size : Int)) = false := decide_eq_false c5
         clear c5
         obtain rfl := Option.some.inj H
         go_wp2
         go_ret
         exact ⟨d45c, d45a⟩
end Go.Proofs.YtplcdpiggpkppaaDoor.Q
