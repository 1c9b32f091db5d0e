-- Made by wip/tools/claimp.py of this session's texts; Lean checks it.
import Derived.Test.YthmdnmfocnchkaaC1Q0
namespace Go.Proofs.Ythmdnmfocnchkaa.Q
open Go.RowKit Go.Proofs.YthmdnmfocnchkaaW.PrintWords Go.Proofs.YthmdnmfocnchkaaW.PrintLast Go.Proofs.YthmdnmfocnchkaaW.PrintMore
attribute [local go_sem] max2_int min2_int max_two min_two max_three min_three max_four min_four
open Go.Proofs.Ythmdnmfocnchkaa.Base
attribute [local go_sem high] str_leq str_gtr str_geq
set_option linter.unusedVariables false
set_option linter.unusedSimpArgs false
def kit_In.f (a0 : Int) (a1 : Int) (a2 : Int) : Option (Bool) := if a1 ≤ a0 then (some (decide (a0 ≤ a2))) else (some false)
set_option maxHeartbeats 8000000 in
set_option maxRecDepth 100000 in
theorem kit_In.calls (a0 : Int) (a1 : Int) (a2 : Int) (r : Bool) (w : World) (h : kit_In.f a0 a1 a2 = some r) :
 Calls Try.prog 35 #[.int .i64 a0, .int .i64 a1, .int .i64 a2] w fun e w' => e = .returned (.bool r) ∧ Drawn0 w w' := by
 have H : (if a1 ≤ a0 then (some (decide (a0 ≤ a2))) else (some false)) = some r := h
 clear h
 by_cases c4 : a1 ≤ a0
 · rw [if_pos c4] at H
   have c4b0 : decide (a1 ≤ a0) = true := decide_eq_true c4
   clear c4
   obtain rfl := Option.some.inj H
   go_enter Try.func35, Try.ntmps35
   go_wp2
   go_ret
   exact ⟨by first | rfl | (simp; done) | (simp [*]; done), by repeat (first | exact Drawn0.refl _ | apply Drawn0.step)⟩
 · rw [if_neg c4] at H
   have c4b0 : decide (a1 ≤ a0) = false := decide_eq_false c4
   clear c4
   obtain rfl := Option.some.inj H
   go_enter Try.func35, Try.ntmps35
   go_wp2
   go_ret
   exact ⟨by first | rfl | (simp; done) | (simp [*]; done), by repeat (first | exact Drawn0.refl _ | apply Drawn0.step)⟩
def command_checkBody.f (l0 : List Int) : Option (Int) := if (l0.length : Int) = 0 then (some 9) else (if (l0.length : Int) > 200 then (some 2) else (some 0))
theorem d68a {p : Prop} (h : p := by repeat (first | exact Drawn0.refl _ | apply Drawn0.step)) : p := h
set_option maxHeartbeats 8000000 in
set_option maxRecDepth 100000 in
theorem command_checkBody.calls (A0 : Option Addr) (c0 : Nat) (l0 : List Int) (r : Int) (w : World) (hr0 : Kd.C (Kd.int .u8) w A0 l0.length l0) (hc0 : l0.length ≤ c0) (h : command_checkBody.f l0 = some r) :
 Calls Try.prog 68 #[.slice A0 l0.length c0] w fun e w' => e = .returned (.int .i64 r) ∧ Drawn0 w w' := by
 have HR0 := Aside0.mk hr0
 have HC0 := Aside0.mk hc0
 clear hr0 hc0
 have H : (if (l0.length : Int) = 0 then (some 9) else (if (l0.length : Int) > 200 then (some 2) else (some 0))) = some r := h
 clear h
 by_cases c2 : (l0.length : Int) = 0
 · rw [if_pos c2] at H
   have c2b0 : ((l0.length : Int) == 0) = true := beq_iff_eq.mpr c2
   have c2b1 : ((l0.length : Int) != 0) = false := bne_eq_false_iff_eq.mpr c2
   clear c2
   obtain rfl := Option.some.inj H
   go_enter Try.func68, Try.ntmps68
   go_wp2
   go_ret
   exact ⟨by first | rfl | (simp; done) | (simp [*]; done), d68a⟩
 · rw [if_neg c2] at H
   have c2b0 : ((l0.length : Int) == 0) = false := beq_eq_false_iff_ne.mpr c2
   have c2b1 : ((l0.length : Int) != 0) = true := bne_iff_ne.mpr c2
   have c2b2 : ¬ (l0 = []) := fun h_ => c2 (by rw [h_]; rfl)
   by_cases c3 : (l0.length : Int) > 200
   · rw [if_pos c3] at H
     have c3b0 : decide (200 < (l0.length : Int)) = true := decide_eq_true c3
     have c3b1 : decide (200 < l0.length) = true := decide_eq_true (by omega)
     clear c3
     obtain rfl := Option.some.inj H
     go_enter Try.func68, Try.ntmps68
     go_wp2
     go_ret
     exact ⟨by first | rfl | (simp; done) | (simp [*]; done), d68a⟩
   · rw [if_neg c3] at H
     have c3b0 : decide (200 < (l0.length : Int)) = false := decide_eq_false c3
     have c3b1 : decide (200 < l0.length) = false := decide_eq_false (by omega)
     clear c3
     obtain rfl := Option.some.inj H
     go_enter Try.func68, Try.ntmps68
     go_wp2
     go_ret
     exact ⟨by first | rfl | (simp; done) | (simp [*]; done), d68a⟩
mutual
def command_checkOrder.j0 : Nat → Bool → Int → Int → List Int → Option (Int)
  | 0, _, _, _, _ => none
  | k + 1, x3, x102000, x102001, x102002 => (kit_In.f x102000 1 5).bind fun t102 => (if t102 = true then ((kit_In.f x102001 0 255).bind fun t103 => (if t103 = true then (if x3 = true then (command_checkOrder.j1 k false x102000 x102001 x102002) else (command_checkOrder.j1 k (x102001 != 0) x102000 x102001 x102002)) else (command_checkOrder.j1 k true x102000 x102001 x102002))) else (some 4))
def command_checkOrder.j1 : Nat → Bool → Int → Int → List Int → Option (Int)
  | 0, _, _, _, _ => none
  | k + 1, x17, x102000, x102001, x102002 => if x17 = true then (some 1) else (if x102000 = 1 then (command_checkOrder.j2 k true x102000 x102001 x102002) else (command_checkOrder.j2 k (x102000 == 2) x102000 x102001 x102002))
def command_checkOrder.j2 : Nat → Bool → Int → Int → List Int → Option (Int)
  | 0, _, _, _, _ => none
  | k + 1, x31, x102000, x102001, x102002 => if x31 = true then ((command_checkBody.f x102002).bind fun t104 => (some t104)) else (if (x102002.length : Int) > 0 then (some 3) else (some 0))
end
def command_checkOrder.f (k : Nat) (a0_0 : Int) (a0_1 : Int) (l0_2 : List Int) : Option (Int) := if a0_0 = 1 then (command_checkOrder.j0 k true a0_0 a0_1 l0_2) else (command_checkOrder.j0 k (a0_0 == 4) a0_0 a0_1 l0_2)
theorem d65a {p : Prop} (h : p := by repeat (first | (with_reducible first | exact HB.out | apply below_alloc | apply pw_below_drewN | apply below_drew1 | refine below_set ?_ GE101.out) | exact HB.out)) : p := h
theorem d65b {p : Prop} (h : p := by (try simp only [List.map_toArray, List.map_cons, List.map_nil]); first | done | rfl | (simp only [List.length_drop, List.length_take]; rfl)) : p := h
theorem d65c {p : Prop} (h : p := by repeat (first | (with_reducible first | exact HB.out | apply below_alloc | apply pw_below_drewN | apply below_drew1) | exact HB.out)) : p := h
theorem d65d {p : Prop} (h : p := by (with_reducible repeat (first | refine blk_drewN ?_ _ | refine blk_drew ?_ | refine blk_alloc ?_ _)); exact BK101.out) : p := h
theorem d65e {p : Prop} (h : p := by first | rfl | (simp [errW_none, errW_some] <;> rfl) | (simp [*, errW_none, errW_some] <;> rfl)) : p := h
theorem d65f {p : Prop} (h : p := by first | rfl | (simp; done) | (simp [*]; done)) : p := h
set_option maxHeartbeats 8000000 in
set_option maxRecDepth 100000 in
theorem command_checkOrder.calls (k : Nat) (a0_0 : Int) (a0_1 : Int) (A0_2 : Option Addr) (c0_2 : Nat) (l0_2 : List Int) (r : Int) (w : World) (hr0_2 : Kd.C (Kd.int .u8) w A0_2 l0_2.length l0_2) (hc0_2 : l0_2.length ≤ c0_2) (h : command_checkOrder.f k a0_0 a0_1 l0_2 = some r) :
 Calls Try.prog 65 #[.agg #[.int .i64 a0_0, .int .i64 a0_1, .slice A0_2 l0_2.length c0_2]] w fun e w' => e = .returned (.int .i64 r) ∧ Below w.heap.size w w' := by
 have hu67 := Try.underlying67
 have HR0_2 := Aside0.mk hr0_2
 have HC0_2 := Aside0.mk hc0_2
 clear hr0_2 hc0_2
 have HB := Aside0.mk (Below.refl w.heap.size w)
 have H : (if a0_0 = 1 then (command_checkOrder.j0 k true a0_0 a0_1 l0_2) else (command_checkOrder.j0 k (a0_0 == 4) a0_0 a0_1 l0_2)) = some r := h
 clear h
 have HC2 := Aside0.mk H
 clear H
 go_enter Try.func65, Try.ntmps65
 go_upto_region 1 with ((with_reducible refine gate_dst (N := 1) rfl ?_); refine box_event ?hg (N := 1) ?hd (cs := #[.int .i64 a0_0, .int .i64 a0_1, .slice A0_2 l0_2.length c0_2]) (t := 67) ?hr ?_; (case hd => rfl); (case hg => rfl); (case hr => first | (go_simp; done) | (go_simp; rfl)); intro gb101 hg w3 hbox hb; have n0_ := Aside0.mk (below_step d65c hb); have n1_ := Aside0.mk (hbox); have n2_ := Aside0.mk ((by rw [hg]; exact (below_size d65c) : w.heap.size ≤ gb101)); have n3_ := Aside0.mk ((by rw [hg]; exact (below_size d65c) : w.heap.size ≤ gb101)); clear HB; have HB := n0_; have BK101 := n1_; have GW101 := n2_; have GE101 := n3_; clear n0_ n1_ n2_ n3_; clear hb hbox hg)
 (try simp only [Act.put, List.setIfInBounds_toArray, List.set_cons_zero, List.set_cons_succ])
 go_cut [3] (fun v3 wc => ∃ (kq : Nat) (x3_1 : Bool), v3 = .bool x3_1 ∧ Aside0 (command_checkOrder.j0 kq x3_1 a0_0 a0_1 l0_2 = some r) ∧ Aside0 (kq ≤ k) ∧ Aside0 (wc.heap[gb101]? = some (.cells #[.int .i64 a0_0, .int .i64 a0_1, (.slice A0_2 l0_2.length c0_2)] 67 (0, 0))) ∧ Aside0 (Below w.heap.size w wc))
 case first =>
  have H := HC2.out
  clear HC2
  by_cases c4 : a0_0 = 1
  · rw [if_pos c4] at H
    have c4b0 : (a0_0 == 1) = true := beq_iff_eq.mpr c4
    have c4b1 : (a0_0 != 1) = false := bne_eq_false_iff_eq.mpr c4
    clear c4
    (first | rw [c4b0] | (simp only [i64_w, i32_w]; rw [c4b0]) | skip)
    have H' := Aside0.mk H
    clear H
    obtain ⟨hcz5_0, hcz5_1, hcz5_2⟩ := blkC3 BK101.out
    have hfz5_0 := blk_frozen BK101.out 0
    have hfz5_1 := blk_frozen BK101.out 1
    have hfz5_2 := blk_frozen BK101.out 2
    go_wp2
    go_meet
    case rel => exact ⟨_, (true), d65f, H', ⟨by first | omega | exact Nat.le_refl _⟩, ⟨d65d⟩, ⟨d65a⟩⟩
  · rw [if_neg c4] at H
    have c4b0 : (a0_0 == 1) = false := beq_eq_false_iff_ne.mpr c4
    have c4b1 : (a0_0 != 1) = true := bne_iff_ne.mpr c4
    (first | rw [c4b0] | (simp only [i64_w, i32_w]; rw [c4b0]) | skip)
    have H' := Aside0.mk H
    clear H
    obtain ⟨hcz6_0, hcz6_1, hcz6_2⟩ := blkC3 BK101.out
    have hfz6_0 := blk_frozen BK101.out 0
    have hfz6_1 := blk_frozen BK101.out 1
    have hfz6_2 := blk_frozen BK101.out 2
    go_wp2
    go_meet
    case rel => exact ⟨_, ((a0_0 == 4)), d65f, H', ⟨by first | omega | exact Nat.le_refl _⟩, ⟨d65d⟩, ⟨d65a⟩⟩
 case rest =>
  clear HC2
  obtain ⟨kq, x3_1, rfl, HA, HJ1, BK101, HB⟩ := hcut
  cases kq with
  | zero => exact absurd HA.out (by simp [command_checkOrder.j0])
  | succ kj1 =>
   have H := HA.out
   clear HA
   simp only [command_checkOrder.j0] at H
   replace H := bindS H; obtain ⟨t102, A7, H⟩ := H
   by_cases c8 : t102 = true
   · subst c8
     replace H := iteT H
     have HC9 := Aside0.mk H
     clear H
     obtain ⟨hcz10_0, hcz10_1, hcz10_2⟩ := blkC3 BK101.out
     have hfz10_0 := blk_frozen BK101.out 0
     have hfz10_1 := blk_frozen BK101.out 1
     have hfz10_2 := blk_frozen BK101.out 2
     go_upto_region 4 with ((with_reducible refine gate_callee (f := 35) rfl ?_); refine goesL_ (some 15) rfl rfl Try.func35 (by kernel_rfl) rfl #[.int .i64 a0_0, .int .i64 1, .int .i64 5] rfl d65b ?_; (with_reducible refine (kit_In.calls a0_0 1 5 true _ A7.out).mono ?_); rintro e w' ⟨rfl, ⟨nd, rfl⟩⟩; refine ⟨_, rfl, ?_⟩)
     (try simp only [Act.put, List.setIfInBounds_toArray, List.set_cons_zero, List.set_cons_succ])
     go_cut [17] (fun v17 wc => ∃ (kq : Nat) (x17_8 : Bool), v17 = .bool x17_8 ∧ Aside0 (command_checkOrder.j1 kq x17_8 a0_0 a0_1 l0_2 = some r) ∧ Aside0 (kq ≤ kj1) ∧ Aside0 (wc.heap[gb101]? = some (.cells #[.int .i64 a0_0, .int .i64 a0_1, (.slice A0_2 l0_2.length c0_2)] 67 (0, 0))) ∧ Aside0 (Below w.heap.size w wc))
     case first =>
      have H := HC9.out
      clear HC9
      replace H := bindS H; obtain ⟨t103, A11, H⟩ := H
      by_cases c12 : t103 = true
      · subst c12
        replace H := iteT H
        by_cases c13 : x3_1 = true
        · subst c13
          replace H := iteT H
          have H' := Aside0.mk H
          clear H
          obtain ⟨hcz14_0, hcz14_1, hcz14_2⟩ := blkC3 BK101.out
          have hfz14_0 := blk_frozen BK101.out 0
          have hfz14_1 := blk_frozen BK101.out 1
          have hfz14_2 := blk_frozen BK101.out 2
          go_wp2_with ((with_reducible refine gate_callee (f := 35) rfl ?_); refine goesL_ (some 20) rfl rfl Try.func35 (by kernel_rfl) rfl #[.int .i64 a0_1, .int .i64 0, .int .i64 255] rfl d65b ?_; (with_reducible refine (kit_In.calls a0_1 0 255 true _ A11.out).mono ?_); rintro e w' ⟨rfl, ⟨nd, rfl⟩⟩; refine ⟨_, rfl, ?_⟩)
          go_meet
          case rel => exact ⟨_, (false), d65f, H', ⟨by have := HJ1.out; first | omega | exact Nat.le_refl _⟩, ⟨d65d⟩, ⟨d65a⟩⟩
        · replace c13 := Bool.eq_false_iff.mpr c13
          subst c13
          replace H := iteF H
          have H' := Aside0.mk H
          clear H
          obtain ⟨hcz15_0, hcz15_1, hcz15_2⟩ := blkC3 BK101.out
          have hfz15_0 := blk_frozen BK101.out 0
          have hfz15_1 := blk_frozen BK101.out 1
          have hfz15_2 := blk_frozen BK101.out 2
          go_wp2_with ((with_reducible refine gate_callee (f := 35) rfl ?_); refine goesL_ (some 20) rfl rfl Try.func35 (by kernel_rfl) rfl #[.int .i64 a0_1, .int .i64 0, .int .i64 255] rfl d65b ?_; (with_reducible refine (kit_In.calls a0_1 0 255 true _ A11.out).mono ?_); rintro e w' ⟨rfl, ⟨nd, rfl⟩⟩; refine ⟨_, rfl, ?_⟩)
          go_meet
          case rel => exact ⟨_, ((a0_1 != 0)), d65f, H', ⟨by have := HJ1.out; first | omega | exact Nat.le_refl _⟩, ⟨d65d⟩, ⟨d65a⟩⟩
      · replace c12 := Bool.eq_false_iff.mpr c12
        subst c12
        replace H := iteF H
        have H' := Aside0.mk H
        clear H
        obtain ⟨hcz16_0, hcz16_1, hcz16_2⟩ := blkC3 BK101.out
        have hfz16_0 := blk_frozen BK101.out 0
        have hfz16_1 := blk_frozen BK101.out 1
        have hfz16_2 := blk_frozen BK101.out 2
        go_wp2_with ((with_reducible refine gate_callee (f := 35) rfl ?_); refine goesL_ (some 20) rfl rfl Try.func35 (by kernel_rfl) rfl #[.int .i64 a0_1, .int .i64 0, .int .i64 255] rfl d65b ?_; (with_reducible refine (kit_In.calls a0_1 0 255 false _ A11.out).mono ?_); rintro e w' ⟨rfl, ⟨nd, rfl⟩⟩; refine ⟨_, rfl, ?_⟩)
        go_meet
        case rel => exact ⟨_, (true), d65f, H', ⟨by have := HJ1.out; first | omega | exact Nat.le_refl _⟩, ⟨d65d⟩, ⟨d65a⟩⟩
     case rest =>
      clear HC9
      try clear hcz10_0
      try clear hcz10_1
      try clear hcz10_2
      try clear hfz10_0
      try clear hfz10_1
      try clear hfz10_2
      obtain ⟨kq, x17_8, rfl, HA, HJ8, BK101, HB⟩ := hcut
      cases kq with
      | zero => exact absurd HA.out (by simp [command_checkOrder.j1])
      | succ kj8 =>
       have H := HA.out
       clear HA
       simp only [command_checkOrder.j1] at H
       by_cases c17 : x17_8 = true
       · subst c17
         replace H := iteT H
         obtain rfl := Option.some.inj H
         go_wp2
         go_ret
         exact ⟨d65e, d65a⟩
       · replace c17 := Bool.eq_false_iff.mpr c17
         subst c17
         replace H := iteF H
         have HC18 := Aside0.mk H
         clear H
         go_upto_region 6 with (fail)
         go_cut [31] (fun v31 wc => ∃ (kq : Nat) (x31_17 : Bool), v31 = .bool x31_17 ∧ Aside0 (command_checkOrder.j2 kq x31_17 a0_0 a0_1 l0_2 = some r) ∧ Aside0 (kq ≤ kj8) ∧ Aside0 (wc.heap[gb101]? = some (.cells #[.int .i64 a0_0, .int .i64 a0_1, (.slice A0_2 l0_2.length c0_2)] 67 (0, 0))) ∧ Aside0 (Below w.heap.size w wc))
         case first =>
          have H := HC18.out
          clear HC18
          by_cases c19 : a0_0 = 1
          · rw [if_pos c19] at H
            have c19b0 : (a0_0 == 1) = true := beq_iff_eq.mpr c19
            have c19b1 : (a0_0 != 1) = false := bne_eq_false_iff_eq.mpr c19
            clear c19
            (first | rw [c19b0] | (simp only [i64_w, i32_w]; rw [c19b0]) | skip)
            have H' := Aside0.mk H
            clear H
            obtain ⟨hcz20_0, hcz20_1, hcz20_2⟩ := blkC3 BK101.out
            have hfz20_0 := blk_frozen BK101.out 0
            have hfz20_1 := blk_frozen BK101.out 1
            have hfz20_2 := blk_frozen BK101.out 2
            go_wp2
            go_meet
            case rel => exact ⟨_, (true), d65f, H', ⟨by have := HJ1.out; have := HJ8.out; first | omega | exact Nat.le_refl _⟩, ⟨d65d⟩, ⟨d65a⟩⟩
          · rw [if_neg c19] at H
            have c19b0 : (a0_0 == 1) = false := beq_eq_false_iff_ne.mpr c19
            have c19b1 : (a0_0 != 1) = true := bne_iff_ne.mpr c19
            (first | rw [c19b0] | (simp only [i64_w, i32_w]; rw [c19b0]) | skip)
            have H' := Aside0.mk H
            clear H
            obtain ⟨hcz21_0, hcz21_1, hcz21_2⟩ := blkC3 BK101.out
            have hfz21_0 := blk_frozen BK101.out 0
            have hfz21_1 := blk_frozen BK101.out 1
            have hfz21_2 := blk_frozen BK101.out 2
            go_wp2
            go_meet
            case rel => exact ⟨_, ((a0_0 == 2)), d65f, H', ⟨by have := HJ1.out; have := HJ8.out; first | omega | exact Nat.le_refl _⟩, ⟨d65d⟩, ⟨d65a⟩⟩
         case rest =>
          clear HC18
          obtain ⟨kq, x31_17, rfl, HA, HJ17, BK101, HB⟩ := hcut
          cases kq with
          | zero => exact absurd HA.out (by simp [command_checkOrder.j2])
          | succ kj17 =>
           have H := HA.out
           clear HA
           simp only [command_checkOrder.j2] at H
           by_cases c22 : x31_17 = true
           · subst c22
             replace H := iteT H
             replace H := bindS H; obtain ⟨t104, A23, H⟩ := H
             obtain rfl := Option.some.inj H
             obtain ⟨hcz24_0, hcz24_1, hcz24_2⟩ := blkC3 BK101.out
             have hfz24_0 := blk_frozen BK101.out 0
             have hfz24_1 := blk_frozen BK101.out 1
             have hfz24_2 := blk_frozen BK101.out 2
             go_wp2_with ((with_reducible refine gate_callee (f := 68) rfl ?_); refine goesL_ (some 42) rfl rfl Try.func68 (by kernel_rfl) rfl #[.slice A0_2 l0_2.length c0_2] rfl d65b ?_; (with_reducible refine (command_checkBody.calls _ _ l0_2 t104 _ ?side1 ?side2 A23.out).mono ?_); (case side1 => exact C_go (Kd.C_below HR0_2.out HB.out)); (case side2 => exact HC0_2.out); rintro e w' ⟨rfl, ⟨nd, rfl⟩⟩; refine ⟨_, rfl, ?_⟩)
             go_ret
             exact ⟨d65e, d65a⟩
           · replace c22 := Bool.eq_false_iff.mpr c22
             subst c22
             replace H := iteF H
             by_cases c25 : (l0_2.length : Int) > 0
             · rw [if_pos c25] at H
               have c25b0 : decide (0 < (l0_2.length : Int)) = true := decide_eq_true c25
               have c25b1 : decide (0 < l0_2.length) = true := decide_eq_true (by omega)
               clear c25
               obtain rfl := Option.some.inj H
               obtain ⟨hcz26_0, hcz26_1, hcz26_2⟩ := blkC3 BK101.out
               have hfz26_0 := blk_frozen BK101.out 0
               have hfz26_1 := blk_frozen BK101.out 1
               have hfz26_2 := blk_frozen BK101.out 2
               go_wp2
               go_ret
               exact ⟨d65e, d65a⟩
             · rw [if_neg c25] at H
               have c25b0 : decide (0 < (l0_2.length : Int)) = false := decide_eq_false c25
               have c25b1 : decide (0 < l0_2.length) = false := decide_eq_false (by omega)
               clear c25
               obtain rfl := Option.some.inj H
               obtain ⟨hcz27_0, hcz27_1, hcz27_2⟩ := blkC3 BK101.out
               have hfz27_0 := blk_frozen BK101.out 0
               have hfz27_1 := blk_frozen BK101.out 1
               have hfz27_2 := blk_frozen BK101.out 2
               go_wp2
               go_ret
               exact ⟨d65e, d65a⟩
   · replace c8 := Bool.eq_false_iff.mpr c8
     subst c8
     replace H := iteF H
     obtain rfl := Option.some.inj H
     obtain ⟨hcz28_0, hcz28_1, hcz28_2⟩ := blkC3 BK101.out
     have hfz28_0 := blk_frozen BK101.out 0
     have hfz28_1 := blk_frozen BK101.out 1
     have hfz28_2 := blk_frozen BK101.out 2
     go_wp2_with ((with_reducible refine gate_callee (f := 35) rfl ?_); refine goesL_ (some 15) rfl rfl Try.func35 (by kernel_rfl) rfl #[.int .i64 a0_0, .int .i64 1, .int .i64 5] rfl d65b ?_; (with_reducible refine (kit_In.calls a0_0 1 5 false _ A7.out).mono ?_); rintro e w' ⟨rfl, ⟨nd, rfl⟩⟩; refine ⟨_, rfl, ?_⟩)
     go_ret
     exact ⟨d65e, d65a⟩
def command_OrderBytes.f (k : Nat) (a0_0 : Int) (a0_1 : Int) (l0_2 : List Int) : Option (List Int × Int) := (command_checkOrder.f k a0_0 a0_1 l0_2).bind fun t102 => (if t102 = 0 then ((some (([(a0_0) % 256, (a0_1) % 256] : List Int) : List Int)).bind fun y103 => (if y103.length + l0_2.length < 140737488355328 then (some ((y103 ++ l0_2), 0)) else (none))) else (some (([] : List Int), t102)))
theorem d36a {p : Prop} (h : p := by repeat (first | (with_reducible first | exact HB.out | apply below_alloc | apply pw_below_drewN | apply below_drew1 | refine below_set ?_ GE101.out) | exact HB.out)) : p := h
theorem d36b {p : Prop} (h : p := by repeat (first | (with_reducible first | exact HB.out | apply below_alloc | apply pw_below_drewN | apply below_drew1) | exact HB.out)) : p := h
theorem d36c {p : Prop} (h : p := by (with_reducible repeat (first | refine blk_drewN ?_ _ | refine blk_drew ?_ | refine blk_alloc ?_ _)); exact BK101.out) : p := h
set_option maxHeartbeats 8000000 in
set_option maxRecDepth 100000 in
theorem command_OrderBytes.calls (k : Nat) (a0_0 : Int) (a0_1 : Int) (A0_2 : Option Addr) (c0_2 : Nat) (l0_2 : List Int) (r1 : List Int) (r2 : Int) (w : World) (hr0_2 : Kd.C (Kd.int .u8) w A0_2 l0_2.length l0_2) (hc0_2 : l0_2.length ≤ c0_2) (h : command_OrderBytes.f k a0_0 a0_1 l0_2 = some (r1, r2)) :
 Calls Try.prog 36 #[.agg #[.int .i64 a0_0, .int .i64 a0_1, .slice A0_2 l0_2.length c0_2]] w fun e w' => ∃ v0_ : Value, e = .returned (.tuple #[v0_, .int .i64 r2]) ∧ Kd.R (Kd.int .u8) 5 w' w.heap.size (fun _ => True) v0_ r1 ∧ Below w.heap.size w w' := by
 have hu67 := Try.underlying67
 have HR0_2 := Aside0.mk hr0_2
 have HC0_2 := Aside0.mk hc0_2
 clear hr0_2 hc0_2
 have HB := Aside0.mk (Below.refl w.heap.size w)
 have H : ((command_checkOrder.f k a0_0 a0_1 l0_2).bind fun t102 => (if t102 = 0 then ((some (([(a0_0) % 256, (a0_1) % 256] : List Int) : List Int)).bind fun y103 => (if y103.length + l0_2.length < 140737488355328 then (some ((y103 ++ l0_2), 0)) else (none))) else (some (([] : List Int), t102)))) = some (r1, r2) := h
 clear h
 replace H := bindS H; obtain ⟨t102, A2, H⟩ := H
 by_cases c3 : t102 = 0
 · rw [if_pos c3] at H
   have c3b0 : (t102 == 0) = true := beq_iff_eq.mpr c3
   have c3b1 : (t102 != 0) = false := bne_eq_false_iff_eq.mpr c3
   clear c3
   obtain ⟨y103, hy103⟩ : ∃ y_ : List Int, y_ = (([(a0_0) % 256, (a0_1) % 256] : List Int)) := ⟨_, rfl⟩
   replace H : (if y103.length + l0_2.length < 140737488355328 then (some ((y103 ++ l0_2), 0)) else (none)) = some (r1, r2) := by first | (rw [hy103]; with_reducible exact H) | (have H2_ := (Option.bind_some _ _).symm.trans H; rw [hy103]; with_reducible exact H2_) | (have H2_ := (Option.bind_some _ _).symm.trans H; with_reducible exact H2_) | with_reducible exact H | (rw [hy103]; exact H) | exact H
   have Ny103 := Aside0.mk hy103
   clear hy103
   replace H := guardT H; obtain ⟨c4, H⟩ := H
   have LMc4 := Aside0.mk c4
   clear c4
   obtain ⟨y106, hy106⟩ : ∃ y_ : List Int, y_ = (y103 ++ l0_2) := ⟨_, rfl⟩
   replace H : (some (y106, 0)) = some (r1, r2) := by first | (rw [hy106]; with_reducible exact H) | (have H2_ := (Option.bind_some _ _).symm.trans H; rw [hy106]; with_reducible exact H2_) | (have H2_ := (Option.bind_some _ _).symm.trans H; with_reducible exact H2_) | with_reducible exact H | (rw [hy106]; exact H) | exact H
   have Ny106 := Aside0.mk hy106
   clear hy106
   simp only [Option.some.injEq, Prod.mk.injEq] at H
   obtain ⟨rfl, rfl⟩ := H
   go_enter Try.func36, Try.ntmps36
   go_wp2_with (first | ((with_reducible refine gate_dst (N := 1) rfl ?_); refine box_event ?hg (N := 1) ?hd (cs := #[.int .i64 a0_0, .int .i64 a0_1, .slice A0_2 l0_2.length c0_2]) (t := 67) ?hr ?_; (case hd => rfl); (case hg => rfl); (case hr => first | (go_simp; done) | (go_simp; rfl)); intro gb101 hg w5 hbox hb; have n0_ := Aside0.mk (below_step d36b hb); have n1_ := Aside0.mk (hbox); have n2_ := Aside0.mk ((by rw [hg]; exact (below_size d36b) : w.heap.size ≤ gb101)); have n3_ := Aside0.mk ((by rw [hg]; exact (below_size d36b) : w.heap.size ≤ gb101)); clear HB; have HB := n0_; have BK101 := n1_; have GW101 := n2_; have GE101 := n3_; clear n0_ n1_ n2_ n3_; clear hb hbox hg; have hcz6_0 : w5.cell? ⟨gb101, 0, none⟩ = some (.int .i64 a0_0) := (blk_cell BK101.out 0).trans rfl; have hcz6_1 : w5.cell? ⟨gb101, 1, none⟩ = some (.int .i64 a0_1) := (blk_cell BK101.out 1).trans rfl; have hcz6_2 : w5.cell? ⟨gb101, 2, none⟩ = some (.slice A0_2 l0_2.length c0_2) := (blk_cell BK101.out 2).trans rfl; have hfz6_0 := blk_frozen BK101.out 0; have hfz6_1 := blk_frozen BK101.out 1; have hfz6_2 := blk_frozen BK101.out 2) | ((with_reducible refine gate_callee (f := 65) rfl ?_); refine goesL_ (some 6) rfl rfl Try.func65 (by kernel_rfl) rfl #[.agg #[.int .i64 a0_0, .int .i64 a0_1, .slice A0_2 l0_2.length c0_2]] rfl (by (try simp only [List.map_toArray, List.map_cons, List.map_nil]); first | done | rfl | (simp only [List.length_drop, List.length_take]; rfl)) ?_; (with_reducible refine (command_checkOrder.calls k a0_0 a0_1 _ _ l0_2 t102 _ ?side1 ?side2 A2.out).mono ?_); (case side1 => exact C_go (Kd.C_below HR0_2.out HB.out)); (case side2 => exact HC0_2.out); rintro e w7 ⟨rfl, hb⟩; refine ⟨_, rfl, ?_⟩; have n0_ := Aside0.mk (blk_below (g := gb101) (o := .cells #[.int .i64 a0_0, .int .i64 a0_1, .slice A0_2 l0_2.length c0_2] 67 (0, 0)) d36c hb); have n1_ := Aside0.mk (below_step d36a hb); clear BK101; clear HB; have BK101 := n0_; have HB := n1_; clear n0_ n1_; (try clear hb); have hcz8_0 : w7.cell? ⟨gb101, 0, none⟩ = some (.int .i64 a0_0) := (blk_cell BK101.out 0).trans rfl; have hcz8_1 : w7.cell? ⟨gb101, 1, none⟩ = some (.int .i64 a0_1) := (blk_cell BK101.out 1).trans rfl; have hcz8_2 : w7.cell? ⟨gb101, 2, none⟩ = some (.slice A0_2 l0_2.length c0_2) := (blk_cell BK101.out 2).trans rfl; have hfz8_0 := blk_frozen BK101.out 0; have hfz8_1 := blk_frozen BK101.out 1; have hfz8_2 := blk_frozen BK101.out 2) | ((with_reducible refine gate_dst (N := 16) rfl ?_); refine Kd.R_lit (Kd.int .u8) _ 5 ?hg (N := 16) ?hd (xs := ([(a0_0) % 256, (a0_1) % 256] : List Int)) (inner := [.int .u8 ((a0_0) % 256), .int .u8 ((a0_1) % 256)]) (ok := fun _ => True) (okp := fun _ => True) ?hr ?hp (fun _ hk => hk) trivial (Below.refl _ _) (Nat.le_refl _) (by simp) ?_; (case hd => rfl); (case hg => rfl); (case hr => first | (go_simp; done) | (go_simp; rfl)); (case hp => exact (Reps.one (show Kd.M (Kd.int .u8) _ _ _ ((a0_0) % 256) [.int .u8 ((a0_0) % 256)] from rfl) (Reps.one (show Kd.M (Kd.int .u8) _ _ _ ((a0_1) % 256) [.int .u8 ((a0_1) % 256)] from rfl) (Reps.none _ _)))); intro v104 w9 ho10 hb hg_ hnew_; clear hg_ hnew_; (first | rw [← Ny103.out] at ho10 | (simp only [Int.reduceToNat] at ho10; rw [← Ny103.out] at ho10)); have n0_ := Aside0.mk (Kd.R_lower ho10 (below_size d36a)); have n1_ := Aside0.mk (blk_below (g := gb101) (o := .cells #[.int .i64 a0_0, .int .i64 a0_1, .slice A0_2 l0_2.length c0_2] 67 (0, 0)) d36c hb); have n2_ := Aside0.mk (below_step d36a hb); clear BK101; clear HB; have HO105 := n0_; have BK101 := n1_; have HB := n2_; clear n0_ n1_ n2_; clear hb ho10; have hcz11_0 : w9.cell? ⟨gb101, 0, none⟩ = some (.int .i64 a0_0) := (blk_cell BK101.out 0).trans rfl; have hcz11_1 : w9.cell? ⟨gb101, 1, none⟩ = some (.int .i64 a0_1) := (blk_cell BK101.out 1).trans rfl; have hcz11_2 : w9.cell? ⟨gb101, 2, none⟩ = some (.slice A0_2 l0_2.length c0_2) := (blk_cell BK101.out 2).trans rfl; have hfz11_0 := blk_frozen BK101.out 0; have hfz11_1 := blk_frozen BK101.out 1; have hfz11_2 := blk_frozen BK101.out 2) | ((with_reducible refine gate_builtin (b := .append) (xs := #[.tmp 16, .tmp 18]) rfl ?_); at_builtin; refine Kd.R_append_rows (Kd.int .u8) (w0 := w) w.heap.size rfl (.tmp 16) (.tmp 18) 28 5 (.int .u8 0) 1 rfl Try.underlying28 info5 rfl (by decide) (by omega) v104 y103 l0_2 _ _ _ (fun _ => True) (fun _ => False) rfl rfl ?aO ?aR (fun _ _ h => h) (fun _ h => h.elim) ?aF ?aB ?aS ?aL ?_; (case aR => exact C_go (Kd.C_below HR0_2.out HB.out)); (case aB => exact d36a); (case aF => exact (fun _ _ => trivial)); (case aO => exact (by (with_reducible repeat (first | apply Kd.R_alloc | apply Kd.R_drewN | apply Kd.R_drew)); exact HO105.out)); (case aS => exact (below_size d36a)); (case aL => have := LMc4.out; omega); intro v107 w12 ho hb hg hat; rw [← Ny106.out] at ho; have n0_ := Aside0.mk (blk_grown (g := gb101) (o := .cells #[.int .i64 a0_0, .int .i64 a0_1, .slice A0_2 l0_2.length c0_2] 67 (0, 0)) d36c hg (Kd.R_ne HO105.out BK101.out (by decide))); have n1_ := Aside0.mk (hb); have n2_ := Aside0.mk (ho); clear BK101; clear HB; clear HO105; have BK101 := n0_; have HB := n1_; have HO108 := n2_; clear n0_ n1_ n2_; clear ho hb hg hat))
   go_ret2
   exact ⟨_, by first | rfl | (simp [errW_none, errW_some] <;> rfl) | (simp [*, errW_none, errW_some] <;> rfl), by (with_reducible repeat (first | apply Kd.R_alloc | apply Kd.R_drewN | apply Kd.R_drew)); exact HO108.out, d36a⟩
 · rw [if_neg c3] at H
   have c3b0 : (t102 == 0) = false := beq_eq_false_iff_ne.mpr c3
   have c3b1 : (t102 != 0) = true := bne_iff_ne.mpr c3
   simp only [Option.some.injEq, Prod.mk.injEq] at H
   obtain ⟨rfl, rfl⟩ := H
   go_enter Try.func36, Try.ntmps36
   go_wp2_with (first | ((with_reducible refine gate_dst (N := 1) rfl ?_); refine box_event ?hg (N := 1) ?hd (cs := #[.int .i64 a0_0, .int .i64 a0_1, .slice A0_2 l0_2.length c0_2]) (t := 67) ?hr ?_; (case hd => rfl); (case hg => rfl); (case hr => first | (go_simp; done) | (go_simp; rfl)); intro gb101 hg w13 hbox hb; have n0_ := Aside0.mk (below_step d36b hb); have n1_ := Aside0.mk (hbox); have n2_ := Aside0.mk ((by rw [hg]; exact (below_size d36b) : w.heap.size ≤ gb101)); have n3_ := Aside0.mk ((by rw [hg]; exact (below_size d36b) : w.heap.size ≤ gb101)); clear HB; have HB := n0_; have BK101 := n1_; have GW101 := n2_; have GE101 := n3_; clear n0_ n1_ n2_ n3_; clear hb hbox hg; have hcz14_0 : w13.cell? ⟨gb101, 0, none⟩ = some (.int .i64 a0_0) := (blk_cell BK101.out 0).trans rfl; have hcz14_1 : w13.cell? ⟨gb101, 1, none⟩ = some (.int .i64 a0_1) := (blk_cell BK101.out 1).trans rfl; have hcz14_2 : w13.cell? ⟨gb101, 2, none⟩ = some (.slice A0_2 l0_2.length c0_2) := (blk_cell BK101.out 2).trans rfl; have hfz14_0 := blk_frozen BK101.out 0; have hfz14_1 := blk_frozen BK101.out 1; have hfz14_2 := blk_frozen BK101.out 2) | ((with_reducible refine gate_callee (f := 65) rfl ?_); refine goesL_ (some 6) rfl rfl Try.func65 (by kernel_rfl) rfl #[.agg #[.int .i64 a0_0, .int .i64 a0_1, .slice A0_2 l0_2.length c0_2]] rfl (by (try simp only [List.map_toArray, List.map_cons, List.map_nil]); first | done | rfl | (simp only [List.length_drop, List.length_take]; rfl)) ?_; (with_reducible refine (command_checkOrder.calls k a0_0 a0_1 _ _ l0_2 t102 _ ?side1 ?side2 A2.out).mono ?_); (case side1 => exact C_go (Kd.C_below HR0_2.out HB.out)); (case side2 => exact HC0_2.out); rintro e w15 ⟨rfl, hb⟩; refine ⟨_, rfl, ?_⟩; have n0_ := Aside0.mk (blk_below (g := gb101) (o := .cells #[.int .i64 a0_0, .int .i64 a0_1, .slice A0_2 l0_2.length c0_2] 67 (0, 0)) d36c hb); have n1_ := Aside0.mk (below_step d36a hb); clear BK101; clear HB; have BK101 := n0_; have HB := n1_; clear n0_ n1_; (try clear hb)))
   go_ret2
   exact ⟨_, by first | rfl | (simp [errW_none, errW_some] <;> rfl) | (simp [*, errW_none, errW_some] <;> rfl), by first | exact Kd.R_nil _ _ _ _ _ | exact Kd.N_nil _ _ _ _ _ | exact Kd.V_nil _ _ _ _ _ | exact Kd.Q_nil _ _ _ _ _ | exact Kd.S_nil _ _ _ _ _, d36a⟩
def kit_First.l0 : Nat → List Int → Int → Int → Option (Int)
  | 0, _, _, _ => none
  | k + 1, x5, x6, x7 => if x7 < x6 then (if 0 ≤ x7 then (if x7 < (x5.length : Int) then (if (rd x5 x7) = 0 then (kit_First.l0 k x5 x6 (wrap64 (x7 + 1))) else (some (rd x5 x7))) else (none)) else (none)) else (some 0)
def kit_First.f (k : Nat) (l0 : List Int) : Option (Int) := kit_First.l0 k l0 (l0.length : Int) 0
theorem d66a {p : Prop} (h : p := by repeat (first | exact Drawn0.refl _ | apply Drawn0.step)) : p := h
theorem d66b {p : Prop} (h : p := by first | (with_reducible assumption) | assumption) : p := h
theorem d66c {p : Prop} (h : p := by first | rfl | (simp; done) | (simp [*]; done)) : p := h
set_option maxHeartbeats 8000000 in
set_option maxRecDepth 100000 in
theorem kit_First.calls (k : Nat) (A0 : Option Addr) (c0 : Nat) (l0 : List Int) (r : Int) (w : World) (hr0 : Kd.C (Kd.int .i64) w A0 l0.length l0) (hc0 : l0.length ≤ c0) (h : kit_First.f k l0 = some r) :
 Calls Try.prog 66 #[.slice A0 l0.length c0] w fun e w' => e = .returned (.int .i64 r) ∧ Drawn0 w w' := by
 have HR0 := Aside0.mk hr0
 have HC0 := Aside0.mk hc0
 clear hr0 hc0
 have H : (kit_First.l0 k l0 (l0.length : Int) 0) = some r := h
 clear h
 have H' := Aside0.mk H
 clear H
 go_enter Try.func66, Try.ntmps66
 go_wp2
 go_loopg [7] k (fun kq v7 w' => ∃ (x7_1 : Int), v7 = .int .i64 x7_1 ∧ Aside0 (kit_First.l0 kq l0 (l0.length : Int) x7_1 = some r) ∧ Aside0 (kq ≤ k) ∧ Drawn0 w w')
 case atStart => exact ⟨(0), d66c, H', ⟨Nat.le_refl _⟩, d66a⟩
 case round =>
  clear H'
  obtain ⟨x7_1, rfl, HA, HK1, ⟨m1, rfl⟩⟩ := hrel
  cases gk with
  | zero => exact absurd HA.out (by simp [kit_First.l0])
  | succ k1 =>
   have H := HA.out
   clear HA
   simp only [kit_First.l0] at H
   by_cases c2 : x7_1 < (l0.length : Int)
   · rw [if_pos c2] at H
     have c2b0 : decide (x7_1 < (l0.length : Int)) = true := decide_eq_true c2
     clear c2
     replace H := guardT H; obtain ⟨c3, H⟩ := H
     have c3b0 : decide (0 ≤ x7_1) = true := decide_eq_true c3
     clear c3
     replace H := guardT H; obtain ⟨c4, H⟩ := H
     have c4b0 : decide (x7_1 < (l0.length : Int)) = true := decide_eq_true c4
     clear c4
     by_cases c5 : (rd l0 x7_1) = 0
     · rw [if_pos c5] at H
       have c5b0 : ((rd l0 x7_1) == 0) = true := beq_iff_eq.mpr c5
       have c5b1 : ((rd l0 x7_1) != 0) = false := bne_eq_false_iff_eq.mpr c5
       clear c5
       have H' := Aside0.mk H
       clear H
       have p101 : 0 ≤ (x7_1 : Int) := of_decide_eq_true d66b
       have q101 : x7_1 < (l0.length : Int) := of_decide_eq_true d66b
       obtain ⟨ad101, e101, hx101_0⟩ := Kd.at_int HR0.out x7_1 p101 q101
       cases e101
       replace p101 := eq_true p101
       replace q101 := eq_true q101
       go_wp2
       go_roundg k1
       case measure => have := HK1.out; omega
       case rel => exact ⟨(wrap64 (x7_1 + 1)), d66c, H', ⟨by have := HK1.out; omega⟩, d66a⟩
     · rw [if_neg c5] at H
       have c5b0 : ((rd l0 x7_1) == 0) = false := beq_eq_false_iff_ne.mpr c5
       have c5b1 : ((rd l0 x7_1) != 0) = true := bne_iff_ne.mpr c5
       obtain rfl := Option.some.inj H
       have p101 : 0 ≤ (x7_1 : Int) := of_decide_eq_true d66b
       have q101 : x7_1 < (l0.length : Int) := of_decide_eq_true d66b
       obtain ⟨ad101, e101, hx101_0⟩ := Kd.at_int HR0.out x7_1 p101 q101
       cases e101
       replace p101 := eq_true p101
       replace q101 := eq_true q101
       go_wp2
       go_ret
       exact ⟨d66c, d66a⟩
   · rw [if_neg c2] at H
     have c2b0 : decide (x7_1 < (l0.length : Int)) = false := decide_eq_false c2
     clear c2
     obtain rfl := Option.some.inj H
     go_wp2
     go_ret
     exact ⟨d66c, d66a⟩
def kit_Range.f (a0 : Int) (a1 : Int) (a2 : Int) : Option (Int) := (kit_In.f a0 a1 a2).bind fun t101 => (if t101 = true then (some 0) else (some 1))
set_option maxHeartbeats 8000000 in
set_option maxRecDepth 100000 in
theorem kit_Range.calls (a0 : Int) (a1 : Int) (a2 : Int) (r : Int) (w : World) (h : kit_Range.f a0 a1 a2 = some r) :
 Calls Try.prog 67 #[.int .i64 a0, .int .i64 a1, .int .i64 a2] w fun e w' => e = .returned (.int .i64 r) ∧ Drawn0 w w' := by
 have H : ((kit_In.f a0 a1 a2).bind fun t101 => (if t101 = true then (some 0) else (some 1))) = some r := h
 clear h
 replace H := bindS H; obtain ⟨t101, A4, H⟩ := H
 by_cases c5 : t101 = true
 · subst c5
   replace H := iteT H
   obtain rfl := Option.some.inj H
   go_enter Try.func67, Try.ntmps67
   go_wp2_with ((with_reducible refine gate_callee (f := 35) rfl ?_); refine goesL_ (some 10) rfl rfl Try.func35 (by kernel_rfl) rfl #[.int .i64 a0, .int .i64 a1, .int .i64 a2] rfl (by (try simp only [List.map_toArray, List.map_cons, List.map_nil]); first | done | rfl | (simp only [List.length_drop, List.length_take]; rfl)) ?_; (with_reducible refine (kit_In.calls a0 a1 a2 true _ A4.out).mono ?_); rintro e w' ⟨rfl, ⟨nd, rfl⟩⟩; refine ⟨_, rfl, ?_⟩)
   go_ret
   exact ⟨by first | rfl | (simp; done) | (simp [*]; done), by repeat (first | exact Drawn0.refl _ | apply Drawn0.step)⟩
 · replace c5 := Bool.eq_false_iff.mpr c5
   subst c5
   replace H := iteF H
   obtain rfl := Option.some.inj H
   go_enter Try.func67, Try.ntmps67
   go_wp2_with ((with_reducible refine gate_callee (f := 35) rfl ?_); refine goesL_ (some 10) rfl rfl Try.func35 (by kernel_rfl) rfl #[.int .i64 a0, .int .i64 a1, .int .i64 a2] rfl (by (try simp only [List.map_toArray, List.map_cons, List.map_nil]); first | done | rfl | (simp only [List.length_drop, List.length_take]; rfl)) ?_; (with_reducible refine (kit_In.calls a0 a1 a2 false _ A4.out).mono ?_); rintro e w' ⟨rfl, ⟨nd, rfl⟩⟩; refine ⟨_, rfl, ?_⟩)
   go_ret
   exact ⟨by first | rfl | (simp; done) | (simp [*]; done), by repeat (first | exact Drawn0.refl _ | apply Drawn0.step)⟩
def command_eight.l0 : Nat → Int → List Int → Int → Option (List Int)
  | 0, _, _, _ => none
  | k + 1, x0, x3, x4 => if x4 ≥ 0 then (if 0 ≤ x4 then (if x3.length < 140737488355328 then (command_eight.l0 k x0 (x3 ++ [(shr .u64 x0 x4) % 256]) (wrap64 (x4 - 8))) else (none)) else (none)) else (some x3)
def command_eight.f (k : Nat) (a0 : Int) : Option (List Int) := command_eight.l0 k a0 ([] : List Int) 56
theorem d69a {p : Prop} (h : p := by repeat (first | (with_reducible first | exact HB.out | apply below_alloc | apply pw_below_drewN | apply below_drew1) | exact HB.out)) : p := h
set_option maxHeartbeats 8000000 in
set_option maxRecDepth 100000 in
theorem command_eight.calls (k : Nat) (a0 : Int) (r : List Int) (w : World) (h : command_eight.f k a0 = some r) :
 Calls Try.prog 69 #[.int .u64 a0] w fun e w' => ∃ v0_ : Value, e = .returned (v0_) ∧ Kd.R (Kd.int .u8) 5 w' w.heap.size (fun _ => True) v0_ r ∧ Below w.heap.size w w' := by
 have HB := Aside0.mk (Below.refl w.heap.size w)
 have H : (command_eight.l0 k a0 ([] : List Int) 56) = some r := h
 clear h
 have H' := Aside0.mk H
 clear H
 go_enter Try.func69, Try.ntmps69
 go_wp2
 go_loopg [3, 4] k (fun kq v3 v4 w' => ∃ (x3_1 : List Int) (x4_1 : Int), v4 = .int .i64 x4_1 ∧ Aside0 (command_eight.l0 kq a0 x3_1 x4_1 = some r) ∧ Aside0 (kq ≤ k) ∧ Aside0 (Kd.R (Kd.int .u8) 5 w' w.heap.size (fun _ => True) v3 x3_1) ∧ Aside0 (Below w.heap.size w w'))
 case atStart => exact ⟨(([] : List Int)), (56), (by first | rfl | (simp; done) | (simp [*]; done)), H', ⟨Nat.le_refl _⟩, ⟨by first | exact Kd.R_nil _ _ _ _ _ | exact Kd.N_nil _ _ _ _ _ | exact Kd.V_nil _ _ _ _ _ | exact Kd.Q_nil _ _ _ _ _ | exact Kd.S_nil _ _ _ _ _⟩, ⟨d69a⟩⟩
 case round =>
  clear H'
  obtain ⟨x3_1, x4_1, rfl, HA, HK1, HO_3, HB⟩ := hrel
  cases gk with
  | zero => exact absurd HA.out (by simp [command_eight.l0])
  | succ k1 =>
   have H := HA.out
   clear HA
   simp only [command_eight.l0] at H
   by_cases c2 : x4_1 ≥ 0
   · rw [if_pos c2] at H
     have c2b0 : decide (0 ≤ x4_1) = true := decide_eq_true c2
     clear c2
     replace H := guardT H; obtain ⟨c3, H⟩ := H
     have c3b0 := eq_true c3
     have c3b1 : decide (0 ≤ x4_1) = true := decide_eq_true c3
     clear c3
     obtain ⟨ji4, hji4⟩ : ∃ j_ : Int, (shr .u64 a0 x4_1) = j_ := ⟨_, rfl⟩
     replace H : (if x3_1.length < 140737488355328 then (command_eight.l0 k1 a0 (x3_1 ++ [(ji4) % 256]) (wrap64 (x4_1 - 8))) else (none)) = some r := by first | (rw [hji4] at H; exact H) | (simp only [hji4] at H ⊢; exact H)
     have hji4_ : (a0 / 2 ^ min x4_1.toNat 64) = ji4 := hji4
     have hji4z : x4_1 ≤ 64 → (a0 / 2 ^ x4_1.toNat) = ji4 := shr_small hji4
     replace H := guardT H; obtain ⟨c5, H⟩ := H
     have LMc5 := Aside0.mk c5
     clear c5
     obtain ⟨y101, hy101⟩ : ∃ y_ : List Int, y_ = (x3_1 ++ [(ji4) % 256]) := ⟨_, rfl⟩
     replace H : (command_eight.l0 k1 a0 y101 (wrap64 (x4_1 - 8))) = some r := by first | (rw [hy101]; with_reducible exact H) | (have H2_ := (Option.bind_some _ _).symm.trans H; rw [hy101]; with_reducible exact H2_) | (have H2_ := (Option.bind_some _ _).symm.trans H; with_reducible exact H2_) | with_reducible exact H | (rw [hy101]; exact H) | exact H
     have Ny101 := Aside0.mk hy101
     clear hy101
     have H' := Aside0.mk H
     clear H
     go_wp2_with ((with_reducible refine gate_builtin (b := .append) (xs := #[.tmp 9, .tmp 14]) rfl ?_); at_builtin; refine Kd.R_append (Kd.int .u8) (w0 := w) w.heap.size rfl (.tmp 9) (.tmp 14) 28 5 (.int .u8 0) 1 rfl Try.underlying28 info5 rfl (by decide) (by omega) u3 x3_1 ((ji4) % 256) [.int .u8 ((ji4) % 256)] (fun _ => True) (fun _ => False) rfl rfl ?aP (fun _ hk => hk.elim) ?aF ?aO ?aB ?aS ?aL ?_; (case aP => exact rfl); (case aB => exact d69a); (case aF => exact (fun _ _ => trivial)); (case aO => exact (by (with_reducible repeat (first | apply Kd.R_alloc | apply Kd.R_drewN | apply Kd.R_drew)); exact HO_3.out)); (case aS => exact (below_size d69a)); (case aL => have := LMc5.out; omega); intro v102 w6 ho hb hg hat; rw [← Ny101.out] at ho; have n0_ := Aside0.mk (hb); have n1_ := Aside0.mk (ho); clear HB; clear HO_3; have HB := n0_; have HO103 := n1_; clear n0_ n1_; clear ho hb hg hat)
     go_roundg k1
     case measure => have := HK1.out; omega
     case rel => exact ⟨(y101), (wrap64 (x4_1 - 8)), (by first | rfl | (simp; done) | (simp [*]; done)), H', ⟨by have := HK1.out; omega⟩, ⟨by (with_reducible repeat (first | apply Kd.R_alloc | apply Kd.R_drewN | apply Kd.R_drew)); exact HO103.out⟩, ⟨d69a⟩⟩
   · rw [if_neg c2] at H
     have c2b0 : decide (0 ≤ x4_1) = false := decide_eq_false c2
     clear c2
     obtain rfl := Option.some.inj H
     go_wp2
     go_ret
     exact ⟨_, by first | rfl | (simp [errW_none, errW_some] <;> rfl) | (simp [*, errW_none, errW_some] <;> rfl), by (with_reducible repeat (first | apply Kd.R_alloc | apply Kd.R_drewN | apply Kd.R_drew)); exact HO_3.out, d69a⟩
theorem growB.info : (Try.prog.info? 5).map (fun i => (i.zero, i.size, i.bytes)) = some (some (.int .u8 0), 1, 1) := by kernel_rfl
set_option maxHeartbeats 8000000 in
set_option maxRecDepth 100000 in
theorem growB (n : Nat) (w : World) (hn : n < 70368744177664) :
    Calls Try.prog 111 #[.slice none 0 0, .int .i64 n] w fun e w' => ∃ v, e = .returned v ∧ Kd.R (Kd.int .u8) 5 w' w.heap.size (fun _ => True) v [] ∧ Below w.heap.size w w' := by
  have HN := Aside0.mk hn
  have h2 : wrap64 (n : Int) = n := by unfold wrap64; omega
  by_cases h0 : n = 0
  · subst h0
    clear hn
    go_enter Try.func111, Try.ntmps111
    go_wp2
    go_ret
    exact ⟨_, rfl, Kd.R_nil _ _ _ _ _, Below.refl _ _⟩
  · have hpos : 0 < n := by omega
    have hd : decide ((n : Int) > 0) = true := decide_eq_true (by omega)
    have hd2 : decide (0 < (n : Int)) = true := decide_eq_true (by omega)
    have hd3 : decide ((n : Int) < 0) = false := decide_eq_false (by omega)
    have HB := Aside0.mk (Below.refl w.heap.size w)
    clear hn h0
    go_enter Try.func111, Try.ntmps111
    go_wp2_with (at_builtin; refine Kd.R_append_zeros (Kd.int .u8) (kx := .i64) (w0 := w) w.heap.size rfl (.tmp 20) (.tmp 21) 28 3 5 (.int .u8 0) 1 rfl Try.underlying28 Try.underlying3 growB.info rfl (by decide) (by omega) (.slice none 0 0) [] (0 : Int) (n : Int) (fun _ => True) ?hS ?hX (show Kd.M (Kd.int .u8) _ _ _ (0 : Int) [.int .u8 0] from rfl) (fun _ _ => trivial) (Kd.R_nil _ _ _ _ _) (by omega) HB.out HB.out.size (by have := HN.out; simp; omega) ?_; (case hS => first | rfl | (go_simp; done) | (go_simp; rfl)); (case hX => first | rfl | (go_simp; done) | (go_simp; rfl)); intro v1 w1 ho1 hb1 hg1 hat1; obtain ⟨A1, c1, rfl⟩ := Kd.R_slice ho1; have HO := Aside0.mk (Kd.R_take ho1 (Nat.zero_le _)); have HB2 := Aside0.mk hb1; clear ho1 hb1 hg1 hat1)
    go_ret
    exact ⟨_, rfl, HO.out, HB2.out⟩
def slices_Concat_byte_byte.f (l0 : List (List Int)) : Option (List Int) := if l0.flatten.length < 70368744177664 ∧ l0.length < 70368744177664 then some l0.flatten else none
theorem cat_snoc {l0 : List (List Int)} {i : Nat} (h : i < l0.length) : (l0.take (i + 1)).flatten = (l0.take i).flatten ++ l0.getD i [] := by
  rw [List.take_succ_eq_append_getElem h, List.flatten_append, List.getD_eq_getElem?_getD, List.getElem?_eq_getElem h]
  simp
theorem cat_part {l0 : List (List Int)} (i : Nat) : (l0.take i).flatten.length ≤ l0.flatten.length := by
  have := congrArg List.flatten (List.take_append_drop i l0)
  rw [List.flatten_append] at this
  have := congrArg List.length this
  rw [List.length_append] at this
  omega
theorem cat_at {w : World} {A : Option Addr} {n : Nat} {xs : List (List Int)} (h : Kd.C (Kd.slice 5 (Kd.int .u8)) w A n xs) (i : Nat) (h1 : i < n) : ∃ ad A1 c1, A = some ad ∧ w.cell? (ad.add i) = some (.slice A1 (xs.getD i []).length c1) ∧ (xs.getD i []).length ≤ c1 ∧ Kd.C (Kd.int .u8) w A1 (xs.getD i []).length (xs.getD i []) := by
  obtain ⟨ad, c, e, _, hK, hc⟩ := Kd.C_get h [] (i : Int) (by omega) (by omega)
  obtain ⟨A1, c1, e1, e2, e3⟩ := hK
  rw [Int.toNat_natCast] at e1 e2 e3 hc
  subst e1
  have := hc 0 _ rfl
  exact ⟨ad, A1, c1, e, by simpa [Kd.slice] using this, e2, e3⟩
set_option maxHeartbeats 8000000 in
set_option maxRecDepth 100000 in
theorem slices_Concat_byte_byte.calls (A0 : Option Addr) (c0 : Nat) (l0 : List (List Int)) (r : List Int) (w : World) (hr0 : Kd.C (Kd.slice 5 (Kd.int .u8)) w A0 l0.length l0) (hc0 : l0.length ≤ c0) (h : slices_Concat_byte_byte.f l0 = some r) :
 Calls Try.prog 85 #[.slice A0 l0.length c0] w fun e w' => ∃ v0_ : Value, e = .returned (v0_) ∧ Kd.R (Kd.int .u8) 5 w' w.heap.size (fun _ => True) v0_ r ∧ Below w.heap.size w w' := by
 unfold slices_Concat_byte_byte.f at h
 split at h
 · rename_i hl
   obtain rfl := Option.some.inj h
   have HR0 := Aside0.mk hr0
   have HN := Aside0.mk hl.1
   have HM := Aside0.mk hl.2
   clear h hl hr0 hc0
   go_enter Try.func85, Try.ntmps85
   go_wp2
   go_loopg [3, 11] l0.length (fun kq v3 v11 w' => ∃ i : Nat, v11 = .int .i64 i ∧ Aside0 (kq + i = l0.length) ∧ v3 = .int .i64 ((l0.take i).flatten.length : Int) ∧ Aside0 (w = w'))
   case atStart => exact ⟨0, rfl, ⟨rfl⟩, by simp, ⟨rfl⟩⟩
   case round =>
    obtain ⟨i, rfl, HK, rfl, HW⟩ := hrel
    obtain rfl := HW.out
    obtain ⟨sz, hsz⟩ : ∃ sz, sz = (l0.take i).flatten.length := ⟨_, rfl⟩
    rw [← hsz]
    have HSZ := Aside0.mk hsz
    clear hsz
    cases gk with
    | succ d =>
     have hi : i < l0.length := by have := HK.out; omega
     have hd1 : decide ((i : Int) < (l0.length : Int)) = true := decide_eq_true (by omega)
     have hi0 : (0 : Int) ≤ (i : Int) := by omega
     have hi1 : (i : Int) < (l0.length : Int) := by omega
     obtain ⟨ad, A1, c1, e, hx, hx1, hx2⟩ := cat_at HR0.out i hi
     subst e
     have hs := cat_snoc hi
     obtain ⟨y, hy⟩ : ∃ y, y = l0.getD i [] := ⟨_, rfl⟩
     rw [← hy] at hx hx1 hx2 hs
     have hp := cat_part (l0 := l0) (i + 1)
     rw [hs, List.length_append, ← HSZ.out] at hp
     have HY := Aside0.mk (show (l0.take (i + 1)).flatten.length = sz + y.length by rw [hs, List.length_append, ← HSZ.out])
     have hw1 : wrap64 ((sz : Int) + (y.length : Int)) = (sz : Int) + (y.length : Int) := by have := HN.out; unfold wrap64; omega
     have hw2 : wrap64 ((i : Int) + 1) = (i : Int) + 1 := by have := HM.out; unfold wrap64; omega
     have hd2 : decide ((sz : Int) + (y.length : Int) < 0) = false := decide_eq_false (by omega)
     have hd3 : ((sz : Int) + (y.length : Int) < 0) = False := eq_false (by omega)
     clear hs hp hi hx1 hx2 hy
     go_wp2
     go_roundg d
     case measure => have := HK.out; omega
     case rel => exact ⟨i + 1, by simp [hw2], ⟨by have := HK.out; omega⟩, by rw [HY.out]; simp [hw1], ⟨rfl⟩⟩
    | zero =>
     have hi : i = l0.length := by have := HK.out; omega
     subst hi
     have hsz2 : sz = l0.flatten.length := by rw [HSZ.out, List.take_length]
     have HG := Aside0.mk (show sz < 70368744177664 by rw [hsz2]; exact HN.out)
     clear hsz2
     go_wp2_with (go_at_call 111; refine (growB sz _ HG.out).mono ?_; rintro e w6 ⟨v6, rfl, ho6, hb6⟩; have HO6 := Aside0.mk ho6; have HB6 := Aside0.mk hb6; clear ho6 hb6)
     go_loopg [6, 27] l0.length (fun kq v6 v27 w' => ∃ i : Nat, v27 = .int .i64 i ∧ Aside0 (kq + i = l0.length) ∧ Aside0 (Kd.R (Kd.int .u8) 5 w' w.heap.size (fun _ => True) v6 (l0.take i).flatten) ∧ Aside0 (Below w.heap.size w w'))
     case atStart => exact ⟨0, rfl, ⟨rfl⟩, ⟨by simpa using HO6.out⟩, ⟨HB6.out⟩⟩
     case round =>
      clear HO6 HB6 HK
      obtain ⟨i, rfl, HK, HO, HB⟩ := hrel
      cases gk with
      | succ d =>
       have hi : i < l0.length := by have := HK.out; omega
       have hd1 : decide ((i : Int) < (l0.length : Int)) = true := decide_eq_true (by omega)
       have hi0 : (0 : Int) ≤ (i : Int) := by omega
       have hi1 : (i : Int) < (l0.length : Int) := by omega
       obtain ⟨ad, A1, c1, e, hx, hx1, hx2⟩ := cat_at (Kd.C_below HR0.out HB.out) i hi
       subst e
       have hs := cat_snoc hi
       obtain ⟨y, hy⟩ : ∃ y, y = l0.getD i [] := ⟨_, rfl⟩
       rw [← hy] at hx hx1 hx2 hs
       have hp := cat_part (l0 := l0) (i + 1)
       obtain ⟨z, hz⟩ : ∃ z, z = (l0.take i).flatten := ⟨_, rfl⟩
       have HO2 := HO
       rw [← hz] at hs HO2
       rw [hs, List.length_append] at hp
       have HS := Aside0.mk hs
       have HX2 := Aside0.mk hx2
       have HP := Aside0.mk (show (z.length + y.length) * 1 ≤ 140737488355328 by have := HN.out; omega)
       have hw2 : wrap64 ((i : Int) + 1) = (i : Int) + 1 := by have := HM.out; unfold wrap64; omega
       clear hs hp hi hx1 hx2 hy hz HO
       go_wp2_with (at_builtin; refine Kd.R_append_rows (Kd.int .u8) w.heap.size rfl (.tmp 31) (.tmp 32) 28 5 (.int .u8 0) 1 rfl Try.underlying28 growB.info rfl (by decide) (by decide) _ z y A1 y.length _ (fun _ => True) (fun _ => False) rfl rfl HO2.out HX2.out (fun _ _ h => h) (fun _ h => h.elim) (fun _ _ => trivial) HB.out HB.out.size HP.out ?_; intro v1 w1 ho1 hb1 hg1 _; have HO3 := Aside0.mk ho1; have HB3 := Aside0.mk hb1; clear ho1 hb1 hg1)
       go_roundg d
       case measure => have := HK.out; omega
       case rel => exact ⟨i + 1, by simp [hw2], ⟨by have := HK.out; omega⟩, ⟨by rw [HS.out]; exact HO3.out⟩, ⟨HB3.out⟩⟩
      | zero =>
       have hi : i = l0.length := by have := HK.out; omega
       subst hi
       have HO2 := Aside0.mk (show Kd.R (Kd.int .u8) 5 _ w.heap.size (fun _ => True) _ l0.flatten by have := HO.out; rwa [List.take_length] at this)
       clear HO
       go_wp2
       go_ret
       exact ⟨_, rfl, HO2.out, HB.out⟩
 · cases h
def command_sign.l0 : Nat → Int → List Int → Int → Int → Option (Int)
  | 0, _, _, _, _ => none
  | k + 1, x6, x16, x17, x18 => if x18 < x17 then (if 0 ≤ x18 then (if x18 < (x16.length : Int) then (command_sign.l0 k (IntKind.u64.wrap ((Go.bits .xor .u64 x6 (IntKind.u64.wrap (rd x16 x18))) * 1099511628211)) x16 x17 (wrap64 (x18 + 1))) else (none)) else (none)) else (some x6)
def command_sign.f (k : Nat) (a0 : Int) (l1 : List Int) : Option (Int) := (command_eight.f k (IntKind.u64.wrap (a0))).bind fun t101 => ((slices_Concat_byte_byte.f (([t101, l1, t101] : List (List Int)))).bind fun t107 => (command_sign.l0 k 14695981039346656037 t107 (t107.length : Int) 0))
theorem d70a {p : Prop} (h : p := by repeat (first | (with_reducible first | exact HB.out | apply below_alloc | apply pw_below_drewN | apply below_drew1) | exact HB.out)) : p := h
theorem d70b {p : Prop} (h : p := by (with_reducible repeat (first | apply Kd.V_alloc | apply Kd.V_drewN | apply Kd.V_drew)); exact HO1.out) : p := h
theorem d70c {p : Prop} (h : p := by first | rfl | (simp; done) | (simp [*]; done)) : p := h
set_option maxHeartbeats 8000000 in
set_option maxRecDepth 100000 in
theorem command_sign.calls (k : Nat) (a0 : Int) (P1_ : Nat → Prop) (A1 : Option Addr) (c1 : Nat) (l1 : List Int) (r : Int) (w : World) (hs1 : Kd.V (Kd.int .u8) 5 w w.heap.size (fun k_ => P1_ k_) (.slice A1 l1.length c1) l1) (h : command_sign.f k a0 l1 = some r) :
 Calls Try.prog 70 #[.int .i64 a0, .slice A1 l1.length c1] w fun e w' => e = .returned (.int .u64 r) ∧ Below w.heap.size w w' := by
 have HO1 := Aside0.mk (show Kd.V (Kd.int .u8) 5 w w.heap.size (fun k_ => (P1_ k_ ∨ w.heap.size ≤ k_)) (.slice A1 l1.length c1) l1 from Kd.V_mono hs1 (fun k_ hk => .inl hk))
 have HB := Aside0.mk (Below.refl w.heap.size w)
 have H : ((command_eight.f k (IntKind.u64.wrap (a0))).bind fun t101 => ((slices_Concat_byte_byte.f (([t101, l1, t101] : List (List Int)))).bind fun t107 => (command_sign.l0 k 14695981039346656037 t107 (t107.length : Int) 0))) = some r := h
 clear h
 replace H := bindS H; obtain ⟨t101, A3, H⟩ := H
 obtain ⟨y104, hy104⟩ : ∃ y_ : List (List Int), y_ = (([t101, l1, t101] : List (List Int))) := ⟨_, rfl⟩
 replace H : ((slices_Concat_byte_byte.f y104).bind fun t107 => (command_sign.l0 k 14695981039346656037 t107 (t107.length : Int) 0)) = some r := by first | (rw [hy104]; with_reducible exact H) | (have H2_ := (Option.bind_some _ _).symm.trans H; rw [hy104]; with_reducible exact H2_) | (have H2_ := (Option.bind_some _ _).symm.trans H; with_reducible exact H2_) | with_reducible exact H | (rw [hy104]; exact H) | exact H
 have Ny104 := Aside0.mk hy104
 clear hy104
 replace H := bindS H; obtain ⟨t107, A4, H⟩ := H
 have H' := Aside0.mk H
 clear H
 go_enter Try.func70, Try.ntmps70
 go_wp2_with (first | ((with_reducible refine gate_callee (f := 69) rfl ?_); refine goesL_ (some 11) rfl rfl Try.func69 (by kernel_rfl) rfl #[.int .u64 (IntKind.u64.wrap (a0))] rfl (by (try simp only [List.map_toArray, List.map_cons, List.map_nil]); first | done | rfl | (simp only [List.length_drop, List.length_take]; rfl)) ?_; (with_reducible refine (command_eight.calls k (IntKind.u64.wrap (a0)) t101 _ A3.out).mono ?_); rintro e w5 ⟨v102, rfl, ho0, hb⟩; refine ⟨_, rfl, ?_⟩; have n0_ := Aside0.mk (Kd.V_elder' d70b (Kd.R_base ho0) hb); have n1_ := Aside0.mk (Kd.R_lower (Kd.R_newM (M := fun k_ => (w.heap.size ≤ k_)) ho0 (below_size d70a) (fun k_ h_ => h_)) (below_size d70a)); have n2_ := Aside0.mk (below_step d70a hb); clear HO1; clear HB; have HO1 := n0_; have HO103 := n1_; have HB := n2_; clear n0_ n1_ n2_; (try clear hb); (try clear ho0); obtain ⟨Ao6, co6, eo6⟩ := Kd.R_slice HO103.out; subst eo6) | ((with_reducible refine gate_dst (N := 15) rfl ?_); refine Kd.N_lit (Kd.slice 5 (Kd.int .u8)) _ 28 ?hg (N' := 15) ?hd (xs := ([t101, l1, t101] : List (List Int))) (inner := [.slice Ao6 t101.length co6, .slice A1 l1.length c1, .slice Ao6 t101.length co6]) (ok := (fun k_ => (P1_ k_ ∨ w.heap.size ≤ k_))) (okp := (fun k_ => (P1_ k_ ∨ w.heap.size ≤ k_))) ?hr ?hp (fun _ hk => hk) ((show ∀ k_, w5.heap.size ≤ k_ → (fun k_ => (P1_ k_ ∨ w.heap.size ≤ k_)) k_ from fun k_ hk => (.inr (Nat.le_trans (below_size d70a) hk))) _ (Nat.le_refl _)) (Below.refl _ _) (Nat.le_refl _) (by simp) ?_; (case hd => rfl); (case hg => rfl); (case hr => first | (go_simp; done) | (go_simp; rfl)); (case hp => exact (Reps.one (show Kd.FK (Kd.slice 5 (Kd.int .u8)) _ _ t101 [.slice Ao6 t101.length co6] from (Kd.FK_slice_mk (Kd.R_reads' (Kd.R_mono (ok' := (fun k_ => (P1_ k_ ∨ w.heap.size ≤ k_))) (HO103.out) (fun k_ hk => (.inr (hk.1))))).2.1 (Kd.R_F (Kd.R_mono (ok' := (fun k_ => (P1_ k_ ∨ w.heap.size ≤ k_))) (HO103.out) (fun k_ hk => (.inr (hk.1))))))) (Reps.one (show Kd.FK (Kd.slice 5 (Kd.int .u8)) _ _ l1 [.slice A1 l1.length c1] from (Kd.FK_slice_mk (Kd.V_reads' (Kd.V_mono (ok' := (fun k_ => (P1_ k_ ∨ w.heap.size ≤ k_))) (HO1.out) (fun k_ hk => hk.1))).2.1 (Kd.V_F (Kd.V_mono (ok' := (fun k_ => (P1_ k_ ∨ w.heap.size ≤ k_))) (HO1.out) (fun k_ hk => hk.1))))) (Reps.one (show Kd.FK (Kd.slice 5 (Kd.int .u8)) _ _ t101 [.slice Ao6 t101.length co6] from (Kd.FK_slice_mk (Kd.R_reads' (Kd.R_mono (ok' := (fun k_ => (P1_ k_ ∨ w.heap.size ≤ k_))) (HO103.out) (fun k_ hk => (.inr (hk.1))))).2.1 (Kd.R_F (Kd.R_mono (ok' := (fun k_ => (P1_ k_ ∨ w.heap.size ≤ k_))) (HO103.out) (fun k_ hk => (.inr (hk.1))))))) (Reps.none _ _))))); intro v105 w7 ho8 hb hg_ hnew_; clear hg_ hnew_; (first | rw [← Ny104.out] at ho8 | (simp only [Int.reduceToNat] at ho8; rw [← Ny104.out] at ho8)); have n0_ := Aside0.mk (Kd.V_elder' d70b (Kd.N_base ho8) hb); have n1_ := Aside0.mk (Kd.N_lower ho8 (below_size d70a)); have n2_ := Aside0.mk (below_step d70a hb); clear HO1; clear HB; clear HO103; have HO1 := n0_; have HO106 := n1_; have HB := n2_; clear n0_ n1_ n2_; clear hb ho8; obtain ⟨Ao9, co9, eo9⟩ := Kd.N_slice HO106.out; subst eo9) | ((with_reducible refine gate_callee (f := 85) rfl ?_); refine goesL_ (some 16) rfl rfl Try.func85 (by kernel_rfl) rfl #[.slice Ao9 y104.length co9] rfl (by (try simp only [List.map_toArray, List.map_cons, List.map_nil]); first | done | rfl | (simp only [List.length_drop, List.length_take]; rfl)) ?_; (with_reducible refine (slices_Concat_byte_byte.calls _ _ y104 t107 _ ?side1 ?side2 A4.out).mono ?_); (case side1 => exact C_go (Kd.N_reads' HO106.out).2.2); (case side2 => exact (Kd.N_reads' HO106.out).2.1); rintro e w10 ⟨v108, rfl, ho0, hb⟩; refine ⟨_, rfl, ?_⟩; have n0_ := Aside0.mk (Kd.V_elder' d70b (Kd.R_base ho0) hb); have n1_ := Aside0.mk (Kd.N_elder' (by (with_reducible repeat (first | apply Kd.N_alloc | apply Kd.N_drewN | apply Kd.N_drew)); exact HO106.out) (Kd.R_base ho0) hb); have n2_ := Aside0.mk (Kd.R_lower (Kd.R_newM (M := fun k_ => (w.heap.size ≤ k_)) ho0 (below_size d70a) (fun k_ h_ => h_)) (below_size d70a)); have n3_ := Aside0.mk (below_step d70a hb); clear HO1; clear HO106; clear HB; have HO1 := n0_; have HO106 := n1_; have HO109 := n2_; have HB := n3_; clear n0_ n1_ n2_ n3_; (try clear hb); (try clear ho0); obtain ⟨Ao11, co11, eo11⟩ := Kd.R_slice HO109.out; subst eo11))
 go_loopg [6, 18] k (fun kq v6 v18 w' => ∃ (x6_1 : Int) (x18_1 : Int), v6 = .int .u64 x6_1 ∧ v18 = .int .i64 x18_1 ∧ Aside0 (command_sign.l0 kq x6_1 t107 (t107.length : Int) x18_1 = some r) ∧ Aside0 (kq ≤ k) ∧ Aside0 (Kd.R (Kd.int .u8) 5 w' w.heap.size (fun k_ => (w.heap.size ≤ k_)) (.slice Ao11 t107.length co11) t107) ∧ Aside0 (Below w.heap.size w w'))
 case atStart => exact ⟨(14695981039346656037), (0), d70c, d70c, H', ⟨Nat.le_refl _⟩, ⟨by (with_reducible repeat (first | apply Kd.R_alloc | apply Kd.R_drewN | apply Kd.R_drew)); exact Kd.R_mono HO109.out (fun _ hk => hk.1)⟩, ⟨d70a⟩⟩
 case round =>
  clear H'
  obtain ⟨x6_1, x18_1, rfl, rfl, HA, HK1, HO_16, HB⟩ := hrel
  cases gk with
  | zero => exact absurd HA.out (by simp [command_sign.l0])
  | succ k1 =>
   have H := HA.out
   clear HA
   simp only [command_sign.l0] at H
   by_cases c12 : x18_1 < (t107.length : Int)
   · rw [if_pos c12] at H
     have c12b0 : decide (x18_1 < (t107.length : Int)) = true := decide_eq_true c12
     clear c12
     replace H := guardT H; obtain ⟨c13, H⟩ := H
     have c13b0 : decide (0 ≤ x18_1) = true := decide_eq_true c13
     clear c13
     replace H := guardT H; obtain ⟨c14, H⟩ := H
     have c14b0 : decide (x18_1 < (t107.length : Int)) = true := decide_eq_true c14
     clear c14
     have H' := Aside0.mk H
     clear H
     have p110 : 0 ≤ (x18_1 : Int) := of_decide_eq_true (by first | (with_reducible assumption) | assumption)
     have q110 : x18_1 < (t107.length : Int) := of_decide_eq_true (by first | (with_reducible assumption) | assumption)
     obtain ⟨ad110, e110, hx110_0⟩ := Kd.at_int (Kd.R_reads' HO_16.out).2.2 x18_1 p110 q110
     cases e110
     replace p110 := eq_true p110
     replace q110 := eq_true q110
     go_wp2
     go_roundg k1
     case measure => have := HK1.out; omega
     case rel => exact ⟨(IntKind.u64.wrap ((Go.bits .xor .u64 x6_1 (IntKind.u64.wrap (rd t107 x18_1))) * 1099511628211)), (wrap64 (x18_1 + 1)), d70c, d70c, H', ⟨by have := HK1.out; omega⟩, ⟨by (with_reducible repeat (first | apply Kd.R_alloc | apply Kd.R_drewN | apply Kd.R_drew)); exact HO_16.out⟩, ⟨d70a⟩⟩
   · rw [if_neg c12] at H
     have c12b0 : decide (x18_1 < (t107.length : Int)) = false := decide_eq_false c12
     clear c12
     obtain rfl := Option.some.inj H
     go_wp2
     go_ret
     exact ⟨by first | rfl | (simp [errW_none, errW_some] <;> rfl) | (simp [*, errW_none, errW_some] <;> rfl), d70a⟩
end Go.Proofs.Ythmdnmfocnchkaa.Q
