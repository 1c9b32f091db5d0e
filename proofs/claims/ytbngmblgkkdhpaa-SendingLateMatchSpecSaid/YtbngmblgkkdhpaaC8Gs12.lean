-- Made by wip/tools/claimp.py of this session's texts; Lean checks it.
import Derived.Test.YtbngmblgkkdhpaaC8Q0
import Derived.Test.YtbngmblgkkdhpaaC8Gs10
import Derived.Test.YtbngmblgkkdhpaaC8Gs11
import Derived.Test.YtbngmblgkkdhpaaC8Gs3
import Derived.Test.YtbngmblgkkdhpaaC8Gs5
import Derived.Test.YtbngmblgkkdhpaaC8Gs6
import Derived.Test.YtbngmblgkkdhpaaC8Gs9
namespace Go.Proofs.Ytbngmblgkkdhpaa.Q
open Go.RowKit Go.Proofs.YtbngmblgkkdhpaaW.PrintWords Go.Proofs.YtbngmblgkkdhpaaW.PrintLast Go.Proofs.YtbngmblgkkdhpaaW.PrintMore
attribute [local go_sem] max2_int min2_int max_two min_two max_three min_three max_four min_four
open Go.Proofs.Ytbngmblgkkdhpaa.Base
attribute [local go_sem high] str_leq str_gtr str_geq
set_option linter.unusedVariables false
set_option linter.unusedSimpArgs false
def perigeeref10_rateAt.l0 : Nat → Int → Int → Int → ByteArray → Int → Int → List (S75) → Option (Int)
  | 0, _, _, _, _, _, _, _ => none
  | k + 1, x1, x5, x6, x102000, x102001, x102002, x102003 => if x6 < (x102003.length : Int) then (if 0 ≤ x6 then (if ((rd_T75 x102003 x6).f0) ≤ x1 then (perigeeref10_rateAt.l0 k x1 ((rd_T75 x102003 x6).f1) (wrap64 (x6 + 1)) x102000 x102001 x102002 x102003) else ((perigeeref10_within.f x1 x102001 (wrap64 (x102002 - 1))).bind fun t104 => (if t104 = true then (some x5) else (some 0)))) else (none)) else ((perigeeref10_within.f x1 x102001 (wrap64 (x102002 - 1))).bind fun t105 => (if t105 = true then (some x5) else (some 0)))
def perigeeref10_rateAt.f (k : Nat) (a0_0 : ByteArray) (a0_1 : Int) (a0_2 : Int) (l0_3 : List (S75)) (a1 : Int) : Option (Int) := perigeeref10_rateAt.l0 k a1 0 0 a0_0 a0_1 a0_2 l0_3
theorem d103a {p : Prop} (h : p := by repeat (first | (with_reducible first | exact HB.out | apply below_alloc | apply pw_below_drewN | apply below_drew1 | refine below_set ?_ GE101.out) | exact HB.out)) : p := h
theorem d103b {p : Prop} (h : p := by (try simp only [List.map_toArray, List.map_cons, List.map_nil]); first | done | rfl | (simp only [List.length_drop, List.length_take]; rfl)) : p := h
theorem d103c {p : Prop} (h : p := by repeat (first | (with_reducible first | exact HB.out | apply below_alloc | apply pw_below_drewN | apply below_drew1) | exact HB.out)) : p := h
theorem d103d {p : Prop} (h : p := by first | rfl | (simp [errW_none, errW_some] <;> rfl) | (simp [*, errW_none, errW_some] <;> rfl)) : p := h
theorem d103e {p : Prop} (h : p := by first | (with_reducible assumption) | assumption) : p := h
theorem d103f {p : Prop} (h : p := by first | rfl | (simp; done) | (simp [*]; done)) : p := h
set_option maxHeartbeats 8000000 in
set_option maxRecDepth 100000 in
theorem perigeeref10_rateAt.calls (k : Nat) (a0_0 : ByteArray) (a0_1 : Int) (a0_2 : Int) (A0_3 : Option Addr) (c0_3 : Nat) (l0_3 : List (S75)) (a1 : Int) (r : Int) (w : World) (hr0_3 : Kd.C k75 w A0_3 l0_3.length l0_3) (hc0_3 : l0_3.length ≤ c0_3) (h : perigeeref10_rateAt.f k a0_0 a0_1 a0_2 l0_3 a1 = some r) :
 Calls Try.prog 103 #[.agg #[.string a0_0, .int .i64 a0_1, .int .i64 a0_2, .slice A0_3 l0_3.length c0_3], .int .i64 a1] w fun e w' => e = .returned (.int .i64 r) ∧ Below w.heap.size w w' := by
 have hu33 := Try.underlying33
 have HR0_3 := Aside0.mk hr0_3
 have HC0_3 := Aside0.mk hc0_3
 clear hr0_3 hc0_3
 have HB := Aside0.mk (Below.refl w.heap.size w)
 have H : (perigeeref10_rateAt.l0 k a1 0 0 a0_0 a0_1 a0_2 l0_3) = some r := h
 clear h
 have H' := Aside0.mk H
 clear H
 go_enter Try.func103, Try.ntmps103
 go_wp2_with ((with_reducible refine gate_dst (N := 2) rfl ?_); refine box_event ?hg (N := 2) ?hd (cs := #[.string a0_0, .int .i64 a0_1, .int .i64 a0_2, .slice A0_3 l0_3.length c0_3]) (t := 33) ?hr ?_; (case hd => rfl); (case hg => rfl); (case hr => first | (go_simp; done) | (go_simp; rfl)); intro gb101 hg w3 hbox hb; have n0_ := Aside0.mk (below_step d103c hb); have n1_ := Aside0.mk (hbox); have n2_ := Aside0.mk ((by rw [hg]; exact (below_size d103c) : w.heap.size ≤ gb101)); have n3_ := Aside0.mk ((by rw [hg]; exact (below_size d103c) : w.heap.size ≤ gb101)); clear HB; have HB := n0_; have BK101 := n1_; have GW101 := n2_; have GE101 := n3_; clear n0_ n1_ n2_ n3_; clear hb hbox hg)
 go_loopg [5, 6] k (fun kq v5 v6 w' => ∃ (x5_1 : Int) (x6_1 : Int), v5 = .int .i64 x5_1 ∧ v6 = .int .i64 x6_1 ∧ Aside0 (perigeeref10_rateAt.l0 kq a1 x5_1 x6_1 a0_0 a0_1 a0_2 l0_3 = some r) ∧ Aside0 (kq ≤ k) ∧ Aside0 (w'.heap[gb101]? = some (.cells #[.string a0_0, .int .i64 a0_1, .int .i64 a0_2, (.slice A0_3 l0_3.length c0_3)] 33 (0, 0))) ∧ Aside0 (Below w.heap.size w w'))
 case atStart => exact ⟨(0), (0), d103f, d103f, H', ⟨Nat.le_refl _⟩, ⟨by (with_reducible repeat (first | refine blk_drewN ?_ _ | refine blk_drew ?_ | refine blk_alloc ?_ _)); exact BK101.out⟩, ⟨d103a⟩⟩
 case round =>
  clear H'
  obtain ⟨x5_1, x6_1, rfl, rfl, HA, HK1, BK101, HB⟩ := hrel
  cases gk with
  | zero => exact absurd HA.out (by simp [perigeeref10_rateAt.l0])
  | succ k1 =>
   have H := HA.out
   clear HA
   simp only [perigeeref10_rateAt.l0] at H
   by_cases c4 : x6_1 < (l0_3.length : Int)
   · rw [if_pos c4] at H
     have c4b0 : decide (x6_1 < (l0_3.length : Int)) = true := decide_eq_true c4
     clear c4
     replace H := guardT H; obtain ⟨c5, H⟩ := H
     have c5b0 : decide (0 ≤ x6_1) = true := decide_eq_true c5
     clear c5
     by_cases c6 : ((rd_T75 l0_3 x6_1).f0) ≤ a1
     · rw [if_pos c6] at H
       have c6b0 : decide (((rd_T75 l0_3 x6_1).f0) ≤ a1) = true := decide_eq_true c6
       clear c6
       have H' := Aside0.mk H
       clear H
       obtain ⟨hcz7_0, hcz7_1, hcz7_2, hcz7_3⟩ := blkC4 BK101.out
       have hfz7_0 := blk_frozen BK101.out 0
       have hfz7_1 := blk_frozen BK101.out 1
       have hfz7_2 := blk_frozen BK101.out 2
       have hfz7_3 := blk_frozen BK101.out 3
       have p102 : 0 ≤ (x6_1 : Int) := of_decide_eq_true d103e
       have q102 : x6_1 < (l0_3.length : Int) := of_decide_eq_true d103e
       obtain ⟨ad102, e102, hx102_0, hx102_1⟩ := at_T75 HR0_3.out x6_1 p102 q102
       cases e102
       replace hx102_0 := cellB HB.out hx102_0
       replace hx102_1 := cellB HB.out hx102_1
       replace p102 := eq_true p102
       replace q102 := eq_true q102
       have p103 : 0 ≤ (x6_1 : Int) := of_decide_eq_true d103e
       have q103 : x6_1 < (l0_3.length : Int) := of_decide_eq_true d103e
       obtain ⟨ad103, e103, hx103_0, hx103_1⟩ := at_T75 HR0_3.out x6_1 p103 q103
       obtain rfl : ad102 = ad103 := (by injection e103)
       replace hx103_0 := cellB HB.out hx103_0
       replace hx103_1 := cellB HB.out hx103_1
       replace p103 := eq_true p103
       replace q103 := eq_true q103
       go_wp2
       go_roundg k1
       case measure => have := HK1.out; omega
       case rel => exact ⟨((rd_T75 l0_3 x6_1).f1), (wrap64 (x6_1 + 1)), d103f, d103f, H', ⟨by have := HK1.out; omega⟩, ⟨by (with_reducible repeat (first | refine blk_drewN ?_ _ | refine blk_drew ?_ | refine blk_alloc ?_ _)); exact BK101.out⟩, ⟨d103a⟩⟩
     · rw [if_neg c6] at H
       have c6b0 : decide (((rd_T75 l0_3 x6_1).f0) ≤ a1) = false := decide_eq_false c6
       clear c6
       replace H := bindS H; obtain ⟨t104, A8, H⟩ := H
       by_cases c9 : t104 = true
       · subst c9
         replace H := iteT H
         obtain rfl := Option.some.inj H
         obtain ⟨hcz10_0, hcz10_1, hcz10_2, hcz10_3⟩ := blkC4 BK101.out
         have hfz10_0 := blk_frozen BK101.out 0
         have hfz10_1 := blk_frozen BK101.out 1
         have hfz10_2 := blk_frozen BK101.out 2
         have hfz10_3 := blk_frozen BK101.out 3
         have p102 : 0 ≤ (x6_1 : Int) := of_decide_eq_true d103e
         have q102 : x6_1 < (l0_3.length : Int) := of_decide_eq_true d103e
         obtain ⟨ad102, e102, hx102_0, hx102_1⟩ := at_T75 HR0_3.out x6_1 p102 q102
         cases e102
         replace hx102_0 := cellB HB.out hx102_0
         replace hx102_1 := cellB HB.out hx102_1
         replace p102 := eq_true p102
         replace q102 := eq_true q102
         go_wp2_with ((with_reducible refine gate_callee (f := 42) rfl ?_); refine goesL_ (some 36) rfl rfl Try.func42 (by kernel_rfl) rfl #[.int .i64 a1, .int .i64 a0_1, .int .i64 (wrap64 (a0_2 - 1))] rfl d103b ?_; (with_reducible refine (perigeeref10_within.calls a1 a0_1 (wrap64 (a0_2 - 1)) true _ A8.out).mono ?_); rintro e w' ⟨rfl, ⟨nd, rfl⟩⟩; refine ⟨_, rfl, ?_⟩)
         go_ret
         exact ⟨d103d, d103a⟩
       · replace c9 := Bool.eq_false_iff.mpr c9
         subst c9
         replace H := iteF H
         obtain rfl := Option.some.inj H
         obtain ⟨hcz11_0, hcz11_1, hcz11_2, hcz11_3⟩ := blkC4 BK101.out
         have hfz11_0 := blk_frozen BK101.out 0
         have hfz11_1 := blk_frozen BK101.out 1
         have hfz11_2 := blk_frozen BK101.out 2
         have hfz11_3 := blk_frozen BK101.out 3
         have p102 : 0 ≤ (x6_1 : Int) := of_decide_eq_true d103e
         have q102 : x6_1 < (l0_3.length : Int) := of_decide_eq_true d103e
         obtain ⟨ad102, e102, hx102_0, hx102_1⟩ := at_T75 HR0_3.out x6_1 p102 q102
         cases e102
         replace hx102_0 := cellB HB.out hx102_0
         replace hx102_1 := cellB HB.out hx102_1
         replace p102 := eq_true p102
         replace q102 := eq_true q102
         go_wp2_with ((with_reducible refine gate_callee (f := 42) rfl ?_); refine goesL_ (some 36) rfl rfl Try.func42 (by kernel_rfl) rfl #[.int .i64 a1, .int .i64 a0_1, .int .i64 (wrap64 (a0_2 - 1))] rfl d103b ?_; (with_reducible refine (perigeeref10_within.calls a1 a0_1 (wrap64 (a0_2 - 1)) false _ A8.out).mono ?_); rintro e w' ⟨rfl, ⟨nd, rfl⟩⟩; refine ⟨_, rfl, ?_⟩)
         go_ret
         exact ⟨d103d, d103a⟩
   · rw [if_neg c4] at H
     have c4b0 : decide (x6_1 < (l0_3.length : Int)) = false := decide_eq_false c4
     clear c4
     replace H := bindS H; obtain ⟨t105, A12, H⟩ := H
     by_cases c13 : t105 = true
     · subst c13
       replace H := iteT H
       obtain rfl := Option.some.inj H
       obtain ⟨hcz14_0, hcz14_1, hcz14_2, hcz14_3⟩ := blkC4 BK101.out
       have hfz14_0 := blk_frozen BK101.out 0
       have hfz14_1 := blk_frozen BK101.out 1
       have hfz14_2 := blk_frozen BK101.out 2
       have hfz14_3 := blk_frozen BK101.out 3
       go_wp2_with ((with_reducible refine gate_callee (f := 42) rfl ?_); refine goesL_ (some 36) rfl rfl Try.func42 (by kernel_rfl) rfl #[.int .i64 a1, .int .i64 a0_1, .int .i64 (wrap64 (a0_2 - 1))] rfl d103b ?_; (with_reducible refine (perigeeref10_within.calls a1 a0_1 (wrap64 (a0_2 - 1)) true _ A12.out).mono ?_); rintro e w' ⟨rfl, ⟨nd, rfl⟩⟩; refine ⟨_, rfl, ?_⟩)
       go_ret
       exact ⟨d103d, d103a⟩
     · replace c13 := Bool.eq_false_iff.mpr c13
       subst c13
       replace H := iteF H
       obtain rfl := Option.some.inj H
       obtain ⟨hcz15_0, hcz15_1, hcz15_2, hcz15_3⟩ := blkC4 BK101.out
       have hfz15_0 := blk_frozen BK101.out 0
       have hfz15_1 := blk_frozen BK101.out 1
       have hfz15_2 := blk_frozen BK101.out 2
       have hfz15_3 := blk_frozen BK101.out 3
       go_wp2_with ((with_reducible refine gate_callee (f := 42) rfl ?_); refine goesL_ (some 36) rfl rfl Try.func42 (by kernel_rfl) rfl #[.int .i64 a1, .int .i64 a0_1, .int .i64 (wrap64 (a0_2 - 1))] rfl d103b ?_; (with_reducible refine (perigeeref10_within.calls a1 a0_1 (wrap64 (a0_2 - 1)) false _ A12.out).mono ?_); rintro e w' ⟨rfl, ⟨nd, rfl⟩⟩; refine ⟨_, rfl, ?_⟩)
       go_ret
       exact ⟨d103d, d103a⟩
def sendOK (q : List S63) (st : RX) (item : Int) : Prop := (0 ≤ item ∧ item < (q.length : Int)) ∧ st.left.length = q.length ∧ st.done.length = q.length ∧ st.parts.length < 1000000000
instance (q : List S63) (st : RX) (item : Int) : Decidable (sendOK q st item) := by unfold sendOK; infer_instance
def firstOK (q : List S63) (st : RX) : Prop := st.left.length = q.length ∧ q.length ≤ 1000000
instance (q : List S63) (st : RX) : Decidable (firstOK q st) := by unfold firstOK; infer_instance
def frstV (q : List S63) (st : RX) (at_ : Int) : Int := firstTo q st.left at_ q.length
/-- The rate of a pass at a moment. -/
def rtX (K : Nat) (ps : List S33) (b t : Int) : Option Int := if 0 ≤ b ∧ b < (ps.length : Int) then perigeeref10_rateAt.f K (rd_T33 ps b).f0 (rd_T33 ps b).f1 (rd_T33 ps b).f2 (rd_T33 ps b).f3 t else none
/-- What one pass takes in a millisecond; whether nothing is left to be sent. -/
def roomX (q : List S63) (pass at_ : Int) : Nat → RX → Int → Option (RX × Bool)
  | 0, _, _ => none
  | k + 1, st, room => if room > 0 then (if firstOK q st then (if frstV q st at_ < 0 then some (st, true) else if sendOK q st (frstV q st at_) then
      roomX q pass at_ k (sendX q st (frstV q st at_) pass at_ (wrap64 (at_ + 1)) (mn room (rd st.left (frstV q st at_)))) (wrap64 (room - mn room (rd st.left (frstV q st at_))))
      else none) else none) else some (st, false)
def oneX (q : List S63) (rt : Int → Int → Option Int) (k : Nat) (at_ : Int) : List Int → RX → Option RX
  | [], st => some st
  | b :: r, st => (rt b at_).bind fun room => (roomX q b at_ k st room).bind fun p => if p.2 = true then some p.1 else oneX q rt k at_ r p.1
section
variable {w0 W W' W1 W2 : World} {g : Nat} {V V1 : RV} {ps : List S33} {bk : List Int} {q : List S63} {st st2 : RX}
theorem RunTo.bel (h : RunTo w0 W g V ps bk q st W1) : Below w0.heap.size w0 W1 := by obtain ⟨_, h1, _⟩ := h; exact h1.bel
theorem RunTo.sends (h : RunTo w0 W g V ps bk q st W1) (item pass frm to_ size : Int) (hk : sendOK q st item) :
    Calls Try.prog 106 #[.pointer (some ⟨g, 0, none⟩), .int .i64 item, .int .i64 pass, .int .i64 frm, .int .i64 to_, .int .i64 size] W1 fun e w' => e = .returned (.tuple #[]) ∧ RunTo w0 W g V ps bk q (sendX q st item pass frm to_ size) w' := by
  obtain ⟨V3, h3, e1, e2, e3, e4, e5, e6⟩ := h
  exact (send_calls item pass frm to_ size h3 hk.1 hk.2.1 hk.2.2.1 hk.2.2.2).mono (fun _ _ hq => ⟨hq.1, RunTo.trans e1 e2 e3 e4 e5 e6 hq.2⟩)
theorem RunTo.firsts (h : RunTo w0 W g V ps bk q st W1) (at_ : Int) (hk : firstOK q st) {fv : Int} (hf : fv = frstV q st at_) :
    Calls Try.prog 104 #[.pointer (some ⟨g, 0, none⟩), .int .i64 at_] W1 fun e w' => e = .returned (.int .i64 fv) ∧ RunTo w0 W g V ps bk q st w' := by
  obtain ⟨V3, h3, e1, e2, e3, e4, e5, e6⟩ := h
  exact (first_calls at_ h3 hk.1 hk.2).mono (fun _ _ hq => ⟨by rw [hf]; exact hq.1, V3, h3.below hq.2, e1, e2, e3, e4, e5, e6.trans (IntsButR.below hq.2)⟩)
/-- A booked pass, as the run has it. -/
theorem RunAt.pass (h : RunAt w0 W g V ps bk q st) {i : Nat} (hi : i < bk.length) {b : Int} (hb : b = rd bk (i : Int)) (b0 : 0 ≤ b) (b1 : b < (ps.length : Int)) :
    ∃ ab ap A3 c3, V.Ab = some ab ∧ V.Ap = some ap ∧ W.cell? ⟨g, 0, none⟩ = some (.slice (some ap) ps.length V.cp) ∧ W.cell? ⟨g, 1, none⟩ = some (.slice (some ab) bk.length V.cb) ∧ W.cell? (ab.add i) = some (.int .i64 b) ∧
      W.cell? (ap.add (b.toNat * 4)) = some (.string (rd_T33 ps b).f0) ∧ W.cell? ⟨(ap.add (b.toNat * 4)).block, (ap.add (b.toNat * 4)).off + 1, none⟩ = some (.int .i64 (rd_T33 ps b).f1) ∧ W.cell? ⟨(ap.add (b.toNat * 4)).block, (ap.add (b.toNat * 4)).off + 2, none⟩ = some (.int .i64 (rd_T33 ps b).f2) ∧ W.cell? ⟨(ap.add (b.toNat * 4)).block, (ap.add (b.toNat * 4)).off + 3, none⟩ = some (.slice A3 (rd_T33 ps b).f3.length c3) ∧ (rd_T33 ps b).f3.length ≤ c3 ∧ k75.C W A3 (rd_T33 ps b).f3.length (rd_T33 ps b).f3 := by
  obtain ⟨ap, A3, c3, ep, hx0, hx1, hx2, hx3, hs3, hr3⟩ := at_T33 (Kd.C_below h.psC h.bel) b b0 b1
  obtain ⟨ab, eb, hy⟩ := Kd.at_int (Kd.C_below h.bkC h.bel) (i : Int) (by omega) (by omega)
  rw [← hb, Int.toNat_natCast] at hy
  exact ⟨ab, ap, A3, c3, eb, ep, by rw [← ep]; exact h.c0, by rw [← eb]; exact h.c1, hy, hx0, hx1, hx2, hx3, hs3, hr3⟩
end
set_option maxHeartbeats 8000000 in
set_option maxRecDepth 100000 in
theorem one_calls {w0 W : World} {g : Nat} {V : RV} {ps : List S33} {bk : List Int} {q : List S63} {st : RX} (at_ : Int) (K k : Nat) (r : RX) (h : RunAt w0 W g V ps bk q st) (hbl : bk.length ≤ 1000000) (hr : oneX q (rtX K ps) k at_ bk st = some r) :
    Calls Try.prog 105 #[.pointer (some ⟨g, 0, none⟩), .int .i64 at_] W fun e w' => e = .returned (.tuple #[]) ∧ RunTo w0 W g V ps bk q r w' := by
  have HT0 := Aside0.mk (RunTo.refl h)
  have HBL := Aside0.mk hbl
  have HR0 := Aside0.mk hr
  clear h hbl hr
  go_enter Try.func105, Try.ntmps105
  go_wp2
  go_loopg [4] bk.length (fun kq v4 w' => ∃ (i : Nat) (st1 : RX), v4 = .int .i64 (i : Int) ∧ Aside0 (kq + i = bk.length) ∧ Aside0 (oneX q (rtX K ps) k at_ (bk.drop i) st1 = some r) ∧ Aside0 (RunTo w0 W g V ps bk q st1 w'))
  case atStart => exact ⟨0, st, rfl, ⟨rfl⟩, ⟨HR0.out⟩, HT0⟩
  case round =>
    clear HT0 HR0
    obtain ⟨i, st1, rfl, HK, HR, HT⟩ := hrel
    obtain ⟨V1, h1, _⟩ := HT.out
    cases gk with
    | zero =>
      have hi : i = bk.length := by have := HK.out; omega
      subst hi
      have hr := HR.out
      rw [List.drop_length] at hr
      obtain rfl := Option.some.inj hr
      have x1 := h1.c1
      have d0 : decide ((bk.length : Int) < (bk.length : Int)) = false := decide_eq_false (by omega)
      clear hr HK HR h1
      go_wp2
      go_end0
      exact ⟨rfl, HT.out⟩
    | succ d =>
      have hi : i < bk.length := by have := HK.out; omega
      have hi0 : (0 : Int) ≤ (i : Int) := by omega
      have hi1 : (i : Int) < (bk.length : Int) := by omega
      have hd1 : decide ((i : Int) < (bk.length : Int)) = true := decide_eq_true hi1
      have hwi : wrap64 ((i : Int) + 1) = ((i + 1 : Nat) : Int) := by have := HBL.out; unfold wrap64; omega
      have hr := HR.out
      obtain ⟨b, hb⟩ : ∃ b, b = rd bk (i : Int) := ⟨_, rfl⟩
      rw [List.drop_eq_getElem_cons hi, ← rd_of hi, ← hb, oneX.eq_2] at hr
      obtain ⟨room, hrt, hr⟩ := Option.bind_eq_some_iff.mp hr
      obtain ⟨p, hroom, hr⟩ := Option.bind_eq_some_iff.mp hr
      unfold rtX at hrt
      by_cases hbb : 0 ≤ b ∧ b < (ps.length : Int)
      · obtain ⟨b0, b1⟩ := hbb
        rw [if_pos ⟨b0, b1⟩] at hrt
        obtain ⟨ab, ap, A3, c3, eb, ep, x0, x1, y, z0, z1, z2, z3, hs3, hr3⟩ := h1.pass hi hb b0 b1
        obtain ⟨x, hx⟩ : ∃ x, x = rd_T33 ps b := ⟨_, rfl⟩
        rw [← hx] at hrt z0 z1 z2 z3 hs3 hr3
        have p1 : decide (b < (ps.length : Int)) = true := decide_eq_true b1
        have p0 := eq_true b0
        have HB := Aside0.mk hb
        have HRT := Aside0.mk hrt
        have HROOM := Aside0.mk hroom
        have HFIN := Aside0.mk hr
        have HS3 := Aside0.mk hs3
        have HR3 := Aside0.mk hr3
        clear hb hrt hroom hr hs3 hr3 hx eb ep HR h1
        go_wp2
        go_still_tail 14, (by kernel_rfl)
        change wpList _ _ _ _ _ wr.drew
        go_wp2_with (first | (go_at_call 103; go_loud (with_reducible refine (perigeeref10_rateAt.calls K x.f0 x.f1 x.f2 A3 c3 x.f3 at_ room _ (Kd.C_below HR3.out (below_drew (Below.refl _ _))) HS3.out HRT.out).mono ?_); rintro e w1 ⟨rfl, hb1⟩; have HT1 := Aside0.mk (HT.out.lower (below_step (below_drew (Below.refl wr.heap.size wr)) hb1)); clear hb1 x0 x1 y z0 z1 z2 z3))
        go_loopg [5] k (fun kq v5 w' => ∃ (rm : Int) (st2 : RX), v5 = .int .i64 rm ∧ Aside0 (roomX q b at_ kq st2 rm = some p) ∧ Aside0 (RunTo w0 W g V ps bk q st2 w'))
        case atStart => exact ⟨room, st1, rfl, ⟨HROOM.out⟩, HT1⟩
        case round =>
          clear HT1 HT HROOM HRT HR3
          obtain ⟨rm, st2, rfl, HRM, HT⟩ := hrel
          cases gk with
          | zero => have := HRM.out; cases this
          | succ e =>
            have hrm := HRM.out
            unfold roomX at hrm
            by_cases c1 : rm > 0
            · have d1 : decide (0 < rm) = true := decide_eq_true c1
              rw [if_pos c1] at hrm
              by_cases c2 : firstOK q st2
              · rw [if_pos c2] at hrm
                obtain ⟨V2, h2, _⟩ := id HT.out
                have H2 := Aside0.mk h2
                have C2 := Aside0.mk c2
                clear c2 h2 c1
                by_cases c3' : frstV q st2 at_ < 0
                · rw [if_pos c3'] at hrm
                  obtain rfl := Option.some.inj hrm
                  have hf := HFIN.out
                  rw [if_pos rfl] at hf
                  obtain rfl := Option.some.inj hf
                  obtain ⟨fv, hfv⟩ : ∃ fv, fv = frstV q st2 at_ := ⟨_, rfl⟩
                  rw [← hfv] at c3'
                  have d3 : decide (fv < 0) = true := decide_eq_true c3'
                  have HFV := Aside0.mk hfv
                  clear hf hrm HFIN HRM c3' hfv
                  go_wp2_with (first | (go_at_call 104; go_loud (with_reducible refine (HT.out.firsts at_ C2.out HFV.out).mono ?_); rintro e w3 ⟨rfl, ht3⟩; have HT3 := Aside0.mk ht3; clear ht3))
                  (try simp only [Exit.inBlock, Exit.then])
                  refine bodyPost_ret (results_none rfl _ _ _) rfl ?_
                  exact ⟨rfl, HT3.out⟩
                · rw [if_neg c3'] at hrm
                  by_cases c4 : sendOK q st2 (frstV q st2 at_)
                  · rw [if_pos c4] at hrm
                    obtain ⟨fv, hfv⟩ : ∃ fv, fv = frstV q st2 at_ := ⟨_, rfl⟩
                    rw [← hfv] at c3' c4 hrm
                    have d3 : decide (fv < 0) = false := decide_eq_false c3'
                    have HFV := Aside0.mk hfv
                    have C4 := Aside0.mk c4
                    have f0 : 0 ≤ fv := c4.1.1
                    have f1 : fv < (st2.left.length : Int) := by have := c4.1.2; have := c4.2.1; omega
                    obtain ⟨lv, hlv⟩ : ∃ lv, lv = rd st2.left fv := ⟨_, rfl⟩
                    obtain ⟨nv, hnv⟩ : ∃ nv, nv = mn rm lv := ⟨_, rfl⟩
                    rw [← hlv, ← hnv] at hrm
                    have HLV := Aside0.mk hlv
                    have HNV := Aside0.mk hnv
                    clear hfv c3' c4 hlv HRM
                    by_cases c5 : lv < rm
                    · have e5 : nv = lv := by rw [hnv]; unfold mn; first | omega | (split <;> omega)
                      rw [e5] at hrm
                      have HRM2 := Aside0.mk hrm
                      clear hrm hnv e5 HNV
                      go_wp2_with (first
                        | (go_at_call 104; go_loud (with_reducible refine (HT.out.firsts at_ C2.out HFV.out).mono ?_); rintro e w3 ⟨rfl, ht3⟩; have HT3 := Aside0.mk ht3; obtain ⟨V3, h3, _⟩ := ht3; obtain ⟨gs, cs, _, x3, y3, _⟩ := h3.leftAt fv f0 f1; rw [← HLV.out] at y3; have ea : (⟨gs, 0, none⟩ : Addr).add fv.toNat = ⟨gs, fv.toNat, none⟩ := add_plain _ _; obtain ⟨ab2, _, _, _, _, _, _, xb, yb, _⟩ := h3.pass hi HB.out b0 b1; clear h3)
                        | (go_at_call 106; go_loud (with_reducible refine (HT3.out.sends fv b at_ (wrap64 (at_ + 1)) lv C4.out).mono ?_); rintro e w4 ⟨rfl, ht4⟩; have HT4 := Aside0.mk ht4; clear ht4 x3 y3 xb yb))
                      go_roundg e
                      case measure => omega
                      case rel => exact ⟨wrap64 (rm - lv), _, (by first | rfl | (simp; done) | (simp [wrap64]; done)), HRM2, HT4⟩
                    · have e5 : nv = rm := by rw [hnv]; unfold mn; first | omega | (split <;> omega)
                      rw [e5] at hrm
                      have HRM2 := Aside0.mk hrm
                      clear hrm hnv e5 HNV
                      go_wp2_with (first
                        | (go_at_call 104; go_loud (with_reducible refine (HT.out.firsts at_ C2.out HFV.out).mono ?_); rintro e w3 ⟨rfl, ht3⟩; have HT3 := Aside0.mk ht3; obtain ⟨V3, h3, _⟩ := ht3; obtain ⟨gs, cs, _, x3, y3, _⟩ := h3.leftAt fv f0 f1; rw [← HLV.out] at y3; have ea : (⟨gs, 0, none⟩ : Addr).add fv.toNat = ⟨gs, fv.toNat, none⟩ := add_plain _ _; obtain ⟨ab2, _, _, _, _, _, _, xb, yb, _⟩ := h3.pass hi HB.out b0 b1; clear h3)
                        | (go_at_call 106; go_loud (with_reducible refine (HT3.out.sends fv b at_ (wrap64 (at_ + 1)) rm C4.out).mono ?_); rintro e w4 ⟨rfl, ht4⟩; have HT4 := Aside0.mk ht4; clear ht4 x3 y3 xb yb))
                      go_roundg e
                      case measure => omega
                      case rel => exact ⟨wrap64 (rm - rm), _, (by first | rfl | (simp; done) | (simp [wrap64]; done)), HRM2, HT4⟩
                  · rw [if_neg c4] at hrm
                    cases hrm
              · rw [if_neg c2] at hrm
                cases hrm
            · have d1 : decide (0 < rm) = false := decide_eq_false c1
              rw [if_neg c1] at hrm
              obtain rfl := Option.some.inj hrm
              have hf := HFIN.out
              rw [if_neg (by simp)] at hf
              have HF2 := Aside0.mk hf
              clear hf hrm HFIN HRM c1
              go_wp2
              go_roundg d
              case measure => omega
              case rel => exact ⟨i + 1, st2, (by first | rfl | (rw [hwi]) | (simp [hwi]; done) | (simp; done)), ⟨by have := HK.out; omega⟩, HF2, HT⟩
      · rw [if_neg hbb] at hrt
        cases hrt
def sendAllX (q : List S63) (rt : Int → Int → Option Int) (item at_ to_ n : Int) : List Int → RX → Option RX
  | [], st => some st
  | b :: r, st => (rt b at_).bind fun rate => if rate > 0 then (if sendOK q st item then sendAllX q rt item at_ to_ n r (sendX q st item b at_ to_ (wrap64 (n * rate))) else none) else sendAllX q rt item at_ to_ n r st
def sumX (rt : Int → Int → Option Int) (at_ : Int) : List Int → Int → Option Int
  | [], all => some all
  | b :: r, all => (rt b at_).bind fun x => sumX rt at_ r (wrap64 (all + x))
def stepR (q : List S63) (st : RX) (at_ to_ all : Int) : Int := mn (wrap64 (to_ - at_)) (wrap64 ((rd st.left (frstV q st at_)).tdiv all))
def stretchRX (q : List S63) (bk : List Int) (rt : Int → Int → Option Int) (all to_ : Int) : Nat → RX → Int → Option RX
  | 0, _, _ => none
  | k + 1, st, at_ => if at_ < to_ then (if all > 0 then (if firstOK q st then (if frstV q st at_ < 0 then some st else if frstV q st at_ < (q.length : Int) then
      (if stepR q st at_ to_ all = 0 then (oneX q rt k at_ bk st).bind fun st' => stretchRX q bk rt all to_ k st' (wrap64 (at_ + 1))
      else (sendAllX q rt (frstV q st at_) at_ (wrap64 (at_ + stepR q st at_ to_ all)) (stepR q st at_ to_ all) bk st).bind fun st' => stretchRX q bk rt all to_ k st' (wrap64 (at_ + stepR q st at_ to_ all)))
      else none) else none) else some st) else some st
def stretchR (q : List S63) (bk : List Int) (rt : Int → Int → Option Int) (k : Nat) (frm to_ : Int) (st : RX) : Option RX :=
  (sumX rt frm bk 0).bind fun all => stretchRX q bk rt all to_ k st frm
section
variable {w0 W W' W1 W2 : World} {g : Nat} {V V1 : RV} {ps : List S33} {bk : List Int} {q : List S63} {st st2 : RX}
theorem RunTo.ones (h : RunTo w0 W g V ps bk q st W1) (at_ : Int) (K k : Nat) (r : RX) (hbl : bk.length ≤ 1000000) (hr : oneX q (rtX K ps) k at_ bk st = some r) :
    Calls Try.prog 105 #[.pointer (some ⟨g, 0, none⟩), .int .i64 at_] W1 fun e w' => e = .returned (.tuple #[]) ∧ RunTo w0 W g V ps bk q r w' := by
  obtain ⟨V3, h3, e1, e2, e3, e4, e5, e6⟩ := h
  exact (one_calls at_ K k r h3 hbl hr).mono (fun _ _ hq => ⟨hq.1, RunTo.trans e1 e2 e3 e4 e5 e6 hq.2⟩)
end
set_option maxHeartbeats 16000000 in
set_option maxRecDepth 100000 in
theorem stretch_calls {w0 W : World} {g : Nat} {V : RV} {ps : List S33} {bk : List Int} {q : List S63} {st : RX} (frm to_ : Int) (K k : Nat) (r : RX) (h : RunAt w0 W g V ps bk q st) (hbl : bk.length ≤ 1000000) (hr : stretchR q bk (rtX K ps) k frm to_ st = some r) :
    Calls Try.prog 93 #[.pointer (some ⟨g, 0, none⟩), .int .i64 frm, .int .i64 to_] W fun e w' => e = .returned (.tuple #[]) ∧ RunTo w0 W g V ps bk q r w' := by
  have HT0 := Aside0.mk (RunTo.refl h)
  have HBL := Aside0.mk hbl
  unfold stretchR at hr
  obtain ⟨tt, hsum, hr⟩ := Option.bind_eq_some_iff.mp hr
  have HR0 := Aside0.mk hr
  have HS0 := Aside0.mk hsum
  clear h hbl hr hsum
  go_enter Try.func93, Try.ntmps93
  go_wp2
  go_loopg [6, 7] bk.length (fun kq v6 v7 w' => ∃ (i : Nat) (al : Int), v6 = .int .i64 al ∧ v7 = .int .i64 (i : Int) ∧ Aside0 (kq + i = bk.length) ∧ Aside0 (sumX (rtX K ps) frm (bk.drop i) al = some tt) ∧ Aside0 (RunTo w0 W g V ps bk q st w'))
  case atStart => exact ⟨0, 0, rfl, rfl, ⟨rfl⟩, ⟨HS0.out⟩, HT0⟩
  case round =>
    clear HT0 HS0
    obtain ⟨i, al, rfl, rfl, HK, HSUM, HT⟩ := hrel
    obtain ⟨V1, h1, _⟩ := id HT.out
    cases gk with
    | succ d =>
      have hi : i < bk.length := by have := HK.out; omega
      have hi0 : (0 : Int) ≤ (i : Int) := by omega
      have hi1 : (i : Int) < (bk.length : Int) := by omega
      have hd1 : decide ((i : Int) < (bk.length : Int)) = true := decide_eq_true hi1
      have hwi : wrap64 ((i : Int) + 1) = ((i + 1 : Nat) : Int) := by have := HBL.out; unfold wrap64; omega
      have hr := HSUM.out
      obtain ⟨b, hb⟩ : ∃ b, b = rd bk (i : Int) := ⟨_, rfl⟩
      rw [List.drop_eq_getElem_cons hi, ← rd_of hi, ← hb, sumX.eq_2] at hr
      obtain ⟨rate, hrt, hr⟩ := Option.bind_eq_some_iff.mp hr
      unfold rtX at hrt
      by_cases hbb : 0 ≤ b ∧ b < (ps.length : Int)
      · obtain ⟨b0, b1⟩ := hbb
        rw [if_pos ⟨b0, b1⟩] at hrt
        obtain ⟨ab, ap, A3, c3, eb, ep, x0, x1, y, z0, z1, z2, z3, hs3, hr3⟩ := h1.pass hi hb b0 b1
        obtain ⟨x, hx⟩ : ∃ x, x = rd_T33 ps b := ⟨_, rfl⟩
        rw [← hx] at hrt z0 z1 z2 z3 hs3 hr3
        have p1 : decide (b < (ps.length : Int)) = true := decide_eq_true b1
        have p0 := eq_true b0
        have HRT := Aside0.mk hrt
        have HFIN := Aside0.mk hr
        have HS3 := Aside0.mk hs3
        have HR3 := Aside0.mk hr3
        clear hb hrt hr hs3 hr3 hx eb ep HSUM h1
        go_wp2
        go_region_held3 (fun w' => w'.cell? ⟨g, 0, none⟩ = some (.slice (some ap) ps.length V1.cp) ∧ w'.cell? ⟨g, 1, none⟩ = some (.slice (some ab) bk.length V1.cb) ∧ w'.cell? (ab.add i) = some (.int .i64 b) ∧ w'.cell? (ap.add (b.toNat * 4)) = some (.string x.f0) ∧ w'.cell? ⟨(ap.add (b.toNat * 4)).block, (ap.add (b.toNat * 4)).off + 1, none⟩ = some (.int .i64 x.f1) ∧ w'.cell? ⟨(ap.add (b.toNat * 4)).block, (ap.add (b.toNat * 4)).off + 2, none⟩ = some (.int .i64 x.f2) ∧ w'.cell? ⟨(ap.add (b.toNat * 4)).block, (ap.add (b.toNat * 4)).off + 3, none⟩ = some (.slice A3 x.f3.length c3)) (first | exact ⟨x0, x1, y, z0, z1, z2, z3⟩ | go_keep) (first | (go_at_call 103; go_loud (with_reducible refine (perigeeref10_rateAt.calls K x.f0 x.f1 x.f2 A3 c3 x.f3 frm rate _ (Kd.C_below HR3.out (below_drew (Below.refl _ _))) HS3.out HRT.out).mono ?_); rintro e w1 ⟨rfl, hb1⟩; go_loud (have HT1 := Aside0.mk (HT.out.lower (below_step (below_drew (Below.refl wr.heap.size wr)) hb1))); go_loud (replace x0 := pw_cell_below hb1 (show wr.drew.cell? _ = _ from x0)); replace x1 := pw_cell_below hb1 (show wr.drew.cell? _ = _ from x1); replace y := pw_cell_below hb1 (show wr.drew.cell? _ = _ from y); replace z0 := pw_cell_below hb1 (show wr.drew.cell? _ = _ from z0); replace z1 := pw_cell_below hb1 (show wr.drew.cell? _ = _ from z1); replace z2 := pw_cell_below hb1 (show wr.drew.cell? _ = _ from z2); replace z3 := pw_cell_below hb1 (show wr.drew.cell? _ = _ from z3); clear hb1))
        clear x0 x1 y z0 z1 z2 z3
        go_wp2
        go_roundg d
        case measure => omega
        case rel => exact ⟨i + 1, wrap64 (al + rate), (by first | rfl | (rw [i64_w]) | (simp; done)), (by first | rfl | (rw [hwi]) | (simp [hwi]; done) | (simp; done)), ⟨by have := HK.out; omega⟩, HFIN, HT1⟩
      · rw [if_neg hbb] at hrt
        cases hrt
    | zero =>
      have hi : i = bk.length := by have := HK.out; omega
      subst hi
      have hr := HSUM.out
      rw [List.drop_length] at hr
      obtain rfl := Option.some.inj hr
      have x1 := h1.c1
      have d0 : decide ((bk.length : Int) < (bk.length : Int)) = false := decide_eq_false (by omega)
      clear hr HK HSUM h1
      go_wp2
      clear x1 d0
      go_loopg [8] k (fun kq v8 w' => ∃ (a : Int) (st1 : RX), v8 = .int .i64 a ∧ Aside0 (stretchRX q bk (rtX K ps) al to_ kq st1 a = some r) ∧ Aside0 (RunTo w0 W g V ps bk q st1 w'))
      case atStart => exact ⟨frm, st, rfl, HR0, HT⟩
      case round =>
        clear HT HR0
        obtain ⟨a, st1, rfl, HR, HT⟩ := hrel
        cases gk with
        | zero => have := HR.out; cases this
        | succ e =>
          have hr := HR.out
          unfold stretchRX at hr
          by_cases c1 : a < to_
          · have d1 : decide (a < to_) = true := decide_eq_true c1
            rw [if_pos c1] at hr
            by_cases c2 : al > 0
            · have d2 : decide (0 < al) = true := decide_eq_true c2
              rw [if_pos c2] at hr
              by_cases c3 : firstOK q st1
              · rw [if_pos c3] at hr
                have C3 := Aside0.mk c3
                clear c3 c1
                obtain ⟨fv, hfv⟩ : ∃ fv, fv = frstV q st1 a := ⟨_, rfl⟩
                rw [← hfv] at hr
                have HFV := Aside0.mk hfv
                by_cases c4 : fv < 0
                · have d4 : decide (fv < 0) = true := decide_eq_true c4
                  rw [if_pos c4] at hr
                  obtain rfl := Option.some.inj hr
                  clear hr HR c4 hfv
                  go_wp2_with (first | (go_at_call 104; go_loud (with_reducible refine (HT.out.firsts a C3.out HFV.out).mono ?_); rintro e w3 ⟨rfl, ht3⟩; have HT3 := Aside0.mk ht3; clear ht3))
                  (try simp only [Exit.inBlock, Exit.then])
                  refine bodyPost_ret (results_none rfl _ _ _) rfl ?_
                  exact ⟨rfl, HT3.out⟩
                · have d4 : decide (fv < 0) = false := decide_eq_false c4
                  rw [if_neg c4] at hr
                  by_cases c5 : fv < (q.length : Int)
                  · rw [if_pos c5] at hr
                    have f0 : 0 ≤ fv := by omega
                    have f1 : fv < (st1.left.length : Int) := by rw [C3.out.1]; exact c5
                    obtain ⟨nv, hnv⟩ : ∃ nv, nv = stepR q st1 a to_ al := ⟨_, rfl⟩
                    obtain ⟨lv, hlv⟩ : ∃ lv, lv = rd st1.left fv := ⟨_, rfl⟩
                    have hdm : (if wrap64 (lv.tdiv al) < wrap64 (to_ - a) then wrap64 (lv.tdiv al) else wrap64 (to_ - a)) = nv := by rw [hnv, hlv, hfv]; rfl
                    rw [← hnv] at hr
                    have HDM := Aside0.mk hdm
                    have HLV := Aside0.mk hlv
                    have HRR := Aside0.mk hr
                    have al0 : al ≠ 0 := by omega
                    have HAL := Aside0.mk al0
                    clear hr HR c4 c5 hfv hnv hlv hdm al0
                    go_upto_region 10 with (first | (go_at_call 104; go_loud (with_reducible refine (HT.out.firsts a C3.out HFV.out).mono ?_); rintro e w3 ⟨rfl, ht3⟩; have HT3 := Aside0.mk ht3; obtain ⟨V3, h3, _⟩ := ht3; obtain ⟨gs, cs, _, x3, y3, _⟩ := h3.leftAt fv f0 f1; rw [← HLV.out] at y3; have ea : (⟨gs, 0, none⟩ : Addr).add fv.toNat = ⟨gs, fv.toNat, none⟩ := add_plain _ _; clear h3))
                    rw [HDM.out]
                    clear HDM x3 y3 HT
                    by_cases c6 : nv = 0
                    · have d6 : (nv == 0) = true := beq_iff_eq.mpr c6
                      have hr := HRR.out
                      rw [if_pos c6] at hr
                      obtain ⟨st4, hone, hr⟩ := Option.bind_eq_some_iff.mp hr
                      have HONE := Aside0.mk hone
                      have HR4 := Aside0.mk hr
                      clear hr hone HRR c6
                      go_wp2_with (first | (go_at_call 105; go_loud (with_reducible refine (HT3.out.ones a K e st4 HBL.out HONE.out).mono ?_); rintro e' w4 ⟨rfl, ht4⟩; have HT4 := Aside0.mk ht4; clear ht4))
                      go_roundg e
                      case measure => omega
                      case rel => exact ⟨wrap64 (a + 1), st4, (by first | rfl | (simp; done)), HR4, HT4⟩
                    · have d6 : (nv == 0) = false := beq_eq_false_iff_ne.mpr c6
                      have hr := HRR.out
                      rw [if_neg c6] at hr
                      obtain ⟨st4, hall, hr⟩ := Option.bind_eq_some_iff.mp hr
                      have HALL := Aside0.mk hall
                      have HR4 := Aside0.mk hr
                      clear hr hall HRR c6
                      go_wp2
                      go_loopg [11] bk.length (fun kq v11 w' => ∃ (i : Nat) (st2 : RX), v11 = .int .i64 (i : Int) ∧ Aside0 (kq + i = bk.length) ∧ Aside0 (sendAllX q (rtX K ps) fv a (wrap64 (a + nv)) nv (bk.drop i) st2 = some st4) ∧ Aside0 (RunTo w0 W g V ps bk q st2 w'))
                      case atStart => exact ⟨0, st1, rfl, ⟨rfl⟩, HALL, HT3⟩
                      case round =>
                        clear HT3 HALL
                        obtain ⟨i, st2, rfl, HK, HALL, HT⟩ := hrel
                        obtain ⟨V1, h1, _⟩ := id HT.out
                        cases gk with
                        | zero =>
                          have hi : i = bk.length := by have := HK.out; omega
                          subst hi
                          have hr := HALL.out
                          rw [List.drop_length] at hr
                          obtain rfl := Option.some.inj hr
                          have x1 := h1.c1
                          have d0 : decide ((bk.length : Int) < (bk.length : Int)) = false := decide_eq_false (by omega)
                          clear hr HK HALL h1
                          go_wp2
                          go_roundg e
                          case measure => omega
                          case rel => exact ⟨wrap64 (a + nv), st2, (by first | rfl | (simp; done)), HR4, HT⟩
                        | succ d =>
                          have hi : i < bk.length := by have := HK.out; omega
                          have hi0 : (0 : Int) ≤ (i : Int) := by omega
                          have hi1 : (i : Int) < (bk.length : Int) := by omega
                          have hd1 : decide ((i : Int) < (bk.length : Int)) = true := decide_eq_true hi1
                          have hwi : wrap64 ((i : Int) + 1) = ((i + 1 : Nat) : Int) := by have := HBL.out; unfold wrap64; omega
                          have hr := HALL.out
                          obtain ⟨b, hb⟩ : ∃ b, b = rd bk (i : Int) := ⟨_, rfl⟩
                          rw [List.drop_eq_getElem_cons hi, ← rd_of hi, ← hb, sendAllX.eq_2] at hr
                          obtain ⟨rate, hrt, hr⟩ := Option.bind_eq_some_iff.mp hr
                          unfold rtX at hrt
                          by_cases hbb : 0 ≤ b ∧ b < (ps.length : Int)
                          · obtain ⟨b0, b1⟩ := hbb
                            rw [if_pos ⟨b0, b1⟩] at hrt
                            obtain ⟨ab, ap, A3, c3, eb, ep, x0, x1, y, z0, z1, z2, z3, hs3, hr3⟩ := h1.pass hi hb b0 b1
                            obtain ⟨x, hx⟩ : ∃ x, x = rd_T33 ps b := ⟨_, rfl⟩
                            rw [← hx] at hrt z0 z1 z2 z3 hs3 hr3
                            have p1 : decide (b < (ps.length : Int)) = true := decide_eq_true b1
                            have p0 := eq_true b0
                            have HB := Aside0.mk hb
                            have HRT := Aside0.mk hrt
                            have HFIN := Aside0.mk hr
                            have HS3 := Aside0.mk hs3
                            have HR3 := Aside0.mk hr3
                            clear hb hrt hr hs3 hr3 hx eb ep HALL h1
                            by_cases c7 : rate > 0
                            · have d7 : decide (0 < rate) = true := decide_eq_true c7
                              have hf := HFIN.out
                              rw [if_pos c7] at hf
                              by_cases c8 : sendOK q st2 fv
                              · rw [if_pos c8] at hf
                                have C8 := Aside0.mk c8
                                have HF8 := Aside0.mk hf
                                clear hf c7 c8 HFIN
                                go_wp2
                                go_still_tail 14, (by kernel_rfl)
                                change wpList _ _ _ _ _ wr.drew
                                go_wp2_with (first
                                  | (go_at_call 103; go_loud (with_reducible refine (perigeeref10_rateAt.calls K x.f0 x.f1 x.f2 A3 c3 x.f3 a rate _ (Kd.C_below HR3.out (below_drew (Below.refl _ _))) HS3.out HRT.out).mono ?_); rintro e' w1 ⟨rfl, hb1⟩; have ht1 := (HT.out.lower (below_step (below_drew (Below.refl wr.heap.size wr)) hb1)); have HT1 := Aside0.mk ht1; clear hb1 x0 x1 y z0 z1 z2 z3; obtain ⟨V5, h5, _⟩ := ht1; obtain ⟨ab2, _, _, _, _, _, _, xb, yb, _⟩ := h5.pass hi HB.out b0 b1; clear h5)
                                  | (go_at_call 106; go_loud (with_reducible refine (HT1.out.sends fv b a (wrap64 (a + nv)) (wrap64 (nv * rate)) C8.out).mono ?_); rintro e' w4 ⟨rfl, ht4⟩; have HT4 := Aside0.mk ht4; clear ht4 xb yb))
                                go_roundg d
                                case measure => omega
                                case rel => exact ⟨i + 1, _, (by first | rfl | (rw [hwi]) | (simp [hwi]; done) | (simp; done)), ⟨by have := HK.out; omega⟩, HF8, HT4⟩
                              · rw [if_neg c8] at hf
                                cases hf
                            · have d7 : decide (0 < rate) = false := decide_eq_false c7
                              have hf := HFIN.out
                              rw [if_neg c7] at hf
                              have HF8 := Aside0.mk hf
                              clear hf c7 HFIN
                              go_wp2
                              go_still_tail 14, (by kernel_rfl)
                              change wpList _ _ _ _ _ wr.drew
                              go_wp2_with (first
                                | (go_at_call 103; go_loud (with_reducible refine (perigeeref10_rateAt.calls K x.f0 x.f1 x.f2 A3 c3 x.f3 a rate _ (Kd.C_below HR3.out (below_drew (Below.refl _ _))) HS3.out HRT.out).mono ?_); rintro e' w1 ⟨rfl, hb1⟩; have HT1 := Aside0.mk (HT.out.lower (below_step (below_drew (Below.refl wr.heap.size wr)) hb1)); clear hb1 x0 x1 y z0 z1 z2 z3))
                              go_roundg d
                              case measure => omega
                              case rel => exact ⟨i + 1, st2, (by first | rfl | (rw [hwi]) | (simp [hwi]; done) | (simp; done)), ⟨by have := HK.out; omega⟩, HF8, HT1⟩
                          · rw [if_neg hbb] at hrt
                            cases hrt
                  · rw [if_neg c5] at hr
                    cases hr
              · rw [if_neg c3] at hr
                cases hr
            · have d2 : decide (0 < al) = false := decide_eq_false c2
              rw [if_neg c2] at hr
              obtain rfl := Option.some.inj hr
              clear hr HR c1 c2
              go_wp2
              go_end0
              exact ⟨rfl, HT.out⟩
          · have d1 : decide (a < to_) = false := decide_eq_false c1
            rw [if_neg c1] at hr
            obtain rfl := Option.some.inj hr
            clear hr HR c1
            go_wp2
            go_end0
            exact ⟨rfl, HT.out⟩
def numAll (K : Nat) : List Int → List Int → Option (List Int)
  | [], ts => some ts
  | x :: r, ts => (perigeeref10_number.f K ts x).bind fun t => numAll K r t
def timesGo (K : Nat) (ps : List S33) : List Int → List Int → Option (List Int)
  | [], ts => some ts
  | b :: r, ts => if 0 ≤ b ∧ b < (ps.length : Int) then (perigeeref10_number.f K ts (rd_T33 ps b).f1).bind fun t1 => (perigeeref10_number.f K t1 (rd_T33 ps b).f2).bind fun t2 =>
      (numAll K ((rd_T33 ps b).f3.map (·.f0)) t2).bind fun t3 => timesGo K ps r t3 else none
/-- From moment to moment, up to one. -/
def followGo (q : List S63) (bk : List Int) (rt : Int → Int → Option Int) (k : Nat) (u : Int) : List Int → RX → Option RX
  | a :: b :: r, st => if b ≤ u then (stretchR q bk rt k a b st).bind fun st' => followGo q bk rt k u (b :: r) st' else some st
  | _, st => some st
def followX (q : List S63) (ps : List S33) (bk : List Int) (K k : Nat) (u : Int) (st : RX) : Option RX :=
  (timesGo K ps bk [u]).bind fun t1 => (numAll K (q.map (·.f3)) t1).bind fun ts => if ts.length ≤ 1000000 ∧ ∀ b ∈ bk, (rd_T33 ps b).f3.length ≤ 1000000 then followGo q bk (rtX K ps) k u ts st else none
theorem addr_succ (ad : Addr) (n : Nat) : ad.add (n + 1) = ⟨ad.block, ad.off + (n + 1), none⟩ := by
  unfold Addr.add
  rw [if_neg (by omega)]
theorem number_step {W w : World} (K : Nat) (x : Int) {v : Value} {ts t1 : List Int} (hB : Below W.heap.size W w) (hr : (Kd.int .i64).R 3 w W.heap.size (fun _ => True) v ts) (hn : perigeeref10_number.f K ts x = some t1) :
    Calls Try.prog 92 #[v, .int .i64 x] w fun e w' => ∃ v1 : Value, e = .returned v1 ∧ (Kd.int .i64).R 3 w' W.heap.size (fun _ => True) v1 t1 ∧ Below W.heap.size W w' ∧ ∀ (k : Nat) (t : TypeId) (cells : Array Value), t ≠ 3 → w.heap[k]? = some (Obj.cells cells t (0, 0)) → w'.heap[k]? = some (Obj.cells cells t (0, 0)) := by
  refine (perigeeref10_number.calls K (fun k => some k = v.ownBlock) v ts x t1 W w hB (Kd.R_tight rfl hr) hn).mono ?_
  rintro e w' ⟨v1, rfl, ho, hb, hk⟩
  exact ⟨v1, rfl, Kd.R_mono ho (fun _ _ => trivial), hb, fun k t cells ht hc => (hk.2 k (blk_lt hc) (fun e => (show isTy t w k from ⟨_, hc⟩).ne (own_ty hr e.symm) ht rfl)).trans hc⟩
set_option maxHeartbeats 16000000 in
set_option maxRecDepth 100000 in
theorem follow_calls {w0 W : World} {g : Nat} {V : RV} {ps : List S33} {bk : List Int} {q : List S63} {st : RX} (u : Int) (K k : Nat) (r : RX) (h : RunAt w0 W g V ps bk q st) (hbl : bk.length ≤ 1000000) (hql : q.length ≤ 1000000) (hr : followX q ps bk K k u st = some r) :
    Calls Try.prog 72 #[.pointer (some ⟨g, 0, none⟩), .int .i64 u] W fun e w' => e = .returned (.tuple #[]) ∧ RunTo w0 W g V ps bk q r w' := by
  unfold followX at hr
  obtain ⟨t1, ht1, hr⟩ := Option.bind_eq_some_iff.mp hr
  obtain ⟨ts, hts, hr⟩ := Option.bind_eq_some_iff.mp hr
  by_cases hcc : ts.length ≤ 1000000 ∧ ∀ b ∈ bk, (rd_T33 ps b).f3.length ≤ 1000000
  rotate_left
  · rw [if_neg hcc] at hr
    cases hr
  rw [if_pos hcc] at hr
  have HS := Aside0.mk h
  have HBL := Aside0.mk hbl
  have HQL := Aside0.mk hql
  have HTL := Aside0.mk hcc.1
  have HST := Aside0.mk hcc.2
  have HT1 := Aside0.mk ht1
  have HTS := Aside0.mk hts
  have HR0 := Aside0.mk hr
  have HB := Aside0.mk (Below.refl W.heap.size W)
  clear h hbl hql ht1 hts hr hcc
  go_enter Try.func72, Try.ntmps72
  go_wp2_with (first | ((with_reducible refine gate_dst (N := 11) rfl ?_); go_loud (refine Kd.R_lit (Kd.int .i64) W.heap.size 3 ?hg (N := 11) ?hd (xs := ([u] : List Int)) (inner := [.int .i64 u]) (ok := fun _ => True) (okp := fun _ => True) ?hr ?hp (fun _ hk => hk) trivial HB.out HB.out.size (by simp) ?_); (case hd => rfl); (case hg => rfl); (case hr => first | (go_simp; done) | (go_simp; rfl)); (case hp => exact (Reps.one (show Kd.M (Kd.int .i64) _ _ _ u [.int .i64 u] from rfl) (Reps.none _ _))); intro vy wy hoy hb hg_ hnew_; clear hg_ hnew_; have HROW := Aside0.mk hoy; have HBY := Aside0.mk hb; clear hb hoy HB))
  go_loopg [4, 5] bk.length (fun kq v4 v5 w' => ∃ (i : Nat) (tt : List Int), v5 = .int .i64 (i : Int) ∧ Aside0 (kq + i = bk.length) ∧ Aside0 (timesGo K ps (bk.drop i) tt = some t1) ∧ Aside0 ((Kd.int .i64).R 3 w' W.heap.size (fun _ => True) v4 tt) ∧ Aside0 (Below W.heap.size W w'))
  case atStart => exact ⟨0, [u], rfl, ⟨rfl⟩, HT1, HROW, HBY⟩
  case round =>
    clear HROW HBY HT1
    obtain ⟨i, tt, rfl, HK, HGO, HROW, HB⟩ := hrel
    obtain ⟨A4, c4, e4⟩ := Kd.R_slice HROW.out
    subst e4
    have hw := HS.out.below HB.out
    cases gk with
    | succ d =>
      have hi : i < bk.length := by have := HK.out; omega
      have hi0 : (0 : Int) ≤ (i : Int) := by omega
      have hi1 : (i : Int) < (bk.length : Int) := by omega
      have hd1 : decide ((i : Int) < (bk.length : Int)) = true := decide_eq_true hi1
      have hwi : wrap64 ((i : Int) + 1) = ((i + 1 : Nat) : Int) := by have := HBL.out; unfold wrap64; omega
      have hr := HGO.out
      obtain ⟨b, hb⟩ : ∃ b, b = rd bk (i : Int) := ⟨_, rfl⟩
      have hbm : b ∈ bk := by rw [hb, rd_of hi]; exact List.getElem_mem hi
      rw [List.drop_eq_getElem_cons hi, ← rd_of hi, ← hb, timesGo.eq_2] at hr
      by_cases hbb : 0 ≤ b ∧ b < (ps.length : Int)
      · rw [if_pos hbb] at hr
        obtain ⟨b0, b1⟩ := hbb
        obtain ⟨ta, hta, hr⟩ := Option.bind_eq_some_iff.mp hr
        obtain ⟨tb, htb, hr⟩ := Option.bind_eq_some_iff.mp hr
        obtain ⟨tc, htc, hr⟩ := Option.bind_eq_some_iff.mp hr
        obtain ⟨ab, ap, A3, c3, eb, ep, x0, x1, y, z0, z1, z2, z3, hs3, hr3⟩ := HS.out.pass hi hb b0 b1
        replace x0 := pw_cell_below HB.out x0
        replace x1 := pw_cell_below HB.out x1
        replace y := pw_cell_below HB.out y
        replace z0 := pw_cell_below HB.out z0
        replace z1 := pw_cell_below HB.out z1
        replace z2 := pw_cell_below HB.out z2
        replace z3 := pw_cell_below HB.out z3
        have hsl := HST.out b hbm
        obtain ⟨x, hx⟩ : ∃ x, x = rd_T33 ps b := ⟨_, rfl⟩
        rw [← hx] at hta htb htc z0 z1 z2 z3 hs3 hr3 hsl
        have p1 : decide (b < (ps.length : Int)) = true := decide_eq_true b1
        have p0 := eq_true b0
        have HTA := Aside0.mk hta
        have HTB := Aside0.mk htb
        have HTC := Aside0.mk htc
        have HFIN := Aside0.mk hr
        have HS3 := Aside0.mk hs3
        have HSL := Aside0.mk hsl
        have HR3 := Aside0.mk hr3
        clear hb hbm hta htb htc hr hs3 hr3 hx eb ep HGO hw hsl
        go_wp2
        go_region_held3 (fun w' => w'.cell? ⟨g, 0, none⟩ = some (.slice (some ap) ps.length V.cp) ∧ w'.cell? ⟨g, 1, none⟩ = some (.slice (some ab) bk.length V.cb) ∧ w'.cell? (ab.add i) = some (.int .i64 b) ∧ w'.cell? (ap.add (b.toNat * 4)) = some (.string x.f0) ∧ w'.cell? ⟨(ap.add (b.toNat * 4)).block, (ap.add (b.toNat * 4)).off + 1, none⟩ = some (.int .i64 x.f1) ∧ w'.cell? ⟨(ap.add (b.toNat * 4)).block, (ap.add (b.toNat * 4)).off + 2, none⟩ = some (.int .i64 x.f2) ∧ w'.cell? ⟨(ap.add (b.toNat * 4)).block, (ap.add (b.toNat * 4)).off + 3, none⟩ = some (.slice A3 x.f3.length c3)) (first | exact ⟨x0, x1, y, z0, z1, z2, z3⟩ | go_keep) (first | fail)
        go_upto_region 5 with (fail)
        obtain ⟨g6, hg6⟩ : ∃ g6, g6 = wr.heap.size := ⟨_, rfl⟩
        obtain ⟨w6, hw6⟩ : ∃ w6, w6 = (wr.alloc (.cells #[.string x.f0, .int .i64 x.f1, .int .i64 x.f2, .slice A3 x.f3.length c3] 33)).drew := ⟨_, rfl⟩
        rw [← hw6, ← hg6]
        have hbw : Below wr.heap.size wr w6 := by rw [hw6]; exact below_drew (below_alloc (Below.refl _ _) _)
        have HB6 := Aside0.mk (below_step HB.out hbw)
        have HROW6 := Aside0.mk (Kd.R_below HROW.out hbw)
        have BK := Aside0.mk (show w6.heap[g6]? = some (.cells #[.string x.f0, .int .i64 x.f1, .int .i64 x.f2, .slice A3 x.f3.length c3] 33 (0, 0)) by rw [hw6, hg6]; exact heap_alloc_new wr _)
        clear hw6 hg6 hbw x0 x1 y z0 z1 z2 z3 HB HROW
        have y1 : w6.cell? ⟨g6, 1, none⟩ = some (.int .i64 x.f1) := (blk_cell BK.out 1).trans rfl
        have y2 : w6.cell? ⟨g6, 2, none⟩ = some (.int .i64 x.f2) := (blk_cell BK.out 2).trans rfl
        go_region_held3 (fun w' => w'.cell? ⟨g6, 1, none⟩ = some (.int .i64 x.f1) ∧ w'.cell? ⟨g6, 2, none⟩ = some (.int .i64 x.f2)) (first | exact ⟨y1, y2⟩ | go_keep) (first | (go_at_call 92; ((with_reducible refine (number_step K x.f1 (below_drew HB6.out) (Kd.R_below HROW6.out (below_drew (Below.refl _ _))) HTA.out).mono ?_); rintro e w7 ⟨v7, rfl, hr7, hb7, hk7⟩; have HROW7 := Aside0.mk hr7; have HB7 := Aside0.mk hb7; have BK7 := Aside0.mk (hk7 g6 _ _ (by decide) (blk_drew BK.out)); clear y1 y2 hr7 hb7 hk7; have y1 : w7.cell? ⟨g6, 1, none⟩ = some (.int .i64 x.f1) := (blk_cell BK7.out 1).trans rfl; have y2 : w7.cell? ⟨g6, 2, none⟩ = some (.int .i64 x.f2) := (blk_cell BK7.out 2).trans rfl)) | (go_at_call 92; ((with_reducible refine (number_step K x.f2 HB7.out HROW7.out HTB.out).mono ?_); rintro e w8 ⟨v8, rfl, hr8, hb8, hk8⟩; have HROW8 := Aside0.mk hr8; have HB8 := Aside0.mk hb8; have BK8 := Aside0.mk (hk8 g6 _ _ (by decide) BK7.out); clear y1 y2 hr8 hb8 hk8; have y1 : w8.cell? ⟨g6, 1, none⟩ = some (.int .i64 x.f1) := (blk_cell BK8.out 1).trans rfl; have y2 : w8.cell? ⟨g6, 2, none⟩ = some (.int .i64 x.f2) := (blk_cell BK8.out 2).trans rfl)))
        go_wp2
        clear y1 y2 HROW6 HROW7 HB6 HB7 BK BK7
        go_loopg [4, 7] x.f3.length (fun kq v4 v7 w' => ∃ (j : Nat) (t2 : List Int), v7 = .int .i64 (j : Int) ∧ Aside0 (kq + j = x.f3.length) ∧ Aside0 (numAll K ((x.f3.drop j).map (·.f0)) t2 = some tc) ∧ Aside0 ((Kd.int .i64).R 3 w' W.heap.size (fun _ => True) v4 t2) ∧ Aside0 (Below W.heap.size W w') ∧ Aside0 (w'.heap[g6]? = some (Obj.cells #[.string x.f0, .int .i64 x.f1, .int .i64 x.f2, .slice A3 x.f3.length c3] 33 (0, 0))))
        case atStart => exact ⟨0, tb, rfl, ⟨rfl⟩, HTC, HROW8, HB8, BK8⟩
        case round =>
          clear HROW8 HB8 BK8 HTC
          obtain ⟨j, t2, rfl, HKj, HN, HROW, HB, BK⟩ := hrel
          obtain ⟨A5, c5, e5⟩ := Kd.R_slice HROW.out
          subst e5
          have z3 : wr.cell? ⟨g6, 3, none⟩ = some (.slice A3 x.f3.length c3) := (blk_cell BK.out 3).trans rfl
          cases gk with
          | zero =>
            have hj : j = x.f3.length := by have := HKj.out; omega
            subst hj
            have hn := HN.out
            rw [List.drop_length] at hn
            obtain rfl := Option.some.inj hn
            have d0 : decide ((x.f3.length : Int) < (x.f3.length : Int)) = false := decide_eq_false (by omega)
            clear hn HN HKj
            go_wp2
            go_roundg d
            case measure => omega
            case rel => exact ⟨i + 1, _, (by first | rfl | (rw [hwi]) | (simp [hwi]; done) | (simp; done)), ⟨by have := HK.out; omega⟩, HFIN, HROW, HB⟩
          | succ e =>
            have hj : j < x.f3.length := by have := HKj.out; omega
            have hj0 : (0 : Int) ≤ (j : Int) := by omega
            have hj1 : (j : Int) < (x.f3.length : Int) := by omega
            have hd2 : decide ((j : Int) < (x.f3.length : Int)) = true := decide_eq_true hj1
            have hwj : wrap64 ((j : Int) + 1) = ((j + 1 : Nat) : Int) := by have := HSL.out; unfold wrap64; omega
            have hn := HN.out
            obtain ⟨ad, ea, u0, u1⟩ := at_T75 (Kd.C_below HR3.out HB.out) (j : Int) hj0 hj1
            subst ea
            obtain ⟨s, hs⟩ : ∃ s, s = rd_T75 x.f3 (j : Int) := ⟨_, rfl⟩
            rw [← hs] at u0 u1
            simp only [Int.toNat_natCast] at u0 u1
            have es : x.f3[j] = s := by rw [hs]; unfold rd_T75; rw [Int.toNat_natCast, List.getD_eq_getElem?_getD, List.getElem?_eq_getElem hj]; rfl
            rw [List.drop_eq_getElem_cons hj, es, List.map_cons, numAll.eq_2] at hn
            obtain ⟨td, htd, hn⟩ := Option.bind_eq_some_iff.mp hn
            have HTD := Aside0.mk htd
            have HN2 := Aside0.mk hn
            clear hn htd hs es HN u1
            go_wp2_with (first | (go_at_call 92; go_loud (with_reducible refine (number_step K s.f0 HB.out HROW.out HTD.out).mono ?_); rintro e' w7 ⟨v7, rfl, hr7, hb7, hk7⟩; have HROW7 := Aside0.mk hr7; have HB7 := Aside0.mk hb7; have BK7 := Aside0.mk (hk7 g6 _ _ (by decide) BK.out); clear hr7 hb7 hk7 u0 z3))
            go_roundg e
            case measure => omega
            case rel => exact ⟨j + 1, td, (by first | rfl | (rw [hwj]) | (simp [hwj]; done) | (simp; done)), ⟨by have := HKj.out; omega⟩, HN2, HROW7, HB7, BK7⟩
      · rw [if_neg hbb] at hr
        cases hr
    | zero =>
      have hi : i = bk.length := by have := HK.out; omega
      subst hi
      have hr := HGO.out
      rw [List.drop_length] at hr
      obtain rfl := Option.some.inj hr
      have x1 := hw.c1
      have d0 : decide ((bk.length : Int) < (bk.length : Int)) = false := decide_eq_false (by omega)
      clear hr HK HGO hw
      go_wp2
      clear x1 d0
      go_loopg [4, 8] q.length (fun kq v4 v8 w' => ∃ (i : Nat) (t2 : List Int), v8 = .int .i64 (i : Int) ∧ Aside0 (kq + i = q.length) ∧ Aside0 (numAll K ((q.drop i).map (·.f3)) t2 = some ts) ∧ Aside0 ((Kd.int .i64).R 3 w' W.heap.size (fun _ => True) v4 t2) ∧ Aside0 (Below W.heap.size W w'))
      case atStart => exact ⟨0, tt, rfl, ⟨rfl⟩, HTS, HROW, HB⟩
      case round =>
        clear HROW HB HTS
        obtain ⟨i, t2, rfl, HK, HN, HROW, HB⟩ := hrel
        obtain ⟨A4, c4, e4⟩ := Kd.R_slice HROW.out
        subst e4
        have hw := HS.out.below HB.out
        have x2 := hw.c2
        cases gk with
        | succ d =>
          have hi : i < q.length := by have := HK.out; omega
          have hi0 : (0 : Int) ≤ (i : Int) := by omega
          have hi1 : (i : Int) < (q.length : Int) := by omega
          have hd1 : decide ((i : Int) < (q.length : Int)) = true := decide_eq_true hi1
          have hwi : wrap64 ((i : Int) + 1) = ((i + 1 : Nat) : Int) := by have := HQL.out; unfold wrap64; omega
          obtain ⟨aq, eq, _, _, _, y3, _⟩ := at_T63 (Kd.C_below hw.qC hw.bel) (i : Int) hi0 hi1
          rw [eq] at x2
          obtain ⟨x, hx⟩ : ∃ x, x = rd_T63 q (i : Int) := ⟨_, rfl⟩
          rw [← hx] at y3
          simp only [Int.toNat_natCast] at y3
          have es : q[i] = x := by rw [hx]; unfold rd_T63; rw [Int.toNat_natCast, List.getD_eq_getElem?_getD, List.getElem?_eq_getElem hi]; rfl
          have hn := HN.out
          rw [List.drop_eq_getElem_cons hi, es, List.map_cons, numAll.eq_2] at hn
          obtain ⟨td, htd, hn⟩ := Option.bind_eq_some_iff.mp hn
          have HTD := Aside0.mk htd
          have HN2 := Aside0.mk hn
          clear hn htd hx es HN hw eq
          go_wp2_with (first | (go_at_call 92; go_loud (with_reducible refine (number_step K x.f3 HB.out HROW.out HTD.out).mono ?_); rintro e' w7 ⟨v7, rfl, hr7, hb7, hk7⟩; have HROW7 := Aside0.mk hr7; have HB7 := Aside0.mk hb7; clear hr7 hb7 hk7 x2 y3))
          go_roundg d
          case measure => omega
          case rel => exact ⟨i + 1, td, (by first | rfl | (rw [hwi]) | (simp [hwi]; done) | (simp; done)), ⟨by have := HK.out; omega⟩, HN2, HROW7, HB7⟩
        | zero =>
          have hi : i = q.length := by have := HK.out; omega
          subst hi
          have hn := HN.out
          rw [List.drop_length] at hn
          obtain rfl := Option.some.inj hn
          have d0 : decide ((q.length : Int) < (q.length : Int)) = false := decide_eq_false (by omega)
          have HT := Aside0.mk ((RunTo.refl HS.out).lower HB.out)
          clear hn HK HN hw
          go_wp2
          clear x2 d0
          go_loopg [9] t2.length (fun kq v9 w' => ∃ (j : Nat) (st1 : RX), v9 = .int .i64 ((j : Int) + 1) ∧ Aside0 (t2.length ≤ kq + j) ∧ Aside0 (j ≤ t2.length) ∧ Aside0 (followGo q bk (rtX K ps) k u (t2.drop j) st1 = some r) ∧ Aside0 ((Kd.int .i64).R 3 w' W.heap.size (fun _ => True) (.slice A4 t2.length c4) t2) ∧ Aside0 (RunTo w0 W g V ps bk q st1 w'))
          case atStart => exact ⟨0, st, (by first | rfl | (simp; done)), ⟨by omega⟩, ⟨by omega⟩, HR0, HROW, HT⟩
          case round =>
            clear HROW HT HB HR0
            obtain ⟨j, st1, rfl, HK, HJ, HGO, HROW, HT⟩ := hrel
            have htl := HTL.out
            have hjl := HJ.out
            have hfin : ¬ j + 1 < t2.length → st1 = r := fun hc => by
              have hg := HGO.out
              have hlen : (t2.drop j).length ≤ 1 := by rw [List.length_drop]; omega
              match hd : t2.drop j, hlen with
              | [], _ => rw [hd] at hg; exact Option.some.inj hg
              | [a], _ => rw [hd] at hg; exact Option.some.inj hg
            by_cases c1 : j + 1 < t2.length
            · obtain ⟨d, rfl⟩ : ∃ d, gk = d + 1 := ⟨gk - 1, by have := HK.out; omega⟩
              have j0 : (0 : Int) ≤ (j : Int) + 1 := by omega
              have j1 : (j : Int) + 1 < (t2.length : Int) := by omega
              have j2 : (j : Int) < (t2.length : Int) := by omega
              have j3 : (0 : Int) ≤ (j : Int) := by omega
              have dj : decide ((j : Int) + 1 < (t2.length : Int)) = true := decide_eq_true j1
              have hwj : wrap64 ((j : Int) + 1 + 1) = ((j + 1 : Nat) : Int) + 1 := by unfold wrap64; omega
              have hwm : wrap64 ((j : Int) + 1 - 1) = (j : Int) := by unfold wrap64; omega
              have ejn : ((j : Int) + 1).toNat = j + 1 := by omega
              have hq1 : IntKind.i64.wrap ((j : Int) + 1 - 1) = (j : Int) := by rw [i64_w]; unfold wrap64; omega
              have hq2 : IntKind.i64.wrap (j : Int) = (j : Int) := by rw [i64_w]; unfold wrap64; omega
              obtain ⟨ad, ea, u1⟩ := Kd.at_int (Kd.R_reads' HROW.out).2.2 ((j : Int) + 1) j0 j1
              subst ea
              obtain ⟨_, ea', u0⟩ := Kd.at_int (Kd.R_reads' HROW.out).2.2 (j : Int) j3 j2
              cases ea'
              obtain ⟨a, ha⟩ : ∃ a, a = rd t2 (j : Int) := ⟨_, rfl⟩
              obtain ⟨b, hb⟩ : ∃ b, b = rd t2 ((j : Int) + 1) := ⟨_, rfl⟩
              rw [← hb, ejn, addr_succ] at u1
              rw [← ha, Int.toNat_natCast] at u0
              have hg := HGO.out
              have e1 : t2.drop j = a :: b :: t2.drop (j + 2) := by
                rw [List.drop_eq_getElem_cons (by omega), List.drop_eq_getElem_cons (by omega), ← rd_of (by omega : j < t2.length), ← rd_of c1, ← ha, show (((j + 1 : Nat) : Int)) = (j : Int) + 1 by omega, ← hb]
              have e2 : t2.drop (j + 1) = b :: t2.drop (j + 2) := by
                rw [List.drop_eq_getElem_cons c1, ← rd_of c1, show (((j + 1 : Nat) : Int)) = (j : Int) + 1 by omega, ← hb]
              rw [e1, followGo.eq_1] at hg
              by_cases c2 : b ≤ u
              · have d2 : decide (b ≤ u) = true := decide_eq_true c2
                rw [if_pos c2, ← e2] at hg
                obtain ⟨st2, hstr, hg⟩ := Option.bind_eq_some_iff.mp hg
                have HSTR := Aside0.mk hstr
                have HG2 := Aside0.mk hg
                clear hg hstr e1 e2 ha hb c1 c2 hfin HGO htl hjl
                go_wp2
                go_still_tail 10, (by kernel_rfl)
                change wpList _ _ _ _ _ wr.drew
                obtain ⟨V1, h1, e1, e2, e3, e4, e5, e6⟩ := HT.out
                have H1D := Aside0.mk (h1.below (below_drew (Below.refl wr.heap.size wr)))
                have E6 := Aside0.mk (e6.trans (IntsButR.below (V := V) (below_drew (Below.refl wr.heap.size wr))))
                have HRD := Aside0.mk (Kd.R_below HROW.out (below_drew (Below.refl wr.heap.size wr)))
                have E1 := Aside0.mk e1
                have E2 := Aside0.mk e2
                have E3 := Aside0.mk e3
                have E4 := Aside0.mk e4
                have E5 := Aside0.mk e5
                clear h1 e1 e2 e3 e4 e5 e6
                go_wp2_with (first | (go_at_call 93; go_loud (with_reducible refine (stretch_calls a b K k st2 H1D.out HBL.out HSTR.out).mono ?_); rintro e' w7 ⟨rfl, ht7⟩; have HT7 := Aside0.mk ht7; clear ht7 u0 u1))
                have HROW7 := Aside0.mk (show (Kd.int .i64).R 3 w7 W.heap.size (fun _ => True) (.slice (some ad) t2.length c4) t2 by
                  obtain ⟨V2, h2, f1, f2, f3, f4, f5, f6⟩ := HT7.out
                  refine flat_move rfl HRD.out (fun kk hk => f6.2 kk (own_ty HRD.out hk) (fun e => ?_) (fun e => ?_))
                  · rw [E1.out] at e
                    have h3 := Kd.R_lt HS.out.l kk e
                    have h4 := Kd.R_base HRD.out kk hk
                    omega
                  · rw [E2.out] at e
                    have h3 := Kd.R_lt HS.out.d kk e
                    have h4 := Kd.R_base HRD.out kk hk
                    omega)
                go_roundg d
                case measure => omega
                case rel => exact ⟨j + 1, st2, (by first | rfl | (rw [hwj]) | (simp [hwj]; done) | (simp; done)), ⟨by have := HK.out; omega⟩, ⟨by omega⟩, HG2, HROW7, ⟨RunTo.trans E1.out E2.out E3.out E4.out E5.out E6.out HT7.out⟩⟩
              · have d2 : decide (b ≤ u) = false := decide_eq_false c2
                rw [if_neg c2] at hg
                obtain rfl := Option.some.inj hg
                clear hg e1 e2 ha hb c1 c2 hfin HGO htl hjl
                go_wp2
                go_end0
                exact ⟨rfl, HT.out⟩
            · have dj : decide ((j : Int) + 1 < (t2.length : Int)) = false := decide_eq_false (by omega)
              obtain rfl := hfin c1
              clear c1 hfin HGO htl hjl
              go_wp2
              go_end0
              exact ⟨rfl, HT.out⟩
/-- A run up to a moment. -/
def sentX (k : Nat) (ps : List S33) (bk : List Int) (q : List S63) (u : Int) : Option RX :=
  if bk.length ≤ 1000000 ∧ q.length ≤ 1000000 then followX q ps bk k k u (newRX q q.length) else none
set_option maxHeartbeats 4000000 in
set_option maxRecDepth 100000 in
theorem sent_calls {w0 W : World} {Ap Ab Aq : Option Addr} {cp cb cq : Nat} {ps : List S33} {bk : List Int} {q : List S63} (k : Nat) (r : RX) (hB : Below w0.heap.size w0 W) (hp : k33.C w0 Ap ps.length ps) (hpc : ps.length ≤ cp) (hb : (Kd.int .i64).C w0 Ab bk.length bk) (hbc : bk.length ≤ cb) (hq : k63.C w0 Aq q.length q) (hqc : q.length ≤ cq) (hr : sentX k ps bk q 1000000000000 = some r) :
    Calls Try.prog 84 #[.slice Ap ps.length cp, .slice Ab bk.length cb, .slice Aq q.length cq] W fun e w' => ∃ g V, e = .returned (.pointer (some ⟨g, 0, none⟩)) ∧ RunAt w0 w' g V ps bk q r := by
  unfold sentX at hr
  by_cases hc : bk.length ≤ 1000000 ∧ q.length ≤ 1000000
  rotate_left
  · rw [if_neg hc] at hr
    cases hr
  rw [if_pos hc] at hr
  have HB := Aside0.mk hB
  have HP := Aside0.mk hp
  have HBK := Aside0.mk hb
  have HQ := Aside0.mk hq
  have HR := Aside0.mk hr
  have HC := Aside0.mk hc
  clear hB hp hb hq hr hc
  go_enter Try.func84, Try.ntmps84
  go_wp2_with (first
    | (go_at_call 71; go_loud (with_reducible refine (newRun_calls HB.out HP.out hpc HBK.out hbc HQ.out hqc HC.out.2).mono ?_); rintro e w1 ⟨g, V, rfl, h1⟩; have H1 := Aside0.mk h1; clear h1)
    | (go_at_call 72; go_loud (with_reducible refine (follow_calls 1000000000000 k k r H1.out HC.out.1 HC.out.2 HR.out).mono ?_); rintro e w2 ⟨rfl, V2, h2, _⟩; have H2 := Aside0.mk h2; clear h2))
  go_ret
  exact ⟨g, V2, rfl, H2.out⟩
set_option maxHeartbeats 8000000 in
set_option maxRecDepth 100000 in
theorem lateN_calls {W : World} {Ap Ab Aq : Option Addr} {cp cb cq : Nat} {ps : List S33} {bk : List Int} {q : List S63} (k : Nat) (r : RX) (hp : k33.C W Ap ps.length ps) (hpc : ps.length ≤ cp) (hb : (Kd.int .i64).C W Ab bk.length bk) (hbc : bk.length ≤ cb) (hq : k63.C W Aq q.length q) (hqc : q.length ≤ cq) (hr : sentX k ps bk q 1000000000000 = some r) (hd : r.done.length = q.length) (hql : q.length ≤ 1000000) :
    Calls Try.prog 67 #[.slice Ap ps.length cp, .slice Ab bk.length cb, .slice Aq q.length cq] W fun e w' => ∃ v : Value, e = .returned v ∧ Kd.R Kd.string 9 w' W.heap.size (fun _ => True) v (lateX q r.done) ∧ Below W.heap.size W w' := by
  have HP := Aside0.mk hp
  have HBK := Aside0.mk hb
  have HQ := Aside0.mk hq
  have HR := Aside0.mk hr
  have HD := Aside0.mk hd
  have HQL := Aside0.mk hql
  clear hp hb hq hr hd hql
  go_enter Try.func67, Try.ntmps67
  go_wp2_with (first
    | (go_at_call 84; go_loud (with_reducible refine (sent_calls k r (Below.refl _ _) HP.out hpc HBK.out hbc HQ.out hqc HR.out).mono ?_); rintro e w1 ⟨g, V, rfl, h1⟩; have HS := Aside0.mk h1; clear h1))
  go_loopg [8, 9] q.length (fun kq v8 v9 w' => ∃ (i : Nat) (acc : List ByteArray), v9 = .int .i64 (i : Int) ∧ Aside0 (kq + i = q.length) ∧ Aside0 (acc.length ≤ i) ∧ Aside0 (acc ++ lateX (q.drop i) (r.done.drop i) = lateX q r.done) ∧ Aside0 (Kd.R Kd.string 9 w' w1.heap.size (fun _ => True) v8 acc) ∧ Aside0 (Below w1.heap.size w1 w'))
  case atStart => exact ⟨0, [], rfl, ⟨rfl⟩, ⟨Nat.le_refl _⟩, ⟨rfl⟩, ⟨Kd.R_nil _ _ _ _ _⟩, ⟨Below.refl _ _⟩⟩
  case round =>
    obtain ⟨i, acc, rfl, HK, HLE, HA, HR3, HB⟩ := hrel
    obtain ⟨A3, c3, e3⟩ := Kd.R_slice HR3.out
    subst e3
    cases gk with
    | zero =>
      have hi : i = q.length := by have := HK.out; omega
      subst hi
      have HF := Aside0.mk (show acc = lateX q r.done by have := HA.out; rw [List.drop_length] at this; simpa [lateX] using this)
      have d0 : decide ((q.length : Int) < (q.length : Int)) = false := decide_eq_false (by omega)
      clear HK HA
      go_wp2
      go_ret
      exact ⟨_, rfl, by rw [← HF.out]; exact Kd.R_lower HR3.out HS.out.bel.size, below_step HS.out.bel HB.out⟩
    | succ d =>
      have hi : i < q.length := by have := HK.out; omega
      have hi0 : (0 : Int) ≤ (i : Int) := by omega
      have hi1 : (i : Int) < (q.length : Int) := by omega
      have hid : (i : Int) < (r.done.length : Int) := by rw [HD.out]; exact hi1
      have hd1 : decide ((i : Int) < (q.length : Int)) = true := decide_eq_true hi1
      have hwi : wrap64 ((i : Int) + 1) = ((i + 1 : Nat) : Int) := by have := HQL.out; unfold wrap64; omega
      have hb0 := HS.out.below HB.out
      obtain ⟨adq, eq, y0, y1, y2, y3, y4⟩ := at_T63 (Kd.C_below HQ.out hb0.bel) (i : Int) hi0 hi1
      subst eq
      obtain ⟨x, hx⟩ : ∃ x, x = rd_T63 q (i : Int) := ⟨_, rfl⟩
      rw [← hx] at y0 y1 y2 y3 y4
      simp only [Int.toNat_natCast] at y0 y1 y2 y3 y4
      obtain ⟨dn, hdn⟩ : ∃ dn, dn = rd r.done (i : Int) := ⟨_, rfl⟩
      have hst := late_step hi (show r.done.length = q.length from HD.out) hx hdn
      have HST := Aside0.mk hst
      obtain ⟨ad, cd, x4, z4⟩ : ∃ ad cd, wr.cell? ⟨g, 4, none⟩ = some (.slice (some ad) r.done.length cd) ∧ wr.cell? (ad.add i) = some (.int .i64 dn) := (by obtain ⟨A, c, _, a2, a3⟩ := hb0.c4; obtain ⟨ad, ea, hx⟩ := Kd.at_int a3 (i : Int) hi0 hid; subst ea; rw [← hdn] at hx; simp only [Int.toNat_natCast] at hx; exact ⟨ad, c, a2, hx⟩)
      clear hx hb0 hst hdn y1 y2 y3
      by_cases c1 : dn < 0
      · have d1 : decide (dn < 0) = true := decide_eq_true c1
        have C1 := Aside0.mk c1
        clear c1
        go_wp2
        go_quiet (fail)
        go_wp2_with (first | ((with_reducible refine gate_builtin (b := .append) (xs := #[.tmp 43, .tmp 49]) rfl ?_); at_builtin; go_loud (refine Kd.R_append Kd.string (w0 := w1) (W := wr.drewN nq) w1.heap.size rfl (.tmp 43) (.tmp 49) 48 9 (.string ⟨#[]⟩) 16 rfl Try.underlying48 info9 rfl (by decide) (by omega) (.slice A3 acc.length c3) acc x.f0 [.string x.f0] (fun _ => True) (fun _ => False) rfl (by first | rfl | (go_simp; done) | (simp [World.alloc]; done)) (show Kd.M Kd.string _ _ _ x.f0 [.string x.f0] from rfl) (fun _ h => h.elim) (fun _ _ => trivial) (Kd.R_below HR3.out (pw_below_drewN (Below.refl _ _) nq)) (pw_below_drewN HB.out nq) (pw_below_drewN HB.out nq).size (by have := HLE.out; have := HQL.out; have := HK.out; omega) ?_); go_loud (intro v3b w3 ho hb _ _; have HR4 := Aside0.mk ho; have HB4 := Aside0.mk hb; clear ho hb)))
        go_roundg d
        case measure => omega
        case rel => exact ⟨i + 1, acc ++ [x.f0], (by first | rfl | (rw [hwi]) | (simp [hwi]; done) | (simp; done)), ⟨by have := HK.out; omega⟩, ⟨by have := HLE.out; simp; omega⟩, ⟨by rw [← HA.out, HST.out, if_pos (Or.inl C1.out)]; simp⟩, HR4, HB4⟩
      · have d1 : decide (dn < 0) = false := decide_eq_false c1
        have C1 := Aside0.mk c1
        clear c1
        by_cases c2 : x.f4 < dn
        · have d2 : decide (x.f4 < dn) = true := decide_eq_true c2
          have C2 := Aside0.mk c2
          clear c2
          go_wp2
          go_quiet (fail)
          go_wp2_with (first | ((with_reducible refine gate_builtin (b := .append) (xs := #[.tmp 43, .tmp 49]) rfl ?_); at_builtin; go_loud (refine Kd.R_append Kd.string (w0 := w1) (W := wr.drewN nq) w1.heap.size rfl (.tmp 43) (.tmp 49) 48 9 (.string ⟨#[]⟩) 16 rfl Try.underlying48 info9 rfl (by decide) (by omega) (.slice A3 acc.length c3) acc x.f0 [.string x.f0] (fun _ => True) (fun _ => False) rfl (by first | rfl | (go_simp; done) | (simp [World.alloc]; done)) (show Kd.M Kd.string _ _ _ x.f0 [.string x.f0] from rfl) (fun _ h => h.elim) (fun _ _ => trivial) (Kd.R_below HR3.out (pw_below_drewN (Below.refl _ _) nq)) (pw_below_drewN HB.out nq) (pw_below_drewN HB.out nq).size (by have := HLE.out; have := HQL.out; have := HK.out; omega) ?_); go_loud (intro v3b w3 ho hb _ _; have HR4 := Aside0.mk ho; have HB4 := Aside0.mk hb; clear ho hb)))
          go_roundg d
          case measure => omega
          case rel => exact ⟨i + 1, acc ++ [x.f0], (by first | rfl | (rw [hwi]) | (simp [hwi]; done) | (simp; done)), ⟨by have := HK.out; omega⟩, ⟨by have := HLE.out; simp; omega⟩, ⟨by rw [← HA.out, HST.out, if_pos (Or.inr C2.out)]; simp⟩, HR4, HB4⟩
        · have d2 : decide (x.f4 < dn) = false := decide_eq_false c2
          have C2 := Aside0.mk c2
          clear c2
          go_wp2
          go_quiet (fail)
          go_wp2
          go_roundg d
          case measure => omega
          case rel => exact ⟨i + 1, acc, (by first | rfl | (rw [hwi]) | (simp [hwi]; done) | (simp; done)), ⟨by have := HK.out; omega⟩, ⟨by have := HLE.out; omega⟩, ⟨by rw [← HA.out, HST.out, if_neg (by have := C1.out; have := C2.out; omega)]⟩, ⟨Kd.R_below HR3.out (pw_below_drewN (Below.refl _ _) _)⟩, ⟨pw_below_drewN HB.out _⟩⟩
end Go.Proofs.Ytbngmblgkkdhpaa.Q
