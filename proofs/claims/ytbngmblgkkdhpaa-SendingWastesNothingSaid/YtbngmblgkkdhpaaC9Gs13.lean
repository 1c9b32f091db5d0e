-- Made by wip/tools/claimp.py of this session's texts; Lean checks it.
import Derived.Test.YtbngmblgkkdhpaaC9Q0
import Derived.Test.YtbngmblgkkdhpaaC9Gs1
import Derived.Test.YtbngmblgkkdhpaaC9Gs10
import Derived.Test.YtbngmblgkkdhpaaC9Gs11
import Derived.Test.YtbngmblgkkdhpaaC9Gs12
import Derived.Test.YtbngmblgkkdhpaaC9Gs2
import Derived.Test.YtbngmblgkkdhpaaC9Gs3
import Derived.Test.YtbngmblgkkdhpaaC9Gs5
import Derived.Test.YtbngmblgkkdhpaaC9Gs6
import Derived.Test.YtbngmblgkkdhpaaC9Gs7
import Derived.Test.YtbngmblgkkdhpaaC9Gs8
import Derived.Test.YtbngmblgkkdhpaaC9Gs9
namespace Go.Proofs.Ytbngmblgkkdhpaa.Q
open Go.RowKit Go.Proofs.YtbngmblgkkdhpaaW.PrintWords Go.Proofs.YtbngmblgkkdhpaaW.PrintLast Go.Proofs.YtbngmblgkkdhpaaW.PrintMore
attribute [local go_sem] max2_int min2_int max_two min_two max_three min_three max_four min_four
open Go.Proofs.Ytbngmblgkkdhpaa.Base
attribute [local go_sem high] str_leq str_gtr str_geq
set_option linter.unusedVariables false
set_option linter.unusedSimpArgs false
def perigeeref10_volume.l0 : Nat → Int → Int → Int → Int → ByteArray → Int → Int → List (S75) → Option (Int)
  | 0, _, _, _, _, _, _, _, _ => none
  | k + 1, x1, x2, x7, x8, x102000, x102001, x102002, x102003 => if x8 < (x102003.length : Int) then (if (wrap64 (x8 + 1)) < (x102003.length : Int) then (if 0 ≤ (wrap64 (x8 + 1)) then (if 0 ≤ x8 then (if (mn x2 ((rd_T75 x102003 (wrap64 (x8 + 1))).f0)) > (mx x1 ((rd_T75 x102003 x8).f0)) then (perigeeref10_volume.l0 k x1 x2 (wrap64 (x7 + (wrap64 ((wrap64 ((mn x2 ((rd_T75 x102003 (wrap64 (x8 + 1))).f0)) - (mx x1 ((rd_T75 x102003 x8).f0)))) * ((rd_T75 x102003 x8).f1))))) (wrap64 (x8 + 1)) x102000 x102001 x102002 x102003) else (perigeeref10_volume.l0 k x1 x2 x7 (wrap64 (x8 + 1)) x102000 x102001 x102002 x102003)) else (none)) else (none)) else (if 0 ≤ x8 then (if (mn x2 x102002) > (mx x1 ((rd_T75 x102003 x8).f0)) then (perigeeref10_volume.l0 k x1 x2 (wrap64 (x7 + (wrap64 ((wrap64 ((mn x2 x102002) - (mx x1 ((rd_T75 x102003 x8).f0)))) * ((rd_T75 x102003 x8).f1))))) (wrap64 (x8 + 1)) x102000 x102001 x102002 x102003) else (perigeeref10_volume.l0 k x1 x2 x7 (wrap64 (x8 + 1)) x102000 x102001 x102002 x102003)) else (none))) else (some x7)
def perigeeref10_volume.f (k : Nat) (a0_0 : ByteArray) (a0_1 : Int) (a0_2 : Int) (l0_3 : List (S75)) (a1 : Int) (a2 : Int) : Option (Int) := perigeeref10_volume.l0 k a1 a2 0 0 a0_0 a0_1 a0_2 l0_3
/-- What was not sent of the first n items that are ready before a moment. -/
def backS (q : List S63) (sent : List Int) (at_ : Int) : Nat → Int
  | 0 => 0
  | n + 1 => if (rd_T63 q (n : Int)).f3 < at_ then wrap64 (backS q sent at_ n + wrap64 ((rd_T63 q (n : Int)).f1 - rd sent (n : Int))) else backS q sent at_ n
def contact_Backlog.f (k : Nat) (l0 : List S33) (l1 : List Int) (l2 : List S63) (a3 : Int) : Option (Int × Int) :=
  (contact_check.f k l0 l1).bind fun e => if e = 0 then (contact_CheckItems.f k l2).bind fun e1 => (kit_Range.f a3 0 1000000000000).bind fun e2 => (kit_First.f k [e1, e2]).bind fun e3 => if e3 = 0 then
    (newX k l0 l1 l2).bind fun s => (runX l2 l1 a3 k s).bind fun r => if r.sent.length = l2.length ∧ l2.length ≤ 1000000 then some (backS l2 r.sent a3 l2.length, 0) else none
    else some (0, e3) else some (0, e)
set_option maxHeartbeats 8000000 in
set_option maxRecDepth 100000 in
theorem contact_Backlog.calls (k : Nat) (A0 : Option Addr) (c0 : Nat) (l0 : List S33) (A1 : Option Addr) (c1 : Nat) (l1 : List Int) (A2 : Option Addr) (c2 : Nat) (l2 : List S63) (a3 : Int) (r1 : Int) (r2 : Int) (w : World) (hr0 : Kd.C k33 w A0 l0.length l0) (hc0 : l0.length ≤ c0) (hr1 : Kd.C (Kd.int .i64) w A1 l1.length l1) (hc1 : l1.length ≤ c1) (hr2 : Kd.C k63 w A2 l2.length l2) (hc2 : l2.length ≤ c2) (h : contact_Backlog.f k l0 l1 l2 a3 = some (r1, r2)) :
 Calls Try.prog 32 #[.slice A0 l0.length c0, .slice A1 l1.length c1, .slice A2 l2.length c2, .int .i64 a3] w fun e w' => e = .returned (.tuple #[.int .i64 r1, .int .i64 r2]) ∧ Below w.heap.size w w' := by
 unfold contact_Backlog.f at h
 obtain ⟨e0, h0, h⟩ := Option.bind_eq_some_iff.mp h
 have HR0 := Aside0.mk hr0
 have HR1 := Aside0.mk hr1
 have HR2 := Aside0.mk hr2
 have H0 := Aside0.mk h0
 clear hr0 hr1 hr2 h0
 by_cases c : e0 = 0
 · have d : (e0 != 0) = false := by simpa using c
   rw [if_pos c] at h
   obtain ⟨p, hp, h⟩ := Option.bind_eq_some_iff.mp h
   obtain ⟨q, hq, h⟩ := Option.bind_eq_some_iff.mp h
   obtain ⟨ff, hf, h⟩ := Option.bind_eq_some_iff.mp h
   obtain ⟨y, hy⟩ : ∃ y, y = [p, q] := ⟨_, rfl⟩
   rw [← hy] at hf
   have HP := Aside0.mk hp
   have HQ := Aside0.mk hq
   have HF := Aside0.mk hf
   have HY := Aside0.mk hy
   clear hp hq hf hy c
   by_cases c2 : ff = 0
   · rw [if_pos c2] at h
     obtain ⟨s, hs, h⟩ := Option.bind_eq_some_iff.mp h
     obtain ⟨r, hrun, h⟩ := Option.bind_eq_some_iff.mp h
     by_cases hk : r.sent.length = l2.length ∧ l2.length ≤ 1000000
     · rw [if_pos hk] at h
       have h := Option.some.inj h
       injection h with ha hb
       subst ha hb c2
       have HS := Aside0.mk hs
       have HRUN := Aside0.mk hrun
       have HK := Aside0.mk hk
       clear hs hrun hk
       go_enter Try.func32, Try.ntmps32
       go_wp2_with (first
        | (go_at_call 56; go_loud (with_reducible refine (contact_check.calls k A0 c0 l0 A1 c1 l1 e0 _ HR0.out hc0 HR1.out hc1 H0.out).mono ?_); rintro e w1 ⟨rfl, hb1⟩; have HB1 := Aside0.mk hb1; clear hb1)
        | (go_at_call 68; go_loud (with_reducible refine (contact_CheckItems.calls k A2 c2 l2 p _ (Kd.C_below HR2.out HB1.out) hc2 HP.out).mono ?_); rintro e w2 ⟨rfl, hb2⟩; have HB2 := Aside0.mk (below_step HB1.out hb2); clear hb2)
        | (go_at_call 40; go_loud (with_reducible refine (kit_Range.calls a3 0 1000000000000 q _ HQ.out).mono ?_); rintro e wq ⟨rfl, ⟨nd, rfl⟩⟩)
        | ((with_reducible refine gate_dst (N := 26) rfl ?_); go_loud (refine Kd.R_lit (Kd.int .i64) w.heap.size 23 ?hg (N := 26) ?hd (xs := ([p, q] : List Int)) (inner := [.int .i64 p, .int .i64 q]) (ok := fun _ => True) (okp := fun _ => True) ?hr ?hp (fun _ hk => hk) trivial (pw_below_drewN HB2.out nd) (pw_below_drewN HB2.out nd).size (by simp) ?_); (case hd => rfl); (case hg => rfl); (case hr => first | (go_simp; done) | (go_simp; rfl)); (case hp => exact (Reps.one (show Kd.M (Kd.int .i64) _ _ _ p [.int .i64 p] from rfl) (Reps.one (show Kd.M (Kd.int .i64) _ _ _ q [.int .i64 q] from rfl) (Reps.none _ _)))); intro vy wy ho14 hb hg_ hnew_; clear hg_ hnew_; rw [← HY.out] at ho14; have HOY := Aside0.mk ho14; have HB3 := Aside0.mk hb; clear hb ho14; obtain ⟨Ay, cy, ey⟩ := Kd.R_slice HOY.out; subst ey)
        | (go_at_call 38; go_loud (with_reducible refine (kit_First.calls k _ _ y _ _ (Kd.R_reads' HOY.out).2.2 (Kd.R_reads' HOY.out).2.1 HF.out).mono ?_); rintro e wf ⟨rfl, ⟨nd2, rfl⟩⟩)
        | (go_at_call 69; go_loud (with_reducible refine (newSender_calls k s (pw_below_drewN HB3.out nd2) HR0.out hc0 HR1.out hc1 HR2.out hc2 HS.out).mono ?_); rintro e w3 ⟨g, V, rfl, hs3⟩; have HS3 := Aside0.mk hs3; clear hs3)
        | (go_at_call 70; go_loud (with_reducible refine (run_calls a3 k r HS3.out HRUN.out).mono ?_); rintro e w4 ⟨rfl, V4, hs4, _⟩; have HS4 := Aside0.mk hs4; clear hs4))
       go_loopg [13, 40] l2.length (fun kq v13 v40 w' => ∃ (i : Nat) (b : Int), v13 = .int .i64 b ∧ v40 = .int .i64 (i : Int) ∧ Aside0 (kq + i = l2.length) ∧ Aside0 (b = backS l2 r.sent a3 i) ∧ Aside0 (Below w4.heap.size w4 w'))
       case atStart => exact ⟨0, 0, rfl, rfl, ⟨rfl⟩, ⟨rfl⟩, ⟨Below.refl _ _⟩⟩
       case round =>
        obtain ⟨i, b, rfl, rfl, HKi, HFB, HB⟩ := hrel
        cases gk with
        | zero =>
         have hi : i = l2.length := by have := HKi.out; omega
         subst hi
         have HF2 := Aside0.mk HFB.out
         clear HKi HFB
         go_wp2
         go_ret2
         exact ⟨by rw [HF2.out]; rfl, below_step HS4.out.bel HB.out⟩
        | succ dd =>
         have hi : i < l2.length := by have := HKi.out; omega
         have hi0 : (0 : Int) ≤ (i : Int) := by omega
         have hi1 : (i : Int) < (l2.length : Int) := by omega
         have hid : (i : Int) < (r.sent.length : Int) := by rw [HK.out.1]; exact hi1
         have hd1 : decide ((i : Int) < (l2.length : Int)) = true := decide_eq_true hi1
         have hwi : wrap64 ((i : Int) + 1) = ((i + 1 : Nat) : Int) := by have := HK.out.2; unfold wrap64; omega
         have hb0 := HS4.out.below HB.out
         obtain ⟨adq, eq, y0, y1, y2, y3, y4⟩ := at_T63 (Kd.C_below HR2.out hb0.bel) (i : Int) hi0 hi1
         subst eq
         obtain ⟨x, hx⟩ : ∃ x, x = rd_T63 l2 (i : Int) := ⟨_, rfl⟩
         rw [← hx] at y0 y1 y2 y3 y4
         simp only [Int.toNat_natCast] at y0 y1 y2 y3 y4
         obtain ⟨sv, hsv⟩ : ∃ sv, sv = rd r.sent (i : Int) := ⟨_, rfl⟩
         have hst : backS l2 r.sent a3 (i + 1) = if x.f3 < a3 then wrap64 (b + wrap64 (x.f1 - sv)) else b := by rw [hx, hsv, HFB.out]; rfl
         have HST := Aside0.mk hst
         have HSV := Aside0.mk hsv
         clear hx hb0 hst hsv HFB
         go_upto_region 13 with (fail)
         obtain ⟨g5, hg5⟩ : ∃ g5, g5 = wr.heap.size := ⟨_, rfl⟩
         obtain ⟨w5, hw5⟩ : ∃ w5, w5 = wr.alloc (.cells #[.string x.f0, .int .i64 x.f1, .int .i64 x.f2, .int .i64 x.f3, .int .i64 x.f4] 63) := ⟨_, rfl⟩
         rw [← hw5, ← hg5]
         have HB5 := Aside0.mk (show Below w4.heap.size w4 w5 by rw [hw5]; exact below_alloc HB.out _)
         have BK := Aside0.mk (show w5.heap[g5]? = some (.cells #[.string x.f0, .int .i64 x.f1, .int .i64 x.f2, .int .i64 x.f3, .int .i64 x.f4] 63 (0, 0)) by rw [hw5, hg5]; exact heap_alloc_new wr _)
         clear hw5 hg5 y0 y1 y2 y3 y4 HB
         have z1 : w5.cell? ⟨g5, 1, none⟩ = some (.int .i64 x.f1) := (blk_cell BK.out 1).trans rfl
         have z3 : w5.cell? ⟨g5, 3, none⟩ = some (.int .i64 x.f3) := (blk_cell BK.out 3).trans rfl
         obtain ⟨ad, cd, x3, u3⟩ : ∃ ad cd, w5.cell? ⟨g, 3, none⟩ = some (.slice (some ad) r.sent.length cd) ∧ w5.cell? (ad.add i) = some (.int .i64 sv) := (by obtain ⟨A, c, _, a2, a3⟩ := (HS4.out.below HB5.out).c3; obtain ⟨ad, ea, hx⟩ := Kd.at_int a3 (i : Int) hi0 hid; subst ea; rw [← HSV.out] at hx; simp only [Int.toNat_natCast] at hx; exact ⟨ad, c, a2, hx⟩)
         by_cases c1 : x.f3 < a3
         · have d1 : decide (x.f3 < a3) = true := decide_eq_true c1
           have C1 := Aside0.mk c1
           clear c1
           go_wp2
           go_quiet (fail)
           go_wp2
           go_roundg dd
           case measure => omega
           case rel => exact ⟨i + 1, wrap64 (b + wrap64 (x.f1 - sv)), (by first | rfl | (simp only [i64_w]; done) | (simp only [i64_w]; rfl) | (simp; done)), (by first | rfl | (rw [hwi]) | (simp [hwi]; done) | (simp; done)), ⟨by have := HKi.out; omega⟩, ⟨by rw [HST.out, if_pos C1.out]⟩, ⟨pw_below_drewN HB5.out _⟩⟩
         · have d1 : decide (x.f3 < a3) = false := decide_eq_false c1
           have C1 := Aside0.mk c1
           clear c1
           go_wp2
           go_roundg dd
           case measure => omega
           case rel => exact ⟨i + 1, b, rfl, (by first | rfl | (rw [hwi]) | (simp [hwi]; done) | (simp; done)), ⟨by have := HKi.out; omega⟩, ⟨by rw [HST.out, if_neg (by have := C1.out; omega)]⟩, HB5⟩
     · rw [if_neg hk] at h
       cases h
   · have d2 : (ff != 0) = true := by simpa using c2
     rw [if_neg c2] at h
     have h := Option.some.inj h
     injection h with ha hb
     subst ha hb
     clear c2
     go_enter Try.func32, Try.ntmps32
     go_wp2_with (first
      | (go_at_call 56; go_loud (with_reducible refine (contact_check.calls k A0 c0 l0 A1 c1 l1 e0 _ HR0.out hc0 HR1.out hc1 H0.out).mono ?_); rintro e w1 ⟨rfl, hb1⟩; have HB1 := Aside0.mk hb1; clear hb1)
      | (go_at_call 68; go_loud (with_reducible refine (contact_CheckItems.calls k A2 c2 l2 p _ (Kd.C_below HR2.out HB1.out) hc2 HP.out).mono ?_); rintro e w2 ⟨rfl, hb2⟩; have HB2 := Aside0.mk (below_step HB1.out hb2); clear hb2)
      | (go_at_call 40; go_loud (with_reducible refine (kit_Range.calls a3 0 1000000000000 q _ HQ.out).mono ?_); rintro e wq ⟨rfl, ⟨nd, rfl⟩⟩)
      | ((with_reducible refine gate_dst (N := 26) rfl ?_); go_loud (refine Kd.R_lit (Kd.int .i64) w.heap.size 23 ?hg (N := 26) ?hd (xs := ([p, q] : List Int)) (inner := [.int .i64 p, .int .i64 q]) (ok := fun _ => True) (okp := fun _ => True) ?hr ?hp (fun _ hk => hk) trivial (pw_below_drewN HB2.out nd) (pw_below_drewN HB2.out nd).size (by simp) ?_); (case hd => rfl); (case hg => rfl); (case hr => first | (go_simp; done) | (go_simp; rfl)); (case hp => exact (Reps.one (show Kd.M (Kd.int .i64) _ _ _ p [.int .i64 p] from rfl) (Reps.one (show Kd.M (Kd.int .i64) _ _ _ q [.int .i64 q] from rfl) (Reps.none _ _)))); intro vy wy ho14 hb hg_ hnew_; clear hg_ hnew_; rw [← HY.out] at ho14; have HOY := Aside0.mk ho14; have HB3 := Aside0.mk hb; clear hb ho14; obtain ⟨Ay, cy, ey⟩ := Kd.R_slice HOY.out; subst ey)
      | (go_at_call 38; go_loud (with_reducible refine (kit_First.calls k _ _ y _ _ (Kd.R_reads' HOY.out).2.2 (Kd.R_reads' HOY.out).2.1 HF.out).mono ?_); rintro e wf ⟨rfl, ⟨nd2, rfl⟩⟩))
     go_ret2
     exact ⟨rfl, pw_below_drewN HB3.out _⟩
 · have d : (e0 != 0) = true := by simpa using c
   rw [if_neg c] at h
   have h := Option.some.inj h
   injection h with ha hb
   subst ha hb
   clear c
   go_enter Try.func32, Try.ntmps32
   go_wp2_with (first
    | (go_at_call 56; go_loud (with_reducible refine (contact_check.calls k A0 c0 l0 A1 c1 l1 _ _ HR0.out hc0 HR1.out hc1 H0.out).mono ?_); rintro e w1 ⟨rfl, hb1⟩; have HB1 := Aside0.mk hb1; clear hb1))
   go_ret2
   exact ⟨rfl, HB1.out⟩
/-- What was not sent of the first n items that are ready before a moment. -/
def backR (q : List S63) (left : List Int) (at_ : Int) : Nat → Int
  | 0 => 0
  | n + 1 => if (rd_T63 q (n : Int)).f3 < at_ then wrap64 (backR q left at_ n + rd left (n : Int)) else backR q left at_ n
end Go.Proofs.Ytbngmblgkkdhpaa.Q
