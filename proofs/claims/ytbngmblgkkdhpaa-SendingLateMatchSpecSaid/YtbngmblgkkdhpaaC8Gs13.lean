-- Made by wip/tools/claimp.py of this session's texts; Lean checks it.
import Derived.Test.YtbngmblgkkdhpaaC8Q0
import Derived.Test.YtbngmblgkkdhpaaC8Gs1
import Derived.Test.YtbngmblgkkdhpaaC8Gs10
import Derived.Test.YtbngmblgkkdhpaaC8Gs11
import Derived.Test.YtbngmblgkkdhpaaC8Gs12
import Derived.Test.YtbngmblgkkdhpaaC8Gs2
import Derived.Test.YtbngmblgkkdhpaaC8Gs3
import Derived.Test.YtbngmblgkkdhpaaC8Gs4
import Derived.Test.YtbngmblgkkdhpaaC8Gs5
import Derived.Test.YtbngmblgkkdhpaaC8Gs6
import Derived.Test.YtbngmblgkkdhpaaC8Gs7
import Derived.Test.YtbngmblgkkdhpaaC8Gs8
import Derived.Test.YtbngmblgkkdhpaaC8Gs9
namespace Go.Proofs.Ytbngmblgkkdhpaa.Q
open Go.RowKit Go.Proofs.YtbngmblgkkdhpaaW.PrintWords Go.Proofs.YtbngmblgkkdhpaaW.PrintLast Go.Proofs.YtbngmblgkkdhpaaW.PrintMore
attribute [local go_sem] max2_int min2_int max_two min_two max_three min_three max_four min_four
open Go.Proofs.Ytbngmblgkkdhpaa.Base
attribute [local go_sem high] str_leq str_gtr str_geq
set_option linter.unusedVariables false
set_option linter.unusedSimpArgs false
def perigeeref10_volume.l0 : Nat → Int → Int → Int → Int → ByteArray → Int → Int → List (S75) → Option (Int)
  | 0, _, _, _, _, _, _, _, _ => none
  | k + 1, x1, x2, x7, x8, x102000, x102001, x102002, x102003 => if x8 < (x102003.length : Int) then (if (wrap64 (x8 + 1)) < (x102003.length : Int) then (if 0 ≤ (wrap64 (x8 + 1)) then (if 0 ≤ x8 then (if (mn x2 ((rd_T75 x102003 (wrap64 (x8 + 1))).f0)) > (mx x1 ((rd_T75 x102003 x8).f0)) then (perigeeref10_volume.l0 k x1 x2 (wrap64 (x7 + (wrap64 ((wrap64 ((mn x2 ((rd_T75 x102003 (wrap64 (x8 + 1))).f0)) - (mx x1 ((rd_T75 x102003 x8).f0)))) * ((rd_T75 x102003 x8).f1))))) (wrap64 (x8 + 1)) x102000 x102001 x102002 x102003) else (perigeeref10_volume.l0 k x1 x2 x7 (wrap64 (x8 + 1)) x102000 x102001 x102002 x102003)) else (none)) else (none)) else (if 0 ≤ x8 then (if (mn x2 x102002) > (mx x1 ((rd_T75 x102003 x8).f0)) then (perigeeref10_volume.l0 k x1 x2 (wrap64 (x7 + (wrap64 ((wrap64 ((mn x2 x102002) - (mx x1 ((rd_T75 x102003 x8).f0)))) * ((rd_T75 x102003 x8).f1))))) (wrap64 (x8 + 1)) x102000 x102001 x102002 x102003) else (perigeeref10_volume.l0 k x1 x2 x7 (wrap64 (x8 + 1)) x102000 x102001 x102002 x102003)) else (none))) else (some x7)
def perigeeref10_volume.f (k : Nat) (a0_0 : ByteArray) (a0_1 : Int) (a0_2 : Int) (l0_3 : List (S75)) (a1 : Int) (a2 : Int) : Option (Int) := perigeeref10_volume.l0 k a1 a2 0 0 a0_0 a0_1 a0_2 l0_3
def perigeeref10_Late.f (k : Nat) (l0 : List S33) (l1 : List Int) (l2 : List S63) : Option (List ByteArray × Int) :=
  (perigeeref10_checkSend.f k l0 l1 l2).bind fun e => if e = 0 then (sentX k l0 l1 l2 1000000000000).bind fun r => if r.done.length = l2.length ∧ l2.length ≤ 1000000 then some (lateX l2 r.done, 0) else none else some ([], e)
set_option maxHeartbeats 4000000 in
set_option maxRecDepth 100000 in
theorem perigeeref10_Late.calls (k : Nat) (A0 : Option Addr) (c0 : Nat) (l0 : List S33) (A1 : Option Addr) (c1 : Nat) (l1 : List Int) (A2 : Option Addr) (c2 : Nat) (l2 : List S63) (r1 : List ByteArray) (r2 : Int) (w : World) (hr0 : Kd.C k33 w A0 l0.length l0) (hc0 : l0.length ≤ c0) (hr1 : Kd.C (Kd.int .i64) w A1 l1.length l1) (hc1 : l1.length ≤ c1) (hr2 : Kd.C k63 w A2 l2.length l2) (hc2 : l2.length ≤ c2) (h : perigeeref10_Late.f k l0 l1 l2 = some (r1, r2)) :
 Calls Try.prog 31 #[.slice A0 l0.length c0, .slice A1 l1.length c1, .slice A2 l2.length c2] w fun e w' => ∃ v0_ : Value, e = .returned (.tuple #[v0_, .int .i64 r2]) ∧ Kd.R Kd.string 9 w' w.heap.size (fun _ => True) v0_ r1 ∧ Below w.heap.size w w' := by
 unfold perigeeref10_Late.f at h
 obtain ⟨e1, h1, h⟩ := Option.bind_eq_some_iff.mp h
 have HR0 := Aside0.mk hr0
 have HR1 := Aside0.mk hr1
 have HR2 := Aside0.mk hr2
 have H1 := Aside0.mk h1
 clear hr0 hr1 hr2 h1
 by_cases c : e1 = 0
 · have d : (e1 != 0) = false := by simpa using c
   rw [if_pos c] at h
   obtain ⟨r, h2, h⟩ := Option.bind_eq_some_iff.mp h
   by_cases hk : r.done.length = l2.length ∧ l2.length ≤ 1000000
   · rw [if_pos hk] at h
     have h := Option.some.inj h
     injection h with ha hb
     subst ha hb
     have H2 := Aside0.mk h2
     have HK := Aside0.mk hk
     clear h2 hk c
     go_enter Try.func31, Try.ntmps31
     go_wp2_with (first
      | (go_at_call 66; go_loud (with_reducible refine (perigeeref10_checkSend.calls k A0 c0 l0 A1 c1 l1 A2 c2 l2 e1 _ HR0.out hc0 HR1.out hc1 HR2.out hc2 H1.out).mono ?_); rintro e w1 ⟨rfl, hb1⟩; have HB1 := Aside0.mk hb1; clear hb1)
      | (go_at_call 67; go_loud (with_reducible refine (lateN_calls k r (Kd.C_below HR0.out HB1.out) hc0 (Kd.C_below HR1.out HB1.out) hc1 (Kd.C_below HR2.out HB1.out) hc2 H2.out HK.out.1 HK.out.2).mono ?_); rintro e w2 ⟨v, rfl, hv, hb2⟩; have HV := Aside0.mk hv; have HB2 := Aside0.mk hb2; clear hv hb2))
     go_ret2
     exact ⟨v, rfl, Kd.R_lower HV.out HB1.out.size, below_step HB1.out HB2.out⟩
   · rw [if_neg hk] at h
     cases h
 · have d : (e1 != 0) = true := by simpa using c
   rw [if_neg c] at h
   have h := Option.some.inj h
   injection h with ha hb
   subst ha hb
   clear c
   go_enter Try.func31, Try.ntmps31
   go_wp2_with (first
    | (go_at_call 66; go_loud (with_reducible refine (perigeeref10_checkSend.calls k A0 c0 l0 A1 c1 l1 A2 c2 l2 _ _ HR0.out hc0 HR1.out hc1 HR2.out hc2 H1.out).mono ?_); rintro e w1 ⟨rfl, hb1⟩; have HB1 := Aside0.mk hb1; clear hb1))
   go_ret2
   exact ⟨_, rfl, Kd.R_nil _ _ _ _ _, HB1.out⟩
/-- What was not sent of the first n items that are ready before a moment. -/
def backS (q : List S63) (sent : List Int) (at_ : Int) : Nat → Int
  | 0 => 0
  | n + 1 => if (rd_T63 q (n : Int)).f3 < at_ then wrap64 (backS q sent at_ n + wrap64 ((rd_T63 q (n : Int)).f1 - rd sent (n : Int))) else backS q sent at_ n
def contact_Backlog.f (k : Nat) (l0 : List S33) (l1 : List Int) (l2 : List S63) (a3 : Int) : Option (Int × Int) :=
  (contact_check.f k l0 l1).bind fun e => if e = 0 then (contact_CheckItems.f k l2).bind fun e1 => (kit_Range.f a3 0 1000000000000).bind fun e2 => (kit_First.f k [e1, e2]).bind fun e3 => if e3 = 0 then
    (newX k l0 l1 l2).bind fun s => (runX l2 l1 a3 k s).bind fun r => if r.sent.length = l2.length ∧ l2.length ≤ 1000000 then some (backS l2 r.sent a3 l2.length, 0) else none
    else some (0, e3) else some (0, e)
set_option maxHeartbeats 8000000 in
set_option maxRecDepth 100000 in
theorem contact_Backlog.calls (k : Nat) (A0 : Option Addr) (c0 : Nat) (l0 : List S33) (A1 : Option Addr) (c1 : Nat) (l1 : List Int) (A2 : Option Addr) (c2 : Nat) (l2 : List S63) (a3 : Int) (r1 : Int) (r2 : Int) (w : World) (hr0 : Kd.C k33 w A0 l0.length l0) (hc0 : l0.length ≤ c0) (hr1 : Kd.C (Kd.int .i64) w A1 l1.length l1) (hc1 : l1.length ≤ c1) (hr2 : Kd.C k63 w A2 l2.length l2) (hc2 : l2.length ≤ c2) (h : contact_Backlog.f k l0 l1 l2 a3 = some (r1, r2)) :
 Calls Try.prog 32 #[.slice A0 l0.length c0, .slice A1 l1.length c1, .slice A2 l2.length c2, .int .i64 a3] w fun e w' => e = .returned (.tuple #[.int .i64 r1, .int .i64 r2]) ∧ Below w.heap.size w w' := by
 unfold contact_Backlog.f at h
 obtain ⟨e0, h0, h⟩ := Option.bind_eq_some_iff.mp h
 have HR0 := Aside0.mk hr0
 have HR1 := Aside0.mk hr1
 have HR2 := Aside0.mk hr2
 have H0 := Aside0.mk h0
 clear hr0 hr1 hr2 h0
 by_cases c : e0 = 0
 · have d : (e0 != 0) = false := by simpa using c
   rw [if_pos c] at h
   obtain ⟨p, hp, h⟩ := Option.bind_eq_some_iff.mp h
   obtain ⟨q, hq, h⟩ := Option.bind_eq_some_iff.mp h
   obtain ⟨ff, hf, h⟩ := Option.bind_eq_some_iff.mp h
   obtain ⟨y, hy⟩ : ∃ y, y = [p, q] := ⟨_, rfl⟩
   rw [← hy] at hf
   have HP := Aside0.mk hp
   have HQ := Aside0.mk hq
   have HF := Aside0.mk hf
   have HY := Aside0.mk hy
   clear hp hq hf hy c
   by_cases c2 : ff = 0
   · rw [if_pos c2] at h
     obtain ⟨s, hs, h⟩ := Option.bind_eq_some_iff.mp h
     obtain ⟨r, hrun, h⟩ := Option.bind_eq_some_iff.mp h
     by_cases hk : r.sent.length = l2.length ∧ l2.length ≤ 1000000
     · rw [if_pos hk] at h
       have h := Option.some.inj h
       injection h with ha hb
       subst ha hb c2
       have HS := Aside0.mk hs
       have HRUN := Aside0.mk hrun
       have HK := Aside0.mk hk
       clear hs hrun hk
       go_enter Try.func32, Try.ntmps32
       go_wp2_with (first
        | (go_at_call 56; go_loud (with_reducible refine (contact_check.calls k A0 c0 l0 A1 c1 l1 e0 _ HR0.out hc0 HR1.out hc1 H0.out).mono ?_); rintro e w1 ⟨rfl, hb1⟩; have HB1 := Aside0.mk hb1; clear hb1)
        | (go_at_call 68; go_loud (with_reducible refine (contact_CheckItems.calls k A2 c2 l2 p _ (Kd.C_below HR2.out HB1.out) hc2 HP.out).mono ?_); rintro e w2 ⟨rfl, hb2⟩; have HB2 := Aside0.mk (below_step HB1.out hb2); clear hb2)
        | (go_at_call 40; go_loud (with_reducible refine (kit_Range.calls a3 0 1000000000000 q _ HQ.out).mono ?_); rintro e wq ⟨rfl, ⟨nd, rfl⟩⟩)
        | ((with_reducible refine gate_dst (N := 26) rfl ?_); go_loud (refine Kd.R_lit (Kd.int .i64) w.heap.size 23 ?hg (N := 26) ?hd (xs := ([p, q] : List Int)) (inner := [.int .i64 p, .int .i64 q]) (ok := fun _ => True) (okp := fun _ => True) ?hr ?hp (fun _ hk => hk) trivial (pw_below_drewN HB2.out nd) (pw_below_drewN HB2.out nd).size (by simp) ?_); (case hd => rfl); (case hg => rfl); (case hr => first | (go_simp; done) | (go_simp; rfl)); (case hp => exact (Reps.one (show Kd.M (Kd.int .i64) _ _ _ p [.int .i64 p] from rfl) (Reps.one (show Kd.M (Kd.int .i64) _ _ _ q [.int .i64 q] from rfl) (Reps.none _ _)))); intro vy wy ho14 hb hg_ hnew_; clear hg_ hnew_; rw [← HY.out] at ho14; have HOY := Aside0.mk ho14; have HB3 := Aside0.mk hb; clear hb ho14; obtain ⟨Ay, cy, ey⟩ := Kd.R_slice HOY.out; subst ey)
        | (go_at_call 38; go_loud (with_reducible refine (kit_First.calls k _ _ y _ _ (Kd.R_reads' HOY.out).2.2 (Kd.R_reads' HOY.out).2.1 HF.out).mono ?_); rintro e wf ⟨rfl, ⟨nd2, rfl⟩⟩)
        | (go_at_call 69; go_loud (with_reducible refine (newSender_calls k s (pw_below_drewN HB3.out nd2) HR0.out hc0 HR1.out hc1 HR2.out hc2 HS.out).mono ?_); rintro e w3 ⟨g, V, rfl, hs3⟩; have HS3 := Aside0.mk hs3; clear hs3)
        | (go_at_call 70; go_loud (with_reducible refine (run_calls a3 k r HS3.out HRUN.out).mono ?_); rintro e w4 ⟨rfl, V4, hs4, _⟩; have HS4 := Aside0.mk hs4; clear hs4))
       go_loopg [13, 40] l2.length (fun kq v13 v40 w' => ∃ (i : Nat) (b : Int), v13 = .int .i64 b ∧ v40 = .int .i64 (i : Int) ∧ Aside0 (kq + i = l2.length) ∧ Aside0 (b = backS l2 r.sent a3 i) ∧ Aside0 (Below w4.heap.size w4 w'))
       case atStart => exact ⟨0, 0, rfl, rfl, ⟨rfl⟩, ⟨rfl⟩, ⟨Below.refl _ _⟩⟩
       case round =>
        obtain ⟨i, b, rfl, rfl, HKi, HFB, HB⟩ := hrel
        cases gk with
        | zero =>
         have hi : i = l2.length := by have := HKi.out; omega
         subst hi
         have HF2 := Aside0.mk HFB.out
         clear HKi HFB
         go_wp2
         go_ret2
         exact ⟨by rw [HF2.out]; rfl, below_step HS4.out.bel HB.out⟩
        | succ dd =>
         have hi : i < l2.length := by have := HKi.out; omega
         have hi0 : (0 : Int) ≤ (i : Int) := by omega
         have hi1 : (i : Int) < (l2.length : Int) := by omega
         have hid : (i : Int) < (r.sent.length : Int) := by rw [HK.out.1]; exact hi1
         have hd1 : decide ((i : Int) < (l2.length : Int)) = true := decide_eq_true hi1
         have hwi : wrap64 ((i : Int) + 1) = ((i + 1 : Nat) : Int) := by have := HK.out.2; unfold wrap64; omega
         have hb0 := HS4.out.below HB.out
         obtain ⟨adq, eq, y0, y1, y2, y3, y4⟩ := at_T63 (Kd.C_below HR2.out hb0.bel) (i : Int) hi0 hi1
         subst eq
         obtain ⟨x, hx⟩ : ∃ x, x = rd_T63 l2 (i : Int) := ⟨_, rfl⟩
         rw [← hx] at y0 y1 y2 y3 y4
         simp only [Int.toNat_natCast] at y0 y1 y2 y3 y4
         obtain ⟨sv, hsv⟩ : ∃ sv, sv = rd r.sent (i : Int) := ⟨_, rfl⟩
         have hst : backS l2 r.sent a3 (i + 1) = if x.f3 < a3 then wrap64 (b + wrap64 (x.f1 - sv)) else b := by rw [hx, hsv, HFB.out]; rfl
         have HST := Aside0.mk hst
         have HSV := Aside0.mk hsv
         clear hx hb0 hst hsv HFB
         go_upto_region 13 with (fail)
         obtain ⟨g5, hg5⟩ : ∃ g5, g5 = wr.heap.size := ⟨_, rfl⟩
         obtain ⟨w5, hw5⟩ : ∃ w5, w5 = wr.alloc (.cells #[.string x.f0, .int .i64 x.f1, .int .i64 x.f2, .int .i64 x.f3, .int .i64 x.f4] 63) := ⟨_, rfl⟩
         rw [← hw5, ← hg5]
         have HB5 := Aside0.mk (show Below w4.heap.size w4 w5 by rw [hw5]; exact below_alloc HB.out _)
         have BK := Aside0.mk (show w5.heap[g5]? = some (.cells #[.string x.f0, .int .i64 x.f1, .int .i64 x.f2, .int .i64 x.f3, .int .i64 x.f4] 63 (0, 0)) by rw [hw5, hg5]; exact heap_alloc_new wr _)
         clear hw5 hg5 y0 y1 y2 y3 y4 HB
         have z1 : w5.cell? ⟨g5, 1, none⟩ = some (.int .i64 x.f1) := (blk_cell BK.out 1).trans rfl
         have z3 : w5.cell? ⟨g5, 3, none⟩ = some (.int .i64 x.f3) := (blk_cell BK.out 3).trans rfl
         obtain ⟨ad, cd, x3, u3⟩ : ∃ ad cd, w5.cell? ⟨g, 3, none⟩ = some (.slice (some ad) r.sent.length cd) ∧ w5.cell? (ad.add i) = some (.int .i64 sv) := (by obtain ⟨A, c, _, a2, a3⟩ := (HS4.out.below HB5.out).c3; obtain ⟨ad, ea, hx⟩ := Kd.at_int a3 (i : Int) hi0 hid; subst ea; rw [← HSV.out] at hx; simp only [Int.toNat_natCast] at hx; exact ⟨ad, c, a2, hx⟩)
         by_cases c1 : x.f3 < a3
         · have d1 : decide (x.f3 < a3) = true := decide_eq_true c1
           have C1 := Aside0.mk c1
           clear c1
           go_wp2
           go_quiet (fail)
           go_wp2
           go_roundg dd
           case measure => omega
           case rel => exact ⟨i + 1, wrap64 (b + wrap64 (x.f1 - sv)), (by first | rfl | (simp only [i64_w]; done) | (simp only [i64_w]; rfl) | (simp; done)), (by first | rfl | (rw [hwi]) | (simp [hwi]; done) | (simp; done)), ⟨by have := HKi.out; omega⟩, ⟨by rw [HST.out, if_pos C1.out]⟩, ⟨pw_below_drewN HB5.out _⟩⟩
         · have d1 : decide (x.f3 < a3) = false := decide_eq_false c1
           have C1 := Aside0.mk c1
           clear c1
           go_wp2
           go_roundg dd
           case measure => omega
           case rel => exact ⟨i + 1, b, rfl, (by first | rfl | (rw [hwi]) | (simp [hwi]; done) | (simp; done)), ⟨by have := HKi.out; omega⟩, ⟨by rw [HST.out, if_neg (by have := C1.out; omega)]⟩, HB5⟩
     · rw [if_neg hk] at h
       cases h
   · have d2 : (ff != 0) = true := by simpa using c2
     rw [if_neg c2] at h
     have h := Option.some.inj h
     injection h with ha hb
     subst ha hb
     clear c2
     go_enter Try.func32, Try.ntmps32
     go_wp2_with (first
      | (go_at_call 56; go_loud (with_reducible refine (contact_check.calls k A0 c0 l0 A1 c1 l1 e0 _ HR0.out hc0 HR1.out hc1 H0.out).mono ?_); rintro e w1 ⟨rfl, hb1⟩; have HB1 := Aside0.mk hb1; clear hb1)
      | (go_at_call 68; go_loud (with_reducible refine (contact_CheckItems.calls k A2 c2 l2 p _ (Kd.C_below HR2.out HB1.out) hc2 HP.out).mono ?_); rintro e w2 ⟨rfl, hb2⟩; have HB2 := Aside0.mk (below_step HB1.out hb2); clear hb2)
      | (go_at_call 40; go_loud (with_reducible refine (kit_Range.calls a3 0 1000000000000 q _ HQ.out).mono ?_); rintro e wq ⟨rfl, ⟨nd, rfl⟩⟩)
      | ((with_reducible refine gate_dst (N := 26) rfl ?_); go_loud (refine Kd.R_lit (Kd.int .i64) w.heap.size 23 ?hg (N := 26) ?hd (xs := ([p, q] : List Int)) (inner := [.int .i64 p, .int .i64 q]) (ok := fun _ => True) (okp := fun _ => True) ?hr ?hp (fun _ hk => hk) trivial (pw_below_drewN HB2.out nd) (pw_below_drewN HB2.out nd).size (by simp) ?_); (case hd => rfl); (case hg => rfl); (case hr => first | (go_simp; done) | (go_simp; rfl)); (case hp => exact (Reps.one (show Kd.M (Kd.int .i64) _ _ _ p [.int .i64 p] from rfl) (Reps.one (show Kd.M (Kd.int .i64) _ _ _ q [.int .i64 q] from rfl) (Reps.none _ _)))); intro vy wy ho14 hb hg_ hnew_; clear hg_ hnew_; rw [← HY.out] at ho14; have HOY := Aside0.mk ho14; have HB3 := Aside0.mk hb; clear hb ho14; obtain ⟨Ay, cy, ey⟩ := Kd.R_slice HOY.out; subst ey)
      | (go_at_call 38; go_loud (with_reducible refine (kit_First.calls k _ _ y _ _ (Kd.R_reads' HOY.out).2.2 (Kd.R_reads' HOY.out).2.1 HF.out).mono ?_); rintro e wf ⟨rfl, ⟨nd2, rfl⟩⟩))
     go_ret2
     exact ⟨rfl, pw_below_drewN HB3.out _⟩
 · have d : (e0 != 0) = true := by simpa using c
   rw [if_neg c] at h
   have h := Option.some.inj h
   injection h with ha hb
   subst ha hb
   clear c
   go_enter Try.func32, Try.ntmps32
   go_wp2_with (first
    | (go_at_call 56; go_loud (with_reducible refine (contact_check.calls k A0 c0 l0 A1 c1 l1 _ _ HR0.out hc0 HR1.out hc1 H0.out).mono ?_); rintro e w1 ⟨rfl, hb1⟩; have HB1 := Aside0.mk hb1; clear hb1))
   go_ret2
   exact ⟨rfl, HB1.out⟩
/-- What was not sent of the first n items that are ready before a moment. -/
def backR (q : List S63) (left : List Int) (at_ : Int) : Nat → Int
  | 0 => 0
  | n + 1 => if (rd_T63 q (n : Int)).f3 < at_ then wrap64 (backR q left at_ n + rd left (n : Int)) else backR q left at_ n
def perigeeref10_Backlog.f (k : Nat) (l0 : List S33) (l1 : List Int) (l2 : List S63) (a3 : Int) : Option (Int × Int) :=
  (perigeeref10_checkSend.f k l0 l1 l2).bind fun e => if e = 0 then (perigeeref10_moment.f a3).bind fun m => if m = true then (sentX k l0 l1 l2 a3).bind fun r => if (r.left.length = l2.length ∧ l2.length ≤ 1000000) ∧ l1.length ≤ 1000000 then some (backR l2 r.left a3 l2.length, 0) else none else some (0, 1) else some (0, e)
set_option maxHeartbeats 8000000 in
set_option maxRecDepth 100000 in
theorem perigeeref10_Backlog.calls (k : Nat) (A0 : Option Addr) (c0 : Nat) (l0 : List S33) (A1 : Option Addr) (c1 : Nat) (l1 : List Int) (A2 : Option Addr) (c2 : Nat) (l2 : List S63) (a3 : Int) (r1 : Int) (r2 : Int) (w : World) (hr0 : Kd.C k33 w A0 l0.length l0) (hc0 : l0.length ≤ c0) (hr1 : Kd.C (Kd.int .i64) w A1 l1.length l1) (hc1 : l1.length ≤ c1) (hr2 : Kd.C k63 w A2 l2.length l2) (hc2 : l2.length ≤ c2) (h : perigeeref10_Backlog.f k l0 l1 l2 a3 = some (r1, r2)) :
 Calls Try.prog 33 #[.slice A0 l0.length c0, .slice A1 l1.length c1, .slice A2 l2.length c2, .int .i64 a3] w fun e w' => e = .returned (.tuple #[.int .i64 r1, .int .i64 r2]) ∧ Below w.heap.size w w' := by
 unfold perigeeref10_Backlog.f at h
 obtain ⟨e1, h1, h⟩ := Option.bind_eq_some_iff.mp h
 have HR0 := Aside0.mk hr0
 have HR1 := Aside0.mk hr1
 have HR2 := Aside0.mk hr2
 have H1 := Aside0.mk h1
 clear hr0 hr1 hr2 h1
 by_cases c : e1 = 0
 · have d : (e1 != 0) = false := by simpa using c
   rw [if_pos c] at h
   obtain ⟨m, hm, h⟩ := Option.bind_eq_some_iff.mp h
   have HM := Aside0.mk hm
   clear hm c
   cases m with
   | true =>
    rw [if_pos rfl] at h
    obtain ⟨r, h2, h⟩ := Option.bind_eq_some_iff.mp h
    by_cases hk : (r.left.length = l2.length ∧ l2.length ≤ 1000000) ∧ l1.length ≤ 1000000
    · rw [if_pos hk] at h
      have h := Option.some.inj h
      injection h with ha hb
      subst ha hb
      unfold sentX at h2
      rw [if_pos ⟨hk.2, hk.1.2⟩] at h2
      have H2 := Aside0.mk h2
      have HK := Aside0.mk hk
      clear h2 hk
      go_enter Try.func33, Try.ntmps33
      go_wp2_with (first
       | (go_at_call 66; go_loud (with_reducible refine (perigeeref10_checkSend.calls k A0 c0 l0 A1 c1 l1 A2 c2 l2 e1 _ HR0.out hc0 HR1.out hc1 HR2.out hc2 H1.out).mono ?_); rintro e w1 ⟨rfl, hb1⟩; have HB1 := Aside0.mk hb1; clear hb1)
       | (go_at_call 43; go_loud (with_reducible refine (perigeeref10_moment.calls a3 true _ HM.out).mono ?_); rintro e wm ⟨rfl, ⟨nd, rfl⟩⟩)
       | (go_at_call 71; go_loud (with_reducible refine (newRun_calls (pw_below_drewN HB1.out nd) HR0.out hc0 HR1.out hc1 HR2.out hc2 HK.out.1.2).mono ?_); rintro e w2 ⟨g, V, rfl, h2⟩; have HS2 := Aside0.mk h2; clear h2)
       | (go_at_call 72; go_loud (with_reducible refine (follow_calls a3 k k r HS2.out HK.out.2 HK.out.1.2 H2.out).mono ?_); rintro e w3 ⟨rfl, V3, h3, _⟩; have HS := Aside0.mk h3; clear h3))
      go_loopg [12, 13] l2.length (fun kq v12 v13 w' => ∃ (i : Nat) (b : Int), v12 = .int .i64 b ∧ v13 = .int .i64 (i : Int) ∧ Aside0 (kq + i = l2.length) ∧ Aside0 (b = backR l2 r.left a3 i) ∧ Aside0 (∃ n, w' = w3.drewN n))
      case atStart => exact ⟨0, 0, rfl, rfl, ⟨rfl⟩, ⟨rfl⟩, ⟨0, rfl⟩⟩
      case round =>
       obtain ⟨i, b, rfl, rfl, HKi, HF, HW⟩ := hrel
       obtain ⟨n, rfl⟩ := HW.out
       cases gk with
       | zero =>
        have hi : i = l2.length := by have := HKi.out; omega
        subst hi
        have HF2 := Aside0.mk HF.out
        have d0 : decide ((l2.length : Int) < (l2.length : Int)) = false := decide_eq_false (by omega)
        clear HKi HF
        go_wp2
        go_ret2
        exact ⟨by rw [HF2.out]; rfl, pw_below_drewN HS.out.bel _⟩
       | succ dd =>
        have hi : i < l2.length := by have := HKi.out; omega
        have hi0 : (0 : Int) ≤ (i : Int) := by omega
        have hi1 : (i : Int) < (l2.length : Int) := by omega
        have hid : (i : Int) < (r.left.length : Int) := by rw [HK.out.1.1]; exact hi1
        have hd1 : decide ((i : Int) < (l2.length : Int)) = true := decide_eq_true hi1
        have hwi : wrap64 ((i : Int) + 1) = ((i + 1 : Nat) : Int) := by have := HK.out.1.2; unfold wrap64; omega
        obtain ⟨adq, eq, y0, y1, y2, y3, y4⟩ := at_T63 (Kd.C_below HR2.out HS.out.bel) (i : Int) hi0 hi1
        subst eq
        obtain ⟨x, hx⟩ : ∃ x, x = rd_T63 l2 (i : Int) := ⟨_, rfl⟩
        rw [← hx] at y0 y1 y2 y3 y4
        simp only [Int.toNat_natCast] at y0 y1 y2 y3 y4
        obtain ⟨lv, hlv⟩ : ∃ lv, lv = rd r.left (i : Int) := ⟨_, rfl⟩
        have hst : backR l2 r.left a3 (i + 1) = if x.f3 < a3 then wrap64 (b + lv) else b := by rw [hx, hlv, HF.out]; rfl
        have HST := Aside0.mk hst
        obtain ⟨ad, cd, x3, z3⟩ : ∃ ad cd, w3.cell? ⟨g, 3, none⟩ = some (.slice (some ad) r.left.length cd) ∧ w3.cell? (ad.add i) = some (.int .i64 lv) := (by obtain ⟨A, c, _, a2, a3⟩ := HS.out.c3; obtain ⟨ad, ea, hx⟩ := Kd.at_int a3 (i : Int) hi0 hid; subst ea; rw [← hlv] at hx; simp only [Int.toNat_natCast] at hx; exact ⟨ad, c, a2, hx⟩)
        clear hx hst hlv y0 y1 y2 y4 HF
        by_cases c1 : x.f3 < a3
        · have d1 : decide (x.f3 < a3) = true := decide_eq_true c1
          have C1 := Aside0.mk c1
          clear c1
          go_wp2
          go_roundg dd
          case measure => omega
          case rel => exact ⟨i + 1, wrap64 (b + lv), (by first | rfl | (rw [i64_w]) | (simp; done)), (by first | rfl | (rw [hwi]) | (simp [hwi]; done) | (simp; done)), ⟨by have := HKi.out; omega⟩, ⟨by rw [HST.out, if_pos C1.out]⟩, ⟨_, rfl⟩⟩
        · have d1 : decide (x.f3 < a3) = false := decide_eq_false c1
          have C1 := Aside0.mk c1
          clear c1
          go_wp2
          go_roundg dd
          case measure => omega
          case rel => exact ⟨i + 1, b, rfl, (by first | rfl | (rw [hwi]) | (simp [hwi]; done) | (simp; done)), ⟨by have := HKi.out; omega⟩, ⟨by rw [HST.out, if_neg (by have := C1.out; omega)]⟩, ⟨_, rfl⟩⟩
    · rw [if_neg hk] at h
      cases h
   | false =>
    rw [if_neg (by simp)] at h
    have h := Option.some.inj h
    injection h with ha hb
    subst ha hb
    go_enter Try.func33, Try.ntmps33
    go_wp2_with (first
     | (go_at_call 66; go_loud (with_reducible refine (perigeeref10_checkSend.calls k A0 c0 l0 A1 c1 l1 A2 c2 l2 e1 _ HR0.out hc0 HR1.out hc1 HR2.out hc2 H1.out).mono ?_); rintro e w1 ⟨rfl, hb1⟩; have HB1 := Aside0.mk hb1; clear hb1)
     | (go_at_call 43; go_loud (with_reducible refine (perigeeref10_moment.calls a3 false _ HM.out).mono ?_); rintro e wm ⟨rfl, ⟨nd, rfl⟩⟩))
    go_ret2
    exact ⟨rfl, pw_below_drewN HB1.out _⟩
 · have d : (e1 != 0) = true := by simpa using c
   rw [if_neg c] at h
   have h := Option.some.inj h
   injection h with ha hb
   subst ha hb
   clear c
   go_enter Try.func33, Try.ntmps33
   go_wp2_with (first
    | (go_at_call 66; go_loud (with_reducible refine (perigeeref10_checkSend.calls k A0 c0 l0 A1 c1 l1 A2 c2 l2 _ _ HR0.out hc0 HR1.out hc1 HR2.out hc2 H1.out).mono ?_); rintro e w1 ⟨rfl, hb1⟩; have HB1 := Aside0.mk hb1; clear hb1))
   go_ret2
   exact ⟨rfl, HB1.out⟩
def slices_Equal_string_string.l0 : Nat → List ByteArray → List ByteArray → Int → Int → Option (Bool)
  | 0, _, _, _, _ => none
  | k + 1, x0, x1, x12, x13 => if x13 < x12 then (if 0 ≤ x13 then (if x13 < (x0.length : Int) then (if x13 < (x1.length : Int) then (if (rdOf ByteArray.empty x0 x13).toList = (rdOf ByteArray.empty x1 x13).toList then (slices_Equal_string_string.l0 k x0 x1 x12 (wrap64 (x13 + 1))) else (some false)) else (none)) else (none)) else (none)) else (some true)
def slices_Equal_string_string.f (k : Nat) (l0 : List ByteArray) (l1 : List ByteArray) : Option (Bool) := if (l0.length : Int) = (l1.length : Int) then (slices_Equal_string_string.l0 k l0 l1 (l0.length : Int) 0) else (some false)
theorem d34a {p : Prop} (h : p := by repeat (first | exact Drawn0.refl _ | apply Drawn0.step)) : p := h
theorem d34b {p : Prop} (h : p := by first | (with_reducible assumption) | assumption) : p := h
theorem d34c {p : Prop} (h : p := by first | rfl | (simp; done) | (simp [*]; done)) : p := h
set_option maxHeartbeats 8000000 in
set_option maxRecDepth 100000 in
theorem slices_Equal_string_string.calls (k : Nat) (A0 : Option Addr) (c0 : Nat) (l0 : List ByteArray) (A1 : Option Addr) (c1 : Nat) (l1 : List ByteArray) (r : Bool) (w : World) (hr0 : Kd.C Kd.string w A0 l0.length l0) (hc0 : l0.length ≤ c0) (hr1 : Kd.C Kd.string w A1 l1.length l1) (hc1 : l1.length ≤ c1) (h : slices_Equal_string_string.f k l0 l1 = some r) :
 Calls Try.prog 34 #[.slice A0 l0.length c0, .slice A1 l1.length c1] w fun e w' => e = .returned (.bool r) ∧ Drawn0 w w' := by
 have HR0 := Aside0.mk hr0
 have HC0 := Aside0.mk hc0
 clear hr0 hc0
 have HR1 := Aside0.mk hr1
 have HC1 := Aside0.mk hc1
 clear hr1 hc1
 have H : (if (l0.length : Int) = (l1.length : Int) then (slices_Equal_string_string.l0 k l0 l1 (l0.length : Int) 0) else (some false)) = some r := h
 clear h
 by_cases c3 : (l0.length : Int) = (l1.length : Int)
 · rw [if_pos c3] at H
   have c3b0 : ((l0.length : Int) == (l1.length : Int)) = true := beq_iff_eq.mpr c3
   have c3b1 : ((l0.length : Int) != (l1.length : Int)) = false := bne_eq_false_iff_eq.mpr c3
   have c3b2 : (l0.length == l1.length) = true := by first | simpa using c3 | (simp at c3 ⊢; omega)
   clear c3
   have H' := Aside0.mk H
   clear H
   go_enter Try.func34, Try.ntmps34
   go_wp2
   go_loopg [13] k (fun kq v13 w' => ∃ (x13_1 : Int), v13 = .int .i64 x13_1 ∧ Aside0 (slices_Equal_string_string.l0 kq l0 l1 (l0.length : Int) x13_1 = some r) ∧ Aside0 (kq ≤ k) ∧ Drawn0 w w')
   case atStart => exact ⟨(0), d34c, H', ⟨Nat.le_refl _⟩, d34a⟩
   case round =>
    clear H'
    try clear c3b0
    try clear c3b1
    try clear c3b2
    obtain ⟨x13_1, rfl, HA, HK1, ⟨m1, rfl⟩⟩ := hrel
    cases gk with
    | zero => exact absurd HA.out (by simp [slices_Equal_string_string.l0])
    | succ k1 =>
     have H := HA.out
     clear HA
     simp only [slices_Equal_string_string.l0] at H
     by_cases c4 : x13_1 < (l0.length : Int)
     · rw [if_pos c4] at H
       have c4b0 : decide (x13_1 < (l0.length : Int)) = true := decide_eq_true c4
       clear c4
       replace H := guardT H; obtain ⟨c5, H⟩ := H
       have c5b0 : decide (0 ≤ x13_1) = true := decide_eq_true c5
       clear c5
       replace H := guardT H; obtain ⟨c6, H⟩ := H
       have c6b0 : decide (x13_1 < (l0.length : Int)) = true := decide_eq_true c6
       clear c6
       replace H := guardT H; obtain ⟨c7, H⟩ := H
       have c7b0 : decide (x13_1 < (l1.length : Int)) = true := decide_eq_true c7
       clear c7
       by_cases c8 : (rdOf ByteArray.empty l0 x13_1).toList = (rdOf ByteArray.empty l1 x13_1).toList
       · rw [if_pos c8] at H
         have c8b0 : ((rdOf ByteArray.empty l0 x13_1).toList == (rdOf ByteArray.empty l1 x13_1).toList) = true := beq_iff_eq.mpr c8
         have c8b1 : ((rdOf ByteArray.empty l0 x13_1).toList != (rdOf ByteArray.empty l1 x13_1).toList) = false := bne_eq_false_iff_eq.mpr c8
         clear c8
         have H' := Aside0.mk H
         clear H
         have p101 : 0 ≤ (x13_1 : Int) := of_decide_eq_true d34b
         have q101 : x13_1 < (l0.length : Int) := of_decide_eq_true d34b
         obtain ⟨ad101, e101, hx101_0⟩ := Kd.at_string HR0.out x13_1 p101 q101
         cases e101
         replace p101 := eq_true p101
         replace q101 := eq_true q101
         have p102 : 0 ≤ (x13_1 : Int) := of_decide_eq_true d34b
         have q102 : x13_1 < (l1.length : Int) := of_decide_eq_true d34b
         obtain ⟨ad102, e102, hx102_0⟩ := Kd.at_string HR1.out x13_1 p102 q102
         cases e102
         replace p102 := eq_true p102
         replace q102 := eq_true q102
         go_wp2
         repeat (go_quiet (fail); try go_wp2)
         go_roundg k1
         case measure => have := HK1.out; omega
         case rel => exact ⟨(wrap64 (x13_1 + 1)), d34c, H', ⟨by have := HK1.out; omega⟩, d34a⟩
       · rw [if_neg c8] at H
         have c8b0 : ((rdOf ByteArray.empty l0 x13_1).toList == (rdOf ByteArray.empty l1 x13_1).toList) = false := beq_eq_false_iff_ne.mpr c8
         have c8b1 : ((rdOf ByteArray.empty l0 x13_1).toList != (rdOf ByteArray.empty l1 x13_1).toList) = true := bne_iff_ne.mpr c8
         obtain rfl := Option.some.inj H
         have p101 : 0 ≤ (x13_1 : Int) := of_decide_eq_true d34b
         have q101 : x13_1 < (l0.length : Int) := of_decide_eq_true d34b
         obtain ⟨ad101, e101, hx101_0⟩ := Kd.at_string HR0.out x13_1 p101 q101
         cases e101
         replace p101 := eq_true p101
         replace q101 := eq_true q101
         have p102 : 0 ≤ (x13_1 : Int) := of_decide_eq_true d34b
         have q102 : x13_1 < (l1.length : Int) := of_decide_eq_true d34b
         obtain ⟨ad102, e102, hx102_0⟩ := Kd.at_string HR1.out x13_1 p102 q102
         cases e102
         replace p102 := eq_true p102
         replace q102 := eq_true q102
         go_wp2
         repeat (go_quiet (fail); try go_wp2)
         go_ret
         exact ⟨d34c, d34a⟩
     · rw [if_neg c4] at H
       have c4b0 : decide (x13_1 < (l0.length : Int)) = false := decide_eq_false c4
       clear c4
       obtain rfl := Option.some.inj H
       go_wp2
       go_ret
       exact ⟨d34c, d34a⟩
 · rw [if_neg c3] at H
   have c3b0 : ((l0.length : Int) == (l1.length : Int)) = false := beq_eq_false_iff_ne.mpr c3
   have c3b1 : ((l0.length : Int) != (l1.length : Int)) = true := bne_iff_ne.mpr c3
   have c3b2 : (l0.length == l1.length) = false := by first | simpa using c3 | (simp at c3 ⊢; omega)
   obtain rfl := Option.some.inj H
   go_enter Try.func34, Try.ntmps34
   go_wp2
   go_ret
   exact ⟨d34c, d34a⟩
end Go.Proofs.Ytbngmblgkkdhpaa.Q
