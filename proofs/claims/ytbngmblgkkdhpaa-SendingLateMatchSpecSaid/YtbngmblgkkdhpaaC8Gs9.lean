-- Made by wip/tools/claimp.py of this session's texts; Lean checks it.
import Derived.Test.YtbngmblgkkdhpaaC8Q0
import Derived.Test.YtbngmblgkkdhpaaC8Gs2
import Derived.Test.YtbngmblgkkdhpaaC8Gs3
import Derived.Test.YtbngmblgkkdhpaaC8Gs4
import Derived.Test.YtbngmblgkkdhpaaC8Gs5
import Derived.Test.YtbngmblgkkdhpaaC8Gs6
import Derived.Test.YtbngmblgkkdhpaaC8Gs7
import Derived.Test.YtbngmblgkkdhpaaC8Gs8
namespace Go.Proofs.Ytbngmblgkkdhpaa.Q
open Go.RowKit Go.Proofs.YtbngmblgkkdhpaaW.PrintWords Go.Proofs.YtbngmblgkkdhpaaW.PrintLast Go.Proofs.YtbngmblgkkdhpaaW.PrintMore
attribute [local go_sem] max2_int min2_int max_two min_two max_three min_three max_four min_four
open Go.Proofs.Ytbngmblgkkdhpaa.Base
attribute [local go_sem high] str_leq str_gtr str_geq
set_option linter.unusedVariables false
set_option linter.unusedSimpArgs false
/-- The items that are late. -/
def lateX (q : List S63) (done : List Int) : List ByteArray := ((q.zip done).filter fun p => decide (p.2 < 0 ∨ p.1.f4 < p.2)).map (·.1.f0)
theorem late_step {q : List S63} {done : List Int} {i : Nat} (hi : i < q.length) (hl : done.length = q.length) {x : S63} (hx : x = rd_T63 q (i : Int)) {dn : Int} (hd : dn = rd done (i : Int)) :
    lateX (q.drop i) (done.drop i) = if dn < 0 ∨ x.f4 < dn then x.f0 :: lateX (q.drop (i + 1)) (done.drop (i + 1)) else lateX (q.drop (i + 1)) (done.drop (i + 1)) := by
  have hi2 : i < done.length := by omega
  have e1 : q[i] = x := by rw [hx]; unfold rd_T63; rw [Int.toNat_natCast, List.getD_eq_getElem?_getD, List.getElem?_eq_getElem hi]; rfl
  have e2 : done[i] = dn := by rw [hd, rd_of hi2]
  unfold lateX
  rw [List.drop_eq_getElem_cons hi, List.drop_eq_getElem_cons hi2, e1, e2, List.zip_cons_cons, List.filter_cons]
  by_cases c : dn < 0 ∨ x.f4 < dn
  · rw [if_pos c, if_pos (by exact decide_eq_true c)]; rfl
  · rw [if_neg c, if_neg (by simpa using c)]
set_option maxHeartbeats 8000000 in
set_option maxRecDepth 100000 in
theorem late_calls {w0 W : World} {g : Nat} {V : SV} {bk : List Int} {q : List S63} {st : SX} (h : SndAt w0 W g V bk q st) (hd : st.done.length = q.length) (hq : q.length ≤ 1000000) :
    Calls Try.prog 65 #[.pointer (some ⟨g, 0, none⟩)] W fun e w' => ∃ v : Value, e = .returned v ∧ Kd.R Kd.string 9 w' W.heap.size (fun _ => True) v (lateX q st.done) ∧ Below W.heap.size W w' := by
  have HS := Aside0.mk h
  have HD := Aside0.mk hd
  have HQ := Aside0.mk hq
  obtain ⟨Aq, hAq⟩ : ∃ A, V.Aq = A := ⟨_, rfl⟩
  have x1 := h.c1
  rw [hAq] at x1
  have HAQ := Aside0.mk hAq
  clear h hd hq hAq
  go_enter Try.func65, Try.ntmps65
  go_wp2
  clear x1
  go_loopg [3, 11] q.length (fun kq v3 v11 w' => ∃ (i : Nat) (acc : List ByteArray), v11 = .int .i64 (i : Int) ∧ Aside0 (kq + i = q.length) ∧ Aside0 (acc.length ≤ i) ∧ Aside0 (acc ++ lateX (q.drop i) (st.done.drop i) = lateX q st.done) ∧ Aside0 (Kd.R Kd.string 9 w' W.heap.size (fun _ => True) v3 acc) ∧ Aside0 (Below W.heap.size W w'))
  case atStart => exact ⟨0, [], rfl, ⟨rfl⟩, ⟨Nat.le_refl _⟩, ⟨rfl⟩, ⟨Kd.R_nil _ _ _ _ _⟩, ⟨Below.refl _ _⟩⟩
  case round =>
    obtain ⟨i, acc, rfl, HK, HLE, HA, HR, HB⟩ := hrel
    obtain ⟨A3, c3, e3⟩ := Kd.R_slice HR.out
    subst e3
    cases gk with
    | zero =>
      have hi : i = q.length := by have := HK.out; omega
      subst hi
      have HF := Aside0.mk (show acc = lateX q st.done by have := HA.out; rw [List.drop_length] at this; simpa [lateX] using this)
      clear HK HA
      go_wp2
      go_ret
      exact ⟨_, rfl, by rw [← HF.out]; exact HR.out, HB.out⟩
    | succ d =>
      have hi : i < q.length := by have := HK.out; omega
      have hi0 : (0 : Int) ≤ (i : Int) := by omega
      have hi1 : (i : Int) < (q.length : Int) := by omega
      have hid : (i : Int) < (st.done.length : Int) := by rw [HD.out]; exact hi1
      have hd1 : decide ((i : Int) < (q.length : Int)) = true := decide_eq_true hi1
      have hwi : wrap64 ((i : Int) + 1) = ((i + 1 : Nat) : Int) := by have := HQ.out; unfold wrap64; omega
      have hb0 := HS.out.below HB.out
      obtain ⟨adq, eq, y0, y1, y2, y3, y4⟩ := at_T63 (Kd.C_below hb0.qC hb0.bel) (i : Int) hi0 hi1
      rw [HAQ.out] at eq
      cases eq
      obtain ⟨x, hx⟩ : ∃ x, x = rd_T63 q (i : Int) := ⟨_, rfl⟩
      rw [← hx] at y0 y1 y2 y3 y4
      simp only [Int.toNat_natCast] at y0 y1 y2 y3 y4
      obtain ⟨dn, hdn⟩ : ∃ dn, dn = rd st.done (i : Int) := ⟨_, rfl⟩
      have hst := late_step hi (show st.done.length = q.length from HD.out) hx hdn
      have HST := Aside0.mk hst
      clear hx hb0 hst
      have HDN := Aside0.mk hdn
      clear hdn
      go_upto_region 5 with (fail)
      obtain ⟨g5, hg5⟩ : ∃ g5, g5 = wr.heap.size := ⟨_, rfl⟩
      obtain ⟨w1, hw1⟩ : ∃ w1, w1 = wr.alloc (.cells #[.string x.f0, .int .i64 x.f1, .int .i64 x.f2, .int .i64 x.f3, .int .i64 x.f4] 63) := ⟨_, rfl⟩
      rw [← hw1, ← hg5]
      have HR1 := Aside0.mk (show Kd.R Kd.string 9 w1 W.heap.size (fun _ => True) (.slice A3 acc.length c3) acc by rw [hw1]; exact Kd.R_below HR.out (below_alloc (Below.refl _ _) _))
      have HB1 := Aside0.mk (show Below W.heap.size W w1 by rw [hw1]; exact below_alloc HB.out _)
      have BK := Aside0.mk (show w1.heap[g5]? = some (.cells #[.string x.f0, .int .i64 x.f1, .int .i64 x.f2, .int .i64 x.f3, .int .i64 x.f4] 63 (0, 0)) by rw [hw1, hg5]; exact heap_alloc_new wr _)
      clear hw1 hg5 y0 y1 y2 y3 y4 HR HB
      have z0 : w1.cell? ⟨g5, 0, none⟩ = some (.string x.f0) := (blk_cell BK.out 0).trans rfl
      have z4 : w1.cell? ⟨g5, 4, none⟩ = some (.int .i64 x.f4) := (blk_cell BK.out 4).trans rfl
      obtain ⟨ad, cd, x4, y4⟩ : ∃ ad cd, w1.cell? ⟨g, 4, none⟩ = some (.slice (some ad) st.done.length cd) ∧ w1.cell? (ad.add i) = some (.int .i64 dn) := (by obtain ⟨A, c, _, a2, a3⟩ := (HS.out.below HB1.out).c4; obtain ⟨ad, ea, hx⟩ := Kd.at_int a3 (i : Int) hi0 hid; subst ea; rw [← HDN.out] at hx; simp only [Int.toNat_natCast] at hx; exact ⟨ad, c, a2, hx⟩)
      by_cases c1 : dn < 0
      · have d1 : decide (dn < 0) = true := decide_eq_true c1
        have C1 := Aside0.mk c1
        clear c1
        go_wp2
        go_quiet (fail)
        go_wp2_with (first | ((with_reducible refine gate_builtin (b := .append) (xs := #[.tmp 36, .tmp 39]) rfl ?_); at_builtin; go_loud (refine Kd.R_append Kd.string (w0 := W) (W := w1.drewN nq) W.heap.size rfl (.tmp 36) (.tmp 39) 48 9 (.string ⟨#[]⟩) 16 rfl Try.underlying48 info9 rfl (by decide) (by omega) (.slice A3 acc.length c3) acc x.f0 [.string x.f0] (fun _ => True) (fun _ => False) rfl (by first | rfl | (go_simp; done) | (simp [World.alloc]; done)) (show Kd.M Kd.string _ _ _ x.f0 [.string x.f0] from rfl) (fun _ h => h.elim) (fun _ _ => trivial) (Kd.R_below HR1.out (pw_below_drewN (Below.refl _ _) nq)) (pw_below_drewN HB1.out nq) (pw_below_drewN HB1.out nq).size (by have := HLE.out; have := HQ.out; have := HK.out; omega) ?_); go_loud (intro v3b w3 ho hb _ _; have HR3 := Aside0.mk ho; have HB3 := Aside0.mk hb; clear ho hb)))
        go_roundg d
        case measure => omega
        case rel => exact ⟨i + 1, acc ++ [x.f0], (by first | rfl | (rw [hwi]) | (simp [hwi]; done) | (simp; done)), ⟨by have := HK.out; omega⟩, ⟨by have := HLE.out; simp; omega⟩, ⟨by rw [← HA.out, HST.out, if_pos (Or.inl C1.out)]; simp⟩, HR3, HB3⟩
      · have d1 : decide (dn < 0) = false := decide_eq_false c1
        have C1 := Aside0.mk c1
        clear c1
        by_cases c2 : x.f4 < dn
        · have d2 : decide (x.f4 < dn) = true := decide_eq_true c2
          have C2 := Aside0.mk c2
          clear c2
          go_wp2
          go_quiet (fail)
          go_wp2_with (first | ((with_reducible refine gate_builtin (b := .append) (xs := #[.tmp 36, .tmp 39]) rfl ?_); at_builtin; go_loud (refine Kd.R_append Kd.string (w0 := W) (W := w1.drewN nq) W.heap.size rfl (.tmp 36) (.tmp 39) 48 9 (.string ⟨#[]⟩) 16 rfl Try.underlying48 info9 rfl (by decide) (by omega) (.slice A3 acc.length c3) acc x.f0 [.string x.f0] (fun _ => True) (fun _ => False) rfl (by first | rfl | (go_simp; done) | (simp [World.alloc]; done)) (show Kd.M Kd.string _ _ _ x.f0 [.string x.f0] from rfl) (fun _ h => h.elim) (fun _ _ => trivial) (Kd.R_below HR1.out (pw_below_drewN (Below.refl _ _) nq)) (pw_below_drewN HB1.out nq) (pw_below_drewN HB1.out nq).size (by have := HLE.out; have := HQ.out; have := HK.out; omega) ?_); go_loud (intro v3b w3 ho hb _ _; have HR3 := Aside0.mk ho; have HB3 := Aside0.mk hb; clear ho hb)))
          go_roundg d
          case measure => omega
          case rel => exact ⟨i + 1, acc ++ [x.f0], (by first | rfl | (rw [hwi]) | (simp [hwi]; done) | (simp; done)), ⟨by have := HK.out; omega⟩, ⟨by have := HLE.out; simp; omega⟩, ⟨by rw [← HA.out, HST.out, if_pos (Or.inr C2.out)]; simp⟩, HR3, HB3⟩
        · have d2 : decide (x.f4 < dn) = false := decide_eq_false c2
          have C2 := Aside0.mk c2
          clear c2
          go_wp2
          go_quiet (fail)
          go_wp2
          go_roundg d
          case measure => omega
          case rel => exact ⟨i + 1, acc, (by first | rfl | (rw [hwi]) | (simp [hwi]; done) | (simp; done)), ⟨by have := HK.out; omega⟩, ⟨by have := HLE.out; omega⟩, ⟨by rw [← HA.out, HST.out, if_neg (by have := C1.out; have := C2.out; omega)]⟩, ⟨Kd.R_below HR1.out (pw_below_drewN (Below.refl _ _) _)⟩, ⟨pw_below_drewN HB1.out _⟩⟩
def contact_Late.f (k : Nat) (l0 : List S33) (l1 : List Int) (l2 : List S63) : Option (List ByteArray × Int) :=
  (sendingX k l0 l1 l2 1000000000000).bind fun p => match p with
    | (c, none) => some ([], c)
    | (_, some r) => if r.done.length = l2.length ∧ l2.length ≤ 1000000 then some (lateX l2 r.done, 0) else none
set_option maxHeartbeats 4000000 in
set_option maxRecDepth 100000 in
theorem contact_Late.calls (k : Nat) (A0 : Option Addr) (c0 : Nat) (l0 : List S33) (A1 : Option Addr) (c1 : Nat) (l1 : List Int) (A2 : Option Addr) (c2 : Nat) (l2 : List S63) (r1 : List ByteArray) (r2 : Int) (w : World) (hr0 : Kd.C k33 w A0 l0.length l0) (hc0 : l0.length ≤ c0) (hr1 : Kd.C (Kd.int .i64) w A1 l1.length l1) (hc1 : l1.length ≤ c1) (hr2 : Kd.C k63 w A2 l2.length l2) (hc2 : l2.length ≤ c2) (h : contact_Late.f k l0 l1 l2 = some (r1, r2)) :
 Calls Try.prog 30 #[.slice A0 l0.length c0, .slice A1 l1.length c1, .slice A2 l2.length c2] w fun e w' => ∃ v0_ : Value, e = .returned (.tuple #[v0_, .int .i64 r2]) ∧ Kd.R Kd.string 9 w' w.heap.size (fun _ => True) v0_ r1 ∧ Below w.heap.size w w' := by
 unfold contact_Late.f at h
 obtain ⟨⟨c, p⟩, h1, h⟩ := Option.bind_eq_some_iff.mp h
 have HR0 := Aside0.mk hr0
 have HR1 := Aside0.mk hr1
 have HR2 := Aside0.mk hr2
 have H1 := Aside0.mk h1
 clear hr0 hr1 hr2 h1
 cases p with
 | none =>
  have h := Option.some.inj h
  injection h with ha hb
  subst ha hb
  have hcn : c ≠ 0 := by
   have := H1.out
   exact sendingX_none this
  have d : (c != 0) = true := by simpa using hcn
  clear hcn
  go_enter Try.func30, Try.ntmps30
  go_wp2_with (first
   | (go_at_call 64; go_loud (with_reducible refine (sending_calls 1000000000000 k (c, none) (Below.refl _ _) HR0.out hc0 HR1.out hc1 HR2.out hc2 H1.out).mono ?_); rintro e w1 hs; obtain ⟨_, rfl, hb1⟩ := (show c ≠ 0 ∧ e = .returned (.tuple #[.pointer none, .int .i64 c]) ∧ Below w.heap.size w w1 from hs); have HB1 := Aside0.mk hb1; clear hb1 hs))
  go_ret2
  exact ⟨_, rfl, Kd.R_nil _ _ _ _ _, HB1.out⟩
 | some r =>
  by_cases hk : r.done.length = l2.length ∧ l2.length ≤ 1000000
  · have h : (if r.done.length = l2.length ∧ l2.length ≤ 1000000 then some (lateX l2 r.done, (0 : Int)) else none) = some (r1, r2) := h
    rw [if_pos hk] at h
    have h := Option.some.inj h
    injection h with ha hb
    subst ha hb
    have HK := Aside0.mk hk
    clear hk
    go_enter Try.func30, Try.ntmps30
    go_wp2_with (first
     | (go_at_call 64; go_loud (with_reducible refine (sending_calls 1000000000000 k (c, some r) (Below.refl _ _) HR0.out hc0 HR1.out hc1 HR2.out hc2 H1.out).mono ?_); rintro e w1 hs; obtain ⟨_, g, V, rfl, h3⟩ := (show c = 0 ∧ ∃ g V, e = .returned (.tuple #[.pointer (some ⟨g, 0, none⟩), .int .i64 0]) ∧ SndAt w w1 g V l1 l2 r from hs); have H3 := Aside0.mk h3; clear h3 hs)
     | (go_at_call 65; go_loud (with_reducible refine (late_calls H3.out HK.out.1 HK.out.2).mono ?_); rintro e w2 ⟨v, rfl, hv, hb2⟩; have HV := Aside0.mk hv; have HB2 := Aside0.mk hb2; clear hv hb2))
    go_ret2
    exact ⟨v, rfl, Kd.R_lower HV.out H3.out.bel.size, below_step H3.out.bel HB2.out⟩
  · have h : (if r.done.length = l2.length ∧ l2.length ≤ 1000000 then some (lateX l2 r.done, (0 : Int)) else none) = some (r1, r2) := h
    rw [if_neg hk] at h
    cases h
mutual
def perigeeref10_CheckItems.l0 : Nat → List (S63) → Int → Option (Int)
  | 0, _, _ => none
  | k + 1, x0, x3 => if x3 < (x0.length : Int) then (if 0 ≤ x3 then ((perigeeref8_IsName.f k ((rd_T63 x0 x3).f0)).bind fun t103 => (if t103 = true then ((perigeeref10_within.f ((rd_T63 x0 x3).f1) 0 1000000000000).bind fun t104 => (if t104 = true then ((perigeeref10_within.f ((rd_T63 x0 x3).f2) 0 100).bind fun t105 => (if t105 = true then ((perigeeref10_moment.f ((rd_T63 x0 x3).f3)).bind fun t106 => (if t106 = true then ((perigeeref10_moment.f ((rd_T63 x0 x3).f4)).bind fun t107 => (perigeeref10_CheckItems.j1 k x0 x3 (!t107) ((rd_T63 x0 x3).f0) ((rd_T63 x0 x3).f1) ((rd_T63 x0 x3).f2) ((rd_T63 x0 x3).f3) ((rd_T63 x0 x3).f4))) else (perigeeref10_CheckItems.j1 k x0 x3 true ((rd_T63 x0 x3).f0) ((rd_T63 x0 x3).f1) ((rd_T63 x0 x3).f2) ((rd_T63 x0 x3).f3) ((rd_T63 x0 x3).f4)))) else (perigeeref10_CheckItems.j1 k x0 x3 true ((rd_T63 x0 x3).f0) ((rd_T63 x0 x3).f1) ((rd_T63 x0 x3).f2) ((rd_T63 x0 x3).f3) ((rd_T63 x0 x3).f4)))) else (perigeeref10_CheckItems.j1 k x0 x3 true ((rd_T63 x0 x3).f0) ((rd_T63 x0 x3).f1) ((rd_T63 x0 x3).f2) ((rd_T63 x0 x3).f3) ((rd_T63 x0 x3).f4)))) else (some 5))) else (none)) else (some 0)
def perigeeref10_CheckItems.j1 : Nat → List (S63) → Int → Bool → ByteArray → Int → Int → Int → Int → Option (Int)
  | 0, _, _, _, _, _, _, _, _ => none
  | k + 1, x0, x3, x43, x103000, x103001, x103002, x103003, x103004 => if x43 = true then (some 1) else (if x103004 < x103003 then (some 8) else (if x3 > 0 then (if 0 ≤ (wrap64 (x3 - 1)) then (if (wrap64 (x3 - 1)) < (x0.length : Int) then (if ((Op.bytesLess (((rd_T63 x0 (wrap64 (x3 - 1))).f0).toList) x103000.toList) = true) then (perigeeref10_CheckItems.l0 k x0 (wrap64 (x3 + 1))) else (some 8)) else (none)) else (none)) else (perigeeref10_CheckItems.l0 k x0 (wrap64 (x3 + 1)))))
end
def perigeeref10_CheckItems.f (k : Nat) (l0 : List (S63)) : Option (Int) := if (l0.length : Int) > 300 then (some 2) else (perigeeref10_CheckItems.l0 k l0 0)
theorem d83a {p : Prop} (h : p := by (with_reducible repeat (first | refine blk_drewN ?_ _ | refine blk_drew ?_ | refine blk_alloc ?_ _)); refine blk_put (cs := #[.string ((rd_T63 l0 x3_1).f0), .int .i64 ((rd_T63 l0 x3_1).f1), .int .i64 ((rd_T63 l0 x3_1).f2), .int .i64 ((rd_T63 l0 x3_1).f3), .int .i64 0]) ?_ 4 _ rfl; (with_reducible repeat (first | refine blk_drewN ?_ _ | refine blk_drew ?_ | refine blk_alloc ?_ _)); refine blk_put (cs := #[.string ((rd_T63 l0 x3_1).f0), .int .i64 ((rd_T63 l0 x3_1).f1), .int .i64 ((rd_T63 l0 x3_1).f2), .int .i64 0, .int .i64 0]) ?_ 3 _ rfl; (with_reducible repeat (first | refine blk_drewN ?_ _ | refine blk_drew ?_ | refine blk_alloc ?_ _)); refine blk_put (cs := #[.string ((rd_T63 l0 x3_1).f0), .int .i64 ((rd_T63 l0 x3_1).f1), .int .i64 0, .int .i64 0, .int .i64 0]) ?_ 2 _ rfl; (with_reducible repeat (first | refine blk_drewN ?_ _ | refine blk_drew ?_ | refine blk_alloc ?_ _)); refine blk_put (cs := #[.string ((rd_T63 l0 x3_1).f0), .int .i64 0, .int .i64 0, .int .i64 0, .int .i64 0]) ?_ 1 _ rfl; (with_reducible repeat (first | refine blk_drewN ?_ _ | refine blk_drew ?_ | refine blk_alloc ?_ _)); refine blk_put (cs := #[.string (⟨#[]⟩ : ByteArray), .int .i64 0, .int .i64 0, .int .i64 0, .int .i64 0]) ?_ 0 _ rfl; (with_reducible repeat (first | refine blk_drewN ?_ _ | refine blk_drew ?_ | refine blk_alloc ?_ _)); exact BK102.out) : p := h
theorem d83b {p : Prop} (h : p := by repeat (first | (with_reducible first | exact HB.out | apply below_alloc | apply pw_below_drewN | apply below_drew1 | refine below_set ?_ GE102.out) | exact HB.out)) : p := h
theorem d83c {p : Prop} (h : p := by repeat (first | (with_reducible first | exact HB.out | apply below_alloc | apply pw_below_drewN | apply below_drew1) | exact HB.out)) : p := h
theorem d83d {p : Prop} (h : p := by first | rfl | (simp [errW_none, errW_some] <;> rfl) | (simp [*, errW_none, errW_some] <;> rfl)) : p := h
theorem d83e {p : Prop} (h : p := by first | (with_reducible assumption) | assumption) : p := h
theorem d83f {p : Prop} (h : p := by first | rfl | (simp; done) | (simp [*]; done)) : p := h
set_option maxHeartbeats 8000000 in
set_option maxRecDepth 100000 in
theorem perigeeref10_CheckItems.calls (k : Nat) (A0 : Option Addr) (c0 : Nat) (l0 : List (S63)) (r : Int) (w : World) (hr0 : Kd.C k63 w A0 l0.length l0) (hc0 : l0.length ≤ c0) (h : perigeeref10_CheckItems.f k l0 = some r) :
 Calls Try.prog 83 #[.slice A0 l0.length c0] w fun e w' => e = .returned (.int .i64 r) ∧ Below w.heap.size w w' := by
 have hu63 := Try.underlying63
 have HR0 := Aside0.mk hr0
 have HC0 := Aside0.mk hc0
 clear hr0 hc0
 have HB := Aside0.mk (Below.refl w.heap.size w)
 have H : (if (l0.length : Int) > 300 then (some 2) else (perigeeref10_CheckItems.l0 k l0 0)) = some r := h
 clear h
 by_cases c2 : (l0.length : Int) > 300
 · rw [if_pos c2] at H
   have c2b0 : decide (300 < (l0.length : Int)) = true := decide_eq_true c2
   have c2b1 : decide (300 < l0.length) = true := decide_eq_true (by omega)
   clear c2
   obtain rfl := Option.some.inj H
   go_enter Try.func83, Try.ntmps83
   go_wp2
   go_ret
   exact ⟨d83d, d83c⟩
 · rw [if_neg c2] at H
   have c2b0 : decide (300 < (l0.length : Int)) = false := decide_eq_false c2
   have c2b1 : decide (300 < l0.length) = false := decide_eq_false (by omega)
   clear c2
   have H' := Aside0.mk H
   clear H
   go_enter Try.func83, Try.ntmps83
   go_wp2
   go_loopg [3] k (fun kq v3 w' => ∃ (x3_1 : Int), v3 = .int .i64 x3_1 ∧ Aside0 (perigeeref10_CheckItems.l0 kq l0 x3_1 = some r) ∧ Aside0 (kq ≤ k) ∧ Aside0 (Below w.heap.size w w'))
   case atStart => exact ⟨(0), d83f, H', ⟨Nat.le_refl _⟩, ⟨d83c⟩⟩
   case round =>
    clear H'
    try clear c2b0
    try clear c2b1
    obtain ⟨x3_1, rfl, HA, HK1, HB⟩ := hrel
    cases gk with
    | zero => exact absurd HA.out (by simp [perigeeref10_CheckItems.l0])
    | succ k1 =>
     have H := HA.out
     clear HA
     simp only [perigeeref10_CheckItems.l0] at H
     by_cases c3 : x3_1 < (l0.length : Int)
     · rw [if_pos c3] at H
       have c3b0 : decide (x3_1 < (l0.length : Int)) = true := decide_eq_true c3
       clear c3
       replace H := guardT H; obtain ⟨c4, H⟩ := H
       have c4b0 : decide (0 ≤ x3_1) = true := decide_eq_true c4
       clear c4
       replace H := bindS H; obtain ⟨t103, A5, H⟩ := H
       by_cases c6 : t103 = true
       · subst c6
         replace H := iteT H
         have HC7 := Aside0.mk H
         clear H
         have p101 : 0 ≤ (x3_1 : Int) := of_decide_eq_true d83e
         have q101 : x3_1 < (l0.length : Int) := of_decide_eq_true d83e
         obtain ⟨ad101, e101, hx101_0, hx101_1, hx101_2, hx101_3, hx101_4⟩ := at_T63 HR0.out x3_1 p101 q101
         cases e101
         replace hx101_0 := cellB HB.out hx101_0
         replace hx101_1 := cellB HB.out hx101_1
         replace hx101_2 := cellB HB.out hx101_2
         replace hx101_3 := cellB HB.out hx101_3
         replace hx101_4 := cellB HB.out hx101_4
         replace p101 := eq_true p101
         replace q101 := eq_true q101
         go_upto_region 9 with (first | ((with_reducible refine gate_dst (N := 4) rfl ?_); refine box_event ?hg (N := 4) ?hd (cs := #[.string (⟨#[]⟩ : ByteArray), .int .i64 0, .int .i64 0, .int .i64 0, .int .i64 0]) (t := 63) ?hr ?_; (case hd => rfl); (case hg => rfl); (case hr => first | (go_simp; done) | (go_simp; rfl)); intro gb102 hg w8 hbox hb; have n0_ := Aside0.mk (below_step d83c hb); have n1_ := Aside0.mk (hbox); have n2_ := Aside0.mk ((by rw [hg]; exact (below_size d83c) : w.heap.size ≤ gb102)); have n3_ := Aside0.mk ((by rw [hg]; exact (below_size d83c) : w.heap.size ≤ gb102)); clear HB; have HB := n0_; have BK102 := n1_; have GW102 := n2_; have GE102 := n3_; clear n0_ n1_ n2_ n3_; clear hb hbox hg; have hcz9_0 : w8.cell? ⟨gb102, 0, none⟩ = some (.string (⟨#[]⟩ : ByteArray)) := (blk_cell BK102.out 0).trans rfl; have hcz9_1 : w8.cell? ⟨gb102, 1, none⟩ = some (.int .i64 0) := (blk_cell BK102.out 1).trans rfl; have hcz9_2 : w8.cell? ⟨gb102, 2, none⟩ = some (.int .i64 0) := (blk_cell BK102.out 2).trans rfl; have hcz9_3 : w8.cell? ⟨gb102, 3, none⟩ = some (.int .i64 0) := (blk_cell BK102.out 3).trans rfl; have hcz9_4 : w8.cell? ⟨gb102, 4, none⟩ = some (.int .i64 0) := (blk_cell BK102.out 4).trans rfl; have hfz9_0 := blk_frozen BK102.out 0; have hfz9_1 := blk_frozen BK102.out 1; have hfz9_2 := blk_frozen BK102.out 2; have hfz9_3 := blk_frozen BK102.out 3; have hfz9_4 := blk_frozen BK102.out 4) | (go_at_call 79; (with_reducible refine (perigeeref8_IsName.calls k1 ((rd_T63 l0 x3_1).f0) true _ A5.out).mono ?_); rintro e w' ⟨rfl, ⟨nd, rfl⟩⟩; (try first | exact ⟨rfl, _, World.drewN_drewN _ _ _⟩ | exact ⟨rfl, _, Eq.trans (World.drewN_drewN _ _ _) (congrArg (World.drewN _) (Nat.add_assoc _ _ _))⟩)))
         (try simp only [Act.put, List.setIfInBounds_toArray, List.set_cons_zero, List.set_cons_succ])
         go_cut [43] (fun v43 wc => ∃ (kq : Nat) (x43_6 : Bool), v43 = .bool x43_6 ∧ Aside0 (perigeeref10_CheckItems.j1 kq l0 x3_1 x43_6 ((rd_T63 l0 x3_1).f0) ((rd_T63 l0 x3_1).f1) ((rd_T63 l0 x3_1).f2) ((rd_T63 l0 x3_1).f3) ((rd_T63 l0 x3_1).f4) = some r) ∧ Aside0 (kq ≤ k1) ∧ Aside0 (wc.heap[gb102]? = some (.cells #[.string ((rd_T63 l0 x3_1).f0), .int .i64 ((rd_T63 l0 x3_1).f1), .int .i64 ((rd_T63 l0 x3_1).f2), .int .i64 ((rd_T63 l0 x3_1).f3), .int .i64 ((rd_T63 l0 x3_1).f4)] 63 (0, 0))) ∧ Aside0 (Below w.heap.size w wc))
         case first =>
          have H := HC7.out
          clear HC7
          replace H := bindS H; obtain ⟨t104, A10, H⟩ := H
          by_cases c11 : t104 = true
          · subst c11
            replace H := iteT H
            replace H := bindS H; obtain ⟨t105, A12, H⟩ := H
            by_cases c13 : t105 = true
            · subst c13
              replace H := iteT H
              replace H := bindS H; obtain ⟨t106, A14, H⟩ := H
              by_cases c15 : t106 = true
              · subst c15
                replace H := iteT H
                replace H := bindS H; obtain ⟨t107, A16, H⟩ := H
                have H' := Aside0.mk H
                clear H
                obtain ⟨hcz17_0, hcz17_1, hcz17_2, hcz17_3, hcz17_4⟩ := blkC5 BK102.out
                have hfz17_0 := blk_frozen BK102.out 0
                have hfz17_1 := blk_frozen BK102.out 1
                have hfz17_2 := blk_frozen BK102.out 2
                have hfz17_3 := blk_frozen BK102.out 3
                have hfz17_4 := blk_frozen BK102.out 4
                go_wp2_with (first | (go_at_call 42; (with_reducible refine (perigeeref10_within.calls ((rd_T63 l0 x3_1).f1) 0 1000000000000 true _ A10.out).mono ?_); rintro e w' ⟨rfl, ⟨nd, rfl⟩⟩; (try first | exact ⟨rfl, _, World.drewN_drewN _ _ _⟩ | exact ⟨rfl, _, Eq.trans (World.drewN_drewN _ _ _) (congrArg (World.drewN _) (Nat.add_assoc _ _ _))⟩)) | (go_at_call 42; (with_reducible refine (perigeeref10_within.calls ((rd_T63 l0 x3_1).f2) 0 100 true _ A12.out).mono ?_); rintro e w' ⟨rfl, ⟨nd, rfl⟩⟩; (try first | exact ⟨rfl, _, World.drewN_drewN _ _ _⟩ | exact ⟨rfl, _, Eq.trans (World.drewN_drewN _ _ _) (congrArg (World.drewN _) (Nat.add_assoc _ _ _))⟩)) | (go_at_call 43; (with_reducible refine (perigeeref10_moment.calls ((rd_T63 l0 x3_1).f3) true _ A14.out).mono ?_); rintro e w' ⟨rfl, ⟨nd, rfl⟩⟩; (try first | exact ⟨rfl, _, World.drewN_drewN _ _ _⟩ | exact ⟨rfl, _, Eq.trans (World.drewN_drewN _ _ _) (congrArg (World.drewN _) (Nat.add_assoc _ _ _))⟩)) | (go_at_call 43; (with_reducible refine (perigeeref10_moment.calls ((rd_T63 l0 x3_1).f4) t107 _ A16.out).mono ?_); rintro e w' ⟨rfl, ⟨nd, rfl⟩⟩; (try first | exact ⟨rfl, _, World.drewN_drewN _ _ _⟩ | exact ⟨rfl, _, Eq.trans (World.drewN_drewN _ _ _) (congrArg (World.drewN _) (Nat.add_assoc _ _ _))⟩)))
                go_meet
                case rel => exact ⟨_, (!t107), d83f, H', ⟨by have := HK1.out; first | omega | exact Nat.le_refl _⟩, ⟨d83a⟩, ⟨d83b⟩⟩
              · replace c15 := Bool.eq_false_iff.mpr c15
                subst c15
                replace H := iteF H
                have H' := Aside0.mk H
                clear H
                obtain ⟨hcz18_0, hcz18_1, hcz18_2, hcz18_3, hcz18_4⟩ := blkC5 BK102.out
                have hfz18_0 := blk_frozen BK102.out 0
                have hfz18_1 := blk_frozen BK102.out 1
                have hfz18_2 := blk_frozen BK102.out 2
                have hfz18_3 := blk_frozen BK102.out 3
                have hfz18_4 := blk_frozen BK102.out 4
                go_wp2_with (first | (go_at_call 42; (with_reducible refine (perigeeref10_within.calls ((rd_T63 l0 x3_1).f1) 0 1000000000000 true _ A10.out).mono ?_); rintro e w' ⟨rfl, ⟨nd, rfl⟩⟩; (try first | exact ⟨rfl, _, World.drewN_drewN _ _ _⟩ | exact ⟨rfl, _, Eq.trans (World.drewN_drewN _ _ _) (congrArg (World.drewN _) (Nat.add_assoc _ _ _))⟩)) | (go_at_call 42; (with_reducible refine (perigeeref10_within.calls ((rd_T63 l0 x3_1).f2) 0 100 true _ A12.out).mono ?_); rintro e w' ⟨rfl, ⟨nd, rfl⟩⟩; (try first | exact ⟨rfl, _, World.drewN_drewN _ _ _⟩ | exact ⟨rfl, _, Eq.trans (World.drewN_drewN _ _ _) (congrArg (World.drewN _) (Nat.add_assoc _ _ _))⟩)) | (go_at_call 43; (with_reducible refine (perigeeref10_moment.calls ((rd_T63 l0 x3_1).f3) false _ A14.out).mono ?_); rintro e w' ⟨rfl, ⟨nd, rfl⟩⟩; (try first | exact ⟨rfl, _, World.drewN_drewN _ _ _⟩ | exact ⟨rfl, _, Eq.trans (World.drewN_drewN _ _ _) (congrArg (World.drewN _) (Nat.add_assoc _ _ _))⟩)))
                go_meet
                case rel => exact ⟨_, (true), d83f, H', ⟨by have := HK1.out; first | omega | exact Nat.le_refl _⟩, ⟨d83a⟩, ⟨d83b⟩⟩
            · replace c13 := Bool.eq_false_iff.mpr c13
              subst c13
              replace H := iteF H
              have H' := Aside0.mk H
              clear H
              obtain ⟨hcz19_0, hcz19_1, hcz19_2, hcz19_3, hcz19_4⟩ := blkC5 BK102.out
              have hfz19_0 := blk_frozen BK102.out 0
              have hfz19_1 := blk_frozen BK102.out 1
              have hfz19_2 := blk_frozen BK102.out 2
              have hfz19_3 := blk_frozen BK102.out 3
              have hfz19_4 := blk_frozen BK102.out 4
              go_wp2_with (first | (go_at_call 42; (with_reducible refine (perigeeref10_within.calls ((rd_T63 l0 x3_1).f1) 0 1000000000000 true _ A10.out).mono ?_); rintro e w' ⟨rfl, ⟨nd, rfl⟩⟩; (try first | exact ⟨rfl, _, World.drewN_drewN _ _ _⟩ | exact ⟨rfl, _, Eq.trans (World.drewN_drewN _ _ _) (congrArg (World.drewN _) (Nat.add_assoc _ _ _))⟩)) | (go_at_call 42; (with_reducible refine (perigeeref10_within.calls ((rd_T63 l0 x3_1).f2) 0 100 false _ A12.out).mono ?_); rintro e w' ⟨rfl, ⟨nd, rfl⟩⟩; (try first | exact ⟨rfl, _, World.drewN_drewN _ _ _⟩ | exact ⟨rfl, _, Eq.trans (World.drewN_drewN _ _ _) (congrArg (World.drewN _) (Nat.add_assoc _ _ _))⟩)))
              go_meet
              case rel => exact ⟨_, (true), d83f, H', ⟨by have := HK1.out; first | omega | exact Nat.le_refl _⟩, ⟨d83a⟩, ⟨d83b⟩⟩
          · replace c11 := Bool.eq_false_iff.mpr c11
            subst c11
            replace H := iteF H
            have H' := Aside0.mk H
            clear H
            obtain ⟨hcz20_0, hcz20_1, hcz20_2, hcz20_3, hcz20_4⟩ := blkC5 BK102.out
            have hfz20_0 := blk_frozen BK102.out 0
            have hfz20_1 := blk_frozen BK102.out 1
            have hfz20_2 := blk_frozen BK102.out 2
            have hfz20_3 := blk_frozen BK102.out 3
            have hfz20_4 := blk_frozen BK102.out 4
            go_wp2_with (go_at_call 42; (with_reducible refine (perigeeref10_within.calls ((rd_T63 l0 x3_1).f1) 0 1000000000000 false _ A10.out).mono ?_); rintro e w' ⟨rfl, ⟨nd, rfl⟩⟩; (try first | exact ⟨rfl, _, World.drewN_drewN _ _ _⟩ | exact ⟨rfl, _, Eq.trans (World.drewN_drewN _ _ _) (congrArg (World.drewN _) (Nat.add_assoc _ _ _))⟩))
            go_meet
            case rel => exact ⟨_, (true), d83f, H', ⟨by have := HK1.out; first | omega | exact Nat.le_refl _⟩, ⟨d83a⟩, ⟨d83b⟩⟩
         case rest =>
          clear HC7
          try clear c3b0
          try clear c4b0
          try clear hcz9_0
          try clear hcz9_1
          try clear hcz9_2
          try clear hcz9_3
          try clear hcz9_4
          try clear hfz9_0
          try clear hfz9_1
          try clear hfz9_2
          try clear hfz9_3
          try clear hfz9_4
          try clear hx101_0
          try clear hx101_1
          try clear hx101_2
          try clear hx101_3
          try clear hx101_4
          try clear p101
          try clear q101
          obtain ⟨kq, x43_6, rfl, HA, HJ6, BK102, HB⟩ := hcut
          cases kq with
          | zero => exact absurd HA.out (by simp [perigeeref10_CheckItems.j1])
          | succ kj6 =>
           have H := HA.out
           clear HA
           simp only [perigeeref10_CheckItems.j1] at H
           by_cases c21 : x43_6 = true
           · subst c21
             replace H := iteT H
             obtain rfl := Option.some.inj H
             go_wp2
             go_ret
             exact ⟨d83d, d83b⟩
           · replace c21 := Bool.eq_false_iff.mpr c21
             subst c21
             replace H := iteF H
             by_cases c22 : ((rd_T63 l0 x3_1).f4) < ((rd_T63 l0 x3_1).f3)
             · rw [if_pos c22] at H
               have c22b0 : decide (((rd_T63 l0 x3_1).f4) < ((rd_T63 l0 x3_1).f3)) = true := decide_eq_true c22
               clear c22
               obtain rfl := Option.some.inj H
               obtain ⟨hcz23_0, hcz23_1, hcz23_2, hcz23_3, hcz23_4⟩ := blkC5 BK102.out
               have hfz23_0 := blk_frozen BK102.out 0
               have hfz23_1 := blk_frozen BK102.out 1
               have hfz23_2 := blk_frozen BK102.out 2
               have hfz23_3 := blk_frozen BK102.out 3
               have hfz23_4 := blk_frozen BK102.out 4
               go_wp2
               repeat (go_quiet (fail); try go_wp2)
               go_ret
               exact ⟨d83d, d83b⟩
             · rw [if_neg c22] at H
               have c22b0 : decide (((rd_T63 l0 x3_1).f4) < ((rd_T63 l0 x3_1).f3)) = false := decide_eq_false c22
               clear c22
               by_cases c24 : x3_1 > 0
               · rw [if_pos c24] at H
                 have c24b0 : decide (0 < x3_1) = true := decide_eq_true c24
                 clear c24
                 obtain ⟨ji25, hji25⟩ : ∃ j_ : Int, (wrap64 (x3_1 - 1)) = j_ := ⟨_, rfl⟩
                 replace H : (if 0 ≤ (ji25) then (if (ji25) < (l0.length : Int) then (if ((Op.bytesLess (((rd_T63 l0 (ji25)).f0).toList) ((rd_T63 l0 x3_1).f0).toList) = true) then (perigeeref10_CheckItems.l0 kj6 l0 (wrap64 (x3_1 + 1))) else (some 8)) else (none)) else (none)) = some r := by first | (rw [hji25] at H; exact H) | (simp only [hji25] at H ⊢; exact H)
                 have hji25w : (IntKind.i64.wrap (x3_1 - 1)) = ji25 := (i64_w _).trans hji25
                 replace H := guardT H; obtain ⟨c26, H⟩ := H
                 have c26b0 : decide (0 ≤ (ji25)) = true := decide_eq_true c26
                 clear c26
                 replace H := guardT H; obtain ⟨c27, H⟩ := H
                 have c27b0 : decide ((ji25) < (l0.length : Int)) = true := decide_eq_true c27
                 clear c27
                 by_cases c28 : ((Op.bytesLess (((rd_T63 l0 (ji25)).f0).toList) ((rd_T63 l0 x3_1).f0).toList) = true)
                 · rw [if_pos c28] at H
                   have c28b0 : (Op.bytesLess (((rd_T63 l0 (ji25)).f0).toList) ((rd_T63 l0 x3_1).f0).toList) = true := c28
                   clear c28
                   have H' := Aside0.mk H
                   clear H
                   obtain ⟨hcz29_0, hcz29_1, hcz29_2, hcz29_3, hcz29_4⟩ := blkC5 BK102.out
                   have hfz29_0 := blk_frozen BK102.out 0
                   have hfz29_1 := blk_frozen BK102.out 1
                   have hfz29_2 := blk_frozen BK102.out 2
                   have hfz29_3 := blk_frozen BK102.out 3
                   have hfz29_4 := blk_frozen BK102.out 4
                   have p108 : 0 ≤ ((ji25) : Int) := of_decide_eq_true d83e
                   have q108 : (ji25) < (l0.length : Int) := of_decide_eq_true d83e
                   obtain ⟨ad108, e108, hx108_0, hx108_1, hx108_2, hx108_3, hx108_4⟩ := at_T63 HR0.out (ji25) p108 q108
                   obtain rfl : ad101 = ad108 := (by injection e108)
                   replace hx108_0 := cellB HB.out hx108_0
                   replace hx108_1 := cellB HB.out hx108_1
                   replace hx108_2 := cellB HB.out hx108_2
                   replace hx108_3 := cellB HB.out hx108_3
                   replace hx108_4 := cellB HB.out hx108_4
                   replace p108 := eq_true p108
                   replace q108 := eq_true q108
                   go_wp2
                   repeat (go_quiet (fail); try go_wp2)
                   go_roundg kj6
                   case measure => have := HK1.out; have := HJ6.out; omega
                   case rel => exact ⟨(wrap64 (x3_1 + 1)), d83f, H', ⟨by have := HK1.out; have := HJ6.out; omega⟩, ⟨d83b⟩⟩
                 · rw [if_neg c28] at H
                   have c28b0 : (Op.bytesLess (((rd_T63 l0 (ji25)).f0).toList) ((rd_T63 l0 x3_1).f0).toList) = false := by simpa using c28
                   clear c28
                   obtain rfl := Option.some.inj H
                   obtain ⟨hcz30_0, hcz30_1, hcz30_2, hcz30_3, hcz30_4⟩ := blkC5 BK102.out
                   have hfz30_0 := blk_frozen BK102.out 0
                   have hfz30_1 := blk_frozen BK102.out 1
                   have hfz30_2 := blk_frozen BK102.out 2
                   have hfz30_3 := blk_frozen BK102.out 3
                   have hfz30_4 := blk_frozen BK102.out 4
                   have p108 : 0 ≤ ((ji25) : Int) := of_decide_eq_true d83e
                   have q108 : (ji25) < (l0.length : Int) := of_decide_eq_true d83e
                   obtain ⟨ad108, e108, hx108_0, hx108_1, hx108_2, hx108_3, hx108_4⟩ := at_T63 HR0.out (ji25) p108 q108
                   obtain rfl : ad101 = ad108 := (by injection e108)
                   replace hx108_0 := cellB HB.out hx108_0
                   replace hx108_1 := cellB HB.out hx108_1
                   replace hx108_2 := cellB HB.out hx108_2
                   replace hx108_3 := cellB HB.out hx108_3
                   replace hx108_4 := cellB HB.out hx108_4
                   replace p108 := eq_true p108
                   replace q108 := eq_true q108
                   go_wp2
                   repeat (go_quiet (fail); try go_wp2)
                   go_ret
                   exact ⟨by first | rfl | (simp [errW_none, errW_some] <;> rfl) | (simp only [← hji25]; first | rfl | (simp [errW_none, errW_some] <;> rfl)) | (simp [*, errW_none, errW_some] <;> rfl), d83b⟩
               · rw [if_neg c24] at H
                 have c24b0 : decide (0 < x3_1) = false := decide_eq_false c24
                 clear c24
                 have H' := Aside0.mk H
                 clear H
                 obtain ⟨hcz31_0, hcz31_1, hcz31_2, hcz31_3, hcz31_4⟩ := blkC5 BK102.out
                 have hfz31_0 := blk_frozen BK102.out 0
                 have hfz31_1 := blk_frozen BK102.out 1
                 have hfz31_2 := blk_frozen BK102.out 2
                 have hfz31_3 := blk_frozen BK102.out 3
                 have hfz31_4 := blk_frozen BK102.out 4
                 go_wp2
                 repeat (go_quiet (fail); try go_wp2)
                 go_roundg kj6
                 case measure => have := HK1.out; have := HJ6.out; omega
                 case rel => exact ⟨(wrap64 (x3_1 + 1)), d83f, H', ⟨by have := HK1.out; have := HJ6.out; omega⟩, ⟨d83b⟩⟩
       · replace c6 := Bool.eq_false_iff.mpr c6
         subst c6
         replace H := iteF H
         obtain rfl := Option.some.inj H
         have p101 : 0 ≤ (x3_1 : Int) := of_decide_eq_true d83e
         have q101 : x3_1 < (l0.length : Int) := of_decide_eq_true d83e
         obtain ⟨ad101, e101, hx101_0, hx101_1, hx101_2, hx101_3, hx101_4⟩ := at_T63 HR0.out x3_1 p101 q101
         cases e101
         replace hx101_0 := cellB HB.out hx101_0
         replace hx101_1 := cellB HB.out hx101_1
         replace hx101_2 := cellB HB.out hx101_2
         replace hx101_3 := cellB HB.out hx101_3
         replace hx101_4 := cellB HB.out hx101_4
         replace p101 := eq_true p101
         replace q101 := eq_true q101
         go_wp2_with (first | ((with_reducible refine gate_dst (N := 4) rfl ?_); refine box_event ?hg (N := 4) ?hd (cs := #[.string (⟨#[]⟩ : ByteArray), .int .i64 0, .int .i64 0, .int .i64 0, .int .i64 0]) (t := 63) ?hr ?_; (case hd => rfl); (case hg => rfl); (case hr => first | (go_simp; done) | (go_simp; rfl)); intro gb102 hg w32 hbox hb; have n0_ := Aside0.mk (below_step d83c hb); have n1_ := Aside0.mk (hbox); have n2_ := Aside0.mk ((by rw [hg]; exact (below_size d83c) : w.heap.size ≤ gb102)); have n3_ := Aside0.mk ((by rw [hg]; exact (below_size d83c) : w.heap.size ≤ gb102)); clear HB; have HB := n0_; have BK102 := n1_; have GW102 := n2_; have GE102 := n3_; clear n0_ n1_ n2_ n3_; clear hb hbox hg; have hcz33_0 : w32.cell? ⟨gb102, 0, none⟩ = some (.string (⟨#[]⟩ : ByteArray)) := (blk_cell BK102.out 0).trans rfl; have hcz33_1 : w32.cell? ⟨gb102, 1, none⟩ = some (.int .i64 0) := (blk_cell BK102.out 1).trans rfl; have hcz33_2 : w32.cell? ⟨gb102, 2, none⟩ = some (.int .i64 0) := (blk_cell BK102.out 2).trans rfl; have hcz33_3 : w32.cell? ⟨gb102, 3, none⟩ = some (.int .i64 0) := (blk_cell BK102.out 3).trans rfl; have hcz33_4 : w32.cell? ⟨gb102, 4, none⟩ = some (.int .i64 0) := (blk_cell BK102.out 4).trans rfl; have hfz33_0 := blk_frozen BK102.out 0; have hfz33_1 := blk_frozen BK102.out 1; have hfz33_2 := blk_frozen BK102.out 2; have hfz33_3 := blk_frozen BK102.out 3; have hfz33_4 := blk_frozen BK102.out 4) | (go_at_call 79; (with_reducible refine (perigeeref8_IsName.calls k1 ((rd_T63 l0 x3_1).f0) false _ A5.out).mono ?_); rintro e w' ⟨rfl, ⟨nd, rfl⟩⟩; (try first | exact ⟨rfl, _, World.drewN_drewN _ _ _⟩ | exact ⟨rfl, _, Eq.trans (World.drewN_drewN _ _ _) (congrArg (World.drewN _) (Nat.add_assoc _ _ _))⟩)))
         go_ret
         exact ⟨d83d, d83b⟩
     · rw [if_neg c3] at H
       have c3b0 : decide (x3_1 < (l0.length : Int)) = false := decide_eq_false c3
       clear c3
       obtain rfl := Option.some.inj H
       go_wp2
       go_ret
       exact ⟨d83d, d83c⟩
def perigeeref10_checkSend.f (k : Nat) (l0 : List (S33)) (l1 : List Int) (l2 : List (S63)) : Option (Int) := (perigeeref10_CheckPasses.f k l0).bind fun t101 => (if t101 = 0 then ((perigeeref10_checkNumbers.f k l0 l1).bind fun t102 => (if t102 = 0 then ((perigeeref10_CheckItems.f k l2).bind fun t103 => (some t103)) else (some t102))) else (some t101))
theorem d66a {p : Prop} (h : p := by (try simp only [List.map_toArray, List.map_cons, List.map_nil]); first | done | rfl | (simp only [List.length_drop, List.length_take]; rfl)) : p := h
theorem d66b {p : Prop} (h : p := by repeat (first | (with_reducible first | exact HB.out | apply below_alloc | apply pw_below_drewN | apply below_drew1) | exact HB.out)) : p := h
theorem d66c {p : Prop} (h : p := by first | rfl | (simp [errW_none, errW_some] <;> rfl) | (simp [*, errW_none, errW_some] <;> rfl)) : p := h
set_option maxHeartbeats 8000000 in
set_option maxRecDepth 100000 in
theorem perigeeref10_checkSend.calls (k : Nat) (A0 : Option Addr) (c0 : Nat) (l0 : List (S33)) (A1 : Option Addr) (c1 : Nat) (l1 : List Int) (A2 : Option Addr) (c2 : Nat) (l2 : List (S63)) (r : Int) (w : World) (hr0 : Kd.C k33 w A0 l0.length l0) (hc0 : l0.length ≤ c0) (hr1 : Kd.C (Kd.int .i64) w A1 l1.length l1) (hc1 : l1.length ≤ c1) (hr2 : Kd.C k63 w A2 l2.length l2) (hc2 : l2.length ≤ c2) (h : perigeeref10_checkSend.f k l0 l1 l2 = some r) :
 Calls Try.prog 66 #[.slice A0 l0.length c0, .slice A1 l1.length c1, .slice A2 l2.length c2] w fun e w' => e = .returned (.int .i64 r) ∧ Below w.heap.size w w' := by
 have HR0 := Aside0.mk hr0
 have HC0 := Aside0.mk hc0
 clear hr0 hc0
 have HR1 := Aside0.mk hr1
 have HC1 := Aside0.mk hc1
 clear hr1 hc1
 have HR2 := Aside0.mk hr2
 have HC2 := Aside0.mk hc2
 clear hr2 hc2
 have HB := Aside0.mk (Below.refl w.heap.size w)
 have H : ((perigeeref10_CheckPasses.f k l0).bind fun t101 => (if t101 = 0 then ((perigeeref10_checkNumbers.f k l0 l1).bind fun t102 => (if t102 = 0 then ((perigeeref10_CheckItems.f k l2).bind fun t103 => (some t103)) else (some t102))) else (some t101))) = some r := h
 clear h
 replace H := bindS H; obtain ⟨t101, A4, H⟩ := H
 by_cases c5 : t101 = 0
 · rw [if_pos c5] at H
   have c5b0 : (t101 == 0) = true := beq_iff_eq.mpr c5
   have c5b1 : (t101 != 0) = false := bne_eq_false_iff_eq.mpr c5
   clear c5
   replace H := bindS H; obtain ⟨t102, A6, H⟩ := H
   by_cases c7 : t102 = 0
   · rw [if_pos c7] at H
     have c7b0 : (t102 == 0) = true := beq_iff_eq.mpr c7
     have c7b1 : (t102 != 0) = false := bne_eq_false_iff_eq.mpr c7
     clear c7
     replace H := bindS H; obtain ⟨t103, A8, H⟩ := H
     obtain rfl := Option.some.inj H
     go_enter Try.func66, Try.ntmps66
     go_wp2_with (first | ((with_reducible refine gate_callee (f := 19) rfl ?_); refine goesL_ (some 10) rfl rfl Try.func19 (by kernel_rfl) rfl #[.slice A0 l0.length c0] rfl d66a ?_; (with_reducible refine (perigeeref10_CheckPasses.calls k _ _ l0 t101 _ ?side1 ?side2 A4.out).mono ?_); (case side1 => exact C_go HR0.out); (case side2 => exact HC0.out); rintro e w9 ⟨rfl, hb⟩; refine ⟨_, rfl, ?_⟩; replace HB := Aside0.mk (below_step d66b hb); (try clear hb)) | ((with_reducible refine gate_callee (f := 58) rfl ?_); refine goesL_ (some 16) rfl rfl Try.func58 (by kernel_rfl) rfl #[.slice A0 l0.length c0, .slice A1 l1.length c1] rfl d66a ?_; (with_reducible refine (perigeeref10_checkNumbers.calls k _ _ l0 _ _ l1 t102 _ ?side1 ?side2 ?side3 ?side4 A6.out).mono ?_); (case side1 => exact C_go (Kd.C_below HR0.out HB.out)); (case side2 => exact HC0.out); (case side3 => exact C_go (Kd.C_below HR1.out HB.out)); (case side4 => exact HC1.out); rintro e w' ⟨rfl, ⟨nd, rfl⟩⟩; refine ⟨_, rfl, ?_⟩) | ((with_reducible refine gate_callee (f := 83) rfl ?_); refine goesL_ (some 21) rfl rfl Try.func83 (by kernel_rfl) rfl #[.slice A2 l2.length c2] rfl d66a ?_; (with_reducible refine (perigeeref10_CheckItems.calls k _ _ l2 t103 _ ?side1 ?side2 A8.out).mono ?_); (case side1 => repeat (first | exact (Kd.C_below HR2.out d66b) | (with_reducible refine Kd.C_alloc ?_ _) | (with_reducible refine Kd.C_drewN ?_ _) | (with_reducible refine Kd.C_drew ?_))); (case side2 => exact HC2.out); rintro e w10 ⟨rfl, hb⟩; refine ⟨_, rfl, ?_⟩; replace HB := Aside0.mk (below_step d66b hb); (try clear hb)))
     go_ret
     exact ⟨d66c, d66b⟩
   · rw [if_neg c7] at H
     have c7b0 : (t102 == 0) = false := beq_eq_false_iff_ne.mpr c7
     have c7b1 : (t102 != 0) = true := bne_iff_ne.mpr c7
     obtain rfl := Option.some.inj H
     go_enter Try.func66, Try.ntmps66
     go_wp2_with (first | ((with_reducible refine gate_callee (f := 19) rfl ?_); refine goesL_ (some 10) rfl rfl Try.func19 (by kernel_rfl) rfl #[.slice A0 l0.length c0] rfl d66a ?_; (with_reducible refine (perigeeref10_CheckPasses.calls k _ _ l0 t101 _ ?side1 ?side2 A4.out).mono ?_); (case side1 => exact C_go HR0.out); (case side2 => exact HC0.out); rintro e w11 ⟨rfl, hb⟩; refine ⟨_, rfl, ?_⟩; replace HB := Aside0.mk (below_step d66b hb); (try clear hb)) | ((with_reducible refine gate_callee (f := 58) rfl ?_); refine goesL_ (some 16) rfl rfl Try.func58 (by kernel_rfl) rfl #[.slice A0 l0.length c0, .slice A1 l1.length c1] rfl d66a ?_; (with_reducible refine (perigeeref10_checkNumbers.calls k _ _ l0 _ _ l1 t102 _ ?side1 ?side2 ?side3 ?side4 A6.out).mono ?_); (case side1 => exact C_go (Kd.C_below HR0.out HB.out)); (case side2 => exact HC0.out); (case side3 => exact C_go (Kd.C_below HR1.out HB.out)); (case side4 => exact HC1.out); rintro e w' ⟨rfl, ⟨nd, rfl⟩⟩; refine ⟨_, rfl, ?_⟩))
     go_ret
     exact ⟨d66c, d66b⟩
 · rw [if_neg c5] at H
   have c5b0 : (t101 == 0) = false := beq_eq_false_iff_ne.mpr c5
   have c5b1 : (t101 != 0) = true := bne_iff_ne.mpr c5
   obtain rfl := Option.some.inj H
   go_enter Try.func66, Try.ntmps66
   go_wp2_with ((with_reducible refine gate_callee (f := 19) rfl ?_); refine goesL_ (some 10) rfl rfl Try.func19 (by kernel_rfl) rfl #[.slice A0 l0.length c0] rfl d66a ?_; (with_reducible refine (perigeeref10_CheckPasses.calls k _ _ l0 t101 _ ?side1 ?side2 A4.out).mono ?_); (case side1 => exact C_go HR0.out); (case side2 => exact HC0.out); rintro e w12 ⟨rfl, hb⟩; refine ⟨_, rfl, ?_⟩; replace HB := Aside0.mk (below_step d66b hb); (try clear hb))
   go_ret
   exact ⟨d66c, d66b⟩
/-- What the reference's run holds. -/
structure RX where
  left : List Int
  done : List Int
  parts : List S61
/-- .. and where it lies. -/
structure RV where
  Ap : Option Addr
  cp : Nat
  Ab : Option Addr
  cb : Nat
  Aq : Option Addr
  cq : Nat
  vl : Value
  vd : Value
  vp : Value
structure RunAt (w0 W : World) (g : Nat) (V : RV) (ps : List S33) (bk : List Int) (q : List S63) (st : RX) : Prop where
  hb : W.heap[g]? = some (.cells #[.slice V.Ap ps.length V.cp, .slice V.Ab bk.length V.cb, .slice V.Aq q.length V.cq, V.vl, V.vd, V.vp] 114 (0, 0))
  hg : w0.heap.size ≤ g
  psC : k33.C w0 V.Ap ps.length ps
  psc : ps.length ≤ V.cp
  bkC : (Kd.int .i64).C w0 V.Ab bk.length bk
  bkc : bk.length ≤ V.cb
  qC : k63.C w0 V.Aq q.length q
  qc : q.length ≤ V.cq
  bel : Below w0.heap.size w0 W
  l : (Kd.int .i64).R 3 W w0.heap.size (fun _ => True) V.vl st.left
  d : (Kd.int .i64).R 3 W w0.heap.size (fun _ => True) V.vd st.done
  ld : Apart V.vl V.vd
  p : k61.R 61 W w0.heap.size (fun _ => True) V.vp st.parts
section
variable {w0 W W' : World} {g : Nat} {V : RV} {ps : List S33} {bk : List Int} {q : List S63} {st : RX}
theorem RunAt.ty (h : RunAt w0 W g V ps bk q st) : isTy 114 W g := ⟨_, h.hb⟩
/-- What is turned: one block at most, which is none of the run's. -/
theorem RunAt.grown (h : RunAt w0 W g V ps bk q st) {b : Option Nat} (hf : W.grownBy W' b) (hb : Below w0.heap.size w0 W')
    (hbt : ∀ k, b = some k → (∃ t, isTy t W k ∧ t ≠ 114 ∧ t ≠ 3 ∧ t ≠ 61)) : RunAt w0 W' g V ps bk q st := by
  have key : ∀ {t k}, isTy t W k → (t = 114 ∨ t = 3 ∨ t = 61) → W'.heap[k]? = W.heap[k]? := fun {t k} hk ht => hf.block k hk.lt (fun e => by
    obtain ⟨t', ht', n1, n2, n3⟩ := hbt k e.symm
    refine hk.ne ht' (fun e' => ?_) rfl
    subst e'
    rcases ht with e | e | e
    · exact n1 e
    · exact n2 e
    · exact n3 e)
  exact ⟨(key h.ty (Or.inl rfl)).trans h.hb, h.hg, h.psC, h.psc, h.bkC, h.bkc, h.qC, h.qc, hb, flat_move rfl h.l (fun k hk => key (own_ty h.l hk) (Or.inr (Or.inl rfl))), flat_move rfl h.d (fun k hk => key (own_ty h.d hk) (Or.inr (Or.inl rfl))), h.ld, flat_move rfl h.p (fun k hk => key (own_ty h.p hk) (Or.inr (Or.inr rfl)))⟩
theorem RunAt.below (h : RunAt w0 W g V ps bk q st) (hb : Below W.heap.size W W') : RunAt w0 W' g V ps bk q st := h.grown (grown_of_below hb none) (below_step h.bel hb) (fun k e => by cases e)
theorem RunAt.drewN (h : RunAt w0 W g V ps bk q st) (n : Nat) : RunAt w0 (W.drewN n) g V ps bk q st := h.below (pw_below_drewN (Below.refl _ _) n)
theorem RunAt.c0 (h : RunAt w0 W g V ps bk q st) : W.cell? ⟨g, 0, none⟩ = some (.slice V.Ap ps.length V.cp) := (blk_cell h.hb 0).trans rfl
theorem RunAt.c1 (h : RunAt w0 W g V ps bk q st) : W.cell? ⟨g, 1, none⟩ = some (.slice V.Ab bk.length V.cb) := (blk_cell h.hb 1).trans rfl
theorem RunAt.c2 (h : RunAt w0 W g V ps bk q st) : W.cell? ⟨g, 2, none⟩ = some (.slice V.Aq q.length V.cq) := (blk_cell h.hb 2).trans rfl
theorem RunAt.c3 (h : RunAt w0 W g V ps bk q st) : ∃ A c, V.vl = .slice A st.left.length c ∧ W.cell? ⟨g, 3, none⟩ = some (.slice A st.left.length c) ∧ (Kd.int .i64).C W A st.left.length st.left := by
  obtain ⟨A, c, e, _, hC⟩ := Kd.R_reads h.l
  exact ⟨A, c, e, e ▸ (blk_cell h.hb 3).trans rfl, hC⟩
theorem RunAt.c4 (h : RunAt w0 W g V ps bk q st) : ∃ A c, V.vd = .slice A st.done.length c ∧ W.cell? ⟨g, 4, none⟩ = some (.slice A st.done.length c) ∧ (Kd.int .i64).C W A st.done.length st.done := by
  obtain ⟨A, c, e, _, hC⟩ := Kd.R_reads h.d
  exact ⟨A, c, e, e ▸ (blk_cell h.hb 4).trans rfl, hC⟩
theorem RunAt.c5 (h : RunAt w0 W g V ps bk q st) : ∃ A c, V.vp = .slice A st.parts.length c ∧ W.cell? ⟨g, 5, none⟩ = some (.slice A st.parts.length c) := by
  obtain ⟨A, c, e, _, hC⟩ := Kd.R_reads h.p
  exact ⟨A, c, e, e ▸ (blk_cell h.hb 5).trans rfl⟩
end
/-- The item that goes, of the first n. -/
def firstTo (q : List S63) (left : List Int) (at_ : Int) : Nat → Int
  | 0 => -1
  | n + 1 => if (rd_T63 q (n : Int)).f3 > at_ ∨ rd left (n : Int) = 0 then firstTo q left at_ n
      else if firstTo q left at_ n < 0 ∨ (rd_T63 q (n : Int)).f2 > (rd_T63 q (firstTo q left at_ n)).f2 ∨ (rd_T63 q (n : Int)).f2 = (rd_T63 q (firstTo q left at_ n)).f2 ∧ (rd_T63 q (n : Int)).f4 < (rd_T63 q (firstTo q left at_ n)).f4 then (n : Int) else firstTo q left at_ n
theorem firstTo_bd (q : List S63) (left : List Int) (at_ : Int) : ∀ n : Nat, -1 ≤ firstTo q left at_ n ∧ firstTo q left at_ n < n
  | 0 => by unfold firstTo; omega
  | n + 1 => by
    have ih := firstTo_bd q left at_ n
    unfold firstTo
    split
    · omega
    · split
      · omega
      · omega
set_option maxHeartbeats 8000000 in
set_option maxRecDepth 100000 in
theorem first_calls {w0 W : World} {g : Nat} {V : RV} {ps : List S33} {bk : List Int} {q : List S63} {st : RX} (at_ : Int) (h : RunAt w0 W g V ps bk q st) (hl : st.left.length = q.length) (hq : q.length ≤ 1000000) :
    Calls Try.prog 104 #[.pointer (some ⟨g, 0, none⟩), .int .i64 at_] W fun e w' => e = .returned (.int .i64 (firstTo q st.left at_ q.length)) ∧ Below W.heap.size W w' := by
  have HS := Aside0.mk h
  have HL := Aside0.mk hl
  have HQ := Aside0.mk hq
  obtain ⟨Aq, hAq⟩ : ∃ A, V.Aq = A := ⟨_, rfl⟩
  have HAQ := Aside0.mk hAq
  clear h hl hq hAq
  go_enter Try.func104, Try.ntmps104
  go_wp2
  go_loopg [5, 6] q.length (fun kq v5 v6 w' => ∃ (i : Nat) (b : Int), v5 = .int .i64 b ∧ v6 = .int .i64 (i : Int) ∧ Aside0 (kq + i = q.length) ∧ Aside0 (b = firstTo q st.left at_ i) ∧ Aside0 (Below W.heap.size W w'))
  case atStart => exact ⟨0, -1, rfl, rfl, ⟨rfl⟩, ⟨rfl⟩, ⟨Below.refl _ _⟩⟩
  case round =>
    obtain ⟨i, b, rfl, rfl, HK, HF, HB⟩ := hrel
    have hb0 := HS.out.below HB.out
    have x2 := hb0.c2
    rw [HAQ.out] at x2
    cases gk with
    | zero =>
      have hi : i = q.length := by have := HK.out; omega
      subst hi
      have HF2 := Aside0.mk HF.out
      have d0 : decide ((q.length : Int) < (q.length : Int)) = false := decide_eq_false (by omega)
      clear HK HF hb0
      go_wp2
      go_ret
      exact ⟨by rw [HF2.out]; rfl, HB.out⟩
    | succ d =>
      have hi : i < q.length := by have := HK.out; omega
      have hi0 : (0 : Int) ≤ (i : Int) := by omega
      have hi1 : (i : Int) < (q.length : Int) := by omega
      have hid : (i : Int) < (st.left.length : Int) := by rw [HL.out]; exact hi1
      have hd1 : decide ((i : Int) < (q.length : Int)) = true := decide_eq_true hi1
      have hwi : wrap64 ((i : Int) + 1) = ((i + 1 : Nat) : Int) := by have := HQ.out; unfold wrap64; omega
      have hqr := HQ.out
      obtain ⟨adq, eq, y0, y1, y2, y3, y4⟩ := at_T63 (Kd.C_below hb0.qC hb0.bel) (i : Int) hi0 hi1
      rw [HAQ.out] at eq
      cases eq
      obtain ⟨x, hx⟩ : ∃ x, x = rd_T63 q (i : Int) := ⟨_, rfl⟩
      rw [← hx] at y0 y1 y2 y3 y4
      simp only [Int.toNat_natCast] at y0 y1 y2 y3 y4
      obtain ⟨li, hli⟩ : ∃ li, li = rd st.left (i : Int) := ⟨_, rfl⟩
      have hst : firstTo q st.left at_ (i + 1) = if x.f3 > at_ ∨ li = 0 then b else if b < 0 ∨ x.f2 > (rd_T63 q b).f2 ∨ x.f2 = (rd_T63 q b).f2 ∧ x.f4 < (rd_T63 q b).f4 then (i : Int) else b := by rw [hx, hli, HF.out]; rfl
      have hbd := firstTo_bd q st.left at_ i
      rw [← HF.out] at hbd
      have HST := Aside0.mk hst
      have HBD := Aside0.mk hbd
      have HX := Aside0.mk hx
      have HLI := Aside0.mk hli
      clear hx hb0 hst hli hbd hqr
      go_upto_region 6 with (fail)
      obtain ⟨g5, hg5⟩ : ∃ g5, g5 = wr.heap.size := ⟨_, rfl⟩
      obtain ⟨w1, hw1⟩ : ∃ w1, w1 = wr.alloc (.cells #[.string x.f0, .int .i64 x.f1, .int .i64 x.f2, .int .i64 x.f3, .int .i64 x.f4] 63) := ⟨_, rfl⟩
      rw [← hw1, ← hg5]
      have HB1 := Aside0.mk (show Below W.heap.size W w1 by rw [hw1]; exact below_alloc HB.out _)
      have BK := Aside0.mk (show w1.heap[g5]? = some (.cells #[.string x.f0, .int .i64 x.f1, .int .i64 x.f2, .int .i64 x.f3, .int .i64 x.f4] 63 (0, 0)) by rw [hw1, hg5]; exact heap_alloc_new wr _)
      clear hw1 hg5 y0 y1 y2 y3 y4 HB x2
      have hb1 := HS.out.below HB1.out
      have x2 := hb1.c2
      rw [HAQ.out] at x2
      have z2 : w1.cell? ⟨g5, 2, none⟩ = some (.int .i64 x.f2) := (blk_cell BK.out 2).trans rfl
      have z3 : w1.cell? ⟨g5, 3, none⟩ = some (.int .i64 x.f3) := (blk_cell BK.out 3).trans rfl
      have z4 : w1.cell? ⟨g5, 4, none⟩ = some (.int .i64 x.f4) := (blk_cell BK.out 4).trans rfl
      obtain ⟨ad, cd, x3, y3⟩ : ∃ ad cd, w1.cell? ⟨g, 3, none⟩ = some (.slice (some ad) st.left.length cd) ∧ w1.cell? (ad.add i) = some (.int .i64 li) := (by obtain ⟨A, c, _, a2, a3⟩ := hb1.c3; obtain ⟨ad, ea, hx⟩ := Kd.at_int a3 (i : Int) hi0 hid; subst ea; rw [← HLI.out] at hx; simp only [Int.toNat_natCast] at hx; exact ⟨ad, c, a2, hx⟩)
      clear hb1
      by_cases c1 : at_ < x.f3
      · have d1 : decide (at_ < x.f3) = true := decide_eq_true c1
        have C1 := Aside0.mk c1
        clear c1
        go_wp2
        go_roundg d
        case measure => omega
        case rel => exact ⟨i + 1, b, rfl, (by first | rfl | (rw [hwi]) | (simp [hwi]; done) | (simp; done)), ⟨by have := HK.out; omega⟩, ⟨by rw [HST.out, if_pos (Or.inl C1.out)]⟩, HB1⟩
      · have d1 : decide (at_ < x.f3) = false := decide_eq_false c1
        have C1 := Aside0.mk c1
        clear c1
        by_cases c2 : li = 0
        · have d2 : (li == 0) = true := beq_iff_eq.mpr c2
          have C2 := Aside0.mk c2
          clear c2
          go_wp2
          go_roundg d
          case measure => omega
          case rel => exact ⟨i + 1, b, rfl, (by first | rfl | (rw [hwi]) | (simp [hwi]; done) | (simp; done)), ⟨by have := HK.out; omega⟩, ⟨by rw [HST.out, if_pos (Or.inr C2.out)]⟩, HB1⟩
        · have d2 : (li == 0) = false := beq_eq_false_iff_ne.mpr c2
          have C2 := Aside0.mk c2
          clear c2
          have HN := Aside0.mk (show firstTo q st.left at_ (i + 1) = if b < 0 ∨ x.f2 > (rd_T63 q b).f2 ∨ x.f2 = (rd_T63 q b).f2 ∧ x.f4 < (rd_T63 q b).f4 then (i : Int) else b by rw [HST.out, if_neg (by have := C1.out; have := C2.out; omega)])
          clear HST
          by_cases c3 : b < 0
          · have d3 : decide (b < 0) = true := decide_eq_true c3
            have C3 := Aside0.mk c3
            clear c3
            go_wp2
            go_quiet (fail)
            go_wp2
            go_roundg d
            case measure => omega
            case rel => exact ⟨i + 1, (i : Int), rfl, (by first | rfl | (rw [hwi]) | (simp [hwi]; done) | (simp; done)), ⟨by have := HK.out; omega⟩, ⟨by rw [HN.out, if_pos (Or.inl C3.out)]⟩, ⟨pw_below_drewN HB1.out _⟩⟩
          · have d3 : decide (b < 0) = false := decide_eq_false c3
            have b0 : 0 ≤ b := by omega
            have b1 : b < (q.length : Int) := by have := HBD.out; omega
            obtain ⟨adq', eq', v0, v1, v2, v3, v4⟩ := at_T63 (Kd.C_below (HS.out.below HB1.out).qC (HS.out.below HB1.out).bel) b b0 b1
            rw [HAQ.out] at eq'
            cases eq'
            obtain ⟨y, hy⟩ : ∃ y, y = rd_T63 q b := ⟨_, rfl⟩
            rw [← hy] at v0 v1 v2 v3 v4
            have hn := HN.out
            rw [← hy] at hn
            have HN2 := Aside0.mk hn
            have HBN := Aside0.mk c3
            have p0 := eq_true b0
            have p1 : decide (b < (q.length : Int)) = true := decide_eq_true b1
            clear hn hy HN c3 v0 v1 v3
            by_cases c4 : y.f2 < x.f2
            · have d4 : decide (y.f2 < x.f2) = true := decide_eq_true c4
              have C4 := Aside0.mk c4
              clear c4
              go_wp2
              go_quiet (fail)
              go_wp2
              go_roundg d
              case measure => omega
              case rel => exact ⟨i + 1, (i : Int), rfl, (by first | rfl | (rw [hwi]) | (simp [hwi]; done) | (simp; done)), ⟨by have := HK.out; omega⟩, ⟨by rw [HN2.out, if_pos (Or.inr (Or.inl C4.out))]⟩, ⟨pw_below_drewN HB1.out _⟩⟩
            · have d4 : decide (y.f2 < x.f2) = false := decide_eq_false c4
              have C4 := Aside0.mk c4
              clear c4
              by_cases c5 : x.f2 = y.f2
              · have d5 : (x.f2 == y.f2) = true := beq_iff_eq.mpr c5
                have C5 := Aside0.mk c5
                clear c5
                by_cases c6 : x.f4 < y.f4
                · have d6 : decide (x.f4 < y.f4) = true := decide_eq_true c6
                  have C6 := Aside0.mk c6
                  clear c6
                  go_wp2
                  go_quiet (fail)
                  go_wp2
                  go_roundg d
                  case measure => omega
                  case rel => exact ⟨i + 1, (i : Int), rfl, (by first | rfl | (rw [hwi]) | (simp [hwi]; done) | (simp; done)), ⟨by have := HK.out; omega⟩, ⟨by rw [HN2.out, if_pos (Or.inr (Or.inr ⟨C5.out, C6.out⟩))]⟩, ⟨pw_below_drewN HB1.out _⟩⟩
                · have d6 : decide (x.f4 < y.f4) = false := decide_eq_false c6
                  have C6 := Aside0.mk c6
                  clear c6
                  go_wp2
                  go_quiet (fail)
                  go_wp2
                  go_roundg d
                  case measure => omega
                  case rel => exact ⟨i + 1, b, rfl, (by first | rfl | (rw [hwi]) | (simp [hwi]; done) | (simp; done)), ⟨by have := HK.out; omega⟩, ⟨by rw [HN2.out, if_neg (by have := C6.out; have := C4.out; have := HBN.out; omega)]⟩, ⟨pw_below_drewN HB1.out _⟩⟩
              · have d5 : (x.f2 == y.f2) = false := beq_eq_false_iff_ne.mpr c5
                have C5 := Aside0.mk c5
                clear c5
                go_wp2
                go_quiet (fail)
                go_wp2
                go_roundg d
                case measure => omega
                case rel => exact ⟨i + 1, b, rfl, (by first | rfl | (rw [hwi]) | (simp [hwi]; done) | (simp; done)), ⟨by have := HK.out; omega⟩, ⟨by rw [HN2.out, if_neg (by have := C5.out; have := C4.out; have := HBN.out; omega)]⟩, ⟨pw_below_drewN HB1.out _⟩⟩
end Go.Proofs.Ytbngmblgkkdhpaa.Q
