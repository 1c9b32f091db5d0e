/- Plain laws of chapter 9: fewer and shorter uses leave more; the least level to begin with, as the program and the reference find it. -/
-- Made by wip/tools/claimp.py of this session's texts; Lean checks it.
import Derived.Test.YtplcdpiggpkppaaC8PowS
import Derived.Test.YtplcdpiggpkppaaC8Ge19
set_option linter.unusedVariables false
set_option linter.unusedSimpArgs false
namespace Go.Proofs.Ytplcdpiggpkppaa.Q
open Go.RowKit Go.Proofs.YtplcdpiggpkppaaW.PrintWords Go.Proofs.YtplcdpiggpkppaaW.PrintLast Go.Proofs.YtplcdpiggpkppaaW.PrintMore Go.Proofs.Ytplcdpiggpkppaa.Base
/-- The power of one use's load at a moment. -/
noncomputable def onU (l : List S76) (t : Int) (x : S47) : Int := if x.f1 ≤ t ∧ t < x.f2 then (loadV l x.f0).2.1 else 0
theorem sumTo_onV (l : List S76) (u : List S47) (t : Int) : ∀ n : Nat, n ≤ u.length → sumTo (onV l u t) n = ((u.take n).map (onU l t)).sum
  | 0, _ => rfl
  | n + 1, h => by
    have hn : n < u.length := by omega
    rw [List.take_add_one, List.getElem?_eq_getElem hn, List.map_append, List.sum_append, ← sumTo_onV l u t n (by omega)]
    show sumTo (onV l u t) n + onV l u t n = _
    have e : onV l u t n = onU l t u[n] := by
      unfold onV onU
      rw [rdU_get hn]
    rw [e]
    simp
theorem drawV_sum (l : List S76) (u : List S47) (t : Int) : drawV l u t = (u.map (onU l t)).sum := by
  have := sumTo_onV l u t u.length (Nat.le_refl _)
  rwa [List.take_of_length_le (Nat.le_refl _)] at this
/-- With less power drawn the level is never less. -/
theorem less_draw {r lv sn bs : Int} {s : List S72} {l : List S76} {v u : List S47} (hr : 0 ≤ r) (hd : ∀ t : Int, drawV l v t ≤ drawV l u t) (j : Nat) : lvV r lv sn bs s l u j ≤ lvV r lv sn bs s l v j := by
  have := lev_mono (room := r) (d := dV sn bs s l u) (e := dV sn bs s l v) (l0 := lv) (m0 := lv) hr (Int.le_refl _) (fun t => by
    rw [dV_eq, dV_eq]
    have := hd t
    omega) j
  exact this
theorem fits_less {r lv sn bs fl : Int} {s : List S72} {l : List S76} {v u : List S47} {n : Int} (hr : 0 ≤ r) (hd : ∀ t : Int, drawV l v t ≤ drawV l u t) (h : Fits r lv sn bs fl s l u n) : Fits r lv sn bs fl s l v n := fun j hj => by
  have := h j hj
  have := less_draw (r := r) (lv := lv) (sn := sn) (bs := bs) (s := s) hr hd j
  omega
/-- With so much at first the level is somewhere below the floor. -/
def Short (r sn bs fl : Int) (s : List S72) (l : List S76) (u : List S47) (n v : Int) : Prop := ∃ j : Nat, j ≤ n.toNat ∧ lvV r v sn bs s l u j < fl
theorem short_less {r sn bs fl : Int} {s : List S72} {l : List S76} {u : List S47} {n v w : Int} (hr : 0 ≤ r) (h : Short r sn bs fl s l u n v) (hw : w ≤ v) : Short r sn bs fl s l u n w := by
  obtain ⟨j, h1, h2⟩ := h
  have := lev_mono (room := r) (d := dV sn bs s l u) (e := dV sn bs s l u) hr hw (fun _ => Int.le_refl _) j
  exact ⟨j, h1, by show lev r (dV sn bs s l u) w j < fl; have h2' : lev r (dV sn bs s l u) v j < fl := h2; omega⟩
theorem first_short {r sn bs fl : Int} {s : List S72} {l : List S76} {u : List S47} {n v : Int} {o : Option Nat} (h : IsFirst (lvV r v sn bs s l u) n.toNat fl o) : (o = none ↔ ¬ Short r sn bs fl s l u n v) := by
  cases o with
  | none => exact ⟨fun _ ⟨j, h1, h2⟩ => by have := h j h1; omega, fun _ => rfl⟩
  | some k => exact ⟨fun e => (by cases e), fun q => absurd ⟨k, h.1, h.2.1⟩ q⟩
/-- What is told of the least level. -/
def IsLeast (r sn bs fl : Int) (s : List S72) (l : List S76) (u : List S47) (n m : Int) (ok : Bool) : Prop :=
  if ok = true then (0 ≤ m ∧ m ≤ r) ∧ ¬ Short r sn bs fl s l u n m ∧ ∀ v, 0 ≤ v → v < m → Short r sn bs fl s l u n v else m = 0 ∧ ∀ v, 0 ≤ v → v ≤ r → Short r sn bs fl s l u n v
theorem IsLeast.unique {r sn bs fl : Int} {s : List S72} {l : List S76} {u : List S47} {n m m' : Int} {ok ok' : Bool} (h : IsLeast r sn bs fl s l u n m ok) (h' : IsLeast r sn bs fl s l u n m' ok') : m = m' ∧ ok = ok' := by
  unfold IsLeast at h h'
  cases ok <;> cases ok' <;> simp only [if_true, if_neg Bool.false_ne_true] at h h'
  · exact ⟨by omega, rfl⟩
  · exact absurd (h.2 m' h'.1.1 h'.1.2) h'.2.1
  · exact absurd (h'.2 m h.1.1 h.1.2) h.2.1
  · refine ⟨?_, rfl⟩
    rcases Int.lt_trichotomy m m' with q | q | q
    · exact absurd (h'.2.2 m h.1.1 q) h.2.1
    · exact q
    · exact absurd (h.2.2 m' h'.1.1 q) h'.2.1
theorem least_loop {r lv sn bs fl : Int} {s : List S72} {l : List S76} {u : List S47} (h : Good r lv sn bs fl s l u) {n : Int} (hn : 0 ≤ n ∧ n ≤ 1000000000000) :
    ∀ (d : Nat) (lo hi x : Int), (hi - lo).toNat ≤ d → 0 ≤ lo → lo ≤ hi → hi ≤ r + 1 → (∀ v, 0 ≤ v → v < lo → Short r sn bs fl s l u n v) → (∀ v, hi ≤ v → v ≤ r → ¬ Short r sn bs fl s l u n v) →
      ∃ m ok, Ev (fun k => power_Least.l0 k s l u n lo hi r x sn bs fl) (m, ok, 0) ∧ IsLeast r sn bs fl s l u n m ok := by
  have hc := h.cell
  intro d
  induction d with
  | zero =>
    intro lo hi x hd h0 h1 h2 hlo hhi
    have e : lo = hi := by omega
    subst e
    by_cases q : lo > r
    · refine ⟨0, false, ?_, by unfold IsLeast; rw [if_neg Bool.false_ne_true]; exact ⟨rfl, fun v h3 h4 => hlo v h3 (by omega)⟩⟩
      refine Ev.step (fun k => power_Least.l0.eq_2 ..) ?_
      simp only [if_neg (show ¬ lo < lo by omega), if_pos q]
      exact Ev.now _
    · refine ⟨lo, true, ?_, by unfold IsLeast; rw [if_pos rfl]; exact ⟨by omega, hhi lo (Int.le_refl _) (by omega), hlo⟩⟩
      refine Ev.step (fun k => power_Least.l0.eq_2 ..) ?_
      simp only [if_neg (show ¬ lo < lo by omega), if_neg q]
      exact Ev.now _
  | succ d ih =>
    intro lo hi x hd h0 h1 h2 hlo hhi
    by_cases hlt : lo < hi
    · have hmid : wrap64 (Int.tdiv (wrap64 (lo + hi)) 2) = (lo + hi) / 2 := by
        rw [w64 (x := lo + hi) (by omega) (by omega), Int.tdiv_eq_ediv_of_nonneg (by omega)]
        exact w64 (by omega) (by omega)
      obtain ⟨mid, hme⟩ : ∃ mid, (lo + hi) / 2 = mid := ⟨_, rfl⟩
      have hmb : lo ≤ mid ∧ mid < hi := by omega
      have hg := h.level (v := mid) (by omega)
      obtain ⟨o, ho, hf⟩ := power_empty_ev hg hn
      have hs := first_short hf
      by_cases hq : o = none
      · have hns := hs.1 hq
        obtain ⟨m, ok, hr, hm⟩ := ih lo mid mid (by omega) h0 (by omega) (by omega) hlo (fun v hv1 hv2 q => hns (short_less (by omega) q hv1))
        refine ⟨m, ok, ?_, hm⟩
        refine Ev.step (fun k => power_Least.l0.eq_2 ..) ?_
        simp only [if_pos hlt, hmid, hme, if_neg (show ¬ mid > r by omega)]
        refine Ev.bind ho ?_
        simp only [if_pos (firstI_neg.2 hq)]
        exact hr
      · have hsh : Short r sn bs fl s l u n mid := Classical.byContradiction fun q => hq (hs.2 q)
        obtain ⟨m, ok, hr, hm⟩ := ih (mid + 1) hi mid (by omega) (by omega) (by omega) h2 (fun v hv1 hv2 => short_less (by omega) hsh (by omega)) hhi
        refine ⟨m, ok, ?_, hm⟩
        refine Ev.step (fun k => power_Least.l0.eq_2 ..) ?_
        simp only [if_pos hlt, hmid, hme, if_neg (show ¬ mid > r by omega), w64 (x := mid + 1) (by omega) (by omega)]
        refine Ev.bind ho ?_
        simp only [if_neg (fun q => hq (firstI_neg.1 q))]
        exact hr
    · exact ih lo hi x (by omega) h0 h1 h2 hlo hhi
theorem ref_least_loop {r lv sn bs fl : Int} {s : List S72} {l : List S76} {u : List S47} (h : Good r lv sn bs fl s l u) {n : Int} (hn : 0 ≤ n ∧ n ≤ 1000000000000) :
    ∀ (d : Nat) (lo hi x : Int), (hi - lo).toNat ≤ d → -1 ≤ lo → lo < hi → hi ≤ r + 1 → (∀ v, 0 ≤ v → v ≤ lo → Short r sn bs fl s l u n v) → (∀ v, hi ≤ v → v ≤ r → ¬ Short r sn bs fl s l u n v) →
      ∃ m ok, Ev (fun k => perigeeref9_Least.l0 k s l u n lo hi r x sn bs fl) (m, ok, 0) ∧ IsLeast r sn bs fl s l u n m ok := by
  have hc := h.cell
  intro d
  induction d with
  | zero => intro lo hi x hd h0 h1 h2 hlo hhi; omega
  | succ d ih =>
    intro lo hi x hd h0 h1 h2 hlo hhi
    by_cases hlt : hi - lo > 1
    · have hmid : wrap64 (Int.tdiv (wrap64 (lo + hi)) 2) = (lo + hi) / 2 := by
        rw [w64 (x := lo + hi) (by omega) (by omega), Int.tdiv_eq_ediv_of_nonneg (by omega)]
        exact w64 (by omega) (by omega)
      obtain ⟨mid, hme⟩ : ∃ mid, (lo + hi) / 2 = mid := ⟨_, rfl⟩
      have hmb : lo < mid ∧ mid < hi := by omega
      have hg := h.level (v := mid) (by omega)
      obtain ⟨o, ho, hf⟩ := ref_empty_ev hg hn
      have hs := first_short hf
      cases o with
      | none =>
        have hns := hs.1 rfl
        obtain ⟨m, ok, hr, hm⟩ := ih lo mid mid (by omega) h0 (by omega) (by omega) hlo (fun v hv1 hv2 q => hns (short_less (by omega) q hv1))
        refine ⟨m, ok, ?_, hm⟩
        refine Ev.step (fun k => perigeeref9_Least.l0.eq_2 ..) ?_
        simp only [w64 (x := hi - lo) (by omega) (by omega), if_pos hlt, hmid, hme]
        refine Ev.bind ho ?_
        simp only [firstP, if_neg Bool.false_ne_true]
        exact hr
      | some j =>
        have hsh : Short r sn bs fl s l u n mid := Classical.byContradiction fun q => by cases hs.2 q
        obtain ⟨m, ok, hr, hm⟩ := ih mid hi mid (by omega) (by omega) (by omega) h2 (fun v hv1 hv2 => short_less (by omega) hsh (by omega)) hhi
        refine ⟨m, ok, ?_, hm⟩
        refine Ev.step (fun k => perigeeref9_Least.l0.eq_2 ..) ?_
        simp only [w64 (x := hi - lo) (by omega) (by omega), if_pos hlt, hmid, hme]
        refine Ev.bind ho ?_
        simp only [firstP, if_true]
        exact hr
    · have e : hi = lo + 1 := by omega
      subst e
      by_cases q : lo + 1 > r
      · refine ⟨0, false, ?_, by unfold IsLeast; rw [if_neg Bool.false_ne_true]; exact ⟨rfl, fun v h3 h4 => hlo v h3 (by omega)⟩⟩
        refine Ev.step (fun k => perigeeref9_Least.l0.eq_2 ..) ?_
        simp only [w64 (x := lo + 1 - lo) (by omega) (by omega), if_neg hlt, if_pos q]
        exact Ev.now _
      · refine ⟨lo + 1, true, ?_, by unfold IsLeast; rw [if_pos rfl]; exact ⟨by omega, hhi (lo + 1) (Int.le_refl _) (by omega), fun v h3 h4 => hlo v h3 (by omega)⟩⟩
        refine Ev.step (fun k => perigeeref9_Least.l0.eq_2 ..) ?_
        simp only [w64 (x := lo + 1 - lo) (by omega) (by omega), if_neg hlt, if_neg q]
        exact Ev.now _
theorem leasts (r lv sn bs fl : Int) (s : List S72) (l : List S76) (u : List S47) (n : Int) : ∃ m ok, Ev (fun k => power_Least.f k r lv sn bs fl s l u n) (m, ok, checkF r lv sn bs fl s l u n) ∧ Ev (fun k => perigeeref9_Least.f k r lv sn bs fl s l u n) (m, ok, checkF r lv sn bs fl s l u n) := by
  by_cases h0 : checkF r lv sn bs fl s l u n = 0
  · obtain ⟨h, hn⟩ := checkF_good h0
    have hc := h.cell
    obtain ⟨m, ok, hr, hm⟩ := least_loop h hn (r + 1).toNat 0 (r + 1) lv (by omega) (Int.le_refl _) (by omega) (Int.le_refl _) (fun v h1 h2 => by omega) (fun v h1 h2 => by omega)
    obtain ⟨m', ok', hr', hm'⟩ := ref_least_loop h hn (r + 2).toNat (-1) (r + 1) lv (by omega) (Int.le_refl _) (by omega) (Int.le_refl _) (fun v h1 h2 => by omega) (fun v h1 h2 => by omega)
    obtain ⟨rfl, rfl⟩ := hm.unique hm'
    refine ⟨m, ok, ?_, ?_⟩
    · simp only [power_Least.f]
      refine Ev.bind (power_check_ev r lv sn bs fl s l u n) ?_
      simp only [if_pos h0, w64 (x := r + 1) (by omega) (by omega)]
      rw [h0]
      exact hr
    · simp only [perigeeref9_Least.f]
      refine Ev.bind (ref_ask_ev r lv sn bs fl s l u n) ?_
      simp only [if_pos h0, w64 (x := r + 1) (by omega) (by omega)]
      rw [h0]
      exact hr'
  · refine ⟨0, false, ?_, ?_⟩
    · simp only [power_Least.f]
      refine Ev.bind (power_check_ev r lv sn bs fl s l u n) ?_
      simp only [if_neg h0]
      exact Ev.now _
    · simp only [perigeeref9_Least.f]
      refine Ev.bind (ref_ask_ev r lv sn bs fl s l u n) ?_
      simp only [if_neg h0]
      exact Ev.now _
end Go.Proofs.Ytplcdpiggpkppaa.Q
