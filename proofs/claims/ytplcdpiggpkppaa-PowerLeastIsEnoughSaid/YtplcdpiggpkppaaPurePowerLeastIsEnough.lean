/- With the least level at the beginning the level is never below the floor, and with one less it is: for all batteries, suns, loads, uses and moments. -/
import Derived.Test.YtplcdpiggpkppaaPowG
import Derived.Test.YtplcdpiggpkppaaStPowerLeastIsEnough
-- LET P = perigee/api.Span
-- LET L = perigee/api.Load
-- LET U = perigee/api.Use
set_option linter.unusedVariables false
set_option linter.unusedSimpArgs false
namespace Go.Proofs.Ytplcdpiggpkppaa.Q
open Go.RowKit Go.Proofs.YtplcdpiggpkppaaW.PrintWords Go.Proofs.YtplcdpiggpkppaaW.PrintLast Go.Proofs.YtplcdpiggpkppaaW.PrintMore Go.Proofs.Ytplcdpiggpkppaa.Base

/-- With so much at first the level is somewhere below the floor. -/
def Short (r sn bs fl : Int) (s : List S72) (l : List S76) (u : List S47) (n v : Int) : Prop := ∃ j : Nat, j ≤ n.toNat ∧ lvV r v sn bs s l u j < fl
theorem short_less {r sn bs fl : Int} {s : List S72} {l : List S76} {u : List S47} {n v w : Int} (hr : 0 ≤ r) (h : Short r sn bs fl s l u n v) (hw : w ≤ v) : Short r sn bs fl s l u n w := by
  obtain ⟨j, h1, h2⟩ := h
  have := lev_mono (room := r) (d := dV sn bs s l u) (e := dV sn bs s l u) hr hw (fun _ => Int.le_refl _) j
  exact ⟨j, h1, by show lev r (dV sn bs s l u) w j < fl; have h2' : lev r (dV sn bs s l u) v j < fl := h2; omega⟩
theorem first_short {r sn bs fl : Int} {s : List S72} {l : List S76} {u : List S47} {n v : Int} {o : Option Nat} (h : IsFirst (lvV r v sn bs s l u) n.toNat fl o) : (o = none ↔ ¬ Short r sn bs fl s l u n v) := by
  cases o with
  | none => exact ⟨fun _ ⟨j, h1, h2⟩ => by have := h j h1; omega, fun _ => rfl⟩
  | some k => exact ⟨fun e => (by cases e), fun q => absurd ⟨k, h.1, h.2.1⟩ q⟩
theorem least_loop {r lv sn bs fl : Int} {s : List S72} {l : List S76} {u : List S47} (h : Good r lv sn bs fl s l u) {n : Int} (hn : 0 ≤ n ∧ n ≤ 1000000000000) :
    ∀ (d : Nat) (lo hi x : Int), (hi - lo).toNat ≤ d → 0 ≤ lo → lo ≤ hi → hi ≤ r + 1 → (∀ v, 0 ≤ v → v < lo → Short r sn bs fl s l u n v) → (∀ v, hi ≤ v → v ≤ r → ¬ Short r sn bs fl s l u n v) →
      ∃ m ok, Ev (fun k => power_Least.l0 k s l u n lo hi r x sn bs fl) (m, ok, 0) ∧ (if ok = true then (0 ≤ m ∧ m ≤ r) ∧ ¬ Short r sn bs fl s l u n m ∧ ∀ v, 0 ≤ v → v < m → Short r sn bs fl s l u n v else m = 0) := by
  have hc := h.cell
  intro d
  induction d with
  | zero =>
    intro lo hi x hd h0 h1 h2 hlo hhi
    have e : lo = hi := by omega
    subst e
    by_cases q : lo > r
    · refine ⟨0, false, ?_, by simp⟩
      refine Ev.step (fun k => power_Least.l0.eq_2 ..) ?_
      simp only [if_neg (show ¬ lo < lo by omega), if_pos q]
      exact Ev.now _
    · refine ⟨lo, true, ?_, by rw [if_pos rfl]; exact ⟨by omega, hhi lo (Int.le_refl _) (by omega), hlo⟩⟩
      refine Ev.step (fun k => power_Least.l0.eq_2 ..) ?_
      simp only [if_neg (show ¬ lo < lo by omega), if_neg q]
      exact Ev.now _
  | succ d ih =>
    intro lo hi x hd h0 h1 h2 hlo hhi
    by_cases hlt : lo < hi
    · have hmid : wrap64 (Int.tdiv (wrap64 (lo + hi)) 2) = (lo + hi) / 2 := by
        rw [w64 (x := lo + hi) (by omega) (by omega), Int.tdiv_eq_ediv_of_nonneg (by omega)]
        exact w64 (by omega) (by omega)
      obtain ⟨mid, hme⟩ : ∃ mid, (lo + hi) / 2 = mid := ⟨_, rfl⟩
      have hmb : lo ≤ mid ∧ mid < hi := by omega
      have hg := h.level (v := mid) (by omega)
      obtain ⟨o, ho, hf⟩ := power_empty_ev hg hn
      have hs := first_short hf
      by_cases hq : o = none
      · have hns := hs.1 hq
        obtain ⟨m, ok, hr, hm⟩ := ih lo mid mid (by omega) h0 (by omega) (by omega) hlo (fun v hv1 hv2 q => hns (short_less (by omega) q hv1))
        refine ⟨m, ok, ?_, hm⟩
        refine Ev.step (fun k => power_Least.l0.eq_2 ..) ?_
        simp only [if_pos hlt, hmid, hme, if_neg (show ¬ mid > r by omega)]
        refine Ev.bind ho ?_
        simp only [if_pos (firstI_neg.2 hq)]
        exact hr
      · have hsh : Short r sn bs fl s l u n mid := Classical.byContradiction fun q => hq (hs.2 q)
        obtain ⟨m, ok, hr, hm⟩ := ih (mid + 1) hi mid (by omega) (by omega) (by omega) h2 (fun v hv1 hv2 => short_less (by omega) hsh (by omega)) hhi
        refine ⟨m, ok, ?_, hm⟩
        refine Ev.step (fun k => power_Least.l0.eq_2 ..) ?_
        simp only [if_pos hlt, hmid, hme, if_neg (show ¬ mid > r by omega), w64 (x := mid + 1) (by omega) (by omega)]
        refine Ev.bind ho ?_
        simp only [if_neg (fun q => hq (firstI_neg.1 q))]
        exact hr
    · exact ih lo hi x (by omega) h0 h1 h2 hlo hhi
theorem PowerLeastIsEnough_pure : perigeelaw9_PowerLeastIsEnough.Pure := by
  intro c s l u n _ _ _ _ _
  obtain ⟨r, lv, sn, bs, fl⟩ := c
  refine Ev.rounds ?_
  simp only [perigeelaw9_PowerLeastIsEnough.f]
  have aw : Ev (fun k => (perigeelaw9_awake.f k).bind fun t => some t) true := Ev.bind (f := fun _ t => some t) awake_ev (Ev.now true)
  have zero : Ev (fun k => perigeelaw9_PowerLeastIsEnough.j0 k s l u n 0 true r lv sn bs fl) true := by
    refine Ev.step (fun k => perigeelaw9_PowerLeastIsEnough.j0.eq_2 ..) ?_
    simp only [if_true]
    exact aw
  by_cases h0 : checkF r lv sn bs fl s l u n = 0
  · obtain ⟨h, hn⟩ := checkF_zero.1 h0
    have hc := h.cell
    obtain ⟨m, ok, hr, hm⟩ := least_loop h hn (r + 1).toNat 0 (r + 1) lv (by omega) (Int.le_refl _) (by omega) (Int.le_refl _) (fun v h1 h2 => by omega) (fun v h1 h2 => by omega)
    have hev : Ev (fun k => power_Least.f k r lv sn bs fl s l u n) (m, ok, 0) := by
      simp only [power_Least.f]
      refine Ev.bind (power_check_ev r lv sn bs fl s l u n) ?_
      simp only [if_pos h0, w64 (x := r + 1) (by omega) (by omega)]
      exact hr
    refine Ev.bind hev ?_
    simp only [if_true]
    cases ok with
    | false =>
      have e : m = 0 := by simpa using hm
      subst e
      exact zero
    | true =>
      rw [if_pos rfl] at hm
      obtain ⟨hmb, hns, hall⟩ := hm
      have h1 : checkF r m sn bs fl s l u n = 0 := checkF_zero.2 ⟨h.level hmb, hn⟩
      refine Ev.step (fun k => perigeelaw9_PowerLeastIsEnough.j0.eq_2 ..) ?_
      simp only [Bool.not_true, if_neg Bool.false_ne_true]
      obtain ⟨o, ho, hf⟩ := power_Empty_ev h1
      have hon : o = none := (first_short hf).2 hns
      subst hon
      refine Ev.bind ho ?_
      have e1 : decide (firstI none ≥ 0) = false := rfl
      simp only [if_true, e1]
      refine Ev.step (fun k => perigeelaw9_PowerLeastIsEnough.j1.eq_2 ..) ?_
      simp only [if_neg Bool.false_ne_true]
      refine Ev.ite (fun _ => aw) (fun hm0 => ?_)
      have hw : wrap64 (m - 1) = m - 1 := w64 (by omega) (by omega)
      have h2 : checkF r (m - 1) sn bs fl s l u n = 0 := checkF_zero.2 ⟨h.level (by omega), hn⟩
      obtain ⟨o2, ho2, hf2⟩ := power_Empty_ev h2
      have hsh := hall (m - 1) (by omega) (by omega)
      have hos : o2 ≠ none := fun q => (first_short hf2).1 q hsh
      rw [hw]
      refine Ev.bind ho2 ?_
      have e2 : decide (firstI o2 ≥ 0) = true := by
        cases o2 with
        | none => exact absurd rfl hos
        | some k => exact decide_eq_true (by show (0 : Int) ≤ ((k : Nat) : Int); omega)
      simp only [if_true, e2]
      exact aw
  · have hev : Ev (fun k => power_Least.f k r lv sn bs fl s l u n) (0, false, checkF r lv sn bs fl s l u n) := by
      simp only [power_Least.f]
      refine Ev.bind (power_check_ev r lv sn bs fl s l u n) ?_
      simp only [if_neg h0]
      exact Ev.now _
    refine Ev.bind hev ?_
    simp only [if_neg h0]
    exact zero
end Go.Proofs.Ytplcdpiggpkppaa.Q
namespace Go.Proofs.Ytplcdpiggpkppaa.Pure
theorem PowerLeastIsEnough : Q.perigeelaw9_PowerLeastIsEnough.Pure := Q.PowerLeastIsEnough_pure
end Go.Proofs.Ytplcdpiggpkppaa.Pure
