/- Together answers as the reference does, with all errors: for all loads, uses and bars. -/
-- Made by wip/tools/claimp.py of this session's texts; Lean checks it.
import Derived.Test.YtplcdpiggpkppaaC11PowX
import Derived.Test.YtplcdpiggpkppaaC11StPowerTogetherMatchesSpec
import Derived.Test.YtplcdpiggpkppaaC11Ge26
import Derived.Test.YtplcdpiggpkppaaC11Ge28
import Derived.Test.YtplcdpiggpkppaaC11Ge25
set_option linter.unusedVariables false
set_option linter.unusedSimpArgs false
namespace Go.Proofs.Ytplcdpiggpkppaa.Q
open Go.RowKit Go.Proofs.YtplcdpiggpkppaaW.PrintWords Go.Proofs.YtplcdpiggpkppaaW.PrintLast Go.Proofs.YtplcdpiggpkppaaW.PrintMore Go.Proofs.Ytplcdpiggpkppaa.Base
noncomputable def nameBad (l : List S76) (bl : List ByteArray) (i : Nat) : Int := if (loadV l (rdOf ByteArray.empty bl (i : Int))).2.2.2 = false then 9 else if 0 < i ∧ ¬ Op.bytesLess (rdOf ByteArray.empty bl ((i : Int) - 1)).toList (rdOf ByteArray.empty bl (i : Int)).toList = true then 8 else 0
noncomputable def barV (l : List S76) (x : S100) : Int := if (x.f0.length : Int) > 50 then 2 else if scanV (nameBad l x.f0) x.f0.length 0 ≠ 0 then scanV (nameBad l x.f0) x.f0.length 0 else if 0 ≤ x.f1 ∧ x.f1 ≤ 50 then 0 else 1
theorem power_checkBar_ev {l : List S76} (hl : GoodLoads l) (x : S100) : Ev (fun k => power_checkBar.f k l x.f0 x.f1) (barV l x) := by
  simp only [power_checkBar.f]
  unfold barV
  refine Ev.ite (fun h => Ev.is (if_pos h).symm) (fun h => ?_)
  rw [if_neg h]
  refine Ev.loop (L := fun k i => power_checkBar.l0 k l x.f0 (x.f0.length : Int) (i : Int) x.f0 x.f1) (v := fun i => if scanV (nameBad l x.f0) x.f0.length i ≠ 0 then scanV (nameBad l x.f0) x.f0.length i else if 0 ≤ x.f1 ∧ x.f1 ≤ 50 then 0 else 1) x.f0.length ?_ ?_ x.f0.length 0 (by omega)
  · refine Ev.step (fun k => power_checkBar.l0.eq_2 ..) ?_
    simp only [if_neg (show ¬ (x.f0.length : Int) < x.f0.length by omega), kit_Range_eq, Option.bind_some]
    rw [scanV_ge (Nat.le_refl _), if_neg (show ¬ ((0 : Int) ≠ 0) by simp)]
    exact Ev.now _
  · intro i hi ih
    rw [scanV_lt hi]
    refine Ev.step (fun k => power_checkBar.l0.eq_2 ..) ?_
    simp only [if_pos (show (i : Int) < x.f0.length by omega), if_pos (show (0 : Int) ≤ i by omega), w64 (x := (i : Int) + 1) (by omega) (by omega), w64 (x := (i : Int) - 1) (by omega) (by omega)]
    refine Ev.bind (power_load_is hl _) ?_
    refine Ev.ite (fun h1 => ?_) (fun h1 => ?_)
    · refine Ev.ite (fun h2 => ?_) (fun h2 => ?_)
      · simp only [if_pos (show (0 : Int) ≤ (i : Int) - 1 by omega), if_pos (show (i : Int) - 1 < x.f0.length by omega)]
        refine Ev.ite (fun h3 => ?_) (fun h3 => ?_)
        · have e : nameBad l x.f0 i = 0 := by unfold nameBad; rw [if_neg (by simp [h1]), if_neg (fun q => q.2 h3)]
          rw [if_neg (show ¬ nameBad l x.f0 i ≠ 0 by simp [e])]
          exact ih
        · have e : nameBad l x.f0 i = 8 := by unfold nameBad; rw [if_neg (by simp [h1]), if_pos ⟨by omega, h3⟩]
          exact Ev.is (by rw [e]; rfl)
      · have e : nameBad l x.f0 i = 0 := by unfold nameBad; rw [if_neg (by simp [h1]), if_neg (fun q => h2 (by omega))]
        rw [if_neg (show ¬ nameBad l x.f0 i ≠ 0 by simp [e])]
        exact ih
    · have e : nameBad l x.f0 i = 9 := by unfold nameBad; rw [if_pos (by simpa using h1)]
      exact Ev.is (by rw [e]; rfl)
theorem ref_bar {l : List S76} {u : List S47} {bars : List S100} (hl : GoodLoads l) (x : S100) (hx : ¬ (x.f0.length : Int) > 50) (i : Int) (V : List S57 × Int) (hbad : barV l x ≠ 0 → V = ([], barV l x)) (hok : barV l x = 0 → Ev (fun k => perigeeref9_Together.l0 k l u bars bars (bars.length : Int) (wrap64 (i + 1))) V) :
    Ev (fun k => perigeeref9_Together.l1 k l u bars bars (bars.length : Int) i x.f0 (x.f0.length : Int) 0 x.f0 x.f1) V := by
  have hv : barV l x = if scanV (nameBad l x.f0) x.f0.length 0 ≠ 0 then scanV (nameBad l x.f0) x.f0.length 0 else if 0 ≤ x.f1 ∧ x.f1 ≤ 50 then 0 else 1 := if_neg hx
  refine Ev.loopP (L := fun k j => perigeeref9_Together.l1 k l u bars bars (bars.length : Int) i x.f0 (x.f0.length : Int) (j : Int) x.f0 x.f1) (v := fun _ => V) (P := fun j => scanV (nameBad l x.f0) x.f0.length 0 = scanV (nameBad l x.f0) x.f0.length j) x.f0.length ?_ ?_ x.f0.length 0 (by omega) rfl
  · intro hP
    rw [scanV_ge (Nat.le_refl _)] at hP
    rw [hP, if_neg (by simp)] at hv
    refine Ev.step (fun k => perigeeref9_Together.l1.eq_2 ..) ?_
    simp only [if_neg (show ¬ (x.f0.length : Int) < x.f0.length by omega), within_eq, Option.bind_some, decide_eq_true_eq]
    refine Ev.ite (fun h => ?_) (fun h => ?_)
    · rw [if_pos h] at hv; exact hok hv
    · rw [if_neg h] at hv
      exact Ev.is (by rw [hbad (by omega), hv])
  · intro j hj hP ih
    rw [scanV_lt hj] at hP
    have go : nameBad l x.f0 j = 0 → Ev (fun k => perigeeref9_Together.l1 k l u bars bars (bars.length : Int) i x.f0 (x.f0.length : Int) ((j : Int) + 1) x.f0 x.f1) V := fun e => by
      rw [if_neg (by simp [e])] at hP
      have := ih hP
      exact this
    have stop : nameBad l x.f0 j ≠ 0 → V = ([], nameBad l x.f0 j) := fun e => by
      rw [if_pos e] at hP
      rw [hP, if_pos e] at hv
      rw [hbad (by rw [hv]; exact e), hv]
    refine Ev.step (fun k => perigeeref9_Together.l1.eq_2 ..) ?_
    simp only [if_pos (show (j : Int) < x.f0.length by omega), if_pos (show (0 : Int) ≤ j by omega), w64 (x := (j : Int) + 1) (by omega) (by omega), w64 (x := (j : Int) - 1) (by omega) (by omega)]
    refine Ev.bind (loadOf_is hl _) ?_
    refine Ev.ite (fun h1 => ?_) (fun h1 => ?_)
    · refine Ev.ite (fun h2 => ?_) (fun h2 => ?_)
      · simp only [if_pos (show (0 : Int) ≤ (j : Int) - 1 by omega), if_pos (show (j : Int) - 1 < x.f0.length by omega)]
        refine Ev.ite (fun h3 => ?_) (fun h3 => ?_)
        · exact go (by unfold nameBad; rw [if_neg (by simp [h1]), if_neg (fun q => q.2 h3)])
        · have e : nameBad l x.f0 j = 8 := by unfold nameBad; rw [if_neg (by simp [h1]), if_pos ⟨by omega, h3⟩]
          exact Ev.is (by rw [stop (by omega), e])
      · exact go (by unfold nameBad; rw [if_neg (by simp [h1]), if_neg (fun q => h2 (by omega))])
    · have e : nameBad l x.f0 j = 9 := by unfold nameBad; rw [if_pos (by simpa using h1)]
      exact Ev.is (by rw [stop (by omega), e])
theorem equal_bads (l : List S57) (hl : (l.length : Int) ≤ 9000000000000000) : Ev (fun k => api_Bad.f k l l) true := by
  simp only [api_Bad.f, if_true]
  refine Ev.loop (L := fun k i => api_Bad.l0 k l l (l.length : Int) (i : Int)) (v := fun _ => true) l.length ?_ ?_ l.length 0 (by omega)
  · refine Ev.step (fun k => api_Bad.l0.eq_2 ..) ?_
    simp only [if_neg (show ¬ (l.length : Int) < l.length by omega)]
    exact Ev.now _
  · intro i hi ih
    refine Ev.step (fun k => api_Bad.l0.eq_2 ..) ?_
    simp only [if_pos (show (i : Int) < l.length by omega), if_pos (show (0 : Int) ≤ i by omega), w64 (x := (i : Int) + 1) (by omega) (by omega), beq_self_eq_true, Bool.not_true, Bool.or_self, if_neg Bool.false_ne_true]
    exact ih
/-- Bars, one behind the other. -/
theorem all_bars {l : List S76} {u : List S47} (h : GoodUses l u) {bars : List S100} (hn : bars.length ≤ 50) (hb : ∀ i : Nat, i < bars.length → barV l (rd_T100 bars (i : Int)) = 0) :
    ∀ d i : Nat, i + d = bars.length → ∀ out : List S57, out.length ≤ i * 2000 → ∃ V : List S57, V.length ≤ 100000 ∧ Ev (fun k => power_Together.l1 k u out bars (bars.length : Int) (i : Int)) (V, 0) ∧ Ev (fun k => perigeeref9_Together.l2 k u out bars (bars.length : Int) (i : Int)) (V, 0) := by
  intro d
  induction d with
  | zero =>
    intro i hi out ho
    refine ⟨out, by omega, ?_, ?_⟩
    · refine Ev.step (fun k => power_Together.l1.eq_2 ..) ?_
      simp only [if_neg (show ¬ (i : Int) < bars.length by omega)]
      exact Ev.now _
    · refine Ev.step (fun k => perigeeref9_Together.l2.eq_2 ..) ?_
      simp only [if_neg (show ¬ (i : Int) < bars.length by omega)]
      exact Ev.now _
  | succ d ih =>
    intro i hi out ho
    have hz := hb i (by omega)
    have hbar : ((rd_T100 bars (i : Int)).f0.length : Int) ≤ 50 ∧ 0 ≤ (rd_T100 bars (i : Int)).f1 := by
      unfold barV at hz
      split at hz
      · omega
      · split at hz
        · rename_i q; exact absurd hz q
        · split at hz
          · rename_i q1 q2 q3; omega
          · omega
    obtain ⟨W, hW, w1, w2⟩ := brokens h (bl := (rd_T100 bars (i : Int)).f0) (by omega) (i : Int) hbar.2
    obtain ⟨V, hV, v1, v2⟩ := ih (i + 1) (by omega) (out ++ W) (by rw [List.length_append]; omega)
    refine ⟨V, hV, ?_, ?_⟩
    · refine Ev.step (fun k => power_Together.l1.eq_2 ..) ?_
      simp only [if_pos (show (i : Int) < bars.length by omega), if_pos (show (0 : Int) ≤ i by omega), w64 (x := (i : Int) + 1) (by omega) (by omega)]
      refine Ev.bind w1 ?_
      simp only [if_pos (show out.length + W.length < 5864062014805 by omega)]
      exact v1
    · refine Ev.step (fun k => perigeeref9_Together.l2.eq_2 ..) ?_
      simp only [if_pos (show (i : Int) < bars.length by omega), if_pos (show (0 : Int) ≤ i by omega), w64 (x := (i : Int) + 1) (by omega) (by omega)]
      refine Ev.bind w2 ?_
      simp only [if_pos (show out.length + W.length < 5864062014805 by omega)]
      exact v2
theorem togethers (l : List S76) (u : List S47) (bars : List S100) : ∃ V : List S57 × Int, V.1.length ≤ 100000 ∧ Ev (fun k => power_Together.f k l u bars) V ∧ Ev (fun k => perigeeref9_Together.f k l u bars) V := by
  simp only [power_Together.f, perigeeref9_Together.f]
  by_cases h0 : usesV l u = 0
  · have h := usesV_zero h0
    by_cases h1 : (bars.length : Int) > 50
    · refine ⟨([], 2), Nat.zero_le _, ?_, ?_⟩
      · refine Ev.bind (power_CheckUses_ev l u) ?_
        simp only [if_pos h0, if_pos h1]
        exact Ev.now _
      · refine Ev.bind (perigeeref9_CheckUses_ev l u) ?_
        simp only [if_pos h0, if_pos h1]
        exact Ev.now _
    · have main : ∀ d i : Nat, i + d = bars.length → (∀ j : Nat, j < i → barV l (rd_T100 bars (j : Int)) = 0) → ∃ V : List S57 × Int, V.1.length ≤ 100000 ∧ Ev (fun k => power_Together.l0 k l u bars bars (bars.length : Int) (i : Int)) V ∧ Ev (fun k => perigeeref9_Together.l0 k l u bars bars (bars.length : Int) (i : Int)) V := by
        intro d
        induction d with
        | zero =>
          intro i hi hP
          obtain ⟨V, hV, v1, v2⟩ := all_bars h (bars := bars) (by omega) (fun j hj => hP j (by omega)) bars.length 0 (by omega) [] (Nat.zero_le _)
          refine ⟨(V, 0), hV, ?_, ?_⟩
          · refine Ev.step (fun k => power_Together.l0.eq_2 ..) ?_
            simp only [if_neg (show ¬ (i : Int) < bars.length by omega)]
            exact v1
          · refine Ev.step (fun k => perigeeref9_Together.l0.eq_2 ..) ?_
            simp only [if_neg (show ¬ (i : Int) < bars.length by omega)]
            exact v2
        | succ d ih =>
          intro i hi hP
          have hlt : i < bars.length := by omega
          by_cases hz : barV l (rd_T100 bars (i : Int)) = 0
          · obtain ⟨V, hV, v1, v2⟩ := ih (i + 1) (by omega) (fun j hj => by
              by_cases e : j = i
              · subst e; exact hz
              · exact hP j (by omega))
            refine ⟨V, hV, ?_, ?_⟩
            · refine Ev.step (fun k => power_Together.l0.eq_2 ..) ?_
              simp only [if_pos (show (i : Int) < bars.length by omega), if_pos (show (0 : Int) ≤ i by omega), w64 (x := (i : Int) + 1) (by omega) (by omega)]
              refine Ev.bind (power_checkBar_ev h.loads _) ?_
              simp only [if_pos hz]
              exact v1
            · refine Ev.step (fun k => perigeeref9_Together.l0.eq_2 ..) ?_
              have hx : ¬ ((rd_T100 bars (i : Int)).f0.length : Int) > 50 := fun q => by unfold barV at hz; rw [if_pos q] at hz; omega
              simp only [if_pos (show (i : Int) < bars.length by omega), if_pos (show (0 : Int) ≤ i by omega), if_neg hx]
              refine ref_bar h.loads _ hx _ V (fun q => absurd hz q) (fun _ => ?_)
              rw [w64 (x := (i : Int) + 1) (by omega) (by omega)]
              exact v2
          · refine ⟨([], barV l (rd_T100 bars (i : Int))), Nat.zero_le _, ?_, ?_⟩
            · refine Ev.step (fun k => power_Together.l0.eq_2 ..) ?_
              simp only [if_pos (show (i : Int) < bars.length by omega), if_pos (show (0 : Int) ≤ i by omega), w64 (x := (i : Int) + 1) (by omega) (by omega)]
              refine Ev.bind (power_checkBar_ev h.loads _) ?_
              simp only [if_neg hz]
              exact Ev.now _
            · refine Ev.step (fun k => perigeeref9_Together.l0.eq_2 ..) ?_
              simp only [if_pos (show (i : Int) < bars.length by omega), if_pos (show (0 : Int) ≤ i by omega)]
              refine Ev.ite (fun hx => ?_) (fun hx => ?_)
              · exact Ev.is (by unfold barV; rw [if_pos hx])
              · exact ref_bar h.loads _ hx _ _ (fun _ => rfl) (fun q => absurd q hz)
      obtain ⟨V, hV, v1, v2⟩ := main bars.length 0 (by omega) (fun j hj => by omega)
      refine ⟨V, hV, ?_, ?_⟩
      · refine Ev.bind (power_CheckUses_ev l u) ?_
        simp only [if_pos h0, if_neg h1]
        exact v1
      · refine Ev.bind (perigeeref9_CheckUses_ev l u) ?_
        simp only [if_pos h0, if_neg h1]
        exact v2
  · refine ⟨([], usesV l u), Nat.zero_le _, ?_, ?_⟩
    · refine Ev.bind (power_CheckUses_ev l u) ?_
      simp only [if_neg h0]
      exact Ev.now _
    · refine Ev.bind (perigeeref9_CheckUses_ev l u) ?_
      simp only [if_neg h0]
      exact Ev.now _
theorem PowerTogetherMatchesSpec_pure : perigeelaw9_PowerTogetherMatchesSpec.Pure := by
  intro l u bars _ _ _
  refine Ev.rounds ?_
  simp only [perigeelaw9_PowerTogetherMatchesSpec.f]
  obtain ⟨V, hV, v1, v2⟩ := togethers l u bars
  refine Ev.bind v1 ?_
  refine Ev.bind v2 ?_
  simp only [if_true]
  refine Ev.bind (equal_bads V.1 (by omega)) ?_
  simp only [if_true]
  refine Ev.bind awake_ev ?_
  exact Ev.now _
end Go.Proofs.Ytplcdpiggpkppaa.Q
namespace Go.Proofs.Ytplcdpiggpkppaa.Pure
theorem PowerTogetherMatchesSpec : Q.perigeelaw9_PowerTogetherMatchesSpec.Pure := Q.PowerTogetherMatchesSpec_pure
end Go.Proofs.Ytplcdpiggpkppaa.Pure
