/- LevelAt, Lowest and Empty answer as the reference does, with all errors: for all batteries, suns, loads, uses and moments. -/
-- Made by wip/tools/claimp.py of this session's texts; Lean checks it.
import Derived.Test.YtplcdpiggpkppaaC6PowK
import Derived.Test.YtplcdpiggpkppaaC6PowM
import Derived.Test.YtplcdpiggpkppaaC6StPowerLevelsMatchSpec
set_option linter.unusedVariables false
set_option linter.unusedSimpArgs false
namespace Go.Proofs.Ytplcdpiggpkppaa.Q
open Go.RowKit Go.Proofs.YtplcdpiggpkppaaW.PrintWords Go.Proofs.YtplcdpiggpkppaaW.PrintLast Go.Proofs.YtplcdpiggpkppaaW.PrintMore Go.Proofs.Ytplcdpiggpkppaa.Base
theorem PowerLevelsMatchSpec_pure : perigeelaw9_PowerLevelsMatchSpec.Pure := by
  intro c s l u n _ _ _ _ _
  obtain ⟨r, lv, sn, bs, fl⟩ := c
  refine Ev.rounds ?_
  simp only [perigeelaw9_PowerLevelsMatchSpec.f]
  refine Ev.bind (power_LevelAt_ev r lv sn bs fl s l u n) ?_
  refine Ev.bind (ref_LevelAt_ev r lv sn bs fl s l u n) ?_
  simp only [if_true, bne_self_eq_false]
  refine Ev.step (fun k => perigeelaw9_PowerLevelsMatchSpec.j0.eq_2 ..) ?_
  simp only [if_neg Bool.false_ne_true]
  obtain ⟨m, w, h1, h2⟩ := power_Lowest_ev r lv sn bs fl s l u n
  obtain ⟨m', w', h3, h4⟩ := ref_Lowest_ev r lv sn bs fl s l u n
  have e : m = m' ∧ w = w' := by
    by_cases h0 : checkF r lv sn bs fl s l u n = 0
    · rw [if_pos h0] at h2 h4
      have k := h2.2.unique h4.2
      exact ⟨k.1, by omega⟩
    · rw [if_neg h0] at h2 h4
      omega
  obtain ⟨rfl, rfl⟩ := e
  refine Ev.bind h1 ?_
  refine Ev.bind h3 ?_
  simp only [if_true, bne_self_eq_false]
  refine Ev.step (fun k => perigeelaw9_PowerLevelsMatchSpec.j1.eq_2 ..) ?_
  simp only [if_neg Bool.false_ne_true]
  by_cases h0 : checkF r lv sn bs fl s l u n = 0
  · obtain ⟨h, hn⟩ := checkF_good h0
    obtain ⟨o, e1, e2, _⟩ := empties h hn
    have E1 : Ev (fun k => power_Empty.f k r lv sn bs fl s l u n) ((firstP o).1, (firstP o).2, 0) := by
      simp only [power_Empty.f]
      refine Ev.bind (power_check_ev r lv sn bs fl s l u n) ?_
      simp only [if_pos h0]
      refine Ev.bind e1 ?_
      refine Ev.is ?_
      rw [← firstP_eq]
    have E2 : Ev (fun k => perigeeref9_Empty.f k r lv sn bs fl s l u n) ((firstP o).1, (firstP o).2, 0) := by
      simp only [perigeeref9_Empty.f]
      refine Ev.bind (ref_ask_ev r lv sn bs fl s l u n) ?_
      simp only [if_pos h0]
      refine Ev.bind e2 ?_
      exact Ev.now _
    refine Ev.bind E1 ?_
    refine Ev.bind E2 ?_
    simp only [if_true, beq_self_eq_true]
    refine Ev.bind awake_ev ?_
    exact Ev.now _
  · have E1 : Ev (fun k => power_Empty.f k r lv sn bs fl s l u n) (0, false, checkF r lv sn bs fl s l u n) := by
      simp only [power_Empty.f]
      refine Ev.bind (power_check_ev r lv sn bs fl s l u n) ?_
      simp only [if_neg h0]
      exact Ev.now _
    have E2 : Ev (fun k => perigeeref9_Empty.f k r lv sn bs fl s l u n) (0, false, checkF r lv sn bs fl s l u n) := by
      simp only [perigeeref9_Empty.f]
      refine Ev.bind (ref_ask_ev r lv sn bs fl s l u n) ?_
      simp only [if_neg h0]
      exact Ev.now _
    refine Ev.bind E1 ?_
    refine Ev.bind E2 ?_
    simp only [if_true, beq_self_eq_true]
    refine Ev.bind awake_ev ?_
    exact Ev.now _
end Go.Proofs.Ytplcdpiggpkppaa.Q
namespace Go.Proofs.Ytplcdpiggpkppaa.Pure
theorem PowerLevelsMatchSpec : Q.perigeelaw9_PowerLevelsMatchSpec.Pure := Q.PowerLevelsMatchSpec_pure
end Go.Proofs.Ytplcdpiggpkppaa.Pure
