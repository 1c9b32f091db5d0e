/- Least and Longest answer as the reference does, with all errors: for all batteries, suns, loads, uses, names and moments. -/
-- Made by wip/tools/claimp.py of this session's texts; Lean checks it.
import Derived.Test.YtplcdpiggpkppaaC8PowU
import Derived.Test.YtplcdpiggpkppaaC8StPowerLeastMatchesSpec
set_option linter.unusedVariables false
set_option linter.unusedSimpArgs false
namespace Go.Proofs.Ytplcdpiggpkppaa.Q
open Go.RowKit Go.Proofs.YtplcdpiggpkppaaW.PrintWords Go.Proofs.YtplcdpiggpkppaaW.PrintLast Go.Proofs.YtplcdpiggpkppaaW.PrintMore Go.Proofs.Ytplcdpiggpkppaa.Base
theorem PowerLeastMatchesSpec_pure : perigeelaw9_PowerLeastMatchesSpec.Pure := by
  intro c s l u n nm f _ _ _ _ _ _ _
  obtain ⟨r, lv, sn, bs, fl⟩ := c
  refine Ev.rounds ?_
  simp only [perigeelaw9_PowerLeastMatchesSpec.f]
  obtain ⟨m, ok, h1, h2⟩ := leasts r lv sn bs fl s l u n
  refine Ev.bind h1 ?_
  refine Ev.bind h2 ?_
  simp only [if_true, bne_self_eq_false]
  refine Ev.step (fun k => perigeelaw9_PowerLeastMatchesSpec.j0.eq_2 ..) ?_
  simp only [if_neg Bool.false_ne_true]
  obtain ⟨V, h3, h4⟩ := longests r lv sn bs fl s l u nm f n
  refine Ev.bind h3 ?_
  refine Ev.bind h4 ?_
  simp only [if_true]
  refine Ev.bind awake_ev ?_
  exact Ev.now _
end Go.Proofs.Ytplcdpiggpkppaa.Q
namespace Go.Proofs.Ytplcdpiggpkppaa.Pure
theorem PowerLeastMatchesSpec : Q.perigeelaw9_PowerLeastMatchesSpec.Pure := Q.PowerLeastMatchesSpec_pure
end Go.Proofs.Ytplcdpiggpkppaa.Pure
