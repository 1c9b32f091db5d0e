/- The text of loads and uses is as the reference writes it, with all errors, and it is read as them: for all loads and uses. -/
-- Made by wip/tools/claimp.py of this session's texts; Lean checks it.
import Derived.Test.YtplcdpiggpkppaaDoorC2TextB
import Derived.Test.YtplcdpiggpkppaaDoorC2PowC
import Derived.Test.YtplcdpiggpkppaaDoorC2StPowerTextsMatchSpec
set_option linter.unusedVariables false
set_option linter.unusedSimpArgs false
namespace Go.Proofs.YtplcdpiggpkppaaDoor.Q
open Go.RowKit Go.Proofs.YtplcdpiggpkppaaDoorW.PrintWords Go.Proofs.YtplcdpiggpkppaaDoorW.PrintLast Go.Proofs.YtplcdpiggpkppaaDoorW.PrintMore Go.Proofs.YtplcdpiggpkppaaDoor.Base
theorem PowerTextsMatchSpec_pure : perigeelaw9_PowerTextsMatchSpec.Pure := by
  intro l u _ _
  refine Ev.rounds ?_
  unfold perigeelaw9_PowerTextsMatchSpec.f
  refine Ev.bind (power_Text_ev l u) ?_
  refine Ev.bind (ref_Text_ev l u) ?_
  simp only [if_true]
  refine Ev.bind awake_ev ?_
  refine Ev.step (fun k => perigeelaw9_PowerTextsMatchSpec.j0.eq_2 ..) ?_
  simp only [Bool.not_true, if_neg (show ¬ (false = true) by decide)]
  unfold textV
  by_cases h : usesV l u = 0
  · simp only [if_pos h]
    by_cases hz : (textL l ++ textU u).length > 50000
    · simp only [if_pos hz, if_neg (show ¬ (2 : Int) = 0 by decide)]
      exact Ev.now _
    · simp only [if_neg hz, if_true]
      have hf := fit_of h
      refine Ev.bind (read_back h (by omega)) ?_
      simp only [if_true]
      refine Ev.bind (api_Load_ev l (by have := hf.few; omega)) ?_
      simp only [if_true]
      exact Ev.bind (api_Use_ev u (by have := hf.fewU; omega)) (Ev.now _)
  · simp only [if_neg h]
    exact Ev.now _
end Go.Proofs.YtplcdpiggpkppaaDoor.Q
namespace Go.Proofs.YtplcdpiggpkppaaDoor.Pure
theorem PowerTextsMatchSpec : Q.perigeelaw9_PowerTextsMatchSpec.Pure := Q.PowerTextsMatchSpec_pure
end Go.Proofs.YtplcdpiggpkppaaDoor.Pure
