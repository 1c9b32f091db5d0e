/- Loads and uses are read as the reference reads them, with all errors and their lines: for every string. -/
-- Made by wip/tools/claimp.py of this session's texts; Lean checks it.
import Derived.Test.YtplcdpiggpkppaaDoorC1ReadL
import Derived.Test.YtplcdpiggpkppaaDoorC1PowC
import Derived.Test.YtplcdpiggpkppaaDoorC1StPowerReadsMatchSpec
set_option linter.unusedVariables false
set_option linter.unusedSimpArgs false
namespace Go.Proofs.YtplcdpiggpkppaaDoor.Q
open Go.RowKit Go.Proofs.YtplcdpiggpkppaaDoorW.PrintWords Go.Proofs.YtplcdpiggpkppaaDoorW.PrintLast Go.Proofs.YtplcdpiggpkppaaDoorW.PrintMore Go.Proofs.YtplcdpiggpkppaaDoor.Base
theorem PowerReadsMatchSpec_pure : perigeelaw9_PowerReadsMatchSpec.Pure := by
  intro x _
  obtain ⟨v, h1, h2, h3, h4⟩ := read_both x
  refine Ev.rounds ?_
  unfold perigeelaw9_PowerReadsMatchSpec.f
  refine Ev.bind h1 ?_
  refine Ev.bind h2 ?_
  simp only [if_true]
  refine Ev.bind (api_Load_ev _ h3) ?_
  simp only [if_true]
  refine Ev.bind (api_Use_ev _ h4) ?_
  simp only [if_true]
  exact Ev.bind awake_ev (Ev.now _)
end Go.Proofs.YtplcdpiggpkppaaDoor.Q
namespace Go.Proofs.YtplcdpiggpkppaaDoor.Pure
theorem PowerReadsMatchSpec : Q.perigeelaw9_PowerReadsMatchSpec.Pure := Q.PowerReadsMatchSpec_pure
end Go.Proofs.YtplcdpiggpkppaaDoor.Pure
