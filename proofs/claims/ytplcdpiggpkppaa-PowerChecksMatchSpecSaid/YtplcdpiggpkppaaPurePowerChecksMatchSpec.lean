/- CheckSun, CheckLoads, CheckCell, CheckUses, Sunny and Draw answer as the reference does, with all errors: for all batteries, suns, loads, uses and moments. -/
import Derived.Test.YtplcdpiggpkppaaPowC
import Derived.Test.YtplcdpiggpkppaaStPowerChecksMatchSpec
set_option linter.unusedVariables false
set_option linter.unusedSimpArgs false
namespace Go.Proofs.Ytplcdpiggpkppaa.Q
open Go.RowKit Go.Proofs.YtplcdpiggpkppaaW.PrintWords Go.Proofs.YtplcdpiggpkppaaW.PrintLast Go.Proofs.YtplcdpiggpkppaaW.PrintMore Go.Proofs.Ytplcdpiggpkppaa.Base

theorem PowerChecksMatchSpec_pure : perigeelaw9_PowerChecksMatchSpec.Pure := by
  intro c s l u a b _ _ _ _ _ _
  refine Ev.rounds ?_
  simp only [perigeelaw9_PowerChecksMatchSpec.f, power_CheckCell_eq, perigeeref9_CheckCell_eq, Option.bind_some]
  refine Ev.bind (power_CheckSun_ev s) ?_
  refine Ev.bind (perigeeref9_CheckSun_ev s) ?_
  simp only [if_true]
  refine Ev.bind (power_CheckLoads_ev l) ?_
  refine Ev.bind (perigeeref9_CheckLoads_ev l) ?_
  simp only [if_true]
  refine Ev.bind (power_CheckUses_ev l u) ?_
  refine Ev.bind (perigeeref9_CheckUses_ev l u) ?_
  refine Ev.step (fun k => perigeelaw9_PowerChecksMatchSpec.j0.eq_2 ..) ?_
  simp only [bne_self_eq_false, if_neg Bool.false_ne_true]
  refine Ev.bind (power_Sunny_ev s a b) ?_
  refine Ev.bind (perigeeref9_Sunny_ev s a b) ?_
  simp only [if_true]
  refine Ev.step (fun k => perigeelaw9_PowerChecksMatchSpec.j1.eq_2 ..) ?_
  simp only [bne_self_eq_false, if_neg Bool.false_ne_true]
  refine Ev.bind (power_Draw_ev l u a) ?_
  refine Ev.bind (perigeeref9_Draw_ev l u a) ?_
  simp only [if_true]
  refine Ev.bind awake_ev ?_
  exact Ev.now _
end Go.Proofs.Ytplcdpiggpkppaa.Q
namespace Go.Proofs.Ytplcdpiggpkppaa.Pure
theorem PowerChecksMatchSpec : Q.perigeelaw9_PowerChecksMatchSpec.Pure := Q.PowerChecksMatchSpec_pure
end Go.Proofs.Ytplcdpiggpkppaa.Pure
