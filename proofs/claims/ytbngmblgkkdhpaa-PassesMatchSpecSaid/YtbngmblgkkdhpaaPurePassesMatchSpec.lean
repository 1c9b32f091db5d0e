/- CheckPasses, Volume and Until answer as the reference does, with all errors: for every list of passes, every number of a pass, all moments and sizes. -/
import Derived.Test.YtbngmblgkkdhpaaPassU
import Derived.Test.YtbngmblgkkdhpaaStPassesMatchSpec
-- LET P = perigee/api.Pass
set_option linter.unusedVariables false
set_option linter.unusedSimpArgs false
namespace Go.Proofs.Ytbngmblgkkdhpaa.Q
open Go.RowKit Go.Proofs.YtbngmblgkkdhpaaW.PrintWords Go.Proofs.YtbngmblgkkdhpaaW.PrintLast Go.Proofs.YtbngmblgkkdhpaaW.PrintMore Go.Proofs.Ytbngmblgkkdhpaa.Base

theorem PassesMatchSpec_pure : perigeelaw10_PassesMatchSpec.Pure := by
  intro l k a b size hl _ _ _ _
  have hw : ∀ x ∈ l, x.f0.size ≤ 140737488351232 := fun x hx => (hl.2 x hx).1
  refine Ev.rounds ?_
  simp only [perigeelaw10_PassesMatchSpec.f]
  obtain ⟨r, h1, h2⟩ := contact_Until_ev l k a size
  obtain ⟨r', h3, h4⟩ := perigeeref10_Until_ev l k a size hw
  obtain rfl := h2.unique h4
  have aw := Ev.bind (f := fun _ t => some t) perigeelaw10_awake_ev (Ev.now true)
  refine Ev.bind (contact_Volume_ev l k a b) ?_
  refine Ev.bind (perigeeref10_Volume_ev l k a b hw) ?_
  refine Ev.bind h1 ?_
  refine Ev.bind h3 ?_
  refine Ev.bind (contact_CheckPasses_ev l) ?_
  refine Ev.bind (perigeeref10_CheckPasses_ev l hw) ?_
  simp only [if_true, beq_self_eq_true]
  exact aw
end Go.Proofs.Ytbngmblgkkdhpaa.Q
namespace Go.Proofs.Ytbngmblgkkdhpaa.Pure
theorem PassesMatchSpec : Q.perigeelaw10_PassesMatchSpec.Pure := Q.PassesMatchSpec_pure
end Go.Proofs.Ytbngmblgkkdhpaa.Pure
