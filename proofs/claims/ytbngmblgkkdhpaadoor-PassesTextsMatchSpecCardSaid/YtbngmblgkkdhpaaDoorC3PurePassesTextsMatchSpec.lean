/- The text of passes is as the reference writes it, and any text is read as the reference reads it, with all errors and their lines. -/
-- Made by wip/tools/claimp.py of this session's texts; Lean checks it.
import Derived.Test.YtbngmblgkkdhpaaDoorC3MatchB
import Derived.Test.YtbngmblgkkdhpaaDoorC3StPassesTextsMatchSpec
set_option linter.unusedVariables false
set_option linter.unusedSimpArgs false
namespace Go.Proofs.YtbngmblgkkdhpaaDoor.Q
open Go.RowKit Go.Proofs.YtbngmblgkkdhpaaDoorW.PrintWords Go.Proofs.YtbngmblgkkdhpaaDoorW.PrintLast Go.Proofs.YtbngmblgkkdhpaaDoorW.PrintMore Go.Proofs.YtbngmblgkkdhpaaDoor.Base
theorem PassesTextsMatchSpec_pure : perigeelaw10_PassesTextsMatchSpec.Pure := by
  intro l x hl _
  refine Ev.rounds ?_
  unfold perigeelaw10_PassesTextsMatchSpec.f
  refine Ev.bind (contact_Text_ev l) ?_
  refine Ev.bind (ref_Text_ev l (fun p hp => (hl.2 p hp).1)) ?_
  obtain ⟨v, h1, h2, h3⟩ := read_both x
  refine Ev.bind h1 ?_
  refine Ev.bind h2 ?_
  simp only [if_true]
  have hs : Ev (fun k => perigeeref10_SamePasses.f k v.1 v.1) true := by
    rcases h3 with h3 | h3
    · unfold perigeeref10_SamePasses.f
      simp only [if_true]
      exact same_l0 v.1 (by rw [h3]; exact Nat.zero_le _) (fun p hp => by rw [h3] at hp; cases hp) _ 0 (Nat.zero_add _)
    · exact same_ev h3
  refine Ev.bind hs ?_
  simp only [if_true]
  exact Ev.bind perigeelaw10_awake_ev (Ev.now _)
end Go.Proofs.YtbngmblgkkdhpaaDoor.Q
namespace Go.Proofs.YtbngmblgkkdhpaaDoor.Pure
theorem PassesTextsMatchSpec : Q.perigeelaw10_PassesTextsMatchSpec.Pure := Q.PassesTextsMatchSpec_pure
end Go.Proofs.YtbngmblgkkdhpaaDoor.Pure
