/- Passes are read as they were written, and the text of what was read is the text: for all passes and all texts. -/
-- Made by wip/tools/claimp.py of this session's texts; Lean checks it.
import Derived.Test.YtbngmblgkkdhpaaDoorC2ComeB
import Derived.Test.YtbngmblgkkdhpaaDoorC2StPassesTextsComeBack
set_option linter.unusedVariables false
set_option linter.unusedSimpArgs false
namespace Go.Proofs.YtbngmblgkkdhpaaDoor.Q
open Go.RowKit Go.Proofs.YtbngmblgkkdhpaaDoorW.PrintWords Go.Proofs.YtbngmblgkkdhpaaDoorW.PrintLast Go.Proofs.YtbngmblgkkdhpaaDoorW.PrintMore Go.Proofs.YtbngmblgkkdhpaaDoor.Base
theorem come_j0 (x : ByteArray) : Ev (fun k => perigeelaw10_PassesTextsComeBack.j0 k x) true := by
  refine Ev.step (fun k => perigeelaw10_PassesTextsComeBack.j0.eq_2 ..) ?_
  obtain ⟨v, h1, h2⟩ := read_any x
  refine Ev.bind h1 ?_
  rcases h2 with ⟨h2, h3⟩ | ⟨h2, h3, h4, h5, h6⟩
  · simp only [if_neg h2, h3, List.length_nil, show ((0 : Nat) : Int) = 0 from rfl, if_true]
    exact Ev.bind perigeelaw10_awake_ev (Ev.now _)
  · simp only [if_pos h2]
    refine Ev.bind (contact_Text_ev v.1) ?_
    have hl : ¬ (textP v.1).length > 200000 := by rw [h5, bytes_len]; omega
    unfold textV
    simp only [if_pos h4, if_neg hl, if_true]
    simp only [if_pos (show (⟨(textP v.1).toArray⟩ : ByteArray).toList = x.toList from by rw [toList_data, toList_data]; exact h5)]
    exact Ev.bind perigeelaw10_awake_ev (Ev.now _)
theorem PassesTextsComeBack_pure : perigeelaw10_PassesTextsComeBack.Pure := by
  intro l x _ _
  refine Ev.rounds ?_
  unfold perigeelaw10_PassesTextsComeBack.f
  refine Ev.bind (contact_Text_ev l) ?_
  unfold textV
  by_cases h : checkV l = 0
  · simp only [if_pos h]
    by_cases hz : (textP l).length > 200000
    · simp only [if_pos hz, if_neg (show ¬ (2 : Int) = 0 by decide)]
      exact come_j0 x
    · simp only [if_neg hz, if_true]
      refine Ev.bind (read_back h (by omega)) ?_
      simp only [if_true]
      refine Ev.bind (same_ev h) ?_
      simp only [if_true]
      exact come_j0 x
  · simp only [if_neg h]
    exact come_j0 x
end Go.Proofs.YtbngmblgkkdhpaaDoor.Q
namespace Go.Proofs.YtbngmblgkkdhpaaDoor.Pure
theorem PassesTextsComeBack : Q.perigeelaw10_PassesTextsComeBack.Pure := Q.PassesTextsComeBack_pure
end Go.Proofs.YtbngmblgkkdhpaaDoor.Pure
