/- Sending: Late and Backlog. -/
-- Made by wip/tools/claimp.py of this session's texts; Lean checks it.
import Derived.Test.YtbngmblgkkdhpaaC10SndJ
import Derived.Test.YtbngmblgkkdhpaaC10Gs9
import Derived.Test.YtbngmblgkkdhpaaC10Gs13
import Derived.Test.YtbngmblgkkdhpaaC10Gs1
import Derived.Test.YtbngmblgkkdhpaaC10Gs2
set_option linter.unusedVariables false
set_option linter.unusedSimpArgs false
namespace Go.Proofs.Ytbngmblgkkdhpaa.Q
open Go.RowKit Go.Proofs.YtbngmblgkkdhpaaW.PrintWords Go.Proofs.YtbngmblgkkdhpaaW.PrintLast Go.Proofs.YtbngmblgkkdhpaaW.PrintMore Go.Proofs.Ytbngmblgkkdhpaa.Base
section
variable {ps : List S33} {bk : List Int} {q : List S63} {u : Int}
theorem sending_ev (hb : bk.length ≤ 1152921504606846976) (hu : 0 ≤ u ∧ u ≤ 1000000000000) (hF : sendF ps bk q = 0) : ∃ st W, Ev (fun k => sendingX k ps bk q u) (0, some st) ∧ Snd.Sim q (ordN q) bk W st (stOf ps bk q u) := by
  have h := sendF_zero hF
  obtain ⟨st, W, h1, h2⟩ := h.code_run hu
  refine ⟨st, W, ?_, h2⟩
  unfold sendF at hF
  by_cases c : bothV ps bk = 0
  rotate_left
  · rw [if_neg c] at hF
    exact absurd hF c
  rw [if_pos c] at hF
  have a1 := contact_check_ev ps bk hb
  have a2 := contact_CheckItems_ev q
  rw [c] at a1
  rw [hF] at a2
  unfold sendingX
  refine Ev.bind a1 ?_
  simp only [if_true]
  refine Ev.bind a2 ?_
  simp only [if_true]
  refine Ev.bind h.newX_ev ?_
  obtain ⟨K, hK⟩ := h1
  exact ⟨K, fun k hk => by
    have := hK k hk
    simp only at this ⊢
    rw [this]
    rfl⟩
theorem sending_bad (hb : bk.length ≤ 1152921504606846976) (hF : sendF ps bk q ≠ 0) : Ev (fun k => sendingX k ps bk q u) (sendF ps bk q, none) := by
  unfold sendF at hF ⊢
  unfold sendingX
  refine Ev.bind (contact_check_ev ps bk hb) ?_
  by_cases c : bothV ps bk = 0
  · rw [if_pos c] at hF
    simp only [if_pos c]
    refine Ev.bind (contact_CheckItems_ev q) ?_
    simp only [if_neg hF]
    exact Ev.now _
  · simp only [if_neg c]
    exact Ev.now _
end
end Go.Proofs.Ytbngmblgkkdhpaa.Q
