/- Sending: Late and Backlog. -/
-- Made by wip/tools/claimp.py of this session's texts; Lean checks it.
import Derived.Test.YtbngmblgkkdhpaaC9SndJ
import Derived.Test.YtbngmblgkkdhpaaC9Gs9
import Derived.Test.YtbngmblgkkdhpaaC9Gs13
import Derived.Test.YtbngmblgkkdhpaaC9Gs1
import Derived.Test.YtbngmblgkkdhpaaC9Gs2
set_option linter.unusedVariables false
set_option linter.unusedSimpArgs false
namespace Go.Proofs.Ytbngmblgkkdhpaa.Q
open Go.RowKit Go.Proofs.YtbngmblgkkdhpaaW.PrintWords Go.Proofs.YtbngmblgkkdhpaaW.PrintLast Go.Proofs.YtbngmblgkkdhpaaW.PrintMore Go.Proofs.Ytbngmblgkkdhpaa.Base
section
variable {ps : List S33} {bk : List Int} {q : List S63} {u : Int}
theorem sending_ev (hb : bk.length ≤ 1152921504606846976) (hu : 0 ≤ u ∧ u ≤ 1000000000000) (hF : sendF ps bk q = 0) : ∃ st W, Ev (fun k => sendingX k ps bk q u) (0, some st) ∧ Snd.Sim q (ordN q) bk W st (stOf ps bk q u) := by
  have h := sendF_zero hF
  obtain ⟨st, W, h1, h2⟩ := h.code_run hu
  refine ⟨st, W, ?_, h2⟩
  unfold sendF at hF
  by_cases c : bothV ps bk = 0
  rotate_left
  · rw [if_neg c] at hF
    exact absurd hF c
  rw [if_pos c] at hF
  have a1 := contact_check_ev ps bk hb
  have a2 := contact_CheckItems_ev q
  rw [c] at a1
  rw [hF] at a2
  unfold sendingX
  refine Ev.bind a1 ?_
  simp only [if_true]
  refine Ev.bind a2 ?_
  simp only [if_true]
  refine Ev.bind h.newX_ev ?_
  obtain ⟨K, hK⟩ := h1
  exact ⟨K, fun k hk => by
    have := hK k hk
    simp only at this ⊢
    rw [this]
    rfl⟩
theorem sending_bad (hb : bk.length ≤ 1152921504606846976) (hF : sendF ps bk q ≠ 0) : Ev (fun k => sendingX k ps bk q u) (sendF ps bk q, none) := by
  unfold sendF at hF ⊢
  unfold sendingX
  refine Ev.bind (contact_check_ev ps bk hb) ?_
  by_cases c : bothV ps bk = 0
  · rw [if_pos c] at hF
    simp only [if_pos c]
    refine Ev.bind (contact_CheckItems_ev q) ?_
    simp only [if_neg hF]
    exact Ev.now _
  · simp only [if_neg c]
    exact Ev.now _
end
/-- What was not sent is the same, told either way. -/
theorem back_eq {q : List S63} {sent left : List Int} (at_ : Int) (h : ∀ i, i < q.length → sent.getD i 0 = (q.getD i z63).f1 - left.getD i 0) (hn : ∀ i, i < q.length → 0 ≤ left.getD i 0 ∧ left.getD i 0 ≤ 1000000000000) : ∀ n : Nat, n ≤ q.length → backS q sent at_ n = backR q left at_ n
  | 0, _ => rfl
  | n + 1, hn' => by
    have ih := back_eq at_ h hn n (by omega)
    have a := h n (by omega)
    have b := hn n (by omega)
    have e1 : rd sent (n : Int) = sent.getD n 0 := by unfold rd; rw [Int.toNat_natCast]
    have e2 : rd left (n : Int) = left.getD n 0 := by unfold rd; rw [Int.toNat_natCast]
    unfold backS backR
    rw [e1, e2, a, rd_I, ih, show (q.getD n z63).f1 - ((q.getD n z63).f1 - left.getD n 0) = left.getD n 0 by omega, w64 (x := left.getD n 0) (by omega) (by omega)]
def backV (ps : List S33) (bk : List Int) (q : List S63) (at_ : Int) : Int × Int := if sendF ps bk q = 0 then (if 0 ≤ at_ ∧ at_ ≤ 1000000000000 then (backR q (stOf ps bk q at_).left at_ q.length, 0) else (0, 1)) else (0, sendF ps bk q)
theorem contact_Backlog_ev (ps : List S33) (bk : List Int) (q : List S63) (at_ : Int) (hb : bk.length ≤ 1152921504606846976) : Ev (fun k => contact_Backlog.f k ps bk q at_) (backV ps bk q at_) := by
  unfold contact_Backlog.f backV sendF
  refine Ev.bind (contact_check_ev ps bk hb) ?_
  by_cases c : bothV ps bk = 0
  rotate_left
  · simp only [if_neg c]
    exact Ev.now _
  simp only [if_pos c]
  refine Ev.bind (contact_CheckItems_ev q) ?_
  simp only [kit_Range_eq, Option.bind_some]
  refine Ev.bind (kit_First_ev _ (by simp)) ?_
  by_cases d : itemsC q = 0
  rotate_left
  · have e : firstV [itemsC q, if 0 ≤ at_ ∧ at_ ≤ 1000000000000 then 0 else 1] = itemsC q := by
      unfold firstV
      rw [if_neg d]
    rw [e]
    simp only [if_neg d]
    exact Ev.now _
  simp only [d, if_true]
  by_cases r : 0 ≤ at_ ∧ at_ ≤ 1000000000000
  rotate_left
  · simp only [if_neg r]
    have e : firstV [0, 1] = 1 := by decide
    rw [e]
    exact Ev.is (by simp)
  simp only [if_pos r]
  have e : firstV [0, 0] = 0 := by decide
  rw [e]
  simp only [if_true]
  have h : Ready ps bk q := sendF_zero (by unfold sendF; rw [if_pos c]; exact d)
  obtain ⟨st, W, h1, h2⟩ := h.code_run r
  have hm := h.items.many
  have hd : st.sent.length = q.length ∧ q.length ≤ 1000000 := ⟨h2.slen, by omega⟩
  refine Ev.bind h.newX_ev ?_
  refine Ev.bind h1 ?_
  simp only [if_pos hd]
  refine Ev.is ?_
  rw [back_eq at_ h2.sent (fun i hi => by have := h2.nn i hi; have := (h.items.all i).size; omega) q.length (Nat.le_refl _)]
end Go.Proofs.Ytbngmblgkkdhpaa.Q
