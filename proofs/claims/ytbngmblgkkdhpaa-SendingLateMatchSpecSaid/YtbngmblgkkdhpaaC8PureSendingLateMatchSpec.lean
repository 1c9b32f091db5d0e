/- Late and Backlog answer as the reference does, with all errors: for every list of passes, every booking, every list of items and every moment. -/
-- Made by wip/tools/claimp.py of this session's texts; Lean checks it.
import Derived.Test.YtbngmblgkkdhpaaC8SndK
import Derived.Test.YtbngmblgkkdhpaaC8StSendingLateMatchSpec
set_option linter.unusedVariables false
set_option linter.unusedSimpArgs false
namespace Go.Proofs.Ytbngmblgkkdhpaa.Q
open Go.RowKit Go.Proofs.YtbngmblgkkdhpaaW.PrintWords Go.Proofs.YtbngmblgkkdhpaaW.PrintLast Go.Proofs.YtbngmblgkkdhpaaW.PrintMore Go.Proofs.Ytbngmblgkkdhpaa.Base
theorem slices_Equal_string_l0 (l : List ByteArray) (hl : l.length ≤ 1152921504606846976) : ∀ d i : Nat, i + d = l.length → Ev (fun k => slices_Equal_string_string.l0 k l l (l.length : Int) (i : Int)) true := by
  intro d
  induction d with
  | zero =>
    intro i hi
    refine Ev.step (fun k => slices_Equal_string_string.l0.eq_2 ..) ?_
    simp only [if_neg (show ¬ (i : Int) < (l.length : Int) by omega)]
    exact Ev.now _
  | succ d ih =>
    intro i hi
    have hn := ih (i + 1) (by omega)
    refine Ev.step (fun k => slices_Equal_string_string.l0.eq_2 ..) ?_
    simp only [if_pos (show (i : Int) < (l.length : Int) by omega), if_pos (show (0 : Int) ≤ (i : Int) by omega), w64 (x := (i : Int) + 1) (by omega) (by omega), if_true]
    exact hn
theorem slices_Equal_string_ev (l : List ByteArray) (hl : l.length ≤ 1152921504606846976) : Ev (fun k => slices_Equal_string_string.f k l l) true := by
  simp only [slices_Equal_string_string.f, if_true]
  exact slices_Equal_string_l0 l hl l.length 0 (by omega)
theorem lateV_few (ps : List S33) (bk : List Int) (q : List S63) : (lateV ps bk q).1.length ≤ 300 := by
  unfold lateV
  by_cases h : sendF ps bk q = 0
  · rw [if_pos h]
    have hm := (sendF_zero h).items.many
    unfold lateX
    rw [List.length_map]
    refine Nat.le_trans (List.length_filter_le _ _) ?_
    rw [List.length_zip]
    omega
  · rw [if_neg h]
    exact Nat.zero_le _
theorem SendingLateMatchSpec_pure : perigeelaw10_SendingLateMatchSpec.Pure := by
  intro l b q a hl hb hq _
  have hw : ∀ x ∈ l, x.f0.size ≤ 140737488351232 := fun x hx => (hl.2 x hx).1
  have hwq : ∀ x ∈ q, x.f0.size ≤ 140737488351232 := fun x hx => (hq.2 x hx).1
  have hbl : b.length ≤ 1152921504606846976 := by have := hb.1; omega
  refine Ev.rounds ?_
  simp only [perigeelaw10_SendingLateMatchSpec.f]
  have aw := Ev.bind (f := fun _ t => some t) perigeelaw10_awake_ev (Ev.now true)
  refine Ev.bind (contact_Late_ev l b q hbl) ?_
  refine Ev.bind (perigeeref10_Late_ev l b q hw hbl hwq) ?_
  refine Ev.bind (contact_Backlog_ev l b q a hbl) ?_
  refine Ev.bind (perigeeref10_Backlog_ev l b q a hw hbl hwq) ?_
  refine Ev.bind (slices_Equal_string_ev _ (by have := lateV_few l b q; omega)) ?_
  simp only [if_true]
  exact aw
end Go.Proofs.Ytbngmblgkkdhpaa.Q
namespace Go.Proofs.Ytbngmblgkkdhpaa.Pure
theorem SendingLateMatchSpec : Q.perigeelaw10_SendingLateMatchSpec.Pure := Q.SendingLateMatchSpec_pure
end Go.Proofs.Ytbngmblgkkdhpaa.Pure
