/- With one use fewer the level is never less: for all batteries, suns, loads, uses and moments. -/
-- Made by wip/tools/claimp.py of this session's texts; Lean checks it.
import Derived.Test.YtplcdpiggpkppaaC12PowW
import Derived.Test.YtplcdpiggpkppaaC12StPowerFewerUsesLeaveMore
import Derived.Test.YtplcdpiggpkppaaC12Ge13
import Derived.Test.YtplcdpiggpkppaaC12Ge28
set_option linter.unusedVariables false
set_option linter.unusedSimpArgs false
namespace Go.Proofs.Ytplcdpiggpkppaa.Q
open Go.RowKit Go.Proofs.YtplcdpiggpkppaaW.PrintWords Go.Proofs.YtplcdpiggpkppaaW.PrintLast Go.Proofs.YtplcdpiggpkppaaW.PrintMore Go.Proofs.Ytplcdpiggpkppaa.Base
theorem below_is {x n : Int} (hn : 1 ≤ n ∧ n ≤ 1000000000001) : ∃ y, perigeeref9_Below.f x n = some y ∧ 0 ≤ y ∧ y < n := by
  have h1 := Int.tmod_lt_of_pos x (show 0 < n by omega)
  have h2 := Int.lt_tmod_of_pos x (show 0 < n by omega)
  unfold perigeeref9_Below.f
  rw [if_neg (show ¬ n = 0 by omega)]
  by_cases h : Int.tmod x n < 0
  · rw [if_pos h, w64 (by omega) (by omega)]
    exact ⟨_, rfl, by omega, by omega⟩
  · rw [if_neg h]
    exact ⟨_, rfl, by omega, by omega⟩
theorem without_sub {α : Type} (l : List α) (n : Nat) : (l.take n ++ l.drop (n + 1)).Sublist l := by
  have h : (l.take n ++ l.drop (n + 1)).Sublist (l.take n ++ l.drop n) := (List.Sublist.refl _).append (by
    rw [← List.drop_drop]
    exact List.drop_sublist _ _)
  rwa [List.take_append_drop] at h
theorem PowerFewerUsesLeaveMore_pure : perigeelaw9_PowerFewerUsesLeaveMore.Pure := by
  intro c s l u k0 n _ _ _ _ _ _
  obtain ⟨r, lv, sn, bs, fl⟩ := c
  refine Ev.rounds ?_
  simp only [perigeelaw9_PowerFewerUsesLeaveMore.f]
  refine Ev.bind (power_LevelAt_ev r lv sn bs fl s l u n) ?_
  unfold LevelV
  by_cases h0 : checkF r lv sn bs fl s l u n = 0
  · simp only [if_pos h0, if_true]
    obtain ⟨h, hn⟩ := checkF_good h0
    refine Ev.ite (fun _ => awake_ev) (fun hne => ?_)
    have hfew := h.uses.few
    simp only [if_pos (show u.length < 4398046511104 by omega)]
    obtain ⟨y, hy, hy0, hyn⟩ := below_is (x := k0) (n := (u.length : Int)) (by omega)
    simp only [hy, Option.bind_some, if_pos (And.intro hy0 hyn)]
    have hs := without_sub u y.toNat
    have h1 := checkF_sub h0 hs
    refine Ev.bind (power_LevelAt_ev r lv sn bs fl s l (u.take y.toNat ++ u.drop (y.toNat + 1)) n) ?_
    unfold LevelV
    have hle := less_draw (r := r) (lv := lv) (sn := sn) (bs := bs) (s := s) (by have := h.cell.1; omega) (fun t => draw_sub h.uses.loads hs t) n.toNat
    simp only [if_pos h1, if_true, if_pos hle]
    exact awake_ev
  · simp only [if_neg h0, if_true]
    exact awake_ev
end Go.Proofs.Ytplcdpiggpkppaa.Q
namespace Go.Proofs.Ytplcdpiggpkppaa.Pure
theorem PowerFewerUsesLeaveMore : Q.perigeelaw9_PowerFewerUsesLeaveMore.Pure := Q.PowerFewerUsesLeaveMore_pure
end Go.Proofs.Ytplcdpiggpkppaa.Pure
