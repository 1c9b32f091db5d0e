/- Follow answers as the reference does, with all errors: for all batteries, suns, loads, uses and moments. -/
-- Made by wip/tools/claimp.py of this session's texts; Lean checks it.
import Derived.Test.YtplcdpiggpkppaaC5PowL
import Derived.Test.YtplcdpiggpkppaaC5StPowerFollowMatchesSpec
set_option linter.unusedVariables false
set_option linter.unusedSimpArgs false
namespace Go.Proofs.Ytplcdpiggpkppaa.Q
open Go.RowKit Go.Proofs.YtplcdpiggpkppaaW.PrintWords Go.Proofs.YtplcdpiggpkppaaW.PrintLast Go.Proofs.YtplcdpiggpkppaaW.PrintMore Go.Proofs.Ytplcdpiggpkppaa.Base
theorem PowerFollowMatchesSpec_pure : perigeelaw9_PowerFollowMatchesSpec.Pure := by
  intro c s l u n _ _ _ _ _
  obtain ⟨r, lv, sn, bs, fl⟩ := c
  refine Ev.rounds ?_
  simp only [perigeelaw9_PowerFollowMatchesSpec.f]
  refine Ev.bind (power_Follow_ev r lv sn bs fl s l u n) ?_
  refine Ev.bind (ref_Follow_ev r lv sn bs fl s l u n) ?_
  simp only [if_true]
  have hlen : ((FollowV r lv sn bs fl s l u n).1.length : Int) ≤ 9000000000000000 := by
    unfold FollowV
    split
    · rename_i h0
      obtain ⟨h, hn⟩ := checkF_good h0
      have := (pieces_segs h hn.1).1.short
      simp only [List.length_cons, followL, List.length_map]
      omega
    · exact Int.le_of_lt (by show (0 : Int) < _; omega)
  refine Ev.bind (equal_levels _ hlen) ?_
  simp only [if_true]
  refine Ev.bind awake_ev ?_
  exact Ev.now _
end Go.Proofs.Ytplcdpiggpkppaa.Q
namespace Go.Proofs.Ytplcdpiggpkppaa.Pure
theorem PowerFollowMatchesSpec : Q.perigeelaw9_PowerFollowMatchesSpec.Pure := Q.PowerFollowMatchesSpec_pure
end Go.Proofs.Ytplcdpiggpkppaa.Pure
