/- Plain laws of chapter 9: what is left by shedding is right itself; uses compared. -/
-- Made by wip/tools/claimp.py of this session's texts; Lean checks it.
import Derived.Test.YtplcdpiggpkppaaC10PowV
import Derived.Test.YtplcdpiggpkppaaC10Ge23
set_option linter.unusedVariables false
set_option linter.unusedSimpArgs false
namespace Go.Proofs.Ytplcdpiggpkppaa.Q
open Go.RowKit Go.Proofs.YtplcdpiggpkppaaW.PrintWords Go.Proofs.YtplcdpiggpkppaaW.PrintLast Go.Proofs.YtplcdpiggpkppaaW.PrintMore Go.Proofs.Ytplcdpiggpkppaa.Base
theorem usesV_loads {l : List S76} {u : List S47} (h : usesV l u = 0) : loadsV l = 0 := by
  unfold usesV at h
  split at h
  · rename_i q; exact absurd h q
  · rename_i q; exact Classical.not_not.1 q
theorem checkF_sub {r lv sn bs fl : Int} {s : List S72} {l : List S76} {u v : List S47} {n : Int} (h : checkF r lv sn bs fl s l u n = 0) (hs : v.Sublist u) : checkF r lv sn bs fl s l v n = 0 := by
  obtain ⟨h1, h2, h3, h4⟩ := checkF_parts.1 h
  exact checkF_parts.2 ⟨h1, h2, usesV_of (usesV_loads h3) ((usesV_zero h3).sub hs) ((usesV_ordered h3).sub hs), h4⟩
theorem equal_uses (l : List S47) (hl : (l.length : Int) ≤ 9000000000000000) : Ev (fun k => api_Use_48.f k l l) true := by
  simp only [api_Use_48.f, if_true]
  refine Ev.loop (L := fun k i => api_Use_48.l0 k l l (l.length : Int) (i : Int)) (v := fun _ => true) l.length ?_ ?_ l.length 0 (by omega)
  · refine Ev.step (fun k => api_Use_48.l0.eq_2 ..) ?_
    simp only [if_neg (show ¬ (l.length : Int) < l.length by omega)]
    exact Ev.now _
  · intro i hi ih
    refine Ev.step (fun k => api_Use_48.l0.eq_2 ..) ?_
    simp only [if_pos (show (i : Int) < l.length by omega), if_pos (show (0 : Int) ≤ i by omega), w64 (x := (i : Int) + 1) (by omega) (by omega), beq_self_eq_true, Bool.not_true, Bool.or_self, if_neg Bool.false_ne_true]
    exact ih
end Go.Proofs.Ytplcdpiggpkppaa.Q
