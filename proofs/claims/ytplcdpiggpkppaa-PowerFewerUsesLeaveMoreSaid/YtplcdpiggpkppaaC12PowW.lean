/- Plain laws of chapter 9: what is left by shedding is right itself; uses compared. -/
-- Made by wip/tools/claimp.py of this session's texts; Lean checks it.
import Derived.Test.YtplcdpiggpkppaaC12PowV
import Derived.Test.YtplcdpiggpkppaaC12Q0
import Derived.Test.YtplcdpiggpkppaaC12Ge22
import Derived.Test.YtplcdpiggpkppaaC12Ge5
set_option linter.unusedVariables false
set_option linter.unusedSimpArgs false
namespace Go.Proofs.Ytplcdpiggpkppaa.Q
open Go.RowKit Go.Proofs.YtplcdpiggpkppaaW.PrintWords Go.Proofs.YtplcdpiggpkppaaW.PrintLast Go.Proofs.YtplcdpiggpkppaaW.PrintMore Go.Proofs.Ytplcdpiggpkppaa.Base
theorem usesV_loads {l : List S76} {u : List S47} (h : usesV l u = 0) : loadsV l = 0 := by
  unfold usesV at h
  split at h
  · rename_i q; exact absurd h q
  · rename_i q; exact Classical.not_not.1 q
theorem checkF_sub {r lv sn bs fl : Int} {s : List S72} {l : List S76} {u v : List S47} {n : Int} (h : checkF r lv sn bs fl s l u n = 0) (hs : v.Sublist u) : checkF r lv sn bs fl s l v n = 0 := by
  obtain ⟨h1, h2, h3, h4⟩ := checkF_parts.1 h
  exact checkF_parts.2 ⟨h1, h2, usesV_of (usesV_loads h3) ((usesV_zero h3).sub hs) ((usesV_ordered h3).sub hs), h4⟩
end Go.Proofs.Ytplcdpiggpkppaa.Q
