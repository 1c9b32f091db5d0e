/- Plain laws of chapter 9: the lowest level and its first moment; the first moment below the floor; the least level to begin with. -/
-- Made by wip/tools/claimp.py of this session's texts; Lean checks it.
import Derived.Test.YtplcdpiggpkppaaC12PowE
import Derived.Test.YtplcdpiggpkppaaC12Q0
import Derived.Test.YtplcdpiggpkppaaC12Ge11
import Derived.Test.YtplcdpiggpkppaaC12Ge13
import Derived.Test.YtplcdpiggpkppaaC12Ge8
import Derived.Test.YtplcdpiggpkppaaC12Ge9
set_option linter.unusedVariables false
set_option linter.unusedSimpArgs false
namespace Go.Proofs.Ytplcdpiggpkppaa.Q
open Go.RowKit Go.Proofs.YtplcdpiggpkppaaW.PrintWords Go.Proofs.YtplcdpiggpkppaaW.PrintLast Go.Proofs.YtplcdpiggpkppaaW.PrintMore Go.Proofs.Ytplcdpiggpkppaa.Base
theorem Good.level {r lv sn bs fl : Int} {s : List S72} {l : List S76} {u : List S47} (h : Good r lv sn bs fl s l u) {v : Int} (hv : 0 ≤ v ∧ v ≤ r) : Good r v sn bs fl s l u := ⟨⟨h.cell.1, hv, h.cell.2.2⟩, h.sun, h.uses⟩
end Go.Proofs.Ytplcdpiggpkppaa.Q
