/- Plain laws of chapter 9: which uses are kept at best, as the program and the reference tell. -/
-- Made by wip/tools/claimp.py of this session's texts; Lean checks it.
import Derived.Test.YtplcdpiggpkppaaC12PowG
import Derived.Test.YtplcdpiggpkppaaC12PowC
import Derived.Test.YtplcdpiggpkppaaC12Ge1
import Derived.Test.YtplcdpiggpkppaaC12Ge2
import Derived.Test.YtplcdpiggpkppaaC12Ge3
import Derived.Test.YtplcdpiggpkppaaC12Ge6
import Derived.Test.YtplcdpiggpkppaaC12Ge7
import Derived.Test.YtplcdpiggpkppaaC12Ge8
import Derived.Test.YtplcdpiggpkppaaC12Ge11
import Derived.Test.YtplcdpiggpkppaaC12Q0
import Derived.Test.YtplcdpiggpkppaaC12Ge13
import Derived.Test.YtplcdpiggpkppaaC12Ge9
import Derived.Test.YtplcdpiggpkppaaC12Ge15
import Derived.Test.YtplcdpiggpkppaaC12Ge18
import Derived.Test.YtplcdpiggpkppaaC12Ge16
set_option linter.unusedVariables false
set_option linter.unusedSimpArgs false
namespace Go.Proofs.Ytplcdpiggpkppaa.Q
open Go.RowKit Go.Proofs.YtplcdpiggpkppaaW.PrintWords Go.Proofs.YtplcdpiggpkppaaW.PrintLast Go.Proofs.YtplcdpiggpkppaaW.PrintMore Go.Proofs.Ytplcdpiggpkppaa.Base
theorem Good.sub {r lv sn bs fl : Int} {s : List S72} {l : List S76} {u v : List S47} (h : Good r lv sn bs fl s l u) (hs : v.Sublist u) : Good r lv sn bs fl s l v := ⟨h.cell, h.sun, h.uses.sub hs⟩
/-- A set has the use of a number. -/
def bitOn (m : Int) (i : Nat) : Prop := (Go.bits .and .i64 (shr .i64 m (i : Int)) 1) = 1
instance (m : Int) (i : Nat) : Decidable (bitOn m i) := by unfold bitOn; exact inferInstance
end Go.Proofs.Ytplcdpiggpkppaa.Q
