-- Made by wip/tools/claimp.py of this session's texts; Lean checks it.
import Derived.Test.YtplcdpiggpkppaaDoorC1L4
import Derived.Test.YtplcdpiggpkppaaDoorC1Q0
import Derived.Test.YtplcdpiggpkppaaDoorC1WWords
import Derived.Deep.Slices
import Derived.SizedLaws
import Derived.ChangeArms
namespace Go.Proofs.YtplcdpiggpkppaaDoor.Q
open Go.RowKit
def perigeelaw9_PowerReadsMatchSpec.Pure : Prop := ∀ (a0 : ByteArray), (a0.size ≤ 140737488351232) → ∃ k, perigeelaw9_PowerReadsMatchSpec.f k a0 = some true
end Go.Proofs.YtplcdpiggpkppaaDoor.Q
