-- Made by wip/tools/claimp.py of this session's texts; Lean checks it.
import Derived.Test.YtplcdpiggpkppaaDoorC2L3
import Derived.Test.YtplcdpiggpkppaaDoorC2Wf
namespace Go.Proofs.YtplcdpiggpkppaaDoor.Q
open Go.RowKit
def perigeelaw9_PowerTextsMatchSpec.Pure : Prop := ∀ (l0 : List (S32)) (l1 : List (S35)), (l0.length * 32 ≤ 140737488351232 ∧ ∀ y ∈ l0, Wf32 y) → (l1.length * 32 ≤ 140737488351232 ∧ ∀ y ∈ l1, Wf35 y) → ∃ k, perigeelaw9_PowerTextsMatchSpec.f k l0 l1 = some true
end Go.Proofs.YtplcdpiggpkppaaDoor.Q
