-- Made by wip/tools/claimp.py of this session's texts; Lean checks it.
import Derived.Test.YtbngmblgkkdhpaaDoorC3L4
import Derived.Test.YtbngmblgkkdhpaaDoorC3Wf
namespace Go.Proofs.YtbngmblgkkdhpaaDoor.Q
open Go.RowKit
def perigeelaw10_PassesTextsMatchSpec.Pure : Prop := ∀ (l0 : List (S55)) (a1 : ByteArray), (l0.length * 56 ≤ 140737488351232 ∧ ∀ y ∈ l0, Wf55 y) → (a1.size ≤ 140737488351232) → ∃ k, perigeelaw10_PassesTextsMatchSpec.f k l0 a1 = some true
end Go.Proofs.YtbngmblgkkdhpaaDoor.Q
