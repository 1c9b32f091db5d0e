-- Made by wip/tools/claimp.py of this session's texts; Lean checks it.
import Derived.Test.YtbngmblgkkdhpaaDoorC2L3
import Derived.Test.YtbngmblgkkdhpaaDoorC2Wf
namespace Go.Proofs.YtbngmblgkkdhpaaDoor.Q
open Go.RowKit
def perigeelaw10_PassesTextsComeBack.Pure : Prop := ∀ (l0 : List (S55)) (a1 : ByteArray), (l0.length * 56 ≤ 140737488351232 ∧ ∀ y ∈ l0, Wf55 y) → (a1.size ≤ 140737488351232) → ∃ k, perigeelaw10_PassesTextsComeBack.f k l0 a1 = some true
end Go.Proofs.YtbngmblgkkdhpaaDoor.Q
