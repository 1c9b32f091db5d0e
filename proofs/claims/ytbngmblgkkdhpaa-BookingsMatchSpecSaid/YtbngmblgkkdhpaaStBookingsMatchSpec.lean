-- Made by wip/tools/pp.py (this session's) over the kit's print program; Lean checks it.
import Derived.Test.YtbngmblgkkdhpaaL7
import Derived.Test.YtbngmblgkkdhpaaWf
namespace Go.Proofs.Ytbngmblgkkdhpaa.Q
open Go.RowKit
def perigeelaw10_BookingsMatchSpec.Pure : Prop := ∀ (l0 : List (S33)) (a1 : Int) (l2 : List Int), (l0.length * 56 ≤ 140737488351232 ∧ ∀ y ∈ l0, Wf33 y) → ((Lit.int .i64 a1).wf = true) → (l2.length * 8 ≤ 140737488351232 ∧ ∀ y ∈ l2, (Lit.int .i64 y).wf = true) → ∃ k, perigeelaw10_BookingsMatchSpec.f k l0 a1 l2 = some true
end Go.Proofs.Ytbngmblgkkdhpaa.Q
