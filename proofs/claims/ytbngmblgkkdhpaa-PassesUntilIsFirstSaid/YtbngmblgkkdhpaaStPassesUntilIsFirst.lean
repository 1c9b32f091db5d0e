-- Made by wip/tools/pp.py (this session's) over the kit's print program; Lean checks it.
import Derived.Test.YtbngmblgkkdhpaaQ5
import Derived.Test.YtbngmblgkkdhpaaWf
namespace Go.Proofs.Ytbngmblgkkdhpaa.Q
open Go.RowKit
def perigeelaw10_PassesUntilIsFirst.Pure : Prop := ∀ (l0 : List (S33)) (a1 : Int) (a2 : Int) (a3 : Int), (l0.length * 56 ≤ 140737488351232 ∧ ∀ y ∈ l0, Wf33 y) → ((Lit.int .i64 a1).wf = true) → ((Lit.int .i64 a2).wf = true) → ((Lit.int .i64 a3).wf = true) → ∃ k, perigeelaw10_PassesUntilIsFirst.f k l0 a1 a2 a3 = some true
end Go.Proofs.Ytbngmblgkkdhpaa.Q
