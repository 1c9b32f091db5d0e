-- Made by wip/tools/claimp.py of this session's texts; Lean checks it.
import Derived.Test.YtbngmblgkkdhpaaC10L10
import Derived.Test.YtbngmblgkkdhpaaC10Wf
namespace Go.Proofs.Ytbngmblgkkdhpaa.Q
open Go.RowKit
def perigeelaw10_SendingAddsUp.Pure : Prop := ∀ (l0 : List (S33)) (l1 : List Int) (l2 : List (S63)), (l0.length * 56 ≤ 140737488351232 ∧ ∀ y ∈ l0, Wf33 y) → (l1.length * 8 ≤ 140737488351232 ∧ ∀ y ∈ l1, (Lit.int .i64 y).wf = true) → (l2.length * 48 ≤ 140737488351232 ∧ ∀ y ∈ l2, Wf63 y) → ∃ k, perigeelaw10_SendingAddsUp.f k l0 l1 l2 = some true
end Go.Proofs.Ytbngmblgkkdhpaa.Q
