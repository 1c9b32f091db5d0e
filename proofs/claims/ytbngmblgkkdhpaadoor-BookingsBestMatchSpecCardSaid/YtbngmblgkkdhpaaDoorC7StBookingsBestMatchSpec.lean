-- Made by wip/tools/claimp.py of this session's texts; Lean checks it.
import Derived.Test.YtbngmblgkkdhpaaDoorC7L5
import Derived.Test.YtbngmblgkkdhpaaDoorC7Wf
namespace Go.Proofs.YtbngmblgkkdhpaaDoor.Q
open Go.RowKit
def perigeelaw10_BookingsBestMatchSpec.Pure : Prop := ∀ (l0 : List (S55)) (a1 : Int) (l2 : List Int), (l0.length * 56 ≤ 140737488351232 ∧ ∀ y ∈ l0, Wf55 y) → ((Lit.int .i64 a1).wf = true) → (l2.length * 8 ≤ 140737488351232 ∧ ∀ y ∈ l2, (Lit.int .i64 y).wf = true) → ∃ k, perigeelaw10_BookingsBestMatchSpec.f k l0 a1 l2 = some true
end Go.Proofs.YtbngmblgkkdhpaaDoor.Q
