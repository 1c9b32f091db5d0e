-- Made by wip/tools/claimp.py of this session's texts; Lean checks it.
import Derived.Test.YthmdnmfocnchkaaC1L3
import Derived.Test.YthmdnmfocnchkaaC1Wf
namespace Go.Proofs.Ythmdnmfocnchkaa.Q
open Go.RowKit
def perigeelaw12_CraftUplinkedMatchesSpec.Pure : Prop := ∀ (a0 : Int) (a1 : Int) (a2 : Int) (l3 : List ByteArray), ((Lit.int .i64 a0).wf = true) → ((Lit.int .i64 a1).wf = true) → ((Lit.int .i64 a2).wf = true) → (l3.length * 16 ≤ 140737488351232 ∧ ∀ y ∈ l3, y.size ≤ 140737488351232) → ∃ k, perigeelaw12_CraftUplinkedMatchesSpec.f k a0 a1 a2 l3 = some true
end Go.Proofs.Ythmdnmfocnchkaa.Q
