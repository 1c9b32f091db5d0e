-- Made by wip/tools/claimp.py of this session's texts; Lean checks it.
import Derived.Test.YtplcdpiggpkppaaC12L5
import Derived.Test.YtplcdpiggpkppaaC12Wf
namespace Go.Proofs.Ytplcdpiggpkppaa.Q
open Go.RowKit
def perigeelaw9_PowerFewerUsesLeaveMore.Pure : Prop := ∀ (x0 : S23) (l1 : List (S72)) (l2 : List (S76)) (l3 : List (S47)) (a4 : Int) (a5 : Int), (Wf23 x0) → (l1.length * 16 ≤ 140737488351232 ∧ ∀ y ∈ l1, Wf72 y) → (l2.length * 32 ≤ 140737488351232 ∧ ∀ y ∈ l2, Wf76 y) → (l3.length * 32 ≤ 140737488351232 ∧ ∀ y ∈ l3, Wf47 y) → ((Lit.int .i64 a4).wf = true) → ((Lit.int .i64 a5).wf = true) → ∃ k, perigeelaw9_PowerFewerUsesLeaveMore.f k x0.f0 x0.f1 x0.f2 x0.f3 x0.f4 l1 l2 l3 a4 a5 = some true
end Go.Proofs.Ytplcdpiggpkppaa.Q
