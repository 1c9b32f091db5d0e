-- Made by wip/tools/claimp.py of this session's texts; Lean checks it.
import Derived.Test.YtplcdpiggpkppaaC11L8
import Derived.Test.YtplcdpiggpkppaaC11Wf
namespace Go.Proofs.Ytplcdpiggpkppaa.Q
open Go.RowKit
def perigeelaw9_PowerTogetherMatchesSpec.Pure : Prop := ∀ (l0 : List (S76)) (l1 : List (S47)) (l2 : List (S100)), (l0.length * 32 ≤ 140737488351232 ∧ ∀ y ∈ l0, Wf76 y) → (l1.length * 32 ≤ 140737488351232 ∧ ∀ y ∈ l1, Wf47 y) → (l2.length * 32 ≤ 140737488351232 ∧ ∀ y ∈ l2, Wf100 y) → ∃ k, perigeelaw9_PowerTogetherMatchesSpec.f k l0 l1 l2 = some true
end Go.Proofs.Ytplcdpiggpkppaa.Q
