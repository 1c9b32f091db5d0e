-- Made by wip/tools/claimp.py of this session's texts; Lean checks it.
import Derived.Test.YthmdnmfocnchkaaC1Q0
import Derived.Test.YthmdnmfocnchkaaC1Opens
namespace Go.Proofs.Ythmdnmfocnchkaa.Q
open Go.RowKit Go.Proofs.YthmdnmfocnchkaaW.PrintWords Go.Proofs.Ythmdnmfocnchkaa.Opens
theorem opens9 : Opens Try.prog 9 Kd.string (fun x => x.size ≤ 140737488351232) := opens_str Try.underlying9 (by kernel_rfl)
theorem opens22 : Opens Try.prog 22 (Kd.slice 9 Kd.string) (fun xs => xs.length * 16 ≤ 140737488351232 ∧ ∀ y ∈ xs, y.size ≤ 140737488351232) := opens_slice Try.underlying22 (by kernel_rfl) (by kernel_rfl) opens9
end Go.Proofs.Ythmdnmfocnchkaa.Q
