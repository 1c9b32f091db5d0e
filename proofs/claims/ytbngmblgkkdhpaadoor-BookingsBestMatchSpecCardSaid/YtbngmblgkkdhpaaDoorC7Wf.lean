-- Made by wip/tools/claimp.py of this session's texts; Lean checks it.
import Derived.Test.YtbngmblgkkdhpaaDoorC7Q0
import Derived.Test.YtbngmblgkkdhpaaDoorC7Opens
namespace Go.Proofs.YtbngmblgkkdhpaaDoor.Q
open Go.RowKit Go.Proofs.YtbngmblgkkdhpaaDoorW.PrintWords Go.Proofs.YtbngmblgkkdhpaaDoor.Opens
theorem opens9 : Opens Tryd.prog 9 Kd.string (fun x => x.size ≤ 140737488351232) := opens_str Tryd.underlying9 (by kernel_rfl)
theorem opens3 : Opens Tryd.prog 3 (Kd.int .i64) (fun x => (Lit.int .i64 x).wf = true) := opens_int Tryd.underlying3 (by kernel_rfl)
def Wf62 (x : S62) : Prop := ((Lit.int .i64 x.f0).wf = true) ∧ ((Lit.int .i64 x.f1).wf = true)
theorem opens62 : Opens Tryd.prog 62 k62 Wf62 := opens_struct Tryd.underlying62 (by kernel_rfl) (opensF_cons rfl opens3 (opensF_one rfl opens3)) (fun x : S62 => (x.f0, x.f1)) (fun a => ⟨a.1, a.2⟩) (fun _ => rfl)
theorem opens53 : Opens Tryd.prog 53 (Kd.slice 62 k62) (fun xs => xs.length * 16 ≤ 140737488351232 ∧ ∀ y ∈ xs, Wf62 y) := opens_slice Tryd.underlying53 (by kernel_rfl) (by kernel_rfl) opens62
def Wf55 (x : S55) : Prop := (x.f0.size ≤ 140737488351232) ∧ ((Lit.int .i64 x.f1).wf = true) ∧ ((Lit.int .i64 x.f2).wf = true) ∧ (x.f3.length * 16 ≤ 140737488351232 ∧ ∀ y ∈ x.f3, Wf62 y)
theorem opens55 : Opens Tryd.prog 55 k55 Wf55 := opens_struct Tryd.underlying55 (by kernel_rfl) (opensF_cons rfl opens9 (opensF_cons rfl opens3 (opensF_cons rfl opens3 (opensF_one rfl opens53)))) (fun x : S55 => (x.f0, x.f1, x.f2, x.f3)) (fun a => ⟨a.1, a.2.1, a.2.2.1, a.2.2.2⟩) (fun _ => rfl)
theorem opens22 : Opens Tryd.prog 22 (Kd.slice 55 k55) (fun xs => xs.length * 56 ≤ 140737488351232 ∧ ∀ y ∈ xs, Wf55 y) := opens_slice Tryd.underlying22 (by kernel_rfl) (by kernel_rfl) opens55
theorem opens31 : Opens Tryd.prog 31 (Kd.slice 3 (Kd.int .i64)) (fun xs => xs.length * 8 ≤ 140737488351232 ∧ ∀ y ∈ xs, (Lit.int .i64 y).wf = true) := opens_slice Tryd.underlying31 (by kernel_rfl) (by kernel_rfl) opens3
end Go.Proofs.YtbngmblgkkdhpaaDoor.Q
