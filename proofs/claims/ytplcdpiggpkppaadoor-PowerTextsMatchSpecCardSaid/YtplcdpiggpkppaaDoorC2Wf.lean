-- Made by wip/tools/claimp.py of this session's texts; Lean checks it.
import Derived.Test.YtplcdpiggpkppaaDoorC2Q0
import Derived.Test.YtplcdpiggpkppaaDoorC2Opens
namespace Go.Proofs.YtplcdpiggpkppaaDoor.Q
open Go.RowKit Go.Proofs.YtplcdpiggpkppaaDoorW.PrintWords Go.Proofs.YtplcdpiggpkppaaDoor.Opens
theorem opens9 : Opens Tryd.prog 9 Kd.string (fun x => x.size ≤ 140737488351232) := opens_str Tryd.underlying9 (by kernel_rfl)
theorem opens3 : Opens Tryd.prog 3 (Kd.int .i64) (fun x => (Lit.int .i64 x).wf = true) := opens_int Tryd.underlying3 (by kernel_rfl)
def Wf32 (x : S32) : Prop := (x.f0.size ≤ 140737488351232) ∧ ((Lit.int .i64 x.f1).wf = true) ∧ ((Lit.int .i64 x.f2).wf = true)
theorem opens32 : Opens Tryd.prog 32 k32 Wf32 := opens_struct Tryd.underlying32 (by kernel_rfl) (opensF_cons rfl opens9 (opensF_cons rfl opens3 (opensF_one rfl opens3))) (fun x : S32 => (x.f0, x.f1, x.f2)) (fun a => ⟨a.1, a.2.1, a.2.2⟩) (fun _ => rfl)
theorem opens22 : Opens Tryd.prog 22 (Kd.slice 32 k32) (fun xs => xs.length * 32 ≤ 140737488351232 ∧ ∀ y ∈ xs, Wf32 y) := opens_slice Tryd.underlying22 (by kernel_rfl) (by kernel_rfl) opens32
def Wf35 (x : S35) : Prop := (x.f0.size ≤ 140737488351232) ∧ ((Lit.int .i64 x.f1).wf = true) ∧ ((Lit.int .i64 x.f2).wf = true)
theorem opens35 : Opens Tryd.prog 35 k35 Wf35 := opens_struct Tryd.underlying35 (by kernel_rfl) (opensF_cons rfl opens9 (opensF_cons rfl opens3 (opensF_one rfl opens3))) (fun x : S35 => (x.f0, x.f1, x.f2)) (fun a => ⟨a.1, a.2.1, a.2.2⟩) (fun _ => rfl)
theorem opens23 : Opens Tryd.prog 23 (Kd.slice 35 k35) (fun xs => xs.length * 32 ≤ 140737488351232 ∧ ∀ y ∈ xs, Wf35 y) := opens_slice Tryd.underlying23 (by kernel_rfl) (by kernel_rfl) opens35
end Go.Proofs.YtplcdpiggpkppaaDoor.Q
