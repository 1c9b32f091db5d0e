-- Made by wip/tools/claimp.py of this session's texts; Lean checks it.
import Derived.Test.YtplcdpiggpkppaaC11Q0
import Derived.Test.YtplcdpiggpkppaaC11Opens
namespace Go.Proofs.Ytplcdpiggpkppaa.Q
open Go.RowKit Go.Proofs.YtplcdpiggpkppaaW.PrintWords Go.Proofs.Ytplcdpiggpkppaa.Opens
theorem opens3 : Opens Try.prog 3 (Kd.int .i64) (fun x => (Lit.int .i64 x).wf = true) := opens_int Try.underlying3 (by kernel_rfl)
theorem opens9 : Opens Try.prog 9 Kd.string (fun x => x.size ≤ 140737488351232) := opens_str Try.underlying9 (by kernel_rfl)
def Wf76 (x : S76) : Prop := (x.f0.size ≤ 140737488351232) ∧ ((Lit.int .i64 x.f1).wf = true) ∧ ((Lit.int .i64 x.f2).wf = true)
theorem opens76 : Opens Try.prog 76 k76 Wf76 := opens_struct Try.underlying76 (by kernel_rfl) (opensF_cons rfl opens9 (opensF_cons rfl opens3 (opensF_one rfl opens3))) (fun x : S76 => (x.f0, x.f1, x.f2)) (fun a => ⟨a.1, a.2.1, a.2.2⟩) (fun _ => rfl)
theorem opens25 : Opens Try.prog 25 (Kd.slice 76 k76) (fun xs => xs.length * 32 ≤ 140737488351232 ∧ ∀ y ∈ xs, Wf76 y) := opens_slice Try.underlying25 (by kernel_rfl) (by kernel_rfl) opens76
def Wf47 (x : S47) : Prop := (x.f0.size ≤ 140737488351232) ∧ ((Lit.int .i64 x.f1).wf = true) ∧ ((Lit.int .i64 x.f2).wf = true)
theorem opens47 : Opens Try.prog 47 k47 Wf47 := opens_struct Try.underlying47 (by kernel_rfl) (opensF_cons rfl opens9 (opensF_cons rfl opens3 (opensF_one rfl opens3))) (fun x : S47 => (x.f0, x.f1, x.f2)) (fun a => ⟨a.1, a.2.1, a.2.2⟩) (fun _ => rfl)
theorem opens26 : Opens Try.prog 26 (Kd.slice 47 k47) (fun xs => xs.length * 32 ≤ 140737488351232 ∧ ∀ y ∈ xs, Wf47 y) := opens_slice Try.underlying26 (by kernel_rfl) (by kernel_rfl) opens47
theorem opens98 : Opens Try.prog 98 (Kd.slice 9 Kd.string) (fun xs => xs.length * 16 ≤ 140737488351232 ∧ ∀ y ∈ xs, y.size ≤ 140737488351232) := opens_slice Try.underlying98 (by kernel_rfl) (by kernel_rfl) opens9
def Wf100 (x : S100) : Prop := (x.f0.length * 16 ≤ 140737488351232 ∧ ∀ y ∈ x.f0, y.size ≤ 140737488351232) ∧ ((Lit.int .i64 x.f1).wf = true)
theorem opens100 : Opens Try.prog 100 k100 Wf100 := opens_struct Try.underlying100 (by kernel_rfl) (opensF_cons rfl opens98 (opensF_one rfl opens3)) (fun x : S100 => (x.f0, x.f1)) (fun a => ⟨a.1, a.2⟩) (fun _ => rfl)
theorem opens51 : Opens Try.prog 51 (Kd.slice 100 k100) (fun xs => xs.length * 32 ≤ 140737488351232 ∧ ∀ y ∈ xs, Wf100 y) := opens_slice Try.underlying51 (by kernel_rfl) (by kernel_rfl) opens100
end Go.Proofs.Ytplcdpiggpkppaa.Q
