-- Made by wip/tools/claimp.py of this session's texts; Lean checks it.
import Derived.Test.YtbngmblgkkdhpaaC10Q0
import Derived.Test.YtbngmblgkkdhpaaC10Opens
namespace Go.Proofs.Ytbngmblgkkdhpaa.Q
open Go.RowKit Go.Proofs.YtbngmblgkkdhpaaW.PrintWords Go.Proofs.Ytbngmblgkkdhpaa.Opens
theorem opens9 : Opens Try.prog 9 Kd.string (fun x => x.size ≤ 140737488351232) := opens_str Try.underlying9 (by kernel_rfl)
theorem opens3 : Opens Try.prog 3 (Kd.int .i64) (fun x => (Lit.int .i64 x).wf = true) := opens_int Try.underlying3 (by kernel_rfl)
def Wf75 (x : S75) : Prop := ((Lit.int .i64 x.f0).wf = true) ∧ ((Lit.int .i64 x.f1).wf = true)
theorem opens75 : Opens Try.prog 75 k75 Wf75 := opens_struct Try.underlying75 (by kernel_rfl) (opensF_cons rfl opens3 (opensF_one rfl opens3)) (fun x : S75 => (x.f0, x.f1)) (fun a => ⟨a.1, a.2⟩) (fun _ => rfl)
theorem opens31 : Opens Try.prog 31 (Kd.slice 75 k75) (fun xs => xs.length * 16 ≤ 140737488351232 ∧ ∀ y ∈ xs, Wf75 y) := opens_slice Try.underlying31 (by kernel_rfl) (by kernel_rfl) opens75
def Wf33 (x : S33) : Prop := (x.f0.size ≤ 140737488351232) ∧ ((Lit.int .i64 x.f1).wf = true) ∧ ((Lit.int .i64 x.f2).wf = true) ∧ (x.f3.length * 16 ≤ 140737488351232 ∧ ∀ y ∈ x.f3, Wf75 y)
theorem opens33 : Opens Try.prog 33 k33 Wf33 := opens_struct Try.underlying33 (by kernel_rfl) (opensF_cons rfl opens9 (opensF_cons rfl opens3 (opensF_cons rfl opens3 (opensF_one rfl opens31)))) (fun x : S33 => (x.f0, x.f1, x.f2, x.f3)) (fun a => ⟨a.1, a.2.1, a.2.2.1, a.2.2.2⟩) (fun _ => rfl)
theorem opens22 : Opens Try.prog 22 (Kd.slice 33 k33) (fun xs => xs.length * 56 ≤ 140737488351232 ∧ ∀ y ∈ xs, Wf33 y) := opens_slice Try.underlying22 (by kernel_rfl) (by kernel_rfl) opens33
theorem opens35 : Opens Try.prog 35 (Kd.slice 3 (Kd.int .i64)) (fun xs => xs.length * 8 ≤ 140737488351232 ∧ ∀ y ∈ xs, (Lit.int .i64 y).wf = true) := opens_slice Try.underlying35 (by kernel_rfl) (by kernel_rfl) opens3
def Wf63 (x : S63) : Prop := (x.f0.size ≤ 140737488351232) ∧ ((Lit.int .i64 x.f1).wf = true) ∧ ((Lit.int .i64 x.f2).wf = true) ∧ ((Lit.int .i64 x.f3).wf = true) ∧ ((Lit.int .i64 x.f4).wf = true)
theorem opens63 : Opens Try.prog 63 k63 Wf63 := opens_struct Try.underlying63 (by kernel_rfl) (opensF_cons rfl opens9 (opensF_cons rfl opens3 (opensF_cons rfl opens3 (opensF_cons rfl opens3 (opensF_one rfl opens3))))) (fun x : S63 => (x.f0, x.f1, x.f2, x.f3, x.f4)) (fun a => ⟨a.1, a.2.1, a.2.2.1, a.2.2.2.1, a.2.2.2.2⟩) (fun _ => rfl)
theorem opens47 : Opens Try.prog 47 (Kd.slice 63 k63) (fun xs => xs.length * 48 ≤ 140737488351232 ∧ ∀ y ∈ xs, Wf63 y) := opens_slice Try.underlying47 (by kernel_rfl) (by kernel_rfl) opens63
end Go.Proofs.Ytbngmblgkkdhpaa.Q
