/- Several texts in one. -/
import Derived.Test.YtplcdpiggpkppaaC13Q0
import Derived.Test.YtplcdpiggpkppaaC13Opens
import Derived.Test.YtplcdpiggpkppaaC13L12
section
-- Made by wip/tools/claimp.py of this session's texts; Lean checks it.
namespace Go.Proofs.Ytplcdpiggpkppaa.Q
open Go.RowKit Go.Proofs.YtplcdpiggpkppaaW.PrintWords Go.Proofs.Ytplcdpiggpkppaa.Opens
theorem opens3 : Opens Try.prog 3 (Kd.int .i64) (fun x => (Lit.int .i64 x).wf = true) := opens_int Try.underlying3 (by kernel_rfl)
def Wf23 (x : S23) : Prop := ((Lit.int .i64 x.f0).wf = true) ∧ ((Lit.int .i64 x.f1).wf = true) ∧ ((Lit.int .i64 x.f2).wf = true) ∧ ((Lit.int .i64 x.f3).wf = true) ∧ ((Lit.int .i64 x.f4).wf = true)
theorem opens23 : Opens Try.prog 23 k23 Wf23 := opens_struct Try.underlying23 (by kernel_rfl) (opensF_cons rfl opens3 (opensF_cons rfl opens3 (opensF_cons rfl opens3 (opensF_cons rfl opens3 (opensF_one rfl opens3))))) (fun x : S23 => (x.f0, x.f1, x.f2, x.f3, x.f4)) (fun a => ⟨a.1, a.2.1, a.2.2.1, a.2.2.2.1, a.2.2.2.2⟩) (fun _ => rfl)
def Wf72 (x : S72) : Prop := ((Lit.int .i64 x.f0).wf = true) ∧ ((Lit.int .i64 x.f1).wf = true)
theorem opens72 : Opens Try.prog 72 k72 Wf72 := opens_struct Try.underlying72 (by kernel_rfl) (opensF_cons rfl opens3 (opensF_one rfl opens3)) (fun x : S72 => (x.f0, x.f1)) (fun a => ⟨a.1, a.2⟩) (fun _ => rfl)
theorem opens24 : Opens Try.prog 24 (Kd.slice 72 k72) (fun xs => xs.length * 16 ≤ 140737488351232 ∧ ∀ y ∈ xs, Wf72 y) := opens_slice Try.underlying24 (by kernel_rfl) (by kernel_rfl) opens72
theorem opens9 : Opens Try.prog 9 Kd.string (fun x => x.size ≤ 140737488351232) := opens_str Try.underlying9 (by kernel_rfl)
def Wf76 (x : S76) : Prop := (x.f0.size ≤ 140737488351232) ∧ ((Lit.int .i64 x.f1).wf = true) ∧ ((Lit.int .i64 x.f2).wf = true)
theorem opens76 : Opens Try.prog 76 k76 Wf76 := opens_struct Try.underlying76 (by kernel_rfl) (opensF_cons rfl opens9 (opensF_cons rfl opens3 (opensF_one rfl opens3))) (fun x : S76 => (x.f0, x.f1, x.f2)) (fun a => ⟨a.1, a.2.1, a.2.2⟩) (fun _ => rfl)
theorem opens25 : Opens Try.prog 25 (Kd.slice 76 k76) (fun xs => xs.length * 32 ≤ 140737488351232 ∧ ∀ y ∈ xs, Wf76 y) := opens_slice Try.underlying25 (by kernel_rfl) (by kernel_rfl) opens76
def Wf47 (x : S47) : Prop := (x.f0.size ≤ 140737488351232) ∧ ((Lit.int .i64 x.f1).wf = true) ∧ ((Lit.int .i64 x.f2).wf = true)
theorem opens47 : Opens Try.prog 47 k47 Wf47 := opens_struct Try.underlying47 (by kernel_rfl) (opensF_cons rfl opens9 (opensF_cons rfl opens3 (opensF_one rfl opens3))) (fun x : S47 => (x.f0, x.f1, x.f2)) (fun a => ⟨a.1, a.2.1, a.2.2⟩) (fun _ => rfl)
theorem opens26 : Opens Try.prog 26 (Kd.slice 47 k47) (fun xs => xs.length * 32 ≤ 140737488351232 ∧ ∀ y ∈ xs, Wf47 y) := opens_slice Try.underlying26 (by kernel_rfl) (by kernel_rfl) opens47
end Go.Proofs.Ytplcdpiggpkppaa.Q
end

section
-- Made by wip/tools/claimp.py of this session's texts; Lean checks it.
namespace Go.Proofs.Ytplcdpiggpkppaa.Q
open Go.RowKit
def perigeelaw9_PowerShedMatchesSpec.Pure : Prop := ∀ (x0 : S23) (l1 : List (S72)) (l2 : List (S76)) (l3 : List (S47)) (a4 : Int), (Wf23 x0) → (l1.length * 16 ≤ 140737488351232 ∧ ∀ y ∈ l1, Wf72 y) → (l2.length * 32 ≤ 140737488351232 ∧ ∀ y ∈ l2, Wf76 y) → (l3.length * 32 ≤ 140737488351232 ∧ ∀ y ∈ l3, Wf47 y) → ((Lit.int .i64 a4).wf = true) → ∃ k, perigeelaw9_PowerShedMatchesSpec.f k x0.f0 x0.f1 x0.f2 x0.f3 x0.f4 l1 l2 l3 a4 = some true
end Go.Proofs.Ytplcdpiggpkppaa.Q
end
