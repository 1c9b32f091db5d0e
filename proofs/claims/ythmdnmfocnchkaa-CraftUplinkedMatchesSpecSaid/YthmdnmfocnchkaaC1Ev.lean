/- Small laws on answers that come with enough rounds. -/
-- Made by wip/tools/claimp.py of this session's texts; Lean checks it.
import Derived.Test.YthmdnmfocnchkaaC1Base
import Derived.Lib.Bytealg
set_option linter.unusedVariables false
set_option linter.unusedSimpArgs false
namespace Go.Proofs.Ythmdnmfocnchkaa.Q
open Go.RowKit Go.Proofs.YthmdnmfocnchkaaW.PrintWords
theorem w64 {x : Int} (h1 : -9223372036854775808 ≤ x) (h2 : x ≤ 9223372036854775807) : wrap64 x = x := by unfold wrap64; omega
theorem Ev.ite {α : Type} {c : Prop} [Decidable c] {A B : Nat → Option α} {v : α} (h1 : c → Ev A v) (h2 : ¬ c → Ev B v) : Ev (fun k => if c then A k else B k) v := by
  by_cases h : c
  · simp only [if_pos h]; exact h1 h
  · simp only [if_neg h]; exact h2 h
theorem Ev.to {α : Type} {g : Nat → Option α} {a b : α} (h : Ev g a) (e : a = b) : Ev g b := e ▸ h
theorem Ev.is {α : Type} {a b : α} (e : a = b) : Ev (fun _ => some a) b := e ▸ Ev.now a
/-- A loop over a counter: from the end down. -/
theorem Ev.loop {α : Type} {L : Nat → Nat → Option α} {v : Nat → α} (n : Nat) (fin : Ev (fun k => L k n) (v n)) (step : ∀ i, i < n → Ev (fun k => L k (i + 1)) (v (i + 1)) → Ev (fun k => L k i) (v i)) : ∀ d i : Nat, i + d = n → Ev (fun k => L k i) (v i)
  | 0, i, h => by
    obtain rfl : i = n := by omega
    exact fin
  | d + 1, i, h => step i (by omega) (Ev.loop n fin step d (i + 1) (by omega))
end Go.Proofs.Ythmdnmfocnchkaa.Q
