/- Small laws on answers that come with enough rounds. -/
-- Made by wip/tools/claimp.py of this session's texts; Lean checks it.
import Derived.Test.YtbngmblgkkdhpaaC10Base
import Derived.Lib.Bytealg
set_option linter.unusedVariables false
set_option linter.unusedSimpArgs false
namespace Go.Proofs.Ytbngmblgkkdhpaa.Q
open Go.RowKit Go.Proofs.YtbngmblgkkdhpaaW.PrintWords
theorem w64 {x : Int} (h1 : -9223372036854775808 ≤ x) (h2 : x ≤ 9223372036854775807) : wrap64 x = x := by unfold wrap64; omega
/-- One answer, whatever the rounds. -/
theorem Ev.unique {α : Type} {g : Nat → Option α} {a b : α} (h : Ev g a) (k : Ev g b) : a = b := by
  obtain ⟨K, h⟩ := h
  obtain ⟨K', k⟩ := k
  have h1 := h (max K K') (by omega)
  have h2 := k (max K K') (by omega)
  rw [h1] at h2
  exact Option.some.inj h2
theorem Ev.to {α : Type} {g : Nat → Option α} {a b : α} (h : Ev g a) (e : a = b) : Ev g b := e ▸ h
theorem Ev.is {α : Type} {a b : α} (e : a = b) : Ev (fun _ => some a) b := e ▸ Ev.now a
/-- A loop over a counter: from the end down. -/
theorem Ev.loop {α : Type} {L : Nat → Nat → Option α} {v : Nat → α} (n : Nat) (fin : Ev (fun k => L k n) (v n)) (step : ∀ i, i < n → Ev (fun k => L k (i + 1)) (v (i + 1)) → Ev (fun k => L k i) (v i)) : ∀ d i : Nat, i + d = n → Ev (fun k => L k i) (v i)
  | 0, i, h => by
    obtain rfl : i = n := by omega
    exact fin
  | d + 1, i, h => step i (by omega) (Ev.loop n fin step d (i + 1) (by omega))
/-- Strings: compared. -/
theorem compare_neg : ∀ a b : List UInt8, Lib.compareBytes a b < 0 ↔ Op.bytesLess a b = true
  | [], [] => by simp [Lib.compareBytes, Op.bytesLess]
  | [], _ :: _ => by simp [Lib.compareBytes, Op.bytesLess]
  | _ :: _, [] => by simp [Lib.compareBytes, Op.bytesLess]
  | a :: as, b :: bs => by
    have ih := compare_neg as bs
    rw [Base.less_eq] at ih ⊢
    unfold Lib.compareBytes
    rw [decide_eq_true_iff] at ih ⊢
    rw [List.cons_lt_cons_iff]
    by_cases h1 : a < b
    · simp [h1]
    · by_cases h2 : b < a
      · have : a ≠ b := by rintro rfl; exact UInt8.lt_irrefl _ h2
        simp [h1, h2, this]
      · have : a = b := UInt8.le_antisymm (UInt8.not_lt.1 h2) (UInt8.not_lt.1 h1)
        simp [h1, h2, this, ih]
end Go.Proofs.Ytbngmblgkkdhpaa.Q
