/- Small laws on answers that come with enough rounds. -/
-- Made by wip/tools/claimp.py of this session's texts; Lean checks it.
import Derived.Test.YtplcdpiggpkppaaDoorC2Base
import Derived.Lib.Bytealg
set_option linter.unusedVariables false
set_option linter.unusedSimpArgs false
namespace Go.Proofs.YtplcdpiggpkppaaDoor.Q
open Go.RowKit Go.Proofs.YtplcdpiggpkppaaDoorW.PrintWords
theorem w64 {x : Int} (h1 : -9223372036854775808 ≤ x) (h2 : x ≤ 9223372036854775807) : wrap64 x = x := by unfold wrap64; omega
/-- One answer, whatever the rounds. -/
theorem Ev.unique {α : Type} {g : Nat → Option α} {a b : α} (h : Ev g a) (k : Ev g b) : a = b := by
  obtain ⟨K, h⟩ := h
  obtain ⟨K', k⟩ := k
  have h1 := h (max K K') (by omega)
  have h2 := k (max K K') (by omega)
  rw [h1] at h2
  exact Option.some.inj h2
theorem Ev.ite {α : Type} {c : Prop} [Decidable c] {A B : Nat → Option α} {v : α} (h1 : c → Ev A v) (h2 : ¬ c → Ev B v) : Ev (fun k => if c then A k else B k) v := by
  by_cases h : c
  · simp only [if_pos h]; exact h1 h
  · simp only [if_neg h]; exact h2 h
theorem Ev.to {α : Type} {g : Nat → Option α} {a b : α} (h : Ev g a) (e : a = b) : Ev g b := e ▸ h
theorem Ev.is {α : Type} {a b : α} (e : a = b) : Ev (fun _ => some a) b := e ▸ Ev.now a
/-- A loop over a counter: from the end down. -/
theorem Ev.loop {α : Type} {L : Nat → Nat → Option α} {v : Nat → α} (n : Nat) (fin : Ev (fun k => L k n) (v n)) (step : ∀ i, i < n → Ev (fun k => L k (i + 1)) (v (i + 1)) → Ev (fun k => L k i) (v i)) : ∀ d i : Nat, i + d = n → Ev (fun k => L k i) (v i)
  | 0, i, h => by
    obtain rfl : i = n := by omega
    exact fin
  | d + 1, i, h => step i (by omega) (Ev.loop n fin step d (i + 1) (by omega))
/-- Strings: compared. -/
theorem compare_neg : ∀ a b : List UInt8, Lib.compareBytes a b < 0 ↔ Op.bytesLess a b = true
  | [], [] => by simp [Lib.compareBytes, Op.bytesLess]
  | [], _ :: _ => by simp [Lib.compareBytes, Op.bytesLess]
  | _ :: _, [] => by simp [Lib.compareBytes, Op.bytesLess]
  | a :: as, b :: bs => by
    have ih := compare_neg as bs
    rw [Base.less_eq] at ih ⊢
    unfold Lib.compareBytes
    rw [decide_eq_true_iff] at ih ⊢
    rw [List.cons_lt_cons_iff]
    by_cases h1 : a < b
    · simp [h1]
    · by_cases h2 : b < a
      · have : a ≠ b := by rintro rfl; exact UInt8.lt_irrefl _ h2
        simp [h1, h2, this]
      · have : a = b := UInt8.le_antisymm (UInt8.not_lt.1 h2) (UInt8.not_lt.1 h1)
        simp [h1, h2, this, ih]
theorem compare_zero : ∀ a b : List UInt8, Lib.compareBytes a b = 0 ↔ a = b
  | [], [] => by simp [Lib.compareBytes]
  | [], _ :: _ => by simp [Lib.compareBytes]
  | _ :: _, [] => by simp [Lib.compareBytes]
  | a :: as, b :: bs => by
    have ih := compare_zero as bs
    unfold Lib.compareBytes
    by_cases h1 : a < b
    · have : a ≠ b := by rintro rfl; exact UInt8.lt_irrefl _ h1
      simp [h1, this]
    · by_cases h2 : b < a
      · have : a ≠ b := by rintro rfl; exact UInt8.lt_irrefl _ h2
        simp [h1, h2, this]
      · have : a = b := UInt8.le_antisymm (UInt8.not_lt.1 h2) (UInt8.not_lt.1 h1)
        simp [h1, h2, this, ih]
theorem less_iff (a b : List UInt8) : Op.bytesLess a b = true ↔ a < b := by rw [Base.less_eq, decide_eq_true_iff]
theorem less_trans {a b c : List UInt8} (h : Op.bytesLess a b = true) (k : Op.bytesLess b c = true) : Op.bytesLess a c = true := by
  rw [less_iff] at *
  exact List.lt_trans h k
theorem less_irrefl (a : List UInt8) : ¬ Op.bytesLess a a = true := by
  rw [less_iff]
  exact List.lt_irrefl a
theorem less_total {a b : List UInt8} (h : ¬ Op.bytesLess a b = true) (hne : a ≠ b) : Op.bytesLess b a = true := by
  rw [less_iff] at *
  have := (Base.lt_or_eq_iff b a).2 h
  rcases this with q | q
  · exact q
  · exact absurd q.symm hne
end Go.Proofs.YtplcdpiggpkppaaDoor.Q
