/- Small laws that the print's walks lack: comparisons of strings by <=, > and >=. -/
import Derived.WalkLawsBesides
import Derived.Test.YtbngmblgkkdhpaaWWords
set_option linter.unusedVariables false
set_option linter.unusedSimpArgs false
namespace Go.Proofs.Ytbngmblgkkdhpaa.Base
open Go.RowKit

theorem less_eq : ∀ (x y : List UInt8), Op.bytesLess x y = decide (x < y)
  | [], [] => by simp [Op.bytesLess]
  | [], _ :: _ => by simp [Op.bytesLess]
  | _ :: _, [] => by simp [Op.bytesLess]
  | a :: x, b :: y => by
    rw [Op.bytesLess, less_eq x y]
    by_cases h : a < b
    · simp [h, List.cons_lt_cons_iff]
    · by_cases e : a = b
      · subst e
        simp [List.cons_lt_cons_iff]
      · simp [h, e, List.cons_lt_cons_iff]
theorem lt_or_eq_iff (a b : List UInt8) : (a < b ∨ a = b) ↔ ¬ b < a := by
  constructor
  · rintro (h | rfl)
    · exact fun h' => List.lt_irrefl _ (List.lt_trans h h')
    · exact List.lt_irrefl _
  · intro h
    exact List.le_iff_lt_or_eq.1 (List.not_lt.1 h)
theorem less_or_eq (a b : List UInt8) : (Op.bytesLess a b || a == b) = !Op.bytesLess b a := by
  have h := lt_or_eq_iff a b
  rw [less_eq, less_eq]
  by_cases h1 : b < a
  · have : ¬ (a < b ∨ a = b) := fun h2 => h.1 h2 h1
    simp only [not_or] at this
    simp [h1, this.1, this.2]
  · rcases h.2 h1 with h2 | h2
    · simp [h1, h2]
    · simp [h1, h2]
theorem str_leq (t : TypeId) (a b : ByteArray) : binOp .leq t (.string a) (.string b) = pure (.bool (!(Op.bytesLess b.toList a.toList))) := by
  rw [binOp_string_leq, less_or_eq]
theorem str_gtr (t : TypeId) (a b : ByteArray) : binOp .gtr t (.string a) (.string b) = pure (.bool (Op.bytesLess b.toList a.toList)) := by
  rw [binOp_string_gtr, less_or_eq, Bool.not_not]
theorem str_geq (t : TypeId) (a b : ByteArray) : binOp .geq t (.string a) (.string b) = pure (.bool (!(Op.bytesLess a.toList b.toList))) := by
  rw [binOp_string_geq]
end Go.Proofs.Ytbngmblgkkdhpaa.Base
