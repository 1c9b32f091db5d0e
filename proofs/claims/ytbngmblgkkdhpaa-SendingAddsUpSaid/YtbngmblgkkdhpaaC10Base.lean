/- Small laws that the print's walks lack: comparisons of strings by <=, > and >=. -/
-- Made by wip/tools/claimp.py of this session's texts; Lean checks it.
import Derived.WalkLawsBesides
import Derived.Test.YtbngmblgkkdhpaaC10WWords
set_option linter.unusedVariables false
set_option linter.unusedSimpArgs false
namespace Go.Proofs.Ytbngmblgkkdhpaa.Base
open Go.RowKit Go.Proofs.YtbngmblgkkdhpaaW.PrintWords
theorem less_eq : ∀ (x y : List UInt8), Op.bytesLess x y = decide (x < y)
  | [], [] => by simp [Op.bytesLess]
  | [], _ :: _ => by simp [Op.bytesLess]
  | _ :: _, [] => by simp [Op.bytesLess]
  | a :: x, b :: y => by
    rw [Op.bytesLess, less_eq x y]
    by_cases h : a < b
    · simp [h, List.cons_lt_cons_iff]
    · by_cases e : a = b
      · subst e
        simp [List.cons_lt_cons_iff]
      · simp [h, e, List.cons_lt_cons_iff]
theorem lt_or_eq_iff (a b : List UInt8) : (a < b ∨ a = b) ↔ ¬ b < a := by
  constructor
  · rintro (h | rfl)
    · exact fun h' => List.lt_irrefl _ (List.lt_trans h h')
    · exact List.lt_irrefl _
  · intro h
    exact List.le_iff_lt_or_eq.1 (List.not_lt.1 h)
theorem less_or_eq (a b : List UInt8) : (Op.bytesLess a b || a == b) = !Op.bytesLess b a := by
  have h := lt_or_eq_iff a b
  rw [less_eq, less_eq]
  by_cases h1 : b < a
  · have : ¬ (a < b ∨ a = b) := fun h2 => h.1 h2 h1
    simp only [not_or] at this
    simp [h1, this.1, this.2]
  · rcases h.2 h1 with h2 | h2
    · simp [h1, h2]
    · simp [h1, h2]
theorem str_leq (t : TypeId) (a b : ByteArray) : binOp .leq t (.string a) (.string b) = pure (.bool (!(Op.bytesLess b.toList a.toList))) := by
  rw [binOp_string_leq, less_or_eq]
theorem str_gtr (t : TypeId) (a b : ByteArray) : binOp .gtr t (.string a) (.string b) = pure (.bool (Op.bytesLess b.toList a.toList)) := by
  rw [binOp_string_gtr, less_or_eq, Bool.not_not]
theorem str_geq (t : TypeId) (a b : ByteArray) : binOp .geq t (.string a) (.string b) = pure (.bool (!(Op.bytesLess a.toList b.toList))) := by
  rw [binOp_string_geq]
theorem bindS {α β} {x : Option α} {f : α → Option β} {r : β} (h : x.bind f = some r) : ∃ t, Aside0 (x = some t) ∧ f t = some r := by
  obtain ⟨t, a, b⟩ := Option.bind_eq_some_iff.mp h
  exact ⟨t, ⟨a⟩, b⟩
theorem iteT {α} {a b r : α} (h : (if true = true then a else b) = r) : a = r := by rw [if_pos rfl] at h; exact h
theorem iteF {α} {a b r : α} (h : (if false = true then a else b) = r) : b = r := by rw [if_neg (show ¬ (false = true) by decide)] at h; exact h
theorem blkC2 {w : World} {g : Nat} {t : TypeId} {a0 a1 : Value} (h : w.heap[g]? = some (.cells #[a0, a1] t (0, 0))) : w.cell? ⟨g, 0, none⟩ = some a0 ∧ w.cell? ⟨g, 1, none⟩ = some a1 := ⟨(blk_cell h 0).trans rfl, (blk_cell h 1).trans rfl⟩
theorem blkC4 {w : World} {g : Nat} {t : TypeId} {a0 a1 a2 a3 : Value} (h : w.heap[g]? = some (.cells #[a0, a1, a2, a3] t (0, 0))) : w.cell? ⟨g, 0, none⟩ = some a0 ∧ w.cell? ⟨g, 1, none⟩ = some a1 ∧ w.cell? ⟨g, 2, none⟩ = some a2 ∧ w.cell? ⟨g, 3, none⟩ = some a3 := ⟨(blk_cell h 0).trans rfl, (blk_cell h 1).trans rfl, (blk_cell h 2).trans rfl, (blk_cell h 3).trans rfl⟩
theorem blkC5 {w : World} {g : Nat} {t : TypeId} {a0 a1 a2 a3 a4 : Value} (h : w.heap[g]? = some (.cells #[a0, a1, a2, a3, a4] t (0, 0))) : w.cell? ⟨g, 0, none⟩ = some a0 ∧ w.cell? ⟨g, 1, none⟩ = some a1 ∧ w.cell? ⟨g, 2, none⟩ = some a2 ∧ w.cell? ⟨g, 3, none⟩ = some a3 ∧ w.cell? ⟨g, 4, none⟩ = some a4 := ⟨(blk_cell h 0).trans rfl, (blk_cell h 1).trans rfl, (blk_cell h 2).trans rfl, (blk_cell h 3).trans rfl, (blk_cell h 4).trans rfl⟩
theorem guardT {c : Prop} [Decidable c] {α : Type} {a : Option α} {r : α} (h : (if c then a else none) = some r) : c ∧ a = some r := by
  by_cases hc : c
  · rw [if_pos hc] at h; exact ⟨hc, h⟩
  · rw [if_neg hc] at h; cases h
theorem C_go {α : Type} {K : Kd α} {w w' : World} {A : Option Addr} {n : Nat} {xs : List α} (h : K.C w A n xs) (hs : K.C w A n xs → K.C w' A n xs := by intro h_; repeat (first | exact h_ | (with_reducible refine Kd.C_alloc ?_ _) | (with_reducible refine Kd.C_drewN ?_ _) | (with_reducible refine Kd.C_drew ?_))) : K.C w' A n xs := hs h
theorem cellB {w w' : World} {ad : Addr} {v : Value} (h : Below w.heap.size w w') (hc : w.cell? ad = some v) : w'.cell? ad = some v := (h.cell (World.block_lt_of_cell? w _ hc)).trans hc
end Go.Proofs.Ytbngmblgkkdhpaa.Base
