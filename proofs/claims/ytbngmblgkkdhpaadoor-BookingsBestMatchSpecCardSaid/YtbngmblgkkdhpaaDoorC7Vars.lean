/- What the walks read of package-level variables: the length up to which a piece of a string is looked for at once, and the table of the powers of ten; calls leave them. -/
-- Made by wip/tools/claimp.py of this session's texts; Lean checks it.
import Derived.Test.YtbngmblgkkdhpaaDoorC7Shelf
import Derived.Test.YtbngmblgkkdhpaaDoorC7Base
import Derived.Lib.LaidTab
import Derived.Lib.ItoaNum
import Derived.Below
set_option linter.unusedVariables false
namespace Go.Proofs.YtbngmblgkkdhpaaDoor.Base
open Go.RowKit Go.Proofs.YtbngmblgkkdhpaaDoorW.PrintWords
def maxLenG : Nat := Tryd.laysM145_ren.g 1
def VarsOK (w : World) : Prop := (∃ m, w.cell? ⟨maxLenG, 0, none⟩ = some (.int .i64 m)) ∧ Lib.TabIs Tryd.prog w "internal/strconv.uint64pow10" .u64 Lib.pow10Tab
theorem below_var {P : Program} {W W' : World} {n : String} {cs : Array Value} (h : Below W.heap.size W W') (hv : W.var? P n = some cs) : W'.var? P n = some cs := by
  unfold World.var? at hv ⊢
  cases hg : P.globalNamed n with
  | none => rw [hg] at hv; cases hv
  | some g =>
    simp only [hg, Option.bind_some] at hv ⊢
    by_cases hl : g < W.heap.size
    · rw [h.block g hl]
      exact hv
    · rw [Array.getElem?_eq_none (by omega)] at hv
      cases hv
theorem VarsOK.below {w w' : World} (h : VarsOK w) (hb : Below w.heap.size w w') : VarsOK w' := by
  obtain ⟨⟨m, hm⟩, ht⟩ := h
  exact ⟨⟨m, (hb.cell (World.block_lt_of_cell? w _ hm)).trans hm⟩, below_var hb ht⟩
end Go.Proofs.YtbngmblgkkdhpaaDoor.Base
