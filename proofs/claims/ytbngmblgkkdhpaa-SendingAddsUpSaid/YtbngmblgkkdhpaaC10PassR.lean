/- Plain laws: the reference's checks of passes and volumes answer as the program's. -/
-- Made by wip/tools/claimp.py of this session's texts; Lean checks it.
import Derived.Test.YtbngmblgkkdhpaaC10PassA
import Derived.Test.YtbngmblgkkdhpaaC10Gs13
set_option linter.unusedVariables false
set_option linter.unusedSimpArgs false
namespace Go.Proofs.Ytbngmblgkkdhpaa.Q
open Go.RowKit Go.Proofs.YtbngmblgkkdhpaaW.PrintWords Go.Proofs.YtbngmblgkkdhpaaW.PrintLast Go.Proofs.YtbngmblgkkdhpaaW.PrintMore Go.Proofs.Ytbngmblgkkdhpaa.Base
def Lt (a b : ByteArray) : Prop := Op.bytesLess a.toList b.toList = true
theorem Lt_iff {a b : ByteArray} : Lt a b ↔ a.toList < b.toList := by unfold Lt; rw [less_eq]; simp
theorem toList_inj {a b : ByteArray} (h : a.toList = b.toList) : a = b := by
  rw [ByteArray.toList_eq, ByteArray.toList_eq] at h
  cases a; cases b
  simp at h
  simpa using h
theorem Lt_trans {a b c : ByteArray} (h : Lt a b) (k : Lt b c) : Lt a c := Lt_iff.2 (List.lt_trans (Lt_iff.1 h) (Lt_iff.1 k))
theorem Lt_irrefl {a : ByteArray} : ¬ Lt a a := fun h => List.lt_irrefl _ (Lt_iff.1 h)
end Go.Proofs.Ytbngmblgkkdhpaa.Q
