/- Several texts in one. -/
import Derived.Test.YtplcdpiggpkppaaC13PowM
import Derived.Test.YtplcdpiggpkppaaC13Ge18
import Derived.Test.YtplcdpiggpkppaaC13Ge16
import Derived.Test.YtplcdpiggpkppaaC13Ge15
import Derived.Test.YtplcdpiggpkppaaC13Ge19
section
/- Plain laws of chapter 9: which uses are kept at best, as the program and the reference tell. -/
-- Made by wip/tools/claimp.py of this session's texts; Lean checks it.
set_option linter.unusedVariables false
set_option linter.unusedSimpArgs false
namespace Go.Proofs.Ytplcdpiggpkppaa.Q
open Go.RowKit Go.Proofs.YtplcdpiggpkppaaW.PrintWords Go.Proofs.YtplcdpiggpkppaaW.PrintLast Go.Proofs.YtplcdpiggpkppaaW.PrintMore Go.Proofs.Ytplcdpiggpkppaa.Base
theorem Good.sub {r lv sn bs fl : Int} {s : List S72} {l : List S76} {u v : List S47} (h : Good r lv sn bs fl s l u) (hs : v.Sublist u) : Good r lv sn bs fl s l v := ⟨h.cell, h.sun, h.uses.sub hs⟩
/-- A set has the use of a number. -/
def bitOn (m : Int) (i : Nat) : Prop := (Go.bits .and .i64 (shr .i64 m (i : Int)) 1) = 1
instance (m : Int) (i : Nat) : Decidable (bitOn m i) := by unfold bitOn; exact inferInstance
end Go.Proofs.Ytplcdpiggpkppaa.Q
end

section
/- Plain laws of chapter 9: fewer and shorter uses leave more; the least level to begin with, as the program and the reference find it. -/
-- Made by wip/tools/claimp.py of this session's texts; Lean checks it.
set_option linter.unusedVariables false
set_option linter.unusedSimpArgs false
namespace Go.Proofs.Ytplcdpiggpkppaa.Q
open Go.RowKit Go.Proofs.YtplcdpiggpkppaaW.PrintWords Go.Proofs.YtplcdpiggpkppaaW.PrintLast Go.Proofs.YtplcdpiggpkppaaW.PrintMore Go.Proofs.Ytplcdpiggpkppaa.Base
/-- With so much at first the level is somewhere below the floor. -/
def Short (r sn bs fl : Int) (s : List S72) (l : List S76) (u : List S47) (n v : Int) : Prop := ∃ j : Nat, j ≤ n.toNat ∧ lvV r v sn bs s l u j < fl
/-- What is told of the least level. -/
def IsLeast (r sn bs fl : Int) (s : List S72) (l : List S76) (u : List S47) (n m : Int) (ok : Bool) : Prop :=
  if ok = true then (0 ≤ m ∧ m ≤ r) ∧ ¬ Short r sn bs fl s l u n m ∧ ∀ v, 0 ≤ v → v < m → Short r sn bs fl s l u n v else m = 0 ∧ ∀ v, 0 ≤ v → v ≤ r → Short r sn bs fl s l u n v
theorem IsLeast.unique {r sn bs fl : Int} {s : List S72} {l : List S76} {u : List S47} {n m m' : Int} {ok ok' : Bool} (h : IsLeast r sn bs fl s l u n m ok) (h' : IsLeast r sn bs fl s l u n m' ok') : m = m' ∧ ok = ok' := by
  unfold IsLeast at h h'
  cases ok <;> cases ok' <;> simp only [if_true, if_neg Bool.false_ne_true] at h h'
  · exact ⟨by omega, rfl⟩
  · exact absurd (h.2 m' h'.1.1 h'.1.2) h'.2.1
  · exact absurd (h'.2 m h.1.1 h.1.2) h.2.1
  · refine ⟨?_, rfl⟩
    rcases Int.lt_trichotomy m m' with q | q | q
    · exact absurd (h'.2.2 m h.1.1 q) h.2.1
    · exact q
    · exact absurd (h.2.2 m' h'.1.1 q) h'.2.1
end Go.Proofs.Ytplcdpiggpkppaa.Q
end
