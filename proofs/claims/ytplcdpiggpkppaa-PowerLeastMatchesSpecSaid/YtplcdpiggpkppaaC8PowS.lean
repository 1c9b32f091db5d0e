/- Plain laws of chapter 9: which uses are kept at best, as the program and the reference tell. -/
-- Made by wip/tools/claimp.py of this session's texts; Lean checks it.
import Derived.Test.YtplcdpiggpkppaaC8PowM
import Derived.Test.YtplcdpiggpkppaaC8Q0
import Derived.Test.YtplcdpiggpkppaaC8Ge13
import Derived.Test.YtplcdpiggpkppaaC8Ge15
import Derived.Test.YtplcdpiggpkppaaC8Ge3
import Derived.Test.YtplcdpiggpkppaaC8Ge8
import Derived.Test.YtplcdpiggpkppaaC8Ge5
import Derived.Test.YtplcdpiggpkppaaC8Ge9
set_option linter.unusedVariables false
set_option linter.unusedSimpArgs false
namespace Go.Proofs.Ytplcdpiggpkppaa.Q
open Go.RowKit Go.Proofs.YtplcdpiggpkppaaW.PrintWords Go.Proofs.YtplcdpiggpkppaaW.PrintLast Go.Proofs.YtplcdpiggpkppaaW.PrintMore Go.Proofs.Ytplcdpiggpkppaa.Base
/-- With so many uses the level is never below the floor. -/
def Fits (r lv sn bs fl : Int) (s : List S72) (l : List S76) (u : List S47) (n : Int) : Prop := ∀ j : Nat, j ≤ n.toNat → fl ≤ lvV r lv sn bs s l u j
theorem first_fits {r lv sn bs fl : Int} {s : List S72} {l : List S76} {u : List S47} {n : Int} {o : Option Nat} (h : IsFirst (lvV r lv sn bs s l u) n.toNat fl o) : o = none ↔ Fits r lv sn bs fl s l u n := by
  cases o with
  | none => exact ⟨fun _ => h, fun _ => rfl⟩
  | some k => exact ⟨fun e => (by cases e), fun q => by have := q k h.1; have := h.2.1; omega⟩
/-- A set has the use of a number. -/
def bitOn (m : Int) (i : Nat) : Prop := (Go.bits .and .i64 (shr .i64 m (i : Int)) 1) = 1
instance (m : Int) (i : Nat) : Decidable (bitOn m i) := by unfold bitOn; exact inferInstance
end Go.Proofs.Ytplcdpiggpkppaa.Q
