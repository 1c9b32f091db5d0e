/- Plain laws of chapter 9: LevelAt and Follow, by the level at each millisecond. -/
-- Made by wip/tools/claimp.py of this session's texts; Lean checks it.
import Derived.Test.YtplcdpiggpkppaaC11PowD
import Derived.Test.YtplcdpiggpkppaaC11Q0
import Derived.Test.YtplcdpiggpkppaaC11Ge8
import Derived.Test.YtplcdpiggpkppaaC11Ge1
import Derived.Test.YtplcdpiggpkppaaC11Ge3
import Derived.Test.YtplcdpiggpkppaaC11Ge6
set_option linter.unusedVariables false
set_option linter.unusedSimpArgs false
namespace Go.Proofs.Ytplcdpiggpkppaa.Q
open Go.RowKit Go.Proofs.YtplcdpiggpkppaaW.PrintWords Go.Proofs.YtplcdpiggpkppaaW.PrintLast Go.Proofs.YtplcdpiggpkppaaW.PrintMore Go.Proofs.Ytplcdpiggpkppaa.Base
theorem Segs.short {d : Int → Int} : ∀ {L : List (Int × Int × Int)} {a b : Int}, Segs d a b L → (L.length : Int) ≤ b - a
  | [], a, b, h => by have h' : a = b := h; subst h'; simp
  | p :: L, a, b, h => by
    obtain ⟨h1, h2, h3, h4, h5⟩ := h
    have := h5.short
    simp only [List.length_cons]
    omega
theorem Segs.last {d : Int → Int} : ∀ {L : List (Int × Int × Int)} {a b : Int}, Segs d a b L → L ≠ [] → ∃ L0 p, L = L0 ++ [p] ∧ p.2.1 = b
  | [], _, _, _, h => absurd rfl h
  | [p], a, b, h, _ => ⟨[], p, rfl, h.2.2.2.2⟩
  | p :: q :: L, a, b, h, _ => by
    obtain ⟨L0, z, hz, hb⟩ := Segs.last h.2.2.2.2 (by simp)
    exact ⟨p :: L0, z, by rw [hz]; rfl, hb⟩
end Go.Proofs.Ytplcdpiggpkppaa.Q
