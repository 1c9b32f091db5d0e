/- Plain laws of chapter 9: what changes the level, the pieces that flow tells, and the level at a moment. -/
-- Made by wip/tools/claimp.py of this session's texts; Lean checks it.
import Derived.Test.YtplcdpiggpkppaaC11PowC
import Derived.Test.YtplcdpiggpkppaaC11Sem2
import Derived.Test.YtplcdpiggpkppaaC11Q0
import Derived.Test.YtplcdpiggpkppaaC11Ge8
import Derived.Test.YtplcdpiggpkppaaC11Ge1
import Derived.Test.YtplcdpiggpkppaaC11Ge3
import Derived.Test.YtplcdpiggpkppaaC11Ge6
set_option linter.unusedVariables false
set_option linter.unusedSimpArgs false
namespace Go.Proofs.Ytplcdpiggpkppaa.Q
open Go.RowKit Go.Proofs.YtplcdpiggpkppaaW.PrintWords Go.Proofs.YtplcdpiggpkppaaW.PrintLast Go.Proofs.YtplcdpiggpkppaaW.PrintMore Go.Proofs.Ytplcdpiggpkppaa.Base
/-- A battery that is right, its sun, its loads, its uses. -/
structure Good (r lv sn bs fl : Int) (s : List S72) (l : List S76) (u : List S47) : Prop where
  cell : (1 ≤ r ∧ r ≤ 1000000000000) ∧ (0 ≤ lv ∧ lv ≤ r) ∧ (0 ≤ sn ∧ sn ≤ 100000) ∧ (0 ≤ bs ∧ bs ≤ 100000) ∧ (0 ≤ fl ∧ fl ≤ r)
  sun : sunV s = 0
  uses : GoodUses l u
theorem mem_addsOf {x : Int × Int} : ∀ {E : List (Int × Int × Int)}, x ∈ addsOf E → ∃ e ∈ E, x = (e.1, e.2.2) ∨ x = (e.2.1, -e.2.2)
  | [], h => by cases h
  | e :: E, h => by
    unfold addsOf at h
    rcases List.mem_cons.1 h with q | q
    · exact ⟨e, List.mem_cons_self, .inl q⟩
    · rcases List.mem_cons.1 q with q | q
      · exact ⟨e, List.mem_cons_self, .inr q⟩
      · obtain ⟨y, hy, hx⟩ := mem_addsOf q
        exact ⟨y, List.mem_cons_of_mem _ hy, hx⟩
theorem Segs.inside {d : Int → Int} : ∀ {L : List (Int × Int × Int)} {a b : Int}, Segs d a b L → ∀ p ∈ L, a ≤ p.1 ∧ p.1 < p.2.1 ∧ p.2.1 ≤ b ∧ d p.1 = p.2.2
  | [], _, _, _, p, hp => by cases hp
  | q :: L, a, b, h, p, hp => by
    obtain ⟨h1, h2, h3, h4, h5⟩ := h
    rcases List.mem_cons.1 hp with e | e
    · subst e
      exact ⟨by omega, h2, h3, h4 _ (Int.le_refl _) h2⟩
    · obtain ⟨k1, k2, k3, k4⟩ := h5.inside p e
      exact ⟨by omega, k2, k3, k4⟩
end Go.Proofs.Ytplcdpiggpkppaa.Q
