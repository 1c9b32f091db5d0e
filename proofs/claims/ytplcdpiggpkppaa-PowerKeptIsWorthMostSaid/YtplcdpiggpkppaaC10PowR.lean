/- What the reference answers, in chapter 9's checks: the same. -/
-- Made by wip/tools/claimp.py of this session's texts; Lean checks it.
import Derived.Test.YtplcdpiggpkppaaC10PowC
import Derived.Test.YtplcdpiggpkppaaC10Ge1
import Derived.Test.YtplcdpiggpkppaaC10Ge2
import Derived.Test.YtplcdpiggpkppaaC10Ge3
import Derived.Test.YtplcdpiggpkppaaC10Ge6
import Derived.Test.YtplcdpiggpkppaaC10Ge7
import Derived.Test.YtplcdpiggpkppaaC10Ge8
set_option linter.unusedVariables false
set_option linter.unusedSimpArgs false
namespace Go.Proofs.Ytplcdpiggpkppaa.Q
open Go.RowKit Go.Proofs.YtplcdpiggpkppaaW.PrintWords Go.Proofs.YtplcdpiggpkppaaW.PrintLast Go.Proofs.YtplcdpiggpkppaaW.PrintMore Go.Proofs.Ytplcdpiggpkppaa.Base
theorem perigeeref9_loadOf_ev {l : List S76} (hl : l.length ≤ 50) (s : ByteArray) : ∃ a, IsAt l s a ∧ Ev (fun k => perigeeref9_loadOf.f k l s) (pickV l a) := by
  have loop : ∀ d i : Nat, i + d = l.length → (∀ m : Nat, m < i → nmL l m ≠ s.toList) → ∃ a, IsAt l s a ∧ Ev (fun k => perigeeref9_loadOf.l0 k s l (l.length : Int) (i : Int)) (pickV l a) := by
    intro d
    induction d with
    | zero =>
      intro i hi hlow
      refine ⟨none, fun m hm => hlow m (by omega), ?_⟩
      refine Ev.step (fun k => perigeeref9_loadOf.l0.eq_2 ..) ?_
      simp only [if_neg (show ¬ (i : Int) < l.length by omega)]
      exact Ev.now _
    | succ d ih =>
      intro i hi hlow
      by_cases e : nmL l i = s.toList
      · refine ⟨some i, ⟨by omega, e⟩, ?_⟩
        refine Ev.step (fun k => perigeeref9_loadOf.l0.eq_2 ..) ?_
        simp only [if_pos (show (i : Int) < l.length by omega), if_pos (show (0 : Int) ≤ i by omega), if_pos e]
        exact Ev.now _
      · obtain ⟨a, ha, hr⟩ := ih (i + 1) (by omega) (fun m hm => by
          by_cases q : m = i
          · subst q; exact e
          · exact hlow m (by omega))
        refine ⟨a, ha, ?_⟩
        refine Ev.step (fun k => perigeeref9_loadOf.l0.eq_2 ..) ?_
        simp only [if_pos (show (i : Int) < l.length by omega), if_pos (show (0 : Int) ≤ i by omega), if_neg e, w64 (x := (i : Int) + 1) (by omega) (by omega)]
        exact hr
  exact loop l.length 0 (by omega) (fun m hm => by omega)
theorem loadOf_is {l : List S76} (hl : GoodLoads l) (s : ByteArray) : Ev (fun k => perigeeref9_loadOf.f k l s) (loadV l s) := by
  obtain ⟨a, ha, h⟩ := perigeeref9_loadOf_ev hl.few s
  rw [ha.unique hl (atV_is l s)] at h
  exact h
end Go.Proofs.Ytplcdpiggpkppaa.Q
