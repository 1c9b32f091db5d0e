/- Plain laws of chapter 9: what the reference tells of the level at a moment. -/
-- Made by wip/tools/claimp.py of this session's texts; Lean checks it.
import Derived.Test.YtplcdpiggpkppaaC13PowI
import Derived.Test.YtplcdpiggpkppaaC13Q0
import Derived.Test.YtplcdpiggpkppaaC13Ge11
import Derived.Test.YtplcdpiggpkppaaC13Ge13
import Derived.Test.YtplcdpiggpkppaaC13Ge8
import Derived.Test.YtplcdpiggpkppaaC13Ge9
set_option linter.unusedVariables false
set_option linter.unusedSimpArgs false
namespace Go.Proofs.Ytplcdpiggpkppaa.Q
open Go.RowKit Go.Proofs.YtplcdpiggpkppaaW.PrintWords Go.Proofs.YtplcdpiggpkppaaW.PrintLast Go.Proofs.YtplcdpiggpkppaaW.PrintMore Go.Proofs.Ytplcdpiggpkppaa.Base
theorem ref_ask_ev (r lv sn bs fl : Int) (s : List S72) (l : List S76) (u : List S47) (n : Int) : Ev (fun k => perigeeref9_ask.f k r lv sn bs fl s l u n) (checkF r lv sn bs fl s l u n) := by
  unfold checkF
  simp only [perigeeref9_ask.f, perigeeref9_CheckCell_eq, within_eq, Option.bind_some, firstV, decide_eq_true_eq]
  refine Ev.ite (fun h1 => ?_) (fun h1 => Ev.is (if_neg h1).symm)
  rw [if_pos h1]
  refine Ev.bind (perigeeref9_CheckSun_ev s) ?_
  refine Ev.ite (fun h2 => ?_) (fun h2 => Ev.is (if_neg h2).symm)
  rw [if_pos h2]
  refine Ev.bind (perigeeref9_CheckUses_ev l u) ?_
  refine Ev.ite (fun h3 => ?_) (fun h3 => Ev.is (if_neg h3).symm)
  rw [if_pos h3]
  refine Ev.ite (fun h4 => ?_) (fun h4 => ?_)
  · exact Ev.is (by rw [if_pos h4]; rfl)
  · exact Ev.is (by rw [if_neg h4]; rfl)
theorem rd_leg {M : List S96} {i : Nat} {g : S96} {m : List S96} (h : M.drop i = g :: m) : rd_T96 M (i : Int) = g ∧ i < M.length ∧ M.drop (i + 1) = m := by
  have hi : i < M.length := by
    apply Classical.byContradiction
    intro q
    rw [List.drop_of_length_le (by omega)] at h
    cases h
  rw [List.drop_eq_getElem_cons hi] at h
  injection h with h1 h2
  refine ⟨?_, hi, h2⟩
  unfold rd_T96
  rw [List.getD_eq_getElem?_getD, Int.toNat_natCast, List.getElem?_eq_getElem hi, ← h1]
  rfl
theorem attach_length (r : Int) : ∀ (L : List (Int × Int × Int)) (x : Int), (attach r x L).length = L.length
  | [], _ => rfl
  | p :: L, x => by show (attach r (overP r x p) L).length + 1 = _; rw [attach_length r L]; rfl
theorem leg_step {r lv sn bs fl : Int} {s : List S72} {l : List S76} {u : List S47} (h : Good r lv sn bs fl s l u) {n a : Int} (ha : 0 ≤ a) {p : Int × Int × Int} {L : List (Int × Int × Int)} (hs : Segs (dV sn bs s l u) a n (p :: L)) :
    p.1 = a ∧ (p.1 < p.2.1 ∧ p.2.1 ≤ n) ∧ overP r (lvV r lv sn bs s l u a.toNat) p = lvV r lv sn bs s l u p.2.1.toNat ∧ Segs (dV sn bs s l u) p.2.1 n L ∧ (∀ t, p.1 ≤ t → t < p.2.1 → dV sn bs s l u t = p.2.2) := by
  obtain ⟨h1, h2, h3, h4, h5⟩ := hs
  have k := lev_piece (d := dV sn bs s l u) h.cell.2.1 (show 0 ≤ p.1 by omega) (Int.le_of_lt h2) h4 p.2.1 (Int.le_of_lt h2) (Int.le_refl _)
  refine ⟨h1, ⟨h2, h3⟩, ?_, h5, h4⟩
  unfold lvV overP
  rw [k, h1]
end Go.Proofs.Ytplcdpiggpkppaa.Q
