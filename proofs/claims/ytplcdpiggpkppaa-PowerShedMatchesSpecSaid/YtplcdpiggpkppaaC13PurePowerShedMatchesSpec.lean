/- Several texts in one. -/
import Derived.Test.YtplcdpiggpkppaaC13PowV
import Derived.Test.YtplcdpiggpkppaaC13Ge23
import Derived.Test.YtplcdpiggpkppaaC13StPowerShedMatchesSpec
section
/- Plain laws of chapter 9: what is left by shedding is right itself; uses compared. -/
-- Made by wip/tools/claimp.py of this session's texts; Lean checks it.
set_option linter.unusedVariables false
set_option linter.unusedSimpArgs false
namespace Go.Proofs.Ytplcdpiggpkppaa.Q
open Go.RowKit Go.Proofs.YtplcdpiggpkppaaW.PrintWords Go.Proofs.YtplcdpiggpkppaaW.PrintLast Go.Proofs.YtplcdpiggpkppaaW.PrintMore Go.Proofs.Ytplcdpiggpkppaa.Base
theorem usesV_loads {l : List S76} {u : List S47} (h : usesV l u = 0) : loadsV l = 0 := by
  unfold usesV at h
  split at h
  · rename_i q; exact absurd h q
  · rename_i q; exact Classical.not_not.1 q
theorem checkF_sub {r lv sn bs fl : Int} {s : List S72} {l : List S76} {u v : List S47} {n : Int} (h : checkF r lv sn bs fl s l u n = 0) (hs : v.Sublist u) : checkF r lv sn bs fl s l v n = 0 := by
  obtain ⟨h1, h2, h3, h4⟩ := checkF_parts.1 h
  exact checkF_parts.2 ⟨h1, h2, usesV_of (usesV_loads h3) ((usesV_zero h3).sub hs) ((usesV_ordered h3).sub hs), h4⟩
theorem equal_uses (l : List S47) (hl : (l.length : Int) ≤ 9000000000000000) : Ev (fun k => api_Use_48.f k l l) true := by
  simp only [api_Use_48.f, if_true]
  refine Ev.loop (L := fun k i => api_Use_48.l0 k l l (l.length : Int) (i : Int)) (v := fun _ => true) l.length ?_ ?_ l.length 0 (by omega)
  · refine Ev.step (fun k => api_Use_48.l0.eq_2 ..) ?_
    simp only [if_neg (show ¬ (l.length : Int) < l.length by omega)]
    exact Ev.now _
  · intro i hi ih
    refine Ev.step (fun k => api_Use_48.l0.eq_2 ..) ?_
    simp only [if_pos (show (i : Int) < l.length by omega), if_pos (show (0 : Int) ≤ i by omega), w64 (x := (i : Int) + 1) (by omega) (by omega), beq_self_eq_true, Bool.not_true, Bool.or_self, if_neg Bool.false_ne_true]
    exact ih
end Go.Proofs.Ytplcdpiggpkppaa.Q
end

section
/- Shed answers as the reference does, with all errors; what is left keeps the level above the floor, or is no use that has begun before it is below: for all batteries, suns, loads, uses and moments. -/
-- Made by wip/tools/claimp.py of this session's texts; Lean checks it.
set_option linter.unusedVariables false
set_option linter.unusedSimpArgs false
namespace Go.Proofs.Ytplcdpiggpkppaa.Q
open Go.RowKit Go.Proofs.YtplcdpiggpkppaaW.PrintWords Go.Proofs.YtplcdpiggpkppaaW.PrintLast Go.Proofs.YtplcdpiggpkppaaW.PrintMore Go.Proofs.Ytplcdpiggpkppaa.Base
theorem PowerShedMatchesSpec_pure : perigeelaw9_PowerShedMatchesSpec.Pure := by
  intro c s l u n _ _ _ _ _
  obtain ⟨r, lv, sn, bs, fl⟩ := c
  refine Ev.rounds ?_
  simp only [perigeelaw9_PowerShedMatchesSpec.f]
  refine Ev.bind (power_Shed_ev r lv sn bs fl s l u n) ?_
  refine Ev.bind (ref_Shed_ev r lv sn bs fl s l u n) ?_
  simp only [if_true]
  unfold ShedV
  by_cases h0 : checkF r lv sn bs fl s l u n = 0
  · rw [if_pos h0]
    obtain ⟨h, hn⟩ := checkF_good h0
    have hsub := shedL_sub (r := r) (lv := lv) (sn := sn) (bs := bs) (fl := fl) (s := s) (l := l) (n := n) u.length u
    have hleft := shedL_left (s := s) hn u.length u (Nat.le_refl _) h
    have hc := checkF_sub h0 hsub
    have hlen := Nat.le_trans hsub.length_le h.uses.few
    generalize shedL r lv sn bs fl s l n u.length u = x at *
    refine Ev.bind (equal_uses x (by omega)) ?_
    simp only [if_true]
    refine Ev.bind awake_ev ?_
    refine Ev.step (fun k => perigeelaw9_PowerShedMatchesSpec.j0.eq_2 ..) ?_
    simp only [Bool.not_true, if_neg Bool.false_ne_true, if_true]
    obtain ⟨o, h1, h2⟩ := power_Empty_ev hc
    have ho := firstO_is h2
    refine Ev.bind h1 ?_
    refine Ev.loop (L := fun k i => perigeelaw9_PowerShedMatchesSpec.l0 k 0 (mx (firstI o) 0) (decide (firstI o ≥ 0)) x (x.length : Int) (i : Int)) (v := fun _ => true) x.length ?_ ?_ x.length 0 (by omega)
    · refine Ev.step (fun k => perigeelaw9_PowerShedMatchesSpec.l0.eq_2 ..) ?_
      simp only [if_neg (show ¬ (x.length : Int) < x.length by omega)]
      exact Ev.now _
    · intro i hi ih
      refine Ev.step (fun k => perigeelaw9_PowerShedMatchesSpec.l0.eq_2 ..) ?_
      simp only [if_pos (show (i : Int) < x.length by omega), if_pos (show (0 : Int) ≤ i by omega), w64 (x := (i : Int) + 1) (by omega) (by omega)]
      refine Ev.ite (fun q => ?_) (fun q => ih)
      refine Ev.ite (fun z => ?_) (fun z => ih)
      have q := of_decide_eq_true q
      cases o with
      | none => exact absurd q (by decide)
      | some t =>
        have := hleft t ho _ (List.getElem_mem hi)
        rw [rdU_get hi] at z
        have e : mx (firstI (some t)) 0 = (t : Int) := by
          show mx ((t : Nat) : Int) 0 = _
          unfold mx
          split <;> omega
        rw [e] at z
        omega
  · rw [if_neg h0]
    refine Ev.bind (equal_uses [] (by show ((0 : Nat) : Int) ≤ _; omega)) ?_
    simp only [if_true]
    refine Ev.bind awake_ev ?_
    refine Ev.step (fun k => perigeelaw9_PowerShedMatchesSpec.j0.eq_2 ..) ?_
    simp only [Bool.not_true, if_neg Bool.false_ne_true, if_neg h0]
    exact Ev.now _
end Go.Proofs.Ytplcdpiggpkppaa.Q
namespace Go.Proofs.Ytplcdpiggpkppaa.Pure
theorem PowerShedMatchesSpec : Q.perigeelaw9_PowerShedMatchesSpec.Pure := Q.PowerShedMatchesSpec_pure
end Go.Proofs.Ytplcdpiggpkppaa.Pure
end
