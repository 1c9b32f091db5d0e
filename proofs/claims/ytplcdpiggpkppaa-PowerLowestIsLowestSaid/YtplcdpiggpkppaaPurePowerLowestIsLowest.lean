/- The lowest level is that at its moment, and no level before is as low; the battery is empty first at a moment below the floor, with none before: for all batteries, suns, loads, uses and moments. -/
import Derived.Test.YtplcdpiggpkppaaPowG
import Derived.Test.YtplcdpiggpkppaaStPowerLowestIsLowest
-- LET P = perigee/api.Span
-- LET L = perigee/api.Load
-- LET U = perigee/api.Use
set_option linter.unusedVariables false
set_option linter.unusedSimpArgs false
namespace Go.Proofs.Ytplcdpiggpkppaa.Q
open Go.RowKit Go.Proofs.YtplcdpiggpkppaaW.PrintWords Go.Proofs.YtplcdpiggpkppaaW.PrintLast Go.Proofs.YtplcdpiggpkppaaW.PrintMore Go.Proofs.Ytplcdpiggpkppaa.Base

theorem below_eq {x n : Int} (hn : 1 ≤ n ∧ n ≤ 1000000000001) : ∃ y, perigeeref9_Below.f x n = some y ∧ 0 ≤ y ∧ y < n := by
  have h1 := Int.tmod_lt_of_pos x (show 0 < n by omega)
  have h2 := Int.lt_tmod_of_pos x (show 0 < n by omega)
  unfold perigeeref9_Below.f
  rw [if_neg (show ¬ n = 0 by omega)]
  by_cases h : Int.tmod x n < 0
  · rw [if_pos h, w64 (by omega) (by omega)]
    exact ⟨_, rfl, by omega, by omega⟩
  · rw [if_neg h]
    exact ⟨_, rfl, by omega, by omega⟩
theorem PowerLowestIsLowest_pure : perigeelaw9_PowerLowestIsLowest.Pure := by
  intro c s l u n at0 _ _ _ _ _ _
  obtain ⟨r, lv, sn, bs, fl⟩ := c
  refine Ev.rounds ?_
  simp only [perigeelaw9_PowerLowestIsLowest.f]
  have aw : Ev (fun k => (perigeelaw9_awake.f k).bind fun t => some t) true := Ev.bind (f := fun _ t => some t) awake_ev (Ev.now true)
  obtain ⟨m, w, hr, hm⟩ := power_Lowest_ev r lv sn bs fl s l u n
  refine Ev.bind hr ?_
  by_cases h0 : checkF r lv sn bs fl s l u n = 0
  · rw [if_pos h0] at hm
    obtain ⟨hw, hlow⟩ := hm
    obtain ⟨h, hn⟩ := checkF_zero.1 h0
    have hwn : w ≤ n := by have := hlow.1; omega
    simp only [if_pos h0, decide_eq_false (show ¬ n < 0 by omega)]
    refine Ev.step (fun k => perigeelaw9_PowerLowestIsLowest.j0.eq_2 ..) ?_
    simp only [if_neg Bool.false_ne_true, w64 (x := n + 1) (by omega) (by omega)]
    obtain ⟨y, hy, hy0, hyn⟩ := below_eq (x := at0) (n := n + 1) (by omega)
    have cw : checkF r lv sn bs fl s l u w = 0 := checkF_zero.2 ⟨h, by omega⟩
    have cy : checkF r lv sn bs fl s l u y = 0 := checkF_zero.2 ⟨h, by omega⟩
    refine Ev.bind (power_LevelAt_ev r lv sn bs fl s l u w) ?_
    simp only [hy, Option.bind_some]
    refine Ev.bind (power_LevelAt_ev r lv sn bs fl s l u y) ?_
    unfold LevelV
    simp only [if_pos cw, if_pos cy, if_true]
    have hmw : lvV r lv sn bs s l u w.toNat = m := hlow.2.1
    have hym : m ≤ lvV r lv sn bs s l u y.toNat := hlow.2.2.1 y.toNat (by omega)
    have hyw : lvV r lv sn bs s l u y.toNat = m → ¬ y < w := fun e q => by
      have := hlow.2.2.2 y.toNat (by omega)
      omega
    simp only [if_pos hmw, if_neg (show ¬ lvV r lv sn bs s l u y.toNat < m by omega)]
    have key : Ev (fun k => perigeelaw9_PowerLowestIsLowest.j1 k s l u n y m (lvV r lv sn bs s l u y.toNat) false r lv sn bs fl) true := by
      refine Ev.step (fun k => perigeelaw9_PowerLowestIsLowest.j1.eq_2 ..) ?_
      simp only [if_neg Bool.false_ne_true]
      obtain ⟨o, ho, hf⟩ := power_Empty_ev h0
      refine Ev.bind ho ?_
      simp only [if_true]
      cases o with
      | none =>
        have hge : fl ≤ m := by rw [← hmw]; exact hf w.toNat (by omega)
        have e1 : decide (firstI none ≥ 0) = false := rfl
        simp only [e1, decide_eq_false (show ¬ m < fl by omega), bne_self_eq_false]
        refine Ev.step (fun k => perigeelaw9_PowerLowestIsLowest.j2.eq_2 ..) ?_
        simp only [if_neg Bool.false_ne_true]
        exact aw
      | some j =>
        obtain ⟨f1, f2, f3⟩ := hf
        have hlt : m < fl := by have := hlow.2.2.1 j f1; omega
        have e1 : decide (firstI (some j) ≥ 0) = true := decide_eq_true (by show (0 : Int) ≤ ((j : Nat) : Int); omega)
        have e2 : mx (firstI (some j)) 0 = (j : Int) := by
          show mx ((j : Nat) : Int) 0 = _
          unfold mx
          split <;> omega
        have cj : checkF r lv sn bs fl s l u (j : Int) = 0 := checkF_zero.2 ⟨h, by omega⟩
        simp only [e1, e2, decide_eq_true hlt, bne_self_eq_false]
        refine Ev.step (fun k => perigeelaw9_PowerLowestIsLowest.j2.eq_2 ..) ?_
        simp only [if_neg Bool.false_ne_true, if_true]
        refine Ev.bind (power_LevelAt_ev r lv sn bs fl s l u (j : Int)) ?_
        unfold LevelV
        simp only [if_pos cj, if_true, Int.toNat_natCast, if_pos f2]
        refine Ev.ite (fun _ => aw) (fun q => ?_)
        have hg := f3 y.toNat (by omega)
        simp only [if_pos (show lvV r lv sn bs s l u y.toNat ≥ fl from hg)]
        exact aw
    refine Ev.ite (fun e => ?_) (fun _ => key)
    rw [decide_eq_false (hyw e)]
    exact key
  · rw [if_neg h0] at hm
    obtain ⟨rfl, rfl⟩ := hm
    simp only [if_neg h0]
    refine Ev.step (fun k => perigeelaw9_PowerLowestIsLowest.j0.eq_2 ..) ?_
    simp only [if_true, if_neg h0]
    exact aw
end Go.Proofs.Ytplcdpiggpkppaa.Q
namespace Go.Proofs.Ytplcdpiggpkppaa.Pure
theorem PowerLowestIsLowest : Q.perigeelaw9_PowerLowestIsLowest.Pure := Q.PowerLowestIsLowest_pure
end Go.Proofs.Ytplcdpiggpkppaa.Pure
