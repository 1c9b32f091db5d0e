/- Up to the moment that Until tells so many bytes go, up to the one before it fewer do; if it tells none they do not go at all: for every list of passes, every number of a pass, every moment and size. -/
import Derived.Test.YtbngmblgkkdhpaaPassU
import Derived.Test.YtbngmblgkkdhpaaStPassesUntilIsFirst
-- LET P = perigee/api.Pass
set_option linter.unusedVariables false
set_option linter.unusedSimpArgs false
namespace Go.Proofs.Ytbngmblgkkdhpaa.Q
open Go.RowKit Go.Proofs.YtbngmblgkkdhpaaW.PrintWords Go.Proofs.YtbngmblgkkdhpaaW.PrintLast Go.Proofs.YtbngmblgkkdhpaaW.PrintMore Go.Proofs.Ytbngmblgkkdhpaa.Base

theorem volumeV_ok {l : List S33} {k a b : Int} (h : atV l k = 0) (ha : 0 ≤ a ∧ a ≤ 1000000000000) (hb : 0 ≤ b ∧ b ≤ 1000000000000) : volumeV l k a b = (volV (rd_T33 l k) a b, 0) := by
  unfold volumeV
  rw [if_pos (volumeF_zero.2 ⟨h, ha, hb⟩)]
theorem PassesUntilIsFirst_pure : perigeelaw10_PassesUntilIsFirst.Pure := by
  intro l k a size hl _ _ _
  refine Ev.rounds ?_
  simp only [perigeelaw10_PassesUntilIsFirst.f]
  obtain ⟨r, h1, h2⟩ := contact_Until_ev l k a size
  have aw := Ev.bind (f := fun _ t => some t) perigeelaw10_awake_ev (Ev.now true)
  refine Ev.bind h1 ?_
  rcases h2 with ⟨hf, rfl⟩ | ⟨hf, hz, rfl⟩ | ⟨hf, hz, h2⟩
  · simp only [if_neg hf]
    refine Ev.step (fun n => perigeelaw10_PassesUntilIsFirst.j0.eq_2 ..) ?_
    simp only [if_true, if_neg hf, if_neg Bool.false_ne_true]
    exact aw
  · subst hz
    simp only [if_true, beq_self_eq_true]
    refine Ev.step (fun n => perigeelaw10_PassesUntilIsFirst.j0.eq_2 ..) ?_
    simp only [if_true]
    exact aw
  · obtain ⟨a0, ha, hsz⟩ := untilF_zero.1 hf
    obtain ⟨g4, g5, g6⟩ := atV_zero a0
    have gp := g4.at g5 g6
    have gs := gp.stretches _ (Nat.le_refl _)
    have p1 := gp.from0
    have p2 := gp.less
    have p3 := gp.to1
    have eb : (size == 0) = false := beq_eq_false_iff_ne.mpr hz
    have all := volumeV_ok (b := (rd_T33 l k).f2) a0 ha ⟨by omega, by omega⟩
    have go : ∀ {n : Int} {b : Bool}, b = decide (volV (rd_T33 l k) a (rd_T33 l k).f2 ≥ size) → Ev (fun n_ => perigeelaw10_PassesUntilIsFirst.j2 n_ l k a size n b false) true → Ev (fun n_ => perigeelaw10_PassesUntilIsFirst.j0 n_ l k a size n b 0 false) true := by
      intro n b hb h
      refine Ev.step (fun n => perigeelaw10_PassesUntilIsFirst.j0.eq_2 ..) ?_
      simp only [if_neg Bool.false_ne_true, if_neg (show ¬ k < 0 by omega), decide_eq_false (show ¬ k ≥ (l.length : Int) by omega)]
      refine Ev.step (fun n => perigeelaw10_PassesUntilIsFirst.j1.eq_2 ..) ?_
      simp only [if_neg Bool.false_ne_true, if_pos g5, if_pos g6]
      refine Ev.bind (contact_Volume_ev l k a _) ?_
      simp only [all, if_true, ← hb, bne_self_eq_false]
      exact h
    rcases h2 with ⟨rfl, hv⟩ | ⟨m, rfl, hm, hmT⟩
    · simp only [if_true, eb]
      refine go (by rw [decide_eq_false (by omega)]) ?_
      refine Ev.step (fun n => perigeelaw10_PassesUntilIsFirst.j2.eq_2 ..) ?_
      simp only [if_neg Bool.false_ne_true, if_true]
      exact aw
    · simp only [if_true, eb]
      have hmono := sumS_mono (a := a) hmT gs
      have he := hm.enough
      have hl := hm.less
      have ham : a < m := by
        by_cases c : a < m
        · exact c
        · exfalso
          rw [sumS_none (fun s _ => .inr (by omega))] at he
          omega
      refine go (by rw [decide_eq_true (by unfold volV; omega)]) ?_
      refine Ev.step (fun n => perigeelaw10_PassesUntilIsFirst.j2.eq_2 ..) ?_
      have v1 := volumeV_ok (b := m) a0 ha ⟨by omega, by omega⟩
      have v2 := volumeV_ok (b := m - 1) a0 ha ⟨by omega, by omega⟩
      simp only [if_neg Bool.false_ne_true, if_true, w64 (x := m - 1) (by omega) (by omega)]
      refine Ev.bind (contact_Volume_ev l k a m) ?_
      refine Ev.bind (contact_Volume_ev l k a (m - 1)) ?_
      simp only [v1, v2, if_true, if_pos (show volV (rd_T33 l k) a m ≥ size from he), if_pos (show volV (rd_T33 l k) a (m - 1) < size from hl)]
      exact aw
end Go.Proofs.Ytbngmblgkkdhpaa.Q
namespace Go.Proofs.Ytbngmblgkkdhpaa.Pure
theorem PassesUntilIsFirst : Q.perigeelaw10_PassesUntilIsFirst.Pure := Q.PassesUntilIsFirst_pure
end Go.Proofs.Ytbngmblgkkdhpaa.Pure
