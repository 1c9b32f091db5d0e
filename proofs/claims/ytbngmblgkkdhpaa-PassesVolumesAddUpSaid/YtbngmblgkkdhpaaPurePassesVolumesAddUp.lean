/- What a pass carries up to a moment, and from there on, is what it carries in all: for every list of passes, every pass and all moments; an error leaves 0. -/
import Derived.Test.YtbngmblgkkdhpaaPassA
import Derived.Test.YtbngmblgkkdhpaaStPassesVolumesAddUp
-- LET P = perigee/api.Pass
-- LET R = perigee/api.RateStep
-- LET T = perigee/contact.stretch
set_option linter.unusedVariables false
set_option linter.unusedSimpArgs false
namespace Go.Proofs.Ytbngmblgkkdhpaa.Q
open Go.RowKit Go.Proofs.YtbngmblgkkdhpaaW.PrintWords Go.Proofs.YtbngmblgkkdhpaaW.PrintLast Go.Proofs.YtbngmblgkkdhpaaW.PrintMore Go.Proofs.Ytbngmblgkkdhpaa.Base

theorem part_adds {s : S81} (h : GoodS s) {a m b : Int} (h1 : a ≤ m) (h2 : m ≤ b) : partV s a b = partV s a m + partV s m b := by
  obtain ⟨g1, g2, g3, g4, g5, g6⟩ := h
  unfold partV
  rw [← Int.add_mul]
  congr 1
  unfold mx mn
  omega
theorem sumS_adds {a m b : Int} (h1 : a ≤ m) (h2 : m ≤ b) : ∀ {l : List S81}, (∀ s ∈ l, GoodS s) → sumS a b l = sumS a m l + sumS m b l
  | [], _ => by simp [sumS]
  | s :: r, h => by
    have e1 := part_adds (h s List.mem_cons_self) h1 h2
    have e2 := sumS_adds h1 h2 (fun x hx => h x (List.mem_cons_of_mem _ hx))
    simp only [sumS]
    omega
theorem PassesVolumesAddUp_pure : perigeelaw10_PassesVolumesAddUp.Pure := by
  intro l k a m b _ _ _ _ _
  refine Ev.rounds ?_
  simp only [perigeelaw10_PassesVolumesAddUp.f]
  refine Ev.bind (contact_Volume_ev l k a b) ?_
  have aw := Ev.bind (f := fun _ t => some t) perigeelaw10_awake_ev (Ev.now true)
  by_cases h : volumeF l k a b = 0
  · have e : volumeV l k a b = (volV (rd_T33 l k) a b, 0) := by unfold volumeV; rw [if_pos h]
    rw [e]
    simp only [if_true]
    have jt : Ev (fun n => perigeelaw10_PassesVolumesAddUp.j0 n l k a m b (volV (rd_T33 l k) a b) true) true := Ev.step (fun n => by simp only [perigeelaw10_PassesVolumesAddUp.j0, if_true]) aw
    by_cases h1 : a > m
    · simp only [if_pos h1]
      exact jt
    · simp only [if_neg h1]
      by_cases h2 : m > b
      · simp only [decide_eq_true h2]
        exact jt
      · simp only [decide_eq_false h2]
        obtain ⟨g1, g2, g3⟩ := volumeF_zero.1 h
        obtain ⟨g4, g5, g6⟩ := atV_zero g1
        have f1 : volumeF l k a m = 0 := volumeF_zero.2 ⟨g1, g2, by omega, by omega⟩
        have f2 : volumeF l k m b = 0 := volumeF_zero.2 ⟨g1, ⟨by omega, by omega⟩, g3⟩
        have e1 : volumeV l k a m = (volV (rd_T33 l k) a m, 0) := by unfold volumeV; rw [if_pos f1]
        have e2 : volumeV l k m b = (volV (rd_T33 l k) m b, 0) := by unfold volumeV; rw [if_pos f2]
        have gp := g4.at g5 g6
        have gs := gp.stretches _ (Nat.le_refl _)
        have hl := stretchesV_length (rd_T33 l k) (rd_T33 l k).f3.length
        have hm := gp.many
        have s1 := sumS_bd (a := a) (b := m) gs
        have s2 := sumS_bd (a := m) (b := b) gs
        have s3 := sumS_adds (a := a) (m := m) (b := b) (by omega) (by omega) gs
        refine Ev.step (fun n => perigeelaw10_PassesVolumesAddUp.j0.eq_2 ..) ?_
        simp only [if_neg Bool.false_ne_true]
        refine Ev.bind (contact_Volume_ev l k a m) ?_
        refine Ev.bind (contact_Volume_ev l k m b) ?_
        rw [e1, e2]
        have w : wrap64 (volV (rd_T33 l k) a m + volV (rd_T33 l k) m b) = volV (rd_T33 l k) a b := by
          rw [w64 (by unfold volV; omega) (by unfold volV; omega)]
          exact s3.symm
        simp only [w, if_true, if_pos (show volV (rd_T33 l k) a m ≥ 0 from s1.1), if_pos (show volV (rd_T33 l k) m b ≥ 0 from s2.1)]
        exact aw
  · have e : volumeV l k a b = (0, volumeF l k a b) := by unfold volumeV; rw [if_neg h]
    rw [e]
    simp only [if_neg h, if_true]
    exact aw
end Go.Proofs.Ytbngmblgkkdhpaa.Q
namespace Go.Proofs.Ytbngmblgkkdhpaa.Pure
theorem PassesVolumesAddUp : Q.perigeelaw10_PassesVolumesAddUp.Pure := Q.PassesVolumesAddUp_pure
end Go.Proofs.Ytbngmblgkkdhpaa.Pure
