/- Plain laws of chapter 9: the reference's legs, and what it tells of the level. -/
-- Made by wip/tools/claimp.py of this session's texts; Lean checks it.
import Derived.Test.YtplcdpiggpkppaaC11PowG
import Derived.Test.YtplcdpiggpkppaaC11PowR
import Derived.Test.YtplcdpiggpkppaaC11Q0
import Derived.Test.YtplcdpiggpkppaaC11Ge10
import Derived.Test.YtplcdpiggpkppaaC11Ge8
import Derived.Test.YtplcdpiggpkppaaC11Ge1
import Derived.Test.YtplcdpiggpkppaaC11Ge3
import Derived.Test.YtplcdpiggpkppaaC11Ge6
set_option linter.unusedVariables false
set_option linter.unusedSimpArgs false
namespace Go.Proofs.Ytplcdpiggpkppaa.Q
open Go.RowKit Go.Proofs.YtplcdpiggpkppaaW.PrintWords Go.Proofs.YtplcdpiggpkppaaW.PrintLast Go.Proofs.YtplcdpiggpkppaaW.PrintMore Go.Proofs.Ytplcdpiggpkppaa.Base
/-- A list that does not fall, each number once. -/
theorem compactUpTo_up {d : Array Int} (hs : ∀ i j : Nat, i < j → j < d.size → d[i]! ≤ d[j]!) : ∀ m : Nat, m ≤ d.size → Up (Lib.compactUpTo d m) ∧ (∀ x, x ∈ Lib.compactUpTo d m ↔ ∃ j, j < m ∧ d[j]! = x)
  | 0, _ => ⟨by unfold Lib.compactUpTo; exact List.Pairwise.nil, fun x => by unfold Lib.compactUpTo; simp⟩
  | m + 1, hm => by
    obtain ⟨h1, h2⟩ := compactUpTo_up hs m (by omega)
    rw [Lib.compactUpTo_succ]
    by_cases hk : Lib.keeps d m = true
    · rw [if_pos hk]
      have hkeep : m = 0 ∨ d[m]! ≠ d[m - 1]! := by
        unfold Lib.keeps at hk
        exact of_decide_eq_true hk
      refine ⟨List.pairwise_append.2 ⟨h1, List.pairwise_singleton _ _, fun a ha b hb => ?_⟩, fun x => ?_⟩
      · obtain ⟨j, hj, rfl⟩ := (h2 a).1 ha
        rw [List.mem_singleton.1 hb]
        rcases hkeep with q | q
        · omega
        · have e1 := hs (m - 1) m (by omega) (by omega)
          by_cases e : j = m - 1
          · subst e; omega
          · have e2 := hs j (m - 1) (by omega) (by omega); omega
      · rw [List.mem_append, h2]
        constructor
        · rintro (⟨j, hj, e⟩ | e)
          · exact ⟨j, by omega, e⟩
          · exact ⟨m, by omega, (List.mem_singleton.1 e).symm⟩
        · rintro ⟨j, hj, e⟩
          by_cases q : j = m
          · right; subst q; rw [e]; exact List.mem_singleton.2 rfl
          · left; exact ⟨j, by omega, e⟩
    · rw [if_neg hk, List.append_nil]
      refine ⟨h1, fun x => ?_⟩
      rw [h2]
      have hkeep : ¬ (m = 0 ∨ d[m]! ≠ d[m - 1]!) := by
        unfold Lib.keeps at hk
        exact fun q => hk (decide_eq_true q)
      constructor
      · rintro ⟨j, hj, e⟩
        exact ⟨j, by omega, e⟩
      · rintro ⟨j, hj, e⟩
        by_cases q : j = m
        · subst q
          exact ⟨j - 1, by omega, by rw [← e]; exact (Classical.byContradiction fun z => hkeep (.inr fun y => z y.symm))⟩
        · exact ⟨j, by omega, e⟩
theorem sortCompact {a : List Int} {A : List (Int × Int)} (hm : ∀ x, x ∈ a ↔ ∃ e ∈ A, e.1 = x) : Lib.compact (a.mergeSort fun x y => decide (x ≤ y)) = keysV A := by
  have hp := List.mergeSort_perm a (fun x y => decide (x ≤ y))
  have hs := List.pairwise_mergeSort (le := fun x y : Int => decide (x ≤ y)) (fun a b c h1 h2 => by simp only [decide_eq_true_eq] at *; omega) (fun a b => by simp only [Bool.or_eq_true, decide_eq_true_eq]; omega) a
  generalize hz : (a.mergeSort fun x y => decide (x ≤ y)) = z at *
  have hget : ∀ i : Nat, i < z.length → z.toArray[i]! = z[i]! := fun i hi => by simp
  have hc := compactUpTo_up (d := z.toArray) (fun i j hij hj => by
    have hj' : j < z.length := by simpa using hj
    have := List.pairwise_iff_getElem.1 hs i j (by omega) hj' hij
    simp only [decide_eq_true_eq] at this
    simpa [hj', show i < z.length by omega] using this) z.length (by simp)
  refine up_ext hc.1 (keysV_up A) (fun x => ?_)
  show x ∈ Lib.compactUpTo z.toArray z.length ↔ _
  rw [hc.2, mem_keysV, ← hm, ← hp.mem_iff, List.mem_iff_getElem]
  constructor
  · rintro ⟨j, hj, e⟩
    exact ⟨j, hj, by simpa [hj] using e⟩
  · rintro ⟨j, hj, e⟩
    exact ⟨j, hj, by simpa [hj] using e⟩
theorem mem_adds {x : Int} : ∀ {E : List (Int × Int × Int)}, (∃ e ∈ addsOf E, e.1 = x) ↔ ∃ e ∈ E, x = e.1 ∨ x = e.2.1
  | [] => by simp [addsOf]
  | e :: E => by
    unfold addsOf
    have ih := mem_adds (x := x) (E := E)
    constructor
    · rintro ⟨y, hy, rfl⟩
      rcases List.mem_cons.1 hy with q | q
      · subst q; exact ⟨e, List.mem_cons_self, .inl rfl⟩
      · rcases List.mem_cons.1 q with q | q
        · subst q; exact ⟨e, List.mem_cons_self, .inr rfl⟩
        · obtain ⟨z, hz, h⟩ := mem_adds.1 ⟨y, q, rfl⟩
          exact ⟨z, List.mem_cons_of_mem _ hz, h⟩
    · rintro ⟨y, hy, h⟩
      rcases List.mem_cons.1 hy with q | q
      · subst q
        rcases h with h | h
        · exact ⟨(y.1, y.2.2), List.mem_cons_self, h.symm⟩
        · exact ⟨(y.2.1, -y.2.2), List.mem_cons_of_mem _ List.mem_cons_self, h.symm⟩
      · obtain ⟨z, hz, e2⟩ := ih.2 ⟨y, q, h⟩
        exact ⟨z, List.mem_cons_of_mem _ (List.mem_cons_of_mem _ hz), e2⟩
end Go.Proofs.Ytplcdpiggpkppaa.Q
