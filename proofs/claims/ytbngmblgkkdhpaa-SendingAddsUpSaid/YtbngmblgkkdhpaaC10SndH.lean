/- Sending: the stretches of a pass, and the rate at a moment. -/
-- Made by wip/tools/claimp.py of this session's texts; Lean checks it.
import Derived.Test.YtbngmblgkkdhpaaC10SndG
import Derived.Test.YtbngmblgkkdhpaaC10Gs12
set_option linter.unusedVariables false
set_option linter.unusedSimpArgs false
namespace Go.Proofs.Ytbngmblgkkdhpaa.Q
open Go.RowKit Go.Proofs.YtbngmblgkkdhpaaW.PrintWords Go.Proofs.YtbngmblgkkdhpaaW.PrintLast Go.Proofs.YtbngmblgkkdhpaaW.PrintMore Go.Proofs.Ytbngmblgkkdhpaa.Base
theorem GoodPass.up {p : S33} (h : GoodPass p) {i : Nat} : ∀ {j : Nat}, i ≤ j → j < p.f3.length → (rd_T75 p.f3 i).f0 ≤ (rd_T75 p.f3 j).f0
  | 0, hij, _ => by
    obtain rfl : i = 0 := by omega
    exact Int.le_refl _
  | j + 1, hij, hj => by
    by_cases e : i = j + 1
    · rw [e]; exact Int.le_refl _
    · have h1 := h.up (i := i) (j := j) (by omega) (by omega)
      have h2 := h.rise j hj
      omega
theorem GoodPass.ends {p : S33} (h : GoodPass p) {i : Nat} (hi : i < p.f3.length) : (rd_T75 p.f3 i).f0 < endOf p i ∧ endOf p i ≤ p.f2 := by
  unfold endOf
  by_cases hl : i + 1 < p.f3.length
  · rw [if_pos hl]
    have h1 := h.rise i hl
    have h2 := h.step (i + 1) hl
    omega
  · rw [if_neg hl]
    have h2 := h.step i hi
    omega
theorem GoodPass.next {p : S33} (h : GoodPass p) {i j : Nat} (hij : i < j) (hj : j < p.f3.length) : endOf p i ≤ (rd_T75 p.f3 j).f0 := by
  unfold endOf
  rw [if_pos (by omega)]
  exact h.up (by omega) hj
theorem stretches_mem {p : S33} {s : S81} : ∀ n : Nat, s ∈ stretchesV p n ↔ ∃ i, i < n ∧ (rd_T75 p.f3 i).f1 > 0 ∧ s = ⟨(rd_T75 p.f3 i).f0, endOf p i, (rd_T75 p.f3 i).f1⟩
  | 0 => by simp [stretchesV]
  | n + 1 => by
    unfold stretchesV
    rw [List.mem_append, stretches_mem n]
    constructor
    · rintro (⟨i, h1, h2⟩ | h)
      · exact ⟨i, by omega, h2⟩
      · split at h
        · rename_i hr
          exact ⟨n, by omega, hr, List.mem_singleton.1 h⟩
        · cases h
    · rintro ⟨i, h1, h2, h3⟩
      by_cases e : i = n
      · subst e
        right
        rw [if_pos h2]
        exact List.mem_singleton.2 h3
      · exact Or.inl ⟨i, by omega, h2, h3⟩
theorem GoodPass.line {p : S33} (h : GoodPass p) : ∀ n : Nat, n ≤ p.f3.length → Snd.InLine (stretchesV p n)
  | 0, _ => ⟨List.Pairwise.nil, fun s hs => by simp [stretchesV] at hs⟩
  | n + 1, hn => by
    refine ⟨?_, fun s hs => ?_⟩
    · have ih := (h.line n (by omega)).1
      unfold stretchesV
      rw [List.pairwise_append]
      refine ⟨ih, ?_, fun a ha b hb => ?_⟩
      · split
        · exact List.pairwise_singleton _ _
        · exact List.Pairwise.nil
      · obtain ⟨i, h1, h2, rfl⟩ := (stretches_mem n).1 ha
        split at hb
        · obtain rfl := List.mem_singleton.1 hb
          exact h.next h1 (by omega)
        · cases hb
    · obtain ⟨i, h1, h2, rfl⟩ := (stretches_mem (n + 1)).1 hs
      exact (h.ends (by omega)).1
end Go.Proofs.Ytbngmblgkkdhpaa.Q
