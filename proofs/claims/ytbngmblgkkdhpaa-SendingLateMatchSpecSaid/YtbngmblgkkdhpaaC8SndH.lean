/- Sending: the stretches of a pass, and the rate at a moment. -/
-- Made by wip/tools/claimp.py of this session's texts; Lean checks it.
import Derived.Test.YtbngmblgkkdhpaaC8SndG
import Derived.Test.YtbngmblgkkdhpaaC8Gs12
set_option linter.unusedVariables false
set_option linter.unusedSimpArgs false
namespace Go.Proofs.Ytbngmblgkkdhpaa.Q
open Go.RowKit Go.Proofs.YtbngmblgkkdhpaaW.PrintWords Go.Proofs.YtbngmblgkkdhpaaW.PrintLast Go.Proofs.YtbngmblgkkdhpaaW.PrintMore Go.Proofs.Ytbngmblgkkdhpaa.Base
theorem GoodPass.up {p : S33} (h : GoodPass p) {i : Nat} : ∀ {j : Nat}, i ≤ j → j < p.f3.length → (rd_T75 p.f3 i).f0 ≤ (rd_T75 p.f3 j).f0
  | 0, hij, _ => by
    obtain rfl : i = 0 := by omega
    exact Int.le_refl _
  | j + 1, hij, hj => by
    by_cases e : i = j + 1
    · rw [e]; exact Int.le_refl _
    · have h1 := h.up (i := i) (j := j) (by omega) (by omega)
      have h2 := h.rise j hj
      omega
theorem GoodPass.ends {p : S33} (h : GoodPass p) {i : Nat} (hi : i < p.f3.length) : (rd_T75 p.f3 i).f0 < endOf p i ∧ endOf p i ≤ p.f2 := by
  unfold endOf
  by_cases hl : i + 1 < p.f3.length
  · rw [if_pos hl]
    have h1 := h.rise i hl
    have h2 := h.step (i + 1) hl
    omega
  · rw [if_neg hl]
    have h2 := h.step i hi
    omega
theorem GoodPass.next {p : S33} (h : GoodPass p) {i j : Nat} (hij : i < j) (hj : j < p.f3.length) : endOf p i ≤ (rd_T75 p.f3 j).f0 := by
  unfold endOf
  rw [if_pos (by omega)]
  exact h.up (by omega) hj
theorem stretches_mem {p : S33} {s : S81} : ∀ n : Nat, s ∈ stretchesV p n ↔ ∃ i, i < n ∧ (rd_T75 p.f3 i).f1 > 0 ∧ s = ⟨(rd_T75 p.f3 i).f0, endOf p i, (rd_T75 p.f3 i).f1⟩
  | 0 => by simp [stretchesV]
  | n + 1 => by
    unfold stretchesV
    rw [List.mem_append, stretches_mem n]
    constructor
    · rintro (⟨i, h1, h2⟩ | h)
      · exact ⟨i, by omega, h2⟩
      · split at h
        · rename_i hr
          exact ⟨n, by omega, hr, List.mem_singleton.1 h⟩
        · cases h
    · rintro ⟨i, h1, h2, h3⟩
      by_cases e : i = n
      · subst e
        right
        rw [if_pos h2]
        exact List.mem_singleton.2 h3
      · exact Or.inl ⟨i, by omega, h2, h3⟩
theorem GoodPass.line {p : S33} (h : GoodPass p) : ∀ n : Nat, n ≤ p.f3.length → Snd.InLine (stretchesV p n)
  | 0, _ => ⟨List.Pairwise.nil, fun s hs => by simp [stretchesV] at hs⟩
  | n + 1, hn => by
    refine ⟨?_, fun s hs => ?_⟩
    · have ih := (h.line n (by omega)).1
      unfold stretchesV
      rw [List.pairwise_append]
      refine ⟨ih, ?_, fun a ha b hb => ?_⟩
      · split
        · exact List.pairwise_singleton _ _
        · exact List.Pairwise.nil
      · obtain ⟨i, h1, h2, rfl⟩ := (stretches_mem n).1 ha
        split at hb
        · obtain rfl := List.mem_singleton.1 hb
          exact h.next h1 (by omega)
        · cases hb
    · obtain ⟨i, h1, h2, rfl⟩ := (stretches_mem (n + 1)).1 hs
      exact (h.ends (by omega)).1
/-- The rate at a moment, by the step that holds. -/
theorem GoodPass.rate_at {p : S33} (h : GoodPass p) {i : Nat} (hi : i < p.f3.length) {t : Int} (h0 : (rd_T75 p.f3 i).f0 ≤ t) (h1 : t < endOf p i) : Snd.rS (stretchesV p p.f3.length) t = (rd_T75 p.f3 i).f1 := by
  unfold Snd.rS
  cases hf : (stretchesV p p.f3.length).find? (fun s => decide (s.f0 ≤ t) && decide (t < s.f1)) with
  | some s =>
    have hc := List.find?_some hf
    simp only [Bool.and_eq_true, decide_eq_true_eq] at hc
    obtain ⟨j, hj, _, rfl⟩ := (stretches_mem _).1 (List.mem_of_find?_eq_some hf)
    have e : i = j := by
      rcases Nat.lt_trichotomy i j with hl | hl | hl
      · have := h.next hl hj
        simp only at hc
        omega
      · exact hl
      · have := h.next hl hi
        simp only at hc
        omega
    subst e
    rfl
  | none =>
    have hn := List.find?_eq_none.1 hf
    have hs := h.step i hi
    by_cases hr : (rd_T75 p.f3 i).f1 > 0
    · have := hn _ ((stretches_mem _).2 ⟨i, hi, hr, rfl⟩)
      simp only [Bool.and_eq_true, decide_eq_true_eq] at this
      exact absurd ⟨h0, h1⟩ this
    · show (0 : Int) = _
      omega
theorem GoodPass.rate_out {p : S33} (h : GoodPass p) {t : Int} (ht : t < p.f1 ∨ p.f2 ≤ t ∨ ∀ i, i < p.f3.length → t < (rd_T75 p.f3 i).f0) : Snd.rS (stretchesV p p.f3.length) t = 0 := by
  unfold Snd.rS
  rw [List.find?_eq_none.2 (fun s hs => ?_)]
  obtain ⟨i, hi, _, rfl⟩ := (stretches_mem _).1 hs
  have h1 := h.step i hi
  have h2 := h.ends hi
  simp only [Bool.and_eq_true, decide_eq_true_eq]
  rintro ⟨a, b⟩
  rcases ht with ht | ht | ht
  · omega
  · omega
  · have := ht i hi
    omega
theorem perigeeref10_rateAt_l0 {p : S33} (h : GoodPass p) (t : Int) : ∀ d i : Nat, i + d = p.f3.length → (∀ j, j < i → (rd_T75 p.f3 j).f0 ≤ t) →
    Ev (fun k => perigeeref10_rateAt.l0 k t (if i = 0 then 0 else (rd_T75 p.f3 ((i - 1 : Nat) : Int)).f1) (i : Int) p.f0 p.f1 p.f2 p.f3) (Snd.rS (stretchesV p p.f3.length) t) := by
  have hw : wrap64 (p.f2 - 1) = p.f2 - 1 := by
    have h1 := h.from0
    have h2 := h.less
    have h3 := h.to1
    exact w64 (by omega) (by omega)
  -- the end of the search, at a step whose time is behind the moment
  have fin : ∀ i : Nat, i ≤ p.f3.length → (∀ j, j < i → (rd_T75 p.f3 j).f0 ≤ t) → (i < p.f3.length → t < (rd_T75 p.f3 i).f0) → (if p.f1 ≤ t ∧ t ≤ p.f2 - 1 then (if i = 0 then 0 else (rd_T75 p.f3 ((i - 1 : Nat) : Int)).f1) else 0) = Snd.rS (stretchesV p p.f3.length) t := by
    intro i hi hj hlt
    by_cases hin : p.f1 ≤ t ∧ t ≤ p.f2 - 1
    · rw [if_pos hin]
      by_cases e : i = 0
      · rw [if_pos e]
        refine (h.rate_out (Or.inr (Or.inr fun j hj' => ?_))).symm
        have h1 := hlt (by omega)
        have h2 := h.up (i := i) (j := j) (by omega) hj'
        omega
      · rw [if_neg e]
        refine (h.rate_at (by omega) (hj (i - 1) (by omega)) ?_).symm
        unfold endOf
        by_cases hl : i - 1 + 1 < p.f3.length
        · rw [if_pos hl, show i - 1 + 1 = i by omega]
          exact hlt (by omega)
        · rw [if_neg hl]
          omega
    · rw [if_neg hin]
      refine (h.rate_out ?_).symm
      omega
  intro d
  induction d with
  | zero =>
    intro i hi hj
    refine Ev.step (f := fun _ => some (if p.f1 ≤ t ∧ t ≤ p.f2 - 1 then (if i = 0 then 0 else (rd_T75 p.f3 ((i - 1 : Nat) : Int)).f1) else 0)) (fun k => ?_) (Ev.is (fin i (by omega) hj (fun hc => by omega)))
    simp only [perigeeref10_rateAt.l0, perigeeref10_within_eq, hw, Option.bind_some]
    rw [if_neg (by omega)]
    by_cases hin : p.f1 ≤ t ∧ t ≤ p.f2 - 1
    · simp [hin]
    · simp [hin]
  | succ d ih =>
    intro i hi hj
    have hlt : i < p.f3.length := by omega
    have hm := h.many
    by_cases c : (rd_T75 p.f3 i).f0 ≤ t
    · have hn := ih (i + 1) (by omega) (fun j hj' => by
        by_cases e : j = i
        · subst e; exact c
        · exact hj j (by omega))
      rw [if_neg (by omega), Nat.add_sub_cancel] at hn
      refine Ev.step (f := fun k => perigeeref10_rateAt.l0 k t (rd_T75 p.f3 i).f1 ((i + 1 : Nat) : Int) p.f0 p.f1 p.f2 p.f3) (fun k => ?_) hn
      simp only [perigeeref10_rateAt.l0]
      rw [if_pos (by omega), if_pos (by omega), if_pos c, w64 (x := (i : Int) + 1) (by omega) (by omega)]
      rfl
    · refine Ev.step (f := fun _ => some (if p.f1 ≤ t ∧ t ≤ p.f2 - 1 then (if i = 0 then 0 else (rd_T75 p.f3 ((i - 1 : Nat) : Int)).f1) else 0)) (fun k => ?_) (Ev.is (fin i (by omega) hj (fun _ => by omega)))
      simp only [perigeeref10_rateAt.l0, perigeeref10_within_eq, hw, Option.bind_some]
      rw [if_pos (by omega), if_pos (by omega), if_neg c]
      by_cases hin : p.f1 ≤ t ∧ t ≤ p.f2 - 1
      · simp [hin]
      · simp [hin]
theorem perigeeref10_rateAt_ev {p : S33} (h : GoodPass p) (t : Int) : Ev (fun k => perigeeref10_rateAt.f k p.f0 p.f1 p.f2 p.f3 t) (Snd.rS (stretchesV p p.f3.length) t) := by
  have := perigeeref10_rateAt_l0 h t p.f3.length 0 (by omega) (fun j hj => by omega)
  simp only [perigeeref10_rateAt.f]
  exact this
end Go.Proofs.Ytbngmblgkkdhpaa.Q
