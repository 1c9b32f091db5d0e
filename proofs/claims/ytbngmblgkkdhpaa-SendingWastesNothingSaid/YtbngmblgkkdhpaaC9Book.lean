/- Plain laws on bookings: what excludes what, the numbers of a booking, clashes, totals; the program and the reference tell the same. -/
-- Made by wip/tools/claimp.py of this session's texts; Lean checks it.
import Derived.Test.YtbngmblgkkdhpaaC9PassR
import Derived.Test.YtbngmblgkkdhpaaC9Q0
import Derived.Test.YtbngmblgkkdhpaaC9Gs1
import Derived.Test.YtbngmblgkkdhpaaC9Gs14
import Derived.Test.YtbngmblgkkdhpaaC9Gs2
import Derived.Test.YtbngmblgkkdhpaaC9Gs3
set_option linter.unusedVariables false
set_option linter.unusedSimpArgs false
namespace Go.Proofs.Ytbngmblgkkdhpaa.Q
open Go.RowKit Go.Proofs.YtbngmblgkkdhpaaW.PrintWords Go.Proofs.YtbngmblgkkdhpaaW.PrintLast Go.Proofs.YtbngmblgkkdhpaaW.PrintMore Go.Proofs.Ytbngmblgkkdhpaa.Base
def bookV (l : List S33) (b : List Int) (i : Nat) : Int := if h : i < b.length then (if ¬ (0 ≤ rd b i ∧ rd b i < l.length) then 9 else if 0 < i ∧ rd b i ≤ rd b ((i : Int) - 1) then 8 else bookV l b (i + 1)) else 0
termination_by b.length - i
theorem contact_checkBooked_l0 (l : List S33) (b : List Int) (hb : b.length ≤ 1152921504606846976) : ∀ d i : Nat, i + d = b.length → Ev (fun k => contact_checkBooked.l0 k l b b (b.length : Int) (i : Int)) (bookV l b i) := by
  intro d
  induction d with
  | zero =>
    intro i hi
    refine Ev.step (fun k => contact_checkBooked.l0.eq_2 ..) ?_
    simp only [if_neg (show ¬ (i : Int) < (b.length : Int) by omega)]
    rw [bookV, dif_neg (by omega)]
    exact Ev.now _
  | succ d ih =>
    intro i hi
    have hlt : i < b.length := by omega
    have hn := ih (i + 1) (by omega)
    rw [bookV, dif_pos hlt]
    have j1 : ∀ c : Bool, c = decide (¬ (0 ≤ rd b i ∧ rd b i < l.length)) → Ev (fun k => contact_checkBooked.j1 k l b (i : Int) (rd b i) b (b.length : Int) (i : Int) c) (if ¬ (0 ≤ rd b i ∧ rd b i < l.length) then 9 else if 0 < i ∧ rd b i ≤ rd b ((i : Int) - 1) then 8 else bookV l b (i + 1)) := by
      intro c hc
      refine Ev.step (fun k => contact_checkBooked.j1.eq_2 ..) ?_
      by_cases h1 : ¬ (0 ≤ rd b i ∧ rd b i < l.length)
      · rw [decide_eq_true h1] at hc
        subst hc
        simp only [if_pos h1, if_true]
        exact Ev.now _
      · rw [decide_eq_false h1] at hc
        subst hc
        simp only [if_neg h1, if_neg Bool.false_ne_true, w64 (x := (i : Int) + 1) (by omega) (by omega)]
        by_cases h2 : 0 < i
        · simp only [w64 (x := (i : Int) - 1) (by omega) (by omega), if_pos (show (i : Int) > 0 by omega), if_pos (show (0 : Int) ≤ (i : Int) - 1 by omega), if_pos (show (i : Int) - 1 < (b.length : Int) by omega)]
          by_cases h3 : rd b i ≤ rd b ((i : Int) - 1)
          · simp only [if_pos h3, if_pos (show 0 < i ∧ rd b i ≤ rd b ((i : Int) - 1) from ⟨h2, h3⟩)]
            exact Ev.now _
          · simp only [if_neg h3, if_neg (show ¬ (0 < i ∧ rd b i ≤ rd b ((i : Int) - 1)) from fun h => h3 h.2)]
            exact hn
        · simp only [if_neg (show ¬ (i : Int) > 0 by omega), if_neg (show ¬ (0 < i ∧ rd b i ≤ rd b ((i : Int) - 1)) from fun h => h2 h.1)]
          exact hn
    refine Ev.step (fun k => contact_checkBooked.l0.eq_2 ..) ?_
    simp only [if_pos (show (i : Int) < (b.length : Int) by omega), if_pos (show (0 : Int) ≤ (i : Int) by omega)]
    by_cases h1 : rd b i < 0
    · simp only [if_pos h1]
      exact j1 true (by rw [decide_eq_true (by omega)])
    · simp only [if_neg h1]
      refine j1 _ ?_
      congr 1
      rw [eq_iff_iff]
      omega
theorem contact_checkBooked_ev (l : List S33) (b : List Int) (hb : b.length ≤ 1152921504606846976) : Ev (fun k => contact_checkBooked.f k l b) (bookV l b 0) := by
  simp only [contact_checkBooked.f]
  exact contact_checkBooked_l0 l b hb b.length 0 (by omega)
structure GoodBook (l : List S33) (b : List Int) : Prop where
  inside : ∀ i : Nat, i < b.length → 0 ≤ rd b i ∧ rd b i < l.length
  rise : ∀ i : Nat, i + 1 < b.length → rd b i < rd b ((i + 1 : Nat) : Int)
theorem bookV_zero {l : List S33} {b : List Int} : ∀ d i : Nat, i + d = b.length → bookV l b i = 0 → ∀ j : Nat, i ≤ j → j < b.length → (0 ≤ rd b j ∧ rd b j < l.length) ∧ (0 < j → rd b ((j : Int) - 1) < rd b j) := by
  intro d
  induction d with
  | zero => intro i hi _ j h1 h2; omega
  | succ d ih =>
    intro i hi h j h1 h2
    rw [bookV, dif_pos (by omega)] at h
    split at h
    · omega
    · rename_i h3
      split at h
      · omega
      · rename_i h4
        rcases Nat.lt_or_eq_of_le h1 with h5 | rfl
        · exact ih (i + 1) (by omega) h j h5 h2
        · refine ⟨Decidable.not_not.1 h3, fun h6 => ?_⟩
          have : ¬ rd b i ≤ rd b ((i : Int) - 1) := fun h7 => h4 ⟨h6, h7⟩
          omega
theorem bookV_good {l : List S33} {b : List Int} (h : bookV l b 0 = 0) : GoodBook l b := by
  have hz := bookV_zero b.length 0 (by omega) h
  exact ⟨fun i hi => (hz i (by omega) hi).1, fun i hi => by simpa using (hz (i + 1) (by omega) hi).2 (by omega)⟩
theorem GoodBook.least {l : List S33} {b : List Int} (h : GoodBook l b) : ∀ i : Nat, i < b.length → (i : Int) ≤ rd b i
  | 0, hi => (h.inside 0 hi).1
  | i + 1, hi => by
    have h1 := h.least i (by omega)
    have h2 := h.rise i hi
    omega
theorem GoodBook.many {l : List S33} {b : List Int} (h : GoodBook l b) : b.length ≤ l.length := by
  by_cases h0 : b.length = 0
  · omega
  · have h1 := h.least (b.length - 1) (by omega)
    have h2 := (h.inside (b.length - 1) (by omega)).2
    omega
theorem GoodBook.pass {l : List S33} {b : List Int} (h : GoodBook l b) (hl : GoodPasses l) {i : Nat} (hi : i < b.length) : GoodPass (rd_T33 l (rd b i)) := hl.at (h.inside i hi).1 (h.inside i hi).2
def bothV (l : List S33) (b : List Int) : Int := if checkV l = 0 then bookV l b 0 else checkV l
theorem bothV_zero {l : List S33} {b : List Int} (h : bothV l b = 0) : GoodPasses l ∧ GoodBook l b := by
  unfold bothV at h
  split at h
  · rename_i h1
    exact ⟨checkV_zero h1, bookV_good h⟩
  · rename_i h1
    exact absurd h h1
theorem contact_check_ev (l : List S33) (b : List Int) (hb : b.length ≤ 1152921504606846976) : Ev (fun k => contact_check.f k l b) (bothV l b) := by
  simp only [contact_check.f]
  refine Ev.bind (contact_CheckPasses_ev l) ?_
  unfold bothV
  by_cases h : checkV l = 0
  · simp only [if_pos h]
    exact Ev.bind (contact_checkBooked_ev l b hb) (Ev.now _)
  · simp only [if_neg h]
    exact Ev.now _
end Go.Proofs.Ytbngmblgkkdhpaa.Q
