/- Plain laws on bookings: what excludes what, the numbers of a booking, clashes, totals; the program and the reference tell the same. -/
-- Made by wip/tools/claimp.py of this session's texts; Lean checks it.
import Derived.Test.YtbngmblgkkdhpaaC10PassR
import Derived.Test.YtbngmblgkkdhpaaC10Q0
import Derived.Test.YtbngmblgkkdhpaaC10Gs1
import Derived.Test.YtbngmblgkkdhpaaC10Gs14
import Derived.Test.YtbngmblgkkdhpaaC10Gs2
import Derived.Test.YtbngmblgkkdhpaaC10Gs3
import Derived.Test.YtbngmblgkkdhpaaC10Gs17
set_option linter.unusedVariables false
set_option linter.unusedSimpArgs false
namespace Go.Proofs.Ytbngmblgkkdhpaa.Q
open Go.RowKit Go.Proofs.YtbngmblgkkdhpaaW.PrintWords Go.Proofs.YtbngmblgkkdhpaaW.PrintLast Go.Proofs.YtbngmblgkkdhpaaW.PrintMore Go.Proofs.Ytbngmblgkkdhpaa.Base
def bookV (l : List S33) (b : List Int) (i : Nat) : Int := if h : i < b.length then (if ¬ (0 ≤ rd b i ∧ rd b i < l.length) then 9 else if 0 < i ∧ rd b i ≤ rd b ((i : Int) - 1) then 8 else bookV l b (i + 1)) else 0
termination_by b.length - i
theorem contact_checkBooked_l0 (l : List S33) (b : List Int) (hb : b.length ≤ 1152921504606846976) : ∀ d i : Nat, i + d = b.length → Ev (fun k => contact_checkBooked.l0 k l b b (b.length : Int) (i : Int)) (bookV l b i) := by
  intro d
  induction d with
  | zero =>
    intro i hi
    refine Ev.step (fun k => contact_checkBooked.l0.eq_2 ..) ?_
    simp only [if_neg (show ¬ (i : Int) < (b.length : Int) by omega)]
    rw [bookV, dif_neg (by omega)]
    exact Ev.now _
  | succ d ih =>
    intro i hi
    have hlt : i < b.length := by omega
    have hn := ih (i + 1) (by omega)
    rw [bookV, dif_pos hlt]
    have j1 : ∀ c : Bool, c = decide (¬ (0 ≤ rd b i ∧ rd b i < l.length)) → Ev (fun k => contact_checkBooked.j1 k l b (i : Int) (rd b i) b (b.length : Int) (i : Int) c) (if ¬ (0 ≤ rd b i ∧ rd b i < l.length) then 9 else if 0 < i ∧ rd b i ≤ rd b ((i : Int) - 1) then 8 else bookV l b (i + 1)) := by
      intro c hc
      refine Ev.step (fun k => contact_checkBooked.j1.eq_2 ..) ?_
      by_cases h1 : ¬ (0 ≤ rd b i ∧ rd b i < l.length)
      · rw [decide_eq_true h1] at hc
        subst hc
        simp only [if_pos h1, if_true]
        exact Ev.now _
      · rw [decide_eq_false h1] at hc
        subst hc
        simp only [if_neg h1, if_neg Bool.false_ne_true, w64 (x := (i : Int) + 1) (by omega) (by omega)]
        by_cases h2 : 0 < i
        · simp only [w64 (x := (i : Int) - 1) (by omega) (by omega), if_pos (show (i : Int) > 0 by omega), if_pos (show (0 : Int) ≤ (i : Int) - 1 by omega), if_pos (show (i : Int) - 1 < (b.length : Int) by omega)]
          by_cases h3 : rd b i ≤ rd b ((i : Int) - 1)
          · simp only [if_pos h3, if_pos (show 0 < i ∧ rd b i ≤ rd b ((i : Int) - 1) from ⟨h2, h3⟩)]
            exact Ev.now _
          · simp only [if_neg h3, if_neg (show ¬ (0 < i ∧ rd b i ≤ rd b ((i : Int) - 1)) from fun h => h3 h.2)]
            exact hn
        · simp only [if_neg (show ¬ (i : Int) > 0 by omega), if_neg (show ¬ (0 < i ∧ rd b i ≤ rd b ((i : Int) - 1)) from fun h => h2 h.1)]
          exact hn
    refine Ev.step (fun k => contact_checkBooked.l0.eq_2 ..) ?_
    simp only [if_pos (show (i : Int) < (b.length : Int) by omega), if_pos (show (0 : Int) ≤ (i : Int) by omega)]
    by_cases h1 : rd b i < 0
    · simp only [if_pos h1]
      exact j1 true (by rw [decide_eq_true (by omega)])
    · simp only [if_neg h1]
      refine j1 _ ?_
      congr 1
      rw [eq_iff_iff]
      omega
theorem contact_checkBooked_ev (l : List S33) (b : List Int) (hb : b.length ≤ 1152921504606846976) : Ev (fun k => contact_checkBooked.f k l b) (bookV l b 0) := by
  simp only [contact_checkBooked.f]
  exact contact_checkBooked_l0 l b hb b.length 0 (by omega)
structure GoodBook (l : List S33) (b : List Int) : Prop where
  inside : ∀ i : Nat, i < b.length → 0 ≤ rd b i ∧ rd b i < l.length
  rise : ∀ i : Nat, i + 1 < b.length → rd b i < rd b ((i + 1 : Nat) : Int)
theorem bookV_zero {l : List S33} {b : List Int} : ∀ d i : Nat, i + d = b.length → bookV l b i = 0 → ∀ j : Nat, i ≤ j → j < b.length → (0 ≤ rd b j ∧ rd b j < l.length) ∧ (0 < j → rd b ((j : Int) - 1) < rd b j) := by
  intro d
  induction d with
  | zero => intro i hi _ j h1 h2; omega
  | succ d ih =>
    intro i hi h j h1 h2
    rw [bookV, dif_pos (by omega)] at h
    split at h
    · omega
    · rename_i h3
      split at h
      · omega
      · rename_i h4
        rcases Nat.lt_or_eq_of_le h1 with h5 | rfl
        · exact ih (i + 1) (by omega) h j h5 h2
        · refine ⟨Decidable.not_not.1 h3, fun h6 => ?_⟩
          have : ¬ rd b i ≤ rd b ((i : Int) - 1) := fun h7 => h4 ⟨h6, h7⟩
          omega
theorem bookV_good {l : List S33} {b : List Int} (h : bookV l b 0 = 0) : GoodBook l b := by
  have hz := bookV_zero b.length 0 (by omega) h
  exact ⟨fun i hi => (hz i (by omega) hi).1, fun i hi => by simpa using (hz (i + 1) (by omega) hi).2 (by omega)⟩
theorem GoodBook.least {l : List S33} {b : List Int} (h : GoodBook l b) : ∀ i : Nat, i < b.length → (i : Int) ≤ rd b i
  | 0, hi => (h.inside 0 hi).1
  | i + 1, hi => by
    have h1 := h.least i (by omega)
    have h2 := h.rise i hi
    omega
theorem GoodBook.many {l : List S33} {b : List Int} (h : GoodBook l b) : b.length ≤ l.length := by
  by_cases h0 : b.length = 0
  · omega
  · have h1 := h.least (b.length - 1) (by omega)
    have h2 := (h.inside (b.length - 1) (by omega)).2
    omega
theorem GoodBook.pass {l : List S33} {b : List Int} (h : GoodBook l b) (hl : GoodPasses l) {i : Nat} (hi : i < b.length) : GoodPass (rd_T33 l (rd b i)) := hl.at (h.inside i hi).1 (h.inside i hi).2
def wholeV (p : S33) : Int := volV p p.f1 p.f2
theorem wholeV_bd {p : S33} (h : GoodPass p) : 0 ≤ wholeV p ∧ wholeV p ≤ 10000000000000 := by
  have h1 := sumS_bd (a := p.f1) (b := p.f2) (h.stretches _ (Nat.le_refl _))
  have h2 := stretchesV_length p p.f3.length
  have h3 := h.many
  unfold wholeV volV
  omega
theorem contact_whole_ev {p : S33} (h : GoodPass p) : Ev (fun k => contact_whole.f k p.f0 p.f1 p.f2 p.f3) (wholeV p) := by
  have h1 := h.from0; have h2 := h.less; have h3 := h.to1
  simp only [contact_whole.f]
  exact Ev.bind (contact_volume_ev h ⟨by omega, by omega⟩ ⟨by omega, by omega⟩) (Ev.now _)
def totalV (l : List S33) (b : List Int) : Nat → Int
  | 0 => 0
  | n + 1 => totalV l b n + wholeV (rd_T33 l (rd b n))
theorem totalV_bd {l : List S33} (hl : GoodPasses l) {b : List Int} (hb : GoodBook l b) : ∀ n : Nat, n ≤ b.length → 0 ≤ totalV l b n ∧ totalV l b n ≤ n * 10000000000000
  | 0, _ => by simp [totalV]
  | n + 1, hn => by
    have h1 := totalV_bd hl hb n (by omega)
    have h2 := wholeV_bd (hb.pass hl (show n < b.length by omega))
    simp only [totalV]
    omega
theorem contact_total_l0 {l : List S33} (hl : GoodPasses l) {b : List Int} (hb : GoodBook l b) : ∀ d i : Nat, i + d = b.length → Ev (fun k => contact_total.l0 k l (totalV l b i) b (b.length : Int) (i : Int)) (totalV l b b.length) := by
  have hm := hl.many
  have hbm := hb.many
  intro d
  induction d with
  | zero =>
    intro i hi
    obtain rfl : i = b.length := by omega
    refine Ev.step (fun k => contact_total.l0.eq_2 ..) ?_
    simp only [if_neg (show ¬ (b.length : Int) < (b.length : Int) by omega)]
    exact Ev.now _
  | succ d ih =>
    intro i hi
    have hlt : i < b.length := by omega
    have hn := ih (i + 1) (by omega)
    have ib := hb.inside i hlt
    have t1 := totalV_bd hl hb (i + 1) (by omega)
    simp only [totalV] at t1 hn
    refine Ev.step (fun k => contact_total.l0.eq_2 ..) ?_
    simp only [if_pos (show (i : Int) < (b.length : Int) by omega), if_pos (show (0 : Int) ≤ (i : Int) by omega), if_pos ib.1, if_pos ib.2, w64 (x := (i : Int) + 1) (by omega) (by omega)]
    refine Ev.bind (contact_whole_ev (hb.pass hl hlt)) ?_
    simp only [w64 (x := totalV l b i + wholeV (rd_T33 l (rd b i))) (by omega) (by omega)]
    exact hn
def bothV (l : List S33) (b : List Int) : Int := if checkV l = 0 then bookV l b 0 else checkV l
theorem bothV_zero {l : List S33} {b : List Int} (h : bothV l b = 0) : GoodPasses l ∧ GoodBook l b := by
  unfold bothV at h
  split at h
  · rename_i h1
    exact ⟨checkV_zero h1, bookV_good h⟩
  · rename_i h1
    exact absurd h h1
theorem contact_check_ev (l : List S33) (b : List Int) (hb : b.length ≤ 1152921504606846976) : Ev (fun k => contact_check.f k l b) (bothV l b) := by
  simp only [contact_check.f]
  refine Ev.bind (contact_CheckPasses_ev l) ?_
  unfold bothV
  by_cases h : checkV l = 0
  · simp only [if_pos h]
    exact Ev.bind (contact_checkBooked_ev l b hb) (Ev.now _)
  · simp only [if_neg h]
    exact Ev.now _
theorem contact_total_ev {l : List S33} (hl : GoodPasses l) {b : List Int} (hb : GoodBook l b) : Ev (fun k => contact_total.f k l b) (totalV l b b.length) := by
  simp only [contact_total.f]
  exact contact_total_l0 hl hb b.length 0 (by omega)
def TotalV (l : List S33) (b : List Int) : Int × Int := if bothV l b = 0 then (totalV l b b.length, 0) else (0, bothV l b)
theorem contact_Total_ev (l : List S33) (b : List Int) (hb : b.length ≤ 1152921504606846976) : Ev (fun k => contact_Total.f k l b) (TotalV l b) := by
  simp only [contact_Total.f]
  refine Ev.bind (contact_check_ev l b hb) ?_
  unfold TotalV
  by_cases h : bothV l b = 0
  · obtain ⟨h1, h2⟩ := bothV_zero h
    simp only [if_pos h]
    exact Ev.bind (contact_total_ev h1 h2) (Ev.now _)
  · simp only [if_neg h]
    exact Ev.now _
end Go.Proofs.Ytbngmblgkkdhpaa.Q
