/- Plain laws on bookings: what excludes what, the numbers of a booking, clashes, totals; the program and the reference tell the same. -/
-- Made by wip/tools/claimp.py of this session's texts; Lean checks it.
import Derived.Test.YtbngmblgkkdhpaaC5PassA
import Derived.Test.YtbngmblgkkdhpaaC5G5
import Derived.Test.YtbngmblgkkdhpaaC5G7
import Derived.Test.YtbngmblgkkdhpaaC5G8
import Derived.Test.YtbngmblgkkdhpaaC5Q0
import Derived.Test.YtbngmblgkkdhpaaC5G1
import Derived.Test.YtbngmblgkkdhpaaC5G2
import Derived.Test.YtbngmblgkkdhpaaC5G3
set_option linter.unusedVariables false
set_option linter.unusedSimpArgs false
namespace Go.Proofs.Ytbngmblgkkdhpaa.Q
open Go.RowKit Go.Proofs.YtbngmblgkkdhpaaW.PrintWords Go.Proofs.YtbngmblgkkdhpaaW.PrintLast Go.Proofs.YtbngmblgkkdhpaaW.PrintMore Go.Proofs.Ytbngmblgkkdhpaa.Base
def exclV (a b : S33) (gap : Int) : Bool := decide (b.f1 < a.f2 + gap) && decide (a.f1 < b.f2 + gap)
theorem exclV_comm (a b : S33) (gap : Int) : exclV a b gap = exclV b a gap := by unfold exclV; exact Bool.and_comm _ _
theorem contact_exclude_eq {a b : S33} (ha : GoodPass a) (hb : GoodPass b) {gap : Int} (hg : 0 ≤ gap ∧ gap ≤ 10000000) : contact_exclude.f a.f0 a.f1 a.f2 a.f3 b.f0 b.f1 b.f2 b.f3 gap = some (exclV a b gap) := by
  have := ha.to1; have := hb.to1; have := ha.from0; have := hb.from0; have := ha.less; have := hb.less
  unfold contact_exclude.f exclV
  rw [w64 (x := a.f2 + gap) (by omega) (by omega), w64 (x := b.f2 + gap) (by omega) (by omega)]
  by_cases h : b.f1 < a.f2 + gap <;> simp [h]
def rowV (l : List S33) (gap : Int) (i : Nat) : Nat → List Int
  | 0 => []
  | n + 1 => rowV l gap i n ++ (if n ≠ i ∧ exclV (rd_T33 l i) (rd_T33 l n) gap = true then [(n : Int)] else [])
def rowsV (l : List S33) (gap : Int) : Nat → List (List Int)
  | 0 => []
  | n + 1 => rowsV l gap n ++ [rowV l gap n l.length]
theorem rowV_length (l : List S33) (gap : Int) (i : Nat) : ∀ n, (rowV l gap i n).length ≤ n
  | 0 => Nat.le_refl _
  | n + 1 => by
    have := rowV_length l gap i n
    unfold rowV
    rw [List.length_append]
    split <;> simp <;> omega
theorem rowsV_length (l : List S33) (gap : Int) : ∀ n, (rowsV l gap n).length = n
  | 0 => rfl
  | n + 1 => by
    unfold rowsV
    rw [List.length_append, rowsV_length l gap n]
    rfl
theorem contact_Exclude_l1 {l : List S33} (hl : GoodPasses l) {gap : Int} (hg : 0 ≤ gap ∧ gap ≤ 10000000) {i : Nat} (hi : i < l.length) {acc : List (List Int)} (hacc : acc.length ≤ 100) {r : List (List Int) × Int}
    (h : Ev (fun k => contact_Exclude.l0 k l gap (acc ++ [rowV l gap i l.length]) l (l.length : Int) ((i + 1 : Nat) : Int)) r) :
    ∀ d j : Nat, j + d = l.length → Ev (fun k => contact_Exclude.l1 k l gap acc (i : Int) (rowV l gap i j) l (l.length : Int) (i : Int) l (l.length : Int) (j : Int) (rd_T33 l i).f0 (rd_T33 l i).f1 (rd_T33 l i).f2 (rd_T33 l i).f3) r := by
  have hm := hl.many
  intro d
  induction d with
  | zero =>
    intro j hj
    obtain rfl : j = l.length := by omega
    refine Ev.step (fun k => contact_Exclude.l1.eq_2 ..) ?_
    simp only [if_neg (show ¬ (l.length : Int) < (l.length : Int) by omega), if_pos (show acc.length < 5864062014805 by omega), w64 (x := (i : Int) + 1) (by omega) (by omega)]
    exact h
  | succ d ih =>
    intro j hj
    have hlt : j < l.length := by omega
    have hn := ih (j + 1) (by omega)
    have hr := rowV_length l gap i j
    refine Ev.step (fun k => contact_Exclude.l1.eq_2 ..) ?_
    simp only [if_pos (show (j : Int) < (l.length : Int) by omega), if_pos (show (0 : Int) ≤ (j : Int) by omega), w64 (x := (j : Int) + 1) (by omega) (by omega)]
    unfold rowV at hn
    by_cases hji : j = i
    · simp only [if_pos (show (j : Int) = (i : Int) by omega)]
      rw [if_neg (fun h => h.1 hji), List.append_nil] at hn
      exact hn
    · simp only [if_neg (show ¬ (j : Int) = (i : Int) by omega), contact_exclude_eq (hl.each i hi) (hl.each j hlt) hg, Option.bind_some]
      by_cases he : exclV (rd_T33 l i) (rd_T33 l j) gap = true
      · simp only [if_pos he, if_pos (show (rowV l gap i j).length < 17592186044416 by omega)]
        rw [if_pos ⟨hji, he⟩] at hn
        exact hn
      · simp only [if_neg he]
        rw [if_neg (fun h => he h.2), List.append_nil] at hn
        exact hn
theorem contact_Exclude_l0 {l : List S33} (hl : GoodPasses l) {gap : Int} (hg : 0 ≤ gap ∧ gap ≤ 10000000) : ∀ d i : Nat, i + d = l.length → Ev (fun k => contact_Exclude.l0 k l gap (rowsV l gap i) l (l.length : Int) (i : Int)) (rowsV l gap l.length, 0) := by
  have hm := hl.many
  intro d
  induction d with
  | zero =>
    intro i hi
    obtain rfl : i = l.length := by omega
    refine Ev.step (fun k => contact_Exclude.l0.eq_2 ..) ?_
    simp only [if_neg (show ¬ (l.length : Int) < (l.length : Int) by omega)]
    exact Ev.now _
  | succ d ih =>
    intro i hi
    have hlt : i < l.length := by omega
    have hn := ih (i + 1) (by omega)
    refine Ev.step (fun k => contact_Exclude.l0.eq_2 ..) ?_
    simp only [if_pos (show (i : Int) < (l.length : Int) by omega), if_pos (show (0 : Int) ≤ (i : Int) by omega)]
    exact contact_Exclude_l1 hl hg hlt (by rw [rowsV_length]; omega) hn l.length 0 (by omega)
def gapF (l : List S33) (gap : Int) : Int := firstV [checkV l, if 0 ≤ gap ∧ gap ≤ 10000000 then 0 else 1]
theorem gapF_zero {l : List S33} {gap : Int} : gapF l gap = 0 ↔ (checkV l = 0 ∧ (0 ≤ gap ∧ gap ≤ 10000000)) := by
  unfold gapF firstV firstV firstV
  by_cases h1 : checkV l = 0 <;> by_cases h2 : (0 ≤ gap ∧ gap ≤ 10000000) <;> simp only [h1, h2, if_true, if_false, true_and, and_true, false_and, and_false, iff_true, iff_false, and_self] <;> omega
def excludeV (l : List S33) (gap : Int) : List (List Int) × Int := if gapF l gap = 0 then (rowsV l gap l.length, 0) else ([], gapF l gap)
theorem contact_Exclude_ev (l : List S33) (gap : Int) : Ev (fun k => contact_Exclude.f k l gap) (excludeV l gap) := by
  simp only [contact_Exclude.f]
  refine Ev.bind (contact_CheckPasses_ev l) ?_
  simp only [kit_Range_eq, Option.bind_some]
  refine Ev.bind (kit_First_ev _ (by simp)) ?_
  unfold excludeV
  show Ev (fun n => if gapF l gap = 0 then _ else _) _
  by_cases h : gapF l gap = 0
  · obtain ⟨h1, h2⟩ := gapF_zero.1 h
    simp only [if_pos h]
    exact contact_Exclude_l0 (checkV_zero h1) h2 l.length 0 (by omega)
  · simp only [if_neg h]
    exact Ev.now _
def bookV (l : List S33) (b : List Int) (i : Nat) : Int := if h : i < b.length then (if ¬ (0 ≤ rd b i ∧ rd b i < l.length) then 9 else if 0 < i ∧ rd b i ≤ rd b ((i : Int) - 1) then 8 else bookV l b (i + 1)) else 0
termination_by b.length - i
theorem contact_checkBooked_l0 (l : List S33) (b : List Int) (hb : b.length ≤ 1152921504606846976) : ∀ d i : Nat, i + d = b.length → Ev (fun k => contact_checkBooked.l0 k l b b (b.length : Int) (i : Int)) (bookV l b i) := by
  intro d
  induction d with
  | zero =>
    intro i hi
    refine Ev.step (fun k => contact_checkBooked.l0.eq_2 ..) ?_
    simp only [if_neg (show ¬ (i : Int) < (b.length : Int) by omega)]
    rw [bookV, dif_neg (by omega)]
    exact Ev.now _
  | succ d ih =>
    intro i hi
    have hlt : i < b.length := by omega
    have hn := ih (i + 1) (by omega)
    rw [bookV, dif_pos hlt]
    have j1 : ∀ c : Bool, c = decide (¬ (0 ≤ rd b i ∧ rd b i < l.length)) → Ev (fun k => contact_checkBooked.j1 k l b (i : Int) (rd b i) b (b.length : Int) (i : Int) c) (if ¬ (0 ≤ rd b i ∧ rd b i < l.length) then 9 else if 0 < i ∧ rd b i ≤ rd b ((i : Int) - 1) then 8 else bookV l b (i + 1)) := by
      intro c hc
      refine Ev.step (fun k => contact_checkBooked.j1.eq_2 ..) ?_
      by_cases h1 : ¬ (0 ≤ rd b i ∧ rd b i < l.length)
      · rw [decide_eq_true h1] at hc
        subst hc
        simp only [if_pos h1, if_true]
        exact Ev.now _
      · rw [decide_eq_false h1] at hc
        subst hc
        simp only [if_neg h1, if_neg Bool.false_ne_true, w64 (x := (i : Int) + 1) (by omega) (by omega)]
        by_cases h2 : 0 < i
        · simp only [w64 (x := (i : Int) - 1) (by omega) (by omega), if_pos (show (i : Int) > 0 by omega), if_pos (show (0 : Int) ≤ (i : Int) - 1 by omega), if_pos (show (i : Int) - 1 < (b.length : Int) by omega)]
          by_cases h3 : rd b i ≤ rd b ((i : Int) - 1)
          · simp only [if_pos h3, if_pos (show 0 < i ∧ rd b i ≤ rd b ((i : Int) - 1) from ⟨h2, h3⟩)]
            exact Ev.now _
          · simp only [if_neg h3, if_neg (show ¬ (0 < i ∧ rd b i ≤ rd b ((i : Int) - 1)) from fun h => h3 h.2)]
            exact hn
        · simp only [if_neg (show ¬ (i : Int) > 0 by omega), if_neg (show ¬ (0 < i ∧ rd b i ≤ rd b ((i : Int) - 1)) from fun h => h2 h.1)]
          exact hn
    refine Ev.step (fun k => contact_checkBooked.l0.eq_2 ..) ?_
    simp only [if_pos (show (i : Int) < (b.length : Int) by omega), if_pos (show (0 : Int) ≤ (i : Int) by omega)]
    by_cases h1 : rd b i < 0
    · simp only [if_pos h1]
      exact j1 true (by rw [decide_eq_true (by omega)])
    · simp only [if_neg h1]
      refine j1 _ ?_
      congr 1
      rw [eq_iff_iff]
      omega
theorem contact_checkBooked_ev (l : List S33) (b : List Int) (hb : b.length ≤ 1152921504606846976) : Ev (fun k => contact_checkBooked.f k l b) (bookV l b 0) := by
  simp only [contact_checkBooked.f]
  exact contact_checkBooked_l0 l b hb b.length 0 (by omega)
structure GoodBook (l : List S33) (b : List Int) : Prop where
  inside : ∀ i : Nat, i < b.length → 0 ≤ rd b i ∧ rd b i < l.length
  rise : ∀ i : Nat, i + 1 < b.length → rd b i < rd b ((i + 1 : Nat) : Int)
theorem bookV_zero {l : List S33} {b : List Int} : ∀ d i : Nat, i + d = b.length → bookV l b i = 0 → ∀ j : Nat, i ≤ j → j < b.length → (0 ≤ rd b j ∧ rd b j < l.length) ∧ (0 < j → rd b ((j : Int) - 1) < rd b j) := by
  intro d
  induction d with
  | zero => intro i hi _ j h1 h2; omega
  | succ d ih =>
    intro i hi h j h1 h2
    rw [bookV, dif_pos (by omega)] at h
    split at h
    · omega
    · rename_i h3
      split at h
      · omega
      · rename_i h4
        rcases Nat.lt_or_eq_of_le h1 with h5 | rfl
        · exact ih (i + 1) (by omega) h j h5 h2
        · refine ⟨Decidable.not_not.1 h3, fun h6 => ?_⟩
          have : ¬ rd b i ≤ rd b ((i : Int) - 1) := fun h7 => h4 ⟨h6, h7⟩
          omega
theorem bookV_good {l : List S33} {b : List Int} (h : bookV l b 0 = 0) : GoodBook l b := by
  have hz := bookV_zero b.length 0 (by omega) h
  exact ⟨fun i hi => (hz i (by omega) hi).1, fun i hi => by simpa using (hz (i + 1) (by omega) hi).2 (by omega)⟩
theorem GoodBook.least {l : List S33} {b : List Int} (h : GoodBook l b) : ∀ i : Nat, i < b.length → (i : Int) ≤ rd b i
  | 0, hi => (h.inside 0 hi).1
  | i + 1, hi => by
    have h1 := h.least i (by omega)
    have h2 := h.rise i hi
    omega
theorem GoodBook.many {l : List S33} {b : List Int} (h : GoodBook l b) : b.length ≤ l.length := by
  by_cases h0 : b.length = 0
  · omega
  · have h1 := h.least (b.length - 1) (by omega)
    have h2 := (h.inside (b.length - 1) (by omega)).2
    omega
theorem GoodBook.pass {l : List S33} {b : List Int} (h : GoodBook l b) (hl : GoodPasses l) {i : Nat} (hi : i < b.length) : GoodPass (rd_T33 l (rd b i)) := hl.at (h.inside i hi).1 (h.inside i hi).2
def clashRow (l : List S33) (gap : Int) (b : List Int) (i : Nat) (j : Nat) : Bool := if h : j < i then exclV (rd_T33 l (rd b j)) (rd_T33 l (rd b i)) gap || clashRow l gap b i (j + 1) else false
termination_by i - j
def clashV (l : List S33) (gap : Int) (b : List Int) (i : Nat) : Bool := if h : i < b.length then clashRow l gap b i 0 || clashV l gap b (i + 1) else false
termination_by b.length - i
theorem rd_take {b : List Int} {i j : Nat} (h : j < i) (hi : i ≤ b.length) : rd (b.take i) (j : Int) = rd b (j : Int) := by
  unfold rd
  simp [List.getD_eq_getElem?_getD, List.getElem?_take, h]
theorem contact_clash_l1 {l : List S33} (hl : GoodPasses l) {gap : Int} (hg : 0 ≤ gap ∧ gap ≤ 10000000) {b : List Int} (hb : GoodBook l b) {i : Nat} (hi : i < b.length) {rest : Bool}
    (h : Ev (fun k => contact_clash.l0 k l gap b b (b.length : Int) ((i + 1 : Nat) : Int)) rest) :
    ∀ d j : Nat, j + d = i → Ev (fun k => contact_clash.l1 k l gap b (rd b i) b (b.length : Int) (i : Int) (b.take i) ((b.take i).length : Int) (j : Int)) (clashRow l gap b i j || rest) := by
  have hm := hl.many
  have hbm := hb.many
  have ht : (b.take i).length = i := by rw [List.length_take]; omega
  intro d
  induction d with
  | zero =>
    intro j hj
    obtain rfl : j = i := by omega
    refine Ev.step (fun k => contact_clash.l1.eq_2 ..) ?_
    simp only [ht, if_neg (show ¬ (j : Int) < (j : Int) by omega), w64 (x := (j : Int) + 1) (by omega) (by omega)]
    rw [clashRow, dif_neg (by omega), Bool.false_or]
    exact h
  | succ d ih =>
    intro j hj
    have hn := ih (j + 1) (by omega)
    have ib := hb.inside i hi
    have jb := hb.inside j (by omega)
    refine Ev.step (fun k => contact_clash.l1.eq_2 ..) ?_
    rw [clashRow, dif_pos (by omega)]
    simp only [ht, rd_take (b := b) (show j < i by omega) (by omega), if_pos (show (j : Int) < (i : Int) by omega), if_pos (show (0 : Int) ≤ (j : Int) by omega), if_pos jb.1, if_pos jb.2, if_pos ib.1, if_pos ib.2, w64 (x := (j : Int) + 1) (by omega) (by omega),
      contact_exclude_eq (hb.pass hl (show j < b.length by omega)) (hb.pass hl hi) hg, Option.bind_some]
    by_cases he : exclV (rd_T33 l (rd b j)) (rd_T33 l (rd b i)) gap = true
    · simp only [he, if_true, Bool.true_or]
      exact Ev.now _
    · have he' : exclV (rd_T33 l (rd b j)) (rd_T33 l (rd b i)) gap = false := by simpa using he
      simp only [he', if_neg Bool.false_ne_true, Bool.false_or]
      rw [ht] at hn
      exact hn
theorem contact_clash_l0 {l : List S33} (hl : GoodPasses l) {gap : Int} (hg : 0 ≤ gap ∧ gap ≤ 10000000) {b : List Int} (hb : GoodBook l b) : ∀ d i : Nat, i + d = b.length → Ev (fun k => contact_clash.l0 k l gap b b (b.length : Int) (i : Int)) (clashV l gap b i) := by
  intro d
  induction d with
  | zero =>
    intro i hi
    refine Ev.step (fun k => contact_clash.l0.eq_2 ..) ?_
    simp only [if_neg (show ¬ (i : Int) < (b.length : Int) by omega)]
    rw [clashV, dif_neg (by omega)]
    exact Ev.now _
  | succ d ih =>
    intro i hi
    have hlt : i < b.length := by omega
    refine Ev.step (fun k => contact_clash.l0.eq_2 ..) ?_
    rw [clashV, dif_pos hlt]
    simp only [if_pos (show (i : Int) < (b.length : Int) by omega), if_pos (show (0 : Int) ≤ (i : Int) by omega), if_pos (show (i : Int) ≤ (b.length : Int) by omega), Int.toNat_natCast]
    exact contact_clash_l1 hl hg hb hlt (ih (i + 1) (by omega)) i 0 (by omega)
theorem contact_clash_ev {l : List S33} (hl : GoodPasses l) {gap : Int} (hg : 0 ≤ gap ∧ gap ≤ 10000000) {b : List Int} (hb : GoodBook l b) : Ev (fun k => contact_clash.f k l gap b) (clashV l gap b 0) := by
  simp only [contact_clash.f]
  exact contact_clash_l0 hl hg hb b.length 0 (by omega)
def bookingV (l : List S33) (gap : Int) (b : List Int) : Int := if gapF l gap = 0 then (if bookV l b 0 = 0 then (if clashV l gap b 0 = true then 12 else 0) else bookV l b 0) else gapF l gap
theorem contact_CheckBooking_ev (l : List S33) (gap : Int) (b : List Int) (hb : b.length ≤ 1152921504606846976) : Ev (fun k => contact_CheckBooking.f k l gap b) (bookingV l gap b) := by
  simp only [contact_CheckBooking.f]
  refine Ev.bind (contact_CheckPasses_ev l) ?_
  simp only [kit_Range_eq, Option.bind_some]
  refine Ev.bind (kit_First_ev _ (by simp)) ?_
  unfold bookingV
  show Ev (fun n => if gapF l gap = 0 then _ else _) _
  by_cases h : gapF l gap = 0
  · obtain ⟨h1, h2⟩ := gapF_zero.1 h
    simp only [if_pos h]
    refine Ev.bind (contact_checkBooked_ev l b hb) ?_
    by_cases h3 : bookV l b 0 = 0
    · simp only [if_pos h3]
      refine Ev.bind (contact_clash_ev (checkV_zero h1) h2 (bookV_good h3)) ?_
      by_cases h4 : clashV l gap b 0 = true
      · simp only [if_pos h4]
        exact Ev.now _
      · simp only [if_neg h4]
        exact Ev.now _
    · simp only [if_neg h3]
      exact Ev.now _
  · simp only [if_neg h]
    exact Ev.now _
end Go.Proofs.Ytbngmblgkkdhpaa.Q
