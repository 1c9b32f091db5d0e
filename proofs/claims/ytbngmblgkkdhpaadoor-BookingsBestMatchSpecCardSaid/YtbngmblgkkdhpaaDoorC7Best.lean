/- Plain laws on the best booking: what a right booking is, and what the best one that ends with a pass is. -/
-- Made by wip/tools/claimp.py of this session's texts; Lean checks it.
import Derived.Test.YtbngmblgkkdhpaaDoorC7Book
import Derived.Test.YtbngmblgkkdhpaaDoorC7Gd10
import Derived.Test.YtbngmblgkkdhpaaDoorC7Gd9
set_option linter.unusedVariables false
set_option linter.unusedSimpArgs false
namespace Go.Proofs.YtbngmblgkkdhpaaDoor.Q
open Go.RowKit Go.Proofs.YtbngmblgkkdhpaaDoorW.PrintWords Go.Proofs.YtbngmblgkkdhpaaDoorW.PrintLast Go.Proofs.YtbngmblgkkdhpaaDoorW.PrintMore Go.Proofs.YtbngmblgkkdhpaaDoor.Base
theorem from_le {a b : S55} (h : passAfter a b = false) : a.f1 ≤ b.f1 := by
  unfold passAfter at h
  by_cases c : b.f1 < a.f1
  · simp [c] at h
  · omega
theorem from_rise {l : List S55} (hl : GoodPasses l) : ∀ d i : Nat, i + d < l.length → (rd_T55 l (i : Int)).f1 ≤ (rd_T55 l ((i + d : Nat) : Int)).f1
  | 0, i, _ => Int.le_refl _
  | d + 1, i, h => by
    have h1 := from_rise hl d i (by omega)
    have h2 := from_le (hl.order (i + d) (by omega))
    have e : i + (d + 1) = i + d + 1 := by omega
    rw [e]
    omega
theorem from_up {l : List S55} (hl : GoodPasses l) {a c : Int} (h0 : 0 ≤ a) (h1 : a ≤ c) (h2 : c < l.length) : (rd_T55 l a).f1 ≤ (rd_T55 l c).f1 := by
  have := from_rise hl (c - a).toNat a.toNat (by omega)
  rwa [show ((a.toNat : Nat) : Int) = a by omega, show ((a.toNat + (c - a).toNat : Nat) : Int) = c by omega] at this
/-- One pass behind another one, with the gap. -/
def Apart (l : List S55) (gap a c : Int) : Prop := a < c ∧ (rd_T55 l a).f2 + gap ≤ (rd_T55 l c).f1
theorem excl_iff {l : List S55} (hl : GoodPasses l) {gap : Int} (hg : 0 ≤ gap) {a c : Int} (h0 : 0 ≤ a) (h1 : a < c) (h2 : c < l.length) : exclV (rd_T55 l a) (rd_T55 l c) gap = false ↔ Apart l gap a c := by
  have h3 := from_up hl h0 (Int.le_of_lt h1) h2
  have h4 := (hl.at (k := c) (by omega) h2).less
  unfold exclV Apart
  have e : decide ((rd_T55 l a).f1 < (rd_T55 l c).f2 + gap) = true := decide_eq_true (by omega)
  rw [e, Bool.and_true, decide_eq_false_iff_not]
  omega
theorem Apart.trans {l : List S55} (hl : GoodPasses l) {gap : Int} (hg : 0 ≤ gap) {a b c : Int} (hb : 0 ≤ b ∧ b < l.length) (h : Apart l gap a b) (k : Apart l gap b c) : Apart l gap a c := by
  have := (hl.at hb.1 hb.2).less
  exact ⟨Int.lt_trans h.1 k.1, by have := h.2; have := k.2; omega⟩
/-- A right booking. -/
structure Ok (l : List S55) (gap : Int) (b : List Int) : Prop where
  inside : ∀ a ∈ b, 0 ≤ a ∧ a < l.length
  apart : b.Pairwise (Apart l gap)
noncomputable def tot (l : List S55) (b : List Int) : Int := (b.map fun a => wholeV (rd_T55 l a)).sum
theorem rdI_get {b : List Int} {i : Nat} (hi : i < b.length) : rd b (i : Int) = b[i] := by
  unfold rd
  simp [List.getD_eq_getElem?_getD, List.getElem?_eq_getElem hi]
theorem GoodBook.up {l : List S55} {b : List Int} (h : GoodBook l b) : ∀ d i : Nat, i + d + 1 < b.length → rd b (i : Int) < rd b ((i + d + 1 : Nat) : Int)
  | 0, i, hi => h.rise i hi
  | d + 1, i, hi => by
    have h1 := h.up d i (by omega)
    have h2 := h.rise (i + d + 1) (by omega)
    have e : i + (d + 1) + 1 = i + d + 1 + 1 := by omega
    rw [e]
    omega
theorem clashRow_false {l : List S55} {gap : Int} {b : List Int} {i : Nat} : ∀ d j : Nat, j + d = i → (clashRow l gap b i j = false ↔ ∀ q : Nat, j ≤ q → q < i → exclV (rd_T55 l (rd b q)) (rd_T55 l (rd b i)) gap = false) := by
  intro d
  induction d with
  | zero =>
    intro j hj
    rw [clashRow, dif_neg (by omega)]
    exact ⟨fun _ q h1 h2 => by omega, fun _ => rfl⟩
  | succ d ih =>
    intro j hj
    rw [clashRow, dif_pos (by omega), Bool.or_eq_false_iff, ih (j + 1) (by omega)]
    constructor
    · rintro ⟨h1, h2⟩ q hq1 hq2
      rcases Nat.lt_or_eq_of_le hq1 with h | rfl
      · exact h2 q h hq2
      · exact h1
    · intro h
      exact ⟨h j (Nat.le_refl _) (by omega), fun q h1 h2 => h q (by omega) h2⟩
theorem clashV_false {l : List S55} {gap : Int} {b : List Int} : ∀ d i : Nat, i + d = b.length → (clashV l gap b i = false ↔ ∀ p : Nat, i ≤ p → p < b.length → ∀ q : Nat, q < p → exclV (rd_T55 l (rd b q)) (rd_T55 l (rd b p)) gap = false) := by
  intro d
  induction d with
  | zero =>
    intro i hi
    rw [clashV, dif_neg (by omega)]
    exact ⟨fun _ p h1 h2 => by omega, fun _ => rfl⟩
  | succ d ih =>
    intro i hi
    rw [clashV, dif_pos (by omega), Bool.or_eq_false_iff, ih (i + 1) (by omega), clashRow_false i 0 (by omega)]
    constructor
    · rintro ⟨h1, h2⟩ p hp1 hp2 q hq
      rcases Nat.lt_or_eq_of_le hp1 with h | rfl
      · exact h2 p h hp2 q hq
      · exact h1 q (Nat.zero_le _) hq
    · intro h
      exact ⟨fun q _ h2 => h i (Nat.le_refl _) (by omega) q h2, fun p h1 h2 => h p (by omega) h2⟩
theorem bookV_of {l : List S55} {b : List Int} (h : GoodBook l b) : ∀ d i : Nat, i + d = b.length → bookV l b i = 0 := by
  intro d
  induction d with
  | zero =>
    intro i hi
    rw [bookV, dif_neg (by omega)]
  | succ d ih =>
    intro i hi
    have h1 := h.inside i (by omega)
    rw [bookV, dif_pos (by omega), if_neg (fun q => q h1), if_neg ?_, ih (i + 1) (by omega)]
    rintro ⟨h2, h3⟩
    obtain ⟨i', rfl⟩ : ∃ i', i = i' + 1 := ⟨i - 1, by omega⟩
    have h4 := h.rise i' (by omega)
    rw [show (((i' + 1 : Nat) : Int) - 1) = (i' : Int) by omega] at h3
    omega
theorem Ok.book {l : List S55} {gap : Int} {b : List Int} (h : Ok l gap b) : GoodBook l b := ⟨fun i hi => by
  rw [rdI_get hi]
  exact h.inside _ (List.getElem_mem hi), fun i hi => by
  rw [rdI_get (show i < b.length by omega), rdI_get hi]
  exact (List.pairwise_iff_getElem.1 h.apart i (i + 1) (by omega) hi (by omega)).1⟩
theorem ok_iff {l : List S55} {gap : Int} {b : List Int} (h0 : gapF l gap = 0) : bookingV l gap b = 0 ↔ Ok l gap b := by
  obtain ⟨hc, hg⟩ := gapF_zero.1 h0
  have hl := checkV_zero hc
  unfold bookingV
  rw [if_pos h0]
  constructor
  · intro h
    by_cases h1 : bookV l b 0 = 0
    · rw [if_pos h1] at h
      have hb := bookV_good h1
      have h2 : clashV l gap b 0 = false := by
        cases hcl : clashV l gap b 0 with
        | false => rfl
        | true => rw [hcl] at h; simp at h
      have h3 := (clashV_false b.length 0 (by omega)).1 h2
      refine ⟨fun a ha => ?_, List.pairwise_iff_getElem.2 fun i j hi hj hij => ?_⟩
      · obtain ⟨i, hi, rfl⟩ := List.getElem_of_mem ha
        have := hb.inside i hi
        rwa [rdI_get hi] at this
      · have h4 := h3 j (Nat.zero_le _) hj i hij
        have h5 := hb.up (j - i - 1) i (by omega)
        rw [show i + (j - i - 1) + 1 = j by omega] at h5
        have h6 := (excl_iff hl hg.1 (hb.inside i hi).1 h5 (hb.inside j hj).2).1 h4
        rwa [rdI_get hi, rdI_get hj] at h6
    · rw [if_neg h1] at h
      exact absurd h h1
  · intro h
    have hb := h.book
    rw [if_pos (bookV_of hb b.length 0 (by omega)), if_neg]
    rw [Bool.not_eq_true, clashV_false b.length 0 (by omega)]
    intro p _ hp q hq
    have h5 := List.pairwise_iff_getElem.1 h.apart q p (by omega) hp hq
    rw [← rdI_get (show q < b.length by omega), ← rdI_get hp] at h5
    exact (excl_iff hl hg.1 (hb.inside q (by omega)).1 h5.1 (hb.inside p hp).2).2 h5
theorem totalV_tot (l : List S55) (b : List Int) : ∀ n : Nat, n ≤ b.length → totalV l b n = tot l (b.take n)
  | 0, _ => rfl
  | n + 1, hn => by
    rw [totalV, totalV_tot l b n (by omega), rdI_get (show n < b.length by omega), tot, tot, List.take_succ_eq_append_getElem (show n < b.length by omega), List.map_append, List.sum_append]
    simp
theorem totalV_all (l : List S55) (b : List Int) : totalV l b b.length = tot l b := by
  rw [totalV_tot l b b.length (Nat.le_refl _), List.take_length]
theorem tot_snoc (l : List S55) (b : List Int) (x : Int) : tot l (b ++ [x]) = tot l b + wholeV (rd_T55 l x) := by
  simp [tot, List.map_append, List.sum_append]
theorem Ok.tot {l : List S55} (hl : GoodPasses l) {gap : Int} {b : List Int} (h : Ok l gap b) : b.length ≤ 100 ∧ 0 ≤ tot l b ∧ tot l b ≤ 1000000000000000 := by
  have h1 := totalV_bd hl h.book b.length (Nat.le_refl _)
  have h2 := h.book.many
  have h3 := hl.many
  rw [totalV_all] at h1
  refine ⟨by omega, h1.1, ?_⟩
  have : (b.length : Int) * 10000000000000 ≤ 100 * 10000000000000 := Int.mul_le_mul_of_nonneg_right (by omega) (by omega)
  omega
theorem Ok.nil (l : List S55) (gap : Int) : Ok l gap [] := ⟨fun a ha => (List.not_mem_nil ha).elim, List.Pairwise.nil⟩
theorem ok_snoc {l : List S55} {gap : Int} {b : List Int} {x : Int} : Ok l gap (b ++ [x]) ↔ Ok l gap b ∧ (0 ≤ x ∧ x < l.length) ∧ ∀ a ∈ b, Apart l gap a x := by
  constructor
  · intro h
    obtain ⟨h1, _, h3⟩ := List.pairwise_append.1 h.apart
    exact ⟨⟨fun a ha => h.inside a (List.mem_append_left _ ha), h1⟩, h.inside x (by simp), fun a ha => h3 a ha x (by simp)⟩
  · rintro ⟨h1, h2, h3⟩
    refine ⟨fun a ha => ?_, List.pairwise_append.2 ⟨h1.apart, List.pairwise_singleton _ _, fun a ha c hc => ?_⟩⟩
    · rcases List.mem_append.1 ha with h | h
      · exact h1.inside a h
      · rw [List.mem_singleton.1 h]; exact h2
    · rw [List.mem_singleton.1 hc]; exact h3 a ha
/-- At least as good: it carries more, or as much with no more passes. -/
def AsGood (l : List S55) (a : S80) (b : List Int) : Prop := tot l b < a.f1 ∨ (a.f1 = tot l b ∧ a.f0.length ≤ b.length)
def Choice (l : List S55) (gap : Int) (a : S80) : Prop := Ok l gap a.f0 ∧ a.f1 = tot l a.f0
theorem AsGood.trans {l : List S55} {gap : Int} {a c : S80} {b : List Int} (hc : Choice l gap c) (h : AsGood l a c.f0) (k : AsGood l c b) : AsGood l a b := by
  have := hc.2
  rcases h with h | ⟨h1, h2⟩ <;> rcases k with k | ⟨k1, k2⟩
  · exact .inl (by omega)
  · exact .inl (by omega)
  · exact .inl (by omega)
  · exact .inr ⟨by omega, by omega⟩
theorem AsGood.snoc {l : List S55} {a : S80} {b : List Int} (h : AsGood l a b) (x : Int) (t : Int) (ht : t = wholeV (rd_T55 l x)) : AsGood l ⟨a.f0 ++ [x], a.f1 + t⟩ (b ++ [x]) := by
  unfold AsGood
  rw [tot_snoc, ← ht]
  rcases h with h | ⟨h1, h2⟩
  · exact .inl (by show tot l b + t < a.f1 + t; omega)
  · exact .inr ⟨by show a.f1 + t = tot l b + t; omega, by simp; omega⟩
end Go.Proofs.YtbngmblgkkdhpaaDoor.Q
