/- A pass excludes another one just if this excludes it, and no booking that is right has both: for every list of passes, every gap and every booking. -/
-- Made by wip/tools/claimp.py of this session's texts; Lean checks it.
import Derived.Test.YtbngmblgkkdhpaaC5Book
import Derived.Test.YtbngmblgkkdhpaaC5StBookingsExcludeEven
import Derived.Test.YtbngmblgkkdhpaaC5G12
set_option linter.unusedVariables false
set_option linter.unusedSimpArgs false
namespace Go.Proofs.Ytbngmblgkkdhpaa.Q
open Go.RowKit Go.Proofs.YtbngmblgkkdhpaaW.PrintWords Go.Proofs.YtbngmblgkkdhpaaW.PrintLast Go.Proofs.YtbngmblgkkdhpaaW.PrintMore Go.Proofs.Ytbngmblgkkdhpaa.Base
theorem Ev.loop' {α : Type} {L : Nat → Nat → Option α} {v : Nat → α} (n : Nat) (fin : Ev (fun k => L k n) (v n)) (step : ∀ i, i < n → Ev (fun k => L k (i + 1)) (v (i + 1)) → Ev (fun k => L k i) (v i)) : ∀ d i : Nat, i + d = n → Ev (fun k => L k i) (v i)
  | 0, i, h => by
    obtain rfl : i = n := by omega
    exact fin
  | d + 1, i, h => step i (by omega) (Ev.loop' n fin step d (i + 1) (by omega))
theorem Ev.ite' {α : Type} {c : Prop} [Decidable c] {A B : Nat → Option α} {v : α} (h1 : c → Ev A v) (h2 : ¬ c → Ev B v) : Ev (fun k => if c then A k else B k) v := by
  by_cases h : c
  · simp only [if_pos h]; exact h1 h
  · simp only [if_neg h]; exact h2 h
theorem contains_ev (l : List Int) (a : Int) (hl : l.length ≤ 1000000) : Ev (fun k => slices_Contains_int_int.f k l a) (decide (a ∈ l)) := by
  have hix : ∃ t : Int, Ev (fun k => slices_Index_int_int.f k l a) t ∧ (t ≥ 0 ↔ a ∈ l) := by
    simp only [slices_Index_int_int.f]
    have main : ∀ d i : Nat, i + d = l.length → (∀ j (hj : j < l.length), j < i → l[j] ≠ a) → ∃ t : Int, Ev (fun k => slices_Index_int_int.l0 k l a (l.length : Int) (i : Int)) t ∧ (t ≥ 0 ↔ a ∈ l) := by
      intro d
      induction d with
      | zero =>
        intro i hi hP
        refine ⟨-1, ?_, ?_⟩
        · refine Ev.step (fun k => slices_Index_int_int.l0.eq_2 ..) ?_
          simp only [if_neg (show ¬ (i : Int) < l.length by omega)]
          exact Ev.now _
        · refine ⟨fun q => by omega, fun q => ?_⟩
          obtain ⟨j, hj, e⟩ := List.mem_iff_getElem.1 q
          exact absurd e (hP j hj (by omega))
      | succ d ih =>
        intro i hi hP
        have hlt : i < l.length := by omega
        have hrd : rd l (i : Int) = l[i] := by
          unfold rd
          simp [List.getD_eq_getElem?_getD, List.getElem?_eq_getElem hlt]
        by_cases e : a = l[i]
        · refine ⟨(i : Int), ?_, ?_⟩
          · refine Ev.step (fun k => slices_Index_int_int.l0.eq_2 ..) ?_
            simp only [if_pos (show (i : Int) < l.length by omega), if_pos (show (0 : Int) ≤ i by omega), hrd, if_pos e]
            exact Ev.now _
          · exact ⟨fun _ => by rw [e]; exact List.getElem_mem hlt, fun _ => by omega⟩
        · obtain ⟨t, ht, hm⟩ := ih (i + 1) (by omega) (fun j hj hji => by
            by_cases q : j = i
            · subst q; exact fun z => e z.symm
            · exact hP j hj (by omega))
          refine ⟨t, ?_, hm⟩
          refine Ev.step (fun k => slices_Index_int_int.l0.eq_2 ..) ?_
          simp only [if_pos (show (i : Int) < l.length by omega), if_pos (show (0 : Int) ≤ i by omega), hrd, if_neg e, w64 (x := (i : Int) + 1) (by omega) (by omega)]
          exact ht
    exact main l.length 0 (by omega) (fun j hj hji => by omega)
  obtain ⟨t, ht, hm⟩ := hix
  simp only [slices_Contains_int_int.f]
  refine Ev.bind ht ?_
  have e : decide (t ≥ 0) = decide (a ∈ l) := decide_eq_decide.2 hm
  rw [e]
  exact Ev.now _
theorem mem_rowV {l : List S33} {gap : Int} {i : Nat} {x : Int} : ∀ n : Nat, x ∈ rowV l gap i n ↔ ∃ j : Nat, j < n ∧ x = (j : Int) ∧ j ≠ i ∧ exclV (rd_T33 l i) (rd_T33 l j) gap = true
  | 0 => by simp [rowV]
  | n + 1 => by
    unfold rowV
    rw [List.mem_append, mem_rowV n]
    constructor
    · rintro (⟨j, h1, h2⟩ | h)
      · exact ⟨j, by omega, h2⟩
      · split at h
        · rename_i c
          exact ⟨n, by omega, List.mem_singleton.1 h, c.1, c.2⟩
        · cases h
    · rintro ⟨j, h1, h2, h3, h4⟩
      by_cases e : j = n
      · subst e
        right
        rw [if_pos ⟨h3, h4⟩]
        exact List.mem_singleton.2 h2
      · left
        exact ⟨j, by omega, h2, h3, h4⟩
theorem rows_at {l : List S33} {gap : Int} : ∀ (n i : Nat), i < n → (rowsV l gap n)[i]? = some (rowV l gap i l.length)
  | 0, i, h => by omega
  | n + 1, i, h => by
    unfold rowsV
    by_cases e : i = n
    · subst e
      rw [List.getElem?_append_right (by rw [rowsV_length]; exact Nat.le_refl _), rowsV_length]
      simp
    · rw [List.getElem?_append_left (by rw [rowsV_length]; omega)]
      exact rows_at n i (by omega)
theorem rd_rows {l : List S33} {gap : Int} {i : Nat} (h : i < l.length) : rd_L11 (rowsV l gap l.length) (i : Int) = rowV l gap i l.length := by
  unfold rd_L11
  rw [List.getD_eq_getElem?_getD, Int.toNat_natCast, rows_at l.length i h]
  rfl
theorem mem_row {l : List S33} {gap : Int} {i j : Nat} (hj : j < l.length) : (j : Int) ∈ rowV l gap i l.length ↔ j ≠ i ∧ exclV (rd_T33 l i) (rd_T33 l j) gap = true := by
  rw [mem_rowV]
  constructor
  · rintro ⟨q, h1, h2, h3⟩
    obtain rfl : q = j := by omega
    exact h3
  · intro h
    exact ⟨j, hj, rfl, h⟩
theorem clashRow_no {l : List S33} {gap : Int} {b : List Int} {i : Nat} : ∀ d j : Nat, j + d = i → clashRow l gap b i j = false → ∀ q : Nat, j ≤ q → q < i → exclV (rd_T33 l (rd b q)) (rd_T33 l (rd b i)) gap = false := by
  intro d
  induction d with
  | zero => intro j hj _ q h1 h2; omega
  | succ d ih =>
    intro j hj h q h1 h2
    rw [clashRow, dif_pos (by omega), Bool.or_eq_false_iff] at h
    by_cases e : q = j
    · subst e; exact h.1
    · exact ih (j + 1) (by omega) h.2 q (by omega) h2
theorem clashV_no {l : List S33} {gap : Int} {b : List Int} : ∀ d i : Nat, i + d = b.length → clashV l gap b i = false → ∀ q : Nat, i ≤ q → q < b.length → ∀ j : Nat, j < q → exclV (rd_T33 l (rd b j)) (rd_T33 l (rd b q)) gap = false := by
  intro d
  induction d with
  | zero => intro i hi _ q h1 h2; omega
  | succ d ih =>
    intro i hi h q h1 h2 j hj
    rw [clashV, dif_pos (by omega), Bool.or_eq_false_iff] at h
    by_cases e : q = i
    · subst e; exact clashRow_no q 0 (by omega) h.1 j (by omega) hj
    · exact ih (i + 1) (by omega) h.2 q (by omega) h2 j hj
theorem BookingsExcludeEven_pure : perigeelaw10_BookingsExcludeEven.Pure := by
  intro l gap b hl _ hb
  have hbl : b.length ≤ 1152921504606846976 := by have := hb.1; omega
  refine Ev.rounds ?_
  simp only [perigeelaw10_BookingsExcludeEven.f]
  have aw : Ev (fun k => (perigeelaw10_awake.f k).bind fun t => some t) true := Ev.bind (f := fun _ t => some t) perigeelaw10_awake_ev (Ev.now true)
  refine Ev.bind (contact_Exclude_ev l gap) ?_
  unfold excludeV
  by_cases h0 : gapF l gap = 0
  · rw [if_pos h0]
    simp only [if_true]
    obtain ⟨hc, hg⟩ := gapF_zero.1 h0
    have hgood := checkV_zero hc
    have hm := hgood.many
    have hR := rowsV_length l gap l.length
    have hrl : ∀ i, (rowV l gap i l.length).length ≤ 1000000 := fun i => by have := rowV_length l gap i l.length; omega
    -- the bookings behind the pairs
    have book : Ev (fun k => (contact_CheckBooking.f k l gap b).bind fun t112 => if t112 = 0 then perigeelaw10_BookingsExcludeEven.l2 k b (rowsV l gap l.length) 0 else (perigeelaw10_awake.f k).bind fun t113 => some t113) true := by
      refine Ev.bind (contact_CheckBooking_ev l gap b hbl) ?_
      refine Ev.ite' (fun hz => ?_) (fun _ => aw)
      unfold bookingV at hz
      rw [if_pos h0] at hz
      split at hz
      · rename_i hz1
        split at hz
        · omega
        · rename_i hz2
          have hgb := bookV_good hz1
          have hmany := hgb.many
          have hno := clashV_no b.length 0 (by omega) (Bool.eq_false_iff.2 hz2)
          refine Ev.loop' (L := fun k i => perigeelaw10_BookingsExcludeEven.l2 k b (rowsV l gap l.length) (i : Int)) (v := fun _ => true) b.length ?_ ?_ b.length 0 (by omega)
          · refine Ev.step (fun k => perigeelaw10_BookingsExcludeEven.l2.eq_2 ..) ?_
            simp only [if_neg (show ¬ (b.length : Int) < b.length by omega)]
            exact aw
          · intro i hi ih
            have ib := hgb.inside i hi
            refine Ev.step (fun k => perigeelaw10_BookingsExcludeEven.l2.eq_2 ..) ?_
            simp only [if_pos (show (i : Int) < b.length by omega)]
            refine Ev.loop' (L := fun k j => perigeelaw10_BookingsExcludeEven.l3 k b (rowsV l gap l.length) (i : Int) (j : Int)) (v := fun _ => true) i ?_ ?_ i 0 (by omega)
            · refine Ev.step (fun k => perigeelaw10_BookingsExcludeEven.l3.eq_2 ..) ?_
              simp only [if_neg (show ¬ (i : Int) < i by omega), w64 (x := (i : Int) + 1) (by omega) (by omega)]
              exact ih
            · intro j hj ih2
              have jb := hgb.inside j (by omega)
              obtain ⟨p, hp⟩ : ∃ p : Nat, rd b (i : Int) = p := ⟨(rd b (i : Int)).toNat, by omega⟩
              obtain ⟨q, hq⟩ : ∃ q : Nat, rd b (j : Int) = q := ⟨(rd b (j : Int)).toNat, by omega⟩
              rw [hp] at ib
              rw [hq] at jb
              refine Ev.step (fun k => perigeelaw10_BookingsExcludeEven.l3.eq_2 ..) ?_
              simp only [if_pos (show (j : Int) < i by omega), if_pos (show (0 : Int) ≤ i by omega), if_pos (show (i : Int) < b.length by omega), hp, hq, if_pos (show (0 : Int) ≤ p by omega), hR, if_pos ib.2, if_pos (show (0 : Int) ≤ j by omega), if_pos (show (j : Int) < b.length by omega), rd_rows (show p < l.length by omega), w64 (x := (j : Int) + 1) (by omega) (by omega)]
              refine Ev.bind (contains_ev _ _ (hrl p)) ?_
              have hx := hno i (by omega) hi j hj
              rw [hp, hq] at hx
              have hn : decide ((q : Int) ∈ rowV l gap p l.length) = false := decide_eq_false (fun z => by
                have z2 := ((mem_row (by omega)).1 z).2
                rw [exclV_comm, hx] at z2
                cases z2)
              simp only [hn, if_neg Bool.false_ne_true]
              exact ih2
      · rename_i hz1
        exact absurd hz hz1
    refine Ev.loop' (L := fun k i => perigeelaw10_BookingsExcludeEven.l0 k l gap b (rowsV l gap l.length) (i : Int)) (v := fun _ => true) l.length ?_ ?_ l.length 0 (by omega)
    · refine Ev.step (fun k => perigeelaw10_BookingsExcludeEven.l0.eq_2 ..) ?_
      simp only [hR, if_neg (show ¬ (l.length : Int) < l.length by omega)]
      exact book
    · intro i hi ih
      refine Ev.step (fun k => perigeelaw10_BookingsExcludeEven.l0.eq_2 ..) ?_
      simp only [hR, if_pos (show (i : Int) < l.length by omega)]
      refine Ev.loop' (L := fun k j => perigeelaw10_BookingsExcludeEven.l1 k l gap b (rowsV l gap l.length) (i : Int) (j : Int)) (v := fun _ => true) l.length ?_ ?_ l.length 0 (by omega)
      · refine Ev.step (fun k => perigeelaw10_BookingsExcludeEven.l1.eq_2 ..) ?_
        simp only [hR, if_neg (show ¬ (l.length : Int) < l.length by omega), w64 (x := (i : Int) + 1) (by omega) (by omega)]
        exact ih
      · intro j hj ih2
        refine Ev.step (fun k => perigeelaw10_BookingsExcludeEven.l1.eq_2 ..) ?_
        simp only [hR, if_pos (show (j : Int) < l.length by omega), if_pos (show (0 : Int) ≤ i by omega), if_pos (show (i : Int) < l.length by omega), if_pos (show (0 : Int) ≤ j by omega), rd_rows hi, rd_rows hj, w64 (x := (j : Int) + 1) (by omega) (by omega)]
        refine Ev.bind (contains_ev _ _ (hrl i)) ?_
        refine Ev.bind (contains_ev _ _ (hrl j)) ?_
        have e : decide ((j : Int) ∈ rowV l gap i l.length) = decide ((i : Int) ∈ rowV l gap j l.length) := decide_eq_decide.2 (by
          rw [mem_row hj, mem_row hi, exclV_comm]
          exact ⟨fun z => ⟨Ne.symm z.1, z.2⟩, fun z => ⟨Ne.symm z.1, z.2⟩⟩)
        simp only [e, bne_self_eq_false, if_neg Bool.false_ne_true]
        refine Ev.ite' (fun z => ?_) (fun _ => ih2)
        refine Ev.bind (contains_ev _ _ (hrl i)) ?_
        have hn : decide ((j : Int) ∈ rowV l gap i l.length) = false := decide_eq_false (fun y => ((mem_row hj).1 y).1 (by omega))
        simp only [hn, if_neg Bool.false_ne_true]
        exact ih2
  · rw [if_neg h0]
    simp only [if_neg h0, List.length_nil, if_pos (show ((0 : Nat) : Int) = 0 from rfl)]
    exact aw
end Go.Proofs.Ytbngmblgkkdhpaa.Q
namespace Go.Proofs.Ytbngmblgkkdhpaa.Pure
theorem BookingsExcludeEven : Q.perigeelaw10_BookingsExcludeEven.Pure := Q.BookingsExcludeEven_pure
end Go.Proofs.Ytbngmblgkkdhpaa.Pure
