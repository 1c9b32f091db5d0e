/- Best, Fair and ByStation answer as the reference does, with all errors: for every list of passes, every gap and every booking. -/
-- Made by wip/tools/claimp.py of this session's texts; Lean checks it.
import Derived.Test.YtbngmblgkkdhpaaDoorC7FairR
import Derived.Test.YtbngmblgkkdhpaaDoorC7StBookingsBestMatchSpec
import Derived.Test.YtbngmblgkkdhpaaDoorC7Gd17
set_option linter.unusedVariables false
set_option linter.unusedSimpArgs false
namespace Go.Proofs.YtbngmblgkkdhpaaDoor.Q
open Go.RowKit Go.Proofs.YtbngmblgkkdhpaaDoorW.PrintWords Go.Proofs.YtbngmblgkkdhpaaDoorW.PrintLast Go.Proofs.YtbngmblgkkdhpaaDoorW.PrintMore Go.Proofs.YtbngmblgkkdhpaaDoor.Base
theorem pairs_equal (l : List S42) (hl : l.length ≤ 1152921504606846976) : Ev (fun k => api_Pair.f k l l) true := by
  simp only [api_Pair.f, if_true]
  have main : ∀ d i : Nat, i + d = l.length → Ev (fun k => api_Pair.l0 k l l (l.length : Int) (i : Int)) true := by
    intro d
    induction d with
    | zero =>
      intro i hi
      refine Ev.step (fun k => api_Pair.l0.eq_2 ..) ?_
      simp only [if_neg (show ¬ (i : Int) < (l.length : Int) by omega)]
      exact Ev.now _
    | succ d ih =>
      intro i hi
      have hn := ih (i + 1) (by omega)
      refine Ev.step (fun k => api_Pair.l0.eq_2 ..) ?_
      simp only [if_pos (show (i : Int) < (l.length : Int) by omega), if_pos (show (0 : Int) ≤ (i : Int) by omega), w64 (x := (i : Int) + 1) (by omega) (by omega), beq_self_eq_true, Bool.not_true, Bool.or_self, if_neg Bool.false_ne_true]
      exact hn
  exact main l.length 0 (by omega)
theorem pairsV_len (l : List S55) (b : List Int) : (pairsV l b).length ≤ l.length := by
  unfold pairsV
  rw [List.length_map]
  have h1 := List.length_filter_le (fun s => anyB l s b) (stationsV l l.length)
  have h2 := (stationsV_spec l l.length (Nat.le_refl _)).2.2.1
  omega
theorem fairV_len (l : List S55) (gap : Int) : (fairV l gap).1.length ≤ 100 := by
  unfold fairV
  by_cases h : gapF l gap = 0
  · rw [if_pos h]
    have hl := checkV_zero (gapF_zero.1 h).1
    by_cases hn : l.length > 12
    · rw [if_pos hn]
      exact Nat.zero_le _
    · rw [if_neg hn]
      exact fairP_len (gap := gap) hl _ _ _ (fun s hs => BK_mem h _ hs) (Nat.zero_le _)
  · rw [if_neg h]
    exact Nat.zero_le _
theorem BookingsBestMatchSpec_pure : perigeelaw10_BookingsBestMatchSpec.Pure := by
  intro l gap b hl8 _ hb8
  have hw : ∀ x ∈ l, x.f0.size ≤ 140737488351232 := fun x hx => (hl8.2 x hx).1
  have hll : l.length ≤ 1152921504606846976 := by have := hl8.1; omega
  have hbl : b.length ≤ 1152921504606846976 := by have := hb8.1; omega
  refine Ev.rounds ?_
  simp only [perigeelaw10_BookingsBestMatchSpec.f]
  have aw := Ev.bind (f := fun _ t => some t) perigeelaw10_awake_ev (Ev.now true)
  obtain ⟨a, h1, h2⟩ := best_is2 l gap
  obtain ⟨c, h3, h4⟩ := bestR_is l gap hw
  have hsame : (if gapF l gap = 0 then (c.f0, c.f1, (0 : Int)) else ([], 0, gapF l gap)) = (if gapF l gap = 0 then (a.f0, a.f1, (0 : Int)) else ([], 0, gapF l gap)) := by
    by_cases h : gapF l gap = 0
    · rw [if_pos h, if_pos h]
      obtain ⟨e1, e2⟩ := (h4 h).same (h2 h)
      rw [e1, e2]
    · rw [if_neg h, if_neg h]
  rw [hsame] at h3
  have hlen : (if gapF l gap = 0 then (a.f0, a.f1, (0 : Int)) else ([], 0, gapF l gap)).1.length ≤ 1152921504606846976 := by
    by_cases h : gapF l gap = 0
    · rw [if_pos h]
      have := ((h2 h).ok.1.tot (checkV_zero (gapF_zero.1 h).1)).1
      show a.f0.length ≤ _
      omega
    · rw [if_neg h]
      exact Nat.zero_le _
  refine Ev.bind h1 ?_
  refine Ev.bind h3 ?_
  generalize (if gapF l gap = 0 then (a.f0, a.f1, (0 : Int)) else ([], 0, gapF l gap)) = A at hlen
  refine Ev.bind (slices_Equal_int_ev A.1 hlen) ?_
  simp only [if_true, bne_self_eq_false]
  refine Ev.step (fun k => perigeelaw10_BookingsBestMatchSpec.j0.eq_2 ..) ?_
  simp only [if_neg Bool.false_ne_true]
  refine Ev.bind (contact_Fair_ev l gap) ?_
  refine Ev.bind (perigeeref10_Fair_ev l gap hw) ?_
  obtain ⟨m, h5, h6⟩ := contact_ByStation_ev l b hbl
  have e1 : (if bothV l b = 0 then ((namesD m).map (pairOf m), (0 : Int)) else ([], bothV l b)) = (if bothV l b = 0 then (pairsV l b, (0 : Int)) else ([], bothV l b)) := by
    by_cases h : bothV l b = 0
    · rw [if_pos h, if_pos h]
      have hg := (bothV_zero h).2
      rw [pairs_same (h6 h) (fun a ha => by
        obtain ⟨i, hi, rfl⟩ := List.getElem_of_mem ha
        have := hg.inside i hi
        rwa [rdI_get hi] at this)]
    · rw [if_neg h, if_neg h]
  rw [e1] at h5
  refine Ev.bind h5 ?_
  refine Ev.bind (perigeeref10_ByStation_ev l b hw hbl) ?_
  have hfl := fairV_len l gap
  refine Ev.bind (slices_Equal_int_ev (fairV l gap).1 (by omega)) ?_
  simp only [if_true, beq_self_eq_true]
  have hpl : (if bothV l b = 0 then (pairsV l b, (0 : Int)) else ([], bothV l b)).1.length ≤ 1152921504606846976 := by
    have := pairsV_len l b
    by_cases h : bothV l b = 0
    · rw [if_pos h]
      show (pairsV l b).length ≤ _
      omega
    · rw [if_neg h]
      exact Nat.zero_le _
  refine Ev.bind (pairs_equal _ hpl) ?_
  simp only [if_true]
  exact aw
end Go.Proofs.YtbngmblgkkdhpaaDoor.Q
namespace Go.Proofs.YtbngmblgkkdhpaaDoor.Pure
theorem BookingsBestMatchSpec : Q.perigeelaw10_BookingsBestMatchSpec.Pure := Q.BookingsBestMatchSpec_pure
end Go.Proofs.YtbngmblgkkdhpaaDoor.Pure
