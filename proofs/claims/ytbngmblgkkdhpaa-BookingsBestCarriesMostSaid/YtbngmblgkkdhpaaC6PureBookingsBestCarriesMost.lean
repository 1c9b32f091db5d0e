/- The best booking is right, carries what is told, and no right booking carries more: for all passes, gaps and bookings. -/
-- Made by wip/tools/claimp.py of this session's texts; Lean checks it.
import Derived.Test.YtbngmblgkkdhpaaC6Best
import Derived.Test.YtbngmblgkkdhpaaC6StBookingsBestCarriesMost
import Derived.Test.YtbngmblgkkdhpaaC6G13
import Derived.Test.YtbngmblgkkdhpaaC6G9
import Derived.Test.YtbngmblgkkdhpaaC6G8
import Derived.Test.YtbngmblgkkdhpaaC6G12
set_option linter.unusedVariables false
set_option linter.unusedSimpArgs false
namespace Go.Proofs.Ytbngmblgkkdhpaa.Q
open Go.RowKit Go.Proofs.YtbngmblgkkdhpaaW.PrintWords Go.Proofs.YtbngmblgkkdhpaaW.PrintLast Go.Proofs.YtbngmblgkkdhpaaW.PrintMore Go.Proofs.Ytbngmblgkkdhpaa.Base
theorem cmp_is (x y : Int) : ∃ v, cmp_Compare_int.f x y = some v := by
  unfold cmp_Compare_int.f cmp_isNaN_int.f
  simp only [Option.bind_some]
  repeat' split
  all_goals exact ⟨_, rfl⟩
theorem compare_is (a b : List Int) (ha : a.length ≤ 1000) (hb : b.length ≤ 1000) : ∃ v, Ev (fun k => slices_Compare_int_int.f k a b) v := by
  simp only [slices_Compare_int_int.f]
  have main : ∀ d i : Nat, i + d = a.length → ∃ v, Ev (fun k => slices_Compare_int_int.l0 k a b a (a.length : Int) (i : Int)) v := by
    intro d
    induction d with
    | zero =>
      intro i hi
      by_cases h : (a.length : Int) < (b.length : Int)
      · refine ⟨-1, Ev.step (fun k => slices_Compare_int_int.l0.eq_2 ..) ?_⟩
        simp only [if_neg (show ¬ (i : Int) < (a.length : Int) by omega), if_pos h]
        exact Ev.now _
      · refine ⟨0, Ev.step (fun k => slices_Compare_int_int.l0.eq_2 ..) ?_⟩
        simp only [if_neg (show ¬ (i : Int) < (a.length : Int) by omega), if_neg h]
        exact Ev.now _
    | succ d ih =>
      intro i hi
      by_cases h : (i : Int) ≥ (b.length : Int)
      · refine ⟨1, Ev.step (fun k => slices_Compare_int_int.l0.eq_2 ..) ?_⟩
        simp only [if_pos (show (i : Int) < (a.length : Int) by omega), if_pos (show (0 : Int) ≤ (i : Int) by omega), if_pos h]
        exact Ev.now _
      · obtain ⟨c, hc⟩ := cmp_is (rd a (i : Int)) (rd b (i : Int))
        by_cases h0 : c = 0
        · obtain ⟨v, hv⟩ := ih (i + 1) (by omega)
          refine ⟨v, Ev.step (fun k => slices_Compare_int_int.l0.eq_2 ..) ?_⟩
          simp only [if_pos (show (i : Int) < (a.length : Int) by omega), if_pos (show (0 : Int) ≤ (i : Int) by omega), if_neg h, if_pos (show (i : Int) < (b.length : Int) by omega), hc, Option.bind_some, if_pos h0, w64 (x := (i : Int) + 1) (by omega) (by omega)]
          exact hv
        · refine ⟨c, Ev.step (fun k => slices_Compare_int_int.l0.eq_2 ..) ?_⟩
          simp only [if_pos (show (i : Int) < (a.length : Int) by omega), if_pos (show (0 : Int) ≤ (i : Int) by omega), if_neg h, if_pos (show (i : Int) < (b.length : Int) by omega), hc, Option.bind_some, if_neg h0]
          exact Ev.now _
  exact main a.length 0 (by omega)
theorem better_is (a b : S92) (ha : a.f0.length ≤ 1000) (hb : b.f0.length ≤ 1000) : ∃ r, Ev (fun k => contact_choice_better.f k a.f0 a.f1 b.f0 b.f1) r ∧ (r = true → b.f1 < a.f1 ∨ (a.f1 = b.f1 ∧ a.f0.length ≤ b.f0.length)) ∧ (r = false → a.f1 < b.f1 ∨ (b.f1 = a.f1 ∧ b.f0.length ≤ a.f0.length)) := by
  simp only [contact_choice_better.f, contact_fewer.f]
  by_cases h : a.f1 = b.f1
  · by_cases h1 : (a.f0.length : Int) < (b.f0.length : Int)
    · refine ⟨true, ?_, fun _ => .inr ⟨h, by omega⟩, fun q => by simp at q⟩
      simp only [if_pos h, if_pos h1, Option.bind_some]
      exact Ev.now _
    · by_cases h2 : (a.f0.length : Int) = (b.f0.length : Int)
      · obtain ⟨v, hv⟩ := compare_is a.f0 b.f0 ha hb
        refine ⟨decide (v < 0), ?_, fun _ => .inr ⟨h, by omega⟩, fun _ => .inr ⟨h.symm, by omega⟩⟩
        simp only [if_pos h, if_neg h1, if_pos h2]
        exact Ev.bind (f := fun _ t => some t) (Ev.bind (f := fun _ t => some (decide (t < 0))) hv (Ev.now _)) (Ev.now _)
      · refine ⟨false, ?_, fun q => by simp at q, fun _ => .inr ⟨h.symm, by omega⟩⟩
        simp only [if_pos h, if_neg h1, if_neg h2, Option.bind_some]
        exact Ev.now _
  · refine ⟨decide (a.f1 > b.f1), ?_, fun q => .inl (by simpa using q), fun q => .inl (by have : ¬ a.f1 > b.f1 := of_decide_eq_false q; omega)⟩
    simp only [if_neg h]
    exact Ev.now _
/-- The best one in front of i, of those that end ahead of j. -/
structure Front (l : List S33) (gap : Int) (i j : Nat) (fr : S92) : Prop where
  ok : Choice l gap fr
  apart : ∀ a ∈ fr.f0, Apart l gap a i
  none : AsGood l fr []
  all : ∀ k : Nat, k < j → Apart l gap k i → ∀ b, Ok l gap (b ++ [(k : Int)]) → AsGood l fr (b ++ [(k : Int)])
structure EndsOk (l : List S33) (gap : Int) (ends : List S92) : Prop where
  ok : ∀ j : Nat, j < ends.length → Choice l gap (ends.getD j (⟨[], 0⟩ : S92))
  last : ∀ j : Nat, j < ends.length → ∃ b, (ends.getD j (⟨[], 0⟩ : S92)).f0 = b ++ [(j : Int)]
  best : ∀ j : Nat, j < ends.length → ∀ b, Ok l gap (b ++ [(j : Int)]) → AsGood l (ends.getD j (⟨[], 0⟩ : S92)) (b ++ [(j : Int)])
theorem front_is {l : List S33} (hl : GoodPasses l) {gap : Int} (hg : 0 ≤ gap ∧ gap ≤ 10000000) {i : Nat} (hi : i < l.length) {ends : List S92} (hn : ends.length = i) (he : EndsOk l gap ends) :
    ∀ d j : Nat, j + d = i → ∀ fr, Front l gap i j fr → ∃ fr', Ev (fun k => Best.fr k l gap (rd_T33 l (i : Int)) ends d j fr) fr' ∧ Front l gap i i fr' := by
  intro d
  induction d with
  | zero =>
    intro j hj fr hf
    have hj' : j = i := by omega
    subst hj'
    refine ⟨fr, ?_, hf⟩
    simp only [Best.fr]
    exact Ev.now _
  | succ d ih =>
    intro j hj fr hf
    have hji : j < i := by omega
    simp only [Best.fr]
    have hex := contact_exclude_eq (hl.at (k := (j : Int)) (by omega) (by omega)) (hl.at (k := (i : Int)) (by omega) (by omega)) hg
    have hiff := excl_iff hl hg.1 (a := (j : Int)) (c := (i : Int)) (by omega) (by omega) (by omega)
    cases hx : exclV (rd_T33 l (j : Int)) (rd_T33 l (i : Int)) gap with
    | true =>
      have hna : ¬ Apart l gap j i := fun q => by rw [hiff.2 q] at hx; cases hx
      obtain ⟨fr', h1, h2⟩ := ih (j + 1) (by omega) fr ⟨hf.ok, hf.apart, hf.none, fun k hk ha b hb => by
        rcases Nat.lt_or_eq_of_le (Nat.le_of_lt_succ hk) with h | rfl
        · exact hf.all k h ha b hb
        · exact absurd ha hna⟩
      refine ⟨fr', ?_, h2⟩
      simp only [hex, hx, Option.bind_some, if_true]
      exact h1
    | false =>
      have ha := hiff.1 hx
      have hjn : j < ends.length := by omega
      have ho := he.ok j hjn
      obtain ⟨b0, hb0⟩ := he.last j hjn
      obtain ⟨r, h1, h2, h3⟩ := better_is (ends.getD j (⟨[], 0⟩ : S92)) fr (by have := (ho.1.tot hl).1; omega) (by have := (hf.ok.1.tot hl).1; omega)
      have hnew : Front l gap i (j + 1) (if r = true then ends.getD j (⟨[], 0⟩ : S92) else fr) := by
        cases r with
        | true =>
          have hb : AsGood l (ends.getD j (⟨[], 0⟩ : S92)) fr.f0 := by
            have := h2 rfl
            have e := hf.ok.2
            unfold AsGood
            rw [← e]
            exact this
          refine ⟨ho, fun a hm => ?_, AsGood.trans hf.ok hb hf.none, fun k hk hap b hbk => ?_⟩
          · rw [if_pos rfl, hb0] at hm
            have h5 := ho.1
            rw [hb0] at h5
            rcases List.mem_append.1 hm with h | h
            · exact Apart.trans hl hg.1 ⟨by omega, by omega⟩ ((ok_snoc.1 h5).2.2 a h) ha
            · rw [List.mem_singleton.1 h]; exact ha
          · rcases Nat.lt_or_eq_of_le (Nat.le_of_lt_succ hk) with h | rfl
            · exact AsGood.trans hf.ok hb (hf.all k h hap b hbk)
            · exact he.best k hjn b hbk
        | false =>
          have hb : AsGood l fr (ends.getD j (⟨[], 0⟩ : S92)).f0 := by
            have := h3 rfl
            have e := ho.2
            unfold AsGood
            rw [← e]
            exact this
          refine ⟨hf.ok, hf.apart, hf.none, fun k hk hap b hbk => ?_⟩
          rcases Nat.lt_or_eq_of_le (Nat.le_of_lt_succ hk) with h | rfl
          · exact hf.all k h hap b hbk
          · exact AsGood.trans ho hb (he.best k hjn b hbk)
      obtain ⟨fr', h4, h5⟩ := ih (j + 1) (by omega) _ hnew
      refine ⟨fr', ?_, h5⟩
      simp only [hex, hx, Option.bind_some, if_neg Bool.false_ne_true]
      exact Ev.bind h1 h4
/-- The best one of those that end ahead of i. -/
structure BestOf (l : List S33) (gap : Int) (i : Nat) (a : S92) : Prop where
  ok : Choice l gap a
  all : ∀ b, Ok l gap b → (∀ x ∈ b, x < (i : Int)) → AsGood l a b
theorem go_is {l : List S33} (hl : GoodPasses l) {gap : Int} (hg : 0 ≤ gap ∧ gap ≤ 10000000) :
    ∀ d i : Nat, i + d = l.length → ∀ ends best, ends.length = i → EndsOk l gap ends → BestOf l gap i best → ∃ a, Ev (fun k => Best.go k l gap d i ends best) a ∧ BestOf l gap l.length a := by
  intro d
  induction d with
  | zero =>
    intro i hi ends best hn he hb
    have hi' : i = l.length := by omega
    subst hi'
    refine ⟨best, ?_, hb⟩
    simp only [Best.go]
    exact Ev.now _
  | succ d ih =>
    intro i hi ends best hn he hb
    have hil : i < l.length := by omega
    simp only [Best.go]
    have hz : Front l gap i 0 (⟨[], 0⟩ : S92) := ⟨⟨Ok.nil l gap, rfl⟩, fun a ha => (List.not_mem_nil ha).elim, .inr ⟨rfl, Nat.le_refl _⟩, fun k hk => absurd hk (Nat.not_lt_zero _)⟩
    obtain ⟨fr, h1, h2⟩ := front_is hl hg hil hn he i 0 (by omega) (⟨[], 0⟩ : S92) hz
    have hw := contact_whole_ev (hl.at (k := (i : Int)) (by omega) (by omega))
    have hwb := wholeV_bd (hl.at (k := (i : Int)) (by omega) (by omega))
    obtain ⟨t, ht⟩ : ∃ t, t = wholeV (rd_T33 l (i : Int)) := ⟨_, rfl⟩
    rw [← ht] at hw hwb
    have hft := h2.ok.1.tot hl
    have hfe := h2.ok.2
    have hok : Ok l gap (fr.f0 ++ [(i : Int)]) := ok_snoc.2 ⟨h2.ok.1, ⟨by omega, by omega⟩, h2.apart⟩
    have hch : Choice l gap ⟨fr.f0 ++ [(i : Int)], fr.f1 + t⟩ := ⟨hok, by show fr.f1 + t = _; rw [tot_snoc, hfe, ht]⟩
    have hbe : ∀ b, Ok l gap (b ++ [(i : Int)]) → AsGood l ⟨fr.f0 ++ [(i : Int)], fr.f1 + t⟩ (b ++ [(i : Int)]) := fun b hb => by
      refine AsGood.snoc ?_ _ t ht
      obtain ⟨q1, q2, q3⟩ := ok_snoc.1 hb
      rcases List.eq_nil_or_concat b with rfl | ⟨b', x, rfl⟩
      · exact h2.none
      · rw [List.concat_eq_append] at q1 q3 ⊢
        have hxi := q3 x (by simp)
        have hx0 := q1.inside x (by simp)
        have e : x = ((x.toNat : Nat) : Int) := by omega
        have hlt : x.toNat < i := by have := hxi.1; omega
        rw [e] at q1 hxi ⊢
        exact h2.all x.toNat hlt hxi b' q1
    obtain ⟨r, h3, h4, h5⟩ := better_is ⟨fr.f0 ++ [(i : Int)], fr.f1 + t⟩ best (by have := (hok.tot hl).1; show (fr.f0 ++ [(i : Int)]).length ≤ 1000; omega) (by have := (hb.ok.1.tot hl).1; omega)
    have hends : EndsOk l gap (ends ++ [⟨fr.f0 ++ [(i : Int)], fr.f1 + t⟩]) := by
      have hold : ∀ j, j < ends.length → (ends ++ [(⟨fr.f0 ++ [(i : Int)], fr.f1 + t⟩ : S92)]).getD j (⟨[], 0⟩ : S92) = ends.getD j (⟨[], 0⟩ : S92) := fun j hj => by
        rw [List.getD_eq_getElem?_getD, List.getElem?_append_left hj, ← List.getD_eq_getElem?_getD]
      have hnew : (ends ++ [(⟨fr.f0 ++ [(i : Int)], fr.f1 + t⟩ : S92)]).getD i (⟨[], 0⟩ : S92) = ⟨fr.f0 ++ [(i : Int)], fr.f1 + t⟩ := by
        rw [← hn]; simp [List.getD_eq_getElem?_getD]
      have hcase : ∀ j, j < (ends ++ [(⟨fr.f0 ++ [(i : Int)], fr.f1 + t⟩ : S92)]).length → j < ends.length ∨ j = i := fun j hj => by
        rw [List.length_append] at hj
        simp at hj
        omega
      refine ⟨fun j hj => ?_, fun j hj => ?_, fun j hj b hbb => ?_⟩
      · rcases hcase j hj with h | rfl
        · rw [hold j h]; exact he.ok j h
        · rw [hnew]; exact hch
      · rcases hcase j hj with h | rfl
        · rw [hold j h]; exact he.last j h
        · rw [hnew]; exact ⟨fr.f0, rfl⟩
      · rcases hcase j hj with h | rfl
        · rw [hold j h]; exact he.best j h b hbb
        · rw [hnew]; exact hbe b hbb
    have hbest : BestOf l gap (i + 1) (if r = true then ⟨fr.f0 ++ [(i : Int)], fr.f1 + t⟩ else best) := by
      have split : ∀ b, Ok l gap b → (∀ x ∈ b, x < ((i + 1 : Nat) : Int)) → (∀ x ∈ b, x < (i : Int)) ∨ ∃ b', b = b' ++ [(i : Int)] := fun b hbo hlt => by
        rcases List.eq_nil_or_concat b with rfl | ⟨b', x, rfl⟩
        · exact .inl (fun x hx => (List.not_mem_nil hx).elim)
        · rw [List.concat_eq_append] at hbo hlt ⊢
          have hx := hlt x (by simp)
          by_cases e : x = (i : Int)
          · exact .inr ⟨b', by rw [e]⟩
          · refine .inl (fun y hy => ?_)
            rcases List.mem_append.1 hy with h | h
            · have := ((ok_snoc.1 hbo).2.2 y h).1; omega
            · rw [List.mem_singleton.1 h]; omega
      cases r with
      | true =>
        have hgo : AsGood l ⟨fr.f0 ++ [(i : Int)], fr.f1 + t⟩ best.f0 := by
          have := h4 rfl
          have e := hb.ok.2
          unfold AsGood
          rw [← e]
          exact this
        refine ⟨hch, fun b hbo hlt => ?_⟩
        rcases split b hbo hlt with h | ⟨b', rfl⟩
        · exact AsGood.trans hb.ok hgo (hb.all b hbo h)
        · exact hbe b' hbo
      | false =>
        have hgo : AsGood l best (fr.f0 ++ [(i : Int)]) := by
          have := h5 rfl
          have e := hch.2
          unfold AsGood
          rw [← e]
          exact this
        refine ⟨hb.ok, fun b hbo hlt => ?_⟩
        rcases split b hbo hlt with h | ⟨b', rfl⟩
        · exact hb.all b hbo h
        · exact AsGood.trans hch hgo (hbe b' hbo)
    obtain ⟨a, h6, h7⟩ := ih (i + 1) (by omega) _ _ (by rw [List.length_append, hn]; rfl) hends hbest
    refine ⟨a, ?_, h7⟩
    refine Ev.bind h1 ?_
    refine Ev.bind hw ?_
    simp only [if_pos (show fr.f0.length < 4398046511104 ∧ wrap64 (fr.f1 + t) = fr.f1 + t from ⟨by omega, w64 (by omega) (by omega)⟩)]
    exact Ev.bind h3 h6
theorem best_is (l : List S33) (gap : Int) : ∃ a : S92, Ev (fun k => contact_Best.f k l gap) (if gapF l gap = 0 then (a.f0, a.f1, 0) else ([], 0, gapF l gap)) ∧ (gapF l gap = 0 → BestOf l gap l.length a) := by
  simp only [contact_Best.f]
  by_cases h : gapF l gap = 0
  · obtain ⟨h1, h2⟩ := gapF_zero.1 h
    have hl := checkV_zero h1
    obtain ⟨a, h3, h4⟩ := go_is hl h2 l.length 0 (by omega) [] (⟨[], 0⟩ : S92) rfl ⟨fun j hj => absurd hj (Nat.not_lt_zero _), fun j hj => absurd hj (Nat.not_lt_zero _), fun j hj => absurd hj (Nat.not_lt_zero _)⟩ ⟨⟨Ok.nil l gap, rfl⟩, fun b hb hlt => by
      cases b with
      | nil => exact .inr ⟨rfl, Nat.le_refl _⟩
      | cons x b =>
        have h5 := hlt x (by simp)
        have h6 := (hb.inside x (by simp)).1
        exact absurd h5 (by omega)⟩
    refine ⟨a, ?_, fun _ => h4⟩
    rw [if_pos h]
    refine Ev.bind (contact_CheckPasses_ev l) ?_
    simp only [kit_Range_eq, Option.bind_some]
    refine Ev.bind (kit_First_ev _ (by simp)) ?_
    show Ev (fun n => if gapF l gap = 0 then _ else _) _
    have hm := hl.many
    simp only [if_pos h, if_pos (show l.length < 1000000 by omega)]
    exact Ev.bind h3 (Ev.now _)
  · refine ⟨(⟨[], 0⟩ : S92), ?_, fun q => absurd q h⟩
    rw [if_neg h]
    refine Ev.bind (contact_CheckPasses_ev l) ?_
    simp only [kit_Range_eq, Option.bind_some]
    refine Ev.bind (kit_First_ev _ (by simp)) ?_
    show Ev (fun n => if gapF l gap = 0 then _ else _) _
    simp only [if_neg h]
    exact Ev.now _
theorem BookingsBestCarriesMost_pure : perigeelaw10_BookingsBestCarriesMost.Pure := by
  intro l gap b _ _ hb8
  have hbl : b.length ≤ 1152921504606846976 := by have := hb8.1; omega
  refine Ev.rounds ?_
  simp only [perigeelaw10_BookingsBestCarriesMost.f]
  have aw : Ev (fun k => (perigeelaw10_awake.f k).bind fun t => some t) true := Ev.bind (f := fun _ t => some t) perigeelaw10_awake_ev (Ev.now true)
  obtain ⟨a, h1, h2⟩ := best_is l gap
  refine Ev.bind h1 ?_
  by_cases h : gapF l gap = 0
  · obtain ⟨hc, hg⟩ := gapF_zero.1 h
    have hl := checkV_zero hc
    have hB := h2 h
    have hOk := hB.ok.1
    have hbt := hOk.tot hl
    have hV := hOk.book
    have hT : TotalV l a.f0 = (a.f1, 0) := by
      unfold TotalV bothV
      rw [if_pos hc, if_pos (bookV_of hV a.f0.length 0 (by omega)), totalV_all, hB.ok.2]
    have hK : bookingV l gap a.f0 = 0 := (ok_iff h).2 hOk
    simp only [if_pos h, if_true]
    have hE := contact_Total_ev l a.f0 (by omega)
    rw [hT] at hE
    refine Ev.bind hE ?_
    simp only [if_true]
    have hE2 := contact_CheckBooking_ev l gap a.f0 (by omega)
    rw [hK] at hE2
    refine Ev.bind hE2 ?_
    refine Ev.step (fun k => perigeelaw10_BookingsBestCarriesMost.j0.eq_2 ..) ?_
    simp only [bne_self_eq_false, if_neg Bool.false_ne_true]
    refine Ev.bind (contact_CheckBooking_ev l gap b hbl) ?_
    by_cases hk : bookingV l gap b = 0
    · have hOb := (ok_iff h).1 hk
      have hTb : TotalV l b = (tot l b, 0) := by
        unfold TotalV bothV
        rw [if_pos hc, if_pos (bookV_of hOb.book b.length 0 (by omega)), totalV_all]
      have hEb := contact_Total_ev l b hbl
      rw [hTb] at hEb
      simp only [if_pos hk]
      refine Ev.bind hEb ?_
      simp only [if_true]
      have hgood := hB.all b hOb (fun x hx => (hOb.inside x hx).2)
      by_cases hlt : tot l b < a.f1
      · simp only [if_pos hlt]
        exact aw
      · rcases hgood with h3 | ⟨h3, h4⟩
        · exact absurd h3 hlt
        · simp only [if_neg hlt, if_pos h3.symm, if_pos (show (b.length : Int) ≥ (a.f0.length : Int) by omega)]
          exact aw
    · simp only [if_neg hk]
      exact aw
  · simp only [if_neg h]
    simp only [if_pos (show (([] : List Int).length : Int) = 0 from rfl), if_true]
    exact aw
end Go.Proofs.Ytbngmblgkkdhpaa.Q
namespace Go.Proofs.Ytbngmblgkkdhpaa.Pure
theorem BookingsBestCarriesMost : Q.perigeelaw10_BookingsBestCarriesMost.Pure := Q.BookingsBestCarriesMost_pure
end Go.Proofs.Ytbngmblgkkdhpaa.Pure
