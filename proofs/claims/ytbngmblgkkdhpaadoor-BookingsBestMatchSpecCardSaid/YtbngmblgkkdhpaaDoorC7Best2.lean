/- The best booking, exactly: it carries most, with the fewest passes, by the least list. -/
-- Made by wip/tools/claimp.py of this session's texts; Lean checks it.
import Derived.Test.YtbngmblgkkdhpaaDoorC7Best
import Derived.Test.YtbngmblgkkdhpaaDoorC7Gd9
import Derived.Test.YtbngmblgkkdhpaaDoorC7Gd10
set_option linter.unusedVariables false
set_option linter.unusedSimpArgs false
namespace Go.Proofs.YtbngmblgkkdhpaaDoor.Q
open Go.RowKit Go.Proofs.YtbngmblgkkdhpaaDoorW.PrintWords Go.Proofs.YtbngmblgkkdhpaaDoorW.PrintLast Go.Proofs.YtbngmblgkkdhpaaDoorW.PrintMore Go.Proofs.YtbngmblgkkdhpaaDoor.Base
def lexLe : List Int → List Int → Prop
  | [], _ => True
  | _ :: _, [] => False
  | a :: x, b :: y => a < b ∨ (a = b ∧ lexLe x y)
theorem lexLe_refl : ∀ x, lexLe x x
  | [] => trivial
  | _ :: x => .inr ⟨rfl, lexLe_refl x⟩
theorem lexLe_trans : ∀ {x y z : List Int}, lexLe x y → lexLe y z → lexLe x z
  | [], _, _, _, _ => trivial
  | _ :: _, [], _, h, _ => h.elim
  | _ :: _, _ :: _, [], _, k => k.elim
  | a :: x, b :: y, c :: z, h, k => by
    rcases h with h | ⟨h, h2⟩ <;> rcases k with k | ⟨k, k2⟩
    · exact .inl (by omega)
    · exact .inl (by omega)
    · exact .inl (by omega)
    · exact .inr ⟨by omega, lexLe_trans h2 k2⟩
theorem lexLe_antisymm : ∀ {x y : List Int}, lexLe x y → lexLe y x → x = y
  | [], [], _, _ => rfl
  | [], _ :: _, _, k => k.elim
  | _ :: _, [], h, _ => h.elim
  | a :: x, b :: y, h, k => by
    rcases h with h | ⟨h, h2⟩ <;> rcases k with k | ⟨k, k2⟩
    · omega
    · omega
    · omega
    · rw [h, lexLe_antisymm h2 k2]
theorem lexLe_append : ∀ {x y : List Int} (z : List Int), x.length = y.length → lexLe x y → lexLe (x ++ z) (y ++ z)
  | [], [], z, _, _ => lexLe_refl z
  | [], _ :: _, _, e, _ => by simp at e
  | _ :: _, [], _, e, _ => by simp at e
  | a :: x, b :: y, z, e, h => by
    rcases h with h | ⟨h, h2⟩
    · exact .inl h
    · exact .inr ⟨h, lexLe_append z (by simpa using e) h2⟩
/-- At least as good: it carries more, or as much with fewer passes, or with as many by no greater list. -/
def GoodE (c : Int) (x : List Int) (d : Int) (y : List Int) : Prop := d < c ∨ (c = d ∧ (x.length < y.length ∨ (x.length = y.length ∧ lexLe x y)))
theorem GoodE.refl (c : Int) (x : List Int) : GoodE c x c x := .inr ⟨rfl, .inr ⟨rfl, lexLe_refl x⟩⟩
theorem GoodE.trans {c d e : Int} {x y z : List Int} (h : GoodE c x d y) (k : GoodE d y e z) : GoodE c x e z := by
  rcases h with h | ⟨h, h2⟩ <;> rcases k with k | ⟨k, k2⟩
  · exact .inl (by omega)
  · exact .inl (by omega)
  · exact .inl (by omega)
  · refine .inr ⟨by omega, ?_⟩
    rcases h2 with h2 | ⟨h2, h3⟩ <;> rcases k2 with k2 | ⟨k2, k3⟩
    · exact .inl (by omega)
    · exact .inl (by omega)
    · exact .inl (by omega)
    · exact .inr ⟨by omega, lexLe_trans h3 k3⟩
theorem GoodE.antisymm {c d : Int} {x y : List Int} (h : GoodE c x d y) (k : GoodE d y c x) : c = d ∧ x = y := by
  rcases h with h | ⟨h, h2⟩ <;> rcases k with k | ⟨k, k2⟩
  · omega
  · omega
  · omega
  · refine ⟨h, ?_⟩
    rcases h2 with h2 | ⟨h2, h3⟩ <;> rcases k2 with k2 | ⟨k2, k3⟩
    · omega
    · omega
    · omega
    · exact lexLe_antisymm h3 k3
theorem GoodE.append {c d : Int} {x y : List Int} (h : GoodE c x d y) (z : List Int) (t : Int) : GoodE (c + t) (x ++ z) (d + t) (y ++ z) := by
  rcases h with h | ⟨h, h2⟩
  · exact .inl (by omega)
  · refine .inr ⟨by omega, ?_⟩
    rcases h2 with h2 | ⟨h2, h3⟩
    · exact .inl (by rw [List.length_append, List.length_append]; omega)
    · exact .inr ⟨by rw [List.length_append, List.length_append]; omega, lexLe_append z h2 h3⟩
theorem GoodE.cons {c d : Int} {x y : List Int} (h : GoodE c x d y) (a : Int) (t : Int) : GoodE (t + c) (a :: x) (t + d) (a :: y) := by
  rcases h with h | ⟨h, h2⟩
  · exact .inl (by omega)
  · refine .inr ⟨by omega, ?_⟩
    rcases h2 with h2 | ⟨h2, h3⟩
    · exact .inl (by rw [List.length_cons, List.length_cons]; omega)
    · exact .inr ⟨by rw [List.length_cons, List.length_cons]; omega, .inr ⟨rfl, h3⟩⟩
def GoodL (l : List S55) (a : S80) (b : List Int) : Prop := GoodE a.f1 a.f0 (tot l b) b
theorem GoodL.trans {l : List S55} {gap : Int} {a c : S80} {b : List Int} (hc : Choice l gap c) (h : GoodL l a c.f0) (k : GoodL l c b) : GoodL l a b := by
  unfold GoodL at *
  rw [hc.2] at k
  exact GoodE.trans h k
theorem GoodL.snoc {l : List S55} {a : S80} {b : List Int} (h : GoodL l a b) (x : Int) (t : Int) (ht : t = wholeV (rd_T55 l x)) : GoodL l ⟨a.f0 ++ [x], a.f1 + t⟩ (b ++ [x]) := by
  unfold GoodL
  rw [tot_snoc, ← ht]
  exact GoodE.append h [x] t
theorem cmp_is2 (x y : Int) : cmp_Compare_int.f x y = some (if x < y then -1 else if y < x then 1 else 0) := by
  unfold cmp_Compare_int.f cmp_isNaN_int.f
  simp only [Option.bind_some]
  by_cases h1 : x < y
  · simp [h1]
  · by_cases h2 : y < x
    · simp [h1, h2]
    · simp [h1, h2]
theorem compare_is2 (a b : List Int) (ha : a.length ≤ 1000) (hb : b.length ≤ 1000) : ∃ v, Ev (fun k => slices_Compare_int_int.f k a b) v ∧ (v < 0 → lexLe a b) ∧ (¬ v < 0 → lexLe b a) := by
  simp only [slices_Compare_int_int.f]
  have dropc : ∀ (l : List Int) (i : Nat) (h : i < l.length), l.drop i = rd l (i : Int) :: l.drop (i + 1) := fun l i h => by
    rw [List.drop_eq_getElem_cons h]
    unfold rd
    simp [List.getD_eq_getElem?_getD, List.getElem?_eq_getElem h]
  have main : ∀ d i : Nat, i + d = a.length → ∃ v, Ev (fun k => slices_Compare_int_int.l0 k a b a (a.length : Int) (i : Int)) v ∧ (v < 0 → lexLe (a.drop i) (b.drop i)) ∧ (¬ v < 0 → lexLe (b.drop i) (a.drop i)) := by
    intro d
    induction d with
    | zero =>
      intro i hi
      have ea : a.drop i = [] := List.drop_of_length_le (by omega)
      by_cases h : (a.length : Int) < (b.length : Int)
      · refine ⟨-1, Ev.step (fun k => slices_Compare_int_int.l0.eq_2 ..) ?_, fun _ => by rw [ea]; trivial, fun q => absurd (by decide) q⟩
        simp only [if_neg (show ¬ (i : Int) < (a.length : Int) by omega), if_pos h]
        exact Ev.now _
      · refine ⟨0, Ev.step (fun k => slices_Compare_int_int.l0.eq_2 ..) ?_, fun q => absurd q (by decide), fun _ => by rw [show b.drop i = [] from List.drop_of_length_le (by omega)]; trivial⟩
        simp only [if_neg (show ¬ (i : Int) < (a.length : Int) by omega), if_neg h]
        exact Ev.now _
    | succ d ih =>
      intro i hi
      have ea := dropc a i (by omega)
      by_cases h : (i : Int) ≥ (b.length : Int)
      · refine ⟨1, Ev.step (fun k => slices_Compare_int_int.l0.eq_2 ..) ?_, fun q => absurd q (by decide), fun _ => by rw [show b.drop i = [] from List.drop_of_length_le (by omega)]; trivial⟩
        simp only [if_pos (show (i : Int) < (a.length : Int) by omega), if_pos (show (0 : Int) ≤ (i : Int) by omega), if_pos h]
        exact Ev.now _
      · have eb := dropc b i (by omega)
        have hc := cmp_is2 (rd a (i : Int)) (rd b (i : Int))
        obtain ⟨c, ec⟩ : ∃ c, c = (if rd a (i : Int) < rd b (i : Int) then (-1 : Int) else if rd b (i : Int) < rd a (i : Int) then 1 else 0) := ⟨_, rfl⟩
        rw [← ec] at hc
        by_cases h0 : c = 0
        · have hab : rd a (i : Int) = rd b (i : Int) := by
            rw [h0] at ec
            by_cases q1 : rd a (i : Int) < rd b (i : Int)
            · rw [if_pos q1] at ec; omega
            · by_cases q2 : rd b (i : Int) < rd a (i : Int)
              · rw [if_neg q1, if_pos q2] at ec; omega
              · omega
          obtain ⟨v, hv, h1, h2⟩ := ih (i + 1) (by omega)
          refine ⟨v, Ev.step (fun k => slices_Compare_int_int.l0.eq_2 ..) ?_, fun q => by rw [ea, eb]; exact .inr ⟨hab, h1 q⟩, fun q => by rw [ea, eb]; exact .inr ⟨hab.symm, h2 q⟩⟩
          simp only [if_pos (show (i : Int) < (a.length : Int) by omega), if_pos (show (0 : Int) ≤ (i : Int) by omega), if_neg h, if_pos (show (i : Int) < (b.length : Int) by omega), hc, Option.bind_some, if_pos h0, w64 (x := (i : Int) + 1) (by omega) (by omega)]
          exact hv
        · have hlt : (c < 0 → rd a (i : Int) < rd b (i : Int)) ∧ (¬ c < 0 → rd b (i : Int) < rd a (i : Int)) := by
            by_cases q1 : rd a (i : Int) < rd b (i : Int)
            · rw [if_pos q1] at ec; exact ⟨fun _ => q1, fun q => by omega⟩
            · by_cases q2 : rd b (i : Int) < rd a (i : Int)
              · rw [if_neg q1, if_pos q2] at ec; exact ⟨fun q => by omega, fun _ => q2⟩
              · rw [if_neg q1, if_neg q2] at ec; omega
          refine ⟨c, Ev.step (fun k => slices_Compare_int_int.l0.eq_2 ..) ?_, fun q => by rw [ea, eb]; exact .inl (hlt.1 q), fun q => by rw [ea, eb]; exact .inl (hlt.2 q)⟩
          simp only [if_pos (show (i : Int) < (a.length : Int) by omega), if_pos (show (0 : Int) ≤ (i : Int) by omega), if_neg h, if_pos (show (i : Int) < (b.length : Int) by omega), hc, Option.bind_some, if_neg h0]
          exact Ev.now _
  exact main a.length 0 (by omega)
theorem better_is2 (a b : S80) (ha : a.f0.length ≤ 1000) (hb : b.f0.length ≤ 1000) : ∃ r, Ev (fun k => contact_choice_better.f k a.f0 a.f1 b.f0 b.f1) r ∧ (r = true → GoodE a.f1 a.f0 b.f1 b.f0) ∧ (r = false → GoodE b.f1 b.f0 a.f1 a.f0) := by
  simp only [contact_choice_better.f, contact_fewer.f]
  by_cases h : a.f1 = b.f1
  · by_cases h1 : (a.f0.length : Int) < (b.f0.length : Int)
    · refine ⟨true, ?_, fun _ => .inr ⟨h, .inl (by omega)⟩, fun q => by simp at q⟩
      simp only [if_pos h, if_pos h1, Option.bind_some]
      exact Ev.now _
    · by_cases h2 : (a.f0.length : Int) = (b.f0.length : Int)
      · obtain ⟨v, hv, q1, q2⟩ := compare_is2 a.f0 b.f0 ha hb
        refine ⟨decide (v < 0), ?_, fun q => .inr ⟨h, .inr ⟨by omega, q1 (by simpa using q)⟩⟩, fun q => .inr ⟨h.symm, .inr ⟨by omega, q2 (by simpa using q)⟩⟩⟩
        simp only [if_pos h, if_neg h1, if_pos h2]
        exact Ev.bind (f := fun _ t => some t) (Ev.bind (f := fun _ t => some (decide (t < 0))) hv (Ev.now _)) (Ev.now _)
      · refine ⟨false, ?_, fun q => by simp at q, fun _ => .inr ⟨h.symm, .inl (by omega)⟩⟩
        simp only [if_pos h, if_neg h1, if_neg h2, Option.bind_some]
        exact Ev.now _
  · refine ⟨decide (a.f1 > b.f1), ?_, fun q => .inl (by simpa using q), fun q => .inl (by have : ¬ a.f1 > b.f1 := of_decide_eq_false q; omega)⟩
    simp only [if_neg h]
    exact Ev.now _
/-- The best one in front of i, of those that end ahead of j. -/
structure Front2 (l : List S55) (gap : Int) (i j : Nat) (fr : S80) : Prop where
  ok : Choice l gap fr
  apart : ∀ a ∈ fr.f0, Apart l gap a i
  none : GoodL l fr []
  all : ∀ k : Nat, k < j → Apart l gap k i → ∀ b, Ok l gap (b ++ [(k : Int)]) → GoodL l fr (b ++ [(k : Int)])
structure EndsOk2 (l : List S55) (gap : Int) (ends : List S80) : Prop where
  ok : ∀ j : Nat, j < ends.length → Choice l gap (ends.getD j (⟨[], 0⟩ : S80))
  last : ∀ j : Nat, j < ends.length → ∃ b, (ends.getD j (⟨[], 0⟩ : S80)).f0 = b ++ [(j : Int)]
  best : ∀ j : Nat, j < ends.length → ∀ b, Ok l gap (b ++ [(j : Int)]) → GoodL l (ends.getD j (⟨[], 0⟩ : S80)) (b ++ [(j : Int)])
theorem front_is2 {l : List S55} (hl : GoodPasses l) {gap : Int} (hg : 0 ≤ gap ∧ gap ≤ 10000000) {i : Nat} (hi : i < l.length) {ends : List S80} (hn : ends.length = i) (he : EndsOk2 l gap ends) :
    ∀ d j : Nat, j + d = i → ∀ fr, Front2 l gap i j fr → ∃ fr', Ev (fun k => Best.fr k l gap (rd_T55 l (i : Int)) ends d j fr) fr' ∧ Front2 l gap i i fr' := by
  intro d
  induction d with
  | zero =>
    intro j hj fr hf
    have hj' : j = i := by omega
    subst hj'
    refine ⟨fr, ?_, hf⟩
    simp only [Best.fr]
    exact Ev.now _
  | succ d ih =>
    intro j hj fr hf
    have hji : j < i := by omega
    simp only [Best.fr]
    have hex := contact_exclude_eq (hl.at (k := (j : Int)) (by omega) (by omega)) (hl.at (k := (i : Int)) (by omega) (by omega)) hg
    have hiff := excl_iff hl hg.1 (a := (j : Int)) (c := (i : Int)) (by omega) (by omega) (by omega)
    cases hx : exclV (rd_T55 l (j : Int)) (rd_T55 l (i : Int)) gap with
    | true =>
      have hna : ¬ Apart l gap j i := fun q => by rw [hiff.2 q] at hx; cases hx
      obtain ⟨fr', h1, h2⟩ := ih (j + 1) (by omega) fr ⟨hf.ok, hf.apart, hf.none, fun k hk ha b hb => by
        rcases Nat.lt_or_eq_of_le (Nat.le_of_lt_succ hk) with h | rfl
        · exact hf.all k h ha b hb
        · exact absurd ha hna⟩
      refine ⟨fr', ?_, h2⟩
      simp only [hex, hx, Option.bind_some, if_true]
      exact h1
    | false =>
      have ha := hiff.1 hx
      have hjn : j < ends.length := by omega
      have ho := he.ok j hjn
      obtain ⟨b0, hb0⟩ := he.last j hjn
      obtain ⟨r, h1, h2, h3⟩ := better_is2 (ends.getD j (⟨[], 0⟩ : S80)) fr (by have := (ho.1.tot hl).1; omega) (by have := (hf.ok.1.tot hl).1; omega)
      have hnew : Front2 l gap i (j + 1) (if r = true then ends.getD j (⟨[], 0⟩ : S80) else fr) := by
        cases r with
        | true =>
          have hb : GoodL l (ends.getD j (⟨[], 0⟩ : S80)) fr.f0 := by
            have := h2 rfl
            have e := hf.ok.2
            unfold GoodL
            rw [← e]
            exact this
          refine ⟨ho, fun a hm => ?_, GoodL.trans hf.ok hb hf.none, fun k hk hap b hbk => ?_⟩
          · rw [if_pos rfl, hb0] at hm
            have h5 := ho.1
            rw [hb0] at h5
            rcases List.mem_append.1 hm with h | h
            · exact Apart.trans hl hg.1 ⟨by omega, by omega⟩ ((ok_snoc.1 h5).2.2 a h) ha
            · rw [List.mem_singleton.1 h]; exact ha
          · rcases Nat.lt_or_eq_of_le (Nat.le_of_lt_succ hk) with h | rfl
            · exact GoodL.trans hf.ok hb (hf.all k h hap b hbk)
            · exact he.best k hjn b hbk
        | false =>
          have hb : GoodL l fr (ends.getD j (⟨[], 0⟩ : S80)).f0 := by
            have := h3 rfl
            have e := ho.2
            unfold GoodL
            rw [← e]
            exact this
          refine ⟨hf.ok, hf.apart, hf.none, fun k hk hap b hbk => ?_⟩
          rcases Nat.lt_or_eq_of_le (Nat.le_of_lt_succ hk) with h | rfl
          · exact hf.all k h hap b hbk
          · exact GoodL.trans ho hb (he.best k hjn b hbk)
      obtain ⟨fr', h4, h5⟩ := ih (j + 1) (by omega) _ hnew
      refine ⟨fr', ?_, h5⟩
      simp only [hex, hx, Option.bind_some, if_neg Bool.false_ne_true]
      exact Ev.bind h1 h4
/-- The best one of those that end ahead of i. -/
structure BestOf2 (l : List S55) (gap : Int) (i : Nat) (a : S80) : Prop where
  ok : Choice l gap a
  all : ∀ b, Ok l gap b → (∀ x ∈ b, x < (i : Int)) → GoodL l a b
theorem go_is2 {l : List S55} (hl : GoodPasses l) {gap : Int} (hg : 0 ≤ gap ∧ gap ≤ 10000000) :
    ∀ d i : Nat, i + d = l.length → ∀ ends best, ends.length = i → EndsOk2 l gap ends → BestOf2 l gap i best → ∃ a, Ev (fun k => Best.go k l gap d i ends best) a ∧ BestOf2 l gap l.length a := by
  intro d
  induction d with
  | zero =>
    intro i hi ends best hn he hb
    have hi' : i = l.length := by omega
    subst hi'
    refine ⟨best, ?_, hb⟩
    simp only [Best.go]
    exact Ev.now _
  | succ d ih =>
    intro i hi ends best hn he hb
    have hil : i < l.length := by omega
    simp only [Best.go]
    have hz : Front2 l gap i 0 (⟨[], 0⟩ : S80) := ⟨⟨Ok.nil l gap, rfl⟩, fun a ha => (List.not_mem_nil ha).elim, GoodE.refl _ _, fun k hk => absurd hk (Nat.not_lt_zero _)⟩
    obtain ⟨fr, h1, h2⟩ := front_is2 hl hg hil hn he i 0 (by omega) (⟨[], 0⟩ : S80) hz
    have hw := contact_whole_ev (hl.at (k := (i : Int)) (by omega) (by omega))
    have hwb := wholeV_bd (hl.at (k := (i : Int)) (by omega) (by omega))
    obtain ⟨t, ht⟩ : ∃ t, t = wholeV (rd_T55 l (i : Int)) := ⟨_, rfl⟩
    rw [← ht] at hw hwb
    have hft := h2.ok.1.tot hl
    have hfe := h2.ok.2
    have hok : Ok l gap (fr.f0 ++ [(i : Int)]) := ok_snoc.2 ⟨h2.ok.1, ⟨by omega, by omega⟩, h2.apart⟩
    have hch : Choice l gap ⟨fr.f0 ++ [(i : Int)], fr.f1 + t⟩ := ⟨hok, by show fr.f1 + t = _; rw [tot_snoc, hfe, ht]⟩
    have hbe : ∀ b, Ok l gap (b ++ [(i : Int)]) → GoodL l ⟨fr.f0 ++ [(i : Int)], fr.f1 + t⟩ (b ++ [(i : Int)]) := fun b hb => by
      refine GoodL.snoc ?_ _ t ht
      obtain ⟨q1, q2, q3⟩ := ok_snoc.1 hb
      rcases List.eq_nil_or_concat b with rfl | ⟨b', x, rfl⟩
      · exact h2.none
      · rw [List.concat_eq_append] at q1 q3 ⊢
        have hxi := q3 x (by simp)
        have hx0 := q1.inside x (by simp)
        have e : x = ((x.toNat : Nat) : Int) := by omega
        have hlt : x.toNat < i := by have := hxi.1; omega
        rw [e] at q1 hxi ⊢
        exact h2.all x.toNat hlt hxi b' q1
    obtain ⟨r, h3, h4, h5⟩ := better_is2 ⟨fr.f0 ++ [(i : Int)], fr.f1 + t⟩ best (by have := (hok.tot hl).1; show (fr.f0 ++ [(i : Int)]).length ≤ 1000; omega) (by have := (hb.ok.1.tot hl).1; omega)
    have hends : EndsOk2 l gap (ends ++ [⟨fr.f0 ++ [(i : Int)], fr.f1 + t⟩]) := by
      have hold : ∀ j, j < ends.length → (ends ++ [(⟨fr.f0 ++ [(i : Int)], fr.f1 + t⟩ : S80)]).getD j (⟨[], 0⟩ : S80) = ends.getD j (⟨[], 0⟩ : S80) := fun j hj => by
        rw [List.getD_eq_getElem?_getD, List.getElem?_append_left hj, ← List.getD_eq_getElem?_getD]
      have hnew : (ends ++ [(⟨fr.f0 ++ [(i : Int)], fr.f1 + t⟩ : S80)]).getD i (⟨[], 0⟩ : S80) = ⟨fr.f0 ++ [(i : Int)], fr.f1 + t⟩ := by
        rw [← hn]; simp [List.getD_eq_getElem?_getD]
      have hcase : ∀ j, j < (ends ++ [(⟨fr.f0 ++ [(i : Int)], fr.f1 + t⟩ : S80)]).length → j < ends.length ∨ j = i := fun j hj => by
        rw [List.length_append] at hj
        simp at hj
        omega
      refine ⟨fun j hj => ?_, fun j hj => ?_, fun j hj b hbb => ?_⟩
      · rcases hcase j hj with h | rfl
        · rw [hold j h]; exact he.ok j h
        · rw [hnew]; exact hch
      · rcases hcase j hj with h | rfl
        · rw [hold j h]; exact he.last j h
        · rw [hnew]; exact ⟨fr.f0, rfl⟩
      · rcases hcase j hj with h | rfl
        · rw [hold j h]; exact he.best j h b hbb
        · rw [hnew]; exact hbe b hbb
    have hbest : BestOf2 l gap (i + 1) (if r = true then ⟨fr.f0 ++ [(i : Int)], fr.f1 + t⟩ else best) := by
      have split : ∀ b, Ok l gap b → (∀ x ∈ b, x < ((i + 1 : Nat) : Int)) → (∀ x ∈ b, x < (i : Int)) ∨ ∃ b', b = b' ++ [(i : Int)] := fun b hbo hlt => by
        rcases List.eq_nil_or_concat b with rfl | ⟨b', x, rfl⟩
        · exact .inl (fun x hx => (List.not_mem_nil hx).elim)
        · rw [List.concat_eq_append] at hbo hlt ⊢
          have hx := hlt x (by simp)
          by_cases e : x = (i : Int)
          · exact .inr ⟨b', by rw [e]⟩
          · refine .inl (fun y hy => ?_)
            rcases List.mem_append.1 hy with h | h
            · have := ((ok_snoc.1 hbo).2.2 y h).1; omega
            · rw [List.mem_singleton.1 h]; omega
      cases r with
      | true =>
        have hgo : GoodL l ⟨fr.f0 ++ [(i : Int)], fr.f1 + t⟩ best.f0 := by
          have := h4 rfl
          have e := hb.ok.2
          unfold GoodL
          rw [← e]
          exact this
        refine ⟨hch, fun b hbo hlt => ?_⟩
        rcases split b hbo hlt with h | ⟨b', rfl⟩
        · exact GoodL.trans hb.ok hgo (hb.all b hbo h)
        · exact hbe b' hbo
      | false =>
        have hgo : GoodL l best (fr.f0 ++ [(i : Int)]) := by
          have := h5 rfl
          have e := hch.2
          unfold GoodL
          rw [← e]
          exact this
        refine ⟨hb.ok, fun b hbo hlt => ?_⟩
        rcases split b hbo hlt with h | ⟨b', rfl⟩
        · exact hb.all b hbo h
        · exact GoodL.trans hch hgo (hbe b' hbo)
    obtain ⟨a, h6, h7⟩ := ih (i + 1) (by omega) _ _ (by rw [List.length_append, hn]; rfl) hends hbest
    refine ⟨a, ?_, h7⟩
    refine Ev.bind h1 ?_
    refine Ev.bind hw ?_
    simp only [if_pos (show fr.f0.length < 4398046511104 ∧ wrap64 (fr.f1 + t) = fr.f1 + t from ⟨by omega, w64 (by omega) (by omega)⟩)]
    exact Ev.bind h3 h6
theorem best_is2 (l : List S55) (gap : Int) : ∃ a : S80, Ev (fun k => contact_Best.f k l gap) (if gapF l gap = 0 then (a.f0, a.f1, 0) else ([], 0, gapF l gap)) ∧ (gapF l gap = 0 → BestOf2 l gap l.length a) := by
  simp only [contact_Best.f]
  by_cases h : gapF l gap = 0
  · obtain ⟨h1, h2⟩ := gapF_zero.1 h
    have hl := checkV_zero h1
    obtain ⟨a, h3, h4⟩ := go_is2 hl h2 l.length 0 (by omega) [] (⟨[], 0⟩ : S80) rfl ⟨fun j hj => absurd hj (Nat.not_lt_zero _), fun j hj => absurd hj (Nat.not_lt_zero _), fun j hj => absurd hj (Nat.not_lt_zero _)⟩ ⟨⟨Ok.nil l gap, rfl⟩, fun b hb hlt => by
      cases b with
      | nil => exact GoodE.refl _ _
      | cons x b =>
        have h5 := hlt x (by simp)
        have h6 := (hb.inside x (by simp)).1
        exact absurd h5 (by omega)⟩
    refine ⟨a, ?_, fun _ => h4⟩
    rw [if_pos h]
    refine Ev.bind (contact_CheckPasses_ev l) ?_
    simp only [kit_Range_eq, Option.bind_some]
    refine Ev.bind (kit_First_ev _ (by simp)) ?_
    show Ev (fun n => if gapF l gap = 0 then _ else _) _
    have hm := hl.many
    simp only [if_pos h, if_pos (show l.length < 1000000 by omega)]
    exact Ev.bind h3 (Ev.now _)
  · refine ⟨(⟨[], 0⟩ : S80), ?_, fun q => absurd q h⟩
    rw [if_neg h]
    refine Ev.bind (contact_CheckPasses_ev l) ?_
    simp only [kit_Range_eq, Option.bind_some]
    refine Ev.bind (kit_First_ev _ (by simp)) ?_
    show Ev (fun n => if gapF l gap = 0 then _ else _) _
    simp only [if_neg h]
    exact Ev.now _
end Go.Proofs.YtbngmblgkkdhpaaDoor.Q
