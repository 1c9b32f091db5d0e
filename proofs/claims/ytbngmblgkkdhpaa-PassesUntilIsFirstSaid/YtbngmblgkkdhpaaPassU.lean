/- Plain laws: up to which moment a pass carries so many bytes; the program's walk over the stretches and the reference's halving tell the same moment. -/
import Derived.Test.YtbngmblgkkdhpaaPassR
import Derived.Test.YtbngmblgkkdhpaaQ16
import Derived.Test.YtbngmblgkkdhpaaQ17
-- LET P = perigee/api.Pass
-- LET R = perigee/api.RateStep
-- LET T = perigee/contact.stretch
set_option linter.unusedVariables false
set_option linter.unusedSimpArgs false
namespace Go.Proofs.Ytbngmblgkkdhpaa.Q
open Go.RowKit Go.Proofs.YtbngmblgkkdhpaaW.PrintWords Go.Proofs.YtbngmblgkkdhpaaW.PrintLast Go.Proofs.YtbngmblgkkdhpaaW.PrintMore Go.Proofs.Ytbngmblgkkdhpaa.Base

/-! ### volumes rise -/
theorem partV_mono {s : S81} (h : GoodS s) (a : Int) {b c : Int} (hbc : b ≤ c) : partV s a b ≤ partV s a c := by
  obtain ⟨h1, h2, h3, h4, h5, h6⟩ := h
  unfold partV
  exact Int.mul_le_mul_of_nonneg_right (by unfold mx mn; omega) (by omega)
theorem sumS_mono {a b c : Int} (hbc : b ≤ c) : ∀ {l : List S81}, (∀ s ∈ l, GoodS s) → sumS a b l ≤ sumS a c l
  | [], _ => by simp [sumS]
  | s :: r, h => by
    have h1 := partV_mono (h s List.mem_cons_self) a hbc
    have h2 := sumS_mono (a := a) hbc (fun x hx => h x (List.mem_cons_of_mem _ hx))
    simp only [sumS]
    omega
theorem sumS_none {a b : Int} : ∀ {l : List S81}, (∀ s ∈ l, b ≤ s.f0 ∨ b ≤ a) → sumS a b l = 0
  | [], _ => rfl
  | s :: r, h => by
    have h1 := h s List.mem_cons_self
    have h2 := sumS_none (a := a) (b := b) (fun x hx => h x (List.mem_cons_of_mem _ hx))
    simp only [sumS, h2]
    unfold partV
    rw [show mx 0 (mn s.f1 b - mx s.f0 a) = 0 by unfold mx mn; omega]
    simp
theorem sumS_full {a b c : Int} : ∀ {l : List S81}, (∀ s ∈ l, s.f1 ≤ b ∧ s.f1 ≤ c) → sumS a b l = sumS a c l
  | [], _ => rfl
  | s :: r, h => by
    have h1 := h s List.mem_cons_self
    have h2 := sumS_full (a := a) (fun x hx => h x (List.mem_cons_of_mem _ hx))
    simp only [sumS, h2]
    unfold partV
    rw [show mn s.f1 b = mn s.f1 c by unfold mn; omega]
/-- The first moment up to which so many bytes go. -/
structure First (ss : List S81) (a size n : Int) : Prop where
  enough : size ≤ sumS a n ss
  less : sumS a (n - 1) ss < size
theorem First.unique {ss : List S81} (hg : ∀ s ∈ ss, GoodS s) {a size n m : Int} (h : First ss a size n) (k : First ss a size m) : n = m := by
  rcases Int.lt_trichotomy n m with h1 | h1 | h1
  · have := sumS_mono (a := a) (show n ≤ m - 1 by omega) hg
    have := h.enough
    have := k.less
    omega
  · exact h1
  · have := sumS_mono (a := a) (show m ≤ n - 1 by omega) hg
    have := k.enough
    have := h.less
    omega

/-! ### the stretches lie one behind the other -/
theorem GoodPass.rise' {p : S33} (h : GoodPass p) : ∀ d i : Nat, i + d + 1 < p.f3.length → (rd_T75 p.f3 i).f0 < (rd_T75 p.f3 ((i + d + 1 : Nat) : Int)).f0
  | 0, i, hi => h.rise i hi
  | d + 1, i, hi => by
    have h1 := GoodPass.rise' h d i (by omega)
    have h2 := h.rise (i + d + 1) (by omega)
    have e : i + (d + 1) + 1 = i + d + 1 + 1 := by omega
    rw [e]
    omega
theorem stretches_before {p : S33} (h : GoodPass p) : ∀ n : Nat, n ≤ p.f3.length → (stretchesV p n).Pairwise (fun s t => s.f1 ≤ t.f0) ∧ (∀ s ∈ stretchesV p n, (n < p.f3.length → s.f1 ≤ (rd_T75 p.f3 n).f0) ∧ s.f1 ≤ p.f2 ∧ p.f1 ≤ s.f0)
  | 0, _ => ⟨List.Pairwise.nil, fun s hs => by simp [stretchesV] at hs⟩
  | n + 1, hn => by
    obtain ⟨h1, h2⟩ := stretches_before h n (by omega)
    have hs := h.step n (by omega)
    have he : endOf p n ≤ p.f2 ∧ (n + 1 < p.f3.length → endOf p n = (rd_T75 p.f3 ((n + 1 : Nat) : Int)).f0) := by
      unfold endOf
      split
      · rename_i hl
        have := h.step (n + 1) hl
        exact ⟨by omega, fun _ => rfl⟩
      · exact ⟨Int.le_refl _, fun hl => by omega⟩
    unfold stretchesV
    split
    · refine ⟨?_, fun s hs' => ?_⟩
      · rw [List.pairwise_append]
        refine ⟨h1, List.pairwise_singleton _ _, fun a ha b hb => ?_⟩
        obtain rfl := List.mem_singleton.1 hb
        exact (h2 a ha).1 (by omega)
      · rcases List.mem_append.1 hs' with hs' | hs'
        · refine ⟨fun hl => ?_, (h2 s hs').2⟩
          have := (h2 s hs').1 (by omega)
          have := h.rise n hl
          omega
        · obtain rfl := List.mem_singleton.1 hs'
          exact ⟨fun hl => by simp only [he.2 hl]; omega, he.1, hs.1⟩
    · rw [List.append_nil]
      refine ⟨h1, fun s hs' => ⟨fun hl => ?_, (h2 s hs').2⟩⟩
      have := (h2 s hs').1 (by omega)
      have := h.rise n hl
      omega

/-! ### rounding up -/
theorem kit_Down_neg {x r : Int} (hx : 0 < x ∧ x ≤ 1000000000000) (hr : 1 ≤ r ∧ r ≤ 100000) : kit_Up.f x r = some ((x + r - 1) / r) := by
  unfold kit_Up.f kit_Down.f
  rw [w64 (x := -x) (by omega) (by omega), if_neg (by omega)]
  have hd : Int.tdiv (-x) r = -(x / r) := by
    rw [Int.neg_tdiv, Int.tdiv_eq_ediv_of_nonneg (by omega)]
  have hm : Int.tmod (-x) r = -(x % r) := by
    rw [Int.neg_tmod, Int.tmod_eq_emod_of_nonneg (by omega)]
  have d1 := Int.emod_nonneg x (show r ≠ 0 by omega)
  have d2 := Int.emod_lt_of_pos x (show 0 < r by omega)
  have d3 := Int.mul_ediv_add_emod x r
  have d4 : 0 ≤ x / r := Int.ediv_nonneg (by omega) (by omega)
  have d5 : x / r ≤ x := Int.ediv_le_self _ (by omega)
  rw [hd, hm]
  by_cases h : -(x % r) < 0
  · rw [if_pos h, w64 (x := -(x / r)) (by omega) (by omega), w64 (x := -(x / r) - 1) (by omega) (by omega)]
    simp only [Option.bind_some]
    rw [w64 (by omega) (by omega)]
    congr 1
    have : (x + r - 1) / r = x / r + 1 := by
      rw [Int.ediv_eq_iff_of_pos (by omega)]
      rw [Int.add_mul, Int.mul_comm (x / r) r]
      omega
    omega
  · rw [if_neg h, w64 (x := -(x / r)) (by omega) (by omega)]
    simp only [Option.bind_some]
    rw [w64 (by omega) (by omega)]
    congr 1
    have : (x + r - 1) / r = x / r := by
      rw [Int.ediv_eq_iff_of_pos (by omega)]
      rw [Int.mul_comm (x / r) r]
      omega
    omega

/-! ### the program's walk -/
theorem sumS_at {ss : List S81} {i : Nat} (hi : i < ss.length) (a b : Int) : sumS a b ss = sumS a b (ss.take i) + (partV (rd_T81 ss i) a b + sumS a b (ss.drop (i + 1))) := by
  conv => lhs; rw [← List.take_append_drop i ss, drop_T hi]
  rw [sumS_append]
  rfl
theorem sumS_take {ss : List S81} {i : Nat} (hi : i < ss.length) (a b : Int) : sumS a b (ss.take (i + 1)) = sumS a b (ss.take i) + partV (rd_T81 ss i) a b := by
  have e : ss.take (i + 1) = ss.take i ++ [rd_T81 ss i] := by
    rw [List.take_succ_eq_append_getElem hi]
    congr 2
    unfold rd_T81
    simp [List.getD_eq_getElem?_getD, List.getElem?_eq_getElem hi]
  rw [e, sumS_append]
  simp [sumS]
theorem contact_Until_l0 {ss : List S81} (hl : ss.length ≤ 50) (hg : ∀ s ∈ ss, GoodS s) (hpw : ss.Pairwise (fun s t => s.f1 ≤ t.f0)) {a size T : Int} (ha : 0 ≤ a ∧ a ≤ 1000000000000) (hT : ∀ s ∈ ss, s.f1 ≤ T) :
    ∀ d i : Nat, i + d = ss.length → ∀ rem : Int, 0 < rem → rem ≤ 1000000000000 → rem = size - sumS a T (ss.take i) →
      ∃ r, Ev (fun k => contact_Until.l0 k a rem ss (ss.length : Int) (i : Int)) r ∧ ((r = (0, false, 0) ∧ sumS a T ss < size) ∨ ∃ m, r = (m, true, 0) ∧ First ss a size m ∧ m ≤ T) := by
  intro d
  induction d with
  | zero =>
    intro i hi rem h0 h1 hr
    obtain rfl : i = ss.length := by omega
    rw [List.take_length] at hr
    exact ⟨_, Ev.step (f := fun _ => some (0, false, 0)) (fun k => by simp only [contact_Until.l0]; rw [if_neg (by omega)]) (Ev.now _), .inl ⟨rfl, by omega⟩⟩
  | succ d ih =>
    intro i hi rem h0 h1 hr
    have hlt : i < ss.length := by omega
    have hsplit : ss = ss.take i ++ (rd_T81 ss i :: ss.drop (i + 1)) := by
      conv => lhs; rw [← List.take_append_drop i ss, drop_T hlt]
    have hm : rd_T81 ss i ∈ ss := by
      have e := List.mem_append_right (ss.take i) (List.mem_cons_self (a := rd_T81 ss i) (l := ss.drop (i + 1)))
      rw [← hsplit] at e
      exact e
    have hp2 := hpw
    rw [hsplit, List.pairwise_append] at hp2
    obtain ⟨_, hp3, hp4⟩ := hp2
    rw [List.pairwise_cons] at hp3
    have gs := hg _ hm
    have hTs := hT _ hm
    have pb := partV_bd gs a T
    have st := sumS_take hlt a T
    have sat := sumS_at hlt a
    have low : ∀ t ∈ ss.take i, t.f1 ≤ (rd_T81 ss i).f0 := fun t ht => hp4 t ht _ List.mem_cons_self
    have high : ∀ t ∈ ss.drop (i + 1), (rd_T81 ss i).f1 ≤ t.f0 := hp3.1
    have lowT : ∀ t ∈ ss.take i, t.f1 ≤ T := fun t ht => hT t (List.mem_of_mem_take ht)
    generalize hs : rd_T81 ss i = s at *
    obtain ⟨g1, g2, g3, g4, g5, g6⟩ := gs
    have step : ∀ k, contact_Until.l0 (k + 1) a rem ss (ss.length : Int) (i : Int) = (if mx s.f0 a ≥ s.f1 then contact_Until.l0 k a rem ss (ss.length : Int) ((i + 1 : Nat) : Int) else if wrap64 (wrap64 (s.f1 - mx s.f0 a) * s.f2) ≥ rem then (kit_Up.f rem s.f2).bind fun t => some (wrap64 (mx s.f0 a + t), true, 0) else contact_Until.l0 k a (wrap64 (rem - wrap64 (wrap64 (s.f1 - mx s.f0 a) * s.f2))) ss (ss.length : Int) ((i + 1 : Nat) : Int)) := by
      intro k
      simp only [contact_Until.l0]
      rw [if_pos (by omega), if_pos (by omega), if_pos (by omega), w64 (x := (i : Int) + 1) (by omega) (by omega), hs]
      rfl
    by_cases hB : mx s.f0 a ≥ s.f1
    · have hz : partV s a T = 0 := by
        unfold partV
        rw [show mx 0 (mn s.f1 T - mx s.f0 a) = 0 by generalize mx s.f0 a = y at *; unfold mx mn; omega]
        simp
      obtain ⟨r, e, hr'⟩ := ih (i + 1) (by omega) rem h0 h1 (by omega)
      exact ⟨r, Ev.step (fun k => by rw [step k, if_pos hB]) e, hr'⟩
    · have hBd : 0 ≤ mx s.f0 a ∧ s.f0 ≤ mx s.f0 a ∧ a ≤ mx s.f0 a := by unfold mx; omega
      have hpart : ∀ b : Int, mx s.f0 a ≤ b → b ≤ s.f1 → partV s a b = (b - mx s.f0 a) * s.f2 := by
        intro b c1 c2
        unfold partV
        rw [show mx 0 (mn s.f1 b - mx s.f0 a) = b - mx s.f0 a by generalize mx s.f0 a = y at *; unfold mx mn; omega]
      have hfull : partV s a T = (s.f1 - mx s.f0 a) * s.f2 := by
        unfold partV
        rw [show mx 0 (mn s.f1 T - mx s.f0 a) = s.f1 - mx s.f0 a by generalize mx s.f0 a = y at *; unfold mx mn; omega]
      have hV : ∀ b : Int, mx s.f0 a ≤ b → b ≤ s.f1 → sumS a b ss = (size - rem) + (b - mx s.f0 a) * s.f2 := by
        intro b c1 c2
        rw [sat b, hpart b c1 c2, sumS_none (l := ss.drop (i + 1)) (fun t ht => .inl (by have := high t ht; omega)), sumS_full (c := T) (l := ss.take i) (fun t ht => ⟨by have := low t ht; omega, lowT t ht⟩)]
        omega
      generalize mx s.f0 a = B at *
      rw [hfull] at pb st
      have hw : wrap64 (wrap64 (s.f1 - B) * s.f2) = (s.f1 - B) * s.f2 := by rw [w64 (x := s.f1 - B) (by omega) (by omega), w64 (by omega) (by omega)]
      simp only [hw] at step
      by_cases hn : (s.f1 - B) * s.f2 ≥ rem
      · have hup := kit_Down_neg (x := rem) (r := s.f2) ⟨h0, h1⟩ ⟨g5, g6⟩
        have q1 : s.f2 * ((rem + s.f2 - 1) / s.f2) ≤ rem + s.f2 - 1 := Int.mul_ediv_self_le (by omega)
        have q2 : rem + s.f2 - 1 < s.f2 * ((rem + s.f2 - 1) / s.f2) + s.f2 := Int.lt_mul_ediv_self_add (by omega)
        generalize (rem + s.f2 - 1) / s.f2 = q at *
        have q3 : q ≤ s.f1 - B := by
          by_cases c : q ≤ s.f1 - B
          · exact c
          · exfalso
            have : s.f2 * (s.f1 - B + 1) ≤ s.f2 * q := Int.mul_le_mul_of_nonneg_left (by omega) (by omega)
            rw [Int.mul_add, Int.mul_comm s.f2 (s.f1 - B)] at this
            omega
        have q4 : 1 ≤ q := by
          by_cases c : 1 ≤ q
          · exact c
          · exfalso
            have : s.f2 * q ≤ s.f2 * 0 := Int.mul_le_mul_of_nonneg_left (by omega) (by omega)
            omega
        refine ⟨(B + q, true, 0), Ev.step (f := fun _ => some (B + q, true, 0)) (fun k => ?_) (Ev.now _), .inr ⟨B + q, rfl, ⟨?_, ?_⟩, by omega⟩⟩
        · rw [step k, if_neg hB, if_pos hn, hup]
          simp only [Option.bind_some]
          rw [w64 (by omega) (by omega)]
        · rw [hV (B + q) (by omega) (by omega), show B + q - B = q by omega, Int.mul_comm q s.f2]
          omega
        · rw [hV (B + q - 1) (by omega) (by omega), show B + q - 1 - B = q - 1 by omega, Int.sub_mul, Int.mul_comm q s.f2]
          omega
      · obtain ⟨r, e, hr'⟩ := ih (i + 1) (by omega) (rem - (s.f1 - B) * s.f2) (by omega) (by omega) (by omega)
        exact ⟨r, Ev.step (fun k => by rw [step k, if_neg hB, if_neg hn, w64 (x := rem - (s.f1 - B) * s.f2) (by omega) (by omega)]) e, hr'⟩

/-! ### what Until tells -/
def untilF (l : List S33) (k a size : Int) : Int := firstV [atV l k, if 0 ≤ a ∧ a ≤ 1000000000000 then 0 else 1, if 0 ≤ size ∧ size ≤ 1000000000000 then 0 else 1]
theorem untilF_zero {l : List S33} {k a size : Int} : untilF l k a size = 0 ↔ (atV l k = 0 ∧ (0 ≤ a ∧ a ≤ 1000000000000) ∧ (0 ≤ size ∧ size ≤ 1000000000000)) := volumeF_zero
def UntilIs (l : List S33) (k a size : Int) (r : Int × Bool × Int) : Prop :=
  (untilF l k a size ≠ 0 ∧ r = (0, false, untilF l k a size)) ∨ (untilF l k a size = 0 ∧ size = 0 ∧ r = (a, true, 0)) ∨
  (untilF l k a size = 0 ∧ size ≠ 0 ∧ ((r = (0, false, 0) ∧ volV (rd_T33 l k) a (rd_T33 l k).f2 < size) ∨ ∃ m, r = (m, true, 0) ∧ First (stretchesV (rd_T33 l k) (rd_T33 l k).f3.length) a size m ∧ m ≤ (rd_T33 l k).f2))
theorem UntilIs.unique {l : List S33} {k a size : Int} {r r' : Int × Bool × Int} (h : UntilIs l k a size r) (h' : UntilIs l k a size r') : r = r' := by
  rcases h with ⟨h1, rfl⟩ | ⟨h1, h2, rfl⟩ | ⟨h1, h2, h⟩ <;> rcases h' with ⟨h1', rfl⟩ | ⟨h1', h2', rfl⟩ | ⟨h1', h2', h'⟩ <;> first | rfl | contradiction | skip
  obtain ⟨a0, _, _⟩ := untilF_zero.1 h1
  obtain ⟨g4, g5, g6⟩ := atV_zero a0
  have gs := (g4.at g5 g6).stretches _ (Nat.le_refl _)
  rcases h with ⟨rfl, hv⟩ | ⟨m, rfl, hf, hm⟩ <;> rcases h' with ⟨rfl, hv'⟩ | ⟨m', rfl, hf', hm'⟩
  · rfl
  · exfalso
    have := sumS_mono (a := a) hm' gs
    have := hf'.enough
    unfold volV at hv
    omega
  · exfalso
    have := sumS_mono (a := a) hm gs
    have := hf.enough
    unfold volV at hv'
    omega
  · rw [hf.unique gs hf']
theorem contact_Until_ev (l : List S33) (k a size : Int) : ∃ r, Ev (fun n => contact_Until.f n l k a size) r ∧ UntilIs l k a size r := by
  simp only [contact_Until.f]
  have mk : ∀ {r : Int × Bool × Int} {g : Nat → Int → Option (Int × Bool × Int)}, Ev (fun n => g n (untilF l k a size)) r → Ev (fun n => (contact_at.f n l k).bind fun t230 => (kit_Range.f a 0 1000000000000).bind fun t231 => (kit_Range.f size 0 1000000000000).bind fun t232 => (kit_First.f n [t230, t231, t232]).bind (g n)) r := by
    intro r g hg
    refine Ev.bind (contact_at_ev l k) ?_
    simp only [kit_Range_eq, Option.bind_some]
    exact Ev.bind (kit_First_ev _ (by simp)) hg
  by_cases h : untilF l k a size = 0
  · obtain ⟨h1, h2, h3⟩ := untilF_zero.1 h
    obtain ⟨h4, h5, h6⟩ := atV_zero h1
    by_cases hz : size = 0
    · refine ⟨(a, true, 0), mk ?_, .inr (.inl ⟨h, hz, rfl⟩)⟩
      simp only [if_pos h, if_pos hz]
      exact Ev.now _
    · have gp := h4.at h5 h6
      have hm := gp.many
      have hl := stretchesV_length (rd_T33 l k) (rd_T33 l k).f3.length
      obtain ⟨b1, b2⟩ := stretches_before gp _ (Nat.le_refl _)
      obtain ⟨r, e, hr⟩ := contact_Until_l0 (ss := stretchesV (rd_T33 l k) (rd_T33 l k).f3.length) (by omega) (gp.stretches _ (Nat.le_refl _)) b1 (size := size) (T := (rd_T33 l k).f2) h2 (fun s hs => (b2 s hs).2.1) _ 0 (Nat.zero_add _) size (by omega) (by omega) (by simp [sumS])
      refine ⟨r, mk ?_, .inr (.inr ⟨h, hz, hr⟩)⟩
      simp only [if_pos h, if_neg hz, if_pos h5, if_pos h6]
      exact Ev.bind (contact_stretches_ev _ hm) e
  · refine ⟨(0, false, untilF l k a size), mk ?_, .inl ⟨h, rfl⟩⟩
    simp only [if_neg h]
    exact Ev.now _

/-! ### the reference's halving -/
theorem perigeeref10_Until_l0 {p : S33} (h : GoodPass p) {a size : Int} (ha : 0 ≤ a ∧ a ≤ 1000000000000) :
    ∀ d : Nat, ∀ low high : Int, (high - low).toNat ≤ d → 0 ≤ low → low ≤ high → high ≤ p.f2 → sumS a (low - 1) (stretchesV p p.f3.length) < size → size ≤ sumS a high (stretchesV p p.f3.length) →
      ∃ m, Ev (fun k => perigeeref10_Until.l0 k a size low high p.f0 p.f1 p.f2 p.f3) (m, true, 0) ∧ First (stretchesV p p.f3.length) a size m ∧ m ≤ p.f2 := by
  have ht := h.to1
  intro d
  induction d with
  | zero =>
    intro low high h1 h2 h3 h4 h5 h6
    obtain rfl : low = high := by omega
    exact ⟨low, Ev.step (f := fun _ => some (low, true, 0)) (fun k => by simp only [perigeeref10_Until.l0]; rw [if_neg (by omega)]) (Ev.now _), ⟨h6, h5⟩, h4⟩
  | succ d ih =>
    intro low high h1 h2 h3 h4 h5 h6
    by_cases hlt : low < high
    · have em : wrap64 (Int.tdiv (wrap64 (low + high)) 2) = (low + high) / 2 := by
        rw [w64 (x := low + high) (by omega) (by omega), Int.tdiv_eq_ediv_of_nonneg (by omega), w64 (by omega) (by omega)]
      have hv := perigeeref10_volume_ev h ha (b := (low + high) / 2) ⟨by omega, by omega⟩
      by_cases hc : volV p a ((low + high) / 2) ≥ size
      · obtain ⟨m, e, hm⟩ := ih low ((low + high) / 2) (by omega) h2 (by omega) (by omega) h5 hc
        refine ⟨m, Ev.step (fun k => perigeeref10_Until.l0.eq_2 ..) ?_, hm⟩
        simp only [em, if_pos hlt]
        refine Ev.bind hv ?_
        simp only [if_pos hc]
        exact e
      · obtain ⟨m, e, hm⟩ := ih ((low + high) / 2 + 1) high (by omega) (by omega) (by omega) h4 (by rw [show (low + high) / 2 + 1 - 1 = (low + high) / 2 by omega]; exact Int.not_le.1 hc) h6
        refine ⟨m, Ev.step (fun k => perigeeref10_Until.l0.eq_2 ..) ?_, hm⟩
        simp only [em, if_pos hlt]
        refine Ev.bind hv ?_
        simp only [if_neg hc, w64 (x := (low + high) / 2 + 1) (by omega) (by omega)]
        exact e
    · exact ⟨low, Ev.step (f := fun _ => some (low, true, 0)) (fun k => by simp only [perigeeref10_Until.l0]; rw [if_neg hlt]) (Ev.now _), ⟨by rw [show low = high by omega]; exact h6, h5⟩, by omega⟩
theorem perigeeref10_Until_ev (l : List S33) (k a size : Int) (hw : ∀ x ∈ l, x.f0.size ≤ 140737488351232) : ∃ r, Ev (fun n => perigeeref10_Until.f n l k a size) r ∧ UntilIs l k a size r := by
  simp only [perigeeref10_Until.f]
  have mk : ∀ {r : Int × Bool × Int} {g : Nat → Int → Option (Int × Bool × Int)}, Ev (fun n => g n (checkV l)) r → Ev (fun n => (perigeeref10_CheckPasses.f n l).bind (g n)) r := fun hg => Ev.bind (perigeeref10_CheckPasses_ev l hw) hg
  by_cases h0 : checkV l = 0
  · have hl := (checkV_zero h0).many
    by_cases h1 : 0 ≤ k ∧ k ≤ (l.length : Int) - 1
    · have a0 : atV l k = 0 := by unfold atV; rw [if_pos h0, if_pos ⟨h1.1, by omega⟩]
      have gp := (checkV_zero h0).at h1.1 (show k < (l.length : Int) by omega)
      have gs := gp.stretches _ (Nat.le_refl _)
      have bad : untilF l k a size = 1 → ∃ r, Ev (fun n => perigeeref10_Until.j0 n l k a size true) r ∧ UntilIs l k a size r := fun hu =>
        ⟨(0, false, 1), Ev.step (f := fun _ => some (0, false, 1)) (fun k => by simp only [perigeeref10_Until.j0, if_true]) (Ev.now _), .inl ⟨by rw [hu]; decide, by rw [hu]⟩⟩
      have key : ∃ r, Ev (fun n => if decide (0 ≤ a ∧ a ≤ 1000000000000) = true then perigeeref10_Until.j0 n l k a size (!decide (0 ≤ size ∧ size ≤ 1000000000000)) else perigeeref10_Until.j0 n l k a size true) r ∧ UntilIs l k a size r := by
        by_cases h2 : 0 ≤ a ∧ a ≤ 1000000000000
        · simp only [decide_eq_true h2, if_true]
          by_cases h3 : 0 ≤ size ∧ size ≤ 1000000000000
          · have hu : untilF l k a size = 0 := untilF_zero.2 ⟨a0, h2, h3⟩
            simp only [decide_eq_true h3, Bool.not_true]
            by_cases hz : size = 0
            · exact ⟨(a, true, 0), Ev.step (f := fun _ => some (a, true, 0)) (fun n => by simp only [perigeeref10_Until.j0]; rw [if_neg (by simp), if_pos hz]) (Ev.now _), .inr (.inl ⟨hu, hz, rfl⟩)⟩
            · have hv := perigeeref10_volume_ev gp h2 (b := (rd_T33 l k).f2) ⟨by have := gp.from0; have := gp.less; omega, gp.to1⟩
              have stp : ∀ {r : Int × Bool × Int}, Ev (fun n => if volV (rd_T33 l k) a (rd_T33 l k).f2 < size then some (0, false, 0) else perigeeref10_Until.l0 n a size (mx a (rd_T33 l k).f1) (rd_T33 l k).f2 (rd_T33 l k).f0 (rd_T33 l k).f1 (rd_T33 l k).f2 (rd_T33 l k).f3) r → Ev (fun n => perigeeref10_Until.j0 n l k a size false) r := by
                intro r hr
                refine Ev.step (fun k => perigeeref10_Until.j0.eq_2 ..) ?_
                simp only [if_neg Bool.false_ne_true, if_neg hz, if_pos h1.1, if_pos (show k < (l.length : Int) by omega)]
                exact Ev.bind hv hr
              by_cases hc : volV (rd_T33 l k) a (rd_T33 l k).f2 < size
              · refine ⟨(0, false, 0), stp ?_, .inr (.inr ⟨hu, hz, .inl ⟨rfl, hc⟩⟩)⟩
                simp only [if_pos hc]
                exact Ev.now _
              · have hpos : a < (rd_T33 l k).f2 := by
                  by_cases c : a < (rd_T33 l k).f2
                  · exact c
                  · exfalso
                    apply hc
                    unfold volV
                    rw [sumS_none (fun s _ => .inr (by omega))]
                    omega
                have hsb := (stretches_before gp _ (Nat.le_refl _)).2
                have hlow : sumS a (mx a (rd_T33 l k).f1 - 1) (stretchesV (rd_T33 l k) (rd_T33 l k).f3.length) = 0 := sumS_none (fun s hs => by
                  have := (hsb s hs).2.2
                  unfold mx
                  omega)
                have hf := gp.from0
                have hless := gp.less
                obtain ⟨m, e, hm⟩ := perigeeref10_Until_l0 gp (size := size) h2 _ (mx a (rd_T33 l k).f1) (rd_T33 l k).f2 (Nat.le_refl _) (by unfold mx; omega) (by unfold mx; omega) (Int.le_refl _) (by rw [hlow]; omega) (Int.not_lt.1 hc)
                refine ⟨(m, true, 0), stp ?_, .inr (.inr ⟨hu, hz, .inr ⟨m, rfl, hm⟩⟩)⟩
                simp only [if_neg hc]
                exact e
          · simp only [decide_eq_false h3, Bool.not_false]
            exact bad (by simp only [untilF, firstV, a0, if_pos h2, if_neg h3, if_true]; rfl)
        · simp only [decide_eq_false h2, if_neg Bool.false_ne_true]
          exact bad (by simp only [untilF, firstV, a0, if_neg h2, if_true]; rfl)
      obtain ⟨r, e, hr⟩ := key
      refine ⟨r, mk ?_, hr⟩
      simp only [h0, if_true, perigeeref10_within_eq, perigeeref10_moment_eq, Option.bind_some, w64 (x := (l.length : Int) - 1) (by omega) (by omega), decide_eq_true h1]
      exact e
    · have a0 : atV l k = 9 := by unfold atV; rw [if_pos h0, if_neg (by omega)]
      have hv : untilF l k a size = 9 := by simp only [untilF, firstV, a0]; rfl
      refine ⟨(0, false, 9), mk ?_, .inl ⟨by rw [hv]; decide, by rw [hv]⟩⟩
      simp only [h0, if_true, perigeeref10_within_eq, Option.bind_some, w64 (x := (l.length : Int) - 1) (by omega) (by omega), decide_eq_false h1, if_neg Bool.false_ne_true]
      exact Ev.now _
  · have a0 : atV l k = checkV l := by unfold atV; rw [if_neg h0]
    have hv : untilF l k a size = checkV l := by simp only [untilF, firstV, a0, if_neg h0]
    refine ⟨(0, false, checkV l), mk ?_, .inl ⟨by rw [hv]; exact h0, by rw [hv]⟩⟩
    simp only [if_neg h0]
    exact Ev.now _
end Go.Proofs.Ytbngmblgkkdhpaa.Q
