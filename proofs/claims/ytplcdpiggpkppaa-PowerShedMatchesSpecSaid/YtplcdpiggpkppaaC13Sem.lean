/- The battery's level, millisecond by millisecond, and what pieces of time with one change tell of it: plain numbers and lists, no program. -/
-- Made by wip/tools/claimp.py of this session's texts; Lean checks it.
import Derived.Test.YtplcdpiggpkppaaC13WWords
import Derived.Test.YtplcdpiggpkppaaC13WMore
set_option linter.unusedVariables false
set_option linter.unusedSimpArgs false
namespace Go.Proofs.Ytplcdpiggpkppaa.Q
open Go.RowKit Go.Proofs.YtplcdpiggpkppaaW.PrintWords Go.Proofs.YtplcdpiggpkppaaW.PrintLast Go.Proofs.YtplcdpiggpkppaaW.PrintMore
/-- A level kept within the battery. -/
def clp (room x : Int) : Int := if x < 0 then 0 else if room < x then room else x
theorem clp_bd {room x : Int} (h : 0 ≤ room) : 0 ≤ clp room x ∧ clp room x ≤ room := by
  by_cases h1 : x < 0
  · rw [show clp room x = 0 from if_pos h1]; omega
  · by_cases h2 : room < x
    · rw [show clp room x = room from (if_neg h1).trans (if_pos h2)]; omega
    · rw [show clp room x = x from (if_neg h1).trans (if_neg h2)]; omega
theorem clp_id {room x : Int} (h : 0 ≤ x ∧ x ≤ room) : clp room x = x := by unfold clp; rw [if_neg (by omega), if_neg (by omega)]
theorem clp_mono {room x y : Int} (hr : 0 ≤ room) (h : x ≤ y) : clp room x ≤ clp room y := by
  unfold clp
  repeat' split
  all_goals omega
/-- The level at each moment. -/
def lev (room : Int) (d : Int → Int) (l0 : Int) : Nat → Int
  | 0 => l0
  | n + 1 => clp room (lev room d l0 n + d n)
theorem lev_bd {room : Int} {d : Int → Int} {l0 : Int} (h : 0 ≤ l0 ∧ l0 ≤ room) : ∀ n, 0 ≤ lev room d l0 n ∧ lev room d l0 n ≤ room
  | 0 => h
  | n + 1 => clp_bd (by omega)
theorem mul_step (c : Int) (n : Nat) : c * ((n + 1 : Nat) : Int) = c * (n : Int) + c := by rw [Int.natCast_succ, Int.mul_add, Int.mul_one]
theorem mul_pos' {c : Int} (h : 0 ≤ c) (n : Nat) : 0 ≤ c * (n : Int) := Int.mul_nonneg h (Int.natCast_nonneg n)
theorem mul_neg' {c : Int} (h : c ≤ 0) (n : Nat) : c * (n : Int) ≤ 0 := Int.mul_nonpos_of_nonpos_of_nonneg h (Int.natCast_nonneg n)
/-- A time with one change. -/
theorem lev_add {room : Int} {d : Int → Int} {l0 : Int} (h : 0 ≤ l0 ∧ l0 ≤ room) (a : Nat) (c : Int) : ∀ n : Nat, (∀ m : Nat, a ≤ m → m < a + n → d m = c) → lev room d l0 (a + n) = clp room (lev room d l0 a + c * (n : Int))
  | 0, _ => by
    have := lev_bd (d := d) h a
    rw [show ((0 : Nat) : Int) = 0 from rfl, Int.mul_zero, Int.add_zero, clp_id this]
    rfl
  | n + 1, hd => by
    have ih := lev_add h a c n (fun m h1 h2 => hd m h1 (by omega))
    have hb := lev_bd (d := d) h a
    show clp room (lev room d l0 (a + n) + d ((a + n : Nat) : Int)) = _
    rw [hd (a + n) (by omega) (by omega), ih, mul_step]
    by_cases hc : 0 ≤ c
    · have := mul_pos' hc n
      generalize c * (n : Int) = q at *
      unfold clp
      repeat' split
      all_goals omega
    · have := mul_neg' (show c ≤ 0 by omega) n
      generalize c * (n : Int) = q at *
      unfold clp
      repeat' split
      all_goals omega
/-- Pieces of time: from a up to b, one behind the other, each with the change that is told of it. -/
def Segs (d : Int → Int) : Int → Int → List (Int × Int × Int) → Prop
  | a, b, [] => a = b
  | a, b, p :: L => p.1 = a ∧ p.1 < p.2.1 ∧ p.2.1 ≤ b ∧ (∀ x, p.1 ≤ x → x < p.2.1 → d x = p.2.2) ∧ Segs d p.2.1 b L
theorem Segs.le {d : Int → Int} : ∀ {L : List (Int × Int × Int)} {a b : Int}, Segs d a b L → a ≤ b
  | [], _, _, h => Int.le_of_eq h
  | _ :: _, _, _, h => by
    obtain ⟨h1, h2, h3, _, _⟩ := h
    omega
/-- The level behind one piece. -/
def overP (room : Int) (lvl : Int) (p : Int × Int × Int) : Int := clp room (lvl + p.2.2 * (p.2.1 - p.1))
theorem lev_piece {room : Int} {d : Int → Int} {l0 : Int} (h : 0 ≤ l0 ∧ l0 ≤ room) {f t c : Int} (h0 : 0 ≤ f) (hft : f ≤ t) (hd : ∀ x, f ≤ x → x < t → d x = c) (x : Int) (h1 : f ≤ x) (h2 : x ≤ t) :
    lev room d l0 x.toNat = clp room (lev room d l0 f.toNat + c * (x - f)) := by
  have k := lev_add (d := d) h f.toNat c (x - f).toNat (fun m q1 q2 => hd m (by omega) (by omega))
  rw [show f.toNat + (x - f).toNat = x.toNat by omega, show (((x - f).toNat : Nat) : Int) = x - f by omega] at k
  exact k
/-- The least level up to a moment, and the first moment with it. -/
def IsLow (f : Nat → Int) (u : Nat) (n : Int) (k : Nat) : Prop := k ≤ u ∧ f k = n ∧ (∀ j, j ≤ u → n ≤ f j) ∧ (∀ j, j < k → n < f j)
theorem IsLow.unique {f : Nat → Int} {u : Nat} {n m : Int} {k j : Nat} (h : IsLow f u n k) (h' : IsLow f u m j) : n = m ∧ k = j := by
  obtain ⟨a1, a2, a3, a4⟩ := h
  obtain ⟨b1, b2, b3, b4⟩ := h'
  have e : n = m := by have := a3 j b1; have := b3 k a1; omega
  refine ⟨e, ?_⟩
  rcases Nat.lt_trichotomy k j with q | q | q
  · have := b4 k q; omega
  · exact q
  · have := a4 j q; omega
/-- The first moment up to u at which the level is below a floor; none: no such moment. -/
def IsFirst (f : Nat → Int) (u : Nat) (fl : Int) (r : Option Nat) : Prop := match r with
  | none => ∀ j, j ≤ u → fl ≤ f j
  | some k => k ≤ u ∧ f k < fl ∧ ∀ j, j < k → fl ≤ f j
theorem IsFirst.unique {f : Nat → Int} {u : Nat} {fl : Int} {r r' : Option Nat} (h : IsFirst f u fl r) (h' : IsFirst f u fl r') : r = r' := by
  cases r with
  | none => cases r' with
    | none => rfl
    | some k => have := h k h'.1; have := h'.2.1; omega
  | some k => cases r' with
    | none => have := h' k h.1; have := h.2.1; omega
    | some j =>
      obtain ⟨a1, a2, a3⟩ := h
      obtain ⟨b1, b2, b3⟩ := h'
      rcases Nat.lt_trichotomy k j with q | q | q
      · have := b3 k q; omega
      · rw [q]
      · have := a3 j q; omega
/-- How far a falling level goes: q milliseconds, each by c, are at least n just if q is at least n by c, rounded up. -/
theorem up_le {n c q : Int} (hc : 0 < c) (hn : 0 ≤ n) : (n + c - 1) / c ≤ q ↔ n ≤ c * q := by
  constructor
  · intro h
    have e := Int.mul_ediv_add_emod (n + c - 1) c
    have m := Int.emod_lt_of_pos (n + c - 1) hc
    have : c * ((n + c - 1) / c) ≤ c * q := Int.mul_le_mul_of_nonneg_left h (Int.le_of_lt hc)
    omega
  · intro h
    have : (n + c - 1) / c < q + 1 := by
      refine Int.ediv_lt_of_lt_mul hc ?_
      rw [Int.mul_comm (q + 1) c, Int.mul_add, Int.mul_one]
      omega
    omega
/-- A falling piece: the moments at which the level is at most what it is at the piece's end. -/
theorem fall_at {room : Int} {d : Int → Int} {l0 : Int} (h : 0 ≤ l0 ∧ l0 ≤ room) {f t c : Int} (h0 : 0 ≤ f) (hft : f < t) (hd : ∀ x, f ≤ x → x < t → d x = c)
    (hlow : lev room d l0 t.toNat < lev room d l0 f.toNat) :
    c < 0 ∧ f < f + (lev room d l0 f.toNat - lev room d l0 t.toNat - c - 1) / -c ∧ f + (lev room d l0 f.toNat - lev room d l0 t.toNat - c - 1) / -c ≤ t ∧
    (∀ x, f ≤ x → x ≤ t → (lev room d l0 x.toNat ≤ lev room d l0 t.toNat ↔ f + (lev room d l0 f.toNat - lev room d l0 t.toNat - c - 1) / -c ≤ x)) ∧ (∀ x, f ≤ x → x ≤ t → lev room d l0 t.toNat ≤ lev room d l0 x.toNat) := by
  have hp := fun x a b => lev_piece (d := d) h h0 (Int.le_of_lt hft) hd x a b
  have hb := lev_bd (d := d) h f.toNat
  have ht := hp t (Int.le_of_lt hft) (Int.le_refl _)
  have htb := lev_bd (d := d) h t.toNat
  generalize hL : lev room d l0 f.toNat = L at *
  generalize hE : lev room d l0 t.toNat = E at *
  have hc : c < 0 := by
    apply Int.not_le.1
    intro hc
    have : 0 ≤ c * (t - f) := Int.mul_nonneg hc (by omega)
    rw [ht] at hlow
    unfold clp at hlow
    generalize c * (t - f) = q at *
    split at hlow
    · omega
    · split at hlow <;> omega
  have hx : ∀ x, f ≤ x → x ≤ t → (lev room d l0 x.toNat ≤ E ↔ f + (L - E - c - 1) / -c ≤ x) ∧ E ≤ lev room d l0 x.toNat := by
    intro x h1 h2
    rw [hp x h1 h2]
    have k := up_le (n := L - E) (c := -c) (q := x - f) (by omega) (by omega)
    rw [show L - E + -c - 1 = L - E - c - 1 by omega, Int.neg_mul] at k
    have hm : c * (t - f) ≤ c * (x - f) := Int.mul_le_mul_of_nonpos_left (by omega) (by omega)
    have hn : c * (x - f) ≤ 0 := Int.mul_nonpos_of_nonpos_of_nonneg (by omega) (by omega)
    have hE' : E = clp room (L + c * (t - f)) := ht
    generalize c * (t - f) = qt at *
    generalize c * (x - f) = qx at *
    generalize (L - E - c - 1) / -c = U at *
    clear hp ht hd
    unfold clp at *
    constructor
    · constructor
      · intro hle
        have : U ≤ x - f := k.2 (by
          revert hle hE'
          repeat' split
          all_goals omega)
        omega
      · intro hu
        have := k.1 (show U ≤ x - f by omega)
        revert this hE'
        repeat' split
        all_goals omega
    · revert hE'
      repeat' split
      all_goals omega
  have k0 := (hx f (Int.le_refl _) (Int.le_of_lt hft)).1
  have k1 := (hx t (Int.le_of_lt hft) (Int.le_refl _)).1
  refine ⟨hc, ?_, k1.1 (by omega), fun x a b => (hx x a b).1, fun x a b => (hx x a b).2⟩
  apply Int.not_le.1
  intro q
  have := k0.2 q
  omega
/-- Within a piece the level is never below both its ends. -/
theorem piece_min {room : Int} {d : Int → Int} {l0 : Int} (h : 0 ≤ l0 ∧ l0 ≤ room) {f t c : Int} (h0 : 0 ≤ f) (hft : f < t) (hd : ∀ x, f ≤ x → x < t → d x = c) {n : Int} (h1 : n ≤ lev room d l0 f.toNat) (h2 : n ≤ lev room d l0 t.toNat)
    (x : Int) (hx1 : f ≤ x) (hx2 : x ≤ t) : n ≤ lev room d l0 x.toNat := by
  have hb := lev_bd (d := d) h f.toNat
  have k := lev_piece (d := d) h h0 (Int.le_of_lt hft) hd x hx1 hx2
  have kt := lev_piece (d := d) h h0 (Int.le_of_lt hft) hd t (Int.le_of_lt hft) (Int.le_refl _)
  by_cases hc : 0 ≤ c
  · have : 0 ≤ c * (x - f) := Int.mul_nonneg hc (by omega)
    have e := clp_mono (room := room) (by omega) (show lev room d l0 f.toNat ≤ lev room d l0 f.toNat + c * (x - f) by omega)
    rw [clp_id hb] at e
    omega
  · have hm : c * (t - f) ≤ c * (x - f) := Int.mul_le_mul_of_nonpos_left (by omega) (by omega)
    have e := clp_mono (room := room) (by omega) (show lev room d l0 f.toNat + c * (t - f) ≤ lev room d l0 f.toNat + c * (x - f) by omega)
    omega
/-- When a falling piece first is as low as at its end. -/
def whenP (L E : Int) (p : Int × Int × Int) : Int := p.1 + (L - E - p.2.2 - 1) / -p.2.2
theorem IsLow.step {room : Int} {d : Int → Int} {l0 : Int} (h : 0 ≤ l0 ∧ l0 ≤ room) {f t c : Int} (h0 : 0 ≤ f) (hft : f < t) (hd : ∀ x, f ≤ x → x < t → d x = c) {n : Int} {k : Nat} (hl : IsLow (lev room d l0) f.toNat n k) :
    if lev room d l0 t.toNat < n then IsLow (lev room d l0) t.toNat (lev room d l0 t.toNat) (whenP (lev room d l0 f.toNat) (lev room d l0 t.toNat) (f, t, c)).toNat ∧ 0 ≤ whenP (lev room d l0 f.toNat) (lev room d l0 t.toNat) (f, t, c) ∧ c < 0
    else IsLow (lev room d l0) t.toNat n k := by
  obtain ⟨a1, a2, a3, a4⟩ := hl
  have nf := a3 f.toNat (Nat.le_refl _)
  split
  · rename_i hlt
    obtain ⟨hc, q1, q2, q3, q4⟩ := fall_at h h0 hft hd (show lev room d l0 t.toNat < lev room d l0 f.toNat by omega)
    show IsLow _ _ _ (f + (lev room d l0 f.toNat - lev room d l0 t.toNat - c - 1) / -c).toNat ∧ 0 ≤ f + (lev room d l0 f.toNat - lev room d l0 t.toNat - c - 1) / -c ∧ _
    generalize hW : f + (lev room d l0 f.toNat - lev room d l0 t.toNat - c - 1) / -c = W at *
    have hWn : ((W.toNat : Nat) : Int) = W := Int.toNat_of_nonneg (by omega)
    refine ⟨⟨by omega, ?_, ?_, ?_⟩, by omega, hc⟩
    · have := (q3 W (by omega) q2).2 (Int.le_refl _)
      have := q4 W (by omega) q2
      omega
    · intro j hj
      by_cases hjf : j ≤ f.toNat
      · have := a3 j hjf; omega
      · exact q4 (j : Int) (by omega) (by omega)
    · intro j hj
      by_cases hjf : j ≤ f.toNat
      · have := a3 j hjf; omega
      · have e := q3 (j : Int) (by omega) (by omega)
        rw [Int.toNat_natCast] at e
        have : ¬ W ≤ (j : Int) := by omega
        omega
  · rename_i hge
    refine ⟨by omega, a2, ?_, a4⟩
    intro j hj
    by_cases hjf : j ≤ f.toNat
    · exact a3 j hjf
    · exact piece_min h h0 hft hd nf (by omega) (j : Int) (by omega) (by omega)
theorem IsFirst.step {room : Int} {d : Int → Int} {l0 : Int} (h : 0 ≤ l0 ∧ l0 ≤ room) {f t c : Int} (h0 : 0 ≤ f) (hft : f < t) (hd : ∀ x, f ≤ x → x < t → d x = c) {fl : Int} (hl : IsFirst (lev room d l0) f.toNat fl none) :
    if lev room d l0 t.toNat < fl then (c < 0 ∧ 0 ≤ (lev room d l0 f.toNat - fl) / -c ∧ ∀ u : Nat, t.toNat ≤ u → IsFirst (lev room d l0) u fl (some (f + (lev room d l0 f.toNat - fl) / -c + 1).toNat))
    else IsFirst (lev room d l0) t.toNat fl none := by
  have nf : fl ≤ lev room d l0 f.toNat := hl f.toNat (Nat.le_refl _)
  split
  · rename_i hlt
    obtain ⟨hc, _, _, _, q4⟩ := fall_at h h0 hft hd (show lev room d l0 t.toNat < lev room d l0 f.toNat by omega)
    have hp := fun x a b => lev_piece (d := d) h h0 (Int.le_of_lt hft) hd x a b
    have hb := lev_bd (d := d) h f.toNat
    have htb := lev_bd (d := d) h t.toNat
    have hx : ∀ x, f ≤ x → x ≤ t → (lev room d l0 x.toNat < fl ↔ (lev room d l0 f.toNat - fl) / -c < x - f) := by
      intro x h1 h2
      rw [hp x h1 h2]
      have k : (lev room d l0 f.toNat - fl) / -c < x - f ↔ lev room d l0 f.toNat - fl < (x - f) * -c := Int.ediv_lt_iff_lt_mul (by omega)
      rw [k, Int.mul_neg, Int.mul_comm (x - f) c]
      have hn : c * (x - f) ≤ 0 := Int.mul_nonpos_of_nonpos_of_nonneg (by omega) (by omega)
      generalize c * (x - f) = qx at *
      clear hp hd k
      unfold clp
      repeat' split
      all_goals omega
    have hq : 0 ≤ (lev room d l0 f.toNat - fl) / -c := Int.ediv_nonneg (by omega) (by omega)
    have kt := (hx t (Int.le_of_lt hft) (Int.le_refl _)).1 hlt
    refine ⟨hc, hq, fun u hu => ?_⟩
    generalize (lev room d l0 f.toNat - fl) / -c = U at *
    refine ⟨by omega, (hx (f + U + 1) (by omega) (by omega)).2 (by omega), ?_⟩
    intro j hj
    by_cases hjf : j ≤ f.toNat
    · exact hl j hjf
    · have e := hx (j : Int) (by omega) (by omega)
      rw [Int.toNat_natCast] at e
      have : ¬ U < (j : Int) - f := by omega
      omega
  · rename_i hge
    intro j hj
    by_cases hjf : j ≤ f.toNat
    · exact hl j hjf
    · exact piece_min h h0 hft hd nf (by omega) (j : Int) (by omega) (by omega)
end Go.Proofs.Ytplcdpiggpkppaa.Q
