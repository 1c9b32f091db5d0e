/- Sending, in plain Lean: rates, what a pass carries, what stays true. -/
-- Made by wip/tools/claimp.py of this session's texts; Lean checks it.
import Derived.Test.YtbngmblgkkdhpaaC10SndA
set_option linter.unusedVariables false
set_option linter.unusedSimpArgs false
namespace Go.Proofs.Ytbngmblgkkdhpaa.Q
open Go.RowKit Go.Proofs.YtbngmblgkkdhpaaW.PrintWords Go.Proofs.YtbngmblgkkdhpaaW.PrintLast Go.Proofs.YtbngmblgkkdhpaaW.PrintMore Go.Proofs.Ytbngmblgkkdhpaa.Base
namespace Snd
def rS (ss : List S81) (t : Int) : Int := match ss.find? (fun s => decide (s.f0 ≤ t) && decide (t < s.f1)) with
  | some s => s.f2
  | none => 0
def popTo (t : Int) (ss : List S81) : List S81 := ss.dropWhile (fun s => decide (s.f1 ≤ t))
def rateH (ss : List S81) (t : Int) : Int := match ss with
  | [] => 0
  | s :: _ => if s.f0 ≤ t then s.f2 else 0
def InLine (ss : List S81) : Prop := ss.Pairwise (fun s u => s.f1 ≤ u.f0) ∧ ∀ s ∈ ss, s.f0 < s.f1
theorem rS_none {ss : List S81} {t : Int} (h : ∀ s ∈ ss, t < s.f0) : rS ss t = 0 := by
  unfold rS
  rw [List.find?_eq_none.2 (fun s hs => by have := h s hs; simp; omega)]
theorem rate_pop {ss : List S81} {t : Int} (h : InLine ss) : rateH (popTo t ss) t = rS ss t := by
  induction ss with
  | nil => rfl
  | cons s r ih =>
    have hr : InLine r := ⟨(List.pairwise_cons.1 h.1).2, fun x hx => h.2 x (List.mem_cons_of_mem _ hx)⟩
    have hs := h.2 s List.mem_cons_self
    unfold popTo
    rw [List.dropWhile_cons]
    by_cases h1 : s.f1 ≤ t
    · rw [if_pos (by simpa using h1)]
      have e : rS (s :: r) t = rS r t := by
        unfold rS
        rw [List.find?_cons]
        have : (decide (s.f0 ≤ t) && decide (t < s.f1)) = false := by simp; omega
        rw [this]
      rw [e]
      exact ih hr
    · rw [if_neg (by simpa using h1)]
      show (if s.f0 ≤ t then s.f2 else 0) = _
      by_cases h0 : s.f0 ≤ t
      · rw [if_pos h0]
        unfold rS
        rw [List.find?_cons]
        have : (decide (s.f0 ≤ t) && decide (t < s.f1)) = true := by simp; omega
        rw [this]
      · rw [if_neg h0, rS_none]
        intro x hx
        rcases List.mem_cons.1 hx with rfl | hx
        · omega
        · have := (List.pairwise_cons.1 h.1).1 x hx
          omega
theorem pop_pop {t t' : Int} (h : t ≤ t') : ∀ ss : List S81, popTo t' (popTo t ss) = popTo t' ss
  | [] => rfl
  | s :: r => by
    unfold popTo
    rw [List.dropWhile_cons (xs := r)]
    by_cases h1 : s.f1 ≤ t
    · rw [if_pos (by simpa using h1), List.dropWhile_cons, if_pos (by simp; omega)]
      exact pop_pop h r
    · rw [if_neg (by simpa using h1)]
theorem rS_same {ss : List S81} {a t : Int} (h : ∀ s ∈ ss, (s.f0 ≤ t ↔ s.f0 ≤ a) ∧ (s.f1 ≤ t ↔ s.f1 ≤ a)) : rS ss t = rS ss a := by
  unfold rS
  have : ∀ l : List S81, (∀ s ∈ l, (s.f0 ≤ t ↔ s.f0 ≤ a) ∧ (s.f1 ≤ t ↔ s.f1 ≤ a)) → l.find? (fun s => decide (s.f0 ≤ t) && decide (t < s.f1)) = l.find? (fun s => decide (s.f0 ≤ a) && decide (a < s.f1)) := by
    intro l
    induction l with
    | nil => intro _; rfl
    | cons s r ih =>
      intro hl
      rw [List.find?_cons, List.find?_cons, ih (fun x hx => hl x (List.mem_cons_of_mem _ hx))]
      have := hl s List.mem_cons_self
      have e1 : decide (s.f0 ≤ t) = decide (s.f0 ≤ a) := decide_eq_decide.2 this.1
      have e2 : decide (t < s.f1) = decide (a < s.f1) := decide_eq_decide.2 (by omega)
      rw [e1, e2]
  rw [this ss h]
/-- The booked passes that are open, with their rates. -/
def actOf (bk : List Int) (ss : Int → List S81) (t : Int) : List (Int × Int) := (bk.map fun k => (k, rS (ss k) t)).filter fun kr => decide (0 < kr.2)
theorem actOf_pos {bk : List Int} {ss : Int → List S81} {t : Int} : ∀ kr ∈ actOf bk ss t, 0 < kr.2 := fun kr h => by
  unfold actOf at h
  simpa using (List.mem_filter.1 h).2
theorem actOf_nodup {bk : List Int} {ss : Int → List S81} {t : Int} (h : bk.Pairwise (· < ·)) : ((actOf bk ss t).map (·.1)).Nodup := by
  unfold actOf
  have h1 : ((bk.map fun k => (k, rS (ss k) t)).map (·.1)).Nodup := by
    rw [List.map_map]
    show (bk.map fun k => k).Nodup
    rw [List.map_id']
    exact h.imp (fun hab => by omega)
  exact List.Nodup.sublist (List.Sublist.map _ List.filter_sublist) h1
theorem actOf_same {bk : List Int} {ss : Int → List S81} {a t : Int} (h : ∀ k ∈ bk, rS (ss k) t = rS (ss k) a) : actOf bk ss t = actOf bk ss a := by
  unfold actOf
  rw [show (bk.map fun k => (k, rS (ss k) t)) = bk.map fun k => (k, rS (ss k) a) from List.map_congr_left (fun k hk => by rw [h k hk])]
theorem actOf_mem {bk : List Int} {ss : Int → List S81} {t k r : Int} (h : (k, r) ∈ actOf bk ss t) : k ∈ bk ∧ r = rS (ss k) t := by
  unfold actOf at h
  obtain ⟨k', hk, e⟩ := List.mem_map.1 (List.mem_filter.1 h).1
  injection e with e1 e2
  subst e1
  exact ⟨hk, e2.symm⟩
/-- Between two moments that follow one another nothing turns. -/
theorem next_none {ts : List Int} {i : Nat} {a b : Int} (hp : ts.Pairwise (· < ·)) (ha : ts[i]? = some a) (hb : ts[i + 1]? = some b) {x : Int} (hx : x ∈ ts) : x ≤ a ∨ b ≤ x := by
  obtain ⟨j, hj⟩ := List.getElem?_of_mem hx
  obtain ⟨hi1, hi2⟩ := List.getElem?_eq_some_iff.1 ha
  obtain ⟨hb1, hb2⟩ := List.getElem?_eq_some_iff.1 hb
  obtain ⟨hj1, hj2⟩ := List.getElem?_eq_some_iff.1 hj
  rcases Nat.lt_trichotomy j i with h | h | h
  · have := List.pairwise_iff_getElem.1 hp j i hj1 hi1 h; omega
  · subst h; omega
  · by_cases h' : j = i + 1
    · subst h'; omega
    · have := List.pairwise_iff_getElem.1 hp (i + 1) j hb1 hj1 (by omega); omega
theorem last_all {ts : List Int} {i : Nat} {a : Int} (hp : ts.Pairwise (· < ·)) (ha : ts[i]? = some a) (hb : ts.length ≤ i + 1) {x : Int} (hx : x ∈ ts) : x ≤ a := by
  obtain ⟨j, hj⟩ := List.getElem?_of_mem hx
  obtain ⟨hi1, hi2⟩ := List.getElem?_eq_some_iff.1 ha
  obtain ⟨hj1, hj2⟩ := List.getElem?_eq_some_iff.1 hj
  rcases Nat.lt_trichotomy j i with h | h | h
  · have := List.pairwise_iff_getElem.1 hp j i hj1 hi1 h; omega
  · subst h; omega
  · omega
def partV' (s : S81) (a b : Int) : Int := mx 0 (mn s.f1 b - mx s.f0 a) * s.f2
def sumS' (a b : Int) : List S81 → Int
  | [] => 0
  | s :: r => partV' s a b + sumS' a b r
def sumRate (f : Int → Int) (a : Int) : Nat → Int
  | 0 => 0
  | n + 1 => sumRate f a n + f (a + n)
theorem partV_succ (s : S81) {a b : Int} (h : a ≤ b) (hs : s.f0 < s.f1) : partV' s a (b + 1) = partV' s a b + if s.f0 ≤ b ∧ b < s.f1 then s.f2 else 0 := by
  unfold partV'
  by_cases hc : s.f0 ≤ b ∧ b < s.f1
  · rw [if_pos hc]
    have e1 : mx 0 (mn s.f1 (b + 1) - mx s.f0 a) = mx 0 (mn s.f1 b - mx s.f0 a) + 1 := by unfold mx mn; (repeat' split) <;> omega
    rw [e1, Int.add_mul, Int.one_mul]
  · rw [if_neg hc]
    have e1 : mx 0 (mn s.f1 (b + 1) - mx s.f0 a) = mx 0 (mn s.f1 b - mx s.f0 a) := by unfold mx mn; (repeat' split) <;> omega
    rw [e1, Int.add_zero]
theorem partV_empty (s : S81) {a : Int} (hs : s.f0 < s.f1) : partV' s a a = 0 := by
  unfold partV'
  have e1 : mx 0 (mn s.f1 a - mx s.f0 a) = 0 := by unfold mx mn; (repeat' split) <;> omega
  rw [e1, Int.zero_mul]
theorem rS_cons {s : S81} {r : List S81} {t : Int} (h : InLine (s :: r)) : rS (s :: r) t = (if s.f0 ≤ t ∧ t < s.f1 then s.f2 else 0) + rS r t := by
  by_cases hc : s.f0 ≤ t ∧ t < s.f1
  · rw [if_pos hc]
    have e : rS r t = 0 := rS_none (fun x hx => by have := (List.pairwise_cons.1 h.1).1 x hx; omega)
    rw [e]
    unfold rS
    rw [List.find?_cons, show (decide (s.f0 ≤ t) && decide (t < s.f1)) = true by simp; omega]
    simp
  · rw [if_neg hc]
    unfold rS
    rw [List.find?_cons, show (decide (s.f0 ≤ t) && decide (t < s.f1)) = false by simp; omega]
    simp
theorem InLine.tail {s : S81} {r : List S81} (h : InLine (s :: r)) : InLine r := ⟨(List.pairwise_cons.1 h.1).2, fun x hx => h.2 x (List.mem_cons_of_mem _ hx)⟩
theorem sumS_succ {a b : Int} (hab : a ≤ b) : ∀ {ss : List S81}, InLine ss → sumS' a (b + 1) ss = sumS' a b ss + rS ss b
  | [], _ => rfl
  | s :: r, h => by
    rw [rS_cons h]
    unfold sumS'
    rw [partV_succ s hab (h.2 s List.mem_cons_self), sumS_succ hab h.tail]
    omega
theorem sumS_empty {a : Int} : ∀ {ss : List S81}, InLine ss → sumS' a a ss = 0
  | [], _ => rfl
  | s :: r, h => by
    unfold sumS'
    rw [partV_empty s (h.2 s List.mem_cons_self), sumS_empty h.tail, Int.add_zero]
theorem sumS_rate {ss : List S81} (h : InLine ss) (a : Int) : ∀ n : Nat, sumS' a (a + n) ss = sumRate (rS ss) a n
  | 0 => by rw [Int.natCast_zero, Int.add_zero]; exact sumS_empty h
  | n + 1 => by
    rw [show a + ((n + 1 : Nat) : Int) = a + n + 1 by omega, sumS_succ (by omega) h, sumS_rate h a n]
    rfl
theorem sumRate_add (f : Int → Int) (a : Int) (n : Nat) : ∀ m : Nat, sumRate f a (n + m) = sumRate f a n + sumRate f (a + n) m
  | 0 => by simp [sumRate]
  | m + 1 => by
    show sumRate f a (n + m) + f (a + ((n + m : Nat) : Int)) = sumRate f a n + (sumRate f (a + n) m + f (a + n + m))
    rw [sumRate_add f a n m, Int.add_assoc, show a + (n : Int) + (m : Int) = a + ((n + m : Nat) : Int) by omega]
theorem sumRate_nonneg {f : Int → Int} {a : Int} : ∀ n : Nat, (∀ t, 0 ≤ f t) → 0 ≤ sumRate f a n
  | 0, _ => Int.le_refl _
  | n + 1, h => by
    unfold sumRate
    have := sumRate_nonneg (f := f) (a := a) n h
    have := h (a + n)
    omega
def sumBy (g : S61 → Bool) (P : List S61) : Int := ((P.filter g).map (·.f4)).sum
theorem sumBy_nil (g : S61 → Bool) : sumBy g [] = 0 := rfl
theorem sumBy_cons (g : S61 → Bool) (p : S61) (P : List S61) : sumBy g (p :: P) = (if g p then p.f4 else 0) + sumBy g P := by
  unfold sumBy
  rw [List.filter_cons]
  by_cases h : g p = true
  · rw [if_pos h, if_pos h]; simp
  · rw [if_neg h, if_neg h]; simp
theorem sumBy_app (g : S61 → Bool) (P Q : List S61) : sumBy g (P ++ Q) = sumBy g P + sumBy g Q := by
  unfold sumBy
  rw [List.filter_append, List.map_append, List.sum_append]
theorem sumBy_set {g : S61 → Bool} : ∀ {P : List S61} {n : Nat} {p x : S61}, P[n]? = some p → g x = g p → sumBy g (P.set n x) = sumBy g P + if g p then x.f4 - p.f4 else 0
  | [], _, _, _, h, _ => by simp at h
  | a :: r, 0, p, x, h, hg => by
    rw [List.getElem?_cons_zero] at h
    obtain rfl := Option.some.inj h
    rw [List.set_cons_zero, sumBy_cons, sumBy_cons, hg]
    split <;> omega
  | a :: r, n + 1, p, x, h, hg => by
    rw [List.getElem?_cons_succ] at h
    rw [List.set_cons_succ, sumBy_cons, sumBy_cons, sumBy_set h hg]
    omega
theorem sumBy_tell (g : S61 → Bool) (hg : ∀ x y : S61, x.f0 = y.f0 → x.f1 = y.f1 → g x = g y) (P : List S61) (nm : ByteArray) (k frm to_ n : Int) :
    sumBy g (tell P nm k frm to_ n) = sumBy g P + if g ⟨nm, k, 0, 0, 0⟩ then n else 0 := by
  rcases tell_cases P nm k frm to_ n with ⟨m, p, h1, h2, h3, e⟩ | ⟨h1, e⟩
  · obtain ⟨p', e0, e1, e2⟩ := lastIx_some h1
    rw [h2] at e0
    obtain rfl := Option.some.inj e0
    rw [e, sumBy_set (x := upd p to_ n) h2 (hg _ _ rfl rfl), hg p ⟨nm, k, 0, 0, 0⟩ e1 e2]
    show _ + (if _ then p.f4 + n - p.f4 else 0) = _
    rw [show p.f4 + n - p.f4 = n by omega]
  · rw [e, sumBy_app, sumBy_cons, sumBy_nil, Int.add_zero, hg ⟨nm, k, frm, to_, n⟩ ⟨nm, k, 0, 0, 0⟩ rfl rfl]
def byName (nm : ByteArray) (p : S61) : Bool := decide (p.f0 = nm)
def byPass (k : Int) (p : S61) : Bool := decide (p.f1 = k)
structure Distinct (q : List S63) : Prop where
  inj : ∀ i j, i < q.length → j < q.length → (q.getD i z63).f0 = (q.getD j z63).f0 → i = j
structure Inv (q : List S63) (bk : List Int) (pf pt : Int → Int) (u : Int) (s : St) : Prop where
  len : s.left.length = q.length
  dlen : s.done.length = q.length
  nn : ∀ i, i < q.length → 0 ≤ s.left.getD i 0 ∧ s.left.getD i 0 ≤ (q.getD i z63).f1
  dn : ∀ i, i < q.length → (0 ≤ s.done.getD i 0 ↔ s.left.getD i 0 = 0)
  part : ∀ p ∈ s.parts, ∃ i, i < q.length ∧ (q.getD i z63).f0 = p.f0 ∧ (q.getD i z63).f3 ≤ p.f2 ∧ 1 ≤ p.f4 ∧ p.f2 < p.f3 ∧ p.f3 ≤ u ∧ (0 ≤ s.done.getD i 0 → p.f3 ≤ s.done.getD i 0) ∧ p.f1 ∈ bk ∧ pf p.f1 ≤ p.f2 ∧ p.f3 ≤ pt p.f1
  sum : ∀ i, i < q.length → sumBy (byName (q.getD i z63).f0) s.parts = (q.getD i z63).f1 - s.left.getD i 0
  dle : ∀ i, i < q.length → s.done.getD i 0 ≤ 1000000000001
section
variable {q : List S63} {ord : List Nat} {bk : List Int} {pf pt : Int → Int} {act : Int → List (Int × Int)}
theorem Inv.weaken {u u' : Int} {s : St} (h : Inv q bk pf pt u s) (hu : u ≤ u') : Inv q bk pf pt u' s :=
  ⟨h.len, h.dlen, h.nn, h.dn, fun p hp => by
    obtain ⟨i, h1, h2, h3, h4, h5, h6, h7⟩ := h.part p hp
    exact ⟨i, h1, h2, h3, h4, h5, by omega, h7⟩, h.sum, h.dle⟩
theorem avail_iff {left : List Int} {t : Int} {i : Nat} : avail q left t i = true ↔ (q.getD i z63).f3 ≤ t ∧ 0 < left.getD i 0 := by
  unfold avail
  simp
theorem give_inv (hd : Distinct q) {t : Int} (ht : 0 ≤ t ∧ t ≤ 1000000000000) {s : St} (h : Inv q bk pf pt (t + 1) s) {i : Nat} (hi : i < q.length) (ha : avail q s.left t i = true) {k n : Int} (hn : 1 ≤ n ∧ n ≤ s.left.getD i 0) (hk : k ∈ bk) (hf : pf k ≤ t) (hto : t < pt k) :
    Inv q bk pf pt (t + 1) (give q s i k t (t + 1) n) := by
  rw [avail_iff] at ha
  have hil : i < s.left.length := by rw [h.len]; exact hi
  have hidl : i < s.done.length := by rw [h.dlen]; exact hi
  have e1 : (give q s i k t (t + 1) n).left = s.left.set i (s.left.getD i 0 - n) := rfl
  have e2 : (give q s i k t (t + 1) n).parts = tell s.parts (q.getD i z63).f0 k t (t + 1) n := rfl
  have e3 : (give q s i k t (t + 1) n).done = if s.left.getD i 0 - n = 0 then s.done.set i (t + 1) else s.done := rfl
  have hl : ∀ j, (give q s i k t (t + 1) n).left.getD j 0 = if j = i then s.left.getD i 0 - n else s.left.getD j 0 := fun j => by
    rw [e1]
    by_cases e : j = i
    · rw [if_pos e, e, getD_set_self hil]
    · rw [if_neg e, getD_set_ne (Ne.symm e)]
  have hdn : ∀ j, (give q s i k t (t + 1) n).done.getD j 0 = if j = i ∧ s.left.getD i 0 - n = 0 then t + 1 else s.done.getD j 0 := fun j => by
    rw [e3]
    by_cases e : s.left.getD i 0 - n = 0
    · rw [if_pos e]
      by_cases e' : j = i
      · rw [if_pos ⟨e', e⟩, e', getD_set_self hidl]
      · rw [if_neg (fun hc => e' hc.1), getD_set_ne (Ne.symm e')]
    · rw [if_neg e, if_neg (fun hc => e hc.2)]
  have hni := h.nn i hi
  have hneg : ¬ 0 ≤ s.done.getD i 0 := fun hc => by have := (h.dn i hi).1 hc; omega
  refine ⟨by rw [e1, List.length_set]; exact h.len, by rw [e3]; split <;> simp [h.dlen], fun j hj => ?_, fun j hj => ?_, fun p hp => ?_, fun j hj => ?_, fun j hj => ?_⟩
  · rw [hl]
    by_cases e : j = i
    · subst e; rw [if_pos rfl]; omega
    · rw [if_neg e]; exact h.nn j hj
  · rw [hl, hdn]
    by_cases e : j = i
    · subst e
      rw [if_pos rfl]
      by_cases e' : s.left.getD j 0 - n = 0
      · rw [if_pos ⟨rfl, e'⟩]; omega
      · rw [if_neg (fun hc => e' hc.2)]
        exact ⟨fun hc => absurd hc hneg, fun hc => absurd hc e'⟩
    · rw [if_neg (fun hc => e hc.1), if_neg e]
      exact h.dn j hj
  · rw [e2] at hp
    have hfin : ∀ j, j < q.length → (q.getD j z63).f0 = p.f0 → p.f3 ≤ t + 1 → (j ≠ i → 0 ≤ s.done.getD j 0 → p.f3 ≤ s.done.getD j 0) → (0 ≤ (give q s i k t (t + 1) n).done.getD j 0 → p.f3 ≤ (give q s i k t (t + 1) n).done.getD j 0) := by
      intro j hj hnm hle hold
      rw [hdn]
      by_cases e : j = i
      · by_cases e' : s.left.getD i 0 - n = 0
        · rw [if_pos ⟨e, e'⟩]; intro _; exact hle
        · rw [if_neg (fun hc => e' hc.2), e]; intro hc; exact absurd hc hneg
      · rw [if_neg (fun hc => e hc.1)]
        exact hold e
    rcases tell_mem hp with hp | ⟨g0, g1, g3, hp⟩
    · obtain ⟨j, h1, h2, h3, h4, h5, h6, h7, h8⟩ := h.part p hp
      exact ⟨j, h1, h2, h3, h4, h5, h6, hfin j h1 h2 h6 (fun _ => h7), h8⟩
    · refine ⟨i, hi, g0.symm, ?_⟩
      rcases hp with ⟨g2, g4⟩ | ⟨x, hx, x0, x1, x3, g2, g4⟩
      · exact ⟨by omega, by omega, by omega, by omega, hfin i hi g0.symm (by omega) (fun hc => absurd rfl hc), by rw [g1]; exact hk, by rw [g1, g2]; exact hf, by rw [g1, g3]; omega⟩
      · obtain ⟨j, h1, h2, h3, h4, h5, h6, h7, h8, h9, h10⟩ := h.part x hx
        have hji : j = i := hd.inj j i h1 hi (h2.trans x0)
        subst hji
        exact ⟨by omega, by omega, by omega, by omega, hfin j hi g0.symm (by omega) (fun hc => absurd rfl hc), by rw [g1]; exact hk, by rw [g1, g2, ← x1]; exact h9, by rw [g1, g3]; omega⟩
  · rw [e2, hl, sumBy_tell _ (fun x y hx hy => by unfold byName; rw [hx]), h.sum j hj]
    unfold byName
    by_cases e : j = i
    · subst e
      simp only [decide_true, if_true]
      omega
    · rw [if_neg e, if_neg (by simp only [decide_eq_true_eq]; exact fun hc => e (hd.inj i j hi hj hc).symm)]
      omega
  · rw [hdn]
    have := h.dle j hj
    split <;> omega
theorem serve_inv (hd : Distinct q) (ho : Ord q ord) {t : Int} (ht : 0 ≤ t ∧ t ≤ 1000000000000) {k : Int} (hk : k ∈ bk) (hf : pf k ≤ t) (hto : t < pt k) {s : St} (h : Inv q bk pf pt (t + 1) s) (r : Int) : Inv q bk pf pt (t + 1) (serve q ord t k (q.length + 1) s r) := by
  refine serve_ind (q := q) (ord := ord) (t := t) (k := k) (fun s _ r => Inv q bk pf pt (t + 1) s → Inv q bk pf pt (t + 1) r) (fun _ _ _ h => h) (fun _ _ _ _ h => h) (fun s room i r h0 htop hr hs => hr ?_) _ s r (Or.inl (by have := cnt_le s.left; rw [h.len] at this; omega)) h
  have htp := (top_some ho).1 htop
  obtain ⟨hp, _, _⟩ := top_pos htop
  exact give_inv hd ht hs htp.lt htp.av ⟨by omega, by omega⟩ hk hf hto
theorem tick_inv (hd : Distinct q) (ho : Ord q ord) {t : Int} (ht : 0 ≤ t ∧ t ≤ 1000000000000) : ∀ (A : List (Int × Int)) {s : St}, (∀ kr ∈ A, kr.1 ∈ bk ∧ pf kr.1 ≤ t ∧ t < pt kr.1) → Inv q bk pf pt (t + 1) s → Inv q bk pf pt (t + 1) (tickA q ord t A s)
  | [], _, _, h => h
  | kr :: A, s, hA, h => by
    have h0 := hA kr List.mem_cons_self
    exact tick_inv hd ho ht A (fun x hx => hA x (List.mem_cons_of_mem _ hx)) (serve_inv hd ho ht h0.1 h0.2.1 h0.2.2 h kr.2)
theorem sim_inv (hd : Distinct q) (ho : Ord q ord) (hact : ∀ t, ∀ kr ∈ act t, kr.1 ∈ bk ∧ pf kr.1 ≤ t ∧ t < pt kr.1) : ∀ (n : Nat) (t : Int) {s : St}, 0 ≤ t → t + n ≤ 1000000000000 → Inv q bk pf pt t s → Inv q bk pf pt (t + n) (sim q ord act t n s)
  | 0, t, s, _, _, h => by simpa [sim] using h
  | n + 1, t, s, h0, h1, h => by
    have := sim_inv hd ho hact n (t + 1) (by omega) (by omega) (tick_inv hd ho (t := t) ⟨h0, by omega⟩ (act t) (hact t) (h.weaken (by omega)))
    rw [show t + ((n + 1 : Nat) : Int) = t + 1 + n by omega]
    exact this
def start (q : List S63) : St := ⟨q.map (·.f1), q.map (fun x => if x.f1 = 0 then x.f3 else -1), []⟩
theorem getD_map {α : Type} {l : List S63} {f : S63 → Int} {i : Nat} (h : i < l.length) : (l.map f).getD i 0 = f (l.getD i z63) := by
  rw [getD_at (by simpa using h), getD_at h, List.getElem_map]
theorem start_inv (hq : ∀ x ∈ q, 0 ≤ x.f1 ∧ 0 ≤ x.f3 ∧ x.f3 ≤ 1000000000000) (u : Int) : Inv q bk pf pt u (start q) := by
  have hm : ∀ i, i < q.length → q.getD i z63 ∈ q := fun i hi => by rw [getD_at hi]; exact List.getElem_mem hi
  refine ⟨by simp [start], by simp [start], fun i hi => ?_, fun i hi => ?_, fun p hp => absurd hp (by simp [start]), fun i hi => ?_, fun i hi => ?_⟩
  · show 0 ≤ (q.map (·.f1)).getD i 0 ∧ (q.map (·.f1)).getD i 0 ≤ _
    rw [getD_map (α := Int) hi]
    exact ⟨(hq _ (hm i hi)).1, Int.le_refl _⟩
  · show 0 ≤ (q.map (fun x => if x.f1 = 0 then x.f3 else -1)).getD i 0 ↔ (q.map (·.f1)).getD i 0 = 0
    rw [getD_map (α := Int) hi, getD_map (α := Int) hi]
    have := (hq _ (hm i hi)).2
    split <;> simp_all <;> omega
  · show sumBy _ [] = _ - (q.map (·.f1)).getD i 0
    rw [getD_map (α := Int) hi, sumBy_nil]
    omega
  · show (q.map (fun x => if x.f1 = 0 then x.f3 else -1)).getD i 0 ≤ _
    rw [getD_map (α := Int) hi]
    have := (hq _ (hm i hi)).2
    split <;> omega
theorem sumBy_pass (k : Int) (P : List S61) (nm : ByteArray) (k' frm to_ n : Int) : sumBy (byPass k) (tell P nm k' frm to_ n) = sumBy (byPass k) P + if k' = k then n else 0 := by
  rw [sumBy_tell _ (fun x y _ hy => by unfold byPass; rw [hy])]
  unfold byPass
  simp
theorem serve_carry {t k k' : Int} {s : St} {r : Int} (hl : s.left.length = q.length) (hr : 0 ≤ r) : sumBy (byPass k) (serve q ord t k' (q.length + 1) s r).parts ≤ sumBy (byPass k) s.parts + if k' = k then r else 0 := by
  refine serve_ind (q := q) (ord := ord) (t := t) (k := k') (fun s room r => 0 ≤ room → sumBy (byPass k) r.parts ≤ sumBy (byPass k) s.parts + if k' = k then room else 0) (fun s room _ _ => by split <;> omega) (fun s room _ _ _ => by split <;> omega) (fun s room i r h0 htop hr hr0 => ?_) _ s r (Or.inl (by have := cnt_le s.left; omega)) hr
  obtain ⟨hp, _, _⟩ := top_pos htop
  have := hr (by omega)
  have e : sumBy (byPass k) (give q s i k' t (t + 1) (min room (s.left.getD i 0))).parts = sumBy (byPass k) s.parts + if k' = k then min room (s.left.getD i 0) else 0 := sumBy_pass k s.parts _ k' t (t + 1) _
  rw [e] at this
  split at this <;> rename_i hc
  · rw [if_pos hc]; omega
  · rw [if_neg hc]; omega
theorem serve_len {t k : Int} {F : Nat} {s : St} {r : Int} : (serve q ord t k F s r).left.length = s.left.length := by
  induction F generalizing s r with
  | zero => rfl
  | succ F ih =>
    unfold serve
    split
    · rfl
    · split
      · rfl
      · rw [ih]; simp [give]
def rateIn (A : List (Int × Int)) (k : Int) : Int := (A.map fun kr => if kr.1 = k then kr.2 else 0).sum
theorem tick_carry {t k : Int} : ∀ (A : List (Int × Int)) {s : St}, (∀ kr ∈ A, 0 ≤ kr.2) → s.left.length = q.length → sumBy (byPass k) (tickA q ord t A s).parts ≤ sumBy (byPass k) s.parts + rateIn A k
  | [], s, _, _ => by simp [tickA, rateIn]
  | kr :: A, s, hA, hl => by
    have h1 := serve_carry (ord := ord) (t := t) (k := k) (k' := kr.1) (s := s) (r := kr.2) hl (hA kr List.mem_cons_self)
    have h2 := tick_carry (t := t) (k := k) A (s := serve q ord t kr.1 (q.length + 1) s kr.2) (fun x hx => hA x (List.mem_cons_of_mem _ hx)) (by rw [serve_len]; exact hl)
    show sumBy (byPass k) (tickA q ord t A (serve q ord t kr.1 (q.length + 1) s kr.2)).parts ≤ _
    simp only [rateIn, List.map_cons, List.sum_cons] at h2 ⊢
    omega
theorem tick_len {t : Int} : ∀ (A : List (Int × Int)) {s : St}, (tickA q ord t A s).left.length = s.left.length
  | [], _ => rfl
  | kr :: A, s => by
    show (tickA q ord t A (serve q ord t kr.1 (q.length + 1) s kr.2)).left.length = _
    rw [tick_len A, serve_len]
theorem sim_carry {k : Int} {f : Int → Int} (hA : ∀ t, ∀ kr ∈ act t, 0 ≤ kr.2) (hf : ∀ t, rateIn (act t) k ≤ f t) : ∀ (n : Nat) (t : Int) {s : St}, s.left.length = q.length → sumBy (byPass k) (sim q ord act t n s).parts ≤ sumBy (byPass k) s.parts + sumRate f t n
  | 0, t, s, _ => by simp [sim, sumRate]
  | n + 1, t, s, hl => by
    rw [sim_snoc]
    have hl' : (sim q ord act t n s).left.length = q.length := by
      have : ∀ (n : Nat) (t : Int) (s : St), (sim q ord act t n s).left.length = s.left.length := by
        intro n
        induction n with
        | zero => intro t s; rfl
        | succ n ih => intro t s; show (sim q ord act (t + 1) n (tickA q ord t (act t) s)).left.length = _; rw [ih, tick_len]
      rw [this]; exact hl
    have h1 := tick_carry (ord := ord) (t := t + n) (k := k) (act (t + n)) (s := sim q ord act t n s) (hA _) hl'
    have h2 := sim_carry (k := k) hA hf n t hl
    have h3 := hf (t + n)
    unfold sumRate
    omega
theorem rateIn_nodup {k : Int} : ∀ (A : List (Int × Int)), (A.map (·.1)).Nodup → ∀ r, (k, r) ∈ A → rateIn A k = r
  | [], _, r, h => by simp at h
  | kr :: A, hn, r, h => by
    rw [List.map_cons, List.nodup_cons] at hn
    have hz : ∀ B : List (Int × Int), (∀ x ∈ B, x.1 ≠ k) → rateIn B k = 0 := by
      intro B
      induction B with
      | nil => intro _; rfl
      | cons b B ih =>
        intro hB
        have h0 := ih (fun x hx => hB x (List.mem_cons_of_mem _ hx))
        simp only [rateIn, List.map_cons, List.sum_cons] at h0 ⊢
        rw [if_neg (hB b List.mem_cons_self), h0]
        rfl
    rcases List.mem_cons.1 h with e | h'
    · subst e
      have := hz A (fun x hx hc => hn.1 (List.mem_map.2 ⟨x, hx, hc⟩))
      simp only [rateIn, List.map_cons, List.sum_cons] at this ⊢
      simp only [if_true]
      rw [this, Int.add_zero]
    · have hne : kr.1 ≠ k := fun hc => hn.1 (List.mem_map.2 ⟨(k, r), h', hc.symm⟩)
      have := rateIn_nodup A hn.2 r h'
      simp only [rateIn, List.map_cons, List.sum_cons] at this ⊢
      rw [if_neg hne, this, Int.zero_add]
theorem rateIn_none {k : Int} : ∀ (A : List (Int × Int)), (∀ r, (k, r) ∉ A) → rateIn A k = 0
  | [], _ => rfl
  | (k', r') :: A, h => by
    have h0 := rateIn_none A (fun r hr => h r (List.mem_cons_of_mem _ hr))
    have hne : k' ≠ k := fun hc => h r' (by rw [hc]; exact List.mem_cons_self)
    simp only [rateIn, List.map_cons, List.sum_cons] at h0 ⊢
    rw [if_neg hne, h0]
    rfl
theorem rateIn_act {ss : Int → List S81} (hb : bk.Pairwise (· < ·)) (hp : ∀ k t, 0 ≤ rS (ss k) t) (t k : Int) : rateIn (actOf bk ss t) k ≤ rS (ss k) t := by
  by_cases h : ∃ r, (k, r) ∈ actOf bk ss t
  · obtain ⟨r, hr⟩ := h
    rw [rateIn_nodup _ (actOf_nodup hb) r hr, (actOf_mem hr).2]
    exact Int.le_refl _
  · rw [rateIn_none _ (fun r hr => h ⟨r, hr⟩)]
    exact hp k t
end
end Snd
end Go.Proofs.Ytbngmblgkkdhpaa.Q
