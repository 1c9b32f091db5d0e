/- What changes the level, and the pieces of time between its changes: plain numbers and lists, no program. -/
-- Made by wip/tools/claimp.py of this session's texts; Lean checks it.
import Derived.Test.YtplcdpiggpkppaaC13Sem
set_option linter.unusedVariables false
set_option linter.unusedSimpArgs false
namespace Go.Proofs.Ytplcdpiggpkppaa.Q
open Go.RowKit Go.Proofs.YtplcdpiggpkppaaW.PrintWords Go.Proofs.YtplcdpiggpkppaaW.PrintLast Go.Proofs.YtplcdpiggpkppaaW.PrintMore
/-- What is added at moments up to t: (moment, number) each. -/
def cum (t : Int) : List (Int × Int) → Int
  | [] => 0
  | e :: A => (if e.1 ≤ t then e.2 else 0) + cum t A
/-- What is added just at t. -/
def delta (t : Int) : List (Int × Int) → Int
  | [] => 0
  | e :: A => (if e.1 = t then e.2 else 0) + delta t A
/-- The times in which something changes by so much: (from, to, number). -/
def chg (t : Int) : List (Int × Int × Int) → Int
  | [] => 0
  | e :: E => (if e.1 ≤ t ∧ t < e.2.1 then e.2.2 else 0) + chg t E
def addsOf : List (Int × Int × Int) → List (Int × Int)
  | [] => []
  | e :: E => (e.1, e.2.2) :: (e.2.1, -e.2.2) :: addsOf E
theorem delta_append (t : Int) : ∀ A B : List (Int × Int), delta t (A ++ B) = delta t A + delta t B
  | [], _ => by simp [delta]
  | e :: A, B => by simp only [List.cons_append, delta, delta_append t A B]; omega
theorem chg_append (t : Int) : ∀ A B : List (Int × Int × Int), chg t (A ++ B) = chg t A + chg t B
  | [], _ => by simp [chg]
  | e :: A, B => by simp only [List.cons_append, chg, chg_append t A B]; omega
theorem addsOf_append : ∀ A B : List (Int × Int × Int), addsOf (A ++ B) = addsOf A ++ addsOf B
  | [], _ => rfl
  | e :: A, B => by simp only [List.cons_append, addsOf, addsOf_append A B]
theorem cum_addsOf (t : Int) : ∀ E : List (Int × Int × Int), (∀ e ∈ E, e.1 ≤ e.2.1) → cum t (addsOf E) = chg t E
  | [], _ => rfl
  | e :: E, h => by
    have he := h e List.mem_cons_self
    simp only [addsOf, cum, chg, cum_addsOf t E (fun x hx => h x (List.mem_cons_of_mem _ hx))]
    repeat' split
    all_goals omega
/-- Nothing is added behind a up to b: the sum is the same. -/
theorem cum_same {a b : Int} (hab : a ≤ b) : ∀ A : List (Int × Int), (∀ e ∈ A, e.1 ≤ a ∨ b < e.1) → cum b A = cum a A
  | [], _ => rfl
  | e :: A, h => by
    have he := h e List.mem_cons_self
    simp only [cum, cum_same hab A (fun x hx => h x (List.mem_cons_of_mem _ hx))]
    repeat' split
    all_goals omega
/-- From one moment to the next one at which something is added. -/
theorem cum_next {a b : Int} (hab : a < b) : ∀ A : List (Int × Int), (∀ e ∈ A, e.1 ≤ a ∨ b ≤ e.1) → cum b A = cum a A + delta b A
  | [], _ => rfl
  | e :: A, h => by
    have he := h e List.mem_cons_self
    simp only [cum, delta, cum_next hab A (fun x hx => h x (List.mem_cons_of_mem _ hx))]
    repeat' split
    all_goals omega
theorem cum_first {a : Int} : ∀ A : List (Int × Int), (∀ e ∈ A, a ≤ e.1) → cum a A = delta a A
  | [], _ => rfl
  | e :: A, h => by
    have he := h e List.mem_cons_self
    simp only [cum, delta, cum_first A (fun x hx => h x (List.mem_cons_of_mem _ hx))]
    repeat' split
    all_goals omega
/-- Moments that rise. -/
abbrev Up (ts : List Int) : Prop := ts.Pairwise (· < ·)
/-- The pieces between moments, each with its change: 'legs'. -/
def legsV (d : Int → Int) (u : Int) : List Int → List (Int × Int × Int)
  | [] => []
  | [t] => if u ≤ t then [] else [(t, u, d t)]
  | t :: t' :: ts => if u ≤ t then [] else (t, (if u < t' then u else t'), d t) :: legsV d u (t' :: ts)
/-- d is one number from each of the moments up to the next one. -/
def Flat (d : Int → Int) (ts : List Int) : Prop := ∀ a x, a ∈ ts → a ≤ x → (∀ t ∈ ts, t ≤ a ∨ x < t) → d x = d a
theorem Flat.cons {d : Int → Int} {t : Int} {ts : List Int} (h : Flat d (t :: ts)) (hu : Up (t :: ts)) : Flat d ts := by
  intro a x ha hax hx
  refine h a x (List.mem_cons_of_mem _ ha) hax fun b hb => ?_
  rcases List.mem_cons.1 hb with rfl | hb
  · have := (List.pairwise_cons.1 hu).1 a ha
    omega
  · exact hx b hb
theorem legsV_segs {d : Int → Int} {u : Int} : ∀ {ts : List Int} {t : Int}, Up (t :: ts) → Flat d (t :: ts) → t ≤ u → Segs d t u (legsV d u (t :: ts))
  | [], t, hu, hf, htu => by
    unfold legsV
    split
    · show t = u; omega
    · refine ⟨rfl, by show t < u; omega, Int.le_refl _, fun x h1 h2 => ?_, rfl⟩
      exact hf t x List.mem_cons_self h1 (fun b hb => by simp only [List.mem_singleton] at hb; omega)
  | t' :: ts, t, hu, hf, htu => by
    have ht := (List.pairwise_cons.1 hu).1
    have hu' := (List.pairwise_cons.1 hu).2
    have htt := ht t' List.mem_cons_self
    have hflat : ∀ x, t ≤ x → x < t' → d x = d t := fun x h1 h2 => hf t x List.mem_cons_self h1 (fun b hb => by
      rcases List.mem_cons.1 hb with rfl | hb
      · omega
      · rcases List.mem_cons.1 hb with rfl | hb
        · omega
        · have := (List.pairwise_cons.1 hu').1 b hb; omega)
    unfold legsV
    split
    · show t = u; omega
    · by_cases h : u < t'
      · rw [if_pos h]
        refine ⟨rfl, by show t < u; omega, Int.le_refl _, fun x h1 h2 => hflat x h1 (by have : x < u := h2; omega), ?_⟩
        have e : legsV d u (t' :: ts) = [] := by
          cases ts <;> (unfold legsV; rw [if_pos (by omega)])
        rw [e]
        rfl
      · rw [if_neg h]
        exact ⟨rfl, htt, by show t' ≤ u; omega, hflat, legsV_segs hu' (hf.cons hu) (by show t' ≤ u; omega)⟩
/-- The pieces, each with another change than the one before it: 'flow'. Behind moments: now: the change; out: the pieces so far, the last of them up to u. -/
def flowGo (A : List (Int × Int)) (u : Int) : List Int → Int → List (Int × Int × Int) → List (Int × Int × Int)
  | [], _, out => out
  | t :: ts, now, out => if u ≤ t then out else if t = 0 ∨ now + delta t A ≠ now then flowGo A u ts (now + delta t A) (out.dropLast ++ (out.getLast?.toList.map fun p => (p.1, t, p.2.2)) ++ [(t, u, now + delta t A)]) else flowGo A u ts (now + delta t A) out
/-- A piece that begins where the change turns. -/
def Turns (d : Int → Int) (p : Int × Int × Int) : Prop := p.1 = 0 ∨ d p.1 ≠ d (p.1 - 1)
theorem Segs.snoc {d : Int → Int} {f t c : Int} (hft : f < t) (hd : ∀ x, f ≤ x → x < t → d x = c) : ∀ {L : List (Int × Int × Int)} {a : Int}, Segs d a f L → Segs d a t (L ++ [(f, t, c)])
  | [], a, h => by
    have h' : a = f := h
    subst h'
    exact ⟨rfl, hft, Int.le_refl _, hd, rfl⟩
  | p :: L, a, h => by
    obtain ⟨h1, h2, h3, h4, h5⟩ := h
    exact ⟨h1, h2, by omega, h4, Segs.snoc hft hd h5⟩
theorem flowGo_segs {d : Int → Int} {A : List (Int × Int)} {u : Int} (hd : ∀ x, 0 ≤ x → d x = cum x A) :
    ∀ (ts : List Int) (a f : Int) (pre : List (Int × Int × Int)), Up (a :: ts) → 0 ≤ f → f ≤ a → a < u → (∀ e ∈ A, e.1 ≤ a ∨ e.1 ∈ ts) → Segs d 0 f pre → (∀ p ∈ pre, Turns d p) → (f = 0 ∨ d f ≠ d (f - 1)) →
      (∀ x, f ≤ x → x ≤ a → d x = cum a A) → Segs d 0 u (flowGo A u ts (cum a A) (pre ++ [(f, u, cum a A)])) ∧ ∀ p ∈ flowGo A u ts (cum a A) (pre ++ [(f, u, cum a A)]), Turns d p
  | [], a, f, pre, hu, h0, hfa, hau, hA, hs, hp, hf, hx => by
    unfold flowGo
    refine ⟨Segs.snoc (by omega) (fun x h1 h2 => ?_) hs, ?_⟩
    · by_cases hxa : x ≤ a
      · exact hx x h1 hxa
      · rw [hd x (by omega), cum_same (a := a) (b := x) (by omega) A (fun e he => (hA e he).elim .inl (fun q => by cases q))]
    · intro p hpm
      rcases List.mem_append.1 hpm with q | q
      · exact hp p q
      · simp only [List.mem_singleton] at q
        subst q
        exact hf
  | t :: ts, a, f, pre, hu, h0, hfa, hau, hA, hs, hp, hf, hx => by
    have hat := (List.pairwise_cons.1 hu).1 t List.mem_cons_self
    have hu' := (List.pairwise_cons.1 hu).2
    have hlate : ∀ e ∈ A, e.1 ≤ a ∨ t ≤ e.1 := fun e he => by
      rcases hA e he with q | q
      · exact .inl q
      · rcases List.mem_cons.1 q with q | q
        · omega
        · have := (List.pairwise_cons.1 hu').1 _ q; omega
    have hmid : ∀ x, f ≤ x → x < t → d x = cum a A := fun x h1 h2 => by
      by_cases hxa : x ≤ a
      · exact hx x h1 hxa
      · rw [hd x (by omega), cum_same (a := a) (b := x) (by omega) A (fun e he => by have := hlate e he; omega)]
    have hA' : ∀ e ∈ A, e.1 ≤ t ∨ e.1 ∈ ts := fun e he => by
      rcases hA e he with q | q
      · exact .inl (by omega)
      · rcases List.mem_cons.1 q with q | q
        · exact .inl (by omega)
        · exact .inr q
    have hnow : cum a A + delta t A = cum t A := (cum_next hat A hlate).symm
    unfold flowGo
    split
    · rename_i hut
      refine ⟨Segs.snoc (by omega) (fun x h1 h2 => hmid x h1 (by omega)) hs, ?_⟩
      intro p hpm
      rcases List.mem_append.1 hpm with q | q
      · exact hp p q
      · simp only [List.mem_singleton] at q
        subst q
        exact hf
    · rename_i hut
      rw [hnow]
      have hdt : d t = cum t A := hd t (by omega)
      have hdt1 : d (t - 1) = cum a A := hmid (t - 1) (by omega) (by omega)
      split
      · rename_i hne
        have hne' : cum t A ≠ cum a A := by
          rcases hne with q | q
          · omega
          · exact q
        rw [List.dropLast_concat, List.getLast?_concat]
        simp only [Option.toList_some, List.map_cons, List.map_nil]
        refine flowGo_segs hd ts t t (pre ++ [(f, t, cum a A)]) hu' (by omega) (Int.le_refl _) (by omega) hA' (Segs.snoc (by omega) hmid hs) ?_ (.inr (by rw [hdt, hdt1]; exact hne')) (fun x h1 h2 => by rw [show x = t by omega]; exact hdt)
        intro p hpm
        rcases List.mem_append.1 hpm with q | q
        · exact hp p q
        · simp only [List.mem_singleton] at q
          subst q
          exact hf
      · rename_i heq
        have e : cum t A = cum a A := by
          apply Classical.byContradiction
          intro q
          exact heq (.inr q)
        rw [← e]
        refine flowGo_segs hd ts t f pre hu' h0 (by omega) (by omega) hA' hs hp hf (fun x h1 h2 => ?_)
        by_cases hxt : x < t
        · rw [e]; exact hmid x h1 hxt
        · rw [show x = t by omega]; exact hdt
theorem flowGo_all {d : Int → Int} {A : List (Int × Int)} {u : Int} (hu0 : 0 ≤ u) (hd : ∀ x, 0 ≤ x → d x = cum x A) {ts : List Int} (hu : Up ts) (hA : ∀ e ∈ A, 0 ≤ e.1 ∧ e.1 ∈ ts) (ht : ∀ t ∈ ts, 0 ≤ t) (h0 : (0 : Int) ∈ ts) :
    Segs d 0 u (flowGo A u ts 0 []) ∧ ∀ p ∈ flowGo A u ts 0 [], Turns d p := by
  cases ts with
  | nil => cases h0
  | cons t ts =>
    have e : t = 0 := by
      rcases List.mem_cons.1 h0 with q | q
      · exact q.symm
      · have := (List.pairwise_cons.1 hu).1 _ q
        have := ht t List.mem_cons_self
        omega
    subst e
    unfold flowGo
    split
    · rename_i hut
      exact ⟨show (0 : Int) = u by omega, fun p hp => by cases hp⟩
    · rename_i hut
      rw [if_pos (.inl rfl)]
      have hc : 0 + delta 0 A = cum 0 A := by rw [cum_first A (fun e he => (hA e he).1)]; omega
      rw [hc]
      exact flowGo_segs hd ts 0 0 [] hu (Int.le_refl _) (Int.le_refl _) (by omega) (fun e he => by
        rcases List.mem_cons.1 (hA e he).2 with q | q
        · exact .inl (by omega)
        · exact .inr q) rfl (fun p hp => by cases hp) (.inl rfl) (fun x h1 h2 => by rw [show x = 0 by omega]; exact hd 0 (Int.le_refl _))
/-- Two lists that rise and have the same members are one. -/
theorem up_ext : ∀ {l m : List Int}, Up l → Up m → (∀ x, x ∈ l ↔ x ∈ m) → l = m
  | [], [], _, _, _ => rfl
  | [], b :: m, _, _, h => absurd ((h b).2 List.mem_cons_self) (by simp)
  | a :: l, [], _, _, h => absurd ((h a).1 List.mem_cons_self) (by simp)
  | a :: l, b :: m, hl, hm, h => by
    have al := (List.pairwise_cons.1 hl).1
    have bm := (List.pairwise_cons.1 hm).1
    have e : a = b := by
      have q1 := (h a).1 List.mem_cons_self
      have q2 := (h b).2 List.mem_cons_self
      rcases List.mem_cons.1 q1 with q1 | q1
      · exact q1
      · rcases List.mem_cons.1 q2 with q2 | q2
        · exact q2.symm
        · have := bm a q1; have := al b q2; omega
    subst e
    congr 1
    refine up_ext (List.pairwise_cons.1 hl).2 (List.pairwise_cons.1 hm).2 fun x => ⟨fun q => ?_, fun q => ?_⟩
    · rcases List.mem_cons.1 ((h x).1 (List.mem_cons_of_mem _ q)) with r | r
      · have := al x q; omega
      · exact r
    · rcases List.mem_cons.1 ((h x).2 (List.mem_cons_of_mem _ q)) with r | r
      · have := bm x q; omega
      · exact r
end Go.Proofs.Ytplcdpiggpkppaa.Q
