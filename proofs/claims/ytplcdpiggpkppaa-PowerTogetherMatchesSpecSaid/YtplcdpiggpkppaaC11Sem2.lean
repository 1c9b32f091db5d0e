/- What changes the level, and the pieces of time between its changes: plain numbers and lists, no program. -/
-- Made by wip/tools/claimp.py of this session's texts; Lean checks it.
import Derived.Test.YtplcdpiggpkppaaC11Sem
set_option linter.unusedVariables false
set_option linter.unusedSimpArgs false
namespace Go.Proofs.Ytplcdpiggpkppaa.Q
open Go.RowKit Go.Proofs.YtplcdpiggpkppaaW.PrintWords Go.Proofs.YtplcdpiggpkppaaW.PrintLast Go.Proofs.YtplcdpiggpkppaaW.PrintMore
/-- What is added at moments up to t: (moment, number) each. -/
def cum (t : Int) : List (Int × Int) → Int
  | [] => 0
  | e :: A => (if e.1 ≤ t then e.2 else 0) + cum t A
/-- What is added just at t. -/
def delta (t : Int) : List (Int × Int) → Int
  | [] => 0
  | e :: A => (if e.1 = t then e.2 else 0) + delta t A
/-- The times in which something changes by so much: (from, to, number). -/
def chg (t : Int) : List (Int × Int × Int) → Int
  | [] => 0
  | e :: E => (if e.1 ≤ t ∧ t < e.2.1 then e.2.2 else 0) + chg t E
def addsOf : List (Int × Int × Int) → List (Int × Int)
  | [] => []
  | e :: E => (e.1, e.2.2) :: (e.2.1, -e.2.2) :: addsOf E
theorem delta_append (t : Int) : ∀ A B : List (Int × Int), delta t (A ++ B) = delta t A + delta t B
  | [], _ => by simp [delta]
  | e :: A, B => by simp only [List.cons_append, delta, delta_append t A B]; omega
theorem chg_append (t : Int) : ∀ A B : List (Int × Int × Int), chg t (A ++ B) = chg t A + chg t B
  | [], _ => by simp [chg]
  | e :: A, B => by simp only [List.cons_append, chg, chg_append t A B]; omega
theorem addsOf_append : ∀ A B : List (Int × Int × Int), addsOf (A ++ B) = addsOf A ++ addsOf B
  | [], _ => rfl
  | e :: A, B => by simp only [List.cons_append, addsOf, addsOf_append A B]
theorem cum_addsOf (t : Int) : ∀ E : List (Int × Int × Int), (∀ e ∈ E, e.1 ≤ e.2.1) → cum t (addsOf E) = chg t E
  | [], _ => rfl
  | e :: E, h => by
    have he := h e List.mem_cons_self
    simp only [addsOf, cum, chg, cum_addsOf t E (fun x hx => h x (List.mem_cons_of_mem _ hx))]
    repeat' split
    all_goals omega
/-- Nothing is added behind a up to b: the sum is the same. -/
theorem cum_same {a b : Int} (hab : a ≤ b) : ∀ A : List (Int × Int), (∀ e ∈ A, e.1 ≤ a ∨ b < e.1) → cum b A = cum a A
  | [], _ => rfl
  | e :: A, h => by
    have he := h e List.mem_cons_self
    simp only [cum, cum_same hab A (fun x hx => h x (List.mem_cons_of_mem _ hx))]
    repeat' split
    all_goals omega
/-- From one moment to the next one at which something is added. -/
theorem cum_next {a b : Int} (hab : a < b) : ∀ A : List (Int × Int), (∀ e ∈ A, e.1 ≤ a ∨ b ≤ e.1) → cum b A = cum a A + delta b A
  | [], _ => rfl
  | e :: A, h => by
    have he := h e List.mem_cons_self
    simp only [cum, delta, cum_next hab A (fun x hx => h x (List.mem_cons_of_mem _ hx))]
    repeat' split
    all_goals omega
/-- Moments that rise. -/
abbrev Up (ts : List Int) : Prop := ts.Pairwise (· < ·)
/-- d is one number from each of the moments up to the next one. -/
def Flat (d : Int → Int) (ts : List Int) : Prop := ∀ a x, a ∈ ts → a ≤ x → (∀ t ∈ ts, t ≤ a ∨ x < t) → d x = d a
theorem Flat.cons {d : Int → Int} {t : Int} {ts : List Int} (h : Flat d (t :: ts)) (hu : Up (t :: ts)) : Flat d ts := by
  intro a x ha hax hx
  refine h a x (List.mem_cons_of_mem _ ha) hax fun b hb => ?_
  rcases List.mem_cons.1 hb with rfl | hb
  · have := (List.pairwise_cons.1 hu).1 a ha
    omega
  · exact hx b hb
theorem Segs.snoc {d : Int → Int} {f t c : Int} (hft : f < t) (hd : ∀ x, f ≤ x → x < t → d x = c) : ∀ {L : List (Int × Int × Int)} {a : Int}, Segs d a f L → Segs d a t (L ++ [(f, t, c)])
  | [], a, h => by
    have h' : a = f := h
    subst h'
    exact ⟨rfl, hft, Int.le_refl _, hd, rfl⟩
  | p :: L, a, h => by
    obtain ⟨h1, h2, h3, h4, h5⟩ := h
    exact ⟨h1, h2, by omega, h4, Segs.snoc hft hd h5⟩
/-- Two lists that rise and have the same members are one. -/
theorem up_ext : ∀ {l m : List Int}, Up l → Up m → (∀ x, x ∈ l ↔ x ∈ m) → l = m
  | [], [], _, _, _ => rfl
  | [], b :: m, _, _, h => absurd ((h b).2 List.mem_cons_self) (by simp)
  | a :: l, [], _, _, h => absurd ((h a).1 List.mem_cons_self) (by simp)
  | a :: l, b :: m, hl, hm, h => by
    have al := (List.pairwise_cons.1 hl).1
    have bm := (List.pairwise_cons.1 hm).1
    have e : a = b := by
      have q1 := (h a).1 List.mem_cons_self
      have q2 := (h b).2 List.mem_cons_self
      rcases List.mem_cons.1 q1 with q1 | q1
      · exact q1
      · rcases List.mem_cons.1 q2 with q2 | q2
        · exact q2.symm
        · have := bm a q1; have := al b q2; omega
    subst e
    congr 1
    refine up_ext (List.pairwise_cons.1 hl).2 (List.pairwise_cons.1 hm).2 fun x => ⟨fun q => ?_, fun q => ?_⟩
    · rcases List.mem_cons.1 ((h x).1 (List.mem_cons_of_mem _ q)) with r | r
      · have := al x q; omega
      · exact r
    · rcases List.mem_cons.1 ((h x).2 (List.mem_cons_of_mem _ q)) with r | r
      · have := bm x q; omega
      · exact r
end Go.Proofs.Ytplcdpiggpkppaa.Q
