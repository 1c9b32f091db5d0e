/- Sending, in plain Lean: rates, what a pass carries, what stays true. -/
-- Made by wip/tools/claimp.py of this session's texts; Lean checks it.
import Derived.Test.YtbngmblgkkdhpaaC8SndA
set_option linter.unusedVariables false
set_option linter.unusedSimpArgs false
namespace Go.Proofs.Ytbngmblgkkdhpaa.Q
open Go.RowKit Go.Proofs.YtbngmblgkkdhpaaW.PrintWords Go.Proofs.YtbngmblgkkdhpaaW.PrintLast Go.Proofs.YtbngmblgkkdhpaaW.PrintMore Go.Proofs.Ytbngmblgkkdhpaa.Base
namespace Snd
def rS (ss : List S81) (t : Int) : Int := match ss.find? (fun s => decide (s.f0 ≤ t) && decide (t < s.f1)) with
  | some s => s.f2
  | none => 0
def popTo (t : Int) (ss : List S81) : List S81 := ss.dropWhile (fun s => decide (s.f1 ≤ t))
def rateH (ss : List S81) (t : Int) : Int := match ss with
  | [] => 0
  | s :: _ => if s.f0 ≤ t then s.f2 else 0
def InLine (ss : List S81) : Prop := ss.Pairwise (fun s u => s.f1 ≤ u.f0) ∧ ∀ s ∈ ss, s.f0 < s.f1
theorem rS_none {ss : List S81} {t : Int} (h : ∀ s ∈ ss, t < s.f0) : rS ss t = 0 := by
  unfold rS
  rw [List.find?_eq_none.2 (fun s hs => by have := h s hs; simp; omega)]
theorem rate_pop {ss : List S81} {t : Int} (h : InLine ss) : rateH (popTo t ss) t = rS ss t := by
  induction ss with
  | nil => rfl
  | cons s r ih =>
    have hr : InLine r := ⟨(List.pairwise_cons.1 h.1).2, fun x hx => h.2 x (List.mem_cons_of_mem _ hx)⟩
    have hs := h.2 s List.mem_cons_self
    unfold popTo
    rw [List.dropWhile_cons]
    by_cases h1 : s.f1 ≤ t
    · rw [if_pos (by simpa using h1)]
      have e : rS (s :: r) t = rS r t := by
        unfold rS
        rw [List.find?_cons]
        have : (decide (s.f0 ≤ t) && decide (t < s.f1)) = false := by simp; omega
        rw [this]
      rw [e]
      exact ih hr
    · rw [if_neg (by simpa using h1)]
      show (if s.f0 ≤ t then s.f2 else 0) = _
      by_cases h0 : s.f0 ≤ t
      · rw [if_pos h0]
        unfold rS
        rw [List.find?_cons]
        have : (decide (s.f0 ≤ t) && decide (t < s.f1)) = true := by simp; omega
        rw [this]
      · rw [if_neg h0, rS_none]
        intro x hx
        rcases List.mem_cons.1 hx with rfl | hx
        · omega
        · have := (List.pairwise_cons.1 h.1).1 x hx
          omega
theorem pop_pop {t t' : Int} (h : t ≤ t') : ∀ ss : List S81, popTo t' (popTo t ss) = popTo t' ss
  | [] => rfl
  | s :: r => by
    unfold popTo
    rw [List.dropWhile_cons (xs := r)]
    by_cases h1 : s.f1 ≤ t
    · rw [if_pos (by simpa using h1), List.dropWhile_cons, if_pos (by simp; omega)]
      exact pop_pop h r
    · rw [if_neg (by simpa using h1)]
theorem rS_same {ss : List S81} {a t : Int} (h : ∀ s ∈ ss, (s.f0 ≤ t ↔ s.f0 ≤ a) ∧ (s.f1 ≤ t ↔ s.f1 ≤ a)) : rS ss t = rS ss a := by
  unfold rS
  have : ∀ l : List S81, (∀ s ∈ l, (s.f0 ≤ t ↔ s.f0 ≤ a) ∧ (s.f1 ≤ t ↔ s.f1 ≤ a)) → l.find? (fun s => decide (s.f0 ≤ t) && decide (t < s.f1)) = l.find? (fun s => decide (s.f0 ≤ a) && decide (a < s.f1)) := by
    intro l
    induction l with
    | nil => intro _; rfl
    | cons s r ih =>
      intro hl
      rw [List.find?_cons, List.find?_cons, ih (fun x hx => hl x (List.mem_cons_of_mem _ hx))]
      have := hl s List.mem_cons_self
      have e1 : decide (s.f0 ≤ t) = decide (s.f0 ≤ a) := decide_eq_decide.2 this.1
      have e2 : decide (t < s.f1) = decide (a < s.f1) := decide_eq_decide.2 (by omega)
      rw [e1, e2]
  rw [this ss h]
/-- The booked passes that are open, with their rates. -/
def actOf (bk : List Int) (ss : Int → List S81) (t : Int) : List (Int × Int) := (bk.map fun k => (k, rS (ss k) t)).filter fun kr => decide (0 < kr.2)
theorem actOf_pos {bk : List Int} {ss : Int → List S81} {t : Int} : ∀ kr ∈ actOf bk ss t, 0 < kr.2 := fun kr h => by
  unfold actOf at h
  simpa using (List.mem_filter.1 h).2
theorem actOf_nodup {bk : List Int} {ss : Int → List S81} {t : Int} (h : bk.Pairwise (· < ·)) : ((actOf bk ss t).map (·.1)).Nodup := by
  unfold actOf
  have h1 : ((bk.map fun k => (k, rS (ss k) t)).map (·.1)).Nodup := by
    rw [List.map_map]
    show (bk.map fun k => k).Nodup
    rw [List.map_id']
    exact h.imp (fun hab => by omega)
  exact List.Nodup.sublist (List.Sublist.map _ List.filter_sublist) h1
theorem actOf_same {bk : List Int} {ss : Int → List S81} {a t : Int} (h : ∀ k ∈ bk, rS (ss k) t = rS (ss k) a) : actOf bk ss t = actOf bk ss a := by
  unfold actOf
  rw [show (bk.map fun k => (k, rS (ss k) t)) = bk.map fun k => (k, rS (ss k) a) from List.map_congr_left (fun k hk => by rw [h k hk])]
theorem actOf_mem {bk : List Int} {ss : Int → List S81} {t k r : Int} (h : (k, r) ∈ actOf bk ss t) : k ∈ bk ∧ r = rS (ss k) t := by
  unfold actOf at h
  obtain ⟨k', hk, e⟩ := List.mem_map.1 (List.mem_filter.1 h).1
  injection e with e1 e2
  subst e1
  exact ⟨hk, e2.symm⟩
/-- Between two moments that follow one another nothing turns. -/
theorem next_none {ts : List Int} {i : Nat} {a b : Int} (hp : ts.Pairwise (· < ·)) (ha : ts[i]? = some a) (hb : ts[i + 1]? = some b) {x : Int} (hx : x ∈ ts) : x ≤ a ∨ b ≤ x := by
  obtain ⟨j, hj⟩ := List.getElem?_of_mem hx
  obtain ⟨hi1, hi2⟩ := List.getElem?_eq_some_iff.1 ha
  obtain ⟨hb1, hb2⟩ := List.getElem?_eq_some_iff.1 hb
  obtain ⟨hj1, hj2⟩ := List.getElem?_eq_some_iff.1 hj
  rcases Nat.lt_trichotomy j i with h | h | h
  · have := List.pairwise_iff_getElem.1 hp j i hj1 hi1 h; omega
  · subst h; omega
  · by_cases h' : j = i + 1
    · subst h'; omega
    · have := List.pairwise_iff_getElem.1 hp (i + 1) j hb1 hj1 (by omega); omega
theorem last_all {ts : List Int} {i : Nat} {a : Int} (hp : ts.Pairwise (· < ·)) (ha : ts[i]? = some a) (hb : ts.length ≤ i + 1) {x : Int} (hx : x ∈ ts) : x ≤ a := by
  obtain ⟨j, hj⟩ := List.getElem?_of_mem hx
  obtain ⟨hi1, hi2⟩ := List.getElem?_eq_some_iff.1 ha
  obtain ⟨hj1, hj2⟩ := List.getElem?_eq_some_iff.1 hj
  rcases Nat.lt_trichotomy j i with h | h | h
  · have := List.pairwise_iff_getElem.1 hp j i hj1 hi1 h; omega
  · subst h; omega
  · omega
structure Distinct (q : List S63) : Prop where
  inj : ∀ i j, i < q.length → j < q.length → (q.getD i z63).f0 = (q.getD j z63).f0 → i = j
section
variable {q : List S63} {ord : List Nat} {bk : List Int} {pf pt : Int → Int} {act : Int → List (Int × Int)}
theorem avail_iff {left : List Int} {t : Int} {i : Nat} : avail q left t i = true ↔ (q.getD i z63).f3 ≤ t ∧ 0 < left.getD i 0 := by
  unfold avail
  simp
def start (q : List S63) : St := ⟨q.map (·.f1), q.map (fun x => if x.f1 = 0 then x.f3 else -1), []⟩
theorem getD_map {α : Type} {l : List S63} {f : S63 → Int} {i : Nat} (h : i < l.length) : (l.map f).getD i 0 = f (l.getD i z63) := by
  rw [getD_at (by simpa using h), getD_at h, List.getElem_map]
end
end Snd
end Go.Proofs.Ytbngmblgkkdhpaa.Q
