/- Sending: the reference's run is the simulation. -/
-- Made by wip/tools/claimp.py of this session's texts; Lean checks it.
import Derived.Test.YtbngmblgkkdhpaaC10SndC
import Derived.Test.YtbngmblgkkdhpaaC10Gs12
set_option linter.unusedVariables false
set_option linter.unusedSimpArgs false
namespace Go.Proofs.Ytbngmblgkkdhpaa.Q
open Go.RowKit Go.Proofs.YtbngmblgkkdhpaaW.PrintWords Go.Proofs.YtbngmblgkkdhpaaW.PrintLast Go.Proofs.YtbngmblgkkdhpaaW.PrintMore Go.Proofs.Ytbngmblgkkdhpaa.Base
namespace Snd
/-- What has been told in a pass of what goes on ends at a moment at the latest. -/
def Ends (q : List S63) (k t : Int) (s : St) : Prop := ∀ p ∈ s.parts, p.f1 = k → ∀ i, i < q.length → (q.getD i z63).f0 = p.f0 → 0 < s.left.getD i 0 → p.f3 ≤ t
section
variable {q : List S63} {ord : List Nat} {bk : List Int} {st : RX} {s : St}
theorem give_other {i : Nat} {k frm to_ n : Int} {p : S61} (hp : p ∈ (give q s i k frm to_ n).parts) : p ∈ s.parts ∨ (p.f0 = (q.getD i z63).f0 ∧ p.f1 = k ∧ p.f3 = to_) := by
  rcases tell_mem (show p ∈ tell s.parts (q.getD i z63).f0 k frm to_ n from hp) with h | ⟨h0, h1, h2, _⟩
  · exact Or.inl h
  · exact Or.inr ⟨h0, h1, h2⟩
theorem give_left_le (h : s.left.length = q.length) {i : Nat} (hi : i < q.length) {k frm to_ n : Int} (hn : 0 ≤ n) (j : Nat) : (give q s i k frm to_ n).left.getD j 0 ≤ s.left.getD j 0 := by
  show (s.left.set i (s.left.getD i 0 - n)).getD j 0 ≤ _
  by_cases e : i = j
  · subst e; rw [getD_set_self (by rw [h]; exact hi)]; omega
  · rw [getD_set_ne e]; omega
/-- In another pass nothing is told. -/
theorem Ends.other {k k' t frm to_ n : Int} {i : Nat} (h : Ends q k t s) (hk : k' ≠ k) (hl : s.left.length = q.length) (hi : i < q.length) (hn : 0 ≤ n) : Ends q k t (give q s i k' frm to_ n) := fun p hp h1 j hj hnm hpos => by
  rcases give_other hp with hp | ⟨_, g1, _⟩
  · exact h p hp h1 j hj hnm (by have := give_left_le (k := k') (frm := frm) (to_ := to_) hl hi hn j; omega)
  · exact absurd (g1.symm.trans h1) hk
end
/-- The passes that are booked lie in time. -/
structure Long (bk : List Int) (ss : Int → List S81) (pf pt : Int → Int) : Prop where
  inside : ∀ k ∈ bk, ∀ s ∈ ss k, pf k ≤ s.f0 ∧ s.f1 ≤ pt k
  long : ∀ k ∈ bk, pt k - pf k ≤ 2000000
def restK (pf pt : Int → Int) (t k : Int) : Nat := (pt k - max (pf k) t).toNat
def restN (bk : List Int) (pf pt : Int → Int) (t : Int) : Nat := (bk.map (restK pf pt t)).sum
theorem rS_open {ss : List S81} {t : Int} (h : 0 < rS ss t) : ∃ s ∈ ss, s.f0 ≤ t ∧ t < s.f1 := by
  unfold rS at h
  cases hf : ss.find? (fun s => decide (s.f0 ≤ t) && decide (t < s.f1)) with
  | none => rw [hf] at h; simp at h
  | some s =>
    have := List.find?_some hf
    simp only [Bool.and_eq_true, decide_eq_true_eq] at this
    exact ⟨s, List.mem_of_find?_eq_some hf, this⟩
theorem rest_step {ss : Int → List S81} {pf pt : Int → Int} (t : Int) : ∀ (bk : List Int), (∀ k ∈ bk, ∀ s ∈ ss k, pf k ≤ s.f0 ∧ s.f1 ≤ pt k) → (actOf bk ss t).length + restN bk pf pt (t + 1) ≤ restN bk pf pt t
  | [], _ => Nat.le_refl _
  | k :: bk, h => by
    have ih := rest_step t bk (fun x hx => h x (List.mem_cons_of_mem _ hx))
    unfold restN at ih ⊢
    rw [actOf_cons, List.map_cons, List.map_cons, List.sum_cons, List.sum_cons]
    by_cases h0 : 0 < rS (ss k) t
    · obtain ⟨s, hs, h1, h2⟩ := rS_open h0
      have := h k List.mem_cons_self s hs
      rw [if_pos h0, List.length_cons]
      have : restK pf pt (t + 1) k + 1 ≤ restK pf pt t k := by unfold restK; omega
      omega
    · rw [if_neg h0]
      have : restK pf pt (t + 1) k ≤ restK pf pt t k := by unfold restK; omega
      omega
theorem rest_all {pf pt : Int → Int} (t : Int) : ∀ (bk : List Int), (∀ k ∈ bk, pt k - pf k ≤ 2000000) → restN bk pf pt t ≤ 2000000 * bk.length
  | [], _ => Nat.le_refl _
  | k :: bk, h => by
    have ih := rest_all t bk (fun x hx => h x (List.mem_cons_of_mem _ hx))
    have h1 := h k List.mem_cons_self
    unfold restN at ih ⊢
    rw [List.map_cons, List.sum_cons, List.length_cons]
    have : restK pf pt t k ≤ 2000000 := by unfold restK; omega
    omega
section
variable {q : List S63} {ord : List Nat} {bk : List Int} {ss : Int → List S81} {pf pt : Int → Int} {ts : List Int} {u : Int}
theorem start_phi (hq : q.length ≤ 300) : phi (start q) ≤ 300 := by
  have := cnt_le (start q).left
  have e : (start q).left.length = q.length := by unfold start; simp
  show 0 + cnt (start q).left ≤ 300
  omega
theorem idle_before (hm : Moms q bk ss ts) {t : Int} (h : ∀ x ∈ ts, t < x) : actOf bk ss t = [] := by
  unfold actOf
  rw [List.filter_eq_nil_iff]
  intro kr hkr
  obtain ⟨k, hk, rfl⟩ := List.mem_map.1 hkr
  rw [rS_none (fun s hs => h _ (hm.way k hk s hs).1)]
  simp
theorem popTo_none {t : Int} {l : List S81} (h : ∀ s ∈ l, t < s.f1) : popTo t l = l := by
  unfold popTo
  cases l with
  | nil => rfl
  | cons s r =>
    rw [List.dropWhile_cons, if_neg]
    have := h s List.mem_cons_self
    simp
    omega
/-- The code's way. -/
theorem code_sim (hg : Good q bk) (ho : Ord q ord) (hw : Ways bk ss) (hL : Long bk ss pf pt) (hbk : bk.Pairwise (· < ·)) (hbl : bk.length ≤ 100) (hm : Moms q bk ss ts) (hu : 0 ≤ u ∧ u ≤ 1000000000000) {st : SX} (h : Sim q ord bk (bk.map ss) st (start q)) :
    ∃ st' W', (∀ K, u.toNat + q.length + 4 ≤ K → runGo q bk u K ts ts.length 0 st = some st') ∧ Sim q ord bk W' st' (sim q ord (actOf bk ss) 0 u.toNat (start q)) := by
  have hN : Rest (actOf bk ss) (restN bk pf pt) := ⟨fun t _ => rest_step t bk hL.inside⟩
  have hW : bk.map ss = bk.map (fun k => popTo (-1) (ss k)) := by
    refine List.map_congr_left fun k hk => (popTo_none fun s hs => ?_).symm
    have := hm.bd _ (hm.way k hk s hs).2
    omega
  rw [hW] at h
  obtain ⟨st', W', h1, h2⟩ := run_sim hg ho hw hbk (by omega) hm hN hu ts.length 0 (-1) (by omega) (fun x hx => by
    have := hm.bd x (by simpa using hx)
    omega) h (fun a ha => by
    have h1 := start_phi hg.many
    have h2 := rest_all (pf := pf) (pt := pt) a bk hL.long
    omega)
  refine ⟨st', W', h1, ?_⟩
  rw [List.drop_zero, cover_all hu.1 hm.up hm.bd (fun t _ ht => Or.inl (idle_before hm ht))] at h2
  exact h2
theorem start_sim (hg : Good q bk) {D : SMapD} (hM : Maps.IsMap D) (hD : ∀ i k, i < q.length → k ∈ bk → Maps.has D (keyK i k) = false) (W : List (List S81)) : Sim q ord bk W ⟨ord.map Int.ofNat, List.replicate q.length 0, q.map (fun x => if x.f1 = 0 then x.f3 else -1), D, [], W⟩ (start q) := by
  refine ⟨rfl, by simp, by unfold start; simp, by unfold start; simp, fun i hi => ?_, fun i hi => ?_, rfl, rfl, (fun j hj => by simp at hj), (fun i k hi hk n hn => by cases hn), fun i k hi hk _ => hD i k hi hk, rfl, hM, (fun p hp => by cases hp)⟩
  · show (List.replicate q.length (0 : Int)).getD i 0 = (q.getD i z63).f1 - (q.map (fun x : S63 => x.f1)).getD i 0
    rw [getD_map (α := Int) hi, List.getD_eq_getElem?_getD, List.getElem?_replicate, if_pos hi]
    simp
  · have := hg.size i
    show 0 ≤ (q.map (·.f1)).getD i 0 ∧ (q.map (·.f1)).getD i 0 ≤ (q.getD i z63).f1
    rw [getD_map (α := Int) hi]
    omega
end
end Snd
end Go.Proofs.Ytbngmblgkkdhpaa.Q
