/- Sending: the order of the items. -/
-- Made by wip/tools/claimp.py of this session's texts; Lean checks it.
import Derived.Test.YtbngmblgkkdhpaaC10SndF
import Derived.Test.YtbngmblgkkdhpaaC10Gs7
set_option linter.unusedVariables false
set_option linter.unusedSimpArgs false
namespace Go.Proofs.Ytbngmblgkkdhpaa.Q
open Go.RowKit Go.Proofs.YtbngmblgkkdhpaaW.PrintWords Go.Proofs.YtbngmblgkkdhpaaW.PrintLast Go.Proofs.YtbngmblgkkdhpaaW.PrintMore Go.Proofs.Ytbngmblgkkdhpaa.Base
theorem rd_I (q : List S63) (i : Nat) : rd_T63 q (i : Int) = q.getD i z63 := by
  unfold rd_T63
  rw [Int.toNat_natCast]
theorem GoodItem.zero : GoodItem z63 := ⟨by decide, by decide, by decide, by decide, by decide⟩
theorem GoodItems.all {q : List S63} (h : GoodItems q) (i : Nat) : GoodItem (q.getD i z63) := by
  by_cases hi : i < q.length
  · have := h.each i hi
    rwa [rd_I] at this
  · rw [List.getD_eq_getElem?_getD, List.getElem?_eq_none (by omega)]
    exact GoodItem.zero
theorem GoodItems.less {q : List S63} (h : GoodItems q) {i j : Nat} (hij : i < j) (hj : j < q.length) : Lt (q.getD i z63).f0 (q.getD j z63).f0 := by
  have := h.names i j hij hj
  rwa [rd_I, rd_I] at this
theorem GoodItems.distinct {q : List S63} (h : GoodItems q) : Snd.Distinct q := ⟨fun i j hi hj e => by
  rcases Nat.lt_trichotomy i j with hl | hl | hl
  · have := h.less hl hj
    rw [e] at this
    exact absurd this Lt_irrefl
  · exact hl
  · have := h.less hl hi
    rw [e] at this
    exact absurd this Lt_irrefl⟩
theorem GoodItems.good {q : List S63} (h : GoodItems q) {bk : List Int} (hb : ∀ k ∈ bk, 0 ≤ k ∧ k ≤ 1000000) : Snd.Good q bk :=
  ⟨h.distinct, h.many, fun i => (h.all i).size, hb⟩
theorem toList_data (a : ByteArray) : a.data.toList = a.toList := by
  rw [ByteArray.toList_eq]
/-- What the code's order says. -/
theorem cmp_before {q : List S63} (h : GoodItems q) {i j : Nat} (hi : i < q.length) (hj : j < q.length) : cmpX q i j < 0 ↔ Snd.before q i j := by
  have a := h.all i
  have b := h.all j
  have a1 := a.rank; have a2 := a.due
  have b1 := b.rank; have b2 := b.due
  unfold cmpX Snd.before
  rw [rd_I, rd_I]
  by_cases c1 : (q.getD i z63).f2 = (q.getD j z63).f2
  · rw [if_pos c1]
    by_cases c2 : (q.getD i z63).f4 = (q.getD j z63).f4
    · rw [if_pos c2, compare_neg, toList_data, toList_data]
      have hl : Op.bytesLess (q.getD i z63).f0.toList (q.getD j z63).f0.toList = true ↔ i < j := by
        constructor
        · intro hlt
          refine Classical.byContradiction fun hc => ?_
          by_cases e : i = j
          · subst e; exact Lt_irrefl hlt
          · exact Lt_irrefl (Lt_trans hlt (h.less (show j < i by omega) hi))
        · intro hij
          exact h.less hij hj
      rw [hl]
      omega
    · rw [if_neg c2, w64 (by omega) (by omega)]
      omega
  · rw [if_neg c1, w64 (by omega) (by omega)]
    omega
theorem ixX_nat {q : List S63} {x : Int} (h : x ∈ ixX q) : ∃ i : Nat, i < q.length ∧ x = (i : Int) := by
  unfold ixX at h
  obtain ⟨n, hn, rfl⟩ := List.mem_map.mp h
  exact ⟨n, List.mem_range.mp hn, rfl⟩
theorem GoodItems.ordOK {q : List S63} (h : GoodItems q) : OrdOK q := by
  refine ⟨fun x hx y hy z hz => ?_, fun x hx y hy z hz => ?_, fun x hx => ?_, fun x hx y hy => ?_⟩
  · obtain ⟨i, hi, rfl⟩ := ixX_nat hx
    obtain ⟨j, hj, rfl⟩ := ixX_nat hy
    obtain ⟨k, hk, rfl⟩ := ixX_nat hz
    rw [cmp_before h hi hj, cmp_before h hj hk, cmp_before h hi hk]
    exact Snd.before_trans
  · obtain ⟨i, hi, rfl⟩ := ixX_nat hx
    obtain ⟨j, hj, rfl⟩ := ixX_nat hy
    obtain ⟨k, hk, rfl⟩ := ixX_nat hz
    rw [cmp_before h hi hj, cmp_before h hj hk, cmp_before h hi hk]
    unfold Snd.before
    omega
  · obtain ⟨i, hi, rfl⟩ := ixX_nat hx
    rw [cmp_before h hi hi]
    unfold Snd.before
    omega
  · obtain ⟨i, hi, rfl⟩ := ixX_nat hx
    obtain ⟨j, hj, rfl⟩ := ixX_nat hy
    rw [cmp_before h hi hj, cmp_before h hj hi]
    unfold Snd.before
    omega
def ordN (q : List S63) : List Nat := (List.range q.length).mergeSort fun i j => !decide (Snd.before q j i)
theorem GoodItems.ordN {q : List S63} (h : GoodItems q) : ordX q = (ordN q).map Int.ofNat := by
  unfold ordX ixX Q.ordN
  refine (List.map_mergeSort (fun a ha b hb => ?_)).symm
  have ha' := List.mem_range.mp ha
  have hb' := List.mem_range.mp hb
  have := cmp_before h hb' ha'
  show (!decide (Snd.before q b a)) = !decide (cmpX q (b : Int) (a : Int) < 0)
  by_cases c : Snd.before q b a
  · rw [decide_eq_true c, decide_eq_true (this.2 c)]
  · rw [decide_eq_false c, decide_eq_false (fun hc => c (this.1 hc))]
theorem ordN_ord (q : List S63) : Snd.Ord q (ordN q) := by
  have hp := List.mergeSort_perm (List.range q.length) (fun i j => !decide (Snd.before q j i))
  refine ⟨fun i => by unfold ordN; rw [hp.mem_iff, List.mem_range], ?_⟩
  have hs := List.pairwise_mergeSort (le := fun i j => !decide (Snd.before q j i)) (fun a b c h1 h2 => by
    simp only [Bool.not_eq_true', decide_eq_false_iff_not] at h1 h2 ⊢
    unfold Snd.before at h1 h2 ⊢
    omega) (fun a b => by
    simp only [Bool.or_eq_true, Bool.not_eq_true', decide_eq_false_iff_not]
    unfold Snd.before
    omega) (List.range q.length)
  have hn : (ordN q).Nodup := hp.nodup_iff.2 List.nodup_range
  refine (hs.and hn).imp fun {a b} h => ?_
  obtain ⟨h1, h2⟩ := h
  simp only [Bool.not_eq_true', decide_eq_false_iff_not] at h1
  exact (Snd.before_total h2).resolve_right h1
end Go.Proofs.Ytbngmblgkkdhpaa.Q
