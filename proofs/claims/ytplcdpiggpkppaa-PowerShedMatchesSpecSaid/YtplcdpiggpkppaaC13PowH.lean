/- Plain laws of chapter 9: the reference's legs, and what it tells of the level. -/
-- Made by wip/tools/claimp.py of this session's texts; Lean checks it.
import Derived.Test.YtplcdpiggpkppaaC13PowG
import Derived.Test.YtplcdpiggpkppaaC13PowR
import Derived.Test.YtplcdpiggpkppaaC13Ge11
import Derived.Test.YtplcdpiggpkppaaC13Q0
import Derived.Test.YtplcdpiggpkppaaC13Ge13
import Derived.Test.YtplcdpiggpkppaaC13Ge8
import Derived.Test.YtplcdpiggpkppaaC13Ge9
set_option linter.unusedVariables false
set_option linter.unusedSimpArgs false
namespace Go.Proofs.Ytplcdpiggpkppaa.Q
open Go.RowKit Go.Proofs.YtplcdpiggpkppaaW.PrintWords Go.Proofs.YtplcdpiggpkppaaW.PrintLast Go.Proofs.YtplcdpiggpkppaaW.PrintMore Go.Proofs.Ytplcdpiggpkppaa.Base
/-- A list that does not fall, each number once. -/
theorem compactUpTo_up {d : Array Int} (hs : ∀ i j : Nat, i < j → j < d.size → d[i]! ≤ d[j]!) : ∀ m : Nat, m ≤ d.size → Up (Lib.compactUpTo d m) ∧ (∀ x, x ∈ Lib.compactUpTo d m ↔ ∃ j, j < m ∧ d[j]! = x)
  | 0, _ => ⟨by unfold Lib.compactUpTo; exact List.Pairwise.nil, fun x => by unfold Lib.compactUpTo; simp⟩
  | m + 1, hm => by
    obtain ⟨h1, h2⟩ := compactUpTo_up hs m (by omega)
    rw [Lib.compactUpTo_succ]
    by_cases hk : Lib.keeps d m = true
    · rw [if_pos hk]
      have hkeep : m = 0 ∨ d[m]! ≠ d[m - 1]! := by
        unfold Lib.keeps at hk
        exact of_decide_eq_true hk
      refine ⟨List.pairwise_append.2 ⟨h1, List.pairwise_singleton _ _, fun a ha b hb => ?_⟩, fun x => ?_⟩
      · obtain ⟨j, hj, rfl⟩ := (h2 a).1 ha
        rw [List.mem_singleton.1 hb]
        rcases hkeep with q | q
        · omega
        · have e1 := hs (m - 1) m (by omega) (by omega)
          by_cases e : j = m - 1
          · subst e; omega
          · have e2 := hs j (m - 1) (by omega) (by omega); omega
      · rw [List.mem_append, h2]
        constructor
        · rintro (⟨j, hj, e⟩ | e)
          · exact ⟨j, by omega, e⟩
          · exact ⟨m, by omega, (List.mem_singleton.1 e).symm⟩
        · rintro ⟨j, hj, e⟩
          by_cases q : j = m
          · right; subst q; rw [e]; exact List.mem_singleton.2 rfl
          · left; exact ⟨j, by omega, e⟩
    · rw [if_neg hk, List.append_nil]
      refine ⟨h1, fun x => ?_⟩
      rw [h2]
      have hkeep : ¬ (m = 0 ∨ d[m]! ≠ d[m - 1]!) := by
        unfold Lib.keeps at hk
        exact fun q => hk (decide_eq_true q)
      constructor
      · rintro ⟨j, hj, e⟩
        exact ⟨j, by omega, e⟩
      · rintro ⟨j, hj, e⟩
        by_cases q : j = m
        · subst q
          exact ⟨j - 1, by omega, by rw [← e]; exact (Classical.byContradiction fun z => hkeep (.inr fun y => z y.symm))⟩
        · exact ⟨j, by omega, e⟩
theorem sortCompact {a : List Int} {A : List (Int × Int)} (hm : ∀ x, x ∈ a ↔ ∃ e ∈ A, e.1 = x) : Lib.compact (a.mergeSort fun x y => decide (x ≤ y)) = keysV A := by
  have hp := List.mergeSort_perm a (fun x y => decide (x ≤ y))
  have hs := List.pairwise_mergeSort (le := fun x y : Int => decide (x ≤ y)) (fun a b c h1 h2 => by simp only [decide_eq_true_eq] at *; omega) (fun a b => by simp only [Bool.or_eq_true, decide_eq_true_eq]; omega) a
  generalize hz : (a.mergeSort fun x y => decide (x ≤ y)) = z at *
  have hget : ∀ i : Nat, i < z.length → z.toArray[i]! = z[i]! := fun i hi => by simp
  have hc := compactUpTo_up (d := z.toArray) (fun i j hij hj => by
    have hj' : j < z.length := by simpa using hj
    have := List.pairwise_iff_getElem.1 hs i j (by omega) hj' hij
    simp only [decide_eq_true_eq] at this
    simpa [hj', show i < z.length by omega] using this) z.length (by simp)
  refine up_ext hc.1 (keysV_up A) (fun x => ?_)
  show x ∈ Lib.compactUpTo z.toArray z.length ↔ _
  rw [hc.2, mem_keysV, ← hm, ← hp.mem_iff, List.mem_iff_getElem]
  constructor
  · rintro ⟨j, hj, e⟩
    exact ⟨j, hj, by simpa [hj] using e⟩
  · rintro ⟨j, hj, e⟩
    exact ⟨j, hj, by simpa [hj] using e⟩
theorem ref_change_ev {r lv sn bs fl : Int} {s : List S72} {l : List S76} {u : List S47} (h : Good r lv sn bs fl s l u) (t : Int) : Ev (fun k => perigeeref9_change.f k r lv sn bs fl s l u t) (dV sn bs s l u t) := by
  have hc := h.cell
  have hd := draw_bd h.uses t
  obtain ⟨hn, hs, _⟩ := sunV_zero h.sun
  have hpart : ∀ i : Nat, 0 ≤ sumTo (sunOn s t) i ∧ sumTo (sunOn s t) i ≤ i * 1 := fun i => sumTo_bd i (fun j _ => by unfold sunOn; split <;> omega)
  have hmul : ∀ i : Nat, i ≤ s.length → 0 ≤ sn * sumTo (sunOn s t) i ∧ sn * sumTo (sunOn s t) i ≤ 100000 * 500 := fun i hi => by
    have a := hpart i
    have b : sn * sumTo (sunOn s t) i ≤ 100000 * sumTo (sunOn s t) i := Int.mul_le_mul_of_nonneg_right (by omega) a.1
    exact ⟨Int.mul_nonneg (by omega) a.1, by omega⟩
  simp only [perigeeref9_change.f]
  refine Ev.bind (ref_draw_ev h.uses t) ?_
  have e0 : wrap64 ((wrap64 (-bs)) - drawV l u t) = -bs - drawV l u t := by rw [w64 (x := -bs) (by omega) (by omega)]; exact w64 (by omega) (by omega)
  rw [e0]
  have main := Ev.loop (L := fun k i => perigeeref9_change.l0 k t (-bs - drawV l u t + sn * sumTo (sunOn s t) i) s (s.length : Int) (i : Int) r lv sn bs fl) (v := fun _ => dV sn bs s l u t) s.length ?_ ?_ s.length 0 (by omega)
  · have e1 : -bs - drawV l u t + sn * sumTo (sunOn s t) 0 = -bs - drawV l u t := by show _ + sn * 0 = _; omega
    rw [e1] at main
    exact main
  · refine Ev.step (fun k => perigeeref9_change.l0.eq_2 ..) ?_
    simp only [if_neg (show ¬ (s.length : Int) < s.length by omega)]
    exact Ev.is (by rw [dV_eq]; omega)
  · intro i hi ih
    obtain ⟨s1, s2, s3⟩ := hs i hi
    unfold inM at s1 s2
    have m1 := hmul i (by omega)
    have m2 := hmul (i + 1) (by omega)
    have e2 : sn * sumTo (sunOn s t) (i + 1) = sn * sumTo (sunOn s t) i + sn * sunOn s t i := by show sn * (_ + _) = _; rw [Int.mul_add]
    refine Ev.step (fun k => perigeeref9_change.l0.eq_2 ..) ?_
    simp only [if_pos (show (i : Int) < s.length by omega), if_pos (show (0 : Int) ≤ i by omega), w64 (x := (i : Int) + 1) (by omega) (by omega), within_eq, Option.bind_some, w64 (x := (rd_T72 s i).f1 - 1) (by omega) (by omega), decide_eq_true_eq]
    refine Ev.ite (fun h1 => ?_) (fun h1 => ?_)
    · have e : sunOn s t i = 1 := if_pos (by omega)
      rw [e] at e2
      rw [w64 (x := -bs - drawV l u t + sn * sumTo (sunOn s t) i + sn) (by omega) (by omega)]
      rw [show -bs - drawV l u t + sn * sumTo (sunOn s t) (i + 1) = -bs - drawV l u t + sn * sumTo (sunOn s t) i + sn by omega] at ih
      exact ih
    · have e : sunOn s t i = 0 := if_neg (by omega)
      rw [e] at e2
      rw [show -bs - drawV l u t + sn * sumTo (sunOn s t) (i + 1) = -bs - drawV l u t + sn * sumTo (sunOn s t) i by omega] at ih
      exact ih
theorem leg_level {r x c a b : Int} (hr : 1 ≤ r ∧ r ≤ 1000000000000) (hx : 0 ≤ x ∧ x ≤ r) (hc : -5200000 ≤ c ∧ c ≤ 5200000) (ha : 0 ≤ b - a ∧ b - a ≤ 1000000000000) (to_ en lv sn bs fl : Int) : Ev (fun k => perigeeref9_leg_levelAt.f k a to_ x c en r lv sn bs fl b) (clp r (x + c * (b - a))) := by
  have h1 : c * (b - a) ≤ 5200000 * (b - a) := Int.mul_le_mul_of_nonneg_right hc.2 ha.1
  have h2 : -5200000 * (b - a) ≤ c * (b - a) := Int.mul_le_mul_of_nonneg_right hc.1 ha.1
  have hcm : (b - a) * c = c * (b - a) := Int.mul_comm _ _
  have fin : 0 ≤ x + c * (b - a) ∧ x + c * (b - a) ≤ r → some (wrap64 (x + (wrap64 ((b - a) * c)))) = some (clp r (x + c * (b - a))) := by
    intro q
    rw [hcm, w64 (x := c * (b - a)) (by omega) (by omega), w64 (x := x + c * (b - a)) (by omega) (by omega), clp_id q]
  simp only [perigeeref9_leg_levelAt.f, w64 (x := b - a) (by omega) (by omega), w64 (x := r - x) (by omega) (by omega)]
  refine Ev.ite (fun hpos => ?_) (fun hpos => ?_)
  · have hq : 0 ≤ (r - x) / c := Int.ediv_nonneg (by omega) (by omega)
    have hq2 : (r - x) / c ≤ r - x := Int.ediv_le_self _ (by omega)
    have hlt : (r - x) / c < b - a ↔ r - x < (b - a) * c := Int.ediv_lt_iff_lt_mul (by omega)
    simp only [if_neg (show ¬ c = 0 by omega), Int.tdiv_eq_ediv_of_nonneg (show 0 ≤ r - x by omega), w64 (x := (r - x) / c) (by omega) (by omega)]
    refine Ev.step (fun k => perigeeref9_leg_levelAt.j0.eq_2 ..) ?_
    refine Ev.ite (fun h3 => ?_) (fun h3 => ?_)
    · have h3 := of_decide_eq_true h3
      have := hlt.1 (by omega)
      refine Ev.is ?_
      unfold clp
      rw [if_neg (by omega), if_pos (by omega)]
    · have h3 : ¬ _ := fun q => h3 (decide_eq_true q)
      have h4 : ¬ r - x < (b - a) * c := fun q => h3 (by have := hlt.2 q; omega)
      have h5 : 0 ≤ c * (b - a) := Int.mul_nonneg (by omega) ha.1
      simp only [if_neg (show ¬ c < 0 by omega)]
      exact Ev.of_eq (fun _ => fin (by omega))
  · refine Ev.step (fun k => perigeeref9_leg_levelAt.j0.eq_2 ..) ?_
    simp only [if_neg Bool.false_ne_true]
    refine Ev.ite (fun hneg => ?_) (fun hneg => ?_)
    · have hq : 0 ≤ x / -c := Int.ediv_nonneg (by omega) (by omega)
      have hq2 : x / -c ≤ x := Int.ediv_le_self _ (by omega)
      have hlt : x / -c < b - a ↔ x < (b - a) * -c := Int.ediv_lt_iff_lt_mul (by omega)
      rw [Int.mul_neg, hcm] at hlt
      simp only [w64 (x := -c) (by omega) (by omega), if_neg (show ¬ -c = 0 by omega), Int.tdiv_eq_ediv_of_nonneg (show 0 ≤ x by omega), w64 (x := x / -c) (by omega) (by omega)]
      refine Ev.ite (fun h3 => ?_) (fun h3 => ?_)
      · have := hlt.1 (by omega)
        refine Ev.is ?_
        unfold clp
        rw [if_pos (by omega)]
      · have h4 : ¬ x < -(c * (b - a)) := fun q => h3 (by have := hlt.2 q; omega)
        have h5 : c * (b - a) ≤ 0 := Int.mul_nonpos_of_nonpos_of_nonneg (by omega) ha.1
        exact Ev.of_eq (fun _ => fin (by omega))
    · have e : c = 0 := by omega
      subst e
      exact Ev.of_eq (fun _ => fin (by rw [Int.zero_mul]; omega))
def accS (s : List S72) : Nat → List Int
  | 0 => [0]
  | i + 1 => accS s i ++ [(rd_T72 s i).f0, (rd_T72 s i).f1]
def accU (s : List S72) (u : List S47) : Nat → List Int
  | 0 => accS s s.length
  | i + 1 => accU s u i ++ [(rd_T47 u i).f1, (rd_T47 u i).f2]
theorem accS_length (s : List S72) : ∀ i, (accS s i).length = 1 + 2 * i
  | 0 => rfl
  | i + 1 => by unfold accS; rw [List.length_append, accS_length s i]; simp only [List.length_cons, List.length_nil]; omega
theorem accU_length (s : List S72) (u : List S47) : ∀ i, (accU s u i).length = 1 + 2 * s.length + 2 * i
  | 0 => by show (accS s s.length).length = _; rw [accS_length]; omega
  | i + 1 => by unfold accU; rw [List.length_append, accU_length s u i]; simp only [List.length_cons, List.length_nil]; omega
theorem mem_accS {s : List S72} {x : Int} : ∀ i, x ∈ accS s i ↔ x = 0 ∨ ∃ j, j < i ∧ (x = (rd_T72 s j).f0 ∨ x = (rd_T72 s j).f1)
  | 0 => by unfold accS; simp
  | i + 1 => by
    unfold accS
    rw [List.mem_append, mem_accS i]
    simp only [List.mem_cons, List.not_mem_nil, or_false]
    constructor
    · rintro ((h | ⟨j, h1, h2⟩) | h)
      · exact .inl h
      · exact .inr ⟨j, by omega, h2⟩
      · exact .inr ⟨i, by omega, h⟩
    · rintro (h | ⟨j, h1, h2⟩)
      · exact .inl (.inl h)
      · by_cases e : j = i
        · subst e; exact .inr h2
        · exact .inl (.inr ⟨j, by omega, h2⟩)
theorem mem_accU {s : List S72} {u : List S47} {x : Int} : ∀ i, x ∈ accU s u i ↔ x ∈ accS s s.length ∨ ∃ j, j < i ∧ (x = (rd_T47 u j).f1 ∨ x = (rd_T47 u j).f2)
  | 0 => by unfold accU; simp
  | i + 1 => by
    unfold accU
    rw [List.mem_append, mem_accU i]
    simp only [List.mem_cons, List.not_mem_nil, or_false]
    constructor
    · rintro ((h | ⟨j, h1, h2⟩) | h)
      · exact .inl h
      · exact .inr ⟨j, by omega, h2⟩
      · exact .inr ⟨i, by omega, h⟩
    · rintro (h | ⟨j, h1, h2⟩)
      · exact .inl (.inl h)
      · by_cases e : j = i
        · subst e; exact .inr h2
        · exact .inl (.inr ⟨j, by omega, h2⟩)
theorem mem_adds {x : Int} : ∀ {E : List (Int × Int × Int)}, (∃ e ∈ addsOf E, e.1 = x) ↔ ∃ e ∈ E, x = e.1 ∨ x = e.2.1
  | [] => by simp [addsOf]
  | e :: E => by
    unfold addsOf
    have ih := mem_adds (x := x) (E := E)
    constructor
    · rintro ⟨y, hy, rfl⟩
      rcases List.mem_cons.1 hy with q | q
      · subst q; exact ⟨e, List.mem_cons_self, .inl rfl⟩
      · rcases List.mem_cons.1 q with q | q
        · subst q; exact ⟨e, List.mem_cons_self, .inr rfl⟩
        · obtain ⟨z, hz, h⟩ := mem_adds.1 ⟨y, q, rfl⟩
          exact ⟨z, List.mem_cons_of_mem _ hz, h⟩
    · rintro ⟨y, hy, h⟩
      rcases List.mem_cons.1 hy with q | q
      · subst q
        rcases h with h | h
        · exact ⟨(y.1, y.2.2), List.mem_cons_self, h.symm⟩
        · exact ⟨(y.2.1, -y.2.2), List.mem_cons_of_mem _ List.mem_cons_self, h.symm⟩
      · obtain ⟨z, hz, e2⟩ := ih.2 ⟨y, q, h⟩
        exact ⟨z, List.mem_cons_of_mem _ (List.mem_cons_of_mem _ hz), e2⟩
theorem acc_keys (sn bs : Int) (s : List S72) (l : List S76) (u : List S47) (x : Int) : x ∈ accU s u u.length ↔ ∃ e ∈ addsV bs (evV sn s l u), e.1 = x := by
  rw [mem_accU, mem_accS]
  unfold addsV evV
  constructor
  · rintro ((h | ⟨j, hj, h⟩) | ⟨j, hj, h⟩)
    · exact ⟨(0, -bs), List.mem_cons_self, h.symm⟩
    · obtain ⟨z, hz, e⟩ := mem_adds.2 ⟨_, List.mem_append_left _ (List.mem_of_getElem? (sunEvs_at (sun := sn) hj)), h⟩
      exact ⟨z, List.mem_cons_of_mem _ hz, e⟩
    · obtain ⟨z, hz, e⟩ := mem_adds.2 ⟨_, List.mem_append_right _ (List.mem_of_getElem? (useEvsV_at (l := l) hj)), h⟩
      exact ⟨z, List.mem_cons_of_mem _ hz, e⟩
  · rintro ⟨e, he, rfl⟩
    rcases List.mem_cons.1 he with q | q
    · subst q; exact .inl (.inl rfl)
    · obtain ⟨y, hy, h⟩ := mem_adds.1 ⟨e, q, rfl⟩
      rcases List.mem_append.1 hy with q | q
      · obtain ⟨i, hi⟩ := List.mem_iff_getElem?.1 q
        have hil : i < s.length := by
          have := (List.getElem?_eq_some_iff.1 hi).1
          simpa [sunEvs] using this
        rw [sunEvs_at hil] at hi
        obtain rfl := Option.some.inj hi
        exact .inl (.inr ⟨i, hil, h⟩)
      · obtain ⟨i, hi⟩ := List.mem_iff_getElem?.1 q
        have hil : i < u.length := by
          have := (List.getElem?_eq_some_iff.1 hi).1
          simpa [useEvsV] using this
        rw [useEvsV_at hil] at hi
        obtain rfl := Option.some.inj hi
        exact .inr ⟨i, hil, h⟩
end Go.Proofs.Ytplcdpiggpkppaa.Q
