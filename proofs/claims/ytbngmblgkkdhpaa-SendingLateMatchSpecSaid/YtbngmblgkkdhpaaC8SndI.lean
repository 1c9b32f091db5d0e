/- Sending: the moments. -/
-- Made by wip/tools/claimp.py of this session's texts; Lean checks it.
import Derived.Test.YtbngmblgkkdhpaaC8SndH
import Derived.Test.YtbngmblgkkdhpaaC8Gs11
import Derived.Test.YtbngmblgkkdhpaaC8Gs12
import Derived.Test.YtbngmblgkkdhpaaC8Gs8
set_option linter.unusedVariables false
set_option linter.unusedSimpArgs false
namespace Go.Proofs.Ytbngmblgkkdhpaa.Q
open Go.RowKit Go.Proofs.YtbngmblgkkdhpaaW.PrintWords Go.Proofs.YtbngmblgkkdhpaaW.PrintLast Go.Proofs.YtbngmblgkkdhpaaW.PrintMore Go.Proofs.Ytbngmblgkkdhpaa.Base
theorem rd_get {l : List Int} {i : Nat} (h : i < l.length) : rd l (i : Int) = l[i] := by
  unfold rd
  rw [Int.toNat_natCast, List.getD_eq_getElem?_getD, List.getElem?_eq_getElem h]
  rfl
/-- A number comes into a list in order. -/
structure Put (l : List Int) (a : Int) (r : List Int) : Prop where
  up : r.Pairwise (· < ·)
  mem : ∀ x, x ∈ r ↔ x ∈ l ∨ x = a
  len : r.length ≤ l.length + 1
theorem number_l0 (l : List Int) (a : Int) (hl : l.Pairwise (· < ·)) (hs : l.length ≤ 1000000) : ∀ n : Nat, n ≤ l.length → (∀ x ∈ l.drop n, a < x) → ∃ r, Ev (fun k => perigeeref10_number.l0 k l a (n : Int)) r ∧ Put l a r := by
  have ins : ∀ n : Nat, n ≤ l.length → (∀ x ∈ l.drop n, a < x) → (∀ x ∈ l.take n, x < a) → Put l a (([] ++ l.take n) ++ [a] ++ l.drop n) := by
    intro n hn h1 h2
    have hp : (l.take n ++ l.drop n).Pairwise (· < ·) := by rw [List.take_append_drop]; exact hl
    rw [List.pairwise_append] at hp
    refine ⟨?_, fun x => ?_, ?_⟩
    · rw [List.nil_append, List.pairwise_append, List.pairwise_append]
      refine ⟨⟨hp.1, List.pairwise_singleton _ _, fun x hx y hy => ?_⟩, hp.2.1, fun x hx y hy => ?_⟩
      · rw [List.mem_singleton.1 hy]; exact h2 x hx
      · rcases List.mem_append.1 hx with hx | hx
        · exact hp.2.2 x hx y hy
        · rw [List.mem_singleton.1 hx]; exact h1 y hy
    · rw [List.nil_append, List.mem_append, List.mem_append, List.mem_singleton]
      have e : x ∈ l ↔ x ∈ l.take n ∨ x ∈ l.drop n := by rw [← List.mem_append, List.take_append_drop]
      rw [e]
      constructor
      · rintro ((h | h) | h)
        · exact Or.inl (Or.inl h)
        · exact Or.inr h
        · exact Or.inl (Or.inr h)
      · rintro ((h | h) | h)
        · exact Or.inl (Or.inl h)
        · exact Or.inr h
        · exact Or.inl (Or.inr h)
    · simp
      omega
  intro n
  induction n with
  | zero =>
    intro hn h
    refine ⟨_, Ev.step (f := fun _ => some (([] ++ l.take 0) ++ [a] ++ l.drop 0)) (fun k => ?_) (Ev.now _), ins 0 (by omega) h (fun x hx => by simp at hx)⟩
    simp only [perigeeref10_number.l0, Option.bind_some]
    rw [if_neg (by omega), if_pos (by omega), if_pos (by omega), if_pos (by simp), if_pos (by simp), if_pos (by simp; omega)]
    rfl
  | succ n ih =>
    intro hn h
    have hlt : n < l.length := by omega
    have e1 : wrap64 (((n + 1 : Nat) : Int) - 1) = (n : Int) := by unfold wrap64; omega
    have hd : l.drop n = l[n] :: l.drop (n + 1) := List.drop_eq_getElem_cons hlt
    by_cases c1 : l[n] > a
    · obtain ⟨r, h1, h2⟩ := ih (by omega) (fun x hx => by
        rw [hd] at hx
        rcases List.mem_cons.1 hx with rfl | hx
        · exact c1
        · exact h x hx)
      refine ⟨r, Ev.step (f := fun k => perigeeref10_number.l0 k l a (n : Int)) (fun k => ?_) h1, h2⟩
      simp only [perigeeref10_number.l0]
      rw [e1, rd_get hlt, if_pos (by omega), if_pos (by omega), if_pos (by omega), if_pos c1]
    · by_cases c2 : l[n] = a
      · refine ⟨l, Ev.step (f := fun _ => some l) (fun k => ?_) (Ev.now _), ⟨hl, fun x => ⟨Or.inl, fun hx => ?_⟩, by omega⟩⟩
        · simp only [perigeeref10_number.l0]
          rw [e1, rd_get hlt, if_pos (by omega), if_pos (by omega), if_pos (by omega), if_neg c1, if_pos c2]
        · rcases hx with hx | rfl
          · exact hx
          · rw [← c2]; exact List.getElem_mem hlt
      · refine ⟨_, Ev.step (f := fun _ => some (([] ++ l.take (n + 1)) ++ [a] ++ l.drop (n + 1))) (fun k => ?_) (Ev.now _), ins (n + 1) (by omega) h (fun x hx => ?_)⟩
        · simp only [perigeeref10_number.l0, Option.bind_some]
          rw [e1, rd_get hlt, if_pos (by omega), if_pos (by omega), if_pos (by omega), if_neg c1, if_neg c2, Int.toNat_natCast, if_pos (by omega), if_pos (by omega), if_pos (by simp; omega), if_pos (by simp; omega), if_pos (by simp; omega)]
        · rw [List.take_succ_eq_append_getElem hlt] at hx
          rcases List.mem_append.1 hx with hx | hx
          · have hp : (l.take n ++ l.drop n).Pairwise (· < ·) := by rw [List.take_append_drop]; exact hl
            have := (List.pairwise_append.1 hp).2.2 x hx l[n] (by rw [hd]; exact List.mem_cons_self)
            omega
          · rw [List.mem_singleton.1 hx]
            omega
theorem number_ev (l : List Int) (a : Int) (hl : l.Pairwise (· < ·)) (hs : l.length ≤ 1000000) : ∃ r, Ev (fun k => perigeeref10_number.f k l a) r ∧ Put l a r := by
  obtain ⟨r, h1, h2⟩ := number_l0 l a hl hs l.length (Nat.le_refl _) (fun x hx => by simp at hx)
  refine ⟨r, ?_, h2⟩
  simp only [perigeeref10_number.f]
  exact h1
/-- Many numbers. -/
structure Puts (l m r : List Int) : Prop where
  up : r.Pairwise (· < ·)
  mem : ∀ x, x ∈ r ↔ x ∈ l ∨ x ∈ m
  len : r.length ≤ l.length + m.length
theorem numAll_ev : ∀ (m l : List Int), l.Pairwise (· < ·) → l.length + m.length ≤ 1000000 → ∃ r, Ev (fun k => numAll k m l) r ∧ Puts l m r
  | [], l, hl, hs => ⟨l, Ev.now _, ⟨hl, fun x => by simp, by simp⟩⟩
  | a :: m, l, hl, hs => by
    rw [List.length_cons] at hs
    obtain ⟨t, h1, h2⟩ := number_ev l a hl (by omega)
    have ht := h2.len
    obtain ⟨r, h3, h4⟩ := numAll_ev m t h2.up (by omega)
    refine ⟨r, Ev.bind h1 h3, ⟨h4.up, fun x => ?_, by rw [List.length_cons]; have := h4.len; omega⟩⟩
    rw [h4.mem, h2.mem, List.mem_cons]
    constructor
    · rintro ((h | h) | h)
      · exact Or.inl h
      · exact Or.inr (Or.inl h)
      · exact Or.inr (Or.inr h)
    · rintro (h | h | h)
      · exact Or.inl (Or.inl h)
      · exact Or.inl (Or.inr h)
      · exact Or.inr h
/-- The numbers of a pass. -/
def numsP (p : S33) : List Int := p.f1 :: p.f2 :: p.f3.map (·.f0)
theorem timesGo_ev {ps : List S33} : ∀ (bk l : List Int), (∀ b ∈ bk, (0 ≤ b ∧ b < (ps.length : Int)) ∧ (rd_T33 ps b).f3.length ≤ 50) → l.Pairwise (· < ·) → l.length + 52 * bk.length ≤ 1000000 → ∃ r, Ev (fun k => timesGo k ps bk l) r ∧ r.Pairwise (· < ·) ∧ (∀ x, x ∈ r ↔ x ∈ l ∨ ∃ b ∈ bk, x ∈ numsP (rd_T33 ps b)) ∧ r.length ≤ l.length + 52 * bk.length
  | [], l, _, hl, _ => ⟨l, Ev.now _, hl, fun x => by simp, by simp⟩
  | b :: bk, l, hb, hl, hs => by
    rw [List.length_cons] at hs
    obtain ⟨hb1, hb2⟩ := hb b List.mem_cons_self
    obtain ⟨t1, h1, g1⟩ := number_ev l (rd_T33 ps b).f1 hl (by omega)
    have l1 := g1.len
    obtain ⟨t2, h2, g2⟩ := number_ev t1 (rd_T33 ps b).f2 g1.up (by omega)
    have l2 := g2.len
    have hm : ((rd_T33 ps b).f3.map (fun s : S75 => s.f0)).length ≤ 50 := by rw [List.length_map]; exact hb2
    obtain ⟨t3, h3, g3⟩ := numAll_ev ((rd_T33 ps b).f3.map (·.f0)) t2 g2.up (by omega)
    have l3 := g3.len
    obtain ⟨r, h4, g4, g5, g6⟩ := timesGo_ev bk t3 (fun x hx => hb x (List.mem_cons_of_mem _ hx)) g3.up (by omega)
    refine ⟨r, ?_, g4, fun x => ?_, by rw [List.length_cons]; omega⟩
    · simp only [timesGo, if_pos hb1]
      exact Ev.bind h1 (Ev.bind h2 (Ev.bind h3 h4))
    · rw [g5, g3.mem, g2.mem, g1.mem]
      constructor
      · rintro ((((h | h) | h) | h) | ⟨c, hc, h⟩)
        · exact Or.inl h
        · exact Or.inr ⟨b, List.mem_cons_self, by unfold numsP; rw [h]; exact List.mem_cons_self⟩
        · exact Or.inr ⟨b, List.mem_cons_self, by unfold numsP; rw [h]; exact List.mem_cons_of_mem _ List.mem_cons_self⟩
        · exact Or.inr ⟨b, List.mem_cons_self, List.mem_cons_of_mem _ (List.mem_cons_of_mem _ h)⟩
        · exact Or.inr ⟨c, List.mem_cons_of_mem _ hc, h⟩
      · rintro (h | ⟨c, hc, h⟩)
        · exact Or.inl (Or.inl (Or.inl (Or.inl h)))
        · rcases List.mem_cons.1 hc with rfl | hc
          · unfold numsP at h
            rcases List.mem_cons.1 h with h | h
            · exact Or.inl (Or.inl (Or.inl (Or.inr h)))
            · rcases List.mem_cons.1 h with h | h
              · exact Or.inl (Or.inl (Or.inr h))
              · exact Or.inl (Or.inr h)
          · exact Or.inr ⟨c, hc, h⟩
/-- The reference's moments. -/
theorem times_ev {ps : List S33} {bk : List Int} (q : List S63) (u : Int) (hb : ∀ b ∈ bk, (0 ≤ b ∧ b < (ps.length : Int)) ∧ (rd_T33 ps b).f3.length ≤ 50) (hbl : bk.length ≤ 100) (hq : q.length ≤ 300) :
    ∃ t1 ts, Ev (fun k => timesGo k ps bk [u]) t1 ∧ Ev (fun k => numAll k (q.map (·.f3)) t1) ts ∧ ts.Pairwise (· < ·) ∧ (∀ x, x ∈ ts ↔ x = u ∨ (∃ b ∈ bk, x ∈ numsP (rd_T33 ps b)) ∨ ∃ y ∈ q, y.f3 = x) ∧ ts.length ≤ 1000000 := by
  obtain ⟨t1, h1, h2, h3, h4⟩ := timesGo_ev (ps := ps) bk [u] hb (List.pairwise_singleton _ _) (by rw [List.length_singleton]; omega)
  rw [List.length_singleton] at h4
  have hm : (q.map (fun y : S63 => y.f3)).length = q.length := List.length_map _
  obtain ⟨ts, h5, h6⟩ := numAll_ev (q.map (·.f3)) t1 h2 (by omega)
  refine ⟨t1, ts, h1, h5, h6.up, fun x => ?_, by have := h6.len; omega⟩
  rw [h6.mem, h3, List.mem_singleton, List.mem_map]
  constructor
  · rintro ((h | h) | h)
    · exact Or.inl h
    · exact Or.inr (Or.inl h)
    · exact Or.inr (Or.inr h)
  · rintro (h | h | h)
    · exact Or.inl (Or.inl h)
    · exact Or.inl (Or.inr h)
    · exact Or.inr h
/-- A list that does not fall, each number once. -/
theorem compactUpTo_rise {d : Array Int} (hs : ∀ i j : Nat, i < j → j < d.size → d[i]! ≤ d[j]!) : ∀ m : Nat, m ≤ d.size → (Lib.compactUpTo d m).Pairwise (· < ·) ∧ (∀ x, x ∈ Lib.compactUpTo d m ↔ ∃ j, j < m ∧ d[j]! = x)
  | 0, _ => ⟨by unfold Lib.compactUpTo; exact List.Pairwise.nil, fun x => by unfold Lib.compactUpTo; simp⟩
  | m + 1, hm => by
    obtain ⟨h1, h2⟩ := compactUpTo_rise hs m (by omega)
    rw [Lib.compactUpTo_succ]
    by_cases hk : Lib.keeps d m = true
    · rw [if_pos hk]
      have hkeep : m = 0 ∨ d[m]! ≠ d[m - 1]! := by
        unfold Lib.keeps at hk
        exact of_decide_eq_true hk
      refine ⟨List.pairwise_append.2 ⟨h1, List.pairwise_singleton _ _, fun a ha b hb => ?_⟩, fun x => ?_⟩
      · obtain ⟨j, hj, rfl⟩ := (h2 a).1 ha
        rw [List.mem_singleton.1 hb]
        rcases hkeep with q | q
        · omega
        · have e1 := hs (m - 1) m (by omega) (by omega)
          by_cases e : j = m - 1
          · subst e; omega
          · have e2 := hs j (m - 1) (by omega) (by omega); omega
      · rw [List.mem_append, h2]
        constructor
        · rintro (⟨j, hj, e⟩ | e)
          · exact ⟨j, by omega, e⟩
          · exact ⟨m, by omega, (List.mem_singleton.1 e).symm⟩
        · rintro ⟨j, hj, e⟩
          by_cases q : j = m
          · right; subst q; rw [e]; exact List.mem_singleton.2 rfl
          · left; exact ⟨j, by omega, e⟩
    · rw [if_neg hk, List.append_nil]
      refine ⟨h1, fun x => ?_⟩
      rw [h2]
      have hkeep : ¬ (m = 0 ∨ d[m]! ≠ d[m - 1]!) := by
        unfold Lib.keeps at hk
        exact fun q => hk (decide_eq_true q)
      constructor
      · rintro ⟨j, hj, e⟩
        exact ⟨j, by omega, e⟩
      · rintro ⟨j, hj, e⟩
        by_cases q : j = m
        · subst q
          exact ⟨j - 1, by omega, by rw [← e]; exact (Classical.byContradiction fun z => hkeep (.inr fun y => z y.symm))⟩
        · exact ⟨j, by omega, e⟩
theorem compact_rise (a : List Int) : (Lib.compact (a.mergeSort fun x y => decide (x ≤ y))).Pairwise (· < ·) ∧ ∀ x, x ∈ Lib.compact (a.mergeSort fun x y => decide (x ≤ y)) ↔ x ∈ a := by
  have hp := List.mergeSort_perm a (fun x y => decide (x ≤ y))
  have hs := List.pairwise_mergeSort (le := fun x y : Int => decide (x ≤ y)) (fun a b c h1 h2 => by simp only [decide_eq_true_eq] at *; omega) (fun a b => by simp only [Bool.or_eq_true, decide_eq_true_eq]; omega) a
  generalize hz : (a.mergeSort fun x y => decide (x ≤ y)) = z at *
  have hc := compactUpTo_rise (d := z.toArray) (fun i j hij hj => by
    have hj' : j < z.length := by simpa using hj
    have := List.pairwise_iff_getElem.1 hs i j (by omega) hj' hij
    simp only [decide_eq_true_eq] at this
    simpa [hj', show i < z.length by omega] using this) z.length (by simp)
  refine ⟨hc.1, fun x => ?_⟩
  show x ∈ Lib.compactUpTo z.toArray z.length ↔ _
  rw [hc.2, ← hp.mem_iff, List.mem_iff_getElem]
  constructor
  · rintro ⟨j, hj, e⟩
    exact ⟨j, hj, by simpa [hj] using e⟩
  · rintro ⟨j, hj, e⟩
    exact ⟨j, hj, by simpa [hj] using e⟩
theorem mem_momAll {q : List S63} {ways : List (List S81)} {x : Int} : x ∈ momAll q ways ↔ (∃ w ∈ ways, ∃ s ∈ w, x = s.f0 ∨ x = s.f1) ∨ ∃ y ∈ q, y.f3 = x := by
  unfold momAll momW momS
  simp only [List.mem_append, List.mem_flatMap, List.mem_map, List.mem_cons, List.not_mem_nil, or_false]
theorem momW_len : ∀ (ways : List (List S81)), (∀ w ∈ ways, w.length ≤ 50) → (momW ways).length ≤ 100 * ways.length
  | [], _ => Nat.le_refl _
  | w :: r, h => by
    have ih := momW_len r (fun x hx => h x (List.mem_cons_of_mem _ hx))
    have h1 := h w List.mem_cons_self
    have h2 := momS_len w
    unfold momW at ih ⊢
    rw [List.flatMap_cons, List.length_append, List.length_cons]
    omega
end Go.Proofs.Ytbngmblgkkdhpaa.Q
