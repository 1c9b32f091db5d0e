/- Plain laws of chapter 9: the spans in which more than so many loads are on, as the program and the reference find them. -/
-- Made by wip/tools/claimp.py of this session's texts; Lean checks it.
import Derived.Test.YtplcdpiggpkppaaC11PowH
import Derived.Test.YtplcdpiggpkppaaC11Ge25
import Derived.Test.YtplcdpiggpkppaaC11Ge27
import Derived.Test.YtplcdpiggpkppaaC11Ge26
set_option linter.unusedVariables false
set_option linter.unusedSimpArgs false
namespace Go.Proofs.Ytplcdpiggpkppaa.Q
open Go.RowKit Go.Proofs.YtplcdpiggpkppaaW.PrintWords Go.Proofs.YtplcdpiggpkppaaW.PrintLast Go.Proofs.YtplcdpiggpkppaaW.PrintMore Go.Proofs.Ytplcdpiggpkppaa.Base
def conV (bl : List ByteArray) (x : ByteArray) : Bool := bl.any fun y => decide (x.toList = y.toList)
theorem contains_str_ev (bl : List ByteArray) (x : ByteArray) (hl : bl.length ≤ 1000000) : Ev (fun k => slices_Contains_string_string.f k bl x) (conV bl x) := by
  have hix : ∃ t : Int, Ev (fun k => slices_Index_string_string.f k bl x) t ∧ (t ≥ 0 ↔ conV bl x = true) := by
    simp only [slices_Index_string_string.f]
    have main : ∀ d i : Nat, i + d = bl.length → (∀ j (hj : j < bl.length), j < i → x.toList ≠ bl[j].toList) → ∃ t : Int, Ev (fun k => slices_Index_string_string.l0 k bl x (bl.length : Int) (i : Int)) t ∧ (t ≥ 0 ↔ conV bl x = true) := by
      intro d
      induction d with
      | zero =>
        intro i hi hP
        refine ⟨-1, ?_, ?_⟩
        · refine Ev.step (fun k => slices_Index_string_string.l0.eq_2 ..) ?_
          simp only [if_neg (show ¬ (i : Int) < bl.length by omega)]
          exact Ev.now _
        · refine ⟨fun q => by omega, fun q => ?_⟩
          unfold conV at q
          obtain ⟨y, hy, e⟩ := List.any_eq_true.1 q
          obtain ⟨j, hj, rfl⟩ := List.mem_iff_getElem.1 hy
          exact absurd (of_decide_eq_true e) (hP j hj (by omega))
      | succ d ih =>
        intro i hi hP
        have hlt : i < bl.length := by omega
        have hrd : rdOf ByteArray.empty bl (i : Int) = bl[i] := by
          unfold rdOf
          simp [List.getD_eq_getElem?_getD, List.getElem?_eq_getElem hlt]
        by_cases e : x.toList = bl[i].toList
        · refine ⟨(i : Int), ?_, ?_⟩
          · refine Ev.step (fun k => slices_Index_string_string.l0.eq_2 ..) ?_
            simp only [if_pos (show (i : Int) < bl.length by omega), if_pos (show (0 : Int) ≤ i by omega), hrd, if_pos e]
            exact Ev.now _
          · exact ⟨fun _ => List.any_eq_true.2 ⟨_, List.getElem_mem hlt, decide_eq_true e⟩, fun _ => by omega⟩
        · obtain ⟨t, ht, hm⟩ := ih (i + 1) (by omega) (fun j hj hji => by
            by_cases q : j = i
            · subst q; exact e
            · exact hP j hj (by omega))
          refine ⟨t, ?_, hm⟩
          refine Ev.step (fun k => slices_Index_string_string.l0.eq_2 ..) ?_
          simp only [if_pos (show (i : Int) < bl.length by omega), if_pos (show (0 : Int) ≤ i by omega), hrd, if_neg e, w64 (x := (i : Int) + 1) (by omega) (by omega)]
          exact ht
    exact main bl.length 0 (by omega) (fun j hj hji => by omega)
  obtain ⟨t, ht, hm⟩ := hix
  simp only [slices_Contains_string_string.f]
  refine Ev.bind ht ?_
  have e : decide (t ≥ 0) = conV bl x := by
    cases q : conV bl x with
    | true => exact decide_eq_true (hm.2 q)
    | false => exact decide_eq_false (fun z => by rw [hm.1 z] at q; cases q)
  rw [e]
  exact Ev.now _
def barE (bl : List ByteArray) (u : List S47) : List (Int × Int × Int) := brE (u.map fun x => conV bl x.f0) u u.length
theorem bools_ev (bl : List ByteArray) (hl : bl.length ≤ 1000000) : ∀ u : List S47, Ev (fun k => boolsB k bl u) (u.map fun x => conV bl x.f0)
  | [] => Ev.now _
  | x :: u => by
    unfold boolsB
    refine Ev.bind (contains_str_ev bl x.f0 hl) ?_
    refine Ev.bind (bools_ev bl hl u) ?_
    exact Ev.now _
theorem bools_at {bl : List ByteArray} {u : List S47} {i : Nat} (hi : i < u.length) : (u.map fun x => conV bl x.f0).getD i false = conV bl (rd_T47 u (i : Int)).f0 := by
  rw [rdU_get hi, List.getD_eq_getElem?_getD, List.getElem?_map, List.getElem?_eq_getElem hi]
  rfl
theorem brE_mem {bs : List Bool} {u : List S47} : ∀ (i : Nat), i ≤ u.length → ∀ e ∈ brE bs u i, ∃ x ∈ u, e = (x.f1, x.f2, 1)
  | 0, _, e, h => by cases h
  | i + 1, hi, e, h => by
    unfold brE at h
    rcases List.mem_append.1 h with q | q
    · exact brE_mem i (by omega) e q
    · split at q
      · exact ⟨u[i], List.getElem_mem (by omega), by rw [List.mem_singleton.1 q, rdU_get (by omega)]⟩
      · cases q
/-- How many of the first uses are on. -/
theorem brE_bd (bs : List Bool) (u : List S47) (t : Int) : ∀ i : Nat, 0 ≤ chg t (brE bs u i) ∧ chg t (brE bs u i) ≤ i
  | 0 => ⟨Int.le_refl _, Int.le_refl _⟩
  | i + 1 => by
    have ih := brE_bd bs u t i
    unfold brE
    rw [chg_append]
    split
    · simp only [chg]
      split <;> omega
    · simp only [chg]
      omega
theorem ref_on_ev {l : List S76} {u : List S47} (h : GoodUses l u) (bl : List ByteArray) (hl : bl.length ≤ 1000000) (t : Int) : Ev (fun k => perigeeref9_on.f k u bl t) (chg t (barE bl u)) := by
  have hf := h.few
  simp only [perigeeref9_on.f]
  refine Ev.loop (L := fun k i => perigeeref9_on.l0 k bl t (chg t (brE (u.map fun x => conV bl x.f0) u i)) u (u.length : Int) (i : Int)) (v := fun _ => chg t (barE bl u)) u.length ?_ ?_ u.length 0 (by omega)
  · refine Ev.step (fun k => perigeeref9_on.l0.eq_2 ..) ?_
    simp only [if_neg (show ¬ (u.length : Int) < u.length by omega)]
    exact Ev.now _
  · intro i hi ih
    have hb := brE_bd (u.map fun x => conV bl x.f0) u t i
    have hsp := h.span hi
    unfold inM at hsp
    have hat := bools_at (bl := bl) hi
    have e : chg t (brE (u.map fun x => conV bl x.f0) u (i + 1)) = chg t (brE (u.map fun x => conV bl x.f0) u i) + chg t (if (u.map fun x => conV bl x.f0).getD i false = true then [((rd_T47 u (i : Int)).f1, (rd_T47 u (i : Int)).f2, 1)] else []) := chg_append _ _ _
    rw [hat] at e
    refine Ev.step (fun k => perigeeref9_on.l0.eq_2 ..) ?_
    simp only [if_pos (show (i : Int) < u.length by omega), if_pos (show (0 : Int) ≤ i by omega), w64 (x := (i : Int) + 1) (by omega) (by omega)]
    refine Ev.bind (contains_str_ev bl _ hl) ?_
    refine Ev.ite (fun h1 => ?_) (fun h1 => ?_)
    · rw [h1, if_pos rfl] at e
      simp only [within_eq, Option.bind_some, w64 (x := (rd_T47 u (i : Int)).f2 - 1) (by omega) (by omega), decide_eq_true_eq]
      refine Ev.ite (fun h2 => ?_) (fun h2 => ?_)
      · have e2 : chg t [((rd_T47 u (i : Int)).f1, (rd_T47 u (i : Int)).f2, (1 : Int))] = 1 := by
          simp only [chg]
          rw [if_pos (by omega)]
          rfl
        rw [e2] at e
        rw [w64 (x := chg t (brE (u.map fun x => conV bl x.f0) u i) + 1) (by omega) (by omega), ← e]
        exact ih
      · have e2 : chg t [((rd_T47 u (i : Int)).f1, (rd_T47 u (i : Int)).f2, (1 : Int))] = 0 := by
          simp only [chg]
          rw [if_neg (by omega)]
          rfl
        rw [e2, Int.add_zero] at e
        rw [e] at ih
        exact ih
    · rw [if_neg h1] at e
      rw [show chg t ([] : List (Int × Int × Int)) = 0 from rfl, Int.add_zero] at e
      rw [e] at ih
      exact ih
def setLast (out : List S57) (t : Int) : List S57 := out.set (out.length - 1) (⟨(out.getD (out.length - 1) ⟨0, 0, 0⟩).f0, (out.getD (out.length - 1) ⟨0, 0, 0⟩).f1, t⟩ : S57)
theorem setLast_snoc (pre : List S57) (x : S57) (t : Int) : setLast (pre ++ [x]) t = pre ++ [(⟨x.f0, x.f1, t⟩ : S57)] := by
  unfold setLast
  have hl : (pre ++ [x]).length - 1 = pre.length := by simp
  rw [hl, List.set_append_right _ _ (Nat.le_refl _), Nat.sub_self]
  simp
/-- Behind moments: each is told by the test b; p: what the test told of the one before. -/
def progB (b : Int → Bool) (num : Int) : List Int → Bool → List S57 → List S57
  | [], _, out => out
  | t :: ts, p, out => if p = false ∧ b t = true then progB b num ts true (out ++ [(⟨num, t, 0⟩ : S57)]) else if p = true ∧ b t = false then progB b num ts false (setLast out t) else progB b num ts (b t) out
/-- From each moment to the next one. -/
def refB (b : Int → Bool) (num : Int) : List Int → List S57 → List S57
  | [], out => out
  | [_], out => out
  | t :: v :: ts, out => refB b num (v :: ts) (if b t = false then out else if 0 < out.length ∧ (out.getD (out.length - 1) ⟨0, 0, 0⟩).f2 = t then setLast out v else out ++ [(⟨num, t, v⟩ : S57)])
/-- Where both stand behind a moment. -/
def BothAt (b : Int → Bool) (num t : Int) (P R : List S57) : Prop :=
  (∀ x ∈ R, x.f2 ≤ t) ∧ (if b t = true then ∃ pre s, P = pre ++ [(⟨num, s, 0⟩ : S57)] ∧ (R = pre ++ [(⟨num, s, t⟩ : S57)] ∨ (R = pre ∧ s = t ∧ ∀ x ∈ pre, x.f2 < t)) else P = R)
theorem BothAt.step {b : Int → Bool} {num t v : Int} {P R : List S57} (htv : t < v) (h : BothAt b num t P R) :
    BothAt b num v (if b t = false ∧ b v = true then P ++ [(⟨num, v, 0⟩ : S57)] else if b t = true ∧ b v = false then setLast P v else P) (if b t = false then R else if 0 < R.length ∧ (R.getD (R.length - 1) ⟨0, 0, 0⟩).f2 = t then setLast R v else R ++ [(⟨num, t, v⟩ : S57)]) := by
  obtain ⟨h1, h2⟩ := h
  cases hb : b t with
  | true =>
    rw [hb, if_pos rfl] at h2
    obtain ⟨pre, s, rfl, hR⟩ := h2
    have hR' : (if 0 < R.length ∧ (R.getD (R.length - 1) ⟨0, 0, 0⟩).f2 = t then setLast R v else R ++ [(⟨num, t, v⟩ : S57)]) = pre ++ [(⟨num, s, v⟩ : S57)] := by
      rcases hR with rfl | ⟨rfl, rfl, hlt⟩
      · rw [if_pos (by simp), setLast_snoc]
      · rw [if_neg]
        rintro ⟨q1, q2⟩
        have hm : R.getD (R.length - 1) ⟨0, 0, 0⟩ ∈ R := by
          rw [List.getD_eq_getElem?_getD, List.getElem?_eq_getElem (show R.length - 1 < R.length by omega)]
          exact List.getElem_mem _
        have := hlt _ hm
        omega
    have hpre : ∀ x ∈ pre, x.f2 ≤ t := by
      intro x hx
      rcases hR with rfl | ⟨rfl, _, _⟩
      · exact h1 x (List.mem_append_left _ hx)
      · exact h1 x hx
    simp only [if_neg (show ¬ (true = false) by decide), hR', if_neg (show ¬ (true = false ∧ b v = true) from fun q => by cases q.1), true_and]
    refine ⟨fun x hx => ?_, ?_⟩
    · rcases List.mem_append.1 hx with q | q
      · have := hpre x q; omega
      · rw [List.mem_singleton.1 q]; exact Int.le_refl _
    · cases hv : b v with
      | true =>
        rw [if_pos rfl, if_neg (by decide)]
        exact ⟨pre, s, rfl, .inl rfl⟩
      | false =>
        rw [if_neg (by decide), if_pos rfl, setLast_snoc]
  | false =>
    rw [hb, if_neg (by decide)] at h2
    subst h2
    simp only [if_true, true_and, if_neg (show ¬ (false = true ∧ b v = false) from fun q => by cases q.1)]
    refine ⟨fun x hx => by have := h1 x hx; omega, ?_⟩
    cases hv : b v with
    | true =>
      rw [if_pos rfl, if_pos rfl]
      exact ⟨P, v, rfl, .inr ⟨rfl, rfl, fun x hx => by have := h1 x hx; omega⟩⟩
    | false =>
      rw [if_neg (by decide), if_neg (by decide)]
theorem prog_ref {b : Int → Bool} {num : Int} : ∀ (ts : List Int) (t : Int) (P R : List S57), Up (t :: ts) → (∀ x ∈ t :: ts, (∀ y ∈ t :: ts, y ≤ x) → b x = false) → BothAt b num t P R → progB b num ts (b t) P = refB b num (t :: ts) R
  | [], t, P, R, _, hl, h => by
    have hb := hl t List.mem_cons_self (fun y hy => by rw [List.mem_singleton.1 hy]; exact Int.le_refl _)
    have h2 := h.2
    rw [hb, if_neg (by decide)] at h2
    exact h2
  | v :: ts, t, P, R, hu, hl, h => by
    have htv := (List.pairwise_cons.1 hu).1 v List.mem_cons_self
    have k := BothAt.step htv h
    have ih := prog_ref ts v _ _ (List.pairwise_cons.1 hu).2 (fun x hx hy => hl x (List.mem_cons_of_mem _ hx) (fun y hy' => by
      rcases List.mem_cons.1 hy' with q | q
      · subst q
        have := hy v List.mem_cons_self
        omega
      · exact hy y q)) k
    have e : progB b num (v :: ts) (b t) P = progB b num ts (b v) (if b t = false ∧ b v = true then P ++ [(⟨num, v, 0⟩ : S57)] else if b t = true ∧ b v = false then setLast P v else P) := by
      show (if b t = false ∧ b v = true then progB b num ts true (P ++ [(⟨num, v, 0⟩ : S57)]) else if b t = true ∧ b v = false then progB b num ts false (setLast P v) else progB b num ts (b v) P) = _
      by_cases c1 : b t = false ∧ b v = true
      · rw [if_pos c1, if_pos c1, c1.2]
      · rw [if_neg c1, if_neg c1]
        by_cases c2 : b t = true ∧ b v = false
        · rw [if_pos c2, if_pos c2, c2.2]
        · rw [if_neg c2, if_neg c2]
    rw [e, ih]
    rfl
theorem prog_ref_all {b : Int → Bool} {num : Int} {T : List Int} (hu : Up T) (hl : ∀ x ∈ T, (∀ y ∈ T, y ≤ x) → b x = false) : progB b num T false [] = refB b num T [] := by
  cases T with
  | nil => rfl
  | cons t ts =>
    have h0 : BothAt b num t (if b t = true then [(⟨num, t, 0⟩ : S57)] else []) [] := by
      refine ⟨fun x hx => (by cases hx), ?_⟩
      cases hb : b t with
      | true => rw [if_pos rfl, if_pos rfl]; exact ⟨[], t, rfl, .inr ⟨rfl, rfl, fun x hx => by cases hx⟩⟩
      | false => rw [if_neg (by decide), if_neg (by decide)]
    have k := prog_ref ts t _ _ hu hl h0
    rw [← k]
    show (if false = false ∧ b t = true then progB b num ts true ([] ++ [(⟨num, t, 0⟩ : S57)]) else if false = true ∧ b t = false then progB b num ts false (setLast [] t) else progB b num ts (b t) []) = _
    cases hb : b t with
    | true => rw [if_pos ⟨rfl, rfl⟩, if_pos rfl]; rfl
    | false => rw [if_neg (by simp), if_neg (by simp), if_neg (by decide)]
/-- Moments at which nothing turns may be left out. -/
theorem prog_skip {A : List (Int × Int)} {num most : Int} : ∀ (T : List Int) (p : Int) (out : List S57), Up (p :: T) → (∀ e ∈ A, e.1 ≤ p ∨ e.1 ∈ T) →
    progB (fun t => decide (most < cum t A)) num (T.filter fun x => decide (x ∈ keysV A)) (decide (most < cum p A)) out = progB (fun t => decide (most < cum t A)) num T (decide (most < cum p A)) out
  | [], _, _, _, _ => rfl
  | t :: T, p, out, hu, hA => by
    have hpt := (List.pairwise_cons.1 hu).1 t List.mem_cons_self
    have hu' := (List.pairwise_cons.1 hu).2
    have hA' : ∀ e ∈ A, e.1 ≤ t ∨ e.1 ∈ T := fun e he => by
      rcases hA e he with q | q
      · left; omega
      · rcases List.mem_cons.1 q with q | q
        · left; omega
        · exact .inr q
    by_cases hk : t ∈ keysV A
    · rw [List.filter_cons, if_pos (by simpa using hk)]
      have ih := fun o => prog_skip (num := num) (most := most) T t o hu' hA'
      unfold progB
      split
      · rename_i c
        have := ih (out ++ [(⟨num, t, 0⟩ : S57)])
        rw [c.2] at this
        exact this
      · split
        · rename_i c
          have := ih (setLast out t)
          rw [c.2] at this
          exact this
        · exact ih out
    · rw [List.filter_cons, if_neg (by simpa using hk)]
      have hc : cum t A = cum p A := cum_same (Int.le_of_lt hpt) A (fun e he => by
        rcases hA e he with q | q
        · exact .inl q
        · right
          rcases List.mem_cons.1 q with q | q
          · exact absurd ((mem_keysV t A).2 ⟨e, he, q⟩) hk
          · exact (List.pairwise_cons.1 hu').1 _ q)
      have ih := prog_skip (num := num) (most := most) T t out hu' hA'
      rw [hc] at ih
      rw [ih]
      conv => rhs; unfold progB
      rw [hc]
      cases decide (most < cum p A) <;> simp
theorem brokenGo_is {A : List (Int × Int)} {num most : Int} : ∀ (ts : List Int) (p : Int) (out : List S57), Up (p :: ts) → (∀ e ∈ A, e.1 ≤ p ∨ e.1 ∈ ts) → (most < cum p A → 0 < out.length) →
    brokenGo A num most ts (cum p A) out = some (progB (fun t => decide (most < cum t A)) num ts (decide (most < cum p A)) out)
  | [], p, out, _, _, _ => rfl
  | t :: ts, p, out, hu, hA, hne => by
    have hpt := (List.pairwise_cons.1 hu).1 t List.mem_cons_self
    have hu' := (List.pairwise_cons.1 hu).2
    have hlate : ∀ e ∈ A, e.1 ≤ p ∨ t ≤ e.1 := fun e he => by
      rcases hA e he with q | q
      · exact .inl q
      · rcases List.mem_cons.1 q with q | q
        · omega
        · have := (List.pairwise_cons.1 hu').1 _ q; omega
    have hA' : ∀ e ∈ A, e.1 ≤ t ∨ e.1 ∈ ts := fun e he => by
      rcases hA e he with q | q
      · left; omega
      · rcases List.mem_cons.1 q with q | q
        · left; omega
        · exact .inr q
    have hnow : cum p A + delta t A = cum t A := (cum_next hpt A hlate).symm
    by_cases c1 : cum p A ≤ most ∧ most < cum t A
    · have L : brokenGo A num most (t :: ts) (cum p A) out = brokenGo A num most ts (cum t A) (out ++ [(⟨num, t, 0⟩ : S57)]) := by rw [brokenGo, hnow, if_pos c1]
      have R : progB (fun t => decide (most < cum t A)) num (t :: ts) (decide (most < cum p A)) out = progB (fun t => decide (most < cum t A)) num ts true (out ++ [(⟨num, t, 0⟩ : S57)]) := by rw [progB, if_pos ⟨decide_eq_false (by omega), decide_eq_true c1.2⟩]
      have k := brokenGo_is (num := num) (most := most) ts t (out ++ [(⟨num, t, 0⟩ : S57)]) hu' hA' (fun _ => by simp)
      rw [decide_eq_true c1.2] at k
      rw [L, R, k]
    · by_cases c2 : most < cum p A ∧ cum t A ≤ most
      · have h0 := hne c2.1
        have L : brokenGo A num most (t :: ts) (cum p A) out = brokenGo A num most ts (cum t A) (setLast out t) := by rw [brokenGo, hnow, if_neg c1, if_pos c2, if_neg (by omega)]; rfl
        have R : progB (fun t => decide (most < cum t A)) num (t :: ts) (decide (most < cum p A)) out = progB (fun t => decide (most < cum t A)) num ts false (setLast out t) := by
          rw [progB, if_neg (fun q => by rw [decide_eq_true c2.1] at q; cases q.1), if_pos ⟨decide_eq_true c2.1, decide_eq_false (by omega)⟩]
        have k := brokenGo_is (num := num) (most := most) ts t (setLast out t) hu' hA' (fun q => by omega)
        rw [decide_eq_false (show ¬ most < cum t A by omega)] at k
        rw [L, R, k]
      · have L : brokenGo A num most (t :: ts) (cum p A) out = brokenGo A num most ts (cum t A) out := by rw [brokenGo, hnow, if_neg c1, if_neg c2]
        have R : progB (fun t => decide (most < cum t A)) num (t :: ts) (decide (most < cum p A)) out = progB (fun t => decide (most < cum t A)) num ts (decide (most < cum t A)) out := by
          rw [progB, if_neg (fun q => c1 ⟨by have := of_decide_eq_false q.1; omega, of_decide_eq_true q.2⟩), if_neg (fun q => c2 ⟨of_decide_eq_true q.1, by have := of_decide_eq_false q.2; omega⟩)]
        have k := brokenGo_is (num := num) (most := most) ts t out hu' hA' (fun q => hne (by
          apply Classical.byContradiction
          intro z
          exact c1 ⟨by omega, q⟩))
        rw [L, R, k]
theorem progB_len {b : Int → Bool} {num : Int} : ∀ (ts : List Int) (p : Bool) (out : List S57), (progB b num ts p out).length ≤ out.length + ts.length
  | [], _, out => Nat.le_refl _
  | t :: ts, p, out => by
    unfold progB
    split
    · have := progB_len (b := b) (num := num) ts true (out ++ [(⟨num, t, 0⟩ : S57)])
      rw [List.length_append] at this
      simp only [List.length_cons, List.length_nil] at *
      omega
    · split
      · have := progB_len (b := b) (num := num) ts false (setLast out t)
        unfold setLast at this
        rw [List.length_set] at this
        simp only [List.length_cons]
        unfold setLast
        omega
      · have := progB_len (b := b) (num := num) ts (b t) out
        simp only [List.length_cons]
        omega
def allE (u : List S47) : List (Int × Int × Int) := u.map fun x => (x.f1, x.f2, 0)
def accB (u : List S47) : Nat → List Int
  | 0 => []
  | i + 1 => accB u i ++ [(rd_T47 u i).f1, (rd_T47 u i).f2]
theorem accB_length (u : List S47) : ∀ i, (accB u i).length = 2 * i
  | 0 => rfl
  | i + 1 => by unfold accB; rw [List.length_append, accB_length u i]; simp only [List.length_cons, List.length_nil]; omega
theorem mem_accB {u : List S47} {x : Int} : ∀ i, i ≤ u.length → (x ∈ accB u i ↔ ∃ y ∈ u.take i, x = y.f1 ∨ x = y.f2)
  | 0, _ => by simp [accB]
  | i + 1, hi => by
    have hlt : i < u.length := by omega
    unfold accB
    rw [List.mem_append, mem_accB i (by omega), List.take_add_one, List.getElem?_eq_getElem hlt, rdU_get hlt]
    simp only [Option.toList_some, List.mem_append, List.mem_cons, List.not_mem_nil, or_false]
    constructor
    · rintro (⟨y, h1, h2⟩ | h)
      · exact ⟨y, .inl h1, h2⟩
      · exact ⟨u[i], .inr rfl, h⟩
    · rintro ⟨y, h1 | rfl, h2⟩
      · exact .inl ⟨y, h1, h2⟩
      · exact .inr h2
theorem accB_keys (u : List S47) (x : Int) : x ∈ accB u u.length ↔ ∃ e ∈ addsOf (allE u), e.1 = x := by
  rw [mem_accB u.length (Nat.le_refl _), List.take_of_length_le (Nat.le_refl _), mem_adds]
  unfold allE
  constructor
  · rintro ⟨y, h1, h2⟩
    exact ⟨_, List.mem_map_of_mem h1, h2⟩
  · rintro ⟨e, h1, h2⟩
    obtain ⟨y, h3, rfl⟩ := List.mem_map.1 h1
    exact ⟨y, h3, h2⟩
theorem ref_pairs {l : List S76} {u : List S47} (h : GoodUses l u) {bl : List ByteArray} (hbl : bl.length ≤ 1000000) {num most : Int} {T : List Int} (hT : T.length ≤ 2000) :
    ∀ (d i : Nat) (out : List S57), i + d = T.length → out.length ≤ i → Ev (fun k => perigeeref9_broken.l1 k u num T out (i : Int) bl most) (refB (fun t => decide (most < chg t (barE bl u))) num (T.drop i) out) := by
  intro d
  induction d with
  | zero =>
    intro i out hi ho
    rw [List.drop_of_length_le (by omega)]
    refine Ev.step (fun k => perigeeref9_broken.l1.eq_2 ..) ?_
    simp only [w64 (x := (i : Int) + 1) (by omega) (by omega), if_neg (show ¬ (i : Int) + 1 < T.length by omega)]
    exact Ev.now _
  | succ d ih =>
    intro i out hi ho
    have hlt : i < T.length := by omega
    have hdr := rd_drop hlt
    refine Ev.step (fun k => perigeeref9_broken.l1.eq_2 ..) ?_
    simp only [w64 (x := (i : Int) + 1) (by omega) (by omega)]
    refine Ev.ite (fun h1 => ?_) (fun h1 => ?_)
    · have hlt2 : i + 1 < T.length := by omega
      have hdr2 := rd_drop hlt2
      rw [show (((i + 1 : Nat) : Int)) = (i : Int) + 1 by omega] at hdr2
      have e : refB (fun t => decide (most < chg t (barE bl u))) num (T.drop i) out = refB (fun t => decide (most < chg t (barE bl u))) num (T.drop (i + 1)) (if decide (most < chg (rd T (i : Int)) (barE bl u)) = false then out else if 0 < out.length ∧ (out.getD (out.length - 1) ⟨0, 0, 0⟩).f2 = rd T (i : Int) then setLast out (rd T ((i : Int) + 1)) else out ++ [(⟨num, rd T (i : Int), rd T ((i : Int) + 1)⟩ : S57)]) := by
        rw [hdr, hdr2]
        rfl
      rw [e]
      have hnext : ∀ out' : List S57, out'.length ≤ i + 1 → Ev (fun k => perigeeref9_broken.l1 k u num T out' ((i : Int) + 1) bl most) (refB (fun t => decide (most < chg t (barE bl u))) num (T.drop (i + 1)) out') := fun out' q => by
        have := ih (i + 1) out' (by omega) q
        rw [show (((i + 1 : Nat) : Int)) = (i : Int) + 1 by omega] at this
        exact this
      simp only [if_pos (show (0 : Int) ≤ i by omega), if_pos (show (i : Int) < T.length by omega), if_pos (show (0 : Int) ≤ (i : Int) + 1 by omega)]
      refine Ev.bind (ref_on_ev h bl hbl _) ?_
      refine Ev.ite (fun h2 => ?_) (fun h2 => ?_)
      · rw [if_pos (decide_eq_false (by omega))]
        exact hnext out (by omega)
      · rw [if_neg (show ¬ decide (most < chg (rd T (i : Int)) (barE bl u)) = false by rw [decide_eq_true (show most < chg (rd T (i : Int)) (barE bl u) by omega)]; decide)]
        refine Ev.ite (fun h3 => ?_) (fun h3 => ?_)
        · have hw : wrap64 ((out.length : Int) - 1) = ((out.length - 1 : Nat) : Int) := by rw [w64 (by omega) (by omega)]; omega
          have hlast : rd_T57 out ((out.length - 1 : Nat) : Int) = out.getD (out.length - 1) ⟨0, 0, 0⟩ := by
            unfold rd_T57
            rw [Int.toNat_natCast, List.getD_eq_getElem?_getD, List.getD_eq_getElem?_getD, List.getElem?_eq_getElem (show out.length - 1 < out.length by omega)]
            rfl
          simp only [hw, if_pos (show (0 : Int) ≤ ((out.length - 1 : Nat) : Int) by omega), if_pos (show ((out.length - 1 : Nat) : Int) < out.length by omega), hlast, Int.toNat_natCast]
          refine Ev.ite (fun h4 => ?_) (fun h4 => ?_)
          · rw [if_pos ⟨by omega, h4⟩]
            exact hnext _ (by rw [List.length_set]; omega)
          · rw [if_neg (fun q => h4 q.2)]
            simp only [if_pos (show out.length < 5864062014805 by omega)]
            exact hnext _ (by rw [List.length_append]; simp only [List.length_cons, List.length_nil]; omega)
        · rw [if_neg (fun q => h3 (by omega))]
          simp only [if_pos (show out.length < 5864062014805 by omega)]
          exact hnext _ (by rw [List.length_append]; simp only [List.length_cons, List.length_nil]; omega)
    · have hlen : T.length = i + 1 := by omega
      rw [hdr, List.drop_of_length_le (show T.length ≤ i + 1 by omega)]
      exact Ev.now _
/-- What both tell of a bar. -/
theorem brokens {l : List S76} {u : List S47} (h : GoodUses l u) {bl : List ByteArray} (hbl : bl.length ≤ 1000000) (num : Int) {most : Int} (hm : 0 ≤ most) :
    ∃ V : List S57, V.length ≤ 2000 ∧ Ev (fun k => power_broken.f k u num bl most) V ∧ Ev (fun k => perigeeref9_broken.f k u num bl most) V := by
  have hf := h.few
  obtain ⟨A, hA⟩ : ∃ A, addsOf (barE bl u) = A := ⟨_, rfl⟩
  have hE : ∀ e ∈ barE bl u, ∃ x ∈ u, e = (x.f1, x.f2, 1) := brE_mem u.length (Nat.le_refl _)
  have hrise : ∀ e ∈ barE bl u, e.1 ≤ e.2.1 := fun e he => by
    obtain ⟨x, hx, rfl⟩ := hE e he
    have := (h.each x hx).2.2
    show x.f1 ≤ x.f2
    omega
  have hcum : ∀ t, cum t A = chg t (barE bl u) := fun t => by rw [← hA]; exact cum_addsOf t _ hrise
  have hmemA : ∀ e ∈ A, ∃ x ∈ u, e = (x.f1, 1) ∨ e = (x.f2, -1) := fun e he => by
    rw [← hA] at he
    obtain ⟨y, hy, q⟩ := mem_addsOf he
    obtain ⟨x, hx, rfl⟩ := hE y hy
    exact ⟨x, hx, q⟩
  have hS : Small40 A := fun e he => by
    obtain ⟨x, hx, q⟩ := hmemA e he
    have := h.each x hx
    unfold inM at this
    rcases q with rfl | rfl
    · exact ⟨⟨by show (-4611686018427387904 : Int) ≤ x.f1; omega, by show x.f1 ≤ 4611686018427387904; omega⟩, by show (-68719476736 : Int) ≤ 1; omega, by show (1 : Int) ≤ 68719476736; omega⟩
    · exact ⟨⟨by show (-4611686018427387904 : Int) ≤ x.f2; omega, by show x.f2 ≤ 4611686018427387904; omega⟩, by show (-68719476736 : Int) ≤ -1; omega, by show (-1 : Int) ≤ 68719476736; omega⟩
  -- all moments
  obtain ⟨T, hT⟩ : ∃ T, keysV (addsOf (allE u)) = T := ⟨_, rfl⟩
  have hTu : Up T := hT ▸ keysV_up _
  have hTm : ∀ x, x ∈ T ↔ ∃ y ∈ u, x = y.f1 ∨ x = y.f2 := fun x => by
    rw [← hT, mem_keysV, ← accB_keys, mem_accB u.length (Nat.le_refl _), List.take_of_length_le (Nat.le_refl _)]
  have hT0 : ∀ x ∈ T, 0 ≤ x := fun x hx => by
    obtain ⟨y, hy, q⟩ := (hTm x).1 hx
    have := h.each y hy
    unfold inM at this
    omega
  have hTl : T.length ≤ 800 := by
    have e : T.length ≤ (accB u u.length).length := List.Nodup.length_le_of_subset (hTu.imp (fun {a b} (q : a < b) => by omega)) (fun x hx => (accB_keys u x).2 ((mem_keysV x _).1 (hT ▸ hx)))
    rw [accB_length] at e
    omega
  have hkeys : keysV A = T.filter fun x => decide (x ∈ keysV A) := by
    refine up_ext (keysV_up A) (hTu.sublist List.filter_sublist) fun x => ?_
    rw [List.mem_filter, decide_eq_true_eq]
    refine ⟨fun q => ⟨?_, q⟩, fun q => q.2⟩
    obtain ⟨e, he, rfl⟩ := (mem_keysV x A).1 q
    obtain ⟨y, hy, z⟩ := hmemA e he
    refine (hTm _).2 ⟨y, hy, ?_⟩
    rcases z with rfl | rfl
    · exact .inl rfl
    · exact .inr rfl
  have hzero : cum (-1) A = 0 := by
    have : ∀ B : List (Int × Int), (∀ e ∈ B, 0 ≤ e.1) → cum (-1) B = 0 := by
      intro B
      induction B with
      | nil => intro _; rfl
      | cons e B ih =>
        intro q
        simp only [cum]
        rw [if_neg (by have := q e List.mem_cons_self; omega), ih (fun x hx => q x (List.mem_cons_of_mem _ hx))]
        rfl
    refine this A (fun e he => ?_)
    obtain ⟨x, hx, q⟩ := hmemA e he
    have := h.each x hx
    unfold inM at this
    rcases q with rfl | rfl
    · exact this.1.1
    · exact this.2.1.1
  have hupT : Up ((-1) :: T) := List.pairwise_cons.2 ⟨fun x hx => by have := hT0 x hx; omega, hTu⟩
  have hAT : ∀ e ∈ A, e.1 ≤ -1 ∨ e.1 ∈ T := fun e he => .inr (by
    have : e.1 ∈ keysV A := (mem_keysV _ A).2 ⟨e, he, rfl⟩
    rw [hkeys] at this
    exact (List.mem_filter.1 this).1)
  have hlast : ∀ x ∈ T, (∀ y ∈ T, y ≤ x) → decide (most < cum x A) = false := fun x hx hy => by
    refine decide_eq_false ?_
    have : chg x (barE bl u) = 0 := by
      have : ∀ E : List (Int × Int × Int), (∀ e ∈ E, e.2.1 ≤ x) → chg x E = 0 := by
        intro E
        induction E with
        | nil => intro _; rfl
        | cons e E ih =>
          intro q
          simp only [chg]
          rw [if_neg (by have := q e List.mem_cons_self; omega), ih (fun z hz => q z (List.mem_cons_of_mem _ hz))]
          rfl
      refine this _ (fun e he => ?_)
      obtain ⟨z, hz, rfl⟩ := hE e he
      exact hy z.f2 ((hTm _).2 ⟨z, hz, .inr rfl⟩)
    rw [hcum, this]
    omega
  have hupK : Up ((-1) :: keysV A) := List.pairwise_cons.2 ⟨fun x hx => by rw [hkeys] at hx; have := hT0 x (List.mem_filter.1 hx).1; omega, keysV_up A⟩
  have g1 := brokenGo_is (num := num) (most := most) (keysV A) (-1) [] hupK (fun e he => .inr ((mem_keysV _ A).2 ⟨e, he, rfl⟩)) (fun q => by rw [hzero] at q; omega)
  have g2 := prog_skip (num := num) (most := most) T (-1) [] hupT hAT
  rw [← hkeys] at g2
  rw [hzero] at g1 g2
  rw [decide_eq_false (show ¬ most < 0 by omega)] at g1 g2
  rw [g2, prog_ref_all hTu hlast] at g1
  have hb : (fun t => decide (most < cum t A)) = fun t => decide (most < chg t (barE bl u)) := by
    funext t
    rw [hcum]
  rw [hb] at g1
  refine ⟨refB (fun t => decide (most < chg t (barE bl u))) num T [], ?_, ?_, ?_⟩
  · rw [← hb, ← prog_ref_all hTu hlast]
    have := progB_len (b := fun t => decide (most < cum t A)) (num := num) T false []
    simp only [List.length_nil] at this
    omega
  · unfold power_broken.f
    refine Ev.bind (bools_ev bl hbl u) ?_
    have hc : u.length ≤ 1000 ∧ Small40 (addsOf (brE (u.map fun x => conV bl x.f0) u u.length)) := ⟨by omega, by rw [show brE (u.map fun x => conV bl x.f0) u u.length = barE bl u from rfl, hA]; exact hS⟩
    simp only [if_pos hc]
    rw [show brE (u.map fun x => conV bl x.f0) u u.length = barE bl u from rfl, hA, g1]
    exact Ev.now _
  · simp only [perigeeref9_broken.f]
    have hsc : slices_Sort_int_int.f (accB u u.length) = some ((accB u u.length).mergeSort fun x y => decide (x ≤ y)) := by
      unfold slices_Sort_int_int.f
      rw [if_pos (by rw [accB_length]; omega)]
    have hco : slices_Compact_int_int.f ((accB u u.length).mergeSort fun x y => decide (x ≤ y)) = some T := by
      unfold slices_Compact_int_int.f
      rw [sortCompact (accB_keys u), hT]
    refine Ev.loop (L := fun k i => perigeeref9_broken.l0 k u num (accB u i) u (u.length : Int) (i : Int) bl most) (v := fun _ => refB (fun t => decide (most < chg t (barE bl u))) num T []) u.length ?_ ?_ u.length 0 (by omega)
    · refine Ev.step (fun k => perigeeref9_broken.l0.eq_2 ..) ?_
      simp only [if_neg (show ¬ (u.length : Int) < u.length by omega), hsc, hco, Option.bind_some]
      have := ref_pairs h hbl (num := num) (most := most) (T := T) (by omega) T.length 0 [] (by omega) (Nat.le_refl _)
      rw [List.drop_zero] at this
      exact this
    · intro i hi ih
      refine Ev.step (fun k => perigeeref9_broken.l0.eq_2 ..) ?_
      simp only [if_pos (show (i : Int) < u.length by omega), if_pos (show (0 : Int) ≤ i by omega), Option.bind_some, if_pos (show (accB u i).length + ([(rd_T47 u (i : Int)).f1, (rd_T47 u (i : Int)).f2] : List Int).length < 17592186044416 by rw [accB_length]; simp only [List.length_cons, List.length_nil]; omega), w64 (x := (i : Int) + 1) (by omega) (by omega)]
      exact ih
end Go.Proofs.Ytplcdpiggpkppaa.Q
