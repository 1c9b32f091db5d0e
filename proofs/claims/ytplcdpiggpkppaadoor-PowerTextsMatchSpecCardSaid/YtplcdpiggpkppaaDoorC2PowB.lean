/- Plain laws on the checks of chapter 9: loads by name, uses, the sun and the loads at a moment. -/
-- Made by wip/tools/claimp.py of this session's texts; Lean checks it.
import Derived.Test.YtplcdpiggpkppaaDoorC2PowA
import Derived.Test.YtplcdpiggpkppaaDoorC2Gd3
import Derived.Test.YtplcdpiggpkppaaDoorC2Gd1
set_option linter.unusedVariables false
set_option linter.unusedSimpArgs false
namespace Go.Proofs.YtplcdpiggpkppaaDoor.Q
open Go.RowKit Go.Proofs.YtplcdpiggpkppaaDoorW.PrintWords Go.Proofs.YtplcdpiggpkppaaDoorW.PrintLast Go.Proofs.YtplcdpiggpkppaaDoorW.PrintMore Go.Proofs.YtplcdpiggpkppaaDoor.Base
/-- A load's name, as bytes. -/
abbrev nmL (l : List S32) (i : Int) : List UInt8 := (rd_T32 l i).f0.toList
/-- Loads that are right. -/
structure GoodLoads (l : List S32) : Prop where
  few : l.length ≤ 50
  inside : ∀ i : Nat, i < l.length → (0 ≤ (rd_T32 l i).f1 ∧ (rd_T32 l i).f1 ≤ 100000) ∧ (0 ≤ (rd_T32 l i).f2 ∧ (rd_T32 l i).f2 ≤ 1000)
  next : ∀ i : Nat, i + 1 < l.length → Op.bytesLess (nmL l i) (nmL l ((i + 1 : Nat) : Int)) = true
theorem loadsV_zero {l : List S32} (h : loadsV l = 0) : GoodLoads l := by
  unfold loadsV at h
  split at h
  · omega
  · rename_i hl
    have k := scanV_zero l.length 0 (by omega) h
    have k2 : ∀ i : Nat, i < l.length → ¬ (wordV (rd_T32 l i).f0 = false) ∧ ¬ (¬ (0 ≤ (rd_T32 l i).f1 ∧ (rd_T32 l i).f1 ≤ 100000) ∨ ¬ (0 ≤ (rd_T32 l i).f2 ∧ (rd_T32 l i).f2 ≤ 1000)) ∧ ¬ (0 < i ∧ ¬ Op.bytesLess (rd_T32 l ((i : Int) - 1)).f0.toList (rd_T32 l i).f0.toList = true) := by
      intro i hi
      have e := k i (Nat.zero_le _) hi
      unfold loadBad at e
      split at e
      · omega
      · rename_i q1
        split at e
        · omega
        · rename_i q2
          split at e
          · omega
          · rename_i q3
            exact ⟨q1, q2, q3⟩
    refine ⟨by omega, fun i hi => ?_, fun i hi => ?_⟩
    · have := (k2 i hi).2.1
      omega
    · have := (k2 (i + 1) hi).2.2
      rw [show (((i + 1 : Nat) : Int) - 1) = (i : Int) by omega] at this
      exact Classical.byContradiction fun q => this ⟨by omega, q⟩
theorem GoodLoads.rise {l : List S32} (h : GoodLoads l) : ∀ d i : Nat, i + d + 1 < l.length → Op.bytesLess (nmL l i) (nmL l ((i + d + 1 : Nat) : Int)) = true
  | 0, i, hi => h.next i hi
  | d + 1, i, hi => less_trans (h.rise d i (by omega)) (h.next (i + d + 1) hi)
theorem GoodLoads.lt {l : List S32} (h : GoodLoads l) {i j : Nat} (hij : i < j) (hj : j < l.length) : Op.bytesLess (nmL l i) (nmL l j) = true := by
  have := h.rise (j - i - 1) i (by omega)
  rwa [show i + (j - i - 1) + 1 = j by omega] at this
theorem GoodLoads.one {l : List S32} (h : GoodLoads l) {i j : Nat} (hi : i < l.length) (hj : j < l.length) (e : nmL l i = nmL l j) : i = j := by
  rcases Nat.lt_trichotomy i j with q | q | q
  · have := h.lt q hj
    rw [e] at this
    exact absurd this (less_irrefl _)
  · exact q
  · have := h.lt q hi
    rw [e] at this
    exact absurd this (less_irrefl _)
/-- What is told of a load by its name. -/
def pickV (l : List S32) : Option Nat → ByteArray × Int × Int × Bool
  | none => ((⟨#[]⟩ : ByteArray), 0, 0, false)
  | some j => ((rd_T32 l j).f0, (rd_T32 l j).f1, (rd_T32 l j).f2, true)
def IsAt (l : List S32) (s : ByteArray) : Option Nat → Prop
  | none => ∀ i : Nat, i < l.length → nmL l i ≠ s.toList
  | some j => j < l.length ∧ nmL l j = s.toList
theorem IsAt.unique {l : List S32} (h : GoodLoads l) {s : ByteArray} {a b : Option Nat} (ha : IsAt l s a) (hb : IsAt l s b) : a = b := by
  cases a with
  | none => cases b with
    | none => rfl
    | some j => exact absurd hb.2 (ha j hb.1)
  | some i => cases b with
    | none => exact absurd ha.2 (hb i ha.1)
    | some j => rw [h.one ha.1 hb.1 (ha.2.trans hb.2.symm)]
theorem mid_eq {i j : Int} (h0 : 0 ≤ i) (h1 : i < j) (h2 : j ≤ 1000000) : wrap64 ((IntKind.u64.wrap (wrap64 (i + j))) / 2) = (i + j) / 2 := by
  rw [w64 (x := i + j) (by omega) (by omega)]
  have : IntKind.u64.wrap (i + j) = i + j := by
    show (i + j) % 18446744073709551616 = i + j
    omega
  rw [this]
  exact w64 (by omega) (by omega)
theorem search_l0 {l : List S32} (hl : GoodLoads l) (s : ByteArray) : ∀ d i j : Nat, j ≤ i + d → i ≤ j → j ≤ l.length → (∀ m : Nat, m < i → Op.bytesLess (nmL l m) s.toList = true) → (∀ m : Nat, j ≤ m → m < l.length → ¬ Op.bytesLess (nmL l m) s.toList = true) →
    ∃ r : Int × Bool, Ev (fun k => api_Load_string.l0 k l s (l.length : Int) (i : Int) (j : Int)) r ∧ ∃ a : Option Nat, IsAt l s a ∧ (match a with | none => r.2 = false | some m => r = ((m : Int), true)) := by
  have hf := hl.few
  intro d
  induction d with
  | zero =>
    intro i j h1 h2 h3 hlow hhigh
    obtain rfl : i = j := by omega
    by_cases hi : i < l.length
    · have hc := compare_zero (nmL l i) s.toList
      refine ⟨((i : Int), Lib.compareBytes (nmL l i) s.toList == 0), ?_, ?_⟩
      · refine Ev.step (fun k => api_Load_string.l0.eq_2 ..) ?_
        simp only [if_neg (show ¬ (i : Int) < i by omega), if_pos (show (i : Int) < l.length by omega), if_pos (show (0 : Int) ≤ i by omega), power_load_1.f, strings_Compare.f, Option.bind_some, ← ByteArray.toList_eq]
        exact Ev.now _
      · by_cases e : nmL l i = s.toList
        · refine ⟨some i, ⟨hi, e⟩, ?_⟩
          show _ = _
          rw [hc.2 e]
          rfl
        · refine ⟨none, fun m hm q => ?_, ?_⟩
          · rcases Nat.lt_trichotomy m i with w | w | w
            · have := hlow m w
              rw [q] at this
              exact less_irrefl _ this
            · subst w; exact e q
            · have t := hl.lt w hm
              rw [q] at t
              exact hhigh i (Nat.le_refl _) hi t
          · show (_ == _) = false
            rw [beq_eq_false_iff_ne]
            exact fun q => e (hc.1 q)
    · refine ⟨((i : Int), false), ?_, none, fun m hm q => ?_, rfl⟩
      · refine Ev.step (fun k => api_Load_string.l0.eq_2 ..) ?_
        simp only [if_neg (show ¬ (i : Int) < i by omega), if_neg (show ¬ (i : Int) < l.length by omega)]
        exact Ev.now _
      · have := hlow m (by omega)
        rw [q] at this
        exact less_irrefl _ this
  | succ d ih =>
    intro i j h1 h2 h3 hlow hhigh
    by_cases hij : i < j
    · have hm : (((i + j) / 2 : Nat) : Int) = ((i : Int) + j) / 2 := by omega
      obtain ⟨m, hme⟩ : ∃ m : Nat, (i + j) / 2 = m := ⟨_, rfl⟩
      rw [hme] at hm
      have hmb : i ≤ m ∧ m < j := by omega
      have hc := compare_neg (nmL l m) s.toList
      by_cases hlt : Op.bytesLess (nmL l m) s.toList = true
      · obtain ⟨r, hr, ha⟩ := ih (m + 1) j (by omega) (by omega) h3 (fun x hx => by
          by_cases e : x = m
          · subst e; exact hlt
          · exact less_trans (hl.lt (show x < m by omega) (by omega)) hlt) hhigh
        refine ⟨r, ?_, ha⟩
        refine Ev.step (fun k => api_Load_string.l0.eq_2 ..) ?_
        simp only [if_pos (show (i : Int) < j by omega), mid_eq (show (0 : Int) ≤ i by omega) (show (i : Int) < j by omega) (by omega), ← hm, if_pos (show (0 : Int) ≤ m by omega), if_pos (show (m : Int) < l.length by omega), power_load_1.f, strings_Compare.f, Option.bind_some, ← ByteArray.toList_eq, if_pos (hc.2 hlt), w64 (x := (m : Int) + 1) (by omega) (by omega)]
        exact hr
      · obtain ⟨r, hr, ha⟩ := ih i m (by omega) (by omega) (by omega) hlow (fun x hx hxl q => by
          by_cases e : x = m
          · subst e; exact hlt q
          · exact hlt (less_trans (hl.lt (show m < x by omega) hxl) q))
        refine ⟨r, ?_, ha⟩
        refine Ev.step (fun k => api_Load_string.l0.eq_2 ..) ?_
        simp only [if_pos (show (i : Int) < j by omega), mid_eq (show (0 : Int) ≤ i by omega) (show (i : Int) < j by omega) (by omega), ← hm, if_pos (show (0 : Int) ≤ m by omega), if_pos (show (m : Int) < l.length by omega), power_load_1.f, strings_Compare.f, Option.bind_some, ← ByteArray.toList_eq, if_neg (fun q => hlt (hc.1 q))]
        exact hr
    · obtain rfl : i = j := by omega
      exact ih i i (by omega) (Nat.le_refl _) h3 hlow hhigh
theorem power_load_ev {l : List S32} (hl : GoodLoads l) (s : ByteArray) : ∃ a, IsAt l s a ∧ Ev (fun k => power_load.f k l s) (pickV l a) := by
  obtain ⟨r, hr, a, ha, hra⟩ := search_l0 hl s l.length 0 l.length (by omega) (by omega) (Nat.le_refl _) (fun m hm => by omega) (fun m h1 h2 => by omega)
  refine ⟨a, ha, ?_⟩
  simp only [power_load.f, api_Load_string.f]
  refine Ev.bind (a := r) hr ?_
  cases a with
  | none =>
    have e : r.2 = false := hra
    simp only [e, if_neg Bool.false_ne_true]
    exact Ev.now _
  | some j =>
    have e : r = ((j : Int), true) := hra
    subst e
    have hj := ha.1
    simp only [if_true, if_pos (show (0 : Int) ≤ j by omega), if_pos (show (j : Int) < l.length by omega)]
    exact Ev.now _
/-- The load of a name: the index, as the list has it. -/
noncomputable def atV (l : List S32) (s : ByteArray) : Option Nat := by classical exact if h : ∃ j : Nat, j < l.length ∧ nmL l j = s.toList then some h.choose else none
theorem atV_is (l : List S32) (s : ByteArray) : IsAt l s (atV l s) := by
  unfold atV
  split
  · rename_i h
    exact h.choose_spec
  · rename_i h
    exact fun i hi e => h ⟨i, hi, e⟩
noncomputable def loadV (l : List S32) (s : ByteArray) : ByteArray × Int × Int × Bool := pickV l (atV l s)
theorem power_load_is {l : List S32} (hl : GoodLoads l) (s : ByteArray) : Ev (fun k => power_load.f k l s) (loadV l s) := by
  obtain ⟨a, ha, h⟩ := power_load_ev hl s
  rw [ha.unique hl (atV_is l s)] at h
  exact h
theorem Ev.loopP {α : Type} {L : Nat → Nat → Option α} {v : Nat → α} {P : Nat → Prop} (n : Nat) (fin : P n → Ev (fun k => L k n) (v n)) (step : ∀ i, i < n → P i → (P (i + 1) → Ev (fun k => L k (i + 1)) (v (i + 1))) → Ev (fun k => L k i) (v i)) : ∀ d i : Nat, i + d = n → P i → Ev (fun k => L k i) (v i)
  | 0, i, h, p => by
    obtain rfl : i = n := by omega
    exact fin p
  | d + 1, i, h, p => step i (by omega) p (fun q => Ev.loopP n fin step d (i + 1) (by omega) q)
/-- A use comes after another one. -/
def afterU (a b : S35) : Prop := if a.f1 = b.f1 then (if a.f0.toList = b.f0.toList then a.f2 > b.f2 else Op.bytesLess b.f0.toList a.f0.toList = true) else a.f1 > b.f1
noncomputable def useBad (l : List S32) (u : List S35) (i : Nat) : Int := by
  classical exact if (loadV l (rd_T35 u i).f0).2.2.2 = false then 9 else if spanV (rd_T35 u i).f1 (rd_T35 u i).f2 ≠ 0 then spanV (rd_T35 u i).f1 (rd_T35 u i).f2 else if 0 < i ∧ ¬ afterU (rd_T35 u i) (rd_T35 u ((i : Int) - 1)) then 8 else 0
theorem useBad_none {l : List S32} {u : List S35} {i : Nat} (h : (loadV l (rd_T35 u i).f0).2.2.2 = false) : useBad l u i = 9 := if_pos h
theorem useBad_span {l : List S32} {u : List S35} {i : Nat} (h : (loadV l (rd_T35 u i).f0).2.2.2 = true) (h2 : spanV (rd_T35 u i).f1 (rd_T35 u i).f2 ≠ 0) : useBad l u i = spanV (rd_T35 u i).f1 (rd_T35 u i).f2 := by
  unfold useBad
  rw [if_neg (by simp [h]), if_pos h2]
theorem useBad_order {l : List S32} {u : List S35} {i : Nat} (h : (loadV l (rd_T35 u i).f0).2.2.2 = true) (h2 : spanV (rd_T35 u i).f1 (rd_T35 u i).f2 = 0) (h3 : 0 < i ∧ ¬ afterU (rd_T35 u i) (rd_T35 u ((i : Int) - 1))) : useBad l u i = 8 := by
  unfold useBad
  rw [if_neg (by simp [h]), if_neg (by simp [h2]), if_pos h3]
theorem useBad_ok {l : List S32} {u : List S35} {i : Nat} (h : (loadV l (rd_T35 u i).f0).2.2.2 = true) (h2 : spanV (rd_T35 u i).f1 (rd_T35 u i).f2 = 0) (h3 : ¬ (0 < i ∧ ¬ afterU (rd_T35 u i) (rd_T35 u ((i : Int) - 1)))) : useBad l u i = 0 := by
  unfold useBad
  rw [if_neg (by simp [h]), if_neg (by simp [h2]), if_neg h3]
theorem useBad_zero {l : List S32} {u : List S35} {i : Nat} (h : useBad l u i = 0) : (loadV l (rd_T35 u i).f0).2.2.2 = true ∧ spanV (rd_T35 u i).f1 (rd_T35 u i).f2 = 0 ∧ (0 < i → afterU (rd_T35 u i) (rd_T35 u ((i : Int) - 1))) := by
  cases h1 : (loadV l (rd_T35 u i).f0).2.2.2 with
  | false => rw [useBad_none h1] at h; omega
  | true =>
    by_cases h2 : spanV (rd_T35 u i).f1 (rd_T35 u i).f2 = 0
    · by_cases h3 : 0 < i ∧ ¬ afterU (rd_T35 u i) (rd_T35 u ((i : Int) - 1))
      · rw [useBad_order h1 h2 h3] at h; omega
      · exact ⟨rfl, h2, fun q => Classical.byContradiction fun r => h3 ⟨q, r⟩⟩
    · rw [useBad_span h1 h2] at h; exact absurd h h2
theorem spanV_zero {f t : Int} (h : spanV f t = 0) : inM f ∧ inM t ∧ f < t := by
  unfold spanV at h
  split at h
  · omega
  · rename_i q
    split at h
    · omega
    · exact ⟨Classical.byContradiction fun r => q (.inl r), Classical.byContradiction fun r => q (.inr r), by omega⟩
def clashAt (u : List S35) (x k : Nat) : Int := if k ≠ x ∧ (rd_T35 u k).f0.toList = (rd_T35 u x).f0.toList ∧ (rd_T35 u k).f1 ≤ (rd_T35 u x).f1 ∧ (rd_T35 u x).f1 < (rd_T35 u k).f2 then 12 else 0
def clashRow (u : List S35) (x : Nat) : Int := scanV (clashAt u x) u.length 0
def clashV (u : List S35) (x : Nat) : Int := scanV (clashRow u) u.length x
noncomputable def usesV (l : List S32) (u : List S35) : Int := if loadsV l ≠ 0 then loadsV l else if (u.length : Int) > 300 then 2 else if scanV (useBad l u) u.length 0 ≠ 0 then scanV (useBad l u) u.length 0 else clashV u 0
theorem power_clash {u : List S35} (hu : u.length ≤ 300) : Ev (fun k => power_CheckUses.l1 k u u (u.length : Int) 0) (clashV u 0) := by
  refine Ev.loop (L := fun k i => power_CheckUses.l1 k u u (u.length : Int) (i : Int)) (v := clashV u) u.length ?_ ?_ u.length 0 (by omega)
  · refine Ev.step (fun k => power_CheckUses.l1.eq_2 ..) ?_
    simp only [if_neg (show ¬ (u.length : Int) < u.length by omega)]
    exact Ev.is (scanV_ge (Nat.le_refl _)).symm
  · intro x hx hn
    refine Ev.step (fun k => power_CheckUses.l1.eq_2 ..) ?_
    simp only [if_pos (show (x : Int) < u.length by omega), if_pos (show (0 : Int) ≤ x by omega)]
    rw [show clashV u x = if scanV (clashAt u x) u.length 0 ≠ 0 then scanV (clashAt u x) u.length 0 else clashV u (x + 1) from scanV_lt hx]
    refine Ev.loop (L := fun k i => power_CheckUses.l2 k u (x : Int) u (u.length : Int) (x : Int) u (u.length : Int) (i : Int) (rd_T35 u x).f0 (rd_T35 u x).f1 (rd_T35 u x).f2) (v := fun i => if scanV (clashAt u x) u.length i ≠ 0 then scanV (clashAt u x) u.length i else clashV u (x + 1)) u.length ?_ ?_ u.length 0 (by omega)
    · refine Ev.step (fun k => power_CheckUses.l2.eq_2 ..) ?_
      simp only [if_neg (show ¬ (u.length : Int) < u.length by omega), w64 (x := (x : Int) + 1) (by omega) (by omega)]
      rw [scanV_ge (Nat.le_refl _)]
      exact hn
    · intro i hi hn2
      rw [scanV_lt hi]
      refine Ev.step (fun k => power_CheckUses.l2.eq_2 ..) ?_
      simp only [if_pos (show (i : Int) < u.length by omega), if_pos (show (0 : Int) ≤ i by omega), w64 (x := (i : Int) + 1) (by omega) (by omega)]
      have no : clashAt u x i = 0 → Ev (fun k => power_CheckUses.l2 k u (x : Int) u (u.length : Int) (x : Int) u (u.length : Int) ((i : Int) + 1) (rd_T35 u x).f0 (rd_T35 u x).f1 (rd_T35 u x).f2) (if (if clashAt u x i ≠ 0 then clashAt u x i else scanV (clashAt u x) u.length (i + 1)) ≠ 0 then (if clashAt u x i ≠ 0 then clashAt u x i else scanV (clashAt u x) u.length (i + 1)) else clashV u (x + 1)) := by
        intro e
        rw [if_neg (show ¬ clashAt u x i ≠ 0 by simp [e])]
        exact hn2
      refine Ev.ite (fun h1 => no (if_neg (by omega))) (fun h1 => ?_)
      refine Ev.ite (fun h2 => ?_) (fun h2 => no (if_neg fun q => h2 q.2.1))
      refine Ev.ite (fun h3 => ?_) (fun h3 => no (if_neg fun q => h3 q.2.2.1))
      refine Ev.ite (fun h4 => ?_) (fun h4 => no (if_neg fun q => h4 q.2.2.2))
      have e : clashAt u x i = 12 := if_pos ⟨by omega, h2, h3, h4⟩
      exact Ev.is (by rw [e]; rfl)
theorem compare_after {a b : S35} (ha : inM a.f1 ∧ inM a.f2) (hb : inM b.f1 ∧ inM b.f2) : ∃ t, power_compare.f a.f0 a.f1 a.f2 b.f0 b.f1 b.f2 = some t ∧ (t ≤ 0 ↔ ¬ afterU a b) := by
  unfold inM at ha hb
  unfold power_compare.f afterU
  by_cases h1 : a.f1 = b.f1
  · simp only [if_pos h1]
    by_cases h2 : a.f0.toList = b.f0.toList
    · simp only [if_pos h2, w64 (x := a.f2 - b.f2) (by omega) (by omega)]
      exact ⟨_, rfl, by omega⟩
    · simp only [if_neg h2, strings_Compare.f, Option.bind_some, ← ByteArray.toList_eq]
      refine ⟨_, rfl, ?_⟩
      have c1 := compare_neg a.f0.toList b.f0.toList
      have c2 := compare_zero a.f0.toList b.f0.toList
      constructor
      · intro q r
        rcases Int.lt_or_eq_of_le q with q | q
        · exact less_irrefl _ (less_trans (c1.1 q) r)
        · exact h2 (c2.1 q)
      · intro q
        by_cases r : Op.bytesLess a.f0.toList b.f0.toList = true
        · exact Int.le_of_lt (c1.2 r)
        · exact absurd (less_total r h2) q
  · simp only [if_neg h1, w64 (x := a.f1 - b.f1) (by omega) (by omega)]
    exact ⟨_, rfl, by omega⟩
theorem power_CheckUses_ev (l : List S32) (u : List S35) : Ev (fun k => power_CheckUses.f k l u) (usesV l u) := by
  simp only [power_CheckUses.f]
  unfold usesV
  refine Ev.bind (power_CheckLoads_ev l) ?_
  refine Ev.ite (fun h1 => ?_) (fun h1 => Ev.is (if_pos h1).symm)
  rw [if_neg (fun q => q h1)]
  refine Ev.ite (fun h2 => Ev.is (if_pos h2).symm) (fun h2 => ?_)
  rw [if_neg h2]
  have hl := loadsV_zero h1
  refine Ev.loopP (L := fun k i => power_CheckUses.l0 k l u u (u.length : Int) (i : Int)) (v := fun i => if scanV (useBad l u) u.length i ≠ 0 then scanV (useBad l u) u.length i else clashV u 0) (P := fun i => ∀ m : Nat, m < i → useBad l u m = 0) u.length ?_ ?_ u.length 0 (by omega) (fun m hm => by omega)
  · intro _
    refine Ev.step (fun k => power_CheckUses.l0.eq_2 ..) ?_
    simp only [if_neg (show ¬ (u.length : Int) < u.length by omega)]
    rw [scanV_ge (Nat.le_refl _)]
    exact power_clash (by omega)
  · intro i hi hP hn
    rw [scanV_lt hi]
    refine Ev.step (fun k => power_CheckUses.l0.eq_2 ..) ?_
    simp only [if_pos (show (i : Int) < u.length by omega), if_pos (show (0 : Int) ≤ i by omega), w64 (x := (i : Int) + 1) (by omega) (by omega), w64 (x := (i : Int) - 1) (by omega) (by omega)]
    refine Ev.bind (power_load_is hl _) ?_
    refine Ev.ite (fun h3 => ?_) (fun h3 => ?_)
    · refine Ev.bind (power_span_ev _ _) ?_
      refine Ev.ite (fun h4 => ?_) (fun h4 => ?_)
      · refine Ev.ite (fun h5 => ?_) (fun h5 => ?_)
        · simp only [if_pos (show (0 : Int) ≤ (i : Int) - 1 by omega), if_pos (show (i : Int) - 1 < u.length by omega)]
          have hp := useBad_zero (hP (i - 1) (by omega))
          rw [show (((i - 1 : Nat)) : Int) = (i : Int) - 1 by omega] at hp
          obtain ⟨s1, s2, s3⟩ := spanV_zero h4
          obtain ⟨r1, r2, r3⟩ := spanV_zero hp.2.1
          obtain ⟨t, ht, hta⟩ := compare_after (a := rd_T35 u i) (b := rd_T35 u ((i : Int) - 1)) ⟨s1, s2⟩ ⟨r1, r2⟩
          simp only [ht, Option.bind_some]
          refine Ev.ite (fun h6 => ?_) (fun h6 => ?_)
          · have e := useBad_order h3 h4 ⟨by omega, hta.1 h6⟩
            exact Ev.is (by rw [e]; rfl)
          · have e := useBad_ok h3 h4 (fun q => h6 (hta.2 q.2))
            rw [if_neg (show ¬ useBad l u i ≠ 0 by simp [e])]
            exact hn (fun m hm => if q : m = i then q ▸ e else hP m (by omega))
        · have e := useBad_ok h3 h4 (fun q => h5 (by omega))
          rw [if_neg (show ¬ useBad l u i ≠ 0 by simp [e])]
          exact hn (fun m hm => if q : m = i then q ▸ e else hP m (by omega))
      · have e := useBad_span h3 h4
        exact Ev.is (by rw [e, if_pos h4, if_pos h4])
    · have e := useBad_none (l := l) (u := u) (i := i) (by simpa using h3)
      exact Ev.is (by rw [e]; rfl)
end Go.Proofs.YtplcdpiggpkppaaDoor.Q
