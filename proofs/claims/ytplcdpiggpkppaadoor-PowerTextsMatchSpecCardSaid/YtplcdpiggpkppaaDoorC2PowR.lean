/- What the reference answers, in chapter 9's checks: the same. -/
-- Made by wip/tools/claimp.py of this session's texts; Lean checks it.
import Derived.Test.YtplcdpiggpkppaaDoorC2PowC
import Derived.Test.YtplcdpiggpkppaaDoorC2Gd6
import Derived.Test.YtplcdpiggpkppaaDoorC2Gd7
set_option linter.unusedVariables false
set_option linter.unusedSimpArgs false
namespace Go.Proofs.YtplcdpiggpkppaaDoor.Q
open Go.RowKit Go.Proofs.YtplcdpiggpkppaaDoorW.PrintWords Go.Proofs.YtplcdpiggpkppaaDoorW.PrintLast Go.Proofs.YtplcdpiggpkppaaDoorW.PrintMore Go.Proofs.YtplcdpiggpkppaaDoor.Base
theorem within_eq (a b c : Int) : perigeeref9_within.f a b c = some (decide (b ≤ a ∧ a ≤ c)) := kit_In_eq a b c
theorem within7_eq (a b c : Int) : perigeeref7_within.f a b c = some (decide (b ≤ a ∧ a ≤ c)) := kit_In_eq a b c
theorem perigeeref7_IsWord_l0 (s : ByteArray) (hs : s.size ≤ 40) (h0 : 0 < s.size) (hc : 97 ≤ bt s 0 ∧ bt s 0 ≤ 122) : Ev (fun k => perigeeref7_IsWord.l0 k s (s.size : Int) 0) (charsV s s.size 0) := by
  refine Ev.loop (L := fun k i => perigeeref7_IsWord.l0 k s (s.size : Int) (i : Int)) (v := charsV s s.size) s.size ?_ ?_ s.size 0 (by omega)
  · refine Ev.step (fun k => perigeeref7_IsWord.l0.eq_2 ..) ?_
    simp only [if_neg (show ¬ (s.size : Int) < s.size by omega)]
    exact Ev.is (charsV_ge (Nat.le_refl _)).symm
  · intro i hi hn
    rw [charsV_lt hi]
    refine Ev.step (fun k => perigeeref7_IsWord.l0.eq_2 ..) ?_
    simp only [if_pos (show (i : Int) < s.size by omega), if_pos (show (0 : Int) ≤ i by omega), w64 (x := (i : Int) + 1) (by omega) (by omega)]
    have hz : i = 0 → 97 ≤ bt s i ∧ bt s i ≤ 122 := fun e => by subst e; exact hc
    have yes : charOk i (bt s i) = true → Ev (fun k => perigeeref7_IsWord.l0 k s (s.size : Int) ((i : Int) + 1)) (charOk i (bt s i) && charsV s s.size (i + 1)) := fun h => by rw [h, Bool.true_and]; exact hn
    have no : charOk i (bt s i) = false → Ev (fun _ => some false) (charOk i (bt s i) && charsV s s.size (i + 1)) := fun h => by rw [h, Bool.false_and]; exact Ev.now _
    generalize bt s i = c at *
    repeat' refine Ev.ite (fun h_ => ?_) (fun h_ => ?_)
    all_goals first
      | (refine yes ?_; unfold charOk; simp only [Bool.or_eq_true, Bool.and_eq_true, decide_eq_true_eq, ne_eq]; omega)
      | (refine no ?_; unfold charOk; simp only [Bool.or_eq_false_iff, Bool.and_eq_false_iff, decide_eq_false_iff_not, ne_eq]; omega)
theorem perigeeref7_IsWord_ev (s : ByteArray) : Ev (fun k => perigeeref7_IsWord.f k s) (wordV s) := by
  simp only [perigeeref7_IsWord.f, within7_eq, Option.bind_some]
  have no : wordV s = false → ∀ b : Bool, b = true → Ev (fun k => perigeeref7_IsWord.j0 k s b) (wordV s) := fun h b hb => by
    refine Ev.step (fun k => perigeeref7_IsWord.j0.eq_2 ..) ?_
    rw [h]
    simp only [if_pos hb]
    exact Ev.now _
  refine Ev.ite (fun h => ?_) (fun h => ?_)
  · have h := of_decide_eq_true h
    have e : wordV s = charsV s s.size 0 := by unfold wordV; rw [decide_eq_true (show 1 ≤ s.size by omega), decide_eq_true (show s.size ≤ 40 by omega)]; rfl
    have e2 : ¬ (97 ≤ bt s 0 ∧ bt s 0 ≤ 122) → wordV s = false := fun q => by
      rw [e, charsV_lt (by omega)]
      have : charOk 0 (bt s ((0 : Nat) : Int)) = false := by
        unfold charOk
        rw [show ((0 : Nat) : Int) = 0 from rfl, decide_eq_false q]
        rfl
      rw [this, Bool.false_and]
    simp only [if_pos (show (0 : Int) < s.size by omega)]
    refine Ev.ite (fun h1 => ?_) (fun h1 => ?_)
    · exact no (e2 (by omega)) _ rfl
    · by_cases h2 : bt s 0 > 122
      · exact no (e2 (by omega)) _ (decide_eq_true h2)
      · refine Ev.step (fun k => perigeeref7_IsWord.j0.eq_2 ..) ?_
        rw [e]
        simp only [decide_eq_false h2, if_neg Bool.false_ne_true]
        exact perigeeref7_IsWord_l0 s (by omega) (by omega) (by omega)
  · refine no ?_ _ rfl
    have h : ¬ _ := fun q => h (decide_eq_true q)
    unfold wordV
    by_cases q : 1 ≤ s.size
    · rw [decide_eq_false (show ¬ s.size ≤ 40 by omega), Bool.and_false]; rfl
    · rw [decide_eq_false q]; rfl
theorem perigeeref9_CheckLoads_j1 {l : List S32} {i : Nat} (hi : i < l.length) (hl : l.length ≤ 50) (hw : wordV (rd_T32 l i).f0 = true) (hn : Ev (fun k => perigeeref9_CheckLoads.l0 k l l (l.length : Int) ((i + 1 : Nat) : Int)) (scanV (loadBad l) l.length (i + 1))) {b : Bool}
    (hb : b = true ↔ ¬ (0 ≤ (rd_T32 l i).f1 ∧ (rd_T32 l i).f1 ≤ 100000) ∨ ¬ (0 ≤ (rd_T32 l i).f2 ∧ (rd_T32 l i).f2 ≤ 1000)) :
    Ev (fun k => perigeeref9_CheckLoads.j1 k l (i : Int) l (l.length : Int) (i : Int) b (rd_T32 l i).f0 (rd_T32 l i).f1 (rd_T32 l i).f2) (if loadBad l i ≠ 0 then loadBad l i else scanV (loadBad l) l.length (i + 1)) := by
  have hw' : ¬ wordV (rd_T32 l i).f0 = false := by rw [hw]; simp
  refine Ev.step (fun k => perigeeref9_CheckLoads.j1.eq_2 ..) ?_
  simp only [w64 (x := (i : Int) + 1) (by omega) (by omega), w64 (x := (i : Int) - 1) (by omega) (by omega)]
  refine Ev.ite (fun h1 => ?_) (fun h1 => ?_)
  · have e : loadBad l i = 1 := by unfold loadBad; rw [if_neg hw', if_pos (hb.1 h1)]
    exact Ev.is (by rw [e]; rfl)
  · have h1' := fun q => h1 (hb.2 q)
    refine Ev.ite (fun h2 => ?_) (fun h2 => ?_)
    · simp only [if_pos (show (0 : Int) ≤ (i : Int) - 1 by omega), if_pos (show (i : Int) - 1 < l.length by omega)]
      refine Ev.ite (fun h3 => ?_) (fun h3 => ?_)
      · have e : loadBad l i = 0 := by unfold loadBad; rw [if_neg hw', if_neg h1', if_neg (fun q => q.2 h3)]
        rw [if_neg (by simp [e])]
        exact hn
      · have e : loadBad l i = 8 := by unfold loadBad; rw [if_neg hw', if_neg h1', if_pos ⟨by omega, h3⟩]
        exact Ev.is (by rw [e]; rfl)
    · have e : loadBad l i = 0 := by unfold loadBad; rw [if_neg hw', if_neg h1', if_neg (fun q => h2 (by omega))]
      rw [if_neg (by simp [e])]
      exact hn
theorem perigeeref9_CheckLoads_ev (l : List S32) : Ev (fun k => perigeeref9_CheckLoads.f k l) (loadsV l) := by
  simp only [perigeeref9_CheckLoads.f]
  unfold loadsV
  refine Ev.ite (fun h => Ev.is (if_pos h).symm) (fun h => ?_)
  rw [if_neg h]
  refine Ev.loop (L := fun k i => perigeeref9_CheckLoads.l0 k l l (l.length : Int) (i : Int)) (v := scanV (loadBad l) l.length) l.length ?_ ?_ l.length 0 (by omega)
  · refine Ev.step (fun k => perigeeref9_CheckLoads.l0.eq_2 ..) ?_
    simp only [if_neg (show ¬ (l.length : Int) < l.length by omega)]
    exact Ev.is (scanV_ge (Nat.le_refl _)).symm
  · intro i hi hn
    rw [scanV_lt hi]
    refine Ev.step (fun k => perigeeref9_CheckLoads.l0.eq_2 ..) ?_
    simp only [if_pos (show (i : Int) < l.length by omega), if_pos (show (0 : Int) ≤ i by omega), within_eq, Option.bind_some]
    refine Ev.bind (perigeeref7_IsWord_ev _) ?_
    refine Ev.ite (fun h1 => ?_) (fun h1 => ?_)
    · refine Ev.ite (fun h2 => ?_) (fun h2 => ?_)
      · have h2 := of_decide_eq_true h2
        exact perigeeref9_CheckLoads_j1 hi (by omega) h1 hn (by simp; omega)
      · have h2 : ¬ _ := fun q => h2 (decide_eq_true q)
        exact perigeeref9_CheckLoads_j1 hi (by omega) h1 hn (by simp; omega)
    · have e : loadBad l i = 5 := by unfold loadBad; rw [if_pos (by simpa using h1)]
      exact Ev.is (by rw [e]; rfl)
theorem perigeeref9_loadOf_ev {l : List S32} (hl : l.length ≤ 50) (s : ByteArray) : ∃ a, IsAt l s a ∧ Ev (fun k => perigeeref9_loadOf.f k l s) (pickV l a) := by
  have loop : ∀ d i : Nat, i + d = l.length → (∀ m : Nat, m < i → nmL l m ≠ s.toList) → ∃ a, IsAt l s a ∧ Ev (fun k => perigeeref9_loadOf.l0 k s l (l.length : Int) (i : Int)) (pickV l a) := by
    intro d
    induction d with
    | zero =>
      intro i hi hlow
      refine ⟨none, fun m hm => hlow m (by omega), ?_⟩
      refine Ev.step (fun k => perigeeref9_loadOf.l0.eq_2 ..) ?_
      simp only [if_neg (show ¬ (i : Int) < l.length by omega)]
      exact Ev.now _
    | succ d ih =>
      intro i hi hlow
      by_cases e : nmL l i = s.toList
      · refine ⟨some i, ⟨by omega, e⟩, ?_⟩
        refine Ev.step (fun k => perigeeref9_loadOf.l0.eq_2 ..) ?_
        simp only [if_pos (show (i : Int) < l.length by omega), if_pos (show (0 : Int) ≤ i by omega), if_pos e]
        exact Ev.now _
      · obtain ⟨a, ha, hr⟩ := ih (i + 1) (by omega) (fun m hm => by
          by_cases q : m = i
          · subst q; exact e
          · exact hlow m (by omega))
        refine ⟨a, ha, ?_⟩
        refine Ev.step (fun k => perigeeref9_loadOf.l0.eq_2 ..) ?_
        simp only [if_pos (show (i : Int) < l.length by omega), if_pos (show (0 : Int) ≤ i by omega), if_neg e, w64 (x := (i : Int) + 1) (by omega) (by omega)]
        exact hr
  exact loop l.length 0 (by omega) (fun m hm => by omega)
theorem loadOf_is {l : List S32} (hl : GoodLoads l) (s : ByteArray) : Ev (fun k => perigeeref9_loadOf.f k l s) (loadV l s) := by
  obtain ⟨a, ha, h⟩ := perigeeref9_loadOf_ev hl.few s
  rw [ha.unique hl (atV_is l s)] at h
  exact h
theorem ref_clash {u : List S35} (hu : u.length ≤ 300) (hok : ∀ i : Nat, i < u.length → spanV (rd_T35 u i).f1 (rd_T35 u i).f2 = 0) : Ev (fun k => perigeeref9_CheckUses.l1 k u u (u.length : Int) 0) (clashV u 0) := by
  refine Ev.loop (L := fun k i => perigeeref9_CheckUses.l1 k u u (u.length : Int) (i : Int)) (v := clashV u) u.length ?_ ?_ u.length 0 (by omega)
  · refine Ev.step (fun k => perigeeref9_CheckUses.l1.eq_2 ..) ?_
    simp only [if_neg (show ¬ (u.length : Int) < u.length by omega)]
    exact Ev.is (scanV_ge (Nat.le_refl _)).symm
  · intro x hx hn
    refine Ev.step (fun k => perigeeref9_CheckUses.l1.eq_2 ..) ?_
    simp only [if_pos (show (x : Int) < u.length by omega), if_pos (show (0 : Int) ≤ x by omega)]
    rw [show clashV u x = if scanV (clashAt u x) u.length 0 ≠ 0 then scanV (clashAt u x) u.length 0 else clashV u (x + 1) from scanV_lt hx]
    refine Ev.loop (L := fun k i => perigeeref9_CheckUses.l2 k u (x : Int) u (u.length : Int) (x : Int) u (u.length : Int) (i : Int) (rd_T35 u x).f0 (rd_T35 u x).f1 (rd_T35 u x).f2) (v := fun i => if scanV (clashAt u x) u.length i ≠ 0 then scanV (clashAt u x) u.length i else clashV u (x + 1)) u.length ?_ ?_ u.length 0 (by omega)
    · refine Ev.step (fun k => perigeeref9_CheckUses.l2.eq_2 ..) ?_
      simp only [if_neg (show ¬ (u.length : Int) < u.length by omega), w64 (x := (x : Int) + 1) (by omega) (by omega)]
      rw [scanV_ge (Nat.le_refl _)]
      exact hn
    · intro i hi hn2
      rw [scanV_lt hi]
      obtain ⟨s1, s2, s3⟩ := spanV_zero (hok i hi)
      unfold inM at s1 s2
      refine Ev.step (fun k => perigeeref9_CheckUses.l2.eq_2 ..) ?_
      simp only [if_pos (show (i : Int) < u.length by omega), if_pos (show (0 : Int) ≤ i by omega), w64 (x := (i : Int) + 1) (by omega) (by omega), within_eq, Option.bind_some, w64 (x := (rd_T35 u i).f2 - 1) (by omega) (by omega), decide_eq_true_eq]
      have no : clashAt u x i = 0 → Ev (fun k => perigeeref9_CheckUses.l2 k u (x : Int) u (u.length : Int) (x : Int) u (u.length : Int) ((i : Int) + 1) (rd_T35 u x).f0 (rd_T35 u x).f1 (rd_T35 u x).f2) (if (if clashAt u x i ≠ 0 then clashAt u x i else scanV (clashAt u x) u.length (i + 1)) ≠ 0 then (if clashAt u x i ≠ 0 then clashAt u x i else scanV (clashAt u x) u.length (i + 1)) else clashV u (x + 1)) := by
        intro e
        rw [if_neg (show ¬ clashAt u x i ≠ 0 by simp [e])]
        exact hn2
      refine Ev.ite (fun h1 => no (if_neg (by omega))) (fun h1 => ?_)
      refine Ev.ite (fun h2 => ?_) (fun h2 => no (if_neg fun q => h2 q.2.1))
      refine Ev.ite (fun h3 => ?_) (fun h3 => no (if_neg fun q => h3 ⟨q.2.2.1, by omega⟩))
      have e : clashAt u x i = 12 := if_pos ⟨by omega, h2, h3.1, by omega⟩
      exact Ev.is (by rw [e]; rfl)
theorem comesAfter_eq (a b : S35) : ∃ t : Bool, perigeeref9_comesAfter.f a.f0 a.f1 a.f2 b.f0 b.f1 b.f2 = some t ∧ (t = true ↔ afterU a b) := by
  unfold perigeeref9_comesAfter.f afterU
  by_cases h1 : a.f1 = b.f1
  · simp only [if_pos h1]
    by_cases h2 : a.f0.toList = b.f0.toList
    · simp only [if_pos h2]
      exact ⟨_, rfl, by simp⟩
    · simp only [if_neg h2]
      exact ⟨_, rfl, Iff.rfl⟩
  · simp only [if_neg h1]
    exact ⟨_, rfl, by simp⟩
theorem perigeeref9_CheckUses_ev (l : List S32) (u : List S35) : Ev (fun k => perigeeref9_CheckUses.f k l u) (usesV l u) := by
  simp only [perigeeref9_CheckUses.f]
  unfold usesV
  refine Ev.bind (perigeeref9_CheckLoads_ev l) ?_
  refine Ev.ite (fun h1 => ?_) (fun h1 => Ev.is (if_pos h1).symm)
  rw [if_neg (fun q => q h1)]
  refine Ev.ite (fun h2 => Ev.is (if_pos h2).symm) (fun h2 => ?_)
  rw [if_neg h2]
  have hl := loadsV_zero h1
  refine Ev.loopP (L := fun k i => perigeeref9_CheckUses.l0 k l u u (u.length : Int) (i : Int)) (v := fun i => if scanV (useBad l u) u.length i ≠ 0 then scanV (useBad l u) u.length i else clashV u 0) (P := fun i => ∀ m : Nat, m < i → useBad l u m = 0) u.length ?_ ?_ u.length 0 (by omega) (fun m hm => by omega)
  · intro hP
    refine Ev.step (fun k => perigeeref9_CheckUses.l0.eq_2 ..) ?_
    simp only [if_neg (show ¬ (u.length : Int) < u.length by omega)]
    rw [scanV_ge (Nat.le_refl _)]
    exact ref_clash (by omega) (fun i hi => (useBad_zero (hP i hi)).2.1)
  · intro i hi hP hn
    rw [scanV_lt hi]
    have j1 : (loadV l (rd_T35 u i).f0).2.2.2 = true → ∀ b : Bool, (b = true ↔ (¬ inM (rd_T35 u i).f1 ∨ ¬ inM (rd_T35 u i).f2)) → Ev (fun k => perigeeref9_CheckUses.j1 k l u (i : Int) u (u.length : Int) (i : Int) b (rd_T35 u i).f0 (rd_T35 u i).f1 (rd_T35 u i).f2)
        (if (if useBad l u i ≠ 0 then useBad l u i else scanV (useBad l u) u.length (i + 1)) ≠ 0 then (if useBad l u i ≠ 0 then useBad l u i else scanV (useBad l u) u.length (i + 1)) else clashV u 0) := by
      intro h3 b hb
      refine Ev.step (fun k => perigeeref9_CheckUses.j1.eq_2 ..) ?_
      simp only [w64 (x := (i : Int) + 1) (by omega) (by omega), w64 (x := (i : Int) - 1) (by omega) (by omega)]
      refine Ev.ite (fun h1 => ?_) (fun h1 => ?_)
      · have e0 : spanV (rd_T35 u i).f1 (rd_T35 u i).f2 = 1 := by unfold spanV; rw [if_pos (hb.1 h1)]
        have e := useBad_span h3 (by rw [e0]; omega)
        rw [e0] at e
        exact Ev.is (by rw [e]; rfl)
      · have h1' : ¬ (¬ inM (rd_T35 u i).f1 ∨ ¬ inM (rd_T35 u i).f2) := fun q => h1 (hb.2 q)
        refine Ev.ite (fun h2 => ?_) (fun h2 => ?_)
        · have e0 : spanV (rd_T35 u i).f1 (rd_T35 u i).f2 = 13 := by unfold spanV; rw [if_neg h1', if_pos h2]
          have e := useBad_span h3 (by rw [e0]; omega)
          rw [e0] at e
          exact Ev.is (by rw [e]; rfl)
        · have h4 : spanV (rd_T35 u i).f1 (rd_T35 u i).f2 = 0 := by unfold spanV; rw [if_neg h1', if_neg h2]
          refine Ev.ite (fun h5 => ?_) (fun h5 => ?_)
          · simp only [if_pos (show (0 : Int) ≤ (i : Int) - 1 by omega), if_pos (show (i : Int) - 1 < u.length by omega)]
            obtain ⟨t, ht, hta⟩ := comesAfter_eq (rd_T35 u i) (rd_T35 u ((i : Int) - 1))
            simp only [ht, Option.bind_some]
            refine Ev.ite (fun h6 => ?_) (fun h6 => ?_)
            · have e := useBad_ok h3 h4 (fun q => q.2 (hta.1 h6))
              rw [if_neg (show ¬ useBad l u i ≠ 0 by simp [e])]
              exact hn (fun m hm => if q : m = i then q ▸ e else hP m (by omega))
            · have e := useBad_order h3 h4 ⟨by omega, fun q => h6 (hta.2 q)⟩
              exact Ev.is (by rw [e]; rfl)
          · have e := useBad_ok h3 h4 (fun q => h5 (by omega))
            rw [if_neg (show ¬ useBad l u i ≠ 0 by simp [e])]
            exact hn (fun m hm => if q : m = i then q ▸ e else hP m (by omega))
    refine Ev.step (fun k => perigeeref9_CheckUses.l0.eq_2 ..) ?_
    simp only [if_pos (show (i : Int) < u.length by omega), if_pos (show (0 : Int) ≤ i by omega), within_eq, Option.bind_some]
    refine Ev.bind (loadOf_is hl _) ?_
    refine Ev.ite (fun h3 => ?_) (fun h3 => ?_)
    · refine Ev.ite (fun h1 => ?_) (fun h1 => ?_)
      · refine j1 h3 _ ?_
        have h := of_decide_eq_true h1
        unfold inM
        simp
        omega
      · refine j1 h3 _ ?_
        have h : ¬ _ := fun q => h1 (decide_eq_true q)
        unfold inM
        simp
        omega
    · have e := useBad_none (l := l) (u := u) (i := i) (by simpa using h3)
      exact Ev.is (by rw [e]; rfl)
end Go.Proofs.YtplcdpiggpkppaaDoor.Q
