/- Plain laws of chapter 9: uses in order; what is shed, as the program and the reference find it. -/
-- Made by wip/tools/claimp.py of this session's texts; Lean checks it.
import Derived.Test.YtplcdpiggpkppaaC13PowT
import Derived.Test.YtplcdpiggpkppaaC13Ge22
import Derived.Test.YtplcdpiggpkppaaC13Ge24
import Derived.Test.YtplcdpiggpkppaaC13Ge19
set_option linter.unusedVariables false
set_option linter.unusedSimpArgs false
namespace Go.Proofs.Ytplcdpiggpkppaa.Q
open Go.RowKit Go.Proofs.YtplcdpiggpkppaaW.PrintWords Go.Proofs.YtplcdpiggpkppaaW.PrintLast Go.Proofs.YtplcdpiggpkppaaW.PrintMore Go.Proofs.Ytplcdpiggpkppaa.Base
theorem afterU_trans {a b c : S47} (h : afterU a b) (k : afterU b c) : afterU a c := by
  unfold afterU at *
  by_cases e1 : a.f1 = b.f1
  · rw [if_pos e1] at h
    by_cases e2 : b.f1 = c.f1
    · rw [if_pos e2] at k
      rw [if_pos (e1.trans e2)]
      by_cases e3 : a.f0.toList = b.f0.toList
      · rw [if_pos e3] at h
        by_cases e4 : b.f0.toList = c.f0.toList
        · rw [if_pos e4] at k
          rw [if_pos (e3.trans e4)]
          omega
        · rw [if_neg e4] at k
          rw [if_neg (fun q => e4 (e3.symm.trans q)), e3]
          exact k
      · rw [if_neg e3] at h
        by_cases e4 : b.f0.toList = c.f0.toList
        · rw [if_neg (fun q => e3 (q.trans e4.symm)), ← e4]
          exact h
        · rw [if_neg e4] at k
          have t := less_trans k h
          rw [if_neg (fun q => by rw [q] at t; exact less_irrefl _ t)]
          exact t
    · rw [if_neg e2] at k
      rw [if_neg (by omega)]
      omega
  · rw [if_neg e1] at h
    by_cases e2 : b.f1 = c.f1
    · rw [if_neg (by omega)]; omega
    · rw [if_neg e2] at k
      rw [if_neg (by omega)]
      omega
abbrev Sorted (u : List S47) : Prop := u.Pairwise fun a b => afterU b a
structure Ordered (l : List S76) (u : List S47) : Prop where
  few : u.length ≤ 300
  known : ∀ x ∈ u, (loadV l x.f0).2.2.2 = true
  sorted : Sorted u
theorem usesV_ordered {l : List S76} {u : List S47} (h : usesV l u = 0) : Ordered l u := by
  have hl : u.length ≤ 300 := by
    unfold usesV at h
    split at h
    · rename_i q; exact absurd h q
    · split at h
      · omega
      · omega
  have ok : ∀ i : Nat, i < u.length → useBad l u i = 0 := by
    unfold usesV at h
    split at h
    · rename_i q; exact absurd h q
    · split at h
      · omega
      · split at h
        · rename_i r; exact absurd h r
        · rename_i r
          exact fun i hi => scanV_zero u.length 0 (by omega) (Classical.not_not.1 r) i (Nat.zero_le _) hi
  refine ⟨hl, fun x hx => ?_, ?_⟩
  · obtain ⟨i, hi, rfl⟩ := List.mem_iff_getElem.1 hx
    have := (useBad_zero (ok i hi)).1
    rwa [rdU_get hi] at this
  · have step : ∀ i (hi : i + 1 < u.length), afterU u[i + 1] u[i] := fun i hi => by
      have := (useBad_zero (ok (i + 1) hi)).2.2 (by omega)
      rwa [rdU_get hi, show (((i + 1 : Nat) : Int) - 1) = ((i : Nat) : Int) by omega, rdU_get (show i < u.length by omega)] at this
    have far : ∀ d i (hi : i + d + 1 < u.length), afterU u[i + d + 1] u[i] := by
      intro d
      induction d with
      | zero => intro i hi; exact step i hi
      | succ d ih => intro i hi; exact afterU_trans (step (i + d + 1) hi) (ih i (by omega))
    refine List.pairwise_iff_getElem.2 fun i j hi hj hij => ?_
    have := far (j - i - 1) i (by omega)
    have e : i + (j - i - 1) + 1 = j := by omega
    simpa only [e] using this
theorem Ordered.sub {l : List S76} {u v : List S47} (h : Ordered l u) (hs : v.Sublist u) : Ordered l v := ⟨Nat.le_trans hs.length_le h.few, fun x hx => h.known x (hs.mem hx), h.sorted.sublist hs⟩
theorem scanV_all {f : Nat → Int} {n : Nat} (h : ∀ i, i < n → f i = 0) : ∀ d i : Nat, i + d = n → scanV f n i = 0
  | 0, i, hi => scanV_ge (by omega)
  | d + 1, i, hi => by
    rw [scanV_lt (by omega), if_neg (by simp [h i (by omega)])]
    exact scanV_all h d (i + 1) (by omega)
theorem usesV_of {l : List S76} {u : List S47} (hl : loadsV l = 0) (hg : GoodUses l u) (ho : Ordered l u) : usesV l u = 0 := by
  have hf := ho.few
  have hspan : ∀ x ∈ u, spanV x.f1 x.f2 = 0 := fun x hx => by
    obtain ⟨a, b, c⟩ := hg.each x hx
    unfold spanV
    rw [if_neg (fun q => q.elim (fun z => z a) (fun z => z b)), if_neg (by omega)]
  unfold usesV
  rw [if_neg (by simp [hl]), if_neg (by omega)]
  have h1 : scanV (useBad l u) u.length 0 = 0 := scanV_all (fun i hi => by
    refine useBad_ok ?_ ?_ ?_
    · rw [rdU_get hi]; exact ho.known _ (List.getElem_mem hi)
    · rw [rdU_get hi]; exact hspan _ (List.getElem_mem hi)
    · rintro ⟨q, r⟩
      refine r ?_
      have := List.pairwise_iff_getElem.1 ho.sorted (i - 1) i (by omega) hi (by omega)
      rw [rdU_get hi, show ((i : Int) - 1) = ((i - 1 : Nat) : Int) by omega, rdU_get (show i - 1 < u.length by omega)]
      exact this) u.length 0 (by omega)
  rw [if_neg (by simp [h1])]
  refine scanV_all (fun x hx => ?_) u.length 0 (by omega)
  refine scanV_all (fun k hk => ?_) u.length 0 (by omega)
  unfold clashAt
  refine if_neg ?_
  rintro ⟨q1, q2, q3, q4⟩
  rw [rdU_get hk, rdU_get hx] at q2 q3
  rw [rdU_get hk, rdU_get hx] at q4
  have s1 := hg.each _ (List.getElem_mem hk)
  have s2 := hg.each _ (List.getElem_mem hx)
  rcases Nat.lt_or_gt_of_ne q1 with z | z
  · have := List.pairwise_iff_getElem.1 hg.apart k x hk hx z q2
    omega
  · have := List.pairwise_iff_getElem.1 hg.apart x k hx hk z q2.symm
    omega
noncomputable def worthU (l : List S76) (x : S47) : Int := (loadV l x.f0).2.2.1
/-- Of the first i uses: the number of the one that is shed; -1: none has begun. -/
noncomputable def bestV (l : List S76) (u : List S47) (t : Int) : Nat → Int
  | 0 => -1
  | i + 1 => if (rd_T47 u (i : Int)).f1 ≥ t then bestV l u t i else if bestV l u t i < 0 then (i : Int) else
      if worthU l (rd_T47 u (i : Int)) < worthU l (rd_T47 u (bestV l u t i)) ∨ worthU l (rd_T47 u (i : Int)) = worthU l (rd_T47 u (bestV l u t i)) ∧ (rd_T47 u (i : Int)).f1 > (rd_T47 u (bestV l u t i)).f1 then (i : Int) else bestV l u t i
theorem bestV_bd (l : List S76) (u : List S47) (t : Int) : ∀ i : Nat, -1 ≤ bestV l u t i ∧ bestV l u t i < i
  | 0 => by unfold bestV; omega
  | i + 1 => by
    have := bestV_bd l u t i
    unfold bestV
    repeat' split
    all_goals omega
theorem bestV_none {l : List S76} {u : List S47} {t : Int} : ∀ i : Nat, bestV l u t i < 0 → ∀ j : Nat, j < i → t ≤ (rd_T47 u (j : Int)).f1
  | 0, _, j, hj => by omega
  | i + 1, h, j, hj => by
    unfold bestV at h
    split at h
    · rename_i q
      by_cases e : j = i
      · subst e; exact q
      · exact bestV_none i h j (by omega)
    · split at h
      · omega
      · rename_i q
        split at h
        · omega
        · exact absurd h q
noncomputable def worthB (l : List S76) (u : List S47) (b : Int) : Int := if b < 0 then 0 else worthU l (rd_T47 u b)
/-- In order, a use with the same beginning is not before the one that came up first. -/
theorem not_before {u : List S47} (hs : Sorted u) {i b : Nat} (hb : b < i) (hi : i < u.length) (e : (rd_T47 u (i : Int)).f1 = (rd_T47 u (b : Int)).f1) : ¬ Op.bytesLess (rd_T47 u (i : Int)).f0.toList (rd_T47 u (b : Int)).f0.toList = true := by
  intro q
  have k := List.pairwise_iff_getElem.1 hs b i (by omega) hi hb
  rw [rdU_get hi, rdU_get (show b < u.length by omega)] at e q
  unfold afterU at k
  rw [if_pos e] at k
  split at k
  · rename_i z
    rw [z] at q
    exact less_irrefl _ q
  · exact less_irrefl _ (less_trans q k)
theorem power_shed_ev {l : List S76} {u : List S47} (hl : GoodLoads l) (hu : u.length ≤ 400) (hs : Sorted u) (t : Int) : Ev (fun k => power_shed.f k l u t) (bestV l u t u.length) := by
  simp only [power_shed.f]
  refine Ev.loop (L := fun k i => power_shed.l0 k l u t (bestV l u t i) (worthB l u (bestV l u t i)) u (u.length : Int) (i : Int)) (v := fun _ => bestV l u t u.length) u.length ?_ ?_ u.length 0 (by omega)
  · refine Ev.step (fun k => power_shed.l0.eq_2 ..) ?_
    simp only [if_neg (show ¬ (u.length : Int) < u.length by omega)]
    exact Ev.now _
  · intro i hi ih
    have hb := bestV_bd l u t i
    obtain ⟨b, hbe⟩ : ∃ b, bestV l u t i = b := ⟨_, rfl⟩
    rw [hbe] at hb ⊢
    refine Ev.step (fun k => power_shed.l0.eq_2 ..) ?_
    simp only [if_pos (show (i : Int) < u.length by omega), if_pos (show (0 : Int) ≤ i by omega), w64 (x := (i : Int) + 1) (by omega) (by omega)]
    refine Ev.ite (fun h1 => ?_) (fun h1 => ?_)
    · have e : bestV l u t (i + 1) = b := by
        show (if (rd_T47 u (i : Int)).f1 ≥ t then bestV l u t i else _) = b
        rw [if_pos h1, hbe]
      rw [e] at ih
      exact ih
    · refine Ev.bind (power_load_is hl _) ?_
      -- what is next, taken or not
      have take : (b < 0 ∨ (worthU l (rd_T47 u (i : Int)) < worthU l (rd_T47 u b) ∨ worthU l (rd_T47 u (i : Int)) = worthU l (rd_T47 u b) ∧ (rd_T47 u (i : Int)).f1 > (rd_T47 u b).f1)) → Ev (fun k => power_shed.l0 k l u t (i : Int) (loadV l (rd_T47 u (i : Int)).f0).2.2.1 u (u.length : Int) ((i : Int) + 1)) (bestV l u t u.length) := by
        intro q
        have e : bestV l u t (i + 1) = (i : Int) := by
          show (if (rd_T47 u (i : Int)).f1 ≥ t then bestV l u t i else if bestV l u t i < 0 then (i : Int) else if worthU l (rd_T47 u (i : Int)) < worthU l (rd_T47 u (bestV l u t i)) ∨ worthU l (rd_T47 u (i : Int)) = worthU l (rd_T47 u (bestV l u t i)) ∧ (rd_T47 u (i : Int)).f1 > (rd_T47 u (bestV l u t i)).f1 then (i : Int) else bestV l u t i) = _
          rw [if_neg h1, hbe]
          split
          · rfl
          · rename_i z
            rw [if_pos (q.resolve_left z)]
        rw [e, show worthB l u (i : Int) = (loadV l (rd_T47 u (i : Int)).f0).2.2.1 from if_neg (by omega)] at ih
        exact ih
      have leave : 0 ≤ b → ¬ (worthU l (rd_T47 u (i : Int)) < worthU l (rd_T47 u b) ∨ worthU l (rd_T47 u (i : Int)) = worthU l (rd_T47 u b) ∧ (rd_T47 u (i : Int)).f1 > (rd_T47 u b).f1) → Ev (fun k => power_shed.l0 k l u t b (worthB l u b) u (u.length : Int) ((i : Int) + 1)) (bestV l u t u.length) := by
        intro z q
        have e : bestV l u t (i + 1) = b := by
          show (if (rd_T47 u (i : Int)).f1 ≥ t then bestV l u t i else if bestV l u t i < 0 then (i : Int) else if worthU l (rd_T47 u (i : Int)) < worthU l (rd_T47 u (bestV l u t i)) ∨ worthU l (rd_T47 u (i : Int)) = worthU l (rd_T47 u (bestV l u t i)) ∧ (rd_T47 u (i : Int)).f1 > (rd_T47 u (bestV l u t i)).f1 then (i : Int) else bestV l u t i) = _
          rw [if_neg h1, hbe, if_neg (by omega), if_neg q]
        rw [e] at ih
        exact ih
      refine Ev.ite (fun h2 => ?_) (fun h2 => ?_)
      · refine Ev.step (fun k => power_shed.j1.eq_2 ..) ?_
        simp only [if_true]
        refine Ev.step (fun k => power_shed.j2.eq_2 ..) ?_
        simp only [if_neg Bool.false_ne_true, if_true, w64 (x := (i : Int) + 1) (by omega) (by omega)]
        exact take (.inl h2)
      · have hwb : worthB l u b = worthU l (rd_T47 u b) := if_neg h2
        have hw : (loadV l (rd_T47 u (i : Int)).f0).2.2.1 = worthU l (rd_T47 u (i : Int)) := rfl
        refine Ev.step (fun k => power_shed.j1.eq_2 ..) ?_
        by_cases h3 : worthU l (rd_T47 u (i : Int)) < worthU l (rd_T47 u b)
        · simp only [hw, hwb, decide_eq_true h3, if_true]
          refine Ev.step (fun k => power_shed.j2.eq_2 ..) ?_
          simp only [if_neg Bool.false_ne_true, if_true, w64 (x := (i : Int) + 1) (by omega) (by omega)]
          exact take (.inr (.inl h3))
        · simp only [hw, hwb, decide_eq_false h3, if_neg Bool.false_ne_true]
          refine Ev.step (fun k => power_shed.j2.eq_2 ..) ?_
          simp only [w64 (x := (i : Int) + 1) (by omega) (by omega), if_neg Bool.false_ne_true]
          rw [hwb] at leave
          by_cases h4 : worthU l (rd_T47 u (i : Int)) = worthU l (rd_T47 u b)
          · obtain ⟨bn, rfl⟩ : ∃ bn : Nat, b = bn := ⟨b.toNat, by omega⟩
            simp only [h4, beq_self_eq_true, if_true, if_pos (show (0 : Int) ≤ (bn : Int) by omega), if_pos (show (bn : Int) < u.length by omega)]
            rw [hw, h4] at take
            refine Ev.ite (fun h5 => take (.inr (.inr ⟨rfl, h5⟩))) (fun h5 => ?_)
            have lv' := leave (by omega) (fun q => q.elim h3 (fun z => h5 z.2))
            refine Ev.ite (fun h6 => ?_) (fun h6 => lv')
            simp only [if_neg (not_before hs (show bn < i by omega) hi h6)]
            exact lv'
          · simp only [beq_eq_false_iff_ne.2 h4, if_neg Bool.false_ne_true]
            exact leave (by omega) (fun q => q.elim h3 (fun z => h4 z.1))
theorem ref_shed_scan {r lv sn bs fl : Int} {s : List S72} {l : List S76} {u : List S47} (hl : GoodLoads l) (hu : u.length ≤ 400) (n t : Int) (is : Bool) (V : List S47 × Int) (hfin : Ev (fun k => if is = true then (if bestV l u t u.length < 0 then some (u, (0 : Int)) else (api_Use_82.f u (bestV l u t u.length) (wrap64 (bestV l u t u.length + 1))).bind fun t108 => perigeeref9_Shed.l0 k s l n t108 r lv sn bs fl) else some (u, 0)) V) :
    Ev (fun k => perigeeref9_Shed.l1 k s l n u t is (-1) (u.length : Int) 0 r lv sn bs fl) V := by
  refine Ev.loop (L := fun k i => perigeeref9_Shed.l1 k s l n u t is (bestV l u t i) (u.length : Int) (i : Int) r lv sn bs fl) (v := fun _ => V) u.length ?_ ?_ u.length 0 (by omega)
  · refine Ev.step (fun k => perigeeref9_Shed.l1.eq_2 ..) ?_
    simp only [if_neg (show ¬ (u.length : Int) < u.length by omega)]
    exact hfin
  · intro i hi ih
    have hb := bestV_bd l u t i
    obtain ⟨b, hbe⟩ : ∃ b, bestV l u t i = b := ⟨_, rfl⟩
    rw [hbe] at hb ⊢
    refine Ev.step (fun k => perigeeref9_Shed.l1.eq_2 ..) ?_
    simp only [if_pos (show (i : Int) < u.length by omega), if_pos (show (0 : Int) ≤ i by omega), w64 (x := (i : Int) + 1) (by omega) (by omega)]
    have hdef : bestV l u t (i + 1) = (if (rd_T47 u (i : Int)).f1 ≥ t then b else if b < 0 then (i : Int) else if worthU l (rd_T47 u (i : Int)) < worthU l (rd_T47 u b) ∨ worthU l (rd_T47 u (i : Int)) = worthU l (rd_T47 u b) ∧ (rd_T47 u (i : Int)).f1 > (rd_T47 u b).f1 then (i : Int) else b) := by
      rw [← hbe]; rfl
    rw [hdef] at ih
    refine Ev.ite (fun h1 => ?_) (fun h1 => ?_)
    · rw [if_pos h1] at ih; exact ih
    · rw [if_neg h1] at ih
      refine Ev.ite (fun h2 => ?_) (fun h2 => ?_)
      · rw [if_pos h2] at ih; exact ih
      · rw [if_neg h2] at ih
        refine Ev.bind (loadOf_is hl _) ?_
        simp only [if_pos (show (0 : Int) ≤ b by omega), if_pos (show b < (u.length : Int) by omega)]
        refine Ev.bind (loadOf_is hl _) ?_
        have hw : (loadV l (rd_T47 u (i : Int)).f0).2.2.1 = worthU l (rd_T47 u (i : Int)) := rfl
        have hw2 : (loadV l (rd_T47 u b).f0).2.2.1 = worthU l (rd_T47 u b) := rfl
        simp only [hw, hw2]
        refine Ev.ite (fun h3 => ?_) (fun h3 => ?_)
        · rw [if_pos (.inl h3)] at ih; exact ih
        · refine Ev.ite (fun h4 => ?_) (fun h4 => ?_)
          · refine Ev.ite (fun h5 => ?_) (fun h5 => ?_)
            · rw [if_pos (.inr ⟨h4, h5⟩)] at ih; exact ih
            · rw [if_neg (fun q => q.elim h3 (fun z => h5 z.2))] at ih; exact ih
          · rw [if_neg (fun q => q.elim h3 (fun z => h4 z.1))] at ih; exact ih
/-- The first moment below the floor. -/
noncomputable def firstO (r lv sn bs fl : Int) (s : List S72) (l : List S76) (n : Int) (u : List S47) : Option Nat := by
  classical exact if h : ∃ o, IsFirst (lvV r lv sn bs s l u) n.toNat fl o then h.choose else none
theorem firstO_is {r lv sn bs fl : Int} {s : List S72} {l : List S76} {n : Int} {u : List S47} {o : Option Nat} (h : IsFirst (lvV r lv sn bs s l u) n.toNat fl o) : firstO r lv sn bs fl s l n u = o := by
  have e : firstO r lv sn bs fl s l n u = Exists.choose (⟨o, h⟩ : ∃ o, IsFirst (lvV r lv sn bs s l u) n.toNat fl o) := by
    unfold firstO
    rw [dif_pos ⟨o, h⟩]
  rw [e]
  exact (Exists.choose_spec (⟨o, h⟩ : ∃ o, IsFirst (lvV r lv sn bs s l u) n.toNat fl o)).unique h
noncomputable def shedL (r lv sn bs fl : Int) (s : List S72) (l : List S76) (n : Int) : Nat → List S47 → List S47
  | 0, u => u
  | d + 1, u => match firstO r lv sn bs fl s l n u with
    | none => u
    | some t => if bestV l u (t : Int) u.length < 0 then u else shedL r lv sn bs fl s l n d (u.eraseIdx (bestV l u (t : Int) u.length).toNat)
theorem shedL_none {r lv sn bs fl : Int} {s : List S72} {l : List S76} {n : Int} {d : Nat} {u : List S47} (h : firstO r lv sn bs fl s l n u = none) : shedL r lv sn bs fl s l n (d + 1) u = u := by simp only [shedL, h]
theorem shedL_some {r lv sn bs fl : Int} {s : List S72} {l : List S76} {n : Int} {d : Nat} {u : List S47} {t : Nat} (h : firstO r lv sn bs fl s l n u = some t) : shedL r lv sn bs fl s l n (d + 1) u = if bestV l u (t : Int) u.length < 0 then u else shedL r lv sn bs fl s l n d (u.eraseIdx (bestV l u (t : Int) u.length).toNat) := by simp only [shedL, h]
theorem erase_sub {α : Type} (u : List α) (i : Nat) : (u.eraseIdx i).Sublist u := List.eraseIdx_sublist u i
theorem delete_eq {u : List S47} {b : Int} (h0 : 0 ≤ b) (h1 : b < u.length) (hu : u.length ≤ 400) : api_Use_82.f u b (wrap64 (b + 1)) = some (u.eraseIdx b.toNat) := by
  unfold api_Use_82.f
  rw [w64 (by omega) (by omega), if_pos ⟨h0, rfl, h1⟩]
section
variable {r lv sn bs fl : Int} {s : List S72} {l : List S76}
theorem power_Shed_l0 {n : Int} (hn : 0 ≤ n ∧ n ≤ 1000000000000) : ∀ (d : Nat) (u : List S47), u.length ≤ d → Good r lv sn bs fl s l u → Ordered l u → Ev (fun k => power_Shed.l0 k s l u n r lv sn bs fl) (shedL r lv sn bs fl s l n d u, 0)
  | 0, u, hd, h, ho => by
    obtain ⟨o, h1, h2⟩ := power_empty_ev h hn
    refine Ev.step (fun k => power_Shed.l0.eq_2 ..) ?_
    refine Ev.bind h1 ?_
    refine Ev.ite (fun _ => Ev.now _) (fun _ => ?_)
    refine Ev.bind (power_shed_ev h.uses.loads h.uses.few ho.sorted _) ?_
    have e : u = [] := List.eq_nil_of_length_eq_zero (by omega)
    subst e
    simp only [List.length_nil, bestV, if_pos (show (-1 : Int) < 0 by omega)]
    exact Ev.now _
  | d + 1, u, hd, h, ho => by
    obtain ⟨o, h1, h2⟩ := power_empty_ev h hn
    have hf := firstO_is h2
    refine Ev.step (fun k => power_Shed.l0.eq_2 ..) ?_
    refine Ev.bind h1 ?_
    cases o with
    | none =>
      rw [shedL_none hf]
      simp only [firstI, if_pos (show (-1 : Int) < 0 by omega)]
      exact Ev.now _
    | some t =>
      have hbd := bestV_bd l u (t : Int) u.length
      rw [shedL_some hf]
      simp only [firstI, if_neg (show ¬ ((t : Nat) : Int) < 0 by omega)]
      refine Ev.bind (power_shed_ev h.uses.loads h.uses.few ho.sorted _) ?_
      refine Ev.ite (fun q => ?_) (fun q => ?_)
      · rw [if_pos q]; exact Ev.now _
      · rw [if_neg q]
        simp only [delete_eq (show 0 ≤ bestV l u (t : Int) u.length by omega) hbd.2 h.uses.few, Option.bind_some]
        have hs := erase_sub u (bestV l u (t : Int) u.length).toNat
        exact power_Shed_l0 hn d _ (by rw [List.length_eraseIdx_of_lt (by omega)]; omega) (h.sub hs) (ho.sub hs)
theorem ref_Shed_l0 {n : Int} (hn : 0 ≤ n ∧ n ≤ 1000000000000) : ∀ (d : Nat) (u : List S47), u.length ≤ d → Good r lv sn bs fl s l u → Ordered l u → Ev (fun k => perigeeref9_Shed.l0 k s l n u r lv sn bs fl) (shedL r lv sn bs fl s l n d u, 0)
  | 0, u, hd, h, ho => by
    obtain ⟨o, h1, h2⟩ := ref_empty_ev h hn
    refine Ev.step (fun k => perigeeref9_Shed.l0.eq_2 ..) ?_
    refine Ev.bind h1 ?_
    refine ref_shed_scan h.uses.loads h.uses.few n _ _ _ ?_
    have e : u = [] := List.eq_nil_of_length_eq_zero (by omega)
    subst e
    simp only [List.length_nil, bestV, if_pos (show (-1 : Int) < 0 by omega)]
    exact Ev.ite (fun _ => Ev.now _) (fun _ => Ev.now _)
  | d + 1, u, hd, h, ho => by
    obtain ⟨o, h1, h2⟩ := ref_empty_ev h hn
    have hf := firstO_is h2
    refine Ev.step (fun k => perigeeref9_Shed.l0.eq_2 ..) ?_
    refine Ev.bind h1 ?_
    refine ref_shed_scan h.uses.loads h.uses.few n _ _ _ ?_
    cases o with
    | none =>
      rw [shedL_none hf]
      simp only [firstP, if_neg Bool.false_ne_true]
      exact Ev.now _
    | some t =>
      have hbd := bestV_bd l u (t : Int) u.length
      rw [shedL_some hf]
      simp only [firstP, if_true]
      refine Ev.ite (fun q => ?_) (fun q => ?_)
      · rw [if_pos q]; exact Ev.now _
      · rw [if_neg q]
        simp only [delete_eq (show 0 ≤ bestV l u (t : Int) u.length by omega) hbd.2 h.uses.few, Option.bind_some]
        have hs := erase_sub u (bestV l u (t : Int) u.length).toNat
        exact ref_Shed_l0 hn d _ (by rw [List.length_eraseIdx_of_lt (by omega)]; omega) (h.sub hs) (ho.sub hs)
theorem shedL_sub {n : Int} : ∀ (d : Nat) (u : List S47), (shedL r lv sn bs fl s l n d u).Sublist u
  | 0, u => List.Sublist.refl _
  | d + 1, u => by
    unfold shedL
    split
    · exact List.Sublist.refl _
    · split
      · exact List.Sublist.refl _
      · exact (shedL_sub d _).trans (erase_sub _ _)
/-- What is left keeps the level, or none of it has begun before it is below the floor. -/
theorem shedL_left {n : Int} (hn : 0 ≤ n ∧ n ≤ 1000000000000) : ∀ (d : Nat) (u : List S47), u.length ≤ d → Good r lv sn bs fl s l u → ∀ t : Nat, firstO r lv sn bs fl s l n (shedL r lv sn bs fl s l n d u) = some t → ∀ x ∈ shedL r lv sn bs fl s l n d u, (t : Int) ≤ x.f1
  | 0, u, hd, h, t, ht, x, hx => by
    have e : u = [] := List.eq_nil_of_length_eq_zero (by omega)
    subst e
    cases hx
  | d + 1, u, hd, h, t, ht, x, hx => by
    unfold shedL at ht hx
    split at ht
    · rename_i q
      rw [q] at ht; cases ht
    · rename_i t' q
      simp only [q] at hx
      have hbd := bestV_bd l u (t' : Int) u.length
      split at ht
      · rename_i z
        rw [if_pos z] at hx
        rw [q] at ht
        obtain rfl := Option.some.inj ht
        obtain ⟨j, hj, rfl⟩ := List.mem_iff_getElem.1 hx
        have := bestV_none u.length z j hj
        rwa [rdU_get hj] at this
      · rename_i z
        rw [if_neg z] at hx
        have hs := erase_sub u (bestV l u (t' : Int) u.length).toNat
        exact shedL_left hn d _ (by rw [List.length_eraseIdx_of_lt (by omega)]; omega) (h.sub hs) t ht x hx
end
theorem clone_is (u : List S47) (hu : u.length ≤ 400) : api_Use_80.f u = some u := by
  unfold api_Use_80.f
  rw [if_pos (by omega)]
noncomputable def ShedV (r lv sn bs fl : Int) (s : List S72) (l : List S76) (u : List S47) (n : Int) : List S47 × Int := if checkF r lv sn bs fl s l u n = 0 then (shedL r lv sn bs fl s l n u.length u, 0) else ([], checkF r lv sn bs fl s l u n)
theorem power_Shed_ev (r lv sn bs fl : Int) (s : List S72) (l : List S76) (u : List S47) (n : Int) : Ev (fun k => power_Shed.f k r lv sn bs fl s l u n) (ShedV r lv sn bs fl s l u n) := by
  simp only [power_Shed.f]
  refine Ev.bind (power_check_ev r lv sn bs fl s l u n) ?_
  unfold ShedV
  refine Ev.ite (fun h0 => ?_) (fun h0 => Ev.is (if_neg h0).symm)
  rw [if_pos h0]
  obtain ⟨h, hn⟩ := checkF_good h0
  simp only [clone_is u h.uses.few, Option.bind_some]
  exact power_Shed_l0 hn u.length u (Nat.le_refl _) h (usesV_ordered (checkF_parts.1 h0).2.2.1)
theorem ref_Shed_ev (r lv sn bs fl : Int) (s : List S72) (l : List S76) (u : List S47) (n : Int) : Ev (fun k => perigeeref9_Shed.f k r lv sn bs fl s l u n) (ShedV r lv sn bs fl s l u n) := by
  simp only [perigeeref9_Shed.f]
  refine Ev.bind (ref_ask_ev r lv sn bs fl s l u n) ?_
  unfold ShedV
  refine Ev.ite (fun h0 => ?_) (fun h0 => Ev.is (if_neg h0).symm)
  rw [if_pos h0]
  obtain ⟨h, hn⟩ := checkF_good h0
  simp only [clone_is u h.uses.few, Option.bind_some]
  exact ref_Shed_l0 hn u.length u (Nat.le_refl _) h (usesV_ordered (checkF_parts.1 h0).2.2.1)
end Go.Proofs.Ytplcdpiggpkppaa.Q
