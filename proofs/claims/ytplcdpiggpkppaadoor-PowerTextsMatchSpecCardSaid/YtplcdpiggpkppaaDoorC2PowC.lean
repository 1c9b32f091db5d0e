/- Plain laws of chapter 9: the sun between two moments, and the loads at a moment. -/
-- Made by wip/tools/claimp.py of this session's texts; Lean checks it.
import Derived.Test.YtplcdpiggpkppaaDoorC2PowB
import Derived.Test.YtplcdpiggpkppaaDoorC2Gd1
set_option linter.unusedVariables false
set_option linter.unusedSimpArgs false
namespace Go.Proofs.YtplcdpiggpkppaaDoor.Q
open Go.RowKit Go.Proofs.YtplcdpiggpkppaaDoorW.PrintWords Go.Proofs.YtplcdpiggpkppaaDoorW.PrintLast Go.Proofs.YtplcdpiggpkppaaDoorW.PrintMore Go.Proofs.YtplcdpiggpkppaaDoor.Base
/-- Sums of so many. -/
def sumTo (f : Nat → Int) : Nat → Int
  | 0 => 0
  | n + 1 => sumTo f n + f n
theorem sumTo_bd {f : Nat → Int} {b : Int} : ∀ n : Nat, (∀ i, i < n → 0 ≤ f i ∧ f i ≤ b) → 0 ≤ sumTo f n ∧ sumTo f n ≤ n * b
  | 0, _ => by simp [sumTo]
  | n + 1, h => by
    have ih := sumTo_bd n (fun i hi => h i (by omega))
    have := h n (by omega)
    have e : ((n + 1 : Nat) : Int) * b = n * b + b := by rw [Int.natCast_succ, Int.add_mul, Int.one_mul]
    unfold sumTo
    omega
def firstV : List Int → Int
  | [] => 0
  | x :: l => if x = 0 then firstV l else x
theorem rd_drop {l : List Int} {i : Nat} (h : i < l.length) : l.drop i = rd l (i : Int) :: l.drop (i + 1) := by
  rw [List.drop_eq_getElem_cons h]
  congr 1
  unfold rd
  simp [List.getD_eq_getElem?_getD, List.getElem?_eq_getElem h]
theorem kit_First_ev (l : List Int) (hl : l.length ≤ 1000) : Ev (fun k => kit_First.f k l) (firstV l) := by
  simp only [kit_First.f]
  refine Ev.loop (L := fun k i => kit_First.l0 k l (l.length : Int) (i : Int)) (v := fun i => firstV (l.drop i)) l.length ?_ ?_ l.length 0 (by omega)
  · refine Ev.step (fun k => kit_First.l0.eq_2 ..) ?_
    simp only [if_neg (show ¬ (l.length : Int) < l.length by omega)]
    rw [List.drop_of_length_le (Nat.le_refl _)]
    exact Ev.now _
  · intro i hi hn
    rw [rd_drop hi]
    refine Ev.step (fun k => kit_First.l0.eq_2 ..) ?_
    simp only [if_pos (show (i : Int) < l.length by omega), if_pos (show (0 : Int) ≤ i by omega), w64 (x := (i : Int) + 1) (by omega) (by omega)]
    refine Ev.ite (fun h => ?_) (fun h => ?_)
    · rw [show firstV (rd l (i : Int) :: l.drop (i + 1)) = firstV (l.drop (i + 1)) from if_pos h]
      exact hn
    · exact Ev.is (if_neg h).symm
theorem sunV_zero {s : List S53} (h : sunV s = 0) : s.length ≤ 500 ∧ (∀ i : Nat, i < s.length → inM (rd_T53 s i).f0 ∧ inM (rd_T53 s i).f1 ∧ (rd_T53 s i).f0 < (rd_T53 s i).f1) ∧ ∀ i : Nat, i + 1 < s.length → (rd_T53 s i).f1 < (rd_T53 s ((i + 1 : Nat) : Int)).f0 := by
  unfold sunV at h
  split at h
  · omega
  · have k := scanV_zero s.length 0 (by omega) h
    have k2 : ∀ i : Nat, i < s.length → spanV (rd_T53 s i).f0 (rd_T53 s i).f1 = 0 ∧ ¬ (0 < i ∧ (rd_T53 s i).f0 ≤ (rd_T53 s ((i : Int) - 1)).f1) := by
      intro i hi
      have e := k i (Nat.zero_le _) hi
      unfold sunBad at e
      split at e
      · rename_i q; exact absurd e q
      · rename_i q
        split at e
        · omega
        · rename_i r
          exact ⟨by omega, r⟩
    refine ⟨by omega, fun i hi => spanV_zero (k2 i hi).1, fun i hi => ?_⟩
    have := (k2 (i + 1) hi).2
    rw [show (((i + 1 : Nat) : Int) - 1) = (i : Int) by omega] at this
    omega
/-- How much of a span lies between two moments. -/
def sunAt (s : List S53) (a b : Int) (i : Nat) : Int := mx 0 (mn (rd_T53 s i).f1 b - mx (rd_T53 s i).f0 a)
def sunnyF (s : List S53) (a b : Int) : Int := if sunV s ≠ 0 then sunV s else if ¬ (inM a ∧ inM b) then 1 else 0
def SunnyV (s : List S53) (a b : Int) : Int × Int := if sunnyF s a b = 0 then (sumTo (sunAt s a b) s.length, 0) else (0, sunnyF s a b)
theorem sunAt_bd {s : List S53} {a b : Int} (ha : inM a) (hb : inM b) {i : Nat} (h : inM (rd_T53 s i).f0 ∧ inM (rd_T53 s i).f1 ∧ (rd_T53 s i).f0 < (rd_T53 s i).f1) : 0 ≤ sunAt s a b i ∧ sunAt s a b i ≤ 1000000000000 := by
  obtain ⟨h1, h2, h3⟩ := h
  unfold inM at *
  unfold sunAt mx mn
  constructor
  all_goals
    repeat' split
    all_goals omega
theorem sun_w {s : List S53} {a b : Int} (ha : inM a) (hb : inM b) {i : Nat} (h : inM (rd_T53 s i).f0 ∧ inM (rd_T53 s i).f1 ∧ (rd_T53 s i).f0 < (rd_T53 s i).f1) : wrap64 ((mn ((rd_T53 s i).f1) b) - (mx ((rd_T53 s i).f0) a)) = (mn ((rd_T53 s i).f1) b) - (mx ((rd_T53 s i).f0) a) := by
  obtain ⟨h1, h2, h3⟩ := h
  unfold inM at *
  unfold mx mn
  refine w64 ?_ ?_
  all_goals
    repeat' split
    all_goals omega
theorem power_Sunny_l0 {s : List S53} {a b : Int} (h : sunV s = 0) (ha : inM a) (hb : inM b) : Ev (fun k => power_Sunny.l0 k a b 0 s (s.length : Int) 0) (sumTo (sunAt s a b) s.length, 0) := by
  obtain ⟨hn, hs, _⟩ := sunV_zero h
  refine Ev.loop (L := fun k i => power_Sunny.l0 k a b (sumTo (sunAt s a b) i) s (s.length : Int) (i : Int)) (v := fun _ => (sumTo (sunAt s a b) s.length, 0)) s.length ?_ ?_ s.length 0 (by omega)
  · refine Ev.step (fun k => power_Sunny.l0.eq_2 ..) ?_
    simp only [if_neg (show ¬ (s.length : Int) < s.length by omega)]
    exact Ev.now _
  · intro i hi ih
    have b1 := sumTo_bd (f := sunAt s a b) i (fun j hj => sunAt_bd ha hb (hs j (by omega)))
    have b2 := sunAt_bd ha hb (hs i hi)
    refine Ev.step (fun k => power_Sunny.l0.eq_2 ..) ?_
    simp only [if_pos (show (i : Int) < s.length by omega), if_pos (show (0 : Int) ≤ i by omega), w64 (x := (i : Int) + 1) (by omega) (by omega), sun_w ha hb (hs i hi)]
    rw [show mx 0 ((mn ((rd_T53 s i).f1) b) - (mx ((rd_T53 s i).f0) a)) = sunAt s a b i from rfl, w64 (x := sumTo (sunAt s a b) i + sunAt s a b i) (by omega) (by omega)]
    exact ih
theorem power_Sunny_ev (s : List S53) (a b : Int) : Ev (fun k => power_Sunny.f k s a b) (SunnyV s a b) := by
  simp only [power_Sunny.f, kit_Range_eq, Option.bind_some]
  refine Ev.bind (power_CheckSun_ev s) ?_
  refine Ev.bind (kit_First_ev _ (by simp)) ?_
  have e : firstV [sunV s, if 0 ≤ a ∧ a ≤ 1000000000000 then 0 else 1, if 0 ≤ b ∧ b ≤ 1000000000000 then 0 else 1] = sunnyF s a b := by
    unfold sunnyF inM
    simp only [firstV]
    by_cases h1 : sunV s = 0
    · simp only [h1, if_true, ne_eq, not_true_eq_false, if_false]
      by_cases h2 : 0 ≤ a ∧ a ≤ 1000000000000 <;> by_cases h3 : 0 ≤ b ∧ b ≤ 1000000000000 <;> simp [h2, h3]
    · simp [h1]
  rw [e]
  unfold SunnyV
  refine Ev.ite (fun h => ?_) (fun h => Ev.is (if_neg h).symm)
  rw [if_pos h]
  unfold sunnyF at h
  split at h
  · rename_i q; exact absurd h q
  · rename_i q
    split at h
    · omega
    · rename_i r
      have r' := Classical.not_not.1 r
      exact power_Sunny_l0 (by omega) r'.1 r'.2
/-- Uses that do not clash: no order is asked. -/
structure GoodUses (l : List S32) (u : List S35) : Prop where
  loads : GoodLoads l
  few : u.length ≤ 400
  each : ∀ x ∈ u, inM x.f1 ∧ inM x.f2 ∧ x.f1 < x.f2
  apart : u.Pairwise fun a b => a.f0.toList = b.f0.toList → a.f2 ≤ b.f1 ∨ b.f2 ≤ a.f1
theorem rdU_get {u : List S35} {i : Nat} (hi : i < u.length) : rd_T35 u (i : Int) = u[i] := by
  unfold rd_T35
  rw [List.getD_eq_getElem?_getD, Int.toNat_natCast, List.getElem?_eq_getElem hi]
  rfl
theorem GoodUses.span {l : List S32} {u : List S35} (h : GoodUses l u) {i : Nat} (hi : i < u.length) : inM (rd_T35 u i).f1 ∧ inM (rd_T35 u i).f2 ∧ (rd_T35 u i).f1 < (rd_T35 u i).f2 := by
  rw [rdU_get hi]
  exact h.each _ (List.getElem_mem hi)
theorem awake_ev : Ev (fun k => perigeelaw9_awake.f k) true := by
  simp only [perigeelaw9_awake.f]
  refine Ev.bind (power_Sunny_ev _ _ _) ?_
  have e : SunnyV [(⟨2, 5⟩ : S53)] 0 4 = (2, 0) := by
    have e1 : sunV [(⟨2, 5⟩ : S53)] = 0 := by
      unfold sunV
      rw [if_neg (by simp)]
      show scanV _ 1 0 = 0
      rw [scanV_lt (by omega), scanV_ge (Nat.le_refl _)]
      rfl
    unfold SunnyV
    have e2 : sunnyF [(⟨2, 5⟩ : S53)] 0 4 = 0 := by
      unfold sunnyF
      rw [if_neg (by simp [e1]), if_neg (by unfold inM; omega)]
    rw [if_pos e2]
    rfl
  rw [e]
  exact Ev.now _
end Go.Proofs.YtplcdpiggpkppaaDoor.Q
