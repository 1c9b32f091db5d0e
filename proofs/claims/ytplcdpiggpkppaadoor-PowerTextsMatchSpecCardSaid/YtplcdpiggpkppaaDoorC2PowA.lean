/- Plain laws on the checks of chapter 9: the sun, loads, the cell, and what the reference says of them. -/
-- Made by wip/tools/claimp.py of this session's texts; Lean checks it.
import Derived.Test.YtplcdpiggpkppaaDoorC2Ev
import Derived.Test.YtplcdpiggpkppaaDoorC2Gd1
import Derived.Test.YtplcdpiggpkppaaDoorC2Gd2
set_option linter.unusedVariables false
set_option linter.unusedSimpArgs false
namespace Go.Proofs.YtplcdpiggpkppaaDoor.Q
open Go.RowKit Go.Proofs.YtplcdpiggpkppaaDoorW.PrintWords Go.Proofs.YtplcdpiggpkppaaDoorW.PrintLast Go.Proofs.YtplcdpiggpkppaaDoorW.PrintMore Go.Proofs.YtplcdpiggpkppaaDoor.Base
theorem kit_In_eq (a b c : Int) : kit_In.f a b c = some (decide (b ≤ a ∧ a ≤ c)) := by
  unfold kit_In.f
  by_cases h1 : b ≤ a
  · rw [if_pos h1]; congr 1; by_cases h2 : a ≤ c <;> simp [h1, h2]
  · rw [if_neg h1]; simp [h1]
theorem kit_Range_eq (a b c : Int) : kit_Range.f a b c = some (if b ≤ a ∧ a ≤ c then 0 else 1) := by
  unfold kit_Range.f
  rw [kit_In_eq]
  by_cases h : b ≤ a ∧ a ≤ c <;> simp [h]
def inM (x : Int) : Prop := 0 ≤ x ∧ x ≤ 1000000000000
instance (x : Int) : Decidable (inM x) := by unfold inM; exact inferInstance
def spanV (f t : Int) : Int := if ¬ inM f ∨ ¬ inM t then 1 else if t ≤ f then 13 else 0
theorem power_span_ev (f t : Int) : Ev (fun k => power_span.f k f t) (spanV f t) := by
  simp only [power_span.f, kit_In_eq, Option.bind_some]
  have j0 : ∀ b : Bool, (b = true ↔ (¬ inM f ∨ ¬ inM t)) → Ev (fun k => power_span.j0 k f t b) (spanV f t) := by
    intro b hb
    refine Ev.step (fun k => power_span.j0.eq_2 ..) ?_
    unfold spanV
    refine Ev.ite (fun h => ?_) (fun h => ?_)
    · exact Ev.is (if_pos (hb.1 h)).symm
    · rw [if_neg (fun q => h (hb.2 q))]
      refine Ev.ite (fun h2 => ?_) (fun h2 => ?_)
      · exact Ev.is (if_pos h2).symm
      · exact Ev.is (if_neg h2).symm
  refine Ev.ite (fun h => ?_) (fun h => ?_)
  · refine j0 _ ?_
    have h := of_decide_eq_true h
    unfold inM
    simp
    omega
  · refine j0 _ ?_
    have h : ¬ _ := fun q => h (decide_eq_true q)
    unfold inM
    simp
    omega
def sunBad (s : List S53) (i : Nat) : Int := if spanV (rd_T53 s i).f0 (rd_T53 s i).f1 ≠ 0 then spanV (rd_T53 s i).f0 (rd_T53 s i).f1 else if 0 < i ∧ (rd_T53 s i).f0 ≤ (rd_T53 s ((i : Int) - 1)).f1 then 8 else 0
/-- The first that is not nought. -/
def scanV (f : Nat → Int) (n : Nat) (i : Nat) : Int := if i < n then (if f i ≠ 0 then f i else scanV f n (i + 1)) else 0
termination_by n - i
theorem scanV_lt {f : Nat → Int} {n i : Nat} (h : i < n) : scanV f n i = if f i ≠ 0 then f i else scanV f n (i + 1) := by rw [scanV, if_pos h]
theorem scanV_ge {f : Nat → Int} {n i : Nat} (h : n ≤ i) : scanV f n i = 0 := by rw [scanV, if_neg (by omega)]
theorem scanV_zero {f : Nat → Int} {n : Nat} : ∀ d i : Nat, i + d = n → scanV f n i = 0 → ∀ j : Nat, i ≤ j → j < n → f j = 0
  | 0, i, hi, _, j, h1, h2 => by omega
  | d + 1, i, hi, h, j, h1, h2 => by
    rw [scanV_lt (by omega)] at h
    by_cases h0 : f i = 0
    · rw [if_neg (by simp [h0])] at h
      by_cases e : j = i
      · subst e; exact h0
      · exact scanV_zero d (i + 1) (by omega) h j (by omega) h2
    · rw [if_pos h0] at h
      exact absurd h h0
def sunV (s : List S53) : Int := if (s.length : Int) > 500 then 2 else scanV (sunBad s) s.length 0
theorem power_CheckSun_ev (s : List S53) : Ev (fun k => power_CheckSun.f k s) (sunV s) := by
  simp only [power_CheckSun.f]
  unfold sunV
  refine Ev.ite (fun h => Ev.is (if_pos h).symm) (fun h => ?_)
  rw [if_neg h]
  refine Ev.loop (L := fun k i => power_CheckSun.l0 k s s (s.length : Int) (i : Int)) (v := scanV (sunBad s) s.length) s.length ?_ ?_ s.length 0 (by omega)
  · refine Ev.step (fun k => power_CheckSun.l0.eq_2 ..) ?_
    simp only [if_neg (show ¬ (s.length : Int) < s.length by omega)]
    exact Ev.is (scanV_ge (Nat.le_refl _)).symm
  · intro i hi hn
    rw [scanV_lt hi]
    refine Ev.step (fun k => power_CheckSun.l0.eq_2 ..) ?_
    simp only [if_pos (show (i : Int) < s.length by omega), if_pos (show (0 : Int) ≤ i by omega), w64 (x := (i : Int) + 1) (by omega) (by omega), w64 (x := (i : Int) - 1) (by omega) (by omega)]
    refine Ev.bind (power_span_ev _ _) ?_
    refine Ev.ite (fun h1 => ?_) (fun h1 => ?_)
    · refine Ev.ite (fun h2 => ?_) (fun h2 => ?_)
      · simp only [if_pos (show (0 : Int) ≤ (i : Int) - 1 by omega), if_pos (show (i : Int) - 1 < s.length by omega)]
        refine Ev.ite (fun h3 => ?_) (fun h3 => ?_)
        · have e : sunBad s i = 8 := by unfold sunBad; rw [if_neg (fun q => q h1), if_pos ⟨by omega, h3⟩]
          exact Ev.is (by rw [e]; rfl)
        · have e : sunBad s i = 0 := by unfold sunBad; rw [if_neg (fun q => q h1), if_neg (fun q => h3 q.2)]
          rw [if_neg (by simp [e])]
          exact hn
      · have e : sunBad s i = 0 := by unfold sunBad; rw [if_neg (fun q => q h1), if_neg (fun q => h2 (by omega))]
        rw [if_neg (by simp [e])]
        exact hn
    · have e : sunBad s i = spanV (rd_T53 s i).f0 (rd_T53 s i).f1 := by unfold sunBad; rw [if_pos h1]
      exact Ev.is (by rw [e, if_pos h1])
def charOk (i : Nat) (c : Int) : Bool := decide (97 ≤ c ∧ c ≤ 122) || (decide (i ≠ 0) && (decide (c = 95) || decide (48 ≤ c ∧ c ≤ 57)))
def charsV (s : ByteArray) (n : Nat) (i : Nat) : Bool := if i < n then (charOk i (bt s i) && charsV s n (i + 1)) else true
termination_by n - i
theorem charsV_lt {s : ByteArray} {n i : Nat} (h : i < n) : charsV s n i = (charOk i (bt s i) && charsV s n (i + 1)) := by rw [charsV, if_pos h]
theorem charsV_ge {s : ByteArray} {n i : Nat} (h : n ≤ i) : charsV s n i = true := by rw [charsV, if_neg (by omega)]
def wordV (s : ByteArray) : Bool := decide (1 ≤ s.size) && decide (s.size ≤ 40) && charsV s s.size 0
theorem toList_nil {s : ByteArray} : s.toList = ([] : List UInt8) ↔ s.size = 0 := by
  rw [ByteArray.toList_eq]
  constructor
  · intro h
    have := congrArg List.length h
    simpa using this
  · intro h
    apply List.eq_nil_of_length_eq_zero
    simpa using h
theorem telemetry_Word_l0 (s : ByteArray) (hs : s.size ≤ 40) : Ev (fun k => telemetry_Word.l0 k s (s.size : Int) 0) (charsV s s.size 0) := by
  refine Ev.loop (L := fun k i => telemetry_Word.l0 k s (s.size : Int) (i : Int)) (v := charsV s s.size) s.size ?_ ?_ s.size 0 (by omega)
  · refine Ev.step (fun k => telemetry_Word.l0.eq_2 ..) ?_
    simp only [if_neg (show ¬ (s.size : Int) < s.size by omega)]
    exact Ev.is (charsV_ge (Nat.le_refl _)).symm
  · intro i hi hn
    rw [charsV_lt hi]
    refine Ev.step (fun k => telemetry_Word.l0.eq_2 ..) ?_
    simp only [if_pos (show (i : Int) < s.size by omega), if_pos (show (0 : Int) ≤ i by omega), w64 (x := (i : Int) + 1) (by omega) (by omega)]
    have yes : charOk i (bt s i) = true → Ev (fun k => telemetry_Word.l0 k s (s.size : Int) ((i : Int) + 1)) (charOk i (bt s i) && charsV s s.size (i + 1)) := fun h => by rw [h, Bool.true_and]; exact hn
    have no : charOk i (bt s i) = false → Ev (fun _ => some false) (charOk i (bt s i) && charsV s s.size (i + 1)) := fun h => by rw [h, Bool.false_and]; exact Ev.now _
    generalize bt s i = c at *
    repeat' refine Ev.ite (fun h_ => ?_) (fun h_ => ?_)
    all_goals first
      | (refine yes ?_; unfold charOk; simp only [Bool.or_eq_true, Bool.and_eq_true, decide_eq_true_eq, ne_eq]; omega)
      | (refine no ?_; unfold charOk; simp only [Bool.or_eq_false_iff, Bool.and_eq_false_iff, decide_eq_false_iff_not, ne_eq]; omega)
theorem telemetry_Word_ev (s : ByteArray) : Ev (fun k => telemetry_Word.f k s) (wordV s) := by
  simp only [telemetry_Word.f]
  have j0 : ∀ b : Bool, (b = true ↔ ¬ (1 ≤ s.size ∧ s.size ≤ 40)) → Ev (fun k => telemetry_Word.j0 k s b) (wordV s) := by
    intro b hb
    refine Ev.step (fun k => telemetry_Word.j0.eq_2 ..) ?_
    refine Ev.ite (fun h => ?_) (fun h => ?_)
    · have := hb.1 h
      refine Ev.is ?_
      unfold wordV
      by_cases q : 1 ≤ s.size
      · rw [decide_eq_false (show ¬ s.size ≤ 40 by omega), Bool.and_false]; rfl
      · rw [decide_eq_false q]; rfl
    · have q : 1 ≤ s.size ∧ s.size ≤ 40 := Classical.byContradiction fun q => h (hb.2 q)
      have e : wordV s = charsV s s.size 0 := by unfold wordV; rw [decide_eq_true q.1, decide_eq_true q.2]; rfl
      rw [e]
      exact telemetry_Word_l0 s q.2
  refine Ev.ite (fun h => ?_) (fun h => ?_)
  · rw [toList_nil] at h
    exact j0 _ (by simp [h])
  · rw [toList_nil] at h
    exact j0 _ (by rw [decide_eq_true_eq]; omega)
def loadBad (l : List S32) (i : Nat) : Int :=
  if wordV (rd_T32 l i).f0 = false then 5 else if ¬ (0 ≤ (rd_T32 l i).f1 ∧ (rd_T32 l i).f1 ≤ 100000) ∨ ¬ (0 ≤ (rd_T32 l i).f2 ∧ (rd_T32 l i).f2 ≤ 1000) then 1
  else if 0 < i ∧ ¬ Op.bytesLess (rd_T32 l ((i : Int) - 1)).f0.toList (rd_T32 l i).f0.toList = true then 8 else 0
def loadsV (l : List S32) : Int := if (l.length : Int) > 50 then 2 else scanV (loadBad l) l.length 0
theorem power_CheckLoads_j1 {l : List S32} {i : Nat} (hi : i < l.length) (hl : l.length ≤ 50) (hw : wordV (rd_T32 l i).f0 = true) (hn : Ev (fun k => power_CheckLoads.l0 k l l (l.length : Int) ((i + 1 : Nat) : Int)) (scanV (loadBad l) l.length (i + 1))) {b : Bool}
    (hb : b = true ↔ ¬ (0 ≤ (rd_T32 l i).f1 ∧ (rd_T32 l i).f1 ≤ 100000) ∨ ¬ (0 ≤ (rd_T32 l i).f2 ∧ (rd_T32 l i).f2 ≤ 1000)) :
    Ev (fun k => power_CheckLoads.j1 k l (i : Int) l (l.length : Int) (i : Int) b (rd_T32 l i).f0 (rd_T32 l i).f1 (rd_T32 l i).f2) (if loadBad l i ≠ 0 then loadBad l i else scanV (loadBad l) l.length (i + 1)) := by
  have hw' : ¬ wordV (rd_T32 l i).f0 = false := by rw [hw]; simp
  refine Ev.step (fun k => power_CheckLoads.j1.eq_2 ..) ?_
  simp only [w64 (x := (i : Int) + 1) (by omega) (by omega), w64 (x := (i : Int) - 1) (by omega) (by omega)]
  refine Ev.ite (fun h1 => ?_) (fun h1 => ?_)
  · have e : loadBad l i = 1 := by unfold loadBad; rw [if_neg hw', if_pos (hb.1 h1)]
    exact Ev.is (by rw [e]; rfl)
  · have h1' := fun q => h1 (hb.2 q)
    refine Ev.ite (fun h2 => ?_) (fun h2 => ?_)
    · simp only [if_pos (show (0 : Int) ≤ (i : Int) - 1 by omega), if_pos (show (i : Int) - 1 < l.length by omega)]
      refine Ev.ite (fun h3 => ?_) (fun h3 => ?_)
      · have e : loadBad l i = 0 := by unfold loadBad; rw [if_neg hw', if_neg h1', if_neg (fun q => q.2 h3)]
        rw [if_neg (by simp [e])]
        exact hn
      · have e : loadBad l i = 8 := by unfold loadBad; rw [if_neg hw', if_neg h1', if_pos ⟨by omega, h3⟩]
        exact Ev.is (by rw [e]; rfl)
    · have e : loadBad l i = 0 := by unfold loadBad; rw [if_neg hw', if_neg h1', if_neg (fun q => h2 (by omega))]
      rw [if_neg (by simp [e])]
      exact hn
theorem power_CheckLoads_ev (l : List S32) : Ev (fun k => power_CheckLoads.f k l) (loadsV l) := by
  simp only [power_CheckLoads.f]
  unfold loadsV
  refine Ev.ite (fun h => Ev.is (if_pos h).symm) (fun h => ?_)
  rw [if_neg h]
  refine Ev.loop (L := fun k i => power_CheckLoads.l0 k l l (l.length : Int) (i : Int)) (v := scanV (loadBad l) l.length) l.length ?_ ?_ l.length 0 (by omega)
  · refine Ev.step (fun k => power_CheckLoads.l0.eq_2 ..) ?_
    simp only [if_neg (show ¬ (l.length : Int) < l.length by omega)]
    exact Ev.is (scanV_ge (Nat.le_refl _)).symm
  · intro i hi hn
    rw [scanV_lt hi]
    refine Ev.step (fun k => power_CheckLoads.l0.eq_2 ..) ?_
    simp only [if_pos (show (i : Int) < l.length by omega), if_pos (show (0 : Int) ≤ i by omega), kit_In_eq, Option.bind_some]
    refine Ev.bind (telemetry_Word_ev _) ?_
    refine Ev.ite (fun h1 => ?_) (fun h1 => ?_)
    · refine Ev.ite (fun h2 => ?_) (fun h2 => ?_)
      · have h2 := of_decide_eq_true h2
        exact power_CheckLoads_j1 hi (by omega) h1 hn (by simp; omega)
      · have h2 : ¬ _ := fun q => h2 (decide_eq_true q)
        exact power_CheckLoads_j1 hi (by omega) h1 hn (by simp; omega)
    · have e : loadBad l i = 5 := by unfold loadBad; rw [if_pos (by simpa using h1)]
      exact Ev.is (by rw [e]; rfl)
end Go.Proofs.YtplcdpiggpkppaaDoor.Q
