/- Plain laws on what a pass carries: names, steps, stretches, volumes. -/
-- Made by wip/tools/claimp.py of this session's texts; Lean checks it.
import Derived.Test.YtbngmblgkkdhpaaC10Gs2
import Derived.Test.YtbngmblgkkdhpaaC10Gs1
set_option linter.unusedVariables false
set_option linter.unusedSimpArgs false
namespace Go.Proofs.Ytbngmblgkkdhpaa.Q
open Go.RowKit Go.Proofs.YtbngmblgkkdhpaaW.PrintWords Go.Proofs.YtbngmblgkkdhpaaW.PrintLast Go.Proofs.YtbngmblgkkdhpaaW.PrintMore Go.Proofs.Ytbngmblgkkdhpaa.Base
theorem w64 {x : Int} (h1 : -9223372036854775808 ≤ x) (h2 : x ≤ 9223372036854775807) : wrap64 x = x := by unfold wrap64; omega
/-- One answer, whatever the rounds. -/
theorem Ev.unique {α : Type} {g : Nat → Option α} {a b : α} (h : Ev g a) (k : Ev g b) : a = b := by
  obtain ⟨K, h⟩ := h
  obtain ⟨K', k⟩ := k
  have h1 := h (max K K') (by omega)
  have h2 := k (max K K') (by omega)
  rw [h1] at h2
  exact Option.some.inj h2
def firstV : List Int → Int
  | [] => 0
  | x :: l => if x = 0 then firstV l else x
theorem rd_drop {l : List Int} {i : Nat} (h : i < l.length) : l.drop i = rd l (i : Int) :: l.drop (i + 1) := by
  rw [List.drop_eq_getElem_cons h]
  congr 1
  unfold rd
  simp [List.getD_eq_getElem?_getD, List.getElem?_eq_getElem h]
theorem kit_First_l0 (l : List Int) (hl : l.length ≤ 1000) : ∀ d i : Nat, i + d = l.length → Ev (fun k => kit_First.l0 k l (l.length : Int) (i : Int)) (firstV (l.drop i)) := by
  intro d
  induction d with
  | zero =>
    intro i hi
    refine Ev.step (f := fun _ => some 0) (fun k => by simp only [kit_First.l0]; rw [if_neg (by omega)]) ?_
    rw [List.drop_of_length_le (by omega)]
    exact Ev.now _
  | succ d ih =>
    intro i hi
    have hlt : i < l.length := by omega
    rw [rd_drop hlt]
    by_cases h : rd l (i : Int) = 0
    · refine Ev.step (f := fun k => kit_First.l0 k l (l.length : Int) ((i + 1 : Nat) : Int)) (fun k => ?_) ?_
      · simp only [kit_First.l0]
        rw [if_pos (by omega), if_pos (by omega), if_pos (by omega), if_pos h, w64 (by omega) (by omega)]
        rfl
      · have := ih (i + 1) (by omega)
        simpa [firstV, h] using this
    · refine Ev.step (f := fun k => some (rd l (i : Int))) (fun k => ?_) ?_
      · simp only [kit_First.l0]
        rw [if_pos (by omega), if_pos (by omega), if_pos (by omega), if_neg h]
      · simp only [firstV, if_neg h]
        exact Ev.now _
theorem kit_First_ev (l : List Int) (hl : l.length ≤ 1000) : Ev (fun k => kit_First.f k l) (firstV l) := by
  have := kit_First_l0 l hl l.length 0 (by omega)
  simpa [kit_First.f] using this
theorem kit_In_eq (a b c : Int) : kit_In.f a b c = some (decide (b ≤ a ∧ a ≤ c)) := by
  unfold kit_In.f
  by_cases h : b ≤ a <;> simp [h]
theorem kit_Range_eq (a b c : Int) : kit_Range.f a b c = some (if b ≤ a ∧ a ≤ c then 0 else 1) := by
  unfold kit_Range.f
  rw [kit_In_eq]
  by_cases h : b ≤ a ∧ a ≤ c <;> simp [h]
def byteOk (i : Int) (c : Int) : Bool := (97 ≤ c && c ≤ 122) || (i != 0 && (c == 45 || c == 95 || (48 ≤ c && c ≤ 57)))
def namesFrom (s : ByteArray) (i : Nat) : Bool := if h : i < s.size then byteOk i (bt s i) && namesFrom s (i + 1) else true
termination_by s.size - i
def nameOk (s : ByteArray) : Bool := decide (1 ≤ s.size) && decide (s.size ≤ 40) && namesFrom s 0
theorem namesFrom_lt {s : ByteArray} {i : Nat} (h : i < s.size) : namesFrom s i = (byteOk i (bt s i) && namesFrom s (i + 1)) := by
  rw [namesFrom, dif_pos h]
theorem namesFrom_ge {s : ByteArray} {i : Nat} (h : s.size ≤ i) : namesFrom s i = true := by
  rw [namesFrom, dif_neg (by omega)]
theorem monitor_IsName_l0 (s : ByteArray) (hs : s.size ≤ 40) : ∀ d i : Nat, i + d = s.size → Ev (fun k => monitor_IsName.l0 k s (s.size : Int) (i : Int)) (namesFrom s i) := by
  intro d
  induction d with
  | zero =>
    intro i hi
    refine Ev.step (f := fun _ => some true) (fun k => by simp only [monitor_IsName.l0]; rw [if_neg (by omega)]) ?_
    rw [namesFrom_ge (by omega)]
    exact Ev.now _
  | succ d ih =>
    intro i hi
    have hlt : i < s.size := by omega
    have hn := ih (i + 1) (by omega)
    rw [namesFrom_lt hlt]
    refine Ev.step (f := fun k => if byteOk i (bt s i) = true then monitor_IsName.l0 k s (s.size : Int) ((i + 1 : Nat) : Int) else some false) (fun k => ?_) ?_
    · simp only [monitor_IsName.l0]
      rw [if_pos (by omega), if_pos (by omega), if_pos (by omega), w64 (x := (i : Int) + 1) (by omega) (by omega)]
      have hb := bt_range s i
      generalize bt s (i : Int) = c at *
      unfold byteOk
      by_cases h0 : i = 0 <;> by_cases h1 : c < 97 <;> by_cases h2 : c > 122 <;> by_cases h3 : c = 45 <;> by_cases h4 : c = 95 <;> by_cases h5 : c < 48 <;> by_cases h6 : c > 57 <;>
        simp [h0, h1, h2, h3, h4, h5, h6] <;> (try omega) <;> (try (split <;> first | rfl | omega))
    · by_cases h : byteOk i (bt s i) = true
      · simp only [h, if_true, Bool.true_and]
        exact hn
      · have h' : byteOk i (bt s i) = false := by simpa using h
        simp only [h', Bool.false_and]
        exact Ev.now _
theorem toList_nil {s : ByteArray} : s.toList = ([] : List UInt8) ↔ s.size = 0 := by
  rw [ByteArray.toList_eq]
  constructor
  · intro h
    have := congrArg List.length h
    simpa using this
  · intro h
    apply List.eq_nil_of_length_eq_zero
    simpa using h
theorem monitor_IsName_ev (s : ByteArray) : Ev (fun k => monitor_IsName.f k s) (nameOk s) := by
  simp only [monitor_IsName.f]
  by_cases h0 : s.size = 0
  · simp only [toList_nil, h0, if_true]
    refine Ev.step (f := fun _ => some false) (fun k => by simp only [monitor_IsName.j0, if_true]) ?_
    have : nameOk s = false := by simp [nameOk, h0]
    rw [this]
    exact Ev.now _
  · simp only [toList_nil, h0, if_false]
    by_cases h1 : (s.size : Int) > 40
    · simp only [h1, decide_true]
      refine Ev.step (f := fun _ => some false) (fun k => by simp only [monitor_IsName.j0, if_true]) ?_
      have : nameOk s = false := by simp [nameOk]; omega
      rw [this]
      exact Ev.now _
    · simp only [h1, decide_false]
      refine Ev.step (f := fun k => monitor_IsName.l0 k s (s.size : Int) ((0 : Nat) : Int)) (fun k => by simp [monitor_IsName.j0]) ?_
      have := monitor_IsName_l0 s (by omega) s.size 0 (by omega)
      have e : nameOk s = namesFrom s 0 := by
        unfold nameOk
        rw [decide_eq_true (by omega : 1 ≤ s.size), decide_eq_true (by omega : s.size ≤ 40)]
        rfl
      rw [e]
      exact this
def stepBad (p : S33) (i : Nat) : Bool := !(decide (p.f1 ≤ (rd_T75 p.f3 i).f0 ∧ (rd_T75 p.f3 i).f0 ≤ p.f2 - 1) && decide (0 ≤ (rd_T75 p.f3 i).f1 ∧ (rd_T75 p.f3 i).f1 ≤ 100000))
def stepsV (p : S33) (i : Nat) : Int := if h : i < p.f3.length then (if stepBad p i = true then 1 else if 0 < i ∧ (rd_T75 p.f3 i).f0 ≤ (rd_T75 p.f3 ((i : Int) - 1)).f0 then 8 else stepsV p (i + 1)) else 0
termination_by p.f3.length - i
def passV (p : S33) : Int :=
  if nameOk p.f0 = false then 5 else if ¬ (0 ≤ p.f1 ∧ p.f1 ≤ 1000000000000) ∨ ¬ (0 ≤ p.f2 ∧ p.f2 ≤ 1000000000000) then 1 else if p.f2 ≤ p.f1 then 8
  else if p.f2 - p.f1 > 2000000 ∨ p.f3.length > 50 then 2 else stepsV p 0
theorem stepsV_lt {p : S33} {i : Nat} (h : i < p.f3.length) : stepsV p i = (if stepBad p i = true then 1 else if 0 < i ∧ (rd_T75 p.f3 i).f0 ≤ (rd_T75 p.f3 ((i : Int) - 1)).f0 then 8 else stepsV p (i + 1)) := by
  rw [stepsV, dif_pos h]
theorem stepsV_ge {p : S33} {i : Nat} (h : p.f3.length ≤ i) : stepsV p i = 0 := by
  rw [stepsV, dif_neg (by omega)]
theorem contact_checkPass_l0 (p : S33) (h2 : 0 ≤ p.f2 ∧ p.f2 ≤ 1000000000000) (hs : p.f3.length ≤ 50) : ∀ d i : Nat, i + d = p.f3.length → Ev (fun k => contact_checkPass.l0 k p.f3 (p.f3.length : Int) (i : Int) p.f0 p.f1 p.f2 p.f3) (stepsV p i) := by
  intro d
  induction d with
  | zero =>
    intro i hi
    refine Ev.step (f := fun _ => some 0) (fun k => by simp only [contact_checkPass.l0]; rw [if_neg (by omega)]) ?_
    rw [stepsV_ge (by omega)]
    exact Ev.now _
  | succ d ih =>
    intro i hi
    have hlt : i < p.f3.length := by omega
    have hn := ih (i + 1) (by omega)
    rw [stepsV_lt hlt]
    have j3 : ∀ b : Bool, b = stepBad p i → Ev (fun k => contact_checkPass.j3 k (i : Int) p.f3 (p.f3.length : Int) (i : Int) b p.f0 p.f1 p.f2 p.f3 (rd_T75 p.f3 i).f0 (rd_T75 p.f3 i).f1) (if stepBad p i = true then 1 else if 0 < i ∧ (rd_T75 p.f3 i).f0 ≤ (rd_T75 p.f3 ((i : Int) - 1)).f0 then 8 else stepsV p (i + 1)) := by
      intro b hb
      by_cases h : stepBad p i = true
      · rw [h] at hb
        subst hb
        rw [if_pos h]
        exact Ev.step (f := fun _ => some 1) (fun k => by simp only [contact_checkPass.j3, if_true]) (Ev.now _)
      · have h' : stepBad p i = false := by simpa using h
        rw [h'] at hb
        subst hb
        rw [if_neg h]
        by_cases h0 : 0 < i
        · by_cases hle : (rd_T75 p.f3 i).f0 ≤ (rd_T75 p.f3 ((i : Int) - 1)).f0
          · rw [if_pos ⟨h0, hle⟩]
            refine Ev.step (f := fun _ => some 8) (fun k => ?_) (Ev.now _)
            simp only [contact_checkPass.j3]
            rw [w64 (x := (i : Int) - 1) (by omega) (by omega), if_neg (by simp), if_pos (by omega), if_pos (by omega), if_pos (by omega), if_pos hle]
          · rw [if_neg (fun h => hle h.2)]
            refine Ev.step (f := fun k => contact_checkPass.l0 k p.f3 (p.f3.length : Int) ((i + 1 : Nat) : Int) p.f0 p.f1 p.f2 p.f3) (fun k => ?_) hn
            simp only [contact_checkPass.j3]
            rw [w64 (x := (i : Int) - 1) (by omega) (by omega), w64 (x := (i : Int) + 1) (by omega) (by omega), if_neg (by simp), if_pos (by omega), if_pos (by omega), if_pos (by omega), if_neg hle]
            rfl
        · rw [if_neg (fun h => h0 h.1)]
          refine Ev.step (f := fun k => contact_checkPass.l0 k p.f3 (p.f3.length : Int) ((i + 1 : Nat) : Int) p.f0 p.f1 p.f2 p.f3) (fun k => ?_) hn
          simp only [contact_checkPass.j3]
          rw [w64 (x := (i : Int) + 1) (by omega) (by omega), if_neg (by simp), if_neg (by omega)]
          rfl
    have hw : wrap64 (p.f2 - 1) = p.f2 - 1 := w64 (by omega) (by omega)
    by_cases h1 : p.f1 ≤ (rd_T75 p.f3 i).f0 ∧ (rd_T75 p.f3 i).f0 ≤ p.f2 - 1
    · refine Ev.step (f := fun k => contact_checkPass.j3 k (i : Int) p.f3 (p.f3.length : Int) (i : Int) (!decide (0 ≤ (rd_T75 p.f3 i).f1 ∧ (rd_T75 p.f3 i).f1 ≤ 100000)) p.f0 p.f1 p.f2 p.f3 (rd_T75 p.f3 i).f0 (rd_T75 p.f3 i).f1) (fun k => ?_) (j3 _ (by simp [stepBad, h1]))
      simp only [contact_checkPass.l0]
      rw [if_pos (by omega), if_pos (by omega), if_pos (by omega), kit_In_eq, hw, decide_eq_true h1]
      simp only [Option.bind_some, if_true, kit_In_eq]
    · refine Ev.step (f := fun k => contact_checkPass.j3 k (i : Int) p.f3 (p.f3.length : Int) (i : Int) true p.f0 p.f1 p.f2 p.f3 (rd_T75 p.f3 i).f0 (rd_T75 p.f3 i).f1) (fun k => ?_) (j3 _ (by simp [stepBad, h1]))
      simp only [contact_checkPass.l0]
      rw [if_pos (by omega), if_pos (by omega), if_pos (by omega), kit_In_eq, hw, decide_eq_false h1]
      simp only [Option.bind_some, if_neg Bool.false_ne_true]
theorem contact_checkPass_ev (p : S33) : Ev (fun k => contact_checkPass.f k p.f0 p.f1 p.f2 p.f3) (passV p) := by
  simp only [contact_checkPass.f]
  refine Ev.bind (monitor_IsName_ev p.f0) ?_
  unfold passV
  by_cases hn : nameOk p.f0 = true
  · simp only [hn, if_true, kit_In_eq, Option.bind_some, Bool.true_eq_false, if_false]
    have j0 : ∀ b : Bool, b = decide (¬ (0 ≤ p.f1 ∧ p.f1 ≤ 1000000000000) ∨ ¬ (0 ≤ p.f2 ∧ p.f2 ≤ 1000000000000)) → Ev (fun k => contact_checkPass.j0 k b p.f0 p.f1 p.f2 p.f3) (if ¬ (0 ≤ p.f1 ∧ p.f1 ≤ 1000000000000) ∨ ¬ (0 ≤ p.f2 ∧ p.f2 ≤ 1000000000000) then 1 else if p.f2 ≤ p.f1 then 8 else if p.f2 - p.f1 > 2000000 ∨ p.f3.length > 50 then 2 else stepsV p 0) := by
      intro b hb
      by_cases hr : ¬ (0 ≤ p.f1 ∧ p.f1 ≤ 1000000000000) ∨ ¬ (0 ≤ p.f2 ∧ p.f2 ≤ 1000000000000)
      · rw [decide_eq_true hr] at hb
        subst hb
        rw [if_pos hr]
        exact Ev.step (f := fun _ => some 1) (fun k => by simp only [contact_checkPass.j0, if_true]) (Ev.now _)
      · rw [decide_eq_false hr] at hb
        subst hb
        rw [if_neg hr]
        have hw : wrap64 (p.f2 - p.f1) = p.f2 - p.f1 := w64 (by omega) (by omega)
        by_cases h1 : p.f2 ≤ p.f1
        · rw [if_pos h1]
          exact Ev.step (f := fun _ => some 8) (fun k => by simp only [contact_checkPass.j0]; rw [if_neg (by simp), if_pos h1]) (Ev.now _)
        · rw [if_neg h1]
          have j1 : ∀ b : Bool, b = decide (p.f2 - p.f1 > 2000000 ∨ p.f3.length > 50) → Ev (fun k => contact_checkPass.j1 k b p.f0 p.f1 p.f2 p.f3) (if p.f2 - p.f1 > 2000000 ∨ p.f3.length > 50 then 2 else stepsV p 0) := by
            intro b hb
            by_cases h2 : p.f2 - p.f1 > 2000000 ∨ p.f3.length > 50
            · rw [decide_eq_true h2] at hb
              subst hb
              rw [if_pos h2]
              exact Ev.step (f := fun _ => some 2) (fun k => by simp only [contact_checkPass.j1, if_true]) (Ev.now _)
            · rw [decide_eq_false h2] at hb
              subst hb
              rw [if_neg h2]
              have := contact_checkPass_l0 p (by omega) (by omega) p.f3.length 0 (by omega)
              exact Ev.step (f := fun k => contact_checkPass.l0 k p.f3 (p.f3.length : Int) ((0 : Nat) : Int) p.f0 p.f1 p.f2 p.f3) (fun k => by simp [contact_checkPass.j1]) this
          by_cases h3 : p.f2 - p.f1 > 2000000
          · refine Ev.step (f := fun k => contact_checkPass.j1 k true p.f0 p.f1 p.f2 p.f3) (fun k => by simp only [contact_checkPass.j0]; rw [if_neg (by simp), if_neg h1, hw, if_pos h3]) (j1 _ (by simp [h3]))
          · refine Ev.step (f := fun k => contact_checkPass.j1 k (decide ((p.f3.length : Int) > 50)) p.f0 p.f1 p.f2 p.f3) (fun k => by simp only [contact_checkPass.j0]; rw [if_neg (by simp), if_neg h1, hw, if_neg h3]) (j1 _ (by simp [h3]; omega))
    by_cases ha : 0 ≤ p.f1 ∧ p.f1 ≤ 1000000000000
    · simp only [ha, and_self, decide_true, if_true]
      have := j0 (!decide (0 ≤ p.f2 ∧ p.f2 ≤ 1000000000000)) (by by_cases hb : 0 ≤ p.f2 ∧ p.f2 ≤ 1000000000000 <;> simp only [ha, hb, not_true_eq_false, not_false_eq_true, false_or, decide_true, decide_false, Bool.not_true, Bool.not_false, and_self])
      simpa [ha] using this
    · simp only [ha, decide_false, if_neg Bool.false_ne_true]
      have := j0 true (by simp [ha])
      simpa [ha] using this
  · have hn' : nameOk p.f0 = false := by simpa using hn
    simp only [hn', if_neg Bool.false_ne_true, if_true]
    exact Ev.now _
def passesV (l : List S33) (i : Nat) : Int := if h : i < l.length then (if passV (rd_T33 l i) = 0 then (if 0 < i ∧ passAfter (rd_T33 l ((i : Int) - 1)) (rd_T33 l i) = true then 8 else passesV l (i + 1)) else passV (rd_T33 l i)) else if stationsB l > 50 then 2 else 0
termination_by l.length - i
def checkV (l : List S33) : Int := if l.length > 100 then 2 else passesV l 0
theorem contact_CheckPasses_l0 (l : List S33) : ∀ d i : Nat, i + d = l.length → Ev (fun k => contact_CheckPasses.l0 k l (i : Int)) (passesV l i) := by
  intro d
  induction d with
  | zero =>
    intro i hi
    refine Ev.step (f := fun _ => some (if stationsB l > 50 then 2 else 0)) (fun k => by simp only [contact_CheckPasses.l0]; rw [if_neg (by omega)]) ?_
    rw [passesV, dif_neg (by omega)]
    exact Ev.now _
  | succ d ih =>
    intro i hi
    have hlt : i < l.length := by omega
    have hn := ih (i + 1) (by omega)
    refine Ev.step (f := fun k => (contact_checkPass.f k (rd_T33 l i).f0 (rd_T33 l i).f1 (rd_T33 l i).f2 (rd_T33 l i).f3).bind fun t => if t = 0 then (if 0 < (i : Int) ∧ passAfter (rd_T33 l ((i : Int) - 1)) (rd_T33 l i) = true then some 8 else contact_CheckPasses.l0 k l ((i : Int) + 1)) else some t) (fun k => by simp only [contact_CheckPasses.l0]; rw [if_pos (by omega)]) ?_
    refine Ev.bind (contact_checkPass_ev (rd_T33 l i)) ?_
    rw [passesV, dif_pos hlt]
    by_cases h0 : passV (rd_T33 l i) = 0
    · simp only [h0, if_true]
      by_cases h1 : 0 < i ∧ passAfter (rd_T33 l ((i : Int) - 1)) (rd_T33 l i) = true
      · have h1' : 0 < (i : Int) ∧ passAfter (rd_T33 l ((i : Int) - 1)) (rd_T33 l i) = true := ⟨by omega, h1.2⟩
        simp only [if_pos h1, if_pos h1']
        exact Ev.now _
      · have h1' : ¬ (0 < (i : Int) ∧ passAfter (rd_T33 l ((i : Int) - 1)) (rd_T33 l i) = true) := fun h => h1 ⟨by omega, h.2⟩
        simp only [if_neg h1, if_neg h1']
        exact hn
    · simp only [h0, if_false]
      exact Ev.now _
theorem contact_CheckPasses_ev (l : List S33) : Ev (fun k => contact_CheckPasses.f k l) (checkV l) := by
  unfold checkV
  simp only [contact_CheckPasses.f]
  by_cases h : l.length > 100
  · have h' : (l.length : Int) > 100 := by omega
    simp only [if_pos h, if_pos h']
    exact Ev.now _
  · have h' : ¬ (l.length : Int) > 100 := by omega
    simp only [if_neg h, if_neg h']
    exact contact_CheckPasses_l0 l l.length 0 (by omega)
structure GoodPass (p : S33) : Prop where
  name : nameOk p.f0 = true
  from0 : 0 ≤ p.f1
  less : p.f1 < p.f2
  to1 : p.f2 ≤ 1000000000000
  long : p.f2 - p.f1 ≤ 2000000
  many : p.f3.length ≤ 50
  step : ∀ i : Nat, i < p.f3.length → p.f1 ≤ (rd_T75 p.f3 i).f0 ∧ (rd_T75 p.f3 i).f0 ≤ p.f2 - 1 ∧ 0 ≤ (rd_T75 p.f3 i).f1 ∧ (rd_T75 p.f3 i).f1 ≤ 100000
  rise : ∀ i : Nat, i + 1 < p.f3.length → (rd_T75 p.f3 i).f0 < (rd_T75 p.f3 ((i + 1 : Nat) : Int)).f0
theorem stepsV_zero {p : S33} : ∀ d i : Nat, i + d = p.f3.length → stepsV p i = 0 → ∀ j : Nat, i ≤ j → j < p.f3.length → stepBad p j = false ∧ (0 < j → (rd_T75 p.f3 ((j : Int) - 1)).f0 < (rd_T75 p.f3 j).f0) := by
  intro d
  induction d with
  | zero => intro i hi _ j h1 h2; omega
  | succ d ih =>
    intro i hi h j h1 h2
    rw [stepsV_lt (by omega)] at h
    split at h
    · omega
    · rename_i hb
      split at h
      · omega
      · rename_i hc
        rcases Nat.lt_or_eq_of_le h1 with h3 | rfl
        · exact ih (i + 1) (by omega) h j h3 h2
        · refine ⟨by simpa using hb, fun h0 => ?_⟩
          have : ¬ (rd_T75 p.f3 i).f0 ≤ (rd_T75 p.f3 ((i : Int) - 1)).f0 := fun h4 => hc ⟨h0, h4⟩
          omega
theorem passV_zero {p : S33} (h : passV p = 0) : GoodPass p := by
  unfold passV at h
  split at h
  · omega
  rename_i h1
  split at h
  · omega
  rename_i h2
  split at h
  · omega
  rename_i h3
  split at h
  · omega
  rename_i h4
  have hs := stepsV_zero p.f3.length 0 (by omega) h
  refine ⟨by simpa using h1, by omega, by omega, by omega, by omega, by omega, fun i hi => ?_, fun i hi => ?_⟩
  · have := (hs i (by omega) hi).1
    simp [stepBad] at this
    omega
  · have := (hs (i + 1) (by omega) hi).2 (by omega)
    simpa using this
structure GoodPasses (l : List S33) : Prop where
  many : l.length ≤ 100
  each : ∀ i : Nat, i < l.length → GoodPass (rd_T33 l i)
  order : ∀ i : Nat, i + 1 < l.length → passAfter (rd_T33 l i) (rd_T33 l ((i + 1 : Nat) : Int)) = false
  stations : stationsB l ≤ 50
theorem passesV_zero {l : List S33} : ∀ d i : Nat, i + d = l.length → passesV l i = 0 → (∀ j : Nat, i ≤ j → j < l.length → GoodPass (rd_T33 l j) ∧ (0 < j → passAfter (rd_T33 l ((j : Int) - 1)) (rd_T33 l j) = false)) ∧ stationsB l ≤ 50 := by
  intro d
  induction d with
  | zero =>
    intro i hi h
    rw [passesV, dif_neg (by omega)] at h
    split at h
    · omega
    · exact ⟨fun j h1 h2 => by omega, by omega⟩
  | succ d ih =>
    intro i hi h
    rw [passesV, dif_pos (by omega)] at h
    split at h
    · rename_i h0
      split at h
      · omega
      · rename_i hc
        obtain ⟨h3, h4⟩ := ih (i + 1) (by omega) h
        refine ⟨fun j h1 h2 => ?_, h4⟩
        rcases Nat.lt_or_eq_of_le h1 with h5 | rfl
        · exact h3 j h5 h2
        · exact ⟨passV_zero h0, fun h6 => by simpa [h6] using hc⟩
    · rename_i h0
      exact absurd h h0
theorem checkV_zero {l : List S33} (h : checkV l = 0) : GoodPasses l := by
  unfold checkV at h
  split at h
  · omega
  obtain ⟨h1, h2⟩ := passesV_zero l.length 0 (by omega) h
  exact ⟨by omega, fun i hi => (h1 i (by omega) hi).1, fun i hi => by simpa using (h1 (i + 1) (by omega) hi).2 (by omega), h2⟩
def endOf (p : S33) (i : Nat) : Int := if i + 1 < p.f3.length then (rd_T75 p.f3 ((i + 1 : Nat) : Int)).f0 else p.f2
def stretchesV (p : S33) : Nat → List S81
  | 0 => []
  | n + 1 => stretchesV p n ++ (if (rd_T75 p.f3 n).f1 > 0 then [⟨(rd_T75 p.f3 n).f0, endOf p n, (rd_T75 p.f3 n).f1⟩] else [])
theorem stretchesV_length (p : S33) : ∀ n, (stretchesV p n).length ≤ n
  | 0 => Nat.le_refl _
  | n + 1 => by
    have := stretchesV_length p n
    unfold stretchesV
    rw [List.length_append]
    split <;> simp <;> omega
theorem contact_stretches_l0 (p : S33) (hp : p.f3.length ≤ 50) : ∀ d i : Nat, i + d = p.f3.length → Ev (fun k => contact_stretches.l0 k (stretchesV p i) p.f3 (p.f3.length : Int) (i : Int) p.f0 p.f1 p.f2 p.f3) (stretchesV p p.f3.length) := by
  intro d
  induction d with
  | zero =>
    intro i hi
    obtain rfl : i = p.f3.length := by omega
    exact Ev.step (f := fun _ => some (stretchesV p p.f3.length)) (fun k => by simp only [contact_stretches.l0]; rw [if_neg (by omega)]) (Ev.now _)
  | succ d ih =>
    intro i hi
    have hn := ih (i + 1) (by omega)
    have hl := stretchesV_length p i
    refine Ev.step (f := fun k => contact_stretches.l0 k (stretchesV p (i + 1)) p.f3 (p.f3.length : Int) ((i + 1 : Nat) : Int) p.f0 p.f1 p.f2 p.f3) (fun k => ?_) hn
    simp only [contact_stretches.l0]
    rw [if_pos (by omega), if_pos (by omega), if_pos (by omega), w64 (x := (i : Int) + 1) (by omega) (by omega)]
    have e : ((i : Int) + 1) = ((i + 1 : Nat) : Int) := rfl
    by_cases h1 : ((i + 1 : Nat) : Int) < (p.f3.length : Int)
    · rw [if_pos (by omega), if_pos (by omega)]
      by_cases h2 : (rd_T75 p.f3 i).f1 > 0
      · rw [if_pos h2, if_pos (by omega), stretchesV, if_pos h2, endOf, if_pos (by omega), e]
      · rw [if_neg h2, stretchesV, if_neg h2, List.append_nil, e]
    · rw [if_neg (by omega)]
      by_cases h2 : (rd_T75 p.f3 i).f1 > 0
      · rw [if_pos h2, if_pos (by omega), stretchesV, if_pos h2, endOf, if_neg (by omega), e]
      · rw [if_neg h2, stretchesV, if_neg h2, List.append_nil, e]
theorem contact_stretches_ev (p : S33) (hp : p.f3.length ≤ 50) : Ev (fun k => contact_stretches.f k p.f0 p.f1 p.f2 p.f3) (stretchesV p p.f3.length) := by
  have := contact_stretches_l0 p hp p.f3.length 0 (by omega)
  simp only [contact_stretches.f]
  exact this
def partV (s : S81) (a b : Int) : Int := mx 0 (mn s.f1 b - mx s.f0 a) * s.f2
def sumS (a b : Int) : List S81 → Int
  | [] => 0
  | s :: r => partV s a b + sumS a b r
structure GoodS (s : S81) : Prop where
  le : s.f0 ≤ s.f1
  lo : 0 ≤ s.f0
  hi : s.f1 ≤ 1000000000000
  long : s.f1 - s.f0 ≤ 2000000
  rate : 1 ≤ s.f2
  rate1 : s.f2 ≤ 100000
theorem GoodPass.stretches {p : S33} (h : GoodPass p) : ∀ n : Nat, n ≤ p.f3.length → ∀ s ∈ stretchesV p n, GoodS s
  | 0, _, s, hs => by simp [stretchesV] at hs
  | n + 1, hn, s, hs => by
    unfold stretchesV at hs
    rcases List.mem_append.1 hs with hs | hs
    · exact h.stretches n (by omega) s hs
    · have h1 := h.step n (by omega)
      have h2 := h.long
      have h3 := h.to1
      have h4 := h.from0
      split at hs
      · rename_i hr
        obtain rfl := List.mem_singleton.1 hs
        by_cases hl : n + 1 < p.f3.length
        · have h5 := h.rise n hl
          have h6 := h.step (n + 1) hl
          refine ⟨?_, ?_, ?_, ?_, ?_, ?_⟩ <;> simp only [endOf, if_pos hl] <;> omega
        · refine ⟨?_, ?_, ?_, ?_, ?_, ?_⟩ <;> simp only [endOf, if_neg hl] <;> omega
      · simp at hs
theorem partV_bd {s : S81} (h : GoodS s) (a b : Int) : 0 ≤ partV s a b ∧ partV s a b ≤ 200000000000 := by
  obtain ⟨h1, h2, h3, h4, h5, h6⟩ := h
  unfold partV
  have e1 : 0 ≤ mx 0 (mn s.f1 b - mx s.f0 a) := by unfold mx mn; omega
  have e2 : mx 0 (mn s.f1 b - mx s.f0 a) ≤ 2000000 := by unfold mx mn; omega
  generalize mx 0 (mn s.f1 b - mx s.f0 a) = x at *
  have := Int.mul_nonneg e1 (by omega : 0 ≤ s.f2)
  have := Int.mul_le_mul e2 h6 (by omega) (by omega)
  omega
theorem sumS_bd {a b : Int} : ∀ {l : List S81}, (∀ s ∈ l, GoodS s) → 0 ≤ sumS a b l ∧ sumS a b l ≤ l.length * 200000000000
  | [], _ => by simp [sumS]
  | s :: r, h => by
    have h1 := partV_bd (h s List.mem_cons_self) a b
    have h2 := sumS_bd (a := a) (b := b) (fun x hx => h x (List.mem_cons_of_mem _ hx))
    simp only [sumS, List.length_cons]
    omega
theorem drop_T {l : List S81} {i : Nat} (h : i < l.length) : l.drop i = rd_T81 l (i : Int) :: l.drop (i + 1) := by
  rw [List.drop_eq_getElem_cons h]
  congr 1
  unfold rd_T81
  simp [List.getD_eq_getElem?_getD, List.getElem?_eq_getElem h]
theorem contact_volume_l0 (l : List S81) (hl : l.length ≤ 50) (hg : ∀ s ∈ l, GoodS s) (a b : Int) (ha : 0 ≤ a ∧ a ≤ 1000000000000) (hb : 0 ≤ b ∧ b ≤ 1000000000000) :
    ∀ d i : Nat, i + d = l.length → ∀ acc : Int, 0 ≤ acc → acc ≤ i * 200000000000 → Ev (fun k => contact_volume.l0 k a b acc l (l.length : Int) (i : Int)) (acc + sumS a b (l.drop i)) := by
  intro d
  induction d with
  | zero =>
    intro i hi acc h0 h1
    rw [List.drop_of_length_le (by omega)]
    simp only [sumS, Int.add_zero]
    exact Ev.step (f := fun _ => some acc) (fun k => by simp only [contact_volume.l0]; rw [if_neg (by omega)]) (Ev.now _)
  | succ d ih =>
    intro i hi acc h0 h1
    have hlt : i < l.length := by omega
    rw [drop_T hlt]
    have hm : rd_T81 l (i : Int) ∈ l := by
      have := List.mem_cons_self (a := rd_T81 l (i : Int)) (l := l.drop (i + 1))
      rw [← drop_T hlt] at this
      exact List.mem_of_mem_drop this
    have gs := hg _ hm
    have pb := partV_bd gs a b
    simp only [sumS, ← Int.add_assoc]
    refine Ev.step (f := fun k => contact_volume.l0 k a b (acc + partV (rd_T81 l i) a b) l (l.length : Int) ((i + 1 : Nat) : Int)) (fun k => ?_) (ih (i + 1) (by omega) (acc + partV (rd_T81 l i) a b) (by omega) (by omega))
    simp only [contact_volume.l0]
    obtain ⟨g1, g2, g3, g4, g5, g6⟩ := gs
    rw [if_pos (by omega), if_pos (by omega), if_pos (by omega), w64 (x := (i : Int) + 1) (by omega) (by omega)]
    have e1 : wrap64 (mn (rd_T81 l i).f1 b - mx (rd_T81 l i).f0 a) = mn (rd_T81 l i).f1 b - mx (rd_T81 l i).f0 a := w64 (by unfold mn mx; omega) (by unfold mn mx; omega)
    rw [e1]
    have e2 : mx 0 (mn (rd_T81 l i).f1 b - mx (rd_T81 l i).f0 a) * (rd_T81 l i).f2 = partV (rd_T81 l i) a b := rfl
    rw [e2, w64 (x := partV (rd_T81 l i) a b) (by omega) (by omega), w64 (x := acc + partV (rd_T81 l i) a b) (by omega) (by omega)]
    rfl
def volV (p : S33) (a b : Int) : Int := sumS a b (stretchesV p p.f3.length)
theorem contact_volume_ev {p : S33} (h : GoodPass p) {a b : Int} (ha : 0 ≤ a ∧ a ≤ 1000000000000) (hb : 0 ≤ b ∧ b ≤ 1000000000000) : Ev (fun k => contact_volume.f k p.f0 p.f1 p.f2 p.f3 a b) (volV p a b) := by
  simp only [contact_volume.f]
  refine Ev.bind (contact_stretches_ev p h.many) ?_
  have hl := stretchesV_length p p.f3.length
  have hm := h.many
  have := contact_volume_l0 (stretchesV p p.f3.length) (by omega) (h.stretches _ (Nat.le_refl _)) a b ha hb (stretchesV p p.f3.length).length 0 (by omega) 0 (by omega) (by omega)
  simpa [volV] using this
def atV (l : List S33) (k : Int) : Int := if checkV l = 0 then (if 0 ≤ k ∧ k < l.length then 0 else 9) else checkV l
theorem contact_at_ev (l : List S33) (k : Int) : Ev (fun n => contact_at.f n l k) (atV l k) := by
  simp only [contact_at.f]
  refine Ev.bind (contact_CheckPasses_ev l) ?_
  unfold atV
  by_cases h : checkV l = 0
  · simp only [h, if_true]
    by_cases h1 : k < 0
    · simp only [if_pos h1, if_neg (show ¬ (0 ≤ k ∧ k < l.length) by omega)]
      exact Ev.now _
    · by_cases h2 : k ≥ l.length
      · simp only [if_neg h1, if_pos h2, if_neg (show ¬ (0 ≤ k ∧ k < l.length) by omega)]
        exact Ev.now _
      · simp only [if_neg h1, if_neg h2, if_pos (show (0 ≤ k ∧ k < l.length) by omega)]
        exact Ev.now _
  · simp only [h, if_false]
    exact Ev.now _
theorem atV_zero {l : List S33} {k : Int} (h : atV l k = 0) : GoodPasses l ∧ 0 ≤ k ∧ k < l.length := by
  unfold atV at h
  split at h
  · rename_i h0
    split at h
    · rename_i h1
      exact ⟨checkV_zero h0, h1⟩
    · omega
  · rename_i h0
    exact absurd h h0
theorem GoodPasses.at {l : List S33} (h : GoodPasses l) {k : Int} (h0 : 0 ≤ k) (h1 : k < l.length) : GoodPass (rd_T33 l k) := by
  have := h.each k.toNat (by omega)
  rwa [Int.toNat_of_nonneg h0] at this
def volumeF (l : List S33) (k a b : Int) : Int := firstV [atV l k, if 0 ≤ a ∧ a ≤ 1000000000000 then 0 else 1, if 0 ≤ b ∧ b ≤ 1000000000000 then 0 else 1]
theorem volumeF_zero {l : List S33} {k a b : Int} : volumeF l k a b = 0 ↔ (atV l k = 0 ∧ (0 ≤ a ∧ a ≤ 1000000000000) ∧ (0 ≤ b ∧ b ≤ 1000000000000)) := by
  unfold volumeF firstV firstV firstV firstV
  by_cases h1 : atV l k = 0 <;> by_cases h2 : (0 ≤ a ∧ a ≤ 1000000000000) <;> by_cases h3 : (0 ≤ b ∧ b ≤ 1000000000000) <;> simp only [h1, h2, h3, if_true, if_false, true_and, and_true, false_and, and_false, iff_true, iff_false, and_self] <;> omega
def volumeV (l : List S33) (k a b : Int) : Int × Int := if volumeF l k a b = 0 then (volV (rd_T33 l k) a b, 0) else (0, volumeF l k a b)
theorem contact_Volume_ev (l : List S33) (k a b : Int) : Ev (fun n => contact_Volume.f n l k a b) (volumeV l k a b) := by
  simp only [contact_Volume.f]
  refine Ev.bind (contact_at_ev l k) ?_
  simp only [kit_Range_eq, Option.bind_some]
  refine Ev.bind (kit_First_ev _ (by simp)) ?_
  unfold volumeV
  show Ev (fun n => if volumeF l k a b = 0 then _ else _) _
  by_cases h : volumeF l k a b = 0
  · obtain ⟨h1, h2, h3⟩ := volumeF_zero.1 h
    obtain ⟨h4, h5, h6⟩ := atV_zero h1
    simp only [if_pos h, if_pos h5, if_pos h6]
    exact Ev.bind (contact_volume_ev (h4.at h5 h6) h2 h3) (Ev.now _)
  · simp only [if_neg h]
    exact Ev.now _
def passA : S33 := ⟨(⟨#[97]⟩ : ByteArray), 0, 5, [(⟨0, 3⟩ : S75)]⟩
theorem awakeV : volumeV [passA] 0 1 3 = (6, 0) := by
  have hn : nameOk (⟨#[97]⟩ : ByteArray) = true := by
    unfold nameOk
    rw [namesFrom_lt (i := 0) (by decide), namesFrom_ge (i := 0 + 1) (by decide)]
    decide
  have hp : passV passA = 0 := by
    unfold passV
    rw [show nameOk passA.f0 = true from hn, stepsV_lt (i := 0) (by decide), stepsV_ge (i := 0 + 1) (by decide)]
    decide
  have h1 : checkV [passA] = 0 := by
    unfold checkV
    rw [if_neg (by decide), passesV, dif_pos (by decide), passesV, dif_neg (by decide)]
    have e : rd_T33 [passA] ((0 : Nat) : Int) = passA := rfl
    rw [e, hp, if_pos rfl, if_neg (by decide), if_neg (by decide)]
  have h2 : volumeF [passA] 0 1 3 = 0 := by
    unfold volumeF atV
    rw [h1]
    decide
  unfold volumeV
  rw [if_pos h2]
  decide
theorem perigeelaw10_awake_ev : Ev (fun k => perigeelaw10_awake.f k) true := by
  simp only [perigeelaw10_awake.f]
  refine Ev.bind (contact_Volume_ev [passA] 0 1 3) ?_
  rw [awakeV]
  exact Ev.now _
end Go.Proofs.Ytbngmblgkkdhpaa.Q
