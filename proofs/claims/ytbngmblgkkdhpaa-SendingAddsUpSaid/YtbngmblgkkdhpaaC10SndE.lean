/- Sending: the items are looked at alike on both sides; what a list of items that passes is like. -/
-- Made by wip/tools/claimp.py of this session's texts; Lean checks it.
import Derived.Test.YtbngmblgkkdhpaaC10SndD
import Derived.Test.YtbngmblgkkdhpaaC10Book
import Derived.Test.YtbngmblgkkdhpaaC10Gs17
import Derived.Test.YtbngmblgkkdhpaaC10Gs19
import Derived.Test.YtbngmblgkkdhpaaC10Q0
import Derived.Test.YtbngmblgkkdhpaaC10Gs13
import Derived.Test.YtbngmblgkkdhpaaC10Gs1
import Derived.Test.YtbngmblgkkdhpaaC10Gs14
import Derived.Test.YtbngmblgkkdhpaaC10Gs2
import Derived.Test.YtbngmblgkkdhpaaC10Gs3
import Derived.Test.YtbngmblgkkdhpaaC10Gs5
import Derived.Test.YtbngmblgkkdhpaaC10Ev
import Derived.Test.YtbngmblgkkdhpaaC10Gs9
set_option linter.unusedVariables false
set_option linter.unusedSimpArgs false
namespace Go.Proofs.Ytbngmblgkkdhpaa.Q
open Go.RowKit Go.Proofs.YtbngmblgkkdhpaaW.PrintWords Go.Proofs.YtbngmblgkkdhpaaW.PrintLast Go.Proofs.YtbngmblgkkdhpaaW.PrintMore Go.Proofs.Ytbngmblgkkdhpaa.Base
instance (a b : ByteArray) : Decidable (Lt a b) := by unfold Lt; infer_instance
def itemBad (x : S63) : Bool := !(decide (0 ≤ x.f1 ∧ x.f1 ≤ 1000000000000) && decide (0 ≤ x.f2 ∧ x.f2 ≤ 100) && decide (0 ≤ x.f3 ∧ x.f3 ≤ 1000000000000) && decide (0 ≤ x.f4 ∧ x.f4 ≤ 1000000000000))
def itemsV (q : List S63) (i : Nat) : Int := if h : i < q.length then (if nameOk (rd_T63 q i).f0 = true then (if itemBad (rd_T63 q i) = true then 1 else if (rd_T63 q i).f4 < (rd_T63 q i).f3 then 8 else if 0 < i ∧ ¬ Lt (rd_T63 q ((i : Int) - 1)).f0 (rd_T63 q i).f0 then 8 else itemsV q (i + 1)) else 5) else 0
termination_by q.length - i
theorem itemsV_lt {q : List S63} {i : Nat} (h : i < q.length) : itemsV q i = (if nameOk (rd_T63 q i).f0 = true then (if itemBad (rd_T63 q i) = true then 1 else if (rd_T63 q i).f4 < (rd_T63 q i).f3 then 8 else if 0 < i ∧ ¬ Lt (rd_T63 q ((i : Int) - 1)).f0 (rd_T63 q i).f0 then 8 else itemsV q (i + 1)) else 5) := by
  rw [itemsV, dif_pos h]
theorem itemsV_ge {q : List S63} {i : Nat} (h : q.length ≤ i) : itemsV q i = 0 := by
  rw [itemsV, dif_neg (by omega)]
def itemsC (q : List S63) : Int := if (q.length : Int) > 300 then 2 else itemsV q 0
theorem chain4 {α : Type} (F : Bool → Option α) (d1 d2 d3 d4 : Bool) : (some d1).bind (fun t => if t = true then (some d2).bind (fun t => if t = true then (some d3).bind (fun t => if t = true then (some d4).bind (fun t => F (!t)) else F true) else F true) else F true) = F (!(d1 && d2 && d3 && d4)) := by
  cases d1 <;> cases d2 <;> cases d3 <;> cases d4 <;> rfl
theorem contact_CheckItems_l0 (q : List S63) (hq : q.length ≤ 300) : ∀ d i : Nat, i + d = q.length → Ev (fun k => contact_CheckItems.l0 k q q (q.length : Int) (i : Int)) (itemsV q i) := by
  intro d
  induction d with
  | zero =>
    intro i hi
    refine Ev.step (f := fun _ => some 0) (fun k => by simp only [contact_CheckItems.l0]; rw [if_neg (by omega)]) ?_
    rw [itemsV_ge (by omega)]
    exact Ev.now _
  | succ d ih =>
    intro i hi
    have hlt : i < q.length := by omega
    have hn := ih (i + 1) (by omega)
    rw [itemsV_lt hlt]
    obtain ⟨x, hx⟩ : ∃ x, x = rd_T63 q i := ⟨_, rfl⟩
    have j1 : Ev (fun k => contact_CheckItems.j1 k q (i : Int) q (q.length : Int) (i : Int) (itemBad x) x.f0 x.f1 x.f2 x.f3 x.f4) (if itemBad x = true then 1 else if x.f4 < x.f3 then 8 else if 0 < i ∧ ¬ Lt (rd_T63 q ((i : Int) - 1)).f0 x.f0 then 8 else itemsV q (i + 1)) := by
      by_cases h : itemBad x = true
      · rw [if_pos h, h]
        exact Ev.step (f := fun _ => some 1) (fun k => by simp only [contact_CheckItems.j1, if_true]) (Ev.now _)
      rw [if_neg h]
      by_cases h1 : x.f4 < x.f3
      · rw [if_pos h1]
        exact Ev.step (f := fun _ => some 8) (fun k => by simp only [contact_CheckItems.j1]; rw [if_neg h, if_pos h1]) (Ev.now _)
      rw [if_neg h1]
      by_cases h0 : 0 < i
      · by_cases h2 : Lt (rd_T63 q ((i : Int) - 1)).f0 x.f0
        · rw [if_neg (fun hc => hc.2 h2)]
          refine Ev.step (f := fun k => contact_CheckItems.l0 k q q (q.length : Int) ((i + 1 : Nat) : Int)) (fun k => ?_) hn
          simp only [contact_CheckItems.j1]
          unfold Lt at h2
          rw [if_neg h, if_neg h1, w64 (x := (i : Int) - 1) (by omega) (by omega), w64 (x := (i : Int) + 1) (by omega) (by omega), if_pos (by omega), if_pos (by omega), if_pos (by omega), if_pos h2]
          rfl
        · rw [if_pos ⟨h0, h2⟩]
          refine Ev.step (f := fun _ => some 8) (fun k => ?_) (Ev.now _)
          simp only [contact_CheckItems.j1]
          unfold Lt at h2
          rw [if_neg h, if_neg h1, w64 (x := (i : Int) - 1) (by omega) (by omega), if_pos (by omega), if_pos (by omega), if_pos (by omega), if_neg h2]
      · rw [if_neg (fun hc => h0 hc.1)]
        refine Ev.step (f := fun k => contact_CheckItems.l0 k q q (q.length : Int) ((i + 1 : Nat) : Int)) (fun k => ?_) hn
        simp only [contact_CheckItems.j1]
        rw [if_neg h, if_neg h1, w64 (x := (i : Int) + 1) (by omega) (by omega), if_neg (by omega)]
        rfl
    rw [← hx]
    refine Ev.step (f := fun k => (monitor_IsName.f k x.f0).bind fun t => if t = true then contact_CheckItems.j1 k q (i : Int) q (q.length : Int) (i : Int) (itemBad x) x.f0 x.f1 x.f2 x.f3 x.f4 else some 5) (fun k => ?_) (Ev.bind (monitor_IsName_ev x.f0) ?_)
    · simp only [contact_CheckItems.l0, kit_In_eq]
      rw [if_pos (by omega), if_pos (by omega), if_pos (by omega), ← hx, chain4 (fun b => contact_CheckItems.j1 k q (i : Int) q (q.length : Int) (i : Int) b x.f0 x.f1 x.f2 x.f3 x.f4)]
      rfl
    · by_cases h : nameOk x.f0 = true
      · simp only [h, if_true]
        exact j1
      · have h' : nameOk x.f0 = false := by simpa using h
        simp only [h', if_neg Bool.false_ne_true]
        exact Ev.now _
theorem contact_CheckItems_ev (q : List S63) : Ev (fun k => contact_CheckItems.f k q) (itemsC q) := by
  unfold contact_CheckItems.f itemsC
  by_cases h : (q.length : Int) > 300
  · simp only [if_pos h]
    exact Ev.now _
  · simp only [if_neg h]
    exact contact_CheckItems_l0 q (by omega) q.length 0 (by omega)
end Go.Proofs.Ytbngmblgkkdhpaa.Q
