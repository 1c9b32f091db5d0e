/- Plain laws of chapter 9: fewer and shorter uses leave more; the least level to begin with, as the program and the reference find it. -/
-- Made by wip/tools/claimp.py of this session's texts; Lean checks it.
import Derived.Test.YtplcdpiggpkppaaC12PowS
import Derived.Test.YtplcdpiggpkppaaC12Ge19
set_option linter.unusedVariables false
set_option linter.unusedSimpArgs false
namespace Go.Proofs.Ytplcdpiggpkppaa.Q
open Go.RowKit Go.Proofs.YtplcdpiggpkppaaW.PrintWords Go.Proofs.YtplcdpiggpkppaaW.PrintLast Go.Proofs.YtplcdpiggpkppaaW.PrintMore Go.Proofs.Ytplcdpiggpkppaa.Base
/-- The power of one use's load at a moment. -/
noncomputable def onU (l : List S76) (t : Int) (x : S47) : Int := if x.f1 ≤ t ∧ t < x.f2 then (loadV l x.f0).2.1 else 0
theorem onU_pos {l : List S76} (hl : GoodLoads l) (t : Int) (x : S47) : 0 ≤ onU l t x := by
  have := (loadV_bd hl x.f0).1
  unfold onU
  split <;> omega
theorem sumTo_onV (l : List S76) (u : List S47) (t : Int) : ∀ n : Nat, n ≤ u.length → sumTo (onV l u t) n = ((u.take n).map (onU l t)).sum
  | 0, _ => rfl
  | n + 1, h => by
    have hn : n < u.length := by omega
    rw [List.take_add_one, List.getElem?_eq_getElem hn, List.map_append, List.sum_append, ← sumTo_onV l u t n (by omega)]
    show sumTo (onV l u t) n + onV l u t n = _
    have e : onV l u t n = onU l t u[n] := by
      unfold onV onU
      rw [rdU_get hn]
    rw [e]
    simp
theorem drawV_sum (l : List S76) (u : List S47) (t : Int) : drawV l u t = (u.map (onU l t)).sum := by
  have := sumTo_onV l u t u.length (Nat.le_refl _)
  rwa [List.take_of_length_le (Nat.le_refl _)] at this
theorem sum_sub {α : Type} {f : α → Int} (hf : ∀ x, 0 ≤ f x) {v u : List α} (h : v.Sublist u) : (v.map f).sum ≤ (u.map f).sum := by
  induction h with
  | slnil => exact Int.le_refl _
  | cons x _ ih =>
    have := hf x
    rw [List.map_cons, List.sum_cons]
    omega
  | cons_cons x _ ih =>
    rw [List.map_cons, List.map_cons, List.sum_cons, List.sum_cons]
    omega
theorem draw_sub {l : List S76} (hl : GoodLoads l) {v u : List S47} (h : v.Sublist u) (t : Int) : drawV l v t ≤ drawV l u t := by
  rw [drawV_sum, drawV_sum]
  exact sum_sub (onU_pos hl t) h
/-- With less power drawn the level is never less. -/
theorem less_draw {r lv sn bs : Int} {s : List S72} {l : List S76} {v u : List S47} (hr : 0 ≤ r) (hd : ∀ t : Int, drawV l v t ≤ drawV l u t) (j : Nat) : lvV r lv sn bs s l u j ≤ lvV r lv sn bs s l v j := by
  have := lev_mono (room := r) (d := dV sn bs s l u) (e := dV sn bs s l v) (l0 := lv) (m0 := lv) hr (Int.le_refl _) (fun t => by
    rw [dV_eq, dV_eq]
    have := hd t
    omega) j
  exact this
/-- With so much at first the level is somewhere below the floor. -/
def Short (r sn bs fl : Int) (s : List S72) (l : List S76) (u : List S47) (n v : Int) : Prop := ∃ j : Nat, j ≤ n.toNat ∧ lvV r v sn bs s l u j < fl
/-- What is told of the least level. -/
def IsLeast (r sn bs fl : Int) (s : List S72) (l : List S76) (u : List S47) (n m : Int) (ok : Bool) : Prop :=
  if ok = true then (0 ≤ m ∧ m ≤ r) ∧ ¬ Short r sn bs fl s l u n m ∧ ∀ v, 0 ≤ v → v < m → Short r sn bs fl s l u n v else m = 0 ∧ ∀ v, 0 ≤ v → v ≤ r → Short r sn bs fl s l u n v
theorem IsLeast.unique {r sn bs fl : Int} {s : List S72} {l : List S76} {u : List S47} {n m m' : Int} {ok ok' : Bool} (h : IsLeast r sn bs fl s l u n m ok) (h' : IsLeast r sn bs fl s l u n m' ok') : m = m' ∧ ok = ok' := by
  unfold IsLeast at h h'
  cases ok <;> cases ok' <;> simp only [if_true, if_neg Bool.false_ne_true] at h h'
  · exact ⟨by omega, rfl⟩
  · exact absurd (h.2 m' h'.1.1 h'.1.2) h'.2.1
  · exact absurd (h'.2 m h.1.1 h.1.2) h.2.1
  · refine ⟨?_, rfl⟩
    rcases Int.lt_trichotomy m m' with q | q | q
    · exact absurd (h'.2.2 m h.1.1 q) h.2.1
    · exact q
    · exact absurd (h.2.2 m' h'.1.1 q) h'.2.1
end Go.Proofs.Ytplcdpiggpkppaa.Q
