/- Plain laws on bookings: the reference's Exclude, CheckBooking and Total answer as the program's; equality of lists. -/
-- Made by wip/tools/claimp.py of this session's texts; Lean checks it.
import Derived.Test.YtbngmblgkkdhpaaDoorC7Book
import Derived.Test.YtbngmblgkkdhpaaDoorC7Gd15
import Derived.Test.YtbngmblgkkdhpaaDoorC7Gd16
import Derived.Test.YtbngmblgkkdhpaaDoorC7Gd14
set_option linter.unusedVariables false
set_option linter.unusedSimpArgs false
namespace Go.Proofs.YtbngmblgkkdhpaaDoor.Q
open Go.RowKit Go.Proofs.YtbngmblgkkdhpaaDoorW.PrintWords Go.Proofs.YtbngmblgkkdhpaaDoorW.PrintLast Go.Proofs.YtbngmblgkkdhpaaDoorW.PrintMore Go.Proofs.YtbngmblgkkdhpaaDoor.Base
theorem perigeeref10_gapOK_eq (a : Int) : perigeeref10_gapOK.f a = some (decide (0 ≤ a ∧ a ≤ 10000000)) := by
  unfold perigeeref10_gapOK.f
  rw [perigeeref10_within_eq]
  rfl
theorem perigeeref10_exclude_eq {a b : S55} (ha : GoodPass a) (hb : GoodPass b) {gap : Int} (hg : 0 ≤ gap ∧ gap ≤ 10000000) : perigeeref10_exclude.f a.f0 a.f1 a.f2 a.f3 b.f0 b.f1 b.f2 b.f3 gap = some (exclV a b gap) := by
  have := ha.to1; have := hb.to1; have := ha.from0; have := hb.from0; have := ha.less; have := hb.less
  unfold perigeeref10_exclude.f exclV
  rw [w64 (x := a.f2 + gap) (by omega) (by omega), w64 (x := b.f2 + gap) (by omega) (by omega)]
  by_cases h : a.f1 < b.f2 + gap <;> simp [h]
theorem perigeeref10_checkNumbers_l0 (l : List S55) (hl : l.length ≤ 100) (b : List Int) (hb : b.length ≤ 1152921504606846976) : ∀ d i : Nat, i + d = b.length → Ev (fun k => perigeeref10_checkNumbers.l0 k l b (i : Int)) (bookV l b i) := by
  intro d
  induction d with
  | zero =>
    intro i hi
    refine Ev.step (fun k => perigeeref10_checkNumbers.l0.eq_2 ..) ?_
    simp only [if_neg (show ¬ (i : Int) < (b.length : Int) by omega)]
    rw [bookV, dif_neg (by omega)]
    exact Ev.now _
  | succ d ih =>
    intro i hi
    have hlt : i < b.length := by omega
    have hn := ih (i + 1) (by omega)
    rw [bookV, dif_pos hlt]
    refine Ev.step (fun k => perigeeref10_checkNumbers.l0.eq_2 ..) ?_
    simp only [if_pos (show (i : Int) < (b.length : Int) by omega), if_pos (show (0 : Int) ≤ (i : Int) by omega), w64 (x := (l.length : Int) - 1) (by omega) (by omega), perigeeref10_within_eq, Option.bind_some]
    by_cases h1 : 0 ≤ rd b i ∧ rd b i < l.length
    · simp only [decide_eq_true (show 0 ≤ rd b i ∧ rd b i ≤ (l.length : Int) - 1 by omega), if_true, if_neg (show ¬ ¬ (0 ≤ rd b i ∧ rd b i < l.length) from fun h => h h1), w64 (x := (i : Int) + 1) (by omega) (by omega)]
      by_cases h2 : 0 < i
      · simp only [w64 (x := (i : Int) - 1) (by omega) (by omega), if_pos (show (i : Int) > 0 by omega), if_pos (show (0 : Int) ≤ (i : Int) - 1 by omega), if_pos (show (i : Int) - 1 < (b.length : Int) by omega)]
        by_cases h3 : rd b i ≤ rd b ((i : Int) - 1)
        · simp only [if_pos h3, if_pos (show 0 < i ∧ rd b i ≤ rd b ((i : Int) - 1) from ⟨h2, h3⟩)]
          exact Ev.now _
        · simp only [if_neg h3, if_neg (show ¬ (0 < i ∧ rd b i ≤ rd b ((i : Int) - 1)) from fun h => h3 h.2)]
          exact hn
      · simp only [if_neg (show ¬ (i : Int) > 0 by omega), if_neg (show ¬ (0 < i ∧ rd b i ≤ rd b ((i : Int) - 1)) from fun h => h2 h.1)]
        exact hn
    · simp only [decide_eq_false (show ¬ (0 ≤ rd b i ∧ rd b i ≤ (l.length : Int) - 1) by omega), if_neg Bool.false_ne_true, if_pos h1]
      exact Ev.now _
theorem perigeeref10_checkNumbers_ev (l : List S55) (hl : l.length ≤ 100) (b : List Int) (hb : b.length ≤ 1152921504606846976) : Ev (fun k => perigeeref10_checkNumbers.f k l b) (bookV l b 0) := by
  simp only [perigeeref10_checkNumbers.f]
  exact perigeeref10_checkNumbers_l0 l hl b hb b.length 0 (by omega)
theorem exclV_clash (l : List S55) (gap : Int) (b : List Int) (i j : Nat) : exclV (rd_T55 l (rd b i)) (rd_T55 l (rd b j)) gap = exclV (rd_T55 l (rd b j)) (rd_T55 l (rd b i)) gap := exclV_comm _ _ _
theorem perigeeref10_apart_l1 {l : List S55} (hl : GoodPasses l) {gap : Int} (hg : 0 ≤ gap ∧ gap ≤ 10000000) {b : List Int} (hb : GoodBook l b) {i : Nat} (hi : i < b.length) {rest : Bool}
    (h : Ev (fun k => perigeeref10_apart.l0 k l b gap ((i + 1 : Nat) : Int)) (! rest)) :
    ∀ d j : Nat, j + d = i → Ev (fun k => perigeeref10_apart.l1 k l b gap (i : Int) (j : Int)) (! (clashRow l gap b i j || rest)) := by
  have hm := hl.many
  have hbm := hb.many
  intro d
  induction d with
  | zero =>
    intro j hj
    obtain rfl : j = i := by omega
    refine Ev.step (fun k => perigeeref10_apart.l1.eq_2 ..) ?_
    simp only [if_neg (show ¬ (j : Int) < (j : Int) by omega), w64 (x := (j : Int) + 1) (by omega) (by omega)]
    rw [clashRow, dif_neg (by omega), Bool.false_or]
    exact h
  | succ d ih =>
    intro j hj
    have hn := ih (j + 1) (by omega)
    have ib := hb.inside i hi
    have jb := hb.inside j (by omega)
    refine Ev.step (fun k => perigeeref10_apart.l1.eq_2 ..) ?_
    rw [clashRow, dif_pos (by omega)]
    simp only [if_pos (show (j : Int) < (i : Int) by omega), if_pos (show (0 : Int) ≤ (j : Int) by omega), if_pos (show (0 : Int) ≤ (i : Int) by omega), if_pos (show (i : Int) < (b.length : Int) by omega), if_pos (show (j : Int) < (b.length : Int) by omega), if_pos jb.1, if_pos jb.2, if_pos ib.1, if_pos ib.2, w64 (x := (j : Int) + 1) (by omega) (by omega),
      perigeeref10_exclude_eq (hb.pass hl hi) (hb.pass hl (show j < b.length by omega)) hg, Option.bind_some, exclV_clash l gap b i j]
    by_cases he : exclV (rd_T55 l (rd b j)) (rd_T55 l (rd b i)) gap = true
    · simp only [he, if_true, Bool.true_or]
      exact Ev.now _
    · have he' : exclV (rd_T55 l (rd b j)) (rd_T55 l (rd b i)) gap = false := by simpa using he
      simp only [he', if_neg Bool.false_ne_true, Bool.false_or]
      exact hn
theorem perigeeref10_apart_l0 {l : List S55} (hl : GoodPasses l) {gap : Int} (hg : 0 ≤ gap ∧ gap ≤ 10000000) {b : List Int} (hb : GoodBook l b) : ∀ d i : Nat, i + d = b.length → Ev (fun k => perigeeref10_apart.l0 k l b gap (i : Int)) (! clashV l gap b i) := by
  intro d
  induction d with
  | zero =>
    intro i hi
    refine Ev.step (fun k => perigeeref10_apart.l0.eq_2 ..) ?_
    simp only [if_neg (show ¬ (i : Int) < (b.length : Int) by omega)]
    rw [clashV, dif_neg (by omega)]
    exact Ev.now _
  | succ d ih =>
    intro i hi
    have hlt : i < b.length := by omega
    refine Ev.step (fun k => perigeeref10_apart.l0.eq_2 ..) ?_
    rw [clashV, dif_pos hlt]
    simp only [if_pos (show (i : Int) < (b.length : Int) by omega)]
    exact perigeeref10_apart_l1 hl hg hb hlt (ih (i + 1) (by omega)) i 0 (by omega)
theorem perigeeref10_apart_ev {l : List S55} (hl : GoodPasses l) {gap : Int} (hg : 0 ≤ gap ∧ gap ≤ 10000000) {b : List Int} (hb : GoodBook l b) : Ev (fun k => perigeeref10_apart.f k l b gap) (! clashV l gap b 0) := by
  simp only [perigeeref10_apart.f]
  exact perigeeref10_apart_l0 hl hg hb b.length 0 (by omega)
theorem perigeeref10_whole_ev {p : S55} (h : GoodPass p) : Ev (fun k => perigeeref10_whole.f k p.f0 p.f1 p.f2 p.f3) (wholeV p) := by
  have h1 := h.from0; have h2 := h.less; have h3 := h.to1
  simp only [perigeeref10_whole.f]
  exact Ev.bind (perigeeref10_volume_ev h ⟨by omega, by omega⟩ ⟨by omega, by omega⟩) (Ev.now _)
theorem perigeeref10_total_l0 {l : List S55} (hl : GoodPasses l) {b : List Int} (hb : GoodBook l b) : ∀ d i : Nat, i + d = b.length → Ev (fun k => perigeeref10_total.l0 k l b (totalV l b i) (i : Int)) (totalV l b b.length) := by
  have hm := hl.many
  have hbm := hb.many
  intro d
  induction d with
  | zero =>
    intro i hi
    obtain rfl : i = b.length := by omega
    refine Ev.step (fun k => perigeeref10_total.l0.eq_2 ..) ?_
    simp only [if_neg (show ¬ (b.length : Int) < (b.length : Int) by omega)]
    exact Ev.now _
  | succ d ih =>
    intro i hi
    have hlt : i < b.length := by omega
    have hn := ih (i + 1) (by omega)
    have ib := hb.inside i hlt
    have t1 := totalV_bd hl hb (i + 1) (by omega)
    simp only [totalV] at t1 hn
    refine Ev.step (fun k => perigeeref10_total.l0.eq_2 ..) ?_
    simp only [if_pos (show (i : Int) < (b.length : Int) by omega), if_pos (show (0 : Int) ≤ (i : Int) by omega), if_pos ib.1, if_pos ib.2, w64 (x := (i : Int) + 1) (by omega) (by omega)]
    refine Ev.bind (perigeeref10_whole_ev (hb.pass hl hlt)) ?_
    simp only [w64 (x := totalV l b i + wholeV (rd_T55 l (rd b i))) (by omega) (by omega)]
    exact hn
theorem perigeeref10_total_ev {l : List S55} (hl : GoodPasses l) {b : List Int} (hb : GoodBook l b) : Ev (fun k => perigeeref10_total.f k l b) (totalV l b b.length) := by
  simp only [perigeeref10_total.f]
  exact perigeeref10_total_l0 hl hb b.length 0 (by omega)
theorem slices_Equal_int_l0 (l : List Int) (hl : l.length ≤ 1152921504606846976) : ∀ d i : Nat, i + d = l.length → Ev (fun k => slices_Equal_int_int.l0 k l l (l.length : Int) (i : Int)) true := by
  intro d
  induction d with
  | zero =>
    intro i hi
    refine Ev.step (fun k => slices_Equal_int_int.l0.eq_2 ..) ?_
    simp only [if_neg (show ¬ (i : Int) < (l.length : Int) by omega)]
    exact Ev.now _
  | succ d ih =>
    intro i hi
    have hn := ih (i + 1) (by omega)
    refine Ev.step (fun k => slices_Equal_int_int.l0.eq_2 ..) ?_
    simp only [if_pos (show (i : Int) < (l.length : Int) by omega), if_pos (show (0 : Int) ≤ (i : Int) by omega), w64 (x := (i : Int) + 1) (by omega) (by omega), if_true]
    exact hn
theorem slices_Equal_int_ev (l : List Int) (hl : l.length ≤ 1152921504606846976) : Ev (fun k => slices_Equal_int_int.f k l l) true := by
  simp only [slices_Equal_int_int.f, if_true]
  exact slices_Equal_int_l0 l hl l.length 0 (by omega)
end Go.Proofs.YtbngmblgkkdhpaaDoor.Q
