/- Lines of passes: what contact.take does with a line, in plain Lean; a text is put together again of what was read. -/
-- Made by wip/tools/claimp.py of this session's texts; Lean checks it.
import Derived.Test.YtbngmblgkkdhpaaDoorC3PassA
import Derived.Lib.Atoi
import Derived.Lib.SplitLaws
import Derived.Lib.IndexBytes
import Derived.Lib.IndexLaws
import Derived.Lib.ItoaNum
import Derived.Lib.CountLaws
import Derived.Test.YtbngmblgkkdhpaaDoorC3Gd3
import Derived.Test.YtbngmblgkkdhpaaDoorC3Gd2
set_option linter.unusedVariables false
set_option linter.unusedSimpArgs false
namespace Go.Proofs.YtbngmblgkkdhpaaDoor.Q
open Go.RowKit Go.Proofs.YtbngmblgkkdhpaaDoorW.PrintWords Go.Proofs.YtbngmblgkkdhpaaDoorW.PrintLast Go.Proofs.YtbngmblgkkdhpaaDoorW.PrintMore Go.Proofs.YtbngmblgkkdhpaaDoor.Base
theorem bytes_len (s : ByteArray) : s.data.toList.length = s.size := by rw [Array.length_toList]; rfl
theorem bt_get {s : ByteArray} {i : Nat} (h : i < s.size) (h' : i < s.data.toList.length) : bt s (i : Int) = ((s.data.toList[i]'h').toNat : Int) := by
  unfold bt
  rw [dif_pos (show (i : Int).toNat < s.size from h)]
  simp only [Int.toNat_natCast]
  rfl
def digV (acc : Nat) (l : List UInt8) : Int × Bool := match Lib.decFrom acc l with
  | some n => ((n : Int), true)
  | none => (0, false)
def numV (s : ByteArray) : Int × Bool := if s.size = 0 then (0, false) else if s.size > 13 then (0, false) else if s.size > 1 ∧ bt s 0 = 48 then (0, false) else digV 0 s.data.toList
theorem kit_Digits_l0 {s : ByteArray} (hs : s.size ≤ 13) : ∀ d i : Nat, i + d = s.size → ∀ acc : Nat, acc < 10 ^ i → Ev (fun k => kit_Digits.l0 k s (acc : Int) (s.size : Int) (i : Int)) (digV acc (s.data.toList.drop i)) := by
  intro d
  induction d with
  | zero =>
    intro i hi acc hacc
    obtain rfl : i = s.size := by omega
    refine Ev.step (fun k => kit_Digits.l0.eq_2 ..) ?_
    simp only [if_neg (show ¬ (s.size : Int) < (s.size : Int) by omega)]
    rw [List.drop_of_length_le (by rw [bytes_len]; exact Nat.le_refl _)]
    exact Ev.now _
  | succ d ih =>
    intro i hi acc hacc
    have hlt : i < s.size := by omega
    have hl : i < s.data.toList.length := by rw [bytes_len]; exact hlt
    have hr := bt_range s (i : Int)
    refine Ev.step (fun k => kit_Digits.l0.eq_2 ..) ?_
    simp only [if_pos (show (i : Int) < (s.size : Int) by omega), if_pos (show (0 : Int) ≤ (i : Int) by omega), w64 (x := (i : Int) + 1) (by omega) (by omega)]
    rw [List.drop_eq_getElem_cons hl]
    have hb := bt_get hlt hl
    unfold digV
    unfold Lib.decFrom
    unfold Lib.digitVal
    have hp : (10 : Nat) ^ i ≤ 10 ^ 12 := Nat.pow_le_pow_right (by omega) (by omega)
    have hp2 : (10 : Nat) ^ (i + 1) = 10 ^ i * 10 := Nat.pow_succ ..
    have hp3 : (10 : Nat) ^ 12 = 1000000000000 := by decide
    by_cases h1 : bt s (i : Int) < 48
    · simp only [if_pos h1]
      rw [if_neg (by omega)]
      exact Ev.now _
    · simp only [if_neg h1]
      by_cases h2 : bt s (i : Int) > 57
      · simp only [if_pos h2]
        rw [if_neg (by omega)]
        exact Ev.now _
      · simp only [if_neg h2]
        rw [if_pos (by omega)]
        have e : wrap64 (wrap64 ((acc : Int) * 10) + (bt s (i : Int) - 48) % 256) = ((acc * 10 + ((s.data.toList[i]'hl).toNat - 48) : Nat) : Int) := by
          rw [w64 (x := (acc : Int) * 10) (by omega) (by omega), w64 (by omega) (by omega)]
          omega
        simp only [e]
        exact ih (i + 1) (by omega) _ (by omega)
theorem kit_Digits_ev (s : ByteArray) : Ev (fun k => kit_Digits.f k s 13) (numV s) := by
  unfold kit_Digits.f numV
  by_cases h0 : s.size = 0
  · simp only [if_pos (toList_nil.2 h0), if_pos h0]
    refine Ev.step (fun k => kit_Digits.j0.eq_2 ..) ?_
    simp only [if_true]
    exact Ev.now _
  · simp only [if_neg (mt toList_nil.1 h0), if_neg h0]
    by_cases h1 : s.size > 13
    · simp only [if_pos (show (s.size : Int) > 13 by omega), if_pos h1]
      refine Ev.step (fun k => kit_Digits.j0.eq_2 ..) ?_
      simp only [if_true]
      exact Ev.now _
    · simp only [if_neg (show ¬ (s.size : Int) > 13 by omega), if_neg h1, if_pos (show 0 < (s.size : Int) by omega)]
      have hl := kit_Digits_l0 (s := s) (by omega) s.size 0 (Nat.zero_add _) 0 (by simp)
      rw [List.drop_zero] at hl
      by_cases h2 : bt s 0 = 48
      · simp only [if_pos h2]
        refine Ev.step (fun k => kit_Digits.j0.eq_2 ..) ?_
        by_cases h3 : s.size > 1
        · rw [if_pos (show s.size > 1 ∧ bt s 0 = 48 from ⟨h3, h2⟩)]
          simp only [decide_eq_true (show (s.size : Int) > 1 by omega), if_true]
          exact Ev.now _
        · rw [if_neg (show ¬ (s.size > 1 ∧ bt s 0 = 48) from fun q => h3 q.1)]
          simp only [decide_eq_false (show ¬ (s.size : Int) > 1 by omega), if_neg (show ¬ (false = true) by decide)]
          exact hl
      · rw [if_neg (show ¬ (s.size > 1 ∧ bt s 0 = 48) from fun q => h2 q.2)]
        simp only [if_neg h2]
        refine Ev.step (fun k => kit_Digits.j0.eq_2 ..) ?_
        simp only [if_neg (show ¬ (false = true) by decide)]
        exact hl
def rowV (s : ByteArray) (n : Nat) (i : Nat) : Bool := if i < n then (if bt s i < 33 then false else if bt s i > 126 then false else rowV s n (i + 1)) else s.toList != ([] : List UInt8)
termination_by n - i
theorem rowV_lt {s : ByteArray} {n i : Nat} (h : i < n) : rowV s n i = if bt s i < 33 then false else if bt s i > 126 then false else rowV s n (i + 1) := by rw [rowV, if_pos h]
theorem rowV_ge {s : ByteArray} {n i : Nat} (h : n ≤ i) : rowV s n i = (s.toList != ([] : List UInt8)) := by rw [rowV, if_neg (by omega)]
theorem isWord_l0 {s : ByteArray} (hs : s.size < 1000000) : ∀ d i : Nat, i + d = s.size → Ev (fun k => contact_isWord.l0 k s (s.size : Int) (i : Int)) (rowV s s.size i) := by
  intro d
  induction d with
  | zero =>
    intro i hi
    refine Ev.step (fun k => contact_isWord.l0.eq_2 ..) ?_
    rw [rowV_ge (by omega)]
    simp only [if_neg (show ¬ (i : Int) < (s.size : Int) by omega)]
    exact Ev.now _
  | succ d ih =>
    intro i hi
    refine Ev.step (fun k => contact_isWord.l0.eq_2 ..) ?_
    rw [rowV_lt (by omega)]
    simp only [if_pos (show (i : Int) < (s.size : Int) by omega), if_pos (show (0 : Int) ≤ (i : Int) by omega), w64 (x := (i : Int) + 1) (by omega) (by omega)]
    by_cases h1 : bt s (i : Int) < 33
    · simp only [if_pos h1]; exact Ev.now _
    · simp only [if_neg h1]
      by_cases h2 : bt s (i : Int) > 126
      · simp only [if_pos h2]; exact Ev.now _
      · simp only [if_neg h2]; exact ih (i + 1) (by omega)
theorem isWord_ev {s : ByteArray} (hs : s.size < 1000000) : Ev (fun k => contact_isWord.f k s) (rowV s s.size 0) := isWord_l0 hs _ 0 (Nat.zero_add _)
def piecesV (x : ByteArray) : List ByteArray := Lib.splitB ⟨#[32]⟩ 0 (Lib.countB x ⟨#[32]⟩) x
theorem split_eq {x : ByteArray} (h : x.size < 1000000) : strings_Split.f x (⟨#[32]⟩ : ByteArray) = some (piecesV x) := by
  unfold strings_Split.f
  exact if_pos ⟨by omega, by decide⟩
theorem splitB_small (sep : ByteArray) (save : Nat) (hs : save = 0) : ∀ (k : Nat) (x : ByteArray), ∀ y ∈ Lib.splitB sep save k x, y.size ≤ x.size
  | 0, x, y, hy => by
    rw [Lib.splitB_zero, List.mem_singleton] at hy
    subst hy
    exact Nat.le_refl _
  | k + 1, x, y, hy => by
    subst hs
    unfold Lib.splitB at hy
    split at hy
    · rw [List.mem_singleton] at hy
      subst hy
      exact Nat.le_refl _
    · rcases List.mem_cons.1 hy with rfl | hy
      · rw [ByteArray.size_extract]
        omega
      · have := splitB_small sep 0 rfl k _ y hy
        rw [ByteArray.size_extract] at this
        omega
theorem piece_small {x : ByteArray} (h : x.size < 1000000) (i : Int) : (rdOf ByteArray.empty (piecesV x) i).size < 1000000 := by
  unfold rdOf
  rw [List.getD_eq_getElem?_getD]
  cases hg : (piecesV x)[i.toNat]? with
  | none => decide
  | some y =>
    have hm := List.mem_of_getElem? hg
    have := splitB_small ⟨#[32]⟩ 0 rfl _ x y hm
    show y.size < 1000000
    omega
theorem dec_small {u : Nat} (h : u < 10) : Lib.decDigits u = [UInt8.ofNat (48 + u)] := by rw [Lib.decDigits, dif_pos h]
theorem dec_big {u : Nat} (h : ¬ u < 10) : Lib.decDigits u = Lib.decDigits (u / 10) ++ [UInt8.ofNat (48 + u % 10)] := by rw [Lib.decDigits, dif_neg h]
theorem dec_len (k : Nat) : ∀ u : Nat, u < 10 ^ (k + 1) → (Lib.decDigits u).length ≤ k + 1 := by
  induction k with
  | zero =>
    intro u h
    rw [dec_small (by omega)]
    exact Nat.le_refl _
  | succ k ih =>
    intro u h
    by_cases h1 : u < 10
    · rw [dec_small h1]
      simp
    · rw [dec_big h1, List.length_append]
      have := ih (u / 10) (by rw [Nat.div_lt_iff_lt_mul (by omega)]; rw [← Nat.pow_succ]; exact h)
      simp only [List.length_cons, List.length_nil]
      omega
theorem itoa_nat {n : Int} (h : 0 ≤ n) : Lib.itoa n = Lib.decDigits n.toNat := by
  unfold Lib.itoa
  rw [if_neg (by omega)]
theorem ba_size (l : List UInt8) : (⟨l.toArray⟩ : ByteArray).size = l.length := List.size_toArray ..
def pc (x : ByteArray) (i : Nat) : ByteArray := rdOf ByteArray.empty (piecesV x) (i : Int)
/-- What a line does. -/
def takeV (x : ByteArray) (l : List S55) : Bool × List S55 :=
  if (piecesV x).length < 3 then (false, l) else
  if (numV (pc x ((piecesV x).length - 2))).2 = true then if (numV (pc x ((piecesV x).length - 1))).2 = true then
    if (piecesV x).length = 4 then
      if (pc x 0).toList = [112, 97, 115, 115] then if rowV (pc x 1) (pc x 1).size 0 = true then (true, l ++ [⟨pc x 1, (numV (pc x ((piecesV x).length - 2))).1, (numV (pc x ((piecesV x).length - 1))).1, []⟩]) else (false, l)
      else (false, l)
    else if (piecesV x).length = 3 then
      if (pc x 0).toList = [114, 97, 116, 101] then if l.length = 0 then (false, l) else (true, addStep l ⟨(numV (pc x ((piecesV x).length - 2))).1, (numV (pc x ((piecesV x).length - 1))).1⟩)
      else (false, l)
    else (false, l)
  else (false, l) else (false, l)
structure Small (l : List S55) (m : Nat) : Prop where
  few : l.length ≤ m
  steps : ∀ p ∈ l, p.f3.length ≤ m
theorem Small.wide {l : List S55} {m m2 : Nat} (h : Small l m) (hm : m ≤ m2) : Small l m2 := ⟨Nat.le_trans h.few hm, fun p hp => Nat.le_trans (h.steps p hp) hm⟩
theorem lastP_mem {l : List S55} (h : l.length ≠ 0) : lastP l ∈ l := by
  unfold lastP rd_T55
  have hl : l.length - 1 < l.length := by omega
  simp [List.getD_eq_getElem?_getD, List.getElem?_eq_getElem hl]
theorem Small.pass {l : List S55} {m : Nat} (h : Small l m) {p : S55} (hp : p.f3.length ≤ m) : Small (l ++ [p]) (m + 1) :=
  ⟨by have := h.few; simp; omega, fun q hq => by
    rcases List.mem_append.1 hq with hq | hq
    · exact Nat.le_succ_of_le (h.steps q hq)
    · rw [List.mem_singleton.1 hq]; omega⟩
theorem Small.add {l : List S55} {m : Nat} (h : Small l m) (hz : l.length ≠ 0) (s : S62) : Small (addStep l s) (m + 1) :=
  ⟨by unfold addStep; rw [List.length_set]; exact Nat.le_succ_of_le h.few, fun q hq => by
    rcases List.mem_or_eq_of_mem_set hq with hq | rfl
    · exact Nat.le_succ_of_le (h.steps q hq)
    · have := h.steps _ (lastP_mem hz)
      simp only [List.length_append, List.length_cons, List.length_nil]
      omega⟩
theorem takeV_small {x : ByteArray} {l : List S55} {m : Nat} (h : Small l m) : Small (takeV x l).2 (m + 1) := by
  have h1 := h.wide (Nat.le_succ m)
  unfold takeV
  repeat' split
  all_goals first | exact h1 | exact h.pass (Nat.zero_le _) | (rename_i hz; exact h.add hz _)
theorem TakeOne_ev {x : ByteArray} (hx : x.size < 1000000) {l : List S55} (hs : Small l 1000000) : Ev (fun k => TakeOne k x l) (takeV x l) := by
  unfold TakeOne takeV
  simp only [split_eq hx, Option.bind_some]
  have hfew := hs.few
  by_cases h3 : (piecesV x).length < 3
  · simp only [if_pos h3]
    exact Ev.now _
  simp only [if_neg h3]
  refine Ev.bind (kit_Digits_ev (pc x ((piecesV x).length - 2))) ?_
  refine Ev.bind (kit_Digits_ev (pc x ((piecesV x).length - 1))) ?_
  by_cases h1 : (numV (pc x ((piecesV x).length - 2))).2 = true
  · simp only [if_pos h1]
    by_cases h2 : (numV (pc x ((piecesV x).length - 1))).2 = true
    · simp only [if_pos h2]
      by_cases h4 : (piecesV x).length = 4
      · simp only [if_pos h4]
        by_cases hA : (pc x 0).toList = [112, 97, 115, 115]
        · have hA' : (rdOf ByteArray.empty (piecesV x) 0).toList = [112, 97, 115, 115] := hA
          simp only [if_pos hA, if_pos hA']
          refine Ev.bind (isWord_ev (piece_small hx 1)) ?_
          show Ev (fun k => if rowV (pc x 1) (pc x 1).size 0 = true then _ else _) _
          by_cases hw : rowV (pc x 1) (pc x 1).size 0 = true
          · simp only [if_pos hw, if_pos (show l.length < 1000000000 by omega)]
            exact Ev.now _
          · simp only [if_neg hw]; exact Ev.now _
        · have hA' : ¬ (rdOf ByteArray.empty (piecesV x) 0).toList = [112, 97, 115, 115] := hA
          simp only [if_neg hA, if_neg hA']
          exact Ev.now _
      · simp only [if_neg h4]
        by_cases h5 : (piecesV x).length = 3
        · simp only [if_pos h5]
          by_cases hA : (pc x 0).toList = [114, 97, 116, 101]
          · have hA' : (rdOf ByteArray.empty (piecesV x) 0).toList = [114, 97, 116, 101] := hA
            simp only [if_pos hA, if_pos hA']
            by_cases hz : l.length = 0
            · simp only [if_pos hz]; exact Ev.now _
            · have hl3 := hs.steps _ (lastP_mem hz)
              simp only [if_neg hz, if_pos (show l.length < 1000000000 ∧ (lastP l).f3.length < 1000000000 from ⟨by omega, by omega⟩)]
              exact Ev.now _
          · have hA' : ¬ (rdOf ByteArray.empty (piecesV x) 0).toList = [114, 97, 116, 101] := hA
            simp only [if_neg hA, if_neg hA']
            exact Ev.now _
        · simp only [if_neg h5]; exact Ev.now _
    · simp only [if_neg h2]; exact Ev.now _
  · simp only [if_neg h1]; exact Ev.now _
end Go.Proofs.YtbngmblgkkdhpaaDoor.Q
