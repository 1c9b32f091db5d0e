/- Loads and uses read off a text: the program's way (a closure over each line) and the reference's give the same. -/
-- Made by wip/tools/claimp.py of this session's texts; Lean checks it.
import Derived.Test.YtplcdpiggpkppaaDoorC2PowR
import Derived.Lib.SlTrimSet
import Derived.Lib.IndexBytes
import Derived.Lib.SplitLaws
import Derived.Test.YtplcdpiggpkppaaDoorC2Gd5
import Derived.Test.YtplcdpiggpkppaaDoorC2Gd8
import Derived.Test.YtplcdpiggpkppaaDoorC2Gd4
set_option linter.unusedVariables false
set_option linter.unusedSimpArgs false
namespace Go.Proofs.YtplcdpiggpkppaaDoor.Q
open Go.RowKit Go.Proofs.YtplcdpiggpkppaaDoorW.PrintWords Go.Proofs.YtplcdpiggpkppaaDoorW.PrintLast Go.Proofs.YtplcdpiggpkppaaDoorW.PrintMore Go.Proofs.YtplcdpiggpkppaaDoor.Base
theorem bytes_len (s : ByteArray) : s.data.toList.length = s.size := by rw [Array.length_toList]; rfl
theorem bt_get {s : ByteArray} {i : Nat} (h : i < s.size) (h' : i < s.data.toList.length) : bt s (i : Int) = ((s.data.toList[i]'h').toNat : Int) := by
  unfold bt
  rw [dif_pos (show (i : Int).toNat < s.size from h)]
  simp only [Int.toNat_natCast]
  rfl
def digV (acc : Nat) (l : List UInt8) : Int × Bool := match Lib.decFrom acc l with
  | some n => ((n : Int), true)
  | none => (0, false)
def numV (s : ByteArray) : Int × Bool := if s.size = 0 then (0, false) else if s.size > 13 then (0, false) else if s.size > 1 ∧ bt s 0 = 48 then (0, false) else digV 0 s.data.toList
theorem kit_Digits_l0 {s : ByteArray} (hs : s.size ≤ 13) : ∀ d i : Nat, i + d = s.size → ∀ acc : Nat, acc < 10 ^ i → Ev (fun k => kit_Digits.l0 k s (acc : Int) (s.size : Int) (i : Int)) (digV acc (s.data.toList.drop i)) := by
  intro d
  induction d with
  | zero =>
    intro i hi acc hacc
    obtain rfl : i = s.size := by omega
    refine Ev.step (fun k => kit_Digits.l0.eq_2 ..) ?_
    simp only [if_neg (show ¬ (s.size : Int) < (s.size : Int) by omega)]
    rw [List.drop_of_length_le (by rw [bytes_len]; exact Nat.le_refl _)]
    exact Ev.now _
  | succ d ih =>
    intro i hi acc hacc
    have hlt : i < s.size := by omega
    have hl : i < s.data.toList.length := by rw [bytes_len]; exact hlt
    have hr := bt_range s (i : Int)
    refine Ev.step (fun k => kit_Digits.l0.eq_2 ..) ?_
    simp only [if_pos (show (i : Int) < (s.size : Int) by omega), if_pos (show (0 : Int) ≤ (i : Int) by omega), w64 (x := (i : Int) + 1) (by omega) (by omega)]
    rw [List.drop_eq_getElem_cons hl]
    have hb := bt_get hlt hl
    unfold digV
    unfold Lib.decFrom
    unfold Lib.digitVal
    have hp : (10 : Nat) ^ i ≤ 10 ^ 12 := Nat.pow_le_pow_right (by omega) (by omega)
    have hp2 : (10 : Nat) ^ (i + 1) = 10 ^ i * 10 := Nat.pow_succ ..
    have hp3 : (10 : Nat) ^ 12 = 1000000000000 := by decide
    by_cases h1 : bt s (i : Int) < 48
    · simp only [if_pos h1]
      rw [if_neg (by omega)]
      exact Ev.now _
    · simp only [if_neg h1]
      by_cases h2 : bt s (i : Int) > 57
      · simp only [if_pos h2]
        rw [if_neg (by omega)]
        exact Ev.now _
      · simp only [if_neg h2]
        rw [if_pos (by omega)]
        have e : wrap64 (wrap64 ((acc : Int) * 10) + (bt s (i : Int) - 48) % 256) = ((acc * 10 + ((s.data.toList[i]'hl).toNat - 48) : Nat) : Int) := by
          rw [w64 (x := (acc : Int) * 10) (by omega) (by omega), w64 (by omega) (by omega)]
          omega
        simp only [e]
        exact ih (i + 1) (by omega) _ (by omega)
theorem kit_Digits_ev (s : ByteArray) : Ev (fun k => kit_Digits.f k s 13) (numV s) := by
  unfold kit_Digits.f numV
  by_cases h0 : s.size = 0
  · simp only [if_pos (toList_nil.2 h0), if_pos h0]
    refine Ev.step (fun k => kit_Digits.j0.eq_2 ..) ?_
    simp only [if_true]
    exact Ev.now _
  · simp only [if_neg (mt toList_nil.1 h0), if_neg h0]
    by_cases h1 : s.size > 13
    · simp only [if_pos (show (s.size : Int) > 13 by omega), if_pos h1]
      refine Ev.step (fun k => kit_Digits.j0.eq_2 ..) ?_
      simp only [if_true]
      exact Ev.now _
    · simp only [if_neg (show ¬ (s.size : Int) > 13 by omega), if_neg h1, if_pos (show 0 < (s.size : Int) by omega)]
      have hl := kit_Digits_l0 (s := s) (by omega) s.size 0 (Nat.zero_add _) 0 (by simp)
      rw [List.drop_zero] at hl
      by_cases h2 : bt s 0 = 48
      · simp only [if_pos h2]
        refine Ev.step (fun k => kit_Digits.j0.eq_2 ..) ?_
        by_cases h3 : s.size > 1
        · rw [if_pos (show s.size > 1 ∧ bt s 0 = 48 from ⟨h3, h2⟩)]
          simp only [decide_eq_true (show (s.size : Int) > 1 by omega), if_true]
          exact Ev.now _
        · rw [if_neg (show ¬ (s.size > 1 ∧ bt s 0 = 48) from fun q => h3 q.1)]
          simp only [decide_eq_false (show ¬ (s.size : Int) > 1 by omega), if_neg (show ¬ (false = true) by decide)]
          exact hl
      · rw [if_neg (show ¬ (s.size > 1 ∧ bt s 0 = 48) from fun q => h2 q.2)]
        simp only [if_neg h2]
        refine Ev.step (fun k => kit_Digits.j0.eq_2 ..) ?_
        simp only [if_neg (show ¬ (false = true) by decide)]
        exact hl
theorem digits_decFrom : ∀ (l : List UInt8) (acc n : Nat), Lib.decFrom acc l = some n → ∀ b ∈ l, 48 ≤ b.toNat ∧ b.toNat ≤ 57
  | [], _, _, _, b, hb => by cases hb
  | c :: r, acc, n, h, b, hb => by
    unfold Lib.decFrom Lib.digitVal at h
    by_cases hc : 48 ≤ c.toNat ∧ c.toNat ≤ 57
    · rw [if_pos hc] at h
      rcases List.mem_cons.1 hb with rfl | hb
      · exact hc
      · exact digits_decFrom r _ n h b hb
    · rw [if_neg hc] at h
      cases h
def rowV (s : ByteArray) (n : Nat) (i : Nat) : Bool := if i < n then (if bt s i < 33 then false else if bt s i > 126 then false else rowV s n (i + 1)) else s.toList != ([] : List UInt8)
termination_by n - i
theorem rowV_lt {s : ByteArray} {n i : Nat} (h : i < n) : rowV s n i = if bt s i < 33 then false else if bt s i > 126 then false else rowV s n (i + 1) := by rw [rowV, if_pos h]
theorem rowV_ge {s : ByteArray} {n i : Nat} (h : n ≤ i) : rowV s n i = (s.toList != ([] : List UInt8)) := by rw [rowV, if_neg (by omega)]
theorem isWord_l0 {s : ByteArray} (hs : s.size < 100000) : ∀ d i : Nat, i + d = s.size → Ev (fun k => power_isWord.l0 k s (s.size : Int) (i : Int)) (rowV s s.size i) := by
  intro d
  induction d with
  | zero =>
    intro i hi
    refine Ev.step (fun k => power_isWord.l0.eq_2 ..) ?_
    rw [rowV_ge (by omega)]
    simp only [if_neg (show ¬ (i : Int) < (s.size : Int) by omega)]
    exact Ev.now _
  | succ d ih =>
    intro i hi
    refine Ev.step (fun k => power_isWord.l0.eq_2 ..) ?_
    rw [rowV_lt (by omega)]
    simp only [if_pos (show (i : Int) < (s.size : Int) by omega), if_pos (show (0 : Int) ≤ (i : Int) by omega), w64 (x := (i : Int) + 1) (by omega) (by omega)]
    by_cases h1 : bt s (i : Int) < 33
    · simp only [if_pos h1]; exact Ev.now _
    · simp only [if_neg h1]
      by_cases h2 : bt s (i : Int) > 126
      · simp only [if_pos h2]; exact Ev.now _
      · simp only [if_neg h2]; exact ih (i + 1) (by omega)
theorem isWord_ev {s : ByteArray} (hs : s.size < 100000) : Ev (fun k => power_isWord.f k s) (rowV s s.size 0) := isWord_l0 hs _ 0 (Nat.zero_add _)
def piecesV (x : ByteArray) : List ByteArray := Lib.splitB ⟨#[32]⟩ 0 (Lib.countB x ⟨#[32]⟩) x
theorem split_eq {x : ByteArray} (h : x.size < 100000) : strings_Split.f x (⟨#[32]⟩ : ByteArray) = some (piecesV x) := by
  unfold strings_Split.f
  exact if_pos ⟨by omega, by decide⟩
theorem splitB_small (sep : ByteArray) (save : Nat) (hs : save = 0) : ∀ (k : Nat) (x : ByteArray), ∀ y ∈ Lib.splitB sep save k x, y.size ≤ x.size
  | 0, x, y, hy => by
    rw [Lib.splitB_zero, List.mem_singleton] at hy
    subst hy
    exact Nat.le_refl _
  | k + 1, x, y, hy => by
    subst hs
    unfold Lib.splitB at hy
    split at hy
    · rw [List.mem_singleton] at hy
      subst hy
      exact Nat.le_refl _
    · rcases List.mem_cons.1 hy with rfl | hy
      · rw [ByteArray.size_extract]
        omega
      · have := splitB_small sep 0 rfl k _ y hy
        rw [ByteArray.size_extract] at this
        omega
theorem piece_small {x : ByteArray} (h : x.size < 100000) (i : Int) : (rdOf ByteArray.empty (piecesV x) i).size < 100000 := by
  unfold rdOf
  rw [List.getD_eq_getElem?_getD]
  cases hg : (piecesV x)[i.toNat]? with
  | none => decide
  | some y =>
    have hm := List.mem_of_getElem? hg
    have := splitB_small ⟨#[32]⟩ 0 rfl _ x y hm
    show y.size < 100000
    omega
end Go.Proofs.YtplcdpiggpkppaaDoor.Q
