/- Loads and uses read off a text: the program's way (a closure over each line) and the reference's give the same. -/
-- Made by wip/tools/claimp.py of this session's texts; Lean checks it.
import Derived.Test.YtplcdpiggpkppaaDoorC1PowR
import Derived.Lib.SlTrimSet
import Derived.Lib.IndexBytes
import Derived.Lib.SplitLaws
import Derived.Test.YtplcdpiggpkppaaDoorC1Gd5
import Derived.Test.YtplcdpiggpkppaaDoorC1Gd8
import Derived.Test.YtplcdpiggpkppaaDoorC1Gd4
set_option linter.unusedVariables false
set_option linter.unusedSimpArgs false
namespace Go.Proofs.YtplcdpiggpkppaaDoor.Q
open Go.RowKit Go.Proofs.YtplcdpiggpkppaaDoorW.PrintWords Go.Proofs.YtplcdpiggpkppaaDoorW.PrintLast Go.Proofs.YtplcdpiggpkppaaDoorW.PrintMore Go.Proofs.YtplcdpiggpkppaaDoor.Base
theorem bytes_len (s : ByteArray) : s.data.toList.length = s.size := by rw [Array.length_toList]; rfl
theorem bt_get {s : ByteArray} {i : Nat} (h : i < s.size) (h' : i < s.data.toList.length) : bt s (i : Int) = ((s.data.toList[i]'h').toNat : Int) := by
  unfold bt
  rw [dif_pos (show (i : Int).toNat < s.size from h)]
  simp only [Int.toNat_natCast]
  rfl
def digV (acc : Nat) (l : List UInt8) : Int × Bool := match Lib.decFrom acc l with
  | some n => ((n : Int), true)
  | none => (0, false)
def numV (s : ByteArray) : Int × Bool := if s.size = 0 then (0, false) else if s.size > 13 then (0, false) else if s.size > 1 ∧ bt s 0 = 48 then (0, false) else digV 0 s.data.toList
theorem kit_Digits_l0 {s : ByteArray} (hs : s.size ≤ 13) : ∀ d i : Nat, i + d = s.size → ∀ acc : Nat, acc < 10 ^ i → Ev (fun k => kit_Digits.l0 k s (acc : Int) (s.size : Int) (i : Int)) (digV acc (s.data.toList.drop i)) := by
  intro d
  induction d with
  | zero =>
    intro i hi acc hacc
    obtain rfl : i = s.size := by omega
    refine Ev.step (fun k => kit_Digits.l0.eq_2 ..) ?_
    simp only [if_neg (show ¬ (s.size : Int) < (s.size : Int) by omega)]
    rw [List.drop_of_length_le (by rw [bytes_len]; exact Nat.le_refl _)]
    exact Ev.now _
  | succ d ih =>
    intro i hi acc hacc
    have hlt : i < s.size := by omega
    have hl : i < s.data.toList.length := by rw [bytes_len]; exact hlt
    have hr := bt_range s (i : Int)
    refine Ev.step (fun k => kit_Digits.l0.eq_2 ..) ?_
    simp only [if_pos (show (i : Int) < (s.size : Int) by omega), if_pos (show (0 : Int) ≤ (i : Int) by omega), w64 (x := (i : Int) + 1) (by omega) (by omega)]
    rw [List.drop_eq_getElem_cons hl]
    have hb := bt_get hlt hl
    unfold digV
    unfold Lib.decFrom
    unfold Lib.digitVal
    have hp : (10 : Nat) ^ i ≤ 10 ^ 12 := Nat.pow_le_pow_right (by omega) (by omega)
    have hp2 : (10 : Nat) ^ (i + 1) = 10 ^ i * 10 := Nat.pow_succ ..
    have hp3 : (10 : Nat) ^ 12 = 1000000000000 := by decide
    by_cases h1 : bt s (i : Int) < 48
    · simp only [if_pos h1]
      rw [if_neg (by omega)]
      exact Ev.now _
    · simp only [if_neg h1]
      by_cases h2 : bt s (i : Int) > 57
      · simp only [if_pos h2]
        rw [if_neg (by omega)]
        exact Ev.now _
      · simp only [if_neg h2]
        rw [if_pos (by omega)]
        have e : wrap64 (wrap64 ((acc : Int) * 10) + (bt s (i : Int) - 48) % 256) = ((acc * 10 + ((s.data.toList[i]'hl).toNat - 48) : Nat) : Int) := by
          rw [w64 (x := (acc : Int) * 10) (by omega) (by omega), w64 (by omega) (by omega)]
          omega
        simp only [e]
        exact ih (i + 1) (by omega) _ (by omega)
theorem kit_Digits_ev (s : ByteArray) : Ev (fun k => kit_Digits.f k s 13) (numV s) := by
  unfold kit_Digits.f numV
  by_cases h0 : s.size = 0
  · simp only [if_pos (toList_nil.2 h0), if_pos h0]
    refine Ev.step (fun k => kit_Digits.j0.eq_2 ..) ?_
    simp only [if_true]
    exact Ev.now _
  · simp only [if_neg (mt toList_nil.1 h0), if_neg h0]
    by_cases h1 : s.size > 13
    · simp only [if_pos (show (s.size : Int) > 13 by omega), if_pos h1]
      refine Ev.step (fun k => kit_Digits.j0.eq_2 ..) ?_
      simp only [if_true]
      exact Ev.now _
    · simp only [if_neg (show ¬ (s.size : Int) > 13 by omega), if_neg h1, if_pos (show 0 < (s.size : Int) by omega)]
      have hl := kit_Digits_l0 (s := s) (by omega) s.size 0 (Nat.zero_add _) 0 (by simp)
      rw [List.drop_zero] at hl
      by_cases h2 : bt s 0 = 48
      · simp only [if_pos h2]
        refine Ev.step (fun k => kit_Digits.j0.eq_2 ..) ?_
        by_cases h3 : s.size > 1
        · rw [if_pos (show s.size > 1 ∧ bt s 0 = 48 from ⟨h3, h2⟩)]
          simp only [decide_eq_true (show (s.size : Int) > 1 by omega), if_true]
          exact Ev.now _
        · rw [if_neg (show ¬ (s.size > 1 ∧ bt s 0 = 48) from fun q => h3 q.1)]
          simp only [decide_eq_false (show ¬ (s.size : Int) > 1 by omega), if_neg (show ¬ (false = true) by decide)]
          exact hl
      · rw [if_neg (show ¬ (s.size > 1 ∧ bt s 0 = 48) from fun q => h2 q.2)]
        simp only [if_neg h2]
        refine Ev.step (fun k => kit_Digits.j0.eq_2 ..) ?_
        simp only [if_neg (show ¬ (false = true) by decide)]
        exact hl
theorem decFrom_digits : ∀ (l : List UInt8) (acc : Nat), (∀ b ∈ l, 48 ≤ b.toNat ∧ b.toNat ≤ 57) → ∃ n, Lib.decFrom acc l = some n
  | [], acc, _ => ⟨acc, rfl⟩
  | b :: r, acc, h => by
    unfold Lib.decFrom Lib.digitVal
    rw [if_pos (h b (List.mem_cons_self ..))]
    exact decFrom_digits r _ (fun x hx => h x (List.mem_cons_of_mem _ hx))
theorem digits_decFrom : ∀ (l : List UInt8) (acc n : Nat), Lib.decFrom acc l = some n → ∀ b ∈ l, 48 ≤ b.toNat ∧ b.toNat ≤ 57
  | [], _, _, _, b, hb => by cases hb
  | c :: r, acc, n, h, b, hb => by
    unfold Lib.decFrom Lib.digitVal at h
    by_cases hc : 48 ≤ c.toNat ∧ c.toNat ≤ 57
    · rw [if_pos hc] at h
      rcases List.mem_cons.1 hb with rfl | hb
      · exact hc
      · exact digits_decFrom r _ n h b hb
    · rw [if_neg hc] at h
      cases h
def digs : List UInt8 := [48, 49, 50, 51, 52, 53, 54, 55, 56, 57]
theorem digs_mem (b : UInt8) : digs.contains b = true ↔ 48 ≤ b.toNat ∧ b.toNat ≤ 57 := by
  constructor
  · intro h
    simp only [digs, List.contains_cons, List.contains_nil, Bool.or_false, Bool.or_eq_true, beq_iff_eq] at h
    rcases h with rfl | rfl | rfl | rfl | rfl | rfl | rfl | rfl | rfl | rfl <;> decide
  · rintro ⟨h1, h2⟩
    have : b = UInt8.ofNat b.toNat := by simp
    rw [this]
    have h3 : b.toNat = 48 ∨ b.toNat = 49 ∨ b.toNat = 50 ∨ b.toNat = 51 ∨ b.toNat = 52 ∨ b.toNat = 53 ∨ b.toNat = 54 ∨ b.toNat = 55 ∨ b.toNat = 56 ∨ b.toNat = 57 := by omega
    rcases h3 with h | h | h | h | h | h | h | h | h | h <;> rw [h] <;> decide
theorem dropWhile_nil {p : UInt8 → Bool} : ∀ l : List UInt8, l.dropWhile p = [] ↔ ∀ b ∈ l, p b = true
  | [] => by simp
  | a :: l => by
    rw [List.dropWhile_cons]
    by_cases h : p a = true
    · rw [if_pos h, dropWhile_nil l]
      simp [h]
    · rw [if_neg h]
      simp [h]
theorem dropWhile_head {p : UInt8 → Bool} : ∀ (l : List UInt8) {c : UInt8} {r : List UInt8}, l.dropWhile p = c :: r → p c = false
  | [], _, _, h => by simp at h
  | a :: l, c, r, h => by
    rw [List.dropWhile_cons] at h
    by_cases ha : p a = true
    · rw [if_pos ha] at h
      exact dropWhile_head l h
    · rw [if_neg ha] at h
      injection h with h1 _
      subst h1
      exact Bool.eq_false_iff.mpr ha
theorem trim_nil (l : List UInt8) : Lib.trimS l digs = [] ↔ ∀ b ∈ l, 48 ≤ b.toNat ∧ b.toNat ≤ 57 := by
  unfold Lib.trimS Lib.trimLeftS Lib.trimRightS
  rw [dropWhile_nil]
  constructor
  · intro h b hb
    by_cases hall : ∀ x ∈ l, digs.contains x = true
    · exact (digs_mem b).1 (hall b hb)
    · exfalso
      have hne : l.reverse.dropWhile (digs.contains ·) ≠ [] := by
        rw [Ne, dropWhile_nil]
        intro q
        exact hall (fun x hx => q x (List.mem_reverse.2 hx))
      obtain ⟨c, r, e⟩ := List.exists_cons_of_ne_nil hne
      have h2 := h c (by rw [e]; simp)
      rw [dropWhile_head _ e] at h2
      cases h2
  · intro h b hb
    have hb2 : b ∈ l.reverse := (List.dropWhile_sublist _).subset (List.mem_reverse.1 hb)
    exact (digs_mem b).2 (h b (List.mem_reverse.1 hb2))
theorem trim_eq (s : ByteArray) (hs : s.size ≤ 13) : strings_Trim.f s (⟨#[48, 49, 50, 51, 52, 53, 54, 55, 56, 57]⟩ : ByteArray) = some ⟨(Lib.trimS s.data.toList digs).toArray⟩ := by
  unfold strings_Trim.f
  exact if_pos ⟨by omega, by decide, by decide⟩
theorem atoi_eq {s : ByteArray} (hs : s.size ≤ 13) (h0 : s.size ≠ 0) (hd : ∀ b ∈ s.data.toList, 48 ≤ b.toNat ∧ b.toNat ≤ 57) {n : Nat} (hn : Lib.decFrom 0 s.data.toList = some n) : strconv_Atoi.f s = some ((n : Int), none) := by
  unfold strconv_Atoi.f
  rw [if_pos (by omega)]
  have hl := bytes_len s
  cases hs2 : s.data.toList with
  | nil => rw [hs2] at hl; simp at hl; omega
  | cons b r =>
    rw [hs2] at hn hd
    have hb := hd b (List.mem_cons_self ..)
    unfold Lib.atoi
    have e1 : (b == 45) = false := by
      rw [beq_eq_false_iff_ne]
      rintro rfl
      revert hb
      decide
    have e2 : (b == 43) = false := by
      rw [beq_eq_false_iff_ne]
      rintro rfl
      revert hb
      decide
    simp only [e1, e2, if_neg (show ¬ (false = true) by decide)]
    unfold Lib.decNat
    simp only [List.isEmpty_cons, if_neg (show ¬ (false = true) by decide), hn]
    rfl
theorem tail_number {s : ByteArray} (hs : s.size ≤ 13) (h0 : s.size ≠ 0) : ((strings_Trim.f s (⟨#[48, 49, 50, 51, 52, 53, 54, 55, 56, 57]⟩ : ByteArray)).bind fun t => if t.toList = ([] : List UInt8) then (strconv_Atoi.f s).bind fun bt => some (bt.1, true) else some (0, false)) = some (digV 0 s.data.toList) := by
  rw [trim_eq s hs, Option.bind_some]
  unfold digV
  by_cases hd : ∀ b ∈ s.data.toList, 48 ≤ b.toNat ∧ b.toNat ≤ 57
  · have ht := (trim_nil s.data.toList).2 hd
    obtain ⟨n, hn⟩ := decFrom_digits s.data.toList 0 hd
    rw [ht, if_pos (toList_nil.2 rfl), atoi_eq hs h0 hd hn, hn]
    rfl
  · have ht := mt (trim_nil s.data.toList).1 hd
    rw [if_neg (fun q => ht (by have := toList_nil.1 q; exact List.eq_nil_of_length_eq_zero (by simpa [ByteArray.size] using this)))]
    cases hn : Lib.decFrom 0 s.data.toList with
    | none => rfl
    | some n => exact absurd (digits_decFrom _ _ _ hn) hd
theorem number_eq (s : ByteArray) : perigeeref9_number.f s = some (numV s) := by
  unfold perigeeref9_number.f numV
  by_cases h0 : s.size = 0
  · rw [if_pos (toList_nil.2 h0), if_pos h0]
  · rw [if_neg (mt toList_nil.1 h0), if_neg h0]
    by_cases h1 : s.size > 13
    · rw [if_pos (show (s.size : Int) > 13 by omega), if_pos h1]
    · rw [if_neg (show ¬ (s.size : Int) > 13 by omega), if_neg h1]
      by_cases h2 : s.size > 1
      · rw [if_pos (show (s.size : Int) > 1 by omega), if_pos (show 0 < (s.size : Int) by omega)]
        by_cases h3 : bt s 0 = 48
        · rw [if_pos h3, if_pos ⟨h2, h3⟩]
        · rw [if_neg h3, if_neg (fun q => h3 q.2), tail_number (by omega) h0]
      · rw [if_neg (show ¬ (s.size : Int) > 1 by omega), if_neg (fun q => h2 q.1), tail_number (by omega) h0]
def rowV (s : ByteArray) (n : Nat) (i : Nat) : Bool := if i < n then (if bt s i < 33 then false else if bt s i > 126 then false else rowV s n (i + 1)) else s.toList != ([] : List UInt8)
termination_by n - i
theorem rowV_lt {s : ByteArray} {n i : Nat} (h : i < n) : rowV s n i = if bt s i < 33 then false else if bt s i > 126 then false else rowV s n (i + 1) := by rw [rowV, if_pos h]
theorem rowV_ge {s : ByteArray} {n i : Nat} (h : n ≤ i) : rowV s n i = (s.toList != ([] : List UInt8)) := by rw [rowV, if_neg (by omega)]
theorem isWord_l0 {s : ByteArray} (hs : s.size < 100000) : ∀ d i : Nat, i + d = s.size → Ev (fun k => power_isWord.l0 k s (s.size : Int) (i : Int)) (rowV s s.size i) := by
  intro d
  induction d with
  | zero =>
    intro i hi
    refine Ev.step (fun k => power_isWord.l0.eq_2 ..) ?_
    rw [rowV_ge (by omega)]
    simp only [if_neg (show ¬ (i : Int) < (s.size : Int) by omega)]
    exact Ev.now _
  | succ d ih =>
    intro i hi
    refine Ev.step (fun k => power_isWord.l0.eq_2 ..) ?_
    rw [rowV_lt (by omega)]
    simp only [if_pos (show (i : Int) < (s.size : Int) by omega), if_pos (show (0 : Int) ≤ (i : Int) by omega), w64 (x := (i : Int) + 1) (by omega) (by omega)]
    by_cases h1 : bt s (i : Int) < 33
    · simp only [if_pos h1]; exact Ev.now _
    · simp only [if_neg h1]
      by_cases h2 : bt s (i : Int) > 126
      · simp only [if_pos h2]; exact Ev.now _
      · simp only [if_neg h2]; exact ih (i + 1) (by omega)
theorem isRow_l0 {s : ByteArray} (hs : s.size < 100000) : ∀ d i : Nat, i + d = s.size → Ev (fun k => perigeeref9_isRow.l0 k s (s.size : Int) (i : Int)) (rowV s s.size i) := by
  intro d
  induction d with
  | zero =>
    intro i hi
    refine Ev.step (fun k => perigeeref9_isRow.l0.eq_2 ..) ?_
    rw [rowV_ge (by omega)]
    simp only [if_neg (show ¬ (i : Int) < (s.size : Int) by omega)]
    exact Ev.now _
  | succ d ih =>
    intro i hi
    refine Ev.step (fun k => perigeeref9_isRow.l0.eq_2 ..) ?_
    rw [rowV_lt (by omega)]
    simp only [if_pos (show (i : Int) < (s.size : Int) by omega), if_pos (show (0 : Int) ≤ (i : Int) by omega), w64 (x := (i : Int) + 1) (by omega) (by omega)]
    by_cases h1 : bt s (i : Int) < 33
    · simp only [if_pos h1]; exact Ev.now _
    · simp only [if_neg h1]
      by_cases h2 : bt s (i : Int) > 126
      · simp only [if_pos h2]; exact Ev.now _
      · simp only [if_neg h2]; exact ih (i + 1) (by omega)
theorem isWord_ev {s : ByteArray} (hs : s.size < 100000) : Ev (fun k => power_isWord.f k s) (rowV s s.size 0) := isWord_l0 hs _ 0 (Nat.zero_add _)
theorem isRow_ev {s : ByteArray} (hs : s.size < 100000) : Ev (fun k => perigeeref9_isRow.f k s) (rowV s s.size 0) := isRow_l0 hs _ 0 (Nat.zero_add _)
def piecesV (x : ByteArray) : List ByteArray := Lib.splitB ⟨#[32]⟩ 0 (Lib.countB x ⟨#[32]⟩) x
theorem split_eq {x : ByteArray} (h : x.size < 100000) : strings_Split.f x (⟨#[32]⟩ : ByteArray) = some (piecesV x) := by
  unfold strings_Split.f
  exact if_pos ⟨by omega, by decide⟩
theorem splitB_small (sep : ByteArray) (save : Nat) (hs : save = 0) : ∀ (k : Nat) (x : ByteArray), ∀ y ∈ Lib.splitB sep save k x, y.size ≤ x.size
  | 0, x, y, hy => by
    rw [Lib.splitB_zero, List.mem_singleton] at hy
    subst hy
    exact Nat.le_refl _
  | k + 1, x, y, hy => by
    subst hs
    unfold Lib.splitB at hy
    split at hy
    · rw [List.mem_singleton] at hy
      subst hy
      exact Nat.le_refl _
    · rcases List.mem_cons.1 hy with rfl | hy
      · rw [ByteArray.size_extract]
        omega
      · have := splitB_small sep 0 rfl k _ y hy
        rw [ByteArray.size_extract] at this
        omega
theorem piece_small {x : ByteArray} (h : x.size < 100000) (i : Int) : (rdOf ByteArray.empty (piecesV x) i).size < 100000 := by
  unfold rdOf
  rw [List.getD_eq_getElem?_getD]
  cases hg : (piecesV x)[i.toNat]? with
  | none => decide
  | some y =>
    have hm := List.mem_of_getElem? hg
    have := splitB_small ⟨#[32]⟩ 0 rfl _ x y hm
    show y.size < 100000
    omega
end Go.Proofs.YtplcdpiggpkppaaDoor.Q
