/- Lines of passes: what contact.take does with a line, in plain Lean; a text is put together again of what was read. -/
-- Made by wip/tools/claimp.py of this session's texts; Lean checks it.
import Derived.Test.YtbngmblgkkdhpaaDoorC2PassA
import Derived.Lib.Atoi
import Derived.Lib.SplitLaws
import Derived.Lib.IndexBytes
import Derived.Lib.IndexLaws
import Derived.Lib.ItoaNum
import Derived.Lib.CountLaws
import Derived.Test.YtbngmblgkkdhpaaDoorC2Gd3
import Derived.Test.YtbngmblgkkdhpaaDoorC2Gd2
set_option linter.unusedVariables false
set_option linter.unusedSimpArgs false
namespace Go.Proofs.YtbngmblgkkdhpaaDoor.Q
open Go.RowKit Go.Proofs.YtbngmblgkkdhpaaDoorW.PrintWords Go.Proofs.YtbngmblgkkdhpaaDoorW.PrintLast Go.Proofs.YtbngmblgkkdhpaaDoorW.PrintMore Go.Proofs.YtbngmblgkkdhpaaDoor.Base
theorem bytes_len (s : ByteArray) : s.data.toList.length = s.size := by rw [Array.length_toList]; rfl
theorem bt_get {s : ByteArray} {i : Nat} (h : i < s.size) (h' : i < s.data.toList.length) : bt s (i : Int) = ((s.data.toList[i]'h').toNat : Int) := by
  unfold bt
  rw [dif_pos (show (i : Int).toNat < s.size from h)]
  simp only [Int.toNat_natCast]
  rfl
def digV (acc : Nat) (l : List UInt8) : Int × Bool := match Lib.decFrom acc l with
  | some n => ((n : Int), true)
  | none => (0, false)
def numV (s : ByteArray) : Int × Bool := if s.size = 0 then (0, false) else if s.size > 13 then (0, false) else if s.size > 1 ∧ bt s 0 = 48 then (0, false) else digV 0 s.data.toList
theorem kit_Digits_l0 {s : ByteArray} (hs : s.size ≤ 13) : ∀ d i : Nat, i + d = s.size → ∀ acc : Nat, acc < 10 ^ i → Ev (fun k => kit_Digits.l0 k s (acc : Int) (s.size : Int) (i : Int)) (digV acc (s.data.toList.drop i)) := by
  intro d
  induction d with
  | zero =>
    intro i hi acc hacc
    obtain rfl : i = s.size := by omega
    refine Ev.step (fun k => kit_Digits.l0.eq_2 ..) ?_
    simp only [if_neg (show ¬ (s.size : Int) < (s.size : Int) by omega)]
    rw [List.drop_of_length_le (by rw [bytes_len]; exact Nat.le_refl _)]
    exact Ev.now _
  | succ d ih =>
    intro i hi acc hacc
    have hlt : i < s.size := by omega
    have hl : i < s.data.toList.length := by rw [bytes_len]; exact hlt
    have hr := bt_range s (i : Int)
    refine Ev.step (fun k => kit_Digits.l0.eq_2 ..) ?_
    simp only [if_pos (show (i : Int) < (s.size : Int) by omega), if_pos (show (0 : Int) ≤ (i : Int) by omega), w64 (x := (i : Int) + 1) (by omega) (by omega)]
    rw [List.drop_eq_getElem_cons hl]
    have hb := bt_get hlt hl
    unfold digV
    unfold Lib.decFrom
    unfold Lib.digitVal
    have hp : (10 : Nat) ^ i ≤ 10 ^ 12 := Nat.pow_le_pow_right (by omega) (by omega)
    have hp2 : (10 : Nat) ^ (i + 1) = 10 ^ i * 10 := Nat.pow_succ ..
    have hp3 : (10 : Nat) ^ 12 = 1000000000000 := by decide
    by_cases h1 : bt s (i : Int) < 48
    · simp only [if_pos h1]
      rw [if_neg (by omega)]
      exact Ev.now _
    · simp only [if_neg h1]
      by_cases h2 : bt s (i : Int) > 57
      · simp only [if_pos h2]
        rw [if_neg (by omega)]
        exact Ev.now _
      · simp only [if_neg h2]
        rw [if_pos (by omega)]
        have e : wrap64 (wrap64 ((acc : Int) * 10) + (bt s (i : Int) - 48) % 256) = ((acc * 10 + ((s.data.toList[i]'hl).toNat - 48) : Nat) : Int) := by
          rw [w64 (x := (acc : Int) * 10) (by omega) (by omega), w64 (by omega) (by omega)]
          omega
        simp only [e]
        exact ih (i + 1) (by omega) _ (by omega)
theorem kit_Digits_ev (s : ByteArray) : Ev (fun k => kit_Digits.f k s 13) (numV s) := by
  unfold kit_Digits.f numV
  by_cases h0 : s.size = 0
  · simp only [if_pos (toList_nil.2 h0), if_pos h0]
    refine Ev.step (fun k => kit_Digits.j0.eq_2 ..) ?_
    simp only [if_true]
    exact Ev.now _
  · simp only [if_neg (mt toList_nil.1 h0), if_neg h0]
    by_cases h1 : s.size > 13
    · simp only [if_pos (show (s.size : Int) > 13 by omega), if_pos h1]
      refine Ev.step (fun k => kit_Digits.j0.eq_2 ..) ?_
      simp only [if_true]
      exact Ev.now _
    · simp only [if_neg (show ¬ (s.size : Int) > 13 by omega), if_neg h1, if_pos (show 0 < (s.size : Int) by omega)]
      have hl := kit_Digits_l0 (s := s) (by omega) s.size 0 (Nat.zero_add _) 0 (by simp)
      rw [List.drop_zero] at hl
      by_cases h2 : bt s 0 = 48
      · simp only [if_pos h2]
        refine Ev.step (fun k => kit_Digits.j0.eq_2 ..) ?_
        by_cases h3 : s.size > 1
        · rw [if_pos (show s.size > 1 ∧ bt s 0 = 48 from ⟨h3, h2⟩)]
          simp only [decide_eq_true (show (s.size : Int) > 1 by omega), if_true]
          exact Ev.now _
        · rw [if_neg (show ¬ (s.size > 1 ∧ bt s 0 = 48) from fun q => h3 q.1)]
          simp only [decide_eq_false (show ¬ (s.size : Int) > 1 by omega), if_neg (show ¬ (false = true) by decide)]
          exact hl
      · rw [if_neg (show ¬ (s.size > 1 ∧ bt s 0 = 48) from fun q => h2 q.2)]
        simp only [if_neg h2]
        refine Ev.step (fun k => kit_Digits.j0.eq_2 ..) ?_
        simp only [if_neg (show ¬ (false = true) by decide)]
        exact hl
theorem digits_decFrom : ∀ (l : List UInt8) (acc n : Nat), Lib.decFrom acc l = some n → ∀ b ∈ l, 48 ≤ b.toNat ∧ b.toNat ≤ 57
  | [], _, _, _, b, hb => by cases hb
  | c :: r, acc, n, h, b, hb => by
    unfold Lib.decFrom Lib.digitVal at h
    by_cases hc : 48 ≤ c.toNat ∧ c.toNat ≤ 57
    · rw [if_pos hc] at h
      rcases List.mem_cons.1 hb with rfl | hb
      · exact hc
      · exact digits_decFrom r _ n h b hb
    · rw [if_neg hc] at h
      cases h
theorem decFrom_lt : ∀ (l : List UInt8) (acc n : Nat), Lib.decFrom acc l = some n → n < (acc + 1) * 10 ^ l.length
  | [], acc, n, h => by
    unfold Lib.decFrom at h
    obtain rfl := Option.some.inj h
    simp
  | b :: r, acc, n, h => by
    unfold Lib.decFrom Lib.digitVal at h
    by_cases hc : 48 ≤ b.toNat ∧ b.toNat ≤ 57
    · rw [if_pos hc] at h
      have := decFrom_lt r _ n h
      rw [List.length_cons, Nat.pow_succ]
      have h2 : (acc * 10 + (b.toNat - 48) + 1) * 10 ^ r.length ≤ ((acc + 1) * 10) * 10 ^ r.length := Nat.mul_le_mul_right _ (by omega)
      have h3 : (acc + 1) * 10 * 10 ^ r.length = (acc + 1) * (10 ^ r.length * 10) := by rw [Nat.mul_assoc, Nat.mul_comm 10]
      omega
    · rw [if_neg hc] at h
      cases h
def rowV (s : ByteArray) (n : Nat) (i : Nat) : Bool := if i < n then (if bt s i < 33 then false else if bt s i > 126 then false else rowV s n (i + 1)) else s.toList != ([] : List UInt8)
termination_by n - i
theorem rowV_lt {s : ByteArray} {n i : Nat} (h : i < n) : rowV s n i = if bt s i < 33 then false else if bt s i > 126 then false else rowV s n (i + 1) := by rw [rowV, if_pos h]
theorem rowV_ge {s : ByteArray} {n i : Nat} (h : n ≤ i) : rowV s n i = (s.toList != ([] : List UInt8)) := by rw [rowV, if_neg (by omega)]
theorem isWord_l0 {s : ByteArray} (hs : s.size < 1000000) : ∀ d i : Nat, i + d = s.size → Ev (fun k => contact_isWord.l0 k s (s.size : Int) (i : Int)) (rowV s s.size i) := by
  intro d
  induction d with
  | zero =>
    intro i hi
    refine Ev.step (fun k => contact_isWord.l0.eq_2 ..) ?_
    rw [rowV_ge (by omega)]
    simp only [if_neg (show ¬ (i : Int) < (s.size : Int) by omega)]
    exact Ev.now _
  | succ d ih =>
    intro i hi
    refine Ev.step (fun k => contact_isWord.l0.eq_2 ..) ?_
    rw [rowV_lt (by omega)]
    simp only [if_pos (show (i : Int) < (s.size : Int) by omega), if_pos (show (0 : Int) ≤ (i : Int) by omega), w64 (x := (i : Int) + 1) (by omega) (by omega)]
    by_cases h1 : bt s (i : Int) < 33
    · simp only [if_pos h1]; exact Ev.now _
    · simp only [if_neg h1]
      by_cases h2 : bt s (i : Int) > 126
      · simp only [if_pos h2]; exact Ev.now _
      · simp only [if_neg h2]; exact ih (i + 1) (by omega)
theorem isWord_ev {s : ByteArray} (hs : s.size < 1000000) : Ev (fun k => contact_isWord.f k s) (rowV s s.size 0) := isWord_l0 hs _ 0 (Nat.zero_add _)
def piecesV (x : ByteArray) : List ByteArray := Lib.splitB ⟨#[32]⟩ 0 (Lib.countB x ⟨#[32]⟩) x
theorem split_eq {x : ByteArray} (h : x.size < 1000000) : strings_Split.f x (⟨#[32]⟩ : ByteArray) = some (piecesV x) := by
  unfold strings_Split.f
  exact if_pos ⟨by omega, by decide⟩
theorem splitB_small (sep : ByteArray) (save : Nat) (hs : save = 0) : ∀ (k : Nat) (x : ByteArray), ∀ y ∈ Lib.splitB sep save k x, y.size ≤ x.size
  | 0, x, y, hy => by
    rw [Lib.splitB_zero, List.mem_singleton] at hy
    subst hy
    exact Nat.le_refl _
  | k + 1, x, y, hy => by
    subst hs
    unfold Lib.splitB at hy
    split at hy
    · rw [List.mem_singleton] at hy
      subst hy
      exact Nat.le_refl _
    · rcases List.mem_cons.1 hy with rfl | hy
      · rw [ByteArray.size_extract]
        omega
      · have := splitB_small sep 0 rfl k _ y hy
        rw [ByteArray.size_extract] at this
        omega
theorem piece_small {x : ByteArray} (h : x.size < 1000000) (i : Int) : (rdOf ByteArray.empty (piecesV x) i).size < 1000000 := by
  unfold rdOf
  rw [List.getD_eq_getElem?_getD]
  cases hg : (piecesV x)[i.toNat]? with
  | none => decide
  | some y =>
    have hm := List.mem_of_getElem? hg
    have := splitB_small ⟨#[32]⟩ 0 rfl _ x y hm
    show y.size < 1000000
    omega
theorem decFrom_app : ∀ (l r : List UInt8) (acc : Nat), Lib.decFrom acc (l ++ r) = (Lib.decFrom acc l).bind fun a => Lib.decFrom a r
  | [], r, acc => rfl
  | b :: l, r, acc => by
    show Lib.decFrom acc (b :: (l ++ r)) = (Lib.decFrom acc (b :: l)).bind _
    simp only [Lib.decFrom]
    cases Lib.digitVal b with
    | none => rfl
    | some d => exact decFrom_app l r _
theorem digit_byte {d : Nat} (h : d < 10) : (UInt8.ofNat (48 + d)).toNat = 48 + d := by
  rw [UInt8.toNat_ofNat']
  omega
theorem digit_val {d : Nat} (h : d < 10) : Lib.digitVal (UInt8.ofNat (48 + d)) = some d := by
  unfold Lib.digitVal
  rw [digit_byte h, if_pos (by omega)]
  congr 1
  omega
theorem dec_small {u : Nat} (h : u < 10) : Lib.decDigits u = [UInt8.ofNat (48 + u)] := by rw [Lib.decDigits, dif_pos h]
theorem dec_big {u : Nat} (h : ¬ u < 10) : Lib.decDigits u = Lib.decDigits (u / 10) ++ [UInt8.ofNat (48 + u % 10)] := by rw [Lib.decDigits, dif_neg h]
theorem dec_from (u : Nat) : Lib.decFrom 0 (Lib.decDigits u) = some u := by
  induction u using Nat.strongRecOn with
  | _ u ih =>
    by_cases h : u < 10
    · rw [dec_small h]
      unfold Lib.decFrom
      rw [digit_val h]
      show Lib.decFrom (0 * 10 + u) [] = some u
      unfold Lib.decFrom
      congr 1
      omega
    · rw [dec_big h, decFrom_app, ih (u / 10) (by omega), Option.bind_some]
      unfold Lib.decFrom
      rw [digit_val (by omega)]
      show Lib.decFrom (u / 10 * 10 + u % 10) [] = some u
      unfold Lib.decFrom
      congr 1
      omega
theorem dec_len (k : Nat) : ∀ u : Nat, u < 10 ^ (k + 1) → (Lib.decDigits u).length ≤ k + 1 := by
  induction k with
  | zero =>
    intro u h
    rw [dec_small (by omega)]
    exact Nat.le_refl _
  | succ k ih =>
    intro u h
    by_cases h1 : u < 10
    · rw [dec_small h1]
      simp
    · rw [dec_big h1, List.length_append]
      have := ih (u / 10) (by rw [Nat.div_lt_iff_lt_mul (by omega)]; rw [← Nat.pow_succ]; exact h)
      simp only [List.length_cons, List.length_nil]
      omega
theorem dec_ne (u : Nat) : Lib.decDigits u ≠ [] := by
  by_cases h : u < 10
  · rw [dec_small h]; simp
  · rw [dec_big h]; simp
theorem dec_head (u : Nat) (h0 : 1 ≤ u) : ∃ b r, Lib.decDigits u = b :: r ∧ 49 ≤ b.toNat := by
  induction u using Nat.strongRecOn with
  | _ u ih =>
    by_cases h : u < 10
    · refine ⟨_, _, dec_small h, ?_⟩
      rw [digit_byte h]
      omega
    · obtain ⟨b, r, e, hb⟩ := ih (u / 10) (by omega) (by omega)
      refine ⟨b, r ++ [UInt8.ofNat (48 + u % 10)], ?_, hb⟩
      rw [dec_big h, e]
      rfl
theorem dec_all (u : Nat) : ∀ b ∈ Lib.decDigits u, 48 ≤ b.toNat ∧ b.toNat ≤ 57 := digits_decFrom _ _ _ (dec_from u)
theorem itoa_nat {n : Int} (h : 0 ≤ n) : Lib.itoa n = Lib.decDigits n.toNat := by
  unfold Lib.itoa
  rw [if_neg (by omega)]
theorem ba_size (l : List UInt8) : (⟨l.toArray⟩ : ByteArray).size = l.length := List.size_toArray ..
theorem numV_itoa {n : Int} (h0 : 0 ≤ n) (h1 : n ≤ 1000000000000) : numV (itoaB n) = (n, true) := by
  have hs : (itoaB n).size = (Lib.decDigits n.toNat).length := by unfold itoaB; rw [ba_size, itoa_nat h0]
  have hl := dec_len 12 n.toNat (by omega)
  have hne := dec_ne n.toNat
  have hpos : (Lib.decDigits n.toNat).length ≠ 0 := fun q => hne (List.eq_nil_of_length_eq_zero q)
  unfold numV
  rw [if_neg (by omega), if_neg (by omega), if_neg]
  · have e : (itoaB n).data.toList = Lib.decDigits n.toNat := by unfold itoaB; rw [itoa_nat h0]
    unfold digV
    rw [e, dec_from]
    show ((n.toNat : Int), true) = (n, true)
    congr 1
    omega
  · rintro ⟨q1, q2⟩
    have h10 : ¬ n.toNat < 10 := fun q => by rw [dec_small q] at hs; simp at hs; omega
    obtain ⟨b, r, e, hb⟩ := dec_head n.toNat (by omega)
    have hl0 : 0 < (itoaB n).data.toList.length := by rw [bytes_len]; omega
    have q3 := bt_get (s := itoaB n) (i := 0) (by omega) hl0
    have e2 : (itoaB n).data.toList = b :: r := by unfold itoaB; rw [itoa_nat h0]; exact e
    have e3 : (itoaB n).data.toList[0] = b := by simp only [e2]; rfl
    rw [e3] at q3
    have q4 : bt (itoaB n) ((0 : Nat) : Int) = 48 := q2
    omega
def sp : ByteArray := ⟨#[32]⟩
theorem index_no {s : ByteArray} (h : (32 : UInt8) ∉ s.data.toList) : Lib.indexB s sp = -1 := by
  show Lib.index s.data.toList [32] = -1
  rw [Lib.index_one]
  revert h
  generalize s.data.toList = l
  intro h
  induction l with
  | nil => rfl
  | cons b l ih =>
    unfold Lib.indexByte
    rw [if_neg (by rw [beq_iff_eq]; rintro rfl; exact h (List.mem_cons_self ..)), ih (fun q => h (List.mem_cons_of_mem _ q))]
    rfl
theorem indexByte_at (c : UInt8) : ∀ (p r : List UInt8), c ∉ p → Lib.indexByte (p ++ c :: r) c = (p.length : Int)
  | [], r, _ => by
    unfold Lib.indexByte
    simp
  | b :: p, r, h => by
    have ih := indexByte_at c p r (fun q => h (List.mem_cons_of_mem _ q))
    show Lib.indexByte (b :: (p ++ c :: r)) c = _
    unfold Lib.indexByte
    rw [if_neg (by rw [beq_iff_eq]; rintro rfl; exact h (List.mem_cons_self ..)), ih]
    rw [if_neg (by rw [beq_iff_eq]; omega)]
    simp only [List.length_cons]
    omega
theorem pieces_one {s : ByteArray} (h : (32 : UInt8) ∉ s.data.toList) : piecesV s = [s] := by
  unfold piecesV
  exact Lib.splitB_miss _ _ _ _ (index_no h)
theorem extract_tail (p r : ByteArray) : ((p ++ sp) ++ r).extract (p.size + 1) ((p ++ sp) ++ r).size = r := by
  apply ByteArray.ext
  apply Array.ext'
  have hs : ((p ++ sp) ++ r).size = p.size + 1 + r.size := by simp only [ByteArray.size_append]; rfl
  rw [ByteArray.data_extract, Array.toList_extract]
  simp only [List.extract_eq_take_drop, ByteArray.data_append, Array.toList_append]
  have e1 : (p.data.toList ++ sp.data.toList).length = p.size + 1 := by rw [List.length_append, bytes_len]; rfl
  rw [List.drop_append_of_le_length (by omega), List.drop_of_length_le (by omega), List.nil_append]
  exact List.take_of_length_le (by rw [bytes_len, hs]; omega)
theorem extract_head (p r : ByteArray) : ((p ++ sp) ++ r).extract 0 p.size = p := by
  apply ByteArray.ext
  apply Array.ext'
  rw [ByteArray.data_extract, Array.toList_extract]
  simp only [List.extract_eq_take_drop, ByteArray.data_append, Array.toList_append, List.drop_zero, Nat.sub_zero]
  rw [List.append_assoc, ← bytes_len p, List.take_left']
  rfl
theorem index_sp (p r : ByteArray) (h : (32 : UInt8) ∉ p.data.toList) : Lib.indexB ((p ++ sp) ++ r) sp = (p.size : Int) := by
  show Lib.index ((p ++ sp) ++ r).data.toList [32] = _
  rw [Lib.index_one]
  have e : ((p ++ sp) ++ r).data.toList = p.data.toList ++ 32 :: r.data.toList := by
    simp only [ByteArray.data_append, Array.toList_append, List.append_assoc]
    rfl
  rw [e, indexByte_at 32 _ _ h, bytes_len]
theorem pieces_more (p r : ByteArray) (h : (32 : UInt8) ∉ p.data.toList) : piecesV ((p ++ sp) ++ r) = p :: piecesV r := by
  have hi := index_sp p r h
  unfold piecesV
  have hc : Lib.countB ((p ++ sp) ++ r) (⟨#[32]⟩ : ByteArray) = Lib.countB r (⟨#[32]⟩ : ByteArray) + 1 := by
    rw [Lib.countB_hit ((p ++ sp) ++ r) (⟨#[32]⟩ : ByteArray) p.size (by decide) hi]
    have := extract_tail p r
    rw [show p.size + (⟨#[32]⟩ : ByteArray).size = p.size + 1 from rfl, this]
    omega
  have hi2 : Lib.indexB ((p ++ sp) ++ r) (⟨#[32]⟩ : ByteArray) = (p.size : Int) := hi
  rw [hc, Lib.splitB_hit _ _ _ _ p.size hi2]
  rw [show p.size + (⟨#[32]⟩ : ByteArray).size = p.size + 1 from rfl, extract_tail, Nat.add_zero, extract_head]
def pc (x : ByteArray) (i : Nat) : ByteArray := rdOf ByteArray.empty (piecesV x) (i : Int)
/-- What a line does. -/
def takeV (x : ByteArray) (l : List S55) : Bool × List S55 :=
  if (piecesV x).length < 3 then (false, l) else
  if (numV (pc x ((piecesV x).length - 2))).2 = true then if (numV (pc x ((piecesV x).length - 1))).2 = true then
    if (piecesV x).length = 4 then
      if (pc x 0).toList = [112, 97, 115, 115] then if rowV (pc x 1) (pc x 1).size 0 = true then (true, l ++ [⟨pc x 1, (numV (pc x ((piecesV x).length - 2))).1, (numV (pc x ((piecesV x).length - 1))).1, []⟩]) else (false, l)
      else (false, l)
    else if (piecesV x).length = 3 then
      if (pc x 0).toList = [114, 97, 116, 101] then if l.length = 0 then (false, l) else (true, addStep l ⟨(numV (pc x ((piecesV x).length - 2))).1, (numV (pc x ((piecesV x).length - 1))).1⟩)
      else (false, l)
    else (false, l)
  else (false, l) else (false, l)
structure Small (l : List S55) (m : Nat) : Prop where
  few : l.length ≤ m
  steps : ∀ p ∈ l, p.f3.length ≤ m
theorem Small.wide {l : List S55} {m m2 : Nat} (h : Small l m) (hm : m ≤ m2) : Small l m2 := ⟨Nat.le_trans h.few hm, fun p hp => Nat.le_trans (h.steps p hp) hm⟩
theorem lastP_mem {l : List S55} (h : l.length ≠ 0) : lastP l ∈ l := by
  unfold lastP rd_T55
  have hl : l.length - 1 < l.length := by omega
  simp [List.getD_eq_getElem?_getD, List.getElem?_eq_getElem hl]
theorem Small.pass {l : List S55} {m : Nat} (h : Small l m) {p : S55} (hp : p.f3.length ≤ m) : Small (l ++ [p]) (m + 1) :=
  ⟨by have := h.few; simp; omega, fun q hq => by
    rcases List.mem_append.1 hq with hq | hq
    · exact Nat.le_succ_of_le (h.steps q hq)
    · rw [List.mem_singleton.1 hq]; omega⟩
theorem Small.add {l : List S55} {m : Nat} (h : Small l m) (hz : l.length ≠ 0) (s : S62) : Small (addStep l s) (m + 1) :=
  ⟨by unfold addStep; rw [List.length_set]; exact Nat.le_succ_of_le h.few, fun q hq => by
    rcases List.mem_or_eq_of_mem_set hq with hq | rfl
    · exact Nat.le_succ_of_le (h.steps q hq)
    · have := h.steps _ (lastP_mem hz)
      simp only [List.length_append, List.length_cons, List.length_nil]
      omega⟩
theorem takeV_small {x : ByteArray} {l : List S55} {m : Nat} (h : Small l m) : Small (takeV x l).2 (m + 1) := by
  have h1 := h.wide (Nat.le_succ m)
  unfold takeV
  repeat' split
  all_goals first | exact h1 | exact h.pass (Nat.zero_le _) | (rename_i hz; exact h.add hz _)
theorem TakeOne_ev {x : ByteArray} (hx : x.size < 1000000) {l : List S55} (hs : Small l 1000000) : Ev (fun k => TakeOne k x l) (takeV x l) := by
  unfold TakeOne takeV
  simp only [split_eq hx, Option.bind_some]
  have hfew := hs.few
  by_cases h3 : (piecesV x).length < 3
  · simp only [if_pos h3]
    exact Ev.now _
  simp only [if_neg h3]
  refine Ev.bind (kit_Digits_ev (pc x ((piecesV x).length - 2))) ?_
  refine Ev.bind (kit_Digits_ev (pc x ((piecesV x).length - 1))) ?_
  by_cases h1 : (numV (pc x ((piecesV x).length - 2))).2 = true
  · simp only [if_pos h1]
    by_cases h2 : (numV (pc x ((piecesV x).length - 1))).2 = true
    · simp only [if_pos h2]
      by_cases h4 : (piecesV x).length = 4
      · simp only [if_pos h4]
        by_cases hA : (pc x 0).toList = [112, 97, 115, 115]
        · have hA' : (rdOf ByteArray.empty (piecesV x) 0).toList = [112, 97, 115, 115] := hA
          simp only [if_pos hA, if_pos hA']
          refine Ev.bind (isWord_ev (piece_small hx 1)) ?_
          show Ev (fun k => if rowV (pc x 1) (pc x 1).size 0 = true then _ else _) _
          by_cases hw : rowV (pc x 1) (pc x 1).size 0 = true
          · simp only [if_pos hw, if_pos (show l.length < 1000000000 by omega)]
            exact Ev.now _
          · simp only [if_neg hw]; exact Ev.now _
        · have hA' : ¬ (rdOf ByteArray.empty (piecesV x) 0).toList = [112, 97, 115, 115] := hA
          simp only [if_neg hA, if_neg hA']
          exact Ev.now _
      · simp only [if_neg h4]
        by_cases h5 : (piecesV x).length = 3
        · simp only [if_pos h5]
          by_cases hA : (pc x 0).toList = [114, 97, 116, 101]
          · have hA' : (rdOf ByteArray.empty (piecesV x) 0).toList = [114, 97, 116, 101] := hA
            simp only [if_pos hA, if_pos hA']
            by_cases hz : l.length = 0
            · simp only [if_pos hz]; exact Ev.now _
            · have hl3 := hs.steps _ (lastP_mem hz)
              simp only [if_neg hz, if_pos (show l.length < 1000000000 ∧ (lastP l).f3.length < 1000000000 from ⟨by omega, by omega⟩)]
              exact Ev.now _
          · have hA' : ¬ (rdOf ByteArray.empty (piecesV x) 0).toList = [114, 97, 116, 101] := hA
            simp only [if_neg hA, if_neg hA']
            exact Ev.now _
        · simp only [if_neg h5]; exact Ev.now _
    · simp only [if_neg h2]; exact Ev.now _
  · simp only [if_neg h1]; exact Ev.now _
theorem byte_digit {b : UInt8} (h : 48 ≤ b.toNat ∧ b.toNat ≤ 57) : UInt8.ofNat (48 + (b.toNat - 48)) = b := by
  rw [show 48 + (b.toNat - 48) = b.toNat by omega]
  simp
theorem dec_append : ∀ (l : List UInt8) (acc n : Nat), 1 ≤ acc → Lib.decFrom acc l = some n → Lib.decDigits n = Lib.decDigits acc ++ l
  | [], acc, n, _, h => by
    unfold Lib.decFrom at h
    obtain rfl := Option.some.inj h
    rw [List.append_nil]
  | b :: l, acc, n, ha, h => by
    unfold Lib.decFrom Lib.digitVal at h
    by_cases hc : 48 ≤ b.toNat ∧ b.toNat ≤ 57
    · rw [if_pos hc] at h
      have ih := dec_append l (acc * 10 + (b.toNat - 48)) n (by omega) h
      rw [ih, dec_big (u := acc * 10 + (b.toNat - 48)) (by omega), show (acc * 10 + (b.toNat - 48)) / 10 = acc by omega, show (acc * 10 + (b.toNat - 48)) % 10 = b.toNat - 48 by omega, byte_digit hc, List.append_assoc]
      rfl
    · rw [if_neg hc] at h
      cases h
/-- A number's digits are those that it is written with. -/
theorem num_back {s : ByteArray} {v : Int} (h : numV s = (v, true)) : itoaB v = s ∧ 0 ≤ v ∧ v < 10000000000000 := by
  unfold numV at h
  split at h
  · injection h with _ h; cases h
  rename_i h0
  split at h
  · injection h with _ h; cases h
  rename_i h1
  split at h
  · injection h with _ h; cases h
  rename_i h2
  unfold digV at h
  cases hd : Lib.decFrom 0 s.data.toList with
  | none => rw [hd] at h; injection h with _ h; cases h
  | some n =>
    rw [hd] at h
    injection h with h _
    subst h
    have hl := bytes_len s
    cases hs : s.data.toList with
    | nil => rw [hs] at hl; simp at hl; omega
    | cons b r =>
      rw [hs] at hd hl
      have hb := digits_decFrom _ _ _ hd b (List.mem_cons_self ..)
      have hb0 : bt s 0 = (b.toNat : Int) := by
        have q := bt_get (s := s) (i := 0) (by omega) (by rw [hs]; simp)
        have e : s.data.toList[0]'(by rw [hs]; simp) = b := by simp only [hs]; rfl
        rw [e] at q
        exact q
      have key : Lib.decDigits n = b :: r := by
        unfold Lib.decFrom Lib.digitVal at hd
        rw [if_pos hb] at hd
        by_cases hz : b.toNat = 48
        · have hr : r = [] := by
            cases r with
            | nil => rfl
            | cons c r => exact absurd ⟨by rw [← hl]; simp, by rw [hb0, hz]; rfl⟩ h2
          subst hr
          have hd : some (0 * 10 + (b.toNat - 48)) = some n := hd
          obtain rfl := Option.some.inj hd
          rw [dec_small (by omega), show 48 + (0 * 10 + (b.toNat - 48)) = 48 + (b.toNat - 48) by omega, byte_digit hb]
        · have := dec_append r (0 * 10 + (b.toNat - 48)) n (by omega) hd
          rw [this, dec_small (by omega), show 48 + (0 * 10 + (b.toNat - 48)) = 48 + (b.toNat - 48) by omega, byte_digit hb]
          rfl
      refine ⟨?_, by omega, ?_⟩
      · unfold itoaB
        rw [itoa_nat (by omega), show ((n : Nat) : Int).toNat = n from rfl, key, ← hs]
      · have hlt := decFrom_lt _ 0 n hd
        have hlen : (b :: r).length ≤ 13 := by omega
        have : 10 ^ (b :: r).length ≤ 10 ^ 13 := Nat.pow_le_pow_right (by omega) hlen
        have e : (10 : Nat) ^ 13 = 10000000000000 := by decide
        omega
def joinS : List ByteArray → List UInt8
  | [] => []
  | [a] => a.data.toList
  | a :: b :: r => a.data.toList ++ 32 :: joinS (b :: r)
theorem joinS_cons (a : ByteArray) {l : List ByteArray} (h : l ≠ []) : joinS (a :: l) = a.data.toList ++ 32 :: joinS l := by
  cases l with
  | nil => exact absurd rfl h
  | cons b r => rfl
theorem splitB_ne (save : Nat) : ∀ (k : Nat) (x : ByteArray), Lib.splitB sp save k x ≠ []
  | 0, x => by rw [Lib.splitB_zero]; simp
  | k + 1, x => by
    unfold Lib.splitB
    split <;> simp
theorem list_at {l : List UInt8} {i : Nat} {c : UInt8} (h : l[i]? = some c) : l = l.take i ++ c :: l.drop (i + 1) := by
  obtain ⟨hi, e⟩ := List.getElem?_eq_some_iff.1 h
  rw [← e, ← List.drop_eq_getElem_cons hi, List.take_append_drop]
theorem extract_list (s : ByteArray) (i j : Nat) : (s.extract i j).data.toList = (s.data.toList.take j).drop i := by
  rw [ByteArray.data_extract, Array.toList_extract, List.extract_eq_take_drop, List.drop_take]
theorem split_join : ∀ (k : Nat) (x : ByteArray), joinS (Lib.splitB sp 0 k x) = x.data.toList
  | 0, x => rfl
  | k + 1, x => by
    unfold Lib.splitB
    by_cases hm : Lib.indexB x sp = -1
    · rw [if_pos (beq_iff_eq.2 hm)]
      rfl
    · rw [if_neg (fun q => hm (beq_iff_eq.1 q)), joinS_cons _ (splitB_ne _ _ _), split_join k]
      have hq : Lib.indexB x sp = Lib.indexByte x.data.toList 32 := Lib.index_one _ _
      have hge := Lib.indexByte_ge x.data.toList 32
      obtain ⟨i, hi⟩ : ∃ i : Nat, Lib.indexB x sp = (i : Int) := ⟨(Lib.indexB x sp).toNat, by omega⟩
      rw [hi]
      have hat := (Lib.indexByte_some (show Lib.indexByte x.data.toList 32 = (i : Int) by omega)).1
      rw [Int.toNat_natCast, show sp.size = 1 from rfl, Nat.add_zero, extract_list, extract_list, List.drop_zero, ← bytes_len, List.take_length]
      exact (list_at hat).symm
theorem pieces_join (x : ByteArray) : joinS (piecesV x) = x.data.toList := split_join _ x
theorem toList_data (s : ByteArray) : s.toList = s.data.toList := ByteArray.toList_eq s
/-- A line that is taken is the line that is told of what it says. -/
theorem take_text {x : ByteArray} {l l2 : List S55} (h : takeV x l = (true, l2)) : textP l2 = textP l ++ (x.data.toList ++ [10]) := by
  have hj := pieces_join x
  unfold takeV at h
  split at h
  · injection h with h _; cases h
  rename_i h3
  split at h
  case isFalse => injection h with h _; cases h
  rename_i n1
  split at h
  case isFalse => injection h with h _; cases h
  rename_i n2
  obtain ⟨e1, _, _⟩ := num_back (s := pc x ((piecesV x).length - 2)) (v := (numV (pc x ((piecesV x).length - 2))).1) (Prod.ext rfl n1)
  obtain ⟨e2, _, _⟩ := num_back (s := pc x ((piecesV x).length - 1)) (v := (numV (pc x ((piecesV x).length - 1))).1) (Prod.ext rfl n2)
  generalize (numV (pc x ((piecesV x).length - 2))).1 = a at h e1
  generalize (numV (pc x ((piecesV x).length - 1))).1 = b at h e2
  unfold pc at h e1 e2
  generalize piecesV x = t at hj h h3 e1 e2
  split at h
  · rename_i h4
    split at h
    case isFalse => injection h with h _; cases h
    rename_i hA
    split at h
    case isFalse => injection h with h _; cases h
    injection h with _ h
    subst h
    match t, h4 with
    | [p0, p1, p2, p3], _ =>
      have e1 : itoaB a = p2 := e1
      have e2 : itoaB b = p3 := e2
      have hA : p0.toList = [112, 97, 115, 115] := hA
      rw [toList_data] at hA
      show textP (l ++ [⟨p1, a, b, []⟩]) = _
      rw [← hj]
      unfold textP
      rw [List.flatMap_append]
      congr 1
      simp only [List.flatMap_cons, List.flatMap_nil, List.append_nil, show textS [] = [] from rfl, joinS]
      unfold lineB
      rw [e1, e2, hA]
      simp only [ByteArray.data_append, Array.toList_append, List.append_assoc, List.cons_append, List.nil_append, show passH.data.toList = [112, 97, 115, 115, 32] from rfl]
  · split at h
    case isFalse => injection h with h _; cases h
    rename_i h5
    split at h
    case isFalse => injection h with h _; cases h
    rename_i hA
    split at h
    case isTrue => injection h with h _; cases h
    rename_i hz
    injection h with _ h
    subst h
    match t, h5 with
    | [p0, p1, p2], _ =>
      have e1 : itoaB a = p1 := e1
      have e2 : itoaB b = p2 := e2
      have hA : p0.toList = [114, 97, 116, 101] := hA
      rw [toList_data] at hA
      rw [← hj]
      have hi : l.length - 1 < l.length := by omega
      have s1 := textP_snoc (l := l) hi
      have hlen : (addStep l ⟨a, b⟩).length = l.length := by unfold addStep; rw [List.length_set]
      have s2 := textP_snoc (l := addStep l ⟨a, b⟩) (i := l.length - 1) (by omega)
      have t1 : (addStep l ⟨a, b⟩).take (l.length - 1) = l.take (l.length - 1) := by
        unfold addStep
        rw [List.take_set_of_le (Nat.le_refl _)]
      have t2 : rd_T55 (addStep l ⟨a, b⟩) ((l.length - 1 : Nat) : Int) = ⟨(lastP l).f0, (lastP l).f1, (lastP l).f2, (lastP l).f3 ++ [⟨a, b⟩]⟩ := by
        unfold rd_T55 addStep
        rw [Int.toNat_natCast, List.getD_eq_getElem?_getD, List.getElem?_set_self hi]
        rfl
      have w1 : l.take (l.length - 1 + 1) = l := List.take_of_length_le (by omega)
      have w2 : (addStep l ⟨a, b⟩).take (l.length - 1 + 1) = addStep l ⟨a, b⟩ := List.take_of_length_le (by omega)
      rw [w1] at s1
      rw [w2, t1, t2] at s2
      rw [s2, s1]
      show _ ++ (_ ++ textS ((lastP l).f3 ++ [⟨a, b⟩])) = (_ ++ (_ ++ textS (lastP l).f3)) ++ _
      rw [show textS ((lastP l).f3 ++ [(⟨a, b⟩ : S62)]) = textS (lastP l).f3 ++ (rateB a b).data.toList from by unfold textS; rw [List.flatMap_append]; simp]
      have er : (rateB a b).data.toList = joinS [p0, p1, p2] ++ [10] := by
        unfold rateB
        rw [e1, e2]
        simp only [joinS, hA, ByteArray.data_append, Array.toList_append, List.append_assoc, List.cons_append, List.nil_append]
      rw [er]
      simp only [List.append_assoc]
      rfl
end Go.Proofs.YtbngmblgkkdhpaaDoor.Q
