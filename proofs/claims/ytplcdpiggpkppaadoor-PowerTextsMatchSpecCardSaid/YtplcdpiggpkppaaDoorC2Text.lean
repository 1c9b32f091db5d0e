/- Lines of loads and uses: their bytes, and that each one is read as what it was written of. -/
-- Made by wip/tools/claimp.py of this session's texts; Lean checks it.
import Derived.Test.YtplcdpiggpkppaaDoorC2ReadL
import Derived.Lib.ItoaNum
import Derived.Lib.CountLaws
import Derived.Test.YtplcdpiggpkppaaDoorC2Gd9
import Derived.Test.YtplcdpiggpkppaaDoorC2Gd10
set_option linter.unusedVariables false
set_option linter.unusedSimpArgs false
namespace Go.Proofs.YtplcdpiggpkppaaDoor.Q
open Go.RowKit Go.Proofs.YtplcdpiggpkppaaDoorW.PrintWords Go.Proofs.YtplcdpiggpkppaaDoorW.PrintLast Go.Proofs.YtplcdpiggpkppaaDoorW.PrintMore Go.Proofs.YtplcdpiggpkppaaDoor.Base
theorem decFrom_app : ∀ (l r : List UInt8) (acc : Nat), Lib.decFrom acc (l ++ r) = (Lib.decFrom acc l).bind fun a => Lib.decFrom a r
  | [], r, acc => rfl
  | b :: l, r, acc => by
    show Lib.decFrom acc (b :: (l ++ r)) = (Lib.decFrom acc (b :: l)).bind _
    simp only [Lib.decFrom]
    cases Lib.digitVal b with
    | none => rfl
    | some d => exact decFrom_app l r _
theorem digit_byte {d : Nat} (h : d < 10) : (UInt8.ofNat (48 + d)).toNat = 48 + d := by
  rw [UInt8.toNat_ofNat']
  omega
theorem digit_val {d : Nat} (h : d < 10) : Lib.digitVal (UInt8.ofNat (48 + d)) = some d := by
  unfold Lib.digitVal
  rw [digit_byte h, if_pos (by omega)]
  congr 1
  omega
theorem dec_small {u : Nat} (h : u < 10) : Lib.decDigits u = [UInt8.ofNat (48 + u)] := by rw [Lib.decDigits, dif_pos h]
theorem dec_big {u : Nat} (h : ¬ u < 10) : Lib.decDigits u = Lib.decDigits (u / 10) ++ [UInt8.ofNat (48 + u % 10)] := by rw [Lib.decDigits, dif_neg h]
theorem dec_from (u : Nat) : Lib.decFrom 0 (Lib.decDigits u) = some u := by
  induction u using Nat.strongRecOn with
  | _ u ih =>
    by_cases h : u < 10
    · rw [dec_small h]
      unfold Lib.decFrom
      rw [digit_val h]
      show Lib.decFrom (0 * 10 + u) [] = some u
      unfold Lib.decFrom
      congr 1
      omega
    · rw [dec_big h, decFrom_app, ih (u / 10) (by omega), Option.bind_some]
      unfold Lib.decFrom
      rw [digit_val (by omega)]
      show Lib.decFrom (u / 10 * 10 + u % 10) [] = some u
      unfold Lib.decFrom
      congr 1
      omega
theorem dec_len (k : Nat) : ∀ u : Nat, u < 10 ^ (k + 1) → (Lib.decDigits u).length ≤ k + 1 := by
  induction k with
  | zero =>
    intro u h
    rw [dec_small (by omega)]
    exact Nat.le_refl _
  | succ k ih =>
    intro u h
    by_cases h1 : u < 10
    · rw [dec_small h1]
      simp
    · rw [dec_big h1, List.length_append]
      have := ih (u / 10) (by rw [Nat.div_lt_iff_lt_mul (by omega)]; rw [← Nat.pow_succ]; exact h)
      simp only [List.length_cons, List.length_nil]
      omega
theorem dec_ne (u : Nat) : Lib.decDigits u ≠ [] := by
  by_cases h : u < 10
  · rw [dec_small h]; simp
  · rw [dec_big h]; simp
theorem dec_head (u : Nat) (h0 : 1 ≤ u) : ∃ b r, Lib.decDigits u = b :: r ∧ 49 ≤ b.toNat := by
  induction u using Nat.strongRecOn with
  | _ u ih =>
    by_cases h : u < 10
    · refine ⟨_, _, dec_small h, ?_⟩
      rw [digit_byte h]
      omega
    · obtain ⟨b, r, e, hb⟩ := ih (u / 10) (by omega) (by omega)
      refine ⟨b, r ++ [UInt8.ofNat (48 + u % 10)], ?_, hb⟩
      rw [dec_big h, e]
      rfl
theorem dec_all (u : Nat) : ∀ b ∈ Lib.decDigits u, 48 ≤ b.toNat ∧ b.toNat ≤ 57 := digits_decFrom _ _ _ (dec_from u)
theorem itoa_nat {n : Int} (h : 0 ≤ n) : Lib.itoa n = Lib.decDigits n.toNat := by
  unfold Lib.itoa
  rw [if_neg (by omega)]
theorem ba_size (l : List UInt8) : (⟨l.toArray⟩ : ByteArray).size = l.length := List.size_toArray ..
theorem numV_itoa {n : Int} (h0 : 0 ≤ n) (h1 : n ≤ 1000000000000) : numV (itoaB n) = (n, true) := by
  have hs : (itoaB n).size = (Lib.decDigits n.toNat).length := by unfold itoaB; rw [ba_size, itoa_nat h0]
  have hl := dec_len 12 n.toNat (by omega)
  have hne := dec_ne n.toNat
  have hpos : (Lib.decDigits n.toNat).length ≠ 0 := fun q => hne (List.eq_nil_of_length_eq_zero q)
  unfold numV
  rw [if_neg (by omega), if_neg (by omega), if_neg]
  · have e : (itoaB n).data.toList = Lib.decDigits n.toNat := by unfold itoaB; rw [itoa_nat h0]
    unfold digV
    rw [e, dec_from]
    show ((n.toNat : Int), true) = (n, true)
    congr 1
    omega
  · rintro ⟨q1, q2⟩
    have h10 : ¬ n.toNat < 10 := fun q => by rw [dec_small q] at hs; simp at hs; omega
    obtain ⟨b, r, e, hb⟩ := dec_head n.toNat (by omega)
    have hl0 : 0 < (itoaB n).data.toList.length := by rw [bytes_len]; omega
    have q3 := bt_get (s := itoaB n) (i := 0) (by omega) hl0
    have e2 : (itoaB n).data.toList = b :: r := by unfold itoaB; rw [itoa_nat h0]; exact e
    have e3 : (itoaB n).data.toList[0] = b := by simp only [e2]; rfl
    rw [e3] at q3
    have q4 : bt (itoaB n) ((0 : Nat) : Int) = 48 := q2
    omega
def sp : ByteArray := ⟨#[32]⟩
theorem index_no {s : ByteArray} (h : (32 : UInt8) ∉ s.data.toList) : Lib.indexB s sp = -1 := by
  show Lib.index s.data.toList [32] = -1
  rw [Lib.index_one]
  revert h
  generalize s.data.toList = l
  intro h
  induction l with
  | nil => rfl
  | cons b l ih =>
    unfold Lib.indexByte
    rw [if_neg (by rw [beq_iff_eq]; rintro rfl; exact h (List.mem_cons_self ..)), ih (fun q => h (List.mem_cons_of_mem _ q))]
    rfl
theorem indexByte_at (c : UInt8) : ∀ (p r : List UInt8), c ∉ p → Lib.indexByte (p ++ c :: r) c = (p.length : Int)
  | [], r, _ => by
    unfold Lib.indexByte
    simp
  | b :: p, r, h => by
    have ih := indexByte_at c p r (fun q => h (List.mem_cons_of_mem _ q))
    show Lib.indexByte (b :: (p ++ c :: r)) c = _
    unfold Lib.indexByte
    rw [if_neg (by rw [beq_iff_eq]; rintro rfl; exact h (List.mem_cons_self ..)), ih]
    rw [if_neg (by rw [beq_iff_eq]; omega)]
    simp only [List.length_cons]
    omega
theorem pieces_one {s : ByteArray} (h : (32 : UInt8) ∉ s.data.toList) : piecesV s = [s] := by
  unfold piecesV
  exact Lib.splitB_miss _ _ _ _ (index_no h)
theorem extract_tail (p r : ByteArray) : ((p ++ sp) ++ r).extract (p.size + 1) ((p ++ sp) ++ r).size = r := by
  apply ByteArray.ext
  apply Array.ext'
  have hs : ((p ++ sp) ++ r).size = p.size + 1 + r.size := by simp only [ByteArray.size_append]; rfl
  rw [ByteArray.data_extract, Array.toList_extract]
  simp only [List.extract_eq_take_drop, ByteArray.data_append, Array.toList_append]
  have e1 : (p.data.toList ++ sp.data.toList).length = p.size + 1 := by rw [List.length_append, bytes_len]; rfl
  rw [List.drop_append_of_le_length (by omega), List.drop_of_length_le (by omega), List.nil_append]
  exact List.take_of_length_le (by rw [bytes_len, hs]; omega)
theorem extract_head (p r : ByteArray) : ((p ++ sp) ++ r).extract 0 p.size = p := by
  apply ByteArray.ext
  apply Array.ext'
  rw [ByteArray.data_extract, Array.toList_extract]
  simp only [List.extract_eq_take_drop, ByteArray.data_append, Array.toList_append, List.drop_zero, Nat.sub_zero]
  rw [List.append_assoc, ← bytes_len p, List.take_left']
  rfl
theorem index_sp (p r : ByteArray) (h : (32 : UInt8) ∉ p.data.toList) : Lib.indexB ((p ++ sp) ++ r) sp = (p.size : Int) := by
  show Lib.index ((p ++ sp) ++ r).data.toList [32] = _
  rw [Lib.index_one]
  have e : ((p ++ sp) ++ r).data.toList = p.data.toList ++ 32 :: r.data.toList := by
    simp only [ByteArray.data_append, Array.toList_append, List.append_assoc]
    rfl
  rw [e, indexByte_at 32 _ _ h, bytes_len]
theorem pieces_more (p r : ByteArray) (h : (32 : UInt8) ∉ p.data.toList) : piecesV ((p ++ sp) ++ r) = p :: piecesV r := by
  have hi := index_sp p r h
  unfold piecesV
  have hc : Lib.countB ((p ++ sp) ++ r) (⟨#[32]⟩ : ByteArray) = Lib.countB r (⟨#[32]⟩ : ByteArray) + 1 := by
    rw [Lib.countB_hit ((p ++ sp) ++ r) (⟨#[32]⟩ : ByteArray) p.size (by decide) hi]
    have := extract_tail p r
    rw [show p.size + (⟨#[32]⟩ : ByteArray).size = p.size + 1 from rfl, this]
    omega
  have hi2 : Lib.indexB ((p ++ sp) ++ r) (⟨#[32]⟩ : ByteArray) = (p.size : Int) := hi
  rw [hc, Lib.splitB_hit _ _ _ _ p.size hi2]
  rw [show p.size + (⟨#[32]⟩ : ByteArray).size = p.size + 1 from rfl, extract_tail, Nat.add_zero, extract_head]
/-- A line's fields that are right. -/
structure Fit (s : ByteArray) (a b : Int) : Prop where
  word : wordV s = true
  a0 : 0 ≤ a
  a1 : a ≤ 1000000000000
  b0 : 0 ≤ b
  b1 : b ≤ 1000000000000
theorem word_bytes {s : ByteArray} (h : wordV s = true) : (1 ≤ s.size ∧ s.size ≤ 40) ∧ ∀ b ∈ s.data.toList, 48 ≤ b.toNat ∧ b.toNat ≤ 122 := by
  unfold wordV at h
  simp only [Bool.and_eq_true, decide_eq_true_eq] at h
  refine ⟨h.1, ?_⟩
  have key : ∀ d i : Nat, i + d = s.size → charsV s s.size i = true → ∀ j : Nat, i ≤ j → j < s.size → 48 ≤ bt s (j : Int) ∧ bt s (j : Int) ≤ 122 := by
    intro d
    induction d with
    | zero => intro i hi _ j h1 h2; omega
    | succ d ih =>
      intro i hi hc j h1 h2
      rw [charsV_lt (by omega), Bool.and_eq_true] at hc
      by_cases e : i = j
      · subst e
        have := hc.1
        unfold charOk at this
        simp only [Bool.or_eq_true, Bool.and_eq_true, decide_eq_true_eq] at this
        omega
      · exact ih (i + 1) (by omega) hc.2 j (by omega) h2
  intro b hb
  obtain ⟨j, hj, e⟩ := List.getElem_of_mem hb
  have hj2 : j < s.size := by rw [← bytes_len]; exact hj
  have := key s.size 0 (Nat.zero_add _) h.2 j (Nat.zero_le _) hj2
  rw [bt_get hj2 hj, e] at this
  omega
theorem word_row {s : ByteArray} (h : wordV s = true) : rowV s s.size 0 = true := by
  obtain ⟨⟨h1, h2⟩, hb⟩ := word_bytes h
  have key : ∀ d i : Nat, i + d = s.size → rowV s s.size i = true := by
    intro d
    induction d with
    | zero =>
      intro i hi
      rw [rowV_ge (by omega), bne_iff_ne]
      exact mt toList_nil.1 (by omega)
    | succ d ih =>
      intro i hi
      have hl : i < s.data.toList.length := by rw [bytes_len]; omega
      have := hb _ (List.getElem_mem hl)
      rw [rowV_lt (by omega), bt_get (by omega) hl, if_neg (by omega), if_neg (by omega)]
      exact ih (i + 1) (by omega)
  exact key s.size 0 (Nat.zero_add _)
theorem itoa_bytes {n : Int} (h : 0 ≤ n) : ∀ b ∈ (itoaB n).data.toList, 48 ≤ b.toNat ∧ b.toNat ≤ 57 := by
  unfold itoaB
  rw [itoa_nat h]
  exact dec_all _
theorem itoa_size {n : Int} (h0 : 0 ≤ n) (h1 : n ≤ 1000000000000) : (itoaB n).size ≤ 13 := by
  unfold itoaB
  rw [ba_size, itoa_nat h0]
  exact dec_len 12 n.toNat (by omega)
/-- A line without its end. -/
def bodyB (w s : ByteArray) (a b : Int) : ByteArray := (w ++ sp) ++ ((s ++ sp) ++ ((itoaB a ++ sp) ++ itoaB b))
theorem no_in {s : ByteArray} {c : UInt8} {lo hi : Nat} (h : ∀ b ∈ s.data.toList, lo ≤ b.toNat ∧ b.toNat ≤ hi) (hc : c.toNat < lo) : c ∉ s.data.toList := fun q => by
  have := h c q
  omega
theorem body_pieces {w s : ByteArray} {a b : Int} (hw : (32 : UInt8) ∉ w.data.toList) (f : Fit s a b) : piecesV (bodyB w s a b) = [w, s, itoaB a, itoaB b] := by
  have hs := no_in (c := 32) (word_bytes f.word).2 (by decide)
  have ha := no_in (c := 32) (itoa_bytes f.a0) (by decide)
  have hb := no_in (c := 32) (itoa_bytes f.b0) (by decide)
  unfold bodyB
  rw [pieces_more _ _ hw, pieces_more _ _ hs, pieces_more _ _ ha, pieces_one hb]
theorem body_line (w s : ByteArray) (a b : Int) : (lineB (w ++ sp) s a b).data.toList = (bodyB w s a b).data.toList ++ [10] := by
  unfold lineB bodyB sp
  simp only [ByteArray.data_append, Array.toList_append, List.append_assoc]
theorem body_end {w s : ByteArray} {a b : Int} (hw : (10 : UInt8) ∉ w.data.toList) (f : Fit s a b) : (10 : UInt8) ∉ (bodyB w s a b).data.toList := by
  have hs := no_in (c := 10) (word_bytes f.word).2 (by decide)
  have ha := no_in (c := 10) (itoa_bytes f.a0) (by decide)
  have hb := no_in (c := 10) (itoa_bytes f.b0) (by decide)
  have h1 : (10 : UInt8) ∉ sp.data.toList := by decide
  unfold bodyB
  simp only [ByteArray.data_append, Array.toList_append, List.mem_append, not_or]
  exact ⟨⟨hw, h1⟩, ⟨hs, h1⟩, ⟨ha, h1⟩, hb⟩
def loadW : ByteArray := ⟨#[108, 111, 97, 100]⟩
def useW : ByteArray := ⟨#[117, 115, 101]⟩
theorem line_small {h s : ByteArray} {a b : Int} (hh : h.size ≤ 5) (f : Fit s a b) : (lineB h s a b).data.toList.length ≤ 80 := by
  rw [bytes_len]
  unfold lineB
  rw [line_size]
  have := (word_bytes f.word).1
  have := itoa_size f.a0 f.a1
  have := itoa_size f.b0 f.b1
  omega
theorem loadW_list : loadW.toList = [108, 111, 97, 100] := by rw [ByteArray.toList_eq]; rfl
theorem useW_list : useW.toList = [117, 115, 101] := by rw [ByteArray.toList_eq]; rfl
theorem one_load {x : S32} (f : Fit x.f0 x.f1 x.f2) (l : List S32) : oneV (bodyB loadW x.f0 x.f1 x.f2) l [] = (true, l ++ [x], []) := by
  have hp := body_pieces (w := loadW) (by decide) f
  unfold oneV pc
  rw [hp]
  simp only [rdOf, List.length_cons, List.length_nil, show ((0 : Nat) : Int).toNat = 0 from rfl, show ((1 : Nat) : Int).toNat = 1 from rfl, show ((2 : Nat) : Int).toNat = 2 from rfl, show ((3 : Nat) : Int).toNat = 3 from rfl, List.getD_cons_zero, List.getD_cons_succ, word_row f.word, numV_itoa f.a0 f.a1, numV_itoa f.b0 f.b1, if_true]
  rw [if_pos ⟨loadW_list, trivial⟩]
theorem one_use {x : S35} (f : Fit x.f0 x.f1 x.f2) (l : List S32) (u : List S35) : oneV (bodyB useW x.f0 x.f1 x.f2) l u = (true, l, u ++ [x]) := by
  have hp := body_pieces (w := useW) (by decide) f
  unfold oneV pc
  rw [hp]
  simp only [rdOf, List.length_cons, List.length_nil, show ((0 : Nat) : Int).toNat = 0 from rfl, show ((1 : Nat) : Int).toNat = 1 from rfl, show ((2 : Nat) : Int).toNat = 2 from rfl, show ((3 : Nat) : Int).toNat = 3 from rfl, List.getD_cons_zero, List.getD_cons_succ, word_row f.word, numV_itoa f.a0 f.a1, numV_itoa f.b0 f.b1, if_true]
  rw [if_neg (fun q => absurd q.1 (by rw [useW_list]; decide)), if_pos useW_list]
end Go.Proofs.YtplcdpiggpkppaaDoor.Q
