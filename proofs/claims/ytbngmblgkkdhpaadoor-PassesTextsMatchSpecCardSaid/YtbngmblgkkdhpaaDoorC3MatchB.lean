/- Both sides write passes and read a text alike. -/
-- Made by wip/tools/claimp.py of this session's texts; Lean checks it.
import Derived.Test.YtbngmblgkkdhpaaDoorC3ComeB
import Derived.Test.YtbngmblgkkdhpaaDoorC3PassRd
import Derived.Test.YtbngmblgkkdhpaaDoorC3Gd3
import Derived.Test.YtbngmblgkkdhpaaDoorC3Gd2
import Derived.Test.YtbngmblgkkdhpaaDoorC3Gd8
import Derived.Test.YtbngmblgkkdhpaaDoorC3Gd9
import Derived.Test.YtbngmblgkkdhpaaDoorC3Gd7
set_option linter.unusedVariables false
set_option linter.unusedSimpArgs false
namespace Go.Proofs.YtbngmblgkkdhpaaDoor.Q
open Go.RowKit Go.Proofs.YtbngmblgkkdhpaaDoorW.PrintWords Go.Proofs.YtbngmblgkkdhpaaDoorW.PrintLast Go.Proofs.YtbngmblgkkdhpaaDoorW.PrintMore Go.Proofs.YtbngmblgkkdhpaaDoor.Base
theorem within2_eq (a b c : Int) : perigeeref2_within.f a b c = some (decide (b ≤ a ∧ a ≤ c)) := by
  unfold perigeeref2_within.f
  by_cases h : b ≤ a <;> simp [h]
theorem ref_digits {s : ByteArray} (hs : s.size ≤ 13) : ∀ d i : Nat, i + d = s.size → ∀ acc : Nat, acc < 10 ^ i → Ev (fun k => perigeeref2_Number.l0 k s (acc : Int) (i : Int)) (digV acc (s.data.toList.drop i)) := by
  intro d
  induction d with
  | zero =>
    intro i hi acc hacc
    obtain rfl : i = s.size := by omega
    refine Ev.step (fun k => perigeeref2_Number.l0.eq_2 ..) ?_
    simp only [if_neg (show ¬ (s.size : Int) < (s.size : Int) by omega)]
    rw [List.drop_of_length_le (by rw [bytes_len]; exact Nat.le_refl _)]
    exact Ev.now _
  | succ d ih =>
    intro i hi acc hacc
    have hlt : i < s.size := by omega
    have hl : i < s.data.toList.length := by rw [bytes_len]; exact hlt
    have hr := bt_range s (i : Int)
    refine Ev.step (fun k => perigeeref2_Number.l0.eq_2 ..) ?_
    simp only [if_pos (show (i : Int) < (s.size : Int) by omega), if_pos (show (0 : Int) ≤ (i : Int) by omega), w64 (x := (i : Int) + 1) (by omega) (by omega)]
    rw [List.drop_eq_getElem_cons hl]
    have hb := bt_get hlt hl
    unfold digV
    unfold Lib.decFrom
    unfold Lib.digitVal
    have hp : (10 : Nat) ^ i ≤ 10 ^ 12 := Nat.pow_le_pow_right (by omega) (by omega)
    have hp2 : (10 : Nat) ^ (i + 1) = 10 ^ i * 10 := Nat.pow_succ ..
    have hp3 : (10 : Nat) ^ 12 = 1000000000000 := by decide
    by_cases h1 : bt s (i : Int) < 48
    · simp only [if_pos h1]
      rw [if_neg (by omega)]
      exact Ev.now _
    · simp only [if_neg h1]
      by_cases h2 : bt s (i : Int) > 57
      · simp only [if_pos h2]
        rw [if_neg (by omega)]
        exact Ev.now _
      · simp only [if_neg h2]
        rw [if_pos (by omega)]
        have e : wrap64 (wrap64 (10 * (acc : Int)) + (bt s (i : Int) - 48) % 256) = ((acc * 10 + ((s.data.toList[i]'hl).toNat - 48) : Nat) : Int) := by
          rw [w64 (x := 10 * (acc : Int)) (by omega) (by omega), w64 (by omega) (by omega)]
          omega
        simp only [e]
        exact ih (i + 1) (by omega) _ (by omega)
theorem ref_Number_ev (s : ByteArray) : Ev (fun k => perigeeref2_Number.f k s 13) (numV s) := by
  unfold perigeeref2_Number.f numV
  simp only [within2_eq, Option.bind_some]
  by_cases h0 : s.size = 0
  · simp only [if_pos h0, decide_eq_false (show ¬ (1 ≤ (s.size : Int) ∧ (s.size : Int) ≤ 13) by omega), if_neg (show ¬ (false = true) by decide)]
    refine Ev.step (fun k => perigeeref2_Number.j0.eq_2 ..) ?_
    simp only [if_true]
    exact Ev.now _
  · simp only [if_neg h0]
    by_cases h1 : s.size > 13
    · simp only [if_pos h1, decide_eq_false (show ¬ (1 ≤ (s.size : Int) ∧ (s.size : Int) ≤ 13) by omega), if_neg (show ¬ (false = true) by decide)]
      refine Ev.step (fun k => perigeeref2_Number.j0.eq_2 ..) ?_
      simp only [if_true]
      exact Ev.now _
    · simp only [if_neg h1, decide_eq_true (show (1 ≤ (s.size : Int) ∧ (s.size : Int) ≤ 13) by omega), if_true, if_pos (show 0 < (s.size : Int) by omega)]
      have hl := ref_digits (s := s) (by omega) s.size 0 (Nat.zero_add _) 0 (by simp)
      rw [List.drop_zero] at hl
      by_cases h2 : bt s 0 = 48
      · simp only [if_pos h2]
        refine Ev.step (fun k => perigeeref2_Number.j0.eq_2 ..) ?_
        by_cases h3 : s.size > 1
        · rw [if_pos (show s.size > 1 ∧ bt s 0 = 48 from ⟨h3, h2⟩)]
          simp only [decide_eq_true (show (s.size : Int) > 1 by omega), if_true]
          exact Ev.now _
        · rw [if_neg (show ¬ (s.size > 1 ∧ bt s 0 = 48) from fun q => h3 q.1)]
          simp only [decide_eq_false (show ¬ (s.size : Int) > 1 by omega), if_neg (show ¬ (false = true) by decide)]
          exact hl
      · rw [if_neg (show ¬ (s.size > 1 ∧ bt s 0 = 48) from fun q => h2 q.2)]
        simp only [if_neg h2]
        refine Ev.step (fun k => perigeeref2_Number.j0.eq_2 ..) ?_
        simp only [if_neg (show ¬ (false = true) by decide)]
        exact hl
theorem ref_row_l0 {s : ByteArray} (hs : s.size < 1000000) : ∀ d i : Nat, i + d = s.size → Ev (fun k => perigeeref10_row.l0 k s (i : Int)) (rowV s s.size i) := by
  intro d
  induction d with
  | zero =>
    intro i hi
    refine Ev.step (fun k => perigeeref10_row.l0.eq_2 ..) ?_
    rw [rowV_ge (by omega)]
    simp only [if_neg (show ¬ (i : Int) < (s.size : Int) by omega)]
    exact Ev.now _
  | succ d ih =>
    intro i hi
    refine Ev.step (fun k => perigeeref10_row.l0.eq_2 ..) ?_
    rw [rowV_lt (by omega)]
    simp only [if_pos (show (i : Int) < (s.size : Int) by omega), if_pos (show (0 : Int) ≤ (i : Int) by omega), w64 (x := (i : Int) + 1) (by omega) (by omega)]
    by_cases h1 : bt s (i : Int) < 33
    · simp only [if_pos h1]; exact Ev.now _
    · simp only [if_neg h1]
      by_cases h2 : bt s (i : Int) > 126
      · simp only [if_pos h2]; exact Ev.now _
      · simp only [if_neg h2]; exact ih (i + 1) (by omega)
theorem ref_row_ev {s : ByteArray} (hs : s.size < 1000000) : Ev (fun k => perigeeref10_row.f k s) (rowV s s.size 0) := ref_row_l0 hs _ 0 (Nat.zero_add _)
theorem RefTake_ev {x : ByteArray} (hx : x.size < 1000000) {l : List S55} (hs : Small l 1000000) : Ev (fun k => RefTake k x l) (takeV x l) := by
  unfold RefTake takeV
  simp only [split_eq hx, Option.bind_some]
  have hfew := hs.few
  by_cases h3 : (piecesV x).length < 3
  · simp only [if_pos h3]
    exact Ev.now _
  simp only [if_neg h3]
  refine Ev.bind (ref_Number_ev (pc x ((piecesV x).length - 2))) ?_
  refine Ev.bind (ref_Number_ev (pc x ((piecesV x).length - 1))) ?_
  by_cases h1 : (numV (pc x ((piecesV x).length - 2))).2 = true
  · simp only [if_pos h1]
    by_cases h2 : (numV (pc x ((piecesV x).length - 1))).2 = true
    · simp only [if_pos h2]
      by_cases h4 : (piecesV x).length = 4
      · simp only [if_pos h4]
        by_cases hA : (pc x 0).toList = [112, 97, 115, 115]
        · have hA' : (rdOf ByteArray.empty (piecesV x) 0).toList = [112, 97, 115, 115] := hA
          simp only [if_pos hA, if_pos hA']
          refine Ev.bind (ref_row_ev (piece_small hx 1)) ?_
          show Ev (fun k => if rowV (pc x 1) (pc x 1).size 0 = true then _ else _) _
          by_cases hw : rowV (pc x 1) (pc x 1).size 0 = true
          · simp only [if_pos hw, if_pos (show l.length < 1000000000 by omega)]
            exact Ev.now _
          · simp only [if_neg hw]; exact Ev.now _
        · have hA' : ¬ (rdOf ByteArray.empty (piecesV x) 0).toList = [112, 97, 115, 115] := hA
          simp only [if_neg hA, if_neg hA']
          exact Ev.now _
      · simp only [if_neg h4]
        by_cases h5 : (piecesV x).length = 3
        · simp only [if_pos h5]
          by_cases hA : (pc x 0).toList = [114, 97, 116, 101]
          · have hA' : (rdOf ByteArray.empty (piecesV x) 0).toList = [114, 97, 116, 101] := hA
            simp only [if_pos hA, if_pos hA']
            by_cases hz : l.length = 0
            · simp only [if_pos hz]; exact Ev.now _
            · have hl3 := hs.steps _ (lastP_mem hz)
              simp only [if_neg hz, if_pos (show l.length < 1000000000 ∧ (lastP l).f3.length < 1000000000 from ⟨by omega, by omega⟩)]
              exact Ev.now _
          · have hA' : ¬ (rdOf ByteArray.empty (piecesV x) 0).toList = [114, 97, 116, 101] := hA
            simp only [if_neg hA, if_neg hA']
            exact Ev.now _
        · simp only [if_neg h5]; exact Ev.now _
    · simp only [if_neg h2]; exact Ev.now _
  · simp only [if_neg h1]; exact Ev.now _
theorem cut_eq {x : ByteArray} (hx : x.size < 1000000) : strings_Cut.f x (⟨#[10]⟩ : ByteArray) = some (if Lib.indexByte x.data.toList 10 < 0 then (x, ⟨#[]⟩, false) else (x.extract 0 (Lib.indexByte x.data.toList 10).toNat, x.extract ((Lib.indexByte x.data.toList 10).toNat + 1) x.size, true)) := by
  unfold strings_Cut.f
  rw [if_pos (by omega)]
  unfold Lib.cut
  have e : Lib.index x.data.toList (⟨#[10]⟩ : ByteArray).data.toList = Lib.indexByte x.data.toList 10 := Lib.index_one _ _
  rw [e]
  have hlt := indexByte_lt x.data.toList 10
  rw [bytes_len] at hlt
  congr 1
  by_cases h : Lib.indexByte x.data.toList 10 < 0
  · rw [if_pos h, if_neg (by omega)]
  · rw [if_neg h, if_pos (by omega)]
    have e1 : (⟨(x.data.toList.take (Lib.indexByte x.data.toList 10).toNat).toArray⟩ : ByteArray) = x.extract 0 (Lib.indexByte x.data.toList 10).toNat := by
      apply ByteArray.ext
      apply Array.ext'
      simp [ByteArray.data_extract]
    have e2 : (⟨(x.data.toList.drop ((Lib.indexByte x.data.toList 10).toNat + 1)).toArray⟩ : ByteArray) = x.extract ((Lib.indexByte x.data.toList 10).toNat + 1) x.size := by
      apply ByteArray.ext
      apply Array.ext'
      rw [ByteArray.data_extract, Array.toList_extract]
      simp only [List.extract_eq_take_drop]
      rw [List.take_of_length_le (by rw [List.length_drop, bytes_len]; exact Nat.le_refl _)]
    rw [← e1, ← e2]
    rfl
def Named (l : List S55) : Prop := ∀ p ∈ l, p.f0.size < 1000000
theorem takeV_named {x : ByteArray} (hx : x.size < 1000000) {l : List S55} (h : Named l) : Named (takeV x l).2 := by
  have k1 : ∀ a b : Int, Named (l ++ [⟨pc x 1, a, b, []⟩]) := fun a b q hq => by
    rcases List.mem_append.1 hq with hq | hq
    · exact h q hq
    · rw [List.mem_singleton.1 hq]
      exact piece_small hx 1
  have k2 : l.length ≠ 0 → ∀ s : S62, Named (addStep l s) := fun hz s q hq => by
    rcases List.mem_or_eq_of_mem_set hq with hq | rfl
    · exact h q hq
    · exact h (lastP l) (lastP_mem hz)
  unfold takeV
  repeat' split
  all_goals first | exact h | exact k1 _ _ | (rename_i hz; exact k2 hz _)
def endV (r : Int × List S55) : List S55 × Int × Int := if r.1 > 0 then ([], r.1, 10) else if checkV r.2 = 0 then (r.2, 0, 0) else ([], 0, checkV r.2)
theorem lines_both : ∀ (N : Nat) (x : ByteArray), x.size ≤ N → x.size ≤ 200000 → ∀ (n : Int) (l : List S55), 1 ≤ n → n + x.size ≤ 300000 → Small l (300000 - x.size) → Named l →
    ∃ r : Int × List S55, Ev (fun k => ReadLines k x n l) r ∧ Ev (fun k => RefLines k x l n) (endV r) := by
  intro N
  induction N with
  | zero =>
    intro x hx _ n l hn hnx hl hnm
    have h0 : x.size = 0 := by omega
    refine ⟨(0, l), ?_, ?_⟩
    · refine Ev.step (fun k => ReadLines.eq_2 ..) ?_
      simp only [if_pos (toList_nil.2 h0)]
      exact Ev.now _
    · refine Ev.step (fun k => RefLines.eq_2 ..) ?_
      simp only [if_pos (toList_nil.2 h0)]
      refine Ev.bind (perigeeref10_CheckPasses_ev l (fun p hp => by have := hnm p hp; omega)) ?_
      unfold endV
      rw [if_neg (show ¬ ((0, l) : Int × List S55).1 > 0 by show ¬ ((0 : Int) > 0); decide)]
      exact Ev.ite (fun h => by rw [if_pos h]; exact Ev.now _) (fun h => by rw [if_neg h]; exact Ev.now _)
  | succ N ih =>
    intro x hx hN n l hn hnx hl hnm
    by_cases h0 : x.size = 0
    · exact ih x (by omega) (by omega) n l hn hnx hl hnm
    · have h0' := mt toList_nil.1 h0
      have hlt := indexByte_lt x.data.toList 10
      rw [bytes_len] at hlt
      by_cases hi : Lib.indexByte x.data.toList 10 < 0
      · refine ⟨(n, l), ?_, ?_⟩
        · refine Ev.step (fun k => ReadLines.eq_2 ..) ?_
          simp only [if_neg h0', if_pos hi]
          exact Ev.now _
        · refine Ev.step (fun k => RefLines.eq_2 ..) ?_
          simp only [if_neg h0', cut_eq (show x.size < 1000000 by omega), if_pos hi, Option.bind_some, split_eq (show x.size < 1000000 by omega), if_neg (show ¬ (false = true) by decide)]
          unfold endV
          rw [if_pos (show ((n, l) : Int × List S55).1 > 0 by show n > 0; omega)]
          exact Ev.now _
      · obtain ⟨i, hi2⟩ : ∃ i : Nat, Lib.indexByte x.data.toList 10 = (i : Int) := ⟨(Lib.indexByte x.data.toList 10).toNat, by omega⟩
        have hwi : wrap64 ((i : Int) + 1) = (i : Int) + 1 := w64 (by omega) (by omega)
        have hls : (x.extract 0 i).size < 1000000 := by rw [ByteArray.size_extract]; omega
        have hrs : (x.extract (i + 1) x.size).size = x.size - (i + 1) := by rw [ByteArray.size_extract]; omega
        have hwn : wrap64 (n + 1) = n + 1 := w64 (by omega) (by omega)
        have hl6 := hl.wide (show 300000 - x.size ≤ 1000000 by omega)
        have one := TakeOne_ev (x := x.extract 0 i) hls (l := l) hl6
        have ref := RefTake_ev (x := x.extract 0 i) hls (l := l) hl6
        have hrl : ∀ v : Int × List S55, Ev (fun k => (TakeOne k (x.extract 0 i) l).bind fun r => if r.1 = true then ReadLines k (x.extract (i + 1) x.size) (n + 1) r.2 else some (n, r.2)) v → Ev (fun k => ReadLines k x n l) v := by
          intro v hv
          refine Ev.step (fun k => ReadLines.eq_2 ..) ?_
          simp only [if_neg h0', hi2, if_neg (show ¬ (i : Int) < 0 by omega), Int.toNat_natCast, hwi, hwn, if_pos (show (i : Int) < (x.size : Int) ∧ 0 ≤ (i : Int) + 1 ∧ (i : Int) + 1 ≤ (x.size : Int) by omega), show ((i : Int) + 1).toNat = i + 1 by omega]
          exact hv
        have hrf : ∀ v : List S55 × Int × Int, Ev (fun k => (RefTake k (x.extract 0 i) l).bind fun r => if r.1 = true then RefLines k (x.extract (i + 1) x.size) r.2 (n + 1) else some ([], n, 10)) v → Ev (fun k => RefLines k x l n) v := by
          intro v hv
          refine Ev.step (fun k => RefLines.eq_2 ..) ?_
          simp only [if_neg h0', cut_eq (show x.size < 1000000 by omega), hi2, if_neg (show ¬ (i : Int) < 0 by omega), Option.bind_some, Int.toNat_natCast, if_true, hwn]
          exact hv
        by_cases hb : (takeV (x.extract 0 i) l).1 = true
        · obtain ⟨r, q1, q2⟩ := ih (x.extract (i + 1) x.size) (by omega) (by omega) (n + 1) (takeV (x.extract 0 i) l).2 (by omega) (by omega) ((takeV_small hl).wide (by omega)) (takeV_named hls hnm)
          refine ⟨r, hrl _ (Ev.bind one ?_), hrf _ (Ev.bind ref ?_)⟩
          · simp only [if_pos hb]
            exact q1
          · simp only [if_pos hb]
            exact q2
        · refine ⟨(n, (takeV (x.extract 0 i) l).2), hrl _ (Ev.bind one ?_), hrf _ (Ev.bind ref ?_)⟩
          · simp only [if_neg hb]
            exact Ev.now _
          · simp only [if_neg hb]
            unfold endV
            rw [if_pos (show ((n, (takeV (x.extract 0 i) l).2) : Int × List S55).1 > 0 by show n > 0; omega)]
            exact Ev.now _
theorem read_both (x : ByteArray) : ∃ v : List S55 × Int × Int, Ev (fun k => contact_Read.f k x) v ∧ Ev (fun k => perigeeref10_Read.f k x) v ∧ (v.1 = [] ∨ checkV v.1 = 0) := by
  unfold contact_Read.f perigeeref10_Read.f
  by_cases hs : (x.size : Int) > 200000
  · simp only [if_pos hs]
    exact ⟨_, Ev.now _, Ev.now _, .inl rfl⟩
  · simp only [if_neg hs]
    obtain ⟨r, h1, h2⟩ := lines_both x.size x (Nat.le_refl _) (by omega) 1 [] (by omega) (by omega) ⟨Nat.zero_le _, fun p hp => by cases hp⟩ (fun p hp => by cases hp)
    refine ⟨endV r, Ev.bind h1 ?_, h2, ?_⟩
    · unfold endV
      refine Ev.ite (fun h => by rw [if_pos h]; exact Ev.now _) (fun h => ?_)
      rw [if_neg h]
      refine Ev.bind (contact_CheckPasses_ev _) ?_
      exact Ev.ite (fun h => by rw [if_pos h]; exact Ev.now _) (fun h => by rw [if_neg h]; exact Ev.now _)
    · unfold endV
      split
      · exact .inl rfl
      · split
        · rename_i h
          exact .inr h
        · exact .inl rfl
theorem itoa_f {n : Int} (h0 : 0 ≤ n) (h1 : n ≤ 1000000000000) : strconv_Itoa.f n = some (itoaB n) := if_pos ⟨by omega, by omega⟩
theorem ba_app (l : List UInt8) (s : ByteArray) : (⟨l.toArray⟩ : ByteArray) ++ s = ⟨(l ++ s.data.toList).toArray⟩ := by
  apply ByteArray.ext
  apply Array.ext'
  simp only [ByteArray.data_append, Array.toList_append]
noncomputable def doneV (l : List S55) : ByteArray × Int := if (textP l).length > 200000 then ((⟨#[]⟩ : ByteArray), (2 : Int)) else ((⟨(textP l).toArray⟩ : ByteArray), 0)
theorem rd_P_mem {l : List S55} {i : Nat} (h : i < l.length) : rd_T55 l (i : Int) ∈ l := by
  unfold rd_T55
  simp [List.getD_eq_getElem?_getD, List.getElem?_eq_getElem h]
theorem rd_R_mem {l : List S62} {i : Nat} (h : i < l.length) : rd_T62 l (i : Int) ∈ l := by
  unfold rd_T62
  simp [List.getD_eq_getElem?_getD, List.getElem?_eq_getElem h]
theorem ref_text_l1 {l : List S55} (hf : l.length ≤ 100 ∧ ∀ p ∈ l, FitP p) {i : Nat} (hi : i < l.length) {pre : List UInt8} (hpre : pre.length ≤ 300000) {v : ByteArray × Int} (hn : Ev (fun k => perigeeref10_Text.l0 k l ⟨(pre ++ textS (rd_T55 l (i : Int)).f3).toArray⟩ ((i + 1 : Nat) : Int)) v) :
    ∀ d j : Nat, j + d = (rd_T55 l (i : Int)).f3.length → Ev (fun k => perigeeref10_Text.l1 k l ⟨(pre ++ textS ((rd_T55 l (i : Int)).f3.take j)).toArray⟩ (i : Int) (j : Int)) v := by
  have f := hf.2 _ (rd_P_mem hi)
  have hfew := f.few
  have hmany := hf.1
  intro d
  induction d with
  | zero =>
    intro j hj
    obtain rfl : j = (rd_T55 l (i : Int)).f3.length := by omega
    refine Ev.step (fun k => perigeeref10_Text.l1.eq_2 ..) ?_
    rw [List.take_length]
    simp only [if_pos (show (0 : Int) ≤ (i : Int) by omega), if_pos (show (i : Int) < (l.length : Int) by omega), if_neg (show ¬ ((rd_T55 l (i : Int)).f3.length : Int) < ((rd_T55 l (i : Int)).f3.length : Int) by omega), w64 (x := (i : Int) + 1) (by omega) (by omega)]
    exact hn
  | succ d ih =>
    intro j hj
    have hlt : j < (rd_T55 l (i : Int)).f3.length := by omega
    have hm := ih (j + 1) (by omega)
    rw [textS_snoc hlt, ← List.append_assoc] at hm
    have g := f.steps _ (rd_R_mem hlt)
    have hz1 := textS_small f.steps
    have hz2 := textS_part (rd_T55 l (i : Int)).f3 j
    have hz : (⟨(pre ++ textS ((rd_T55 l (i : Int)).f3.take j)).toArray⟩ : ByteArray).size ≤ 400000 := by rw [ba_size, List.length_append]; omega
    refine Ev.step (fun k => perigeeref10_Text.l1.eq_2 ..) ?_
    simp only [if_pos (show (0 : Int) ≤ (i : Int) by omega), if_pos (show (i : Int) < (l.length : Int) by omega), if_pos (show (j : Int) < ((rd_T55 l (i : Int)).f3.length : Int) by omega), if_pos (show (0 : Int) ≤ (j : Int) by omega), w64 (x := (j : Int) + 1) (by omega) (by omega), itoa_f g.1.1 g.1.2, itoa_f g.2.1 g.2.2, Option.bind_some]
    generalize rd_T62 (rd_T55 l (i : Int)).f3 (j : Int) = y at g hm ⊢
    have z2 := itoa_size g.1.1 g.1.2
    have z3 := itoa_size g.2.1 g.2.2
    have e1 : (⟨#[114, 97, 116, 101, 32]⟩ : ByteArray).size = 5 := rfl
    have e2 : (⟨#[32]⟩ : ByteArray).size = 1 := rfl
    have e3 : (⟨#[10]⟩ : ByteArray).size = 1 := rfl
    repeat' refine Ev.ite (fun _ => ?_) (fun q => absurd (by first | omega | (simp only [ByteArray.size_append]; omega)) q)
    rw [ba_app]
    exact hm
theorem ref_text_l0 {l : List S55} (hf : l.length ≤ 100 ∧ ∀ p ∈ l, FitP p) : ∀ d i : Nat, i + d = l.length → Ev (fun k => perigeeref10_Text.l0 k l ⟨(textP (l.take i)).toArray⟩ (i : Int)) (doneV l) := by
  have hmany := hf.1
  intro d
  induction d with
  | zero =>
    intro i hi
    obtain rfl : i = l.length := by omega
    refine Ev.step (fun k => perigeeref10_Text.l0.eq_2 ..) ?_
    simp only [if_neg (show ¬ (l.length : Int) < (l.length : Int) by omega), List.take_length]
    unfold doneV
    refine Ev.ite (fun q => ?_) (fun q => ?_)
    · rw [ba_size] at q
      rw [if_pos (by omega)]
      exact Ev.now _
    · rw [ba_size] at q
      rw [if_neg (by omega)]
      exact Ev.now _
  | succ d ih =>
    intro i hi
    have hlt : i < l.length := by omega
    have hn := ih (i + 1) (by omega)
    rw [textP_snoc hlt, ← List.append_assoc] at hn
    have f := hf.2 _ (rd_P_mem hlt)
    have hp2 := textP_small hf.2
    have hp3 := textP_part l i
    have hls := line_small f
    have hn2 := ref_text_l1 hf hlt (pre := textP (l.take i) ++ (lineB passH (rd_T55 l (i : Int)).f0 (rd_T55 l (i : Int)).f1 (rd_T55 l (i : Int)).f2).data.toList) (by rw [List.length_append, bytes_len]; omega) hn _ 0 (Nat.zero_add _)
    rw [List.take_zero, show textS [] = [] from rfl, List.append_nil] at hn2
    have hz : (⟨(textP (l.take i)).toArray⟩ : ByteArray).size ≤ 300000 := by rw [ba_size]; omega
    refine Ev.step (fun k => perigeeref10_Text.l0.eq_2 ..) ?_
    simp only [if_pos (show (i : Int) < (l.length : Int) by omega), if_pos (show (0 : Int) ≤ (i : Int) by omega), itoa_f f.a0 f.a1, itoa_f f.b0 f.b1, Option.bind_some]
    have z1 := (name_bytes f.name).1
    have z2 := itoa_size f.a0 f.a1
    have z3 := itoa_size f.b0 f.b1
    have e1 : (⟨#[112, 97, 115, 115, 32]⟩ : ByteArray).size = 5 := rfl
    have e2 : (⟨#[32]⟩ : ByteArray).size = 1 := rfl
    have e3 : (⟨#[10]⟩ : ByteArray).size = 1 := rfl
    repeat' refine Ev.ite (fun _ => ?_) (fun q => absurd (by first | omega | (simp only [ByteArray.size_append]; omega)) q)
    rw [ba_app]
    exact hn2
theorem ref_Text_ev (l : List S55) (hw : ∀ x ∈ l, x.f0.size ≤ 140737488351232) : Ev (fun k => perigeeref10_Text.f k l) (textV l) := by
  unfold perigeeref10_Text.f textV
  refine Ev.bind (perigeeref10_CheckPasses_ev l hw) ?_
  by_cases h : checkV l = 0
  · simp only [if_pos h]
    exact ref_text_l0 (fit_all h) _ 0 (Nat.zero_add _)
  · simp only [if_neg h]
    exact Ev.now _
end Go.Proofs.YtbngmblgkkdhpaaDoor.Q
