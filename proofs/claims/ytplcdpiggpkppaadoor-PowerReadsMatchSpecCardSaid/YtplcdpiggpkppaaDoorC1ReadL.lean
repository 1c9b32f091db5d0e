/- Loads and uses read line by line, on both sides. -/
-- Made by wip/tools/claimp.py of this session's texts; Lean checks it.
import Derived.Test.YtplcdpiggpkppaaDoorC1Read
import Derived.Test.YtplcdpiggpkppaaDoorC1Gd5
import Derived.Test.YtplcdpiggpkppaaDoorC1Gd8
set_option linter.unusedVariables false
set_option linter.unusedSimpArgs false
namespace Go.Proofs.YtplcdpiggpkppaaDoor.Q
open Go.RowKit Go.Proofs.YtplcdpiggpkppaaDoorW.PrintWords Go.Proofs.YtplcdpiggpkppaaDoorW.PrintLast Go.Proofs.YtplcdpiggpkppaaDoorW.PrintMore Go.Proofs.YtplcdpiggpkppaaDoor.Base
def pc (x : ByteArray) (i : Nat) : ByteArray := rdOf ByteArray.empty (piecesV x) (i : Int)
/-- What a line does. -/
def oneV (x : ByteArray) (l : List S32) (u : List S35) : Bool × List S32 × List S35 :=
  if (piecesV x).length = 4 then if rowV (pc x 1) (pc x 1).size 0 = true then if (numV (pc x 2)).2 = true then if (numV (pc x 3)).2 = true then
    (if (pc x 0).toList = [108, 111, 97, 100] ∧ u = [] then (true, l ++ [⟨pc x 1, (numV (pc x 2)).1, (numV (pc x 3)).1⟩], u) else if (pc x 0).toList = [117, 115, 101] then (true, l, u ++ [⟨pc x 1, (numV (pc x 2)).1, (numV (pc x 3)).1⟩]) else (false, l, u))
    else (false, l, u) else (false, l, u) else (false, l, u) else (false, l, u)
theorem ReadOne_ev {x : ByteArray} (hx : x.size < 100000) {l : List S32} {u : List S35} (hl : l.length < 1000000) (hu : u.length < 1000000) : Ev (fun k => ReadOne k x l u) (oneV x l u) := by
  unfold ReadOne oneV
  simp only [split_eq hx, Option.bind_some]
  by_cases h4 : (piecesV x).length = 4
  · simp only [if_pos h4]
    refine Ev.bind (isWord_ev (piece_small hx 1)) ?_
    show Ev (fun k => if rowV (pc x 1) (pc x 1).size 0 = true then _ else _) _
    by_cases hw : rowV (pc x 1) (pc x 1).size 0 = true
    · simp only [if_pos hw]
      refine Ev.bind (kit_Digits_ev (pc x 2)) ?_
      refine Ev.bind (kit_Digits_ev (pc x 3)) ?_
      by_cases h1 : (numV (pc x 2)).2 = true
      · simp only [if_pos h1]
        by_cases h2 : (numV (pc x 3)).2 = true
        · simp only [if_pos h2]
          by_cases hA : (pc x 0).toList = [108, 111, 97, 100] ∧ u = []
          · have hA' : (rdOf ByteArray.empty (piecesV x) 0).toList = [108, 111, 97, 100] ∧ u = [] := hA
            simp only [if_pos hA, if_pos hA', if_pos (show l.length < 4398046511104 by omega)]
            exact Ev.now _
          · have hA' : ¬ ((rdOf ByteArray.empty (piecesV x) 0).toList = [108, 111, 97, 100] ∧ u = []) := hA
            simp only [if_neg hA, if_neg hA']
            by_cases hB : (pc x 0).toList = [117, 115, 101]
            · have hB' : (rdOf ByteArray.empty (piecesV x) 0).toList = [117, 115, 101] := hB
              simp only [if_pos hB, if_pos hB', if_pos (show u.length < 4398046511104 by omega)]
              exact Ev.now _
            · have hB' : ¬ (rdOf ByteArray.empty (piecesV x) 0).toList = [117, 115, 101] := hB
              simp only [if_neg hB, if_neg hB']
              exact Ev.now _
        · simp only [if_neg h2]; exact Ev.now _
      · simp only [if_neg h1]; exact Ev.now _
    · simp only [if_neg hw]; exact Ev.now _
  · simp only [if_neg h4]; exact Ev.now _
abbrev RefR := List S32 × List S35 × Int × Int
/-- The reference at a line: what stands behind it if the line is taken, or its number. -/
theorem ref_line {x rest : ByteArray} (hx : x.size < 100000) {l : List S32} {u : List S35} (hl : l.length < 1000000) (hu : u.length < 1000000) (n : Int) {r : RefR} (hrest : (oneV x l u).1 = true → Ev (fun k => perigeeref9_Read.l0 k rest (oneV x l u).2.1 (oneV x l u).2.2 (wrap64 (n + 1))) r) :
    Ev (fun k => if ((piecesV x).length : Int) = 4 then (if 1 < ((piecesV x).length : Int) then ((perigeeref9_isRow.f k (rdOf ByteArray.empty (piecesV x) 1)).bind fun t => (perigeeref9_Read.j1 k l u n rest (piecesV x) (!t))) else none) else (perigeeref9_Read.j1 k l u n rest (piecesV x) true)) (if (oneV x l u).1 = true then r else (([] : List S32), ([] : List S35), n, 10)) := by
  have fail : ∀ v : RefR, v = (([] : List S32), ([] : List S35), n, 10) → Ev (fun k => perigeeref9_Read.j1 k l u n rest (piecesV x) true) v := by
    rintro v rfl
    refine Ev.step (fun k => perigeeref9_Read.j1.eq_2 ..) ?_
    simp only [if_true]
    exact Ev.now _
  unfold oneV at hrest ⊢
  by_cases h4 : (piecesV x).length = 4
  · simp only [if_pos h4] at hrest ⊢
    simp only [if_pos (show ((piecesV x).length : Int) = 4 by omega), if_pos (show 1 < ((piecesV x).length : Int) by omega)]
    refine Ev.bind (isRow_ev (piece_small hx 1)) ?_
    show Ev (fun k => perigeeref9_Read.j1 k l u n rest (piecesV x) (!(rowV (pc x 1) (pc x 1).size 0))) _
    by_cases hw : rowV (pc x 1) (pc x 1).size 0 = true
    · simp only [if_pos hw] at hrest ⊢
      rw [hw]
      refine Ev.step (fun k => perigeeref9_Read.j1.eq_2 ..) ?_
      simp only [Bool.not_true, if_neg (show ¬ (false = true) by decide), number_eq, Option.bind_some, if_pos (show 2 < ((piecesV x).length : Int) by omega), if_pos (show 3 < ((piecesV x).length : Int) by omega)]
      show Ev (fun k => if (numV (pc x 2)).2 = true then perigeeref9_Read.j2 k l u n rest (piecesV x) (numV (pc x 2)).1 (numV (pc x 3)).1 (!(numV (pc x 3)).2) else perigeeref9_Read.j2 k l u n rest (piecesV x) (numV (pc x 2)).1 (numV (pc x 3)).1 true) _
      have fail2 : ∀ v : RefR, v = (([] : List S32), ([] : List S35), n, 10) → Ev (fun k => perigeeref9_Read.j2 k l u n rest (piecesV x) (numV (pc x 2)).1 (numV (pc x 3)).1 true) v := by
        rintro v rfl
        refine Ev.step (fun k => perigeeref9_Read.j2.eq_2 ..) ?_
        simp only [if_true]
        exact Ev.now _
      by_cases h1 : (numV (pc x 2)).2 = true
      · simp only [if_pos h1] at hrest ⊢
        by_cases h2 : (numV (pc x 3)).2 = true
        · simp only [if_pos h2] at hrest ⊢
          rw [h2]
          refine Ev.step (fun k => perigeeref9_Read.j2.eq_2 ..) ?_
          simp only [Bool.not_true, if_neg (show ¬ (false = true) by decide), if_pos (show 0 < ((piecesV x).length : Int) by omega)]
          have e0 : rdOf ByteArray.empty (piecesV x) 0 = pc x 0 := rfl
          have e1 : rdOf ByteArray.empty (piecesV x) 1 = pc x 1 := rfl
          simp only [e0]
          have j3f : ∀ {v : RefR}, Ev (fun k => if (pc x 0).toList = ([117, 115, 101] : List UInt8) then (if 1 < ((piecesV x).length : Int) then (if u.length < 4398046511104 then perigeeref9_Read.l0 k rest l (u ++ [⟨pc x 1, (numV (pc x 2)).1, (numV (pc x 3)).1⟩]) (wrap64 (n + 1)) else none) else none) else some (([] : List S32), ([] : List S35), n, 10)) v → Ev (fun k => perigeeref9_Read.j3 k l u n rest (piecesV x) (numV (pc x 2)).1 (numV (pc x 3)).1 false) v := by
            intro v h
            refine Ev.step (fun k => perigeeref9_Read.j3.eq_2 ..) ?_
            simp only [if_neg (show ¬ (false = true) by decide), if_pos (show 0 < ((piecesV x).length : Int) by omega), e0, e1]
            exact h
          have use : ¬ ((pc x 0).toList = [108, 111, 97, 100] ∧ u = []) → Ev (fun k => perigeeref9_Read.j3 k l u n rest (piecesV x) (numV (pc x 2)).1 (numV (pc x 3)).1 false) (if (if (pc x 0).toList = [108, 111, 97, 100] ∧ u = [] then (true, l ++ [(⟨pc x 1, (numV (pc x 2)).1, (numV (pc x 3)).1⟩ : S32)], u) else if (pc x 0).toList = [117, 115, 101] then (true, l, u ++ [(⟨pc x 1, (numV (pc x 2)).1, (numV (pc x 3)).1⟩ : S35)]) else (false, l, u)).1 = true then r else (([] : List S32), ([] : List S35), n, 10)) := by
            intro hA
            refine j3f ?_
            simp only [if_neg hA] at hrest ⊢
            by_cases hB : (pc x 0).toList = [117, 115, 101]
            · simp only [if_pos hB, if_true, if_pos (show 1 < ((piecesV x).length : Int) by omega), if_pos (show u.length < 4398046511104 by omega)] at hrest ⊢
              exact hrest trivial
            · simp only [if_neg hB, if_neg (show ¬ (false = true) by decide)]
              exact Ev.now _
          by_cases hL : (pc x 0).toList = [108, 111, 97, 100]
          · simp only [if_pos (show (pc x 0).toList = ([108, 111, 97, 100] : List UInt8) from hL)]
            by_cases hU : u = []
            · have e2 : ((u.length : Int) == 0) = true := by rw [hU]; rfl
              rw [e2]
              refine Ev.step (fun k => perigeeref9_Read.j3.eq_2 ..) ?_
              simp only [if_pos (show (pc x 0).toList = [108, 111, 97, 100] ∧ u = [] from ⟨hL, hU⟩), if_true, if_pos (show 1 < ((piecesV x).length : Int) by omega), if_pos (show l.length < 4398046511104 by omega), e1] at hrest ⊢
              exact hrest trivial
            · have e2 : ((u.length : Int) == 0) = false := by
                rw [beq_eq_false_iff_ne]
                intro q
                exact hU (List.eq_nil_of_length_eq_zero (by omega))
              rw [e2]
              exact use (fun q => hU q.2)
          · simp only [if_neg (show ¬ (pc x 0).toList = ([108, 111, 97, 100] : List UInt8) from hL)]
            exact use (fun q => hL q.1)
        · simp only [if_neg h2] at hrest ⊢
          rw [Bool.eq_false_iff.mpr h2]
          exact fail2 _ (by simp)
      · simp only [if_neg h1] at hrest ⊢
        exact fail2 _ (by simp)
    · simp only [if_neg hw] at hrest ⊢
      rw [Bool.eq_false_iff.mpr hw]
      exact fail _ (by simp)
  · simp only [if_neg h4] at hrest ⊢
    simp only [if_neg (show ¬ ((piecesV x).length : Int) = 4 by omega)]
    exact fail _ (by simp)
theorem oneV_len (x : ByteArray) (l : List S32) (u : List S35) : (oneV x l u).2.1.length ≤ l.length + 1 ∧ (oneV x l u).2.2.length ≤ u.length + 1 := by
  unfold oneV
  repeat' split
  all_goals simp
theorem indexByte_lt (l : List UInt8) (c : UInt8) : Lib.indexByte l c < l.length := by
  induction l with
  | nil => simp [Lib.indexByte]
  | cons b l ih =>
    unfold Lib.indexByte
    split
    · simp
    · split
      · simp only [List.length_cons]; omega
      · simp only [List.length_cons]; omega
theorem cut_eq {x : ByteArray} (hx : x.size < 100000) : strings_Cut.f x (⟨#[10]⟩ : ByteArray) = some (if Lib.indexByte x.data.toList 10 < 0 then (x, ⟨#[]⟩, false) else (x.extract 0 (Lib.indexByte x.data.toList 10).toNat, x.extract ((Lib.indexByte x.data.toList 10).toNat + 1) x.size, true)) := by
  unfold strings_Cut.f
  rw [if_pos (by omega)]
  unfold Lib.cut
  have e : Lib.index x.data.toList (⟨#[10]⟩ : ByteArray).data.toList = Lib.indexByte x.data.toList 10 := Lib.index_one _ _
  rw [e]
  have hlt := indexByte_lt x.data.toList 10
  rw [bytes_len] at hlt
  congr 1
  by_cases h : Lib.indexByte x.data.toList 10 < 0
  · rw [if_pos h, if_neg (by omega)]
  · rw [if_neg h, if_pos (by omega)]
    have e1 : (⟨(x.data.toList.take (Lib.indexByte x.data.toList 10).toNat).toArray⟩ : ByteArray) = x.extract 0 (Lib.indexByte x.data.toList 10).toNat := by
      apply ByteArray.ext
      apply Array.ext'
      simp [ByteArray.data_extract]
    have e2 : (⟨(x.data.toList.drop ((Lib.indexByte x.data.toList 10).toNat + 1)).toArray⟩ : ByteArray) = x.extract ((Lib.indexByte x.data.toList 10).toNat + 1) x.size := by
      apply ByteArray.ext
      apply Array.ext'
      rw [ByteArray.data_extract, Array.toList_extract]
      simp only [List.extract_eq_take_drop]
      rw [List.take_of_length_le (by rw [List.length_drop, bytes_len]; exact Nat.le_refl _)]
    rw [← e1, ← e2]
    rfl
/-- What is told at the end. -/
noncomputable def endV (r : Int × List S32 × List S35) : RefR := if r.1 > 0 then (([] : List S32), ([] : List S35), r.1, 10) else if usesV r.2.1 r.2.2 = 0 then (r.2.1, r.2.2, 0, 0) else (([] : List S32), ([] : List S35), 0, usesV r.2.1 r.2.2)
theorem lines_ev : ∀ (N : Nat) (x : ByteArray), x.size ≤ N → N ≤ 50000 → ∀ (n : Int) (l : List S32) (u : List S35), 1 ≤ n → n + x.size ≤ 100000 → l.length + x.size ≤ 100000 → u.length + x.size ≤ 100000 → ∃ r : Int × List S32 × List S35, Ev (fun k => ReadLines k x n l u) r ∧ Ev (fun k => perigeeref9_Read.l0 k x l u n) (endV r) ∧ r.2.1.length ≤ 100000 ∧ r.2.2.length ≤ 100000 := by
  intro N
  induction N with
  | zero =>
    intro x hx _ n l u hn hnx hl hu
    have h0 : x.size = 0 := by omega
    refine ⟨(0, l, u), ?_, ?_, by show l.length ≤ 100000; omega, by show u.length ≤ 100000; omega⟩
    · refine Ev.step (fun k => ReadLines.eq_2 ..) ?_
      simp only [if_pos (toList_nil.2 h0)]
      exact Ev.now _
    · refine Ev.step (fun k => perigeeref9_Read.l0.eq_2 ..) ?_
      simp only [if_pos (toList_nil.2 h0)]
      refine Ev.bind (perigeeref9_CheckUses_ev l u) ?_
      unfold endV
      rw [if_neg (show ¬ ((0, l, u) : Int × List S32 × List S35).1 > 0 by show ¬ ((0 : Int) > 0); decide)]
      exact Ev.ite (fun h => by rw [if_pos h]; exact Ev.now _) (fun h => by rw [if_neg h]; exact Ev.now _)
  | succ N ih =>
    intro x hx hN n l u hn hnx hl hu
    by_cases h0 : x.size = 0
    · exact ih x (by omega) (by omega) n l u hn hnx hl hu
    · have h0' := mt toList_nil.1 h0
      have hlt := indexByte_lt x.data.toList 10
      rw [bytes_len] at hlt
      by_cases hi : Lib.indexByte x.data.toList 10 < 0
      · refine ⟨(n, l, u), ?_, ?_, by show l.length ≤ 100000; omega, by show u.length ≤ 100000; omega⟩
        · refine Ev.step (fun k => ReadLines.eq_2 ..) ?_
          simp only [if_neg h0', if_pos hi]
          exact Ev.now _
        · refine Ev.step (fun k => perigeeref9_Read.l0.eq_2 ..) ?_
          simp only [if_neg h0', cut_eq (show x.size < 100000 by omega), if_pos hi, Option.bind_some, split_eq (show x.size < 100000 by omega), if_neg (show ¬ (false = true) by decide)]
          unfold endV
          rw [if_pos (show ((n, l, u) : Int × List S32 × List S35).1 > 0 by show n > 0; omega)]
          refine Ev.step (fun k => perigeeref9_Read.j1.eq_2 ..) ?_
          simp only [if_true]
          exact Ev.now _
      · obtain ⟨i, hi2⟩ : ∃ i : Nat, Lib.indexByte x.data.toList 10 = (i : Int) := ⟨(Lib.indexByte x.data.toList 10).toNat, by omega⟩
        have hwi : wrap64 ((i : Int) + 1) = (i : Int) + 1 := w64 (by omega) (by omega)
        have hls : (x.extract 0 i).size < 100000 := by rw [ByteArray.size_extract]; omega
        have hrs : (x.extract (i + 1) x.size).size = x.size - (i + 1) := by rw [ByteArray.size_extract]; omega
        obtain ⟨g1, g2⟩ := oneV_len (x.extract 0 i) l u
        obtain ⟨r, q1, q2, q3, q4⟩ := ih (x.extract (i + 1) x.size) (by omega) (by omega) (n + 1) (oneV (x.extract 0 i) l u).2.1 (oneV (x.extract 0 i) l u).2.2 (by omega) (by omega) (by omega) (by omega)
        have hwn : wrap64 (n + 1) = n + 1 := w64 (by omega) (by omega)
        have one := ReadOne_ev (x := x.extract 0 i) hls (l := l) (u := u) (by omega) (by omega)
        have ref := ref_line (x := x.extract 0 i) (rest := x.extract (i + 1) x.size) hls (l := l) (u := u) (by omega) (by omega) n (r := endV r) (fun _ => by rw [hwn]; exact q2)
        have hl0 : ∀ v : RefR, Ev (fun k => if ((piecesV (x.extract 0 i)).length : Int) = 4 then (if 1 < ((piecesV (x.extract 0 i)).length : Int) then ((perigeeref9_isRow.f k (rdOf ByteArray.empty (piecesV (x.extract 0 i)) 1)).bind fun t => (perigeeref9_Read.j1 k l u n (x.extract (i + 1) x.size) (piecesV (x.extract 0 i)) (!t))) else none) else (perigeeref9_Read.j1 k l u n (x.extract (i + 1) x.size) (piecesV (x.extract 0 i)) true)) v → Ev (fun k => perigeeref9_Read.l0 k x l u n) v := by
          intro v hv
          refine Ev.step (fun k => perigeeref9_Read.l0.eq_2 ..) ?_
          simp only [if_neg h0', cut_eq (show x.size < 100000 by omega), hi2, if_neg (show ¬ (i : Int) < 0 by omega), Option.bind_some, Int.toNat_natCast, split_eq hls, if_true]
          exact hv
        have hrl : ∀ v : Int × List S32 × List S35, Ev (fun k => (ReadOne k (x.extract 0 i) l u).bind fun r => if r.1 = true then ReadLines k (x.extract (i + 1) x.size) (n + 1) r.2.1 r.2.2 else some (n, r.2.1, r.2.2)) v → Ev (fun k => ReadLines k x n l u) v := by
          intro v hv
          refine Ev.step (fun k => ReadLines.eq_2 ..) ?_
          simp only [if_neg h0', hi2, if_neg (show ¬ (i : Int) < 0 by omega), Int.toNat_natCast, hwi, hwn, if_pos (show (i : Int) < (x.size : Int) ∧ 0 ≤ (i : Int) + 1 ∧ (i : Int) + 1 ≤ (x.size : Int) by omega), show ((i : Int) + 1).toNat = i + 1 by omega]
          exact hv
        by_cases hb : (oneV (x.extract 0 i) l u).1 = true
        · refine ⟨r, hrl _ (Ev.bind one ?_), hl0 _ ?_, q3, q4⟩
          · simp only [if_pos hb]
            exact q1
          · rw [if_pos hb] at ref
            exact ref
        · refine ⟨(n, (oneV (x.extract 0 i) l u).2.1, (oneV (x.extract 0 i) l u).2.2), hrl _ (Ev.bind one ?_), hl0 _ ?_, by show (oneV (x.extract 0 i) l u).2.1.length ≤ 100000; omega, by show (oneV (x.extract 0 i) l u).2.2.length ≤ 100000; omega⟩
          · simp only [if_neg hb]
            exact Ev.now _
          · rw [if_neg hb] at ref
            unfold endV
            rw [if_pos (show ((n, (oneV (x.extract 0 i) l u).2.1, (oneV (x.extract 0 i) l u).2.2) : Int × List S32 × List S35).1 > 0 by show n > 0; omega)]
            exact ref
/-- Both read the same. -/
theorem read_both (x : ByteArray) : ∃ v : RefR, Ev (fun k => power_Read.f k x) v ∧ Ev (fun k => perigeeref9_Read.f k x) v ∧ v.1.length ≤ 100000 ∧ v.2.1.length ≤ 100000 := by
  unfold power_Read.f perigeeref9_Read.f
  by_cases hs : (x.size : Int) > 50000
  · simp only [if_pos hs]
    exact ⟨_, Ev.now _, Ev.now _, Nat.zero_le _, Nat.zero_le _⟩
  · simp only [if_neg hs]
    obtain ⟨r, h1, h2, h3, h4⟩ := lines_ev x.size x (Nat.le_refl _) (by omega) 1 [] [] (by omega) (by omega) (by simp; omega) (by simp; omega)
    refine ⟨endV r, Ev.bind h1 ?_, h2, ?_, ?_⟩
    · unfold endV
      refine Ev.ite (fun h => by rw [if_pos h]; exact Ev.now _) (fun h => ?_)
      rw [if_neg h]
      refine Ev.bind (power_CheckUses_ev _ _) ?_
      exact Ev.ite (fun h => by rw [if_pos h]; exact Ev.now _) (fun h => by rw [if_neg h]; exact Ev.now _)
    · unfold endV
      repeat' split
      all_goals first | exact h3 | exact Nat.zero_le _
    · unfold endV
      repeat' split
      all_goals first | exact h4 | exact Nat.zero_le _
theorem loads_same (l : List S32) (hl : l.length ≤ 100000) : ∀ d i : Nat, i + d = l.length → Ev (fun k => api_Load.l0 k l l (l.length : Int) (i : Int)) true := by
  intro d
  induction d with
  | zero =>
    intro i hi
    refine Ev.step (fun k => api_Load.l0.eq_2 ..) ?_
    simp only [if_neg (show ¬ (i : Int) < (l.length : Int) by omega)]
    exact Ev.now _
  | succ d ih =>
    intro i hi
    refine Ev.step (fun k => api_Load.l0.eq_2 ..) ?_
    simp only [if_pos (show (i : Int) < (l.length : Int) by omega), if_pos (show (0 : Int) ≤ (i : Int) by omega), beq_self_eq_true, Bool.not_true, Bool.or_false, if_neg (show ¬ (false = true) by decide), w64 (x := (i : Int) + 1) (by omega) (by omega)]
    exact ih (i + 1) (by omega)
theorem uses_same (l : List S35) (hl : l.length ≤ 100000) : ∀ d i : Nat, i + d = l.length → Ev (fun k => api_Use.l0 k l l (l.length : Int) (i : Int)) true := by
  intro d
  induction d with
  | zero =>
    intro i hi
    refine Ev.step (fun k => api_Use.l0.eq_2 ..) ?_
    simp only [if_neg (show ¬ (i : Int) < (l.length : Int) by omega)]
    exact Ev.now _
  | succ d ih =>
    intro i hi
    refine Ev.step (fun k => api_Use.l0.eq_2 ..) ?_
    simp only [if_pos (show (i : Int) < (l.length : Int) by omega), if_pos (show (0 : Int) ≤ (i : Int) by omega), beq_self_eq_true, Bool.not_true, Bool.or_false, if_neg (show ¬ (false = true) by decide), w64 (x := (i : Int) + 1) (by omega) (by omega)]
    exact ih (i + 1) (by omega)
theorem api_Load_ev (l : List S32) (hl : l.length ≤ 100000) : Ev (fun k => api_Load.f k l l) true := by
  unfold api_Load.f
  simp only [if_true]
  exact loads_same l hl _ 0 (Nat.zero_add _)
theorem api_Use_ev (l : List S35) (hl : l.length ≤ 100000) : Ev (fun k => api_Use.f k l l) true := by
  unfold api_Use.f
  simp only [if_true]
  exact uses_same l hl _ 0 (Nat.zero_add _)
end Go.Proofs.YtplcdpiggpkppaaDoor.Q
