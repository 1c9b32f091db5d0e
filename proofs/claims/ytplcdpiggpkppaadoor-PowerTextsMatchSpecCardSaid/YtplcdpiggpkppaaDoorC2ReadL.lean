/- Loads and uses read line by line, on both sides. -/
-- Made by wip/tools/claimp.py of this session's texts; Lean checks it.
import Derived.Test.YtplcdpiggpkppaaDoorC2Read
import Derived.Test.YtplcdpiggpkppaaDoorC2Gd5
import Derived.Test.YtplcdpiggpkppaaDoorC2Gd8
set_option linter.unusedVariables false
set_option linter.unusedSimpArgs false
namespace Go.Proofs.YtplcdpiggpkppaaDoor.Q
open Go.RowKit Go.Proofs.YtplcdpiggpkppaaDoorW.PrintWords Go.Proofs.YtplcdpiggpkppaaDoorW.PrintLast Go.Proofs.YtplcdpiggpkppaaDoorW.PrintMore Go.Proofs.YtplcdpiggpkppaaDoor.Base
def pc (x : ByteArray) (i : Nat) : ByteArray := rdOf ByteArray.empty (piecesV x) (i : Int)
/-- What a line does. -/
def oneV (x : ByteArray) (l : List S32) (u : List S35) : Bool × List S32 × List S35 :=
  if (piecesV x).length = 4 then if rowV (pc x 1) (pc x 1).size 0 = true then if (numV (pc x 2)).2 = true then if (numV (pc x 3)).2 = true then
    (if (pc x 0).toList = [108, 111, 97, 100] ∧ u = [] then (true, l ++ [⟨pc x 1, (numV (pc x 2)).1, (numV (pc x 3)).1⟩], u) else if (pc x 0).toList = [117, 115, 101] then (true, l, u ++ [⟨pc x 1, (numV (pc x 2)).1, (numV (pc x 3)).1⟩]) else (false, l, u))
    else (false, l, u) else (false, l, u) else (false, l, u) else (false, l, u)
theorem ReadOne_ev {x : ByteArray} (hx : x.size < 100000) {l : List S32} {u : List S35} (hl : l.length < 1000000) (hu : u.length < 1000000) : Ev (fun k => ReadOne k x l u) (oneV x l u) := by
  unfold ReadOne oneV
  simp only [split_eq hx, Option.bind_some]
  by_cases h4 : (piecesV x).length = 4
  · simp only [if_pos h4]
    refine Ev.bind (isWord_ev (piece_small hx 1)) ?_
    show Ev (fun k => if rowV (pc x 1) (pc x 1).size 0 = true then _ else _) _
    by_cases hw : rowV (pc x 1) (pc x 1).size 0 = true
    · simp only [if_pos hw]
      refine Ev.bind (kit_Digits_ev (pc x 2)) ?_
      refine Ev.bind (kit_Digits_ev (pc x 3)) ?_
      by_cases h1 : (numV (pc x 2)).2 = true
      · simp only [if_pos h1]
        by_cases h2 : (numV (pc x 3)).2 = true
        · simp only [if_pos h2]
          by_cases hA : (pc x 0).toList = [108, 111, 97, 100] ∧ u = []
          · have hA' : (rdOf ByteArray.empty (piecesV x) 0).toList = [108, 111, 97, 100] ∧ u = [] := hA
            simp only [if_pos hA, if_pos hA', if_pos (show l.length < 4398046511104 by omega)]
            exact Ev.now _
          · have hA' : ¬ ((rdOf ByteArray.empty (piecesV x) 0).toList = [108, 111, 97, 100] ∧ u = []) := hA
            simp only [if_neg hA, if_neg hA']
            by_cases hB : (pc x 0).toList = [117, 115, 101]
            · have hB' : (rdOf ByteArray.empty (piecesV x) 0).toList = [117, 115, 101] := hB
              simp only [if_pos hB, if_pos hB', if_pos (show u.length < 4398046511104 by omega)]
              exact Ev.now _
            · have hB' : ¬ (rdOf ByteArray.empty (piecesV x) 0).toList = [117, 115, 101] := hB
              simp only [if_neg hB, if_neg hB']
              exact Ev.now _
        · simp only [if_neg h2]; exact Ev.now _
      · simp only [if_neg h1]; exact Ev.now _
    · simp only [if_neg hw]; exact Ev.now _
  · simp only [if_neg h4]; exact Ev.now _
theorem loads_same (l : List S32) (hl : l.length ≤ 100000) : ∀ d i : Nat, i + d = l.length → Ev (fun k => api_Load.l0 k l l (l.length : Int) (i : Int)) true := by
  intro d
  induction d with
  | zero =>
    intro i hi
    refine Ev.step (fun k => api_Load.l0.eq_2 ..) ?_
    simp only [if_neg (show ¬ (i : Int) < (l.length : Int) by omega)]
    exact Ev.now _
  | succ d ih =>
    intro i hi
    refine Ev.step (fun k => api_Load.l0.eq_2 ..) ?_
    simp only [if_pos (show (i : Int) < (l.length : Int) by omega), if_pos (show (0 : Int) ≤ (i : Int) by omega), beq_self_eq_true, Bool.not_true, Bool.or_false, if_neg (show ¬ (false = true) by decide), w64 (x := (i : Int) + 1) (by omega) (by omega)]
    exact ih (i + 1) (by omega)
theorem uses_same (l : List S35) (hl : l.length ≤ 100000) : ∀ d i : Nat, i + d = l.length → Ev (fun k => api_Use.l0 k l l (l.length : Int) (i : Int)) true := by
  intro d
  induction d with
  | zero =>
    intro i hi
    refine Ev.step (fun k => api_Use.l0.eq_2 ..) ?_
    simp only [if_neg (show ¬ (i : Int) < (l.length : Int) by omega)]
    exact Ev.now _
  | succ d ih =>
    intro i hi
    refine Ev.step (fun k => api_Use.l0.eq_2 ..) ?_
    simp only [if_pos (show (i : Int) < (l.length : Int) by omega), if_pos (show (0 : Int) ≤ (i : Int) by omega), beq_self_eq_true, Bool.not_true, Bool.or_false, if_neg (show ¬ (false = true) by decide), w64 (x := (i : Int) + 1) (by omega) (by omega)]
    exact ih (i + 1) (by omega)
theorem api_Load_ev (l : List S32) (hl : l.length ≤ 100000) : Ev (fun k => api_Load.f k l l) true := by
  unfold api_Load.f
  simp only [if_true]
  exact loads_same l hl _ 0 (Nat.zero_add _)
theorem api_Use_ev (l : List S35) (hl : l.length ≤ 100000) : Ev (fun k => api_Use.f k l l) true := by
  unfold api_Use.f
  simp only [if_true]
  exact uses_same l hl _ 0 (Nat.zero_add _)
end Go.Proofs.YtplcdpiggpkppaaDoor.Q
