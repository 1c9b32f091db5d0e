/- Kept answers as the reference does, with all errors: for all batteries, suns, loads, uses and moments. -/
-- Made by wip/tools/claimp.py of this session's texts; Lean checks it.
import Derived.Test.YtplcdpiggpkppaaC7PowS
import Derived.Test.YtplcdpiggpkppaaC7StPowerKeptMatchesSpec
import Derived.Test.YtplcdpiggpkppaaC7Ge17
set_option linter.unusedVariables false
set_option linter.unusedSimpArgs false
namespace Go.Proofs.Ytplcdpiggpkppaa.Q
open Go.RowKit Go.Proofs.YtplcdpiggpkppaaW.PrintWords Go.Proofs.YtplcdpiggpkppaaW.PrintLast Go.Proofs.YtplcdpiggpkppaaW.PrintMore Go.Proofs.Ytplcdpiggpkppaa.Base
theorem equal_ints (l : List Int) (hl : (l.length : Int) ≤ 9000000000000000) : Ev (fun k => slices_Equal_int_int.f k l l) true := by
  simp only [slices_Equal_int_int.f, if_true]
  refine Ev.loop (L := fun k i => slices_Equal_int_int.l0 k l l (l.length : Int) (i : Int)) (v := fun _ => true) l.length ?_ ?_ l.length 0 (by omega)
  · refine Ev.step (fun k => slices_Equal_int_int.l0.eq_2 ..) ?_
    simp only [if_neg (show ¬ (l.length : Int) < l.length by omega)]
    exact Ev.now _
  · intro i hi ih
    refine Ev.step (fun k => slices_Equal_int_int.l0.eq_2 ..) ?_
    simp only [if_pos (show (i : Int) < l.length by omega), if_pos (show (0 : Int) ≤ i by omega), w64 (x := (i : Int) + 1) (by omega) (by omega), if_true]
    exact ih
theorem PowerKeptMatchesSpec_pure : perigeelaw9_PowerKeptMatchesSpec.Pure := by
  intro c s l u n _ _ _ _ _
  obtain ⟨r, lv, sn, bs, fl⟩ := c
  refine Ev.rounds ?_
  simp only [perigeelaw9_PowerKeptMatchesSpec.f]
  refine Ev.bind (power_Kept_ev r lv sn bs fl s l u n) ?_
  refine Ev.bind (ref_Kept_ev r lv sn bs fl s l u n) ?_
  simp only [if_true]
  have hlen : ((KeptV r lv sn bs fl s l u n).1.length : Int) ≤ 9000000000000000 := by
    unfold KeptV
    split
    · split
      · show ((0 : Nat) : Int) ≤ _; omega
      · rename_i h1
        have := runK_len (r := r) (lv := lv) (sn := sn) (bs := bs) (fl := fl) (s := s) (l := l) (u := u) (n := n) (shl .i64 1 (u.length : Int)).toNat 0 ([], 0) (Nat.zero_le _)
        show ((runK r lv sn bs fl s l u n (shl .i64 1 (u.length : Int)).toNat 0 ([], 0)).1.length : Int) ≤ _
        omega
    · show ((0 : Nat) : Int) ≤ _; omega
  refine Ev.bind (equal_ints _ hlen) ?_
  simp only [if_true]
  refine Ev.bind awake_ev ?_
  exact Ev.now _
end Go.Proofs.Ytplcdpiggpkppaa.Q
namespace Go.Proofs.Ytplcdpiggpkppaa.Pure
theorem PowerKeptMatchesSpec : Q.perigeelaw9_PowerKeptMatchesSpec.Pure := Q.PowerKeptMatchesSpec_pure
end Go.Proofs.Ytplcdpiggpkppaa.Pure
