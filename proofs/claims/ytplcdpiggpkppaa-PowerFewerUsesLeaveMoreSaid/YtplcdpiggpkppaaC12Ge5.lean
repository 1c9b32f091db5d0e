-- Made by wip/tools/claimp.py of this session's texts; Lean checks it.
import Derived.Test.YtplcdpiggpkppaaC12Q0
namespace Go.Proofs.Ytplcdpiggpkppaa.Q
open Go.RowKit Go.Proofs.YtplcdpiggpkppaaW.PrintWords Go.Proofs.YtplcdpiggpkppaaW.PrintLast Go.Proofs.YtplcdpiggpkppaaW.PrintMore
attribute [local go_sem] max2_int min2_int max_two min_two max_three min_three max_four min_four
open Go.Proofs.Ytplcdpiggpkppaa.Base
attribute [local go_sem high] str_leq str_gtr str_geq
set_option linter.unusedVariables false
set_option linter.unusedSimpArgs false
def perigeeref9_loadOf.l0 : Nat → ByteArray → List (S76) → Int → Int → Option (ByteArray × Int × Int × Bool)
  | 0, _, _, _, _ => none
  | k + 1, x1, x8, x9, x10 => if x10 < x9 then (if 0 ≤ x10 then (if x10 < (x8.length : Int) then (if ((rd_T76 x8 x10).f0).toList = x1.toList then (some ((rd_T76 x8 x10).f0, (rd_T76 x8 x10).f1, (rd_T76 x8 x10).f2, true)) else (perigeeref9_loadOf.l0 k x1 x8 x9 (wrap64 (x10 + 1)))) else (none)) else (none)) else (some ((⟨#[]⟩ : ByteArray), 0, 0, false))
def perigeeref9_loadOf.f (k : Nat) (l0 : List (S76)) (a1 : ByteArray) : Option (ByteArray × Int × Int × Bool) := perigeeref9_loadOf.l0 k a1 l0 (l0.length : Int) 0
def perigeeref9_comesAfter.f (a0_0 : ByteArray) (a0_1 : Int) (a0_2 : Int) (a1_0 : ByteArray) (a1_1 : Int) (a1_2 : Int) : Option (Bool) := if a0_1 = a1_1 then (if a0_0.toList = a1_0.toList then (some (decide (a0_2 > a1_2))) else (some (Op.bytesLess a1_0.toList a0_0.toList))) else (some (decide (a0_1 > a1_1)))
end Go.Proofs.Ytplcdpiggpkppaa.Q
