-- Made by wip/tools/claimp.py of this session's texts; Lean checks it.
import Derived.Test.YtplcdpiggpkppaaC12Q0
import Derived.Test.YtplcdpiggpkppaaC12Ge13
import Derived.Test.YtplcdpiggpkppaaC12Ge19
import Derived.Test.YtplcdpiggpkppaaC12Ge3
import Derived.Test.YtplcdpiggpkppaaC12Ge8
namespace Go.Proofs.Ytplcdpiggpkppaa.Q
open Go.RowKit Go.Proofs.YtplcdpiggpkppaaW.PrintWords Go.Proofs.YtplcdpiggpkppaaW.PrintLast Go.Proofs.YtplcdpiggpkppaaW.PrintMore
attribute [local go_sem] max2_int min2_int max_two min_two max_three min_three max_four min_four
open Go.Proofs.Ytplcdpiggpkppaa.Base
attribute [local go_sem high] str_leq str_gtr str_geq
set_option linter.unusedVariables false
set_option linter.unusedSimpArgs false
mutual
def power_shed.l0 : Nat → List (S76) → List (S47) → Int → Int → Int → List (S47) → Int → Int → Option (Int)
  | 0, _, _, _, _, _, _, _, _ => none
  | k + 1, x0, x1, x2, x7, x8, x15, x16, x17 => if x17 < x16 then (if 0 ≤ x17 then (if x17 < (x15.length : Int) then (if ((rd_T47 x15 x17).f1) ≥ x2 then (power_shed.l0 k x0 x1 x2 x7 x8 x15 x16 (wrap64 (x17 + 1))) else ((power_load.f k x0 ((rd_T47 x15 x17).f0)).bind fun bt103 => (if x7 < 0 then (power_shed.j1 k x0 x1 x2 x7 x8 x17 true x15 x16 x17 ((rd_T47 x15 x17).f0) ((rd_T47 x15 x17).f1) ((rd_T47 x15 x17).f2) bt103.1 bt103.2.1 bt103.2.2.1) else (power_shed.j1 k x0 x1 x2 x7 x8 x17 (decide (bt103.2.2.1 < x8)) x15 x16 x17 ((rd_T47 x15 x17).f0) ((rd_T47 x15 x17).f1) ((rd_T47 x15 x17).f2) bt103.1 bt103.2.1 bt103.2.2.1)))) else (none)) else (none)) else (some x7)
def power_shed.j1 : Nat → List (S76) → List (S47) → Int → Int → Int → Int → Bool → List (S47) → Int → Int → ByteArray → Int → Int → ByteArray → Int → Int → Option (Int)
  | 0, _, _, _, _, _, _, _, _, _, _, _, _, _, _, _, _ => none
  | k + 1, x0, x1, x2, x7, x8, x9, x13, x15, x16, x17, x103000, x103001, x103002, x108000, x108001, x108002 => if x13 = true then (power_shed.j2 k x0 x1 x2 x7 x8 x9 x13 x15 x16 x17 false x103000 x103001 x103002 x108000 x108001 x108002) else (power_shed.j2 k x0 x1 x2 x7 x8 x9 x13 x15 x16 x17 (x108002 == x8) x103000 x103001 x103002 x108000 x108001 x108002)
def power_shed.j2 : Nat → List (S76) → List (S47) → Int → Int → Int → Int → Bool → List (S47) → Int → Int → Bool → ByteArray → Int → Int → ByteArray → Int → Int → Option (Int)
  | 0, _, _, _, _, _, _, _, _, _, _, _, _, _, _, _, _, _ => none
  | k + 1, x0, x1, x2, x7, x8, x9, x13, x15, x16, x17, x48, x103000, x103001, x103002, x108000, x108001, x108002 => if x48 = true then (if 0 ≤ x7 then (if x7 < (x1.length : Int) then (if x103001 > ((rd_T47 x1 x7).f1) then (power_shed.l0 k x0 x1 x2 x9 x108002 x15 x16 (wrap64 (x17 + 1))) else (if x103001 = ((rd_T47 x1 x7).f1) then (if (Op.bytesLess x103000.toList (((rd_T47 x1 x7).f0).toList)) = true then (power_shed.l0 k x0 x1 x2 x9 x108002 x15 x16 (wrap64 (x17 + 1))) else (power_shed.l0 k x0 x1 x2 x7 x8 x15 x16 (wrap64 (x17 + 1)))) else (power_shed.l0 k x0 x1 x2 x7 x8 x15 x16 (wrap64 (x17 + 1))))) else (none)) else (none)) else (if x13 = true then (power_shed.l0 k x0 x1 x2 x9 x108002 x15 x16 (wrap64 (x17 + 1))) else (power_shed.l0 k x0 x1 x2 x7 x8 x15 x16 (wrap64 (x17 + 1))))
end
theorem api_Use_82.zero : ∀ w : World, (zeroValue 47).run Try.prog w = .ok (.agg #[.string ByteArray.empty, .int .i64 0, .int .i64 0]) w := fun w => by kernel_rfl
theorem api_Use_82.info : (Try.prog.info? 47).map (·.size) = some 3 := by kernel_rfl
end Go.Proofs.Ytplcdpiggpkppaa.Q
