/-
  No cell of these rows narrows 'for every input' (looked for: loops, veiled, ifaces, maps, wideKeys, modest, calm, conditions, laid).
  DERIVED. THE GIVEN ROWS OF THIS SEAT. 12 by the template 'for every input the law returns true; each argument reads behind the call as it read before'; 0 by the template 'total and deterministic' (their statements: YtplcdpiggpkppaaTotals.lean).
  GIVEN WITH THE SEED: the statements are not yours to turn. If you find one false, say at which input.
  Laid BY PROGRAM, IN A SANDBOX (cutbox-rows.mjs): the forced cells as the released guide's own fill.sh prints them over the translation 458d22a1c42b973b… (all of the seat's roots in one cut). By AI agents, Wed Nov 11 2026. No macro, syntax, notation, axiom, sorry.
-/
import Derived.Test.YtplcdpiggpkppaaChecked
import GoSem.Claim
import GoSem.ClaimJoined
import GoSem.ClaimMapViews
import Derived.JoinedTies
import Derived.KernelRfl
namespace Go.Proofs.Ytplcdpiggpkppaa
/- THE CELL 'sum', in the pinned program and in every row, IS THE sha256 OF THE DUMP (.gsa) THAT YtplcdpiggpkppaaProg.lean LOADS. Nothing in Lean hashes anything: it is a label: what it is worth is what the hold of that sum in a sandbox is worth. -/
noncomputable def Try.pinned : Pinned := { name := "ytplcdpiggpkppaa", sum := "458d22a1c42b973bcfa873d62832b85b0f04ca349cda35abc68f2ac9f6a1a0c7", checked := Try.checked }
namespace Rows
def none {H : Type} : Left H := { results := [], args := [] }

/-- 'perigeelaw9.PowerChecksMatchSpec': WHATEVER THE INPUT: true; the input reads as it did. -/
def powerChecksMatchSpecSpec : ChangeSpec := { name := "powerChecksMatchSpec", fn := fun _ => fun
  | [d1, d2, d3, d4, d5, d6] => { results := [.lit (.bool true)], args := [d1, d2, d3, d4, d5, d6] }
  | _ => none }
def powerChecksMatchSpecRow : OpenClaim := { program := "ytplcdpiggpkppaa", sum := "458d22a1c42b973bcfa873d62832b85b0f04ca349cda35abc68f2ac9f6a1a0c7", func := "perigee/perigeelaw9.PowerChecksMatchSpec", spec := "powerChecksMatchSpec", inPlace := ["internal/bytealg.abigen_runtime_cmpstring"], unfollowed := true, recurses := true, apart := false }
def PowerChecksMatchSpecSaid : Prop := powerChecksMatchSpecRow.holds Try.pinned (OpenSpec.ofChange powerChecksMatchSpecSpec)

/-- ITS FALSE NEIGHBOUR: 'it returns false'. Refute it at one input. -/
def powerChecksMatchSpecWrong : ChangeSpec := { name := "powerChecksMatchSpec", fn := fun _ => fun
  | [d1, d2, d3, d4, d5, d6] => { results := [.lit (.bool false)], args := [d1, d2, d3, d4, d5, d6] }
  | _ => none }
def PowerChecksMatchSpecWrongFalsely : Prop := powerChecksMatchSpecRow.holds Try.pinned (OpenSpec.ofChange powerChecksMatchSpecWrong)

/-- 'perigeelaw9.PowerMillisecondByMillisecond': WHATEVER THE INPUT: true; the input reads as it did. -/
def powerMillisecondByMillisecondSpec : ChangeSpec := { name := "powerMillisecondByMillisecond", fn := fun _ => fun
  | [d1, d2, d3, d4, d5] => { results := [.lit (.bool true)], args := [d1, d2, d3, d4, d5] }
  | _ => none }
def powerMillisecondByMillisecondRow : OpenClaim := { program := "ytplcdpiggpkppaa", sum := "458d22a1c42b973bcfa873d62832b85b0f04ca349cda35abc68f2ac9f6a1a0c7", func := "perigee/perigeelaw9.PowerMillisecondByMillisecond", spec := "powerMillisecondByMillisecond", inPlace := ["internal/bytealg.abigen_runtime_cmpstring"], unfollowed := true, recurses := true, apart := false }
def PowerMillisecondByMillisecondSaid : Prop := powerMillisecondByMillisecondRow.holds Try.pinned (OpenSpec.ofChange powerMillisecondByMillisecondSpec)

/-- ITS FALSE NEIGHBOUR: 'it returns false'. Refute it at one input. -/
def powerMillisecondByMillisecondWrong : ChangeSpec := { name := "powerMillisecondByMillisecond", fn := fun _ => fun
  | [d1, d2, d3, d4, d5] => { results := [.lit (.bool false)], args := [d1, d2, d3, d4, d5] }
  | _ => none }
def PowerMillisecondByMillisecondWrongFalsely : Prop := powerMillisecondByMillisecondRow.holds Try.pinned (OpenSpec.ofChange powerMillisecondByMillisecondWrong)

/-- 'perigeelaw9.PowerFewerUsesLeaveMore': WHATEVER THE INPUT: true; the input reads as it did. -/
def powerFewerUsesLeaveMoreSpec : ChangeSpec := { name := "powerFewerUsesLeaveMore", fn := fun _ => fun
  | [d1, d2, d3, d4, d5, d6] => { results := [.lit (.bool true)], args := [d1, d2, d3, d4, d5, d6] }
  | _ => none }
def powerFewerUsesLeaveMoreRow : OpenClaim := { program := "ytplcdpiggpkppaa", sum := "458d22a1c42b973bcfa873d62832b85b0f04ca349cda35abc68f2ac9f6a1a0c7", func := "perigee/perigeelaw9.PowerFewerUsesLeaveMore", spec := "powerFewerUsesLeaveMore", inPlace := ["internal/bytealg.abigen_runtime_cmpstring"], unfollowed := true, recurses := true, apart := false }
def PowerFewerUsesLeaveMoreSaid : Prop := powerFewerUsesLeaveMoreRow.holds Try.pinned (OpenSpec.ofChange powerFewerUsesLeaveMoreSpec)

/-- ITS FALSE NEIGHBOUR: 'it returns false'. Refute it at one input. -/
def powerFewerUsesLeaveMoreWrong : ChangeSpec := { name := "powerFewerUsesLeaveMore", fn := fun _ => fun
  | [d1, d2, d3, d4, d5, d6] => { results := [.lit (.bool false)], args := [d1, d2, d3, d4, d5, d6] }
  | _ => none }
def PowerFewerUsesLeaveMoreWrongFalsely : Prop := powerFewerUsesLeaveMoreRow.holds Try.pinned (OpenSpec.ofChange powerFewerUsesLeaveMoreWrong)

/-- 'perigeelaw9.PowerFollowMatchesSpec': WHATEVER THE INPUT: true; the input reads as it did. -/
def powerFollowMatchesSpecSpec : ChangeSpec := { name := "powerFollowMatchesSpec", fn := fun _ => fun
  | [d1, d2, d3, d4, d5] => { results := [.lit (.bool true)], args := [d1, d2, d3, d4, d5] }
  | _ => none }
def powerFollowMatchesSpecRow : OpenClaim := { program := "ytplcdpiggpkppaa", sum := "458d22a1c42b973bcfa873d62832b85b0f04ca349cda35abc68f2ac9f6a1a0c7", func := "perigee/perigeelaw9.PowerFollowMatchesSpec", spec := "powerFollowMatchesSpec", inPlace := ["internal/bytealg.abigen_runtime_cmpstring"], unfollowed := true, recurses := true, apart := false }
def PowerFollowMatchesSpecSaid : Prop := powerFollowMatchesSpecRow.holds Try.pinned (OpenSpec.ofChange powerFollowMatchesSpecSpec)

/-- ITS FALSE NEIGHBOUR: 'it returns false'. Refute it at one input. -/
def powerFollowMatchesSpecWrong : ChangeSpec := { name := "powerFollowMatchesSpec", fn := fun _ => fun
  | [d1, d2, d3, d4, d5] => { results := [.lit (.bool false)], args := [d1, d2, d3, d4, d5] }
  | _ => none }
def PowerFollowMatchesSpecWrongFalsely : Prop := powerFollowMatchesSpecRow.holds Try.pinned (OpenSpec.ofChange powerFollowMatchesSpecWrong)

/-- 'perigeelaw9.PowerLeastIsEnough': WHATEVER THE INPUT: true; the input reads as it did. -/
def powerLeastIsEnoughSpec : ChangeSpec := { name := "powerLeastIsEnough", fn := fun _ => fun
  | [d1, d2, d3, d4, d5] => { results := [.lit (.bool true)], args := [d1, d2, d3, d4, d5] }
  | _ => none }
def powerLeastIsEnoughRow : OpenClaim := { program := "ytplcdpiggpkppaa", sum := "458d22a1c42b973bcfa873d62832b85b0f04ca349cda35abc68f2ac9f6a1a0c7", func := "perigee/perigeelaw9.PowerLeastIsEnough", spec := "powerLeastIsEnough", inPlace := ["internal/bytealg.abigen_runtime_cmpstring"], unfollowed := true, recurses := true, apart := false }
def PowerLeastIsEnoughSaid : Prop := powerLeastIsEnoughRow.holds Try.pinned (OpenSpec.ofChange powerLeastIsEnoughSpec)

/-- ITS FALSE NEIGHBOUR: 'it returns false'. Refute it at one input. -/
def powerLeastIsEnoughWrong : ChangeSpec := { name := "powerLeastIsEnough", fn := fun _ => fun
  | [d1, d2, d3, d4, d5] => { results := [.lit (.bool false)], args := [d1, d2, d3, d4, d5] }
  | _ => none }
def PowerLeastIsEnoughWrongFalsely : Prop := powerLeastIsEnoughRow.holds Try.pinned (OpenSpec.ofChange powerLeastIsEnoughWrong)

/-- 'perigeelaw9.PowerTogetherMatchesSpec': WHATEVER THE INPUT: true; the input reads as it did. -/
def powerTogetherMatchesSpecSpec : ChangeSpec := { name := "powerTogetherMatchesSpec", fn := fun _ => fun
  | [d1, d2, d3] => { results := [.lit (.bool true)], args := [d1, d2, d3] }
  | _ => none }
def powerTogetherMatchesSpecRow : OpenClaim := { program := "ytplcdpiggpkppaa", sum := "458d22a1c42b973bcfa873d62832b85b0f04ca349cda35abc68f2ac9f6a1a0c7", func := "perigee/perigeelaw9.PowerTogetherMatchesSpec", spec := "powerTogetherMatchesSpec", inPlace := ["internal/bytealg.abigen_runtime_cmpstring"], unfollowed := true, recurses := true, apart := false }
def PowerTogetherMatchesSpecSaid : Prop := powerTogetherMatchesSpecRow.holds Try.pinned (OpenSpec.ofChange powerTogetherMatchesSpecSpec)

/-- ITS FALSE NEIGHBOUR: 'it returns false'. Refute it at one input. -/
def powerTogetherMatchesSpecWrong : ChangeSpec := { name := "powerTogetherMatchesSpec", fn := fun _ => fun
  | [d1, d2, d3] => { results := [.lit (.bool false)], args := [d1, d2, d3] }
  | _ => none }
def PowerTogetherMatchesSpecWrongFalsely : Prop := powerTogetherMatchesSpecRow.holds Try.pinned (OpenSpec.ofChange powerTogetherMatchesSpecWrong)

/-- 'perigeelaw9.PowerLowestIsLowest': WHATEVER THE INPUT: true; the input reads as it did. -/
def powerLowestIsLowestSpec : ChangeSpec := { name := "powerLowestIsLowest", fn := fun _ => fun
  | [d1, d2, d3, d4, d5, d6] => { results := [.lit (.bool true)], args := [d1, d2, d3, d4, d5, d6] }
  | _ => none }
def powerLowestIsLowestRow : OpenClaim := { program := "ytplcdpiggpkppaa", sum := "458d22a1c42b973bcfa873d62832b85b0f04ca349cda35abc68f2ac9f6a1a0c7", func := "perigee/perigeelaw9.PowerLowestIsLowest", spec := "powerLowestIsLowest", inPlace := ["internal/bytealg.abigen_runtime_cmpstring"], unfollowed := true, recurses := true, apart := false }
def PowerLowestIsLowestSaid : Prop := powerLowestIsLowestRow.holds Try.pinned (OpenSpec.ofChange powerLowestIsLowestSpec)

/-- ITS FALSE NEIGHBOUR: 'it returns false'. Refute it at one input. -/
def powerLowestIsLowestWrong : ChangeSpec := { name := "powerLowestIsLowest", fn := fun _ => fun
  | [d1, d2, d3, d4, d5, d6] => { results := [.lit (.bool false)], args := [d1, d2, d3, d4, d5, d6] }
  | _ => none }
def PowerLowestIsLowestWrongFalsely : Prop := powerLowestIsLowestRow.holds Try.pinned (OpenSpec.ofChange powerLowestIsLowestWrong)

/-- 'perigeelaw9.PowerLevelsMatchSpec': WHATEVER THE INPUT: true; the input reads as it did. -/
def powerLevelsMatchSpecSpec : ChangeSpec := { name := "powerLevelsMatchSpec", fn := fun _ => fun
  | [d1, d2, d3, d4, d5] => { results := [.lit (.bool true)], args := [d1, d2, d3, d4, d5] }
  | _ => none }
def powerLevelsMatchSpecRow : OpenClaim := { program := "ytplcdpiggpkppaa", sum := "458d22a1c42b973bcfa873d62832b85b0f04ca349cda35abc68f2ac9f6a1a0c7", func := "perigee/perigeelaw9.PowerLevelsMatchSpec", spec := "powerLevelsMatchSpec", inPlace := ["internal/bytealg.abigen_runtime_cmpstring"], unfollowed := true, recurses := true, apart := false }
def PowerLevelsMatchSpecSaid : Prop := powerLevelsMatchSpecRow.holds Try.pinned (OpenSpec.ofChange powerLevelsMatchSpecSpec)

/-- ITS FALSE NEIGHBOUR: 'it returns false'. Refute it at one input. -/
def powerLevelsMatchSpecWrong : ChangeSpec := { name := "powerLevelsMatchSpec", fn := fun _ => fun
  | [d1, d2, d3, d4, d5] => { results := [.lit (.bool false)], args := [d1, d2, d3, d4, d5] }
  | _ => none }
def PowerLevelsMatchSpecWrongFalsely : Prop := powerLevelsMatchSpecRow.holds Try.pinned (OpenSpec.ofChange powerLevelsMatchSpecWrong)

/-- 'perigeelaw9.PowerLeastMatchesSpec': WHATEVER THE INPUT: true; the input reads as it did. -/
def powerLeastMatchesSpecSpec : ChangeSpec := { name := "powerLeastMatchesSpec", fn := fun _ => fun
  | [d1, d2, d3, d4, d5, d6, d7] => { results := [.lit (.bool true)], args := [d1, d2, d3, d4, d5, d6, d7] }
  | _ => none }
def powerLeastMatchesSpecRow : OpenClaim := { program := "ytplcdpiggpkppaa", sum := "458d22a1c42b973bcfa873d62832b85b0f04ca349cda35abc68f2ac9f6a1a0c7", func := "perigee/perigeelaw9.PowerLeastMatchesSpec", spec := "powerLeastMatchesSpec", inPlace := ["internal/bytealg.abigen_runtime_cmpstring"], unfollowed := true, recurses := true, apart := false }
def PowerLeastMatchesSpecSaid : Prop := powerLeastMatchesSpecRow.holds Try.pinned (OpenSpec.ofChange powerLeastMatchesSpecSpec)

/-- ITS FALSE NEIGHBOUR: 'it returns false'. Refute it at one input. -/
def powerLeastMatchesSpecWrong : ChangeSpec := { name := "powerLeastMatchesSpec", fn := fun _ => fun
  | [d1, d2, d3, d4, d5, d6, d7] => { results := [.lit (.bool false)], args := [d1, d2, d3, d4, d5, d6, d7] }
  | _ => none }
def PowerLeastMatchesSpecWrongFalsely : Prop := powerLeastMatchesSpecRow.holds Try.pinned (OpenSpec.ofChange powerLeastMatchesSpecWrong)

/-- 'perigeelaw9.PowerShedMatchesSpec': WHATEVER THE INPUT: true; the input reads as it did. -/
def powerShedMatchesSpecSpec : ChangeSpec := { name := "powerShedMatchesSpec", fn := fun _ => fun
  | [d1, d2, d3, d4, d5] => { results := [.lit (.bool true)], args := [d1, d2, d3, d4, d5] }
  | _ => none }
def powerShedMatchesSpecRow : OpenClaim := { program := "ytplcdpiggpkppaa", sum := "458d22a1c42b973bcfa873d62832b85b0f04ca349cda35abc68f2ac9f6a1a0c7", func := "perigee/perigeelaw9.PowerShedMatchesSpec", spec := "powerShedMatchesSpec", inPlace := ["internal/bytealg.abigen_runtime_cmpstring"], unfollowed := true, recurses := true, apart := false }
def PowerShedMatchesSpecSaid : Prop := powerShedMatchesSpecRow.holds Try.pinned (OpenSpec.ofChange powerShedMatchesSpecSpec)

/-- ITS FALSE NEIGHBOUR: 'it returns false'. Refute it at one input. -/
def powerShedMatchesSpecWrong : ChangeSpec := { name := "powerShedMatchesSpec", fn := fun _ => fun
  | [d1, d2, d3, d4, d5] => { results := [.lit (.bool false)], args := [d1, d2, d3, d4, d5] }
  | _ => none }
def PowerShedMatchesSpecWrongFalsely : Prop := powerShedMatchesSpecRow.holds Try.pinned (OpenSpec.ofChange powerShedMatchesSpecWrong)

/-- 'perigeelaw9.PowerKeptMatchesSpec': WHATEVER THE INPUT: true; the input reads as it did. -/
def powerKeptMatchesSpecSpec : ChangeSpec := { name := "powerKeptMatchesSpec", fn := fun _ => fun
  | [d1, d2, d3, d4, d5] => { results := [.lit (.bool true)], args := [d1, d2, d3, d4, d5] }
  | _ => none }
def powerKeptMatchesSpecRow : OpenClaim := { program := "ytplcdpiggpkppaa", sum := "458d22a1c42b973bcfa873d62832b85b0f04ca349cda35abc68f2ac9f6a1a0c7", func := "perigee/perigeelaw9.PowerKeptMatchesSpec", spec := "powerKeptMatchesSpec", inPlace := ["internal/bytealg.abigen_runtime_cmpstring"], unfollowed := true, recurses := true, apart := false }
def PowerKeptMatchesSpecSaid : Prop := powerKeptMatchesSpecRow.holds Try.pinned (OpenSpec.ofChange powerKeptMatchesSpecSpec)

/-- ITS FALSE NEIGHBOUR: 'it returns false'. Refute it at one input. -/
def powerKeptMatchesSpecWrong : ChangeSpec := { name := "powerKeptMatchesSpec", fn := fun _ => fun
  | [d1, d2, d3, d4, d5] => { results := [.lit (.bool false)], args := [d1, d2, d3, d4, d5] }
  | _ => none }
def PowerKeptMatchesSpecWrongFalsely : Prop := powerKeptMatchesSpecRow.holds Try.pinned (OpenSpec.ofChange powerKeptMatchesSpecWrong)

/-- 'perigeelaw9.PowerKeptIsWorthMost': WHATEVER THE INPUT: true; the input reads as it did. -/
def powerKeptIsWorthMostSpec : ChangeSpec := { name := "powerKeptIsWorthMost", fn := fun _ => fun
  | [d1, d2, d3, d4, d5] => { results := [.lit (.bool true)], args := [d1, d2, d3, d4, d5] }
  | _ => none }
def powerKeptIsWorthMostRow : OpenClaim := { program := "ytplcdpiggpkppaa", sum := "458d22a1c42b973bcfa873d62832b85b0f04ca349cda35abc68f2ac9f6a1a0c7", func := "perigee/perigeelaw9.PowerKeptIsWorthMost", spec := "powerKeptIsWorthMost", inPlace := ["internal/bytealg.abigen_runtime_cmpstring"], unfollowed := true, recurses := true, apart := false }
def PowerKeptIsWorthMostSaid : Prop := powerKeptIsWorthMostRow.holds Try.pinned (OpenSpec.ofChange powerKeptIsWorthMostSpec)

/-- ITS FALSE NEIGHBOUR: 'it returns false'. Refute it at one input. -/
def powerKeptIsWorthMostWrong : ChangeSpec := { name := "powerKeptIsWorthMost", fn := fun _ => fun
  | [d1, d2, d3, d4, d5] => { results := [.lit (.bool false)], args := [d1, d2, d3, d4, d5] }
  | _ => none }
def PowerKeptIsWorthMostWrongFalsely : Prop := powerKeptIsWorthMostRow.holds Try.pinned (OpenSpec.ofChange powerKeptIsWorthMostWrong)

/- THE SECOND FORM. 'bulk': how many values and letters a reading holds, each counted each time it is reached (what is shared counts as often as it is met; a slice's spare places count too). A statement '..UptoSaid' is the law's where the arguments, and the package variables that the reading takes, are together of bulk at most 1048576: NARROWER than '..Said'. Prove '..Said' where nothing that the law and all that it calls make is longer than what came in: it says more and counts as full. Else prove '..UptoSaid'. A law counts once. -/
mutual
def uptoBulk {H : Type} : DataW H → Nat
  | .lit (.string bytes) => bytes.length + 1
  | .lit _ => 1
  | .nil => 1
  | .ptr d => uptoBulk d + 1
  | .slice elems spare => uptoBulkAll elems + uptoBulkAll spare + 1
  | .agg parts => uptoBulkAll parts + 1
  | .iface _ d => uptoBulk d + 1
  | .map entries => uptoBulkEntries entries + 1
  | .held _ => 1
def uptoBulkAll {H : Type} : List (DataW H) → Nat
  | [] => 0
  | d :: r => uptoBulk d + uptoBulkAll r
def uptoBulkEntries {H : Type} : List (Lit × DataW H) → Nat
  | [] => 0
  | x :: r => uptoBulkEntry x + uptoBulkEntries r
def uptoBulkEntry {H : Type} : Lit × DataW H → Nat
  | (.string bytes, d) => bytes.length + uptoBulk d + 1
  | (_, d) => uptoBulk d + 1
 end
def uptoSmall : (H : Type) → List (DataW H) → Bool := fun _ ds => decide (uptoBulkAll ds ≤ 1048576)
def OpenSpec.upto (s : _root_.Go.ChangeSpec) : _root_.Go.OpenSpec := { _root_.Go.OpenSpec.ofChange s with cond := some uptoSmall }

/-- 'perigeelaw9.PowerChecksMatchSpec', WHERE WHAT IT READS IS OF BULK AT MOST 1048576: true; the input reads as it did. -/
def powerChecksMatchSpecUptoRow : OpenClaim := { program := "ytplcdpiggpkppaa", sum := "458d22a1c42b973bcfa873d62832b85b0f04ca349cda35abc68f2ac9f6a1a0c7", func := "perigee/perigeelaw9.PowerChecksMatchSpec", spec := "powerChecksMatchSpec", inPlace := ["internal/bytealg.abigen_runtime_cmpstring"], unfollowed := true, recurses := true, apart := false, narrowed := true }
def PowerChecksMatchSpecUptoSaid : Prop := powerChecksMatchSpecUptoRow.holds Try.pinned (OpenSpec.upto powerChecksMatchSpecSpec)

/-- 'perigeelaw9.PowerMillisecondByMillisecond', WHERE WHAT IT READS IS OF BULK AT MOST 1048576: true; the input reads as it did. -/
def powerMillisecondByMillisecondUptoRow : OpenClaim := { program := "ytplcdpiggpkppaa", sum := "458d22a1c42b973bcfa873d62832b85b0f04ca349cda35abc68f2ac9f6a1a0c7", func := "perigee/perigeelaw9.PowerMillisecondByMillisecond", spec := "powerMillisecondByMillisecond", inPlace := ["internal/bytealg.abigen_runtime_cmpstring"], unfollowed := true, recurses := true, apart := false, narrowed := true }
def PowerMillisecondByMillisecondUptoSaid : Prop := powerMillisecondByMillisecondUptoRow.holds Try.pinned (OpenSpec.upto powerMillisecondByMillisecondSpec)

/-- 'perigeelaw9.PowerFewerUsesLeaveMore', WHERE WHAT IT READS IS OF BULK AT MOST 1048576: true; the input reads as it did. -/
def powerFewerUsesLeaveMoreUptoRow : OpenClaim := { program := "ytplcdpiggpkppaa", sum := "458d22a1c42b973bcfa873d62832b85b0f04ca349cda35abc68f2ac9f6a1a0c7", func := "perigee/perigeelaw9.PowerFewerUsesLeaveMore", spec := "powerFewerUsesLeaveMore", inPlace := ["internal/bytealg.abigen_runtime_cmpstring"], unfollowed := true, recurses := true, apart := false, narrowed := true }
def PowerFewerUsesLeaveMoreUptoSaid : Prop := powerFewerUsesLeaveMoreUptoRow.holds Try.pinned (OpenSpec.upto powerFewerUsesLeaveMoreSpec)

/-- 'perigeelaw9.PowerFollowMatchesSpec', WHERE WHAT IT READS IS OF BULK AT MOST 1048576: true; the input reads as it did. -/
def powerFollowMatchesSpecUptoRow : OpenClaim := { program := "ytplcdpiggpkppaa", sum := "458d22a1c42b973bcfa873d62832b85b0f04ca349cda35abc68f2ac9f6a1a0c7", func := "perigee/perigeelaw9.PowerFollowMatchesSpec", spec := "powerFollowMatchesSpec", inPlace := ["internal/bytealg.abigen_runtime_cmpstring"], unfollowed := true, recurses := true, apart := false, narrowed := true }
def PowerFollowMatchesSpecUptoSaid : Prop := powerFollowMatchesSpecUptoRow.holds Try.pinned (OpenSpec.upto powerFollowMatchesSpecSpec)

/-- 'perigeelaw9.PowerLeastIsEnough', WHERE WHAT IT READS IS OF BULK AT MOST 1048576: true; the input reads as it did. -/
def powerLeastIsEnoughUptoRow : OpenClaim := { program := "ytplcdpiggpkppaa", sum := "458d22a1c42b973bcfa873d62832b85b0f04ca349cda35abc68f2ac9f6a1a0c7", func := "perigee/perigeelaw9.PowerLeastIsEnough", spec := "powerLeastIsEnough", inPlace := ["internal/bytealg.abigen_runtime_cmpstring"], unfollowed := true, recurses := true, apart := false, narrowed := true }
def PowerLeastIsEnoughUptoSaid : Prop := powerLeastIsEnoughUptoRow.holds Try.pinned (OpenSpec.upto powerLeastIsEnoughSpec)

/-- 'perigeelaw9.PowerTogetherMatchesSpec', WHERE WHAT IT READS IS OF BULK AT MOST 1048576: true; the input reads as it did. -/
def powerTogetherMatchesSpecUptoRow : OpenClaim := { program := "ytplcdpiggpkppaa", sum := "458d22a1c42b973bcfa873d62832b85b0f04ca349cda35abc68f2ac9f6a1a0c7", func := "perigee/perigeelaw9.PowerTogetherMatchesSpec", spec := "powerTogetherMatchesSpec", inPlace := ["internal/bytealg.abigen_runtime_cmpstring"], unfollowed := true, recurses := true, apart := false, narrowed := true }
def PowerTogetherMatchesSpecUptoSaid : Prop := powerTogetherMatchesSpecUptoRow.holds Try.pinned (OpenSpec.upto powerTogetherMatchesSpecSpec)

/-- 'perigeelaw9.PowerLowestIsLowest', WHERE WHAT IT READS IS OF BULK AT MOST 1048576: true; the input reads as it did. -/
def powerLowestIsLowestUptoRow : OpenClaim := { program := "ytplcdpiggpkppaa", sum := "458d22a1c42b973bcfa873d62832b85b0f04ca349cda35abc68f2ac9f6a1a0c7", func := "perigee/perigeelaw9.PowerLowestIsLowest", spec := "powerLowestIsLowest", inPlace := ["internal/bytealg.abigen_runtime_cmpstring"], unfollowed := true, recurses := true, apart := false, narrowed := true }
def PowerLowestIsLowestUptoSaid : Prop := powerLowestIsLowestUptoRow.holds Try.pinned (OpenSpec.upto powerLowestIsLowestSpec)

/-- 'perigeelaw9.PowerLevelsMatchSpec', WHERE WHAT IT READS IS OF BULK AT MOST 1048576: true; the input reads as it did. -/
def powerLevelsMatchSpecUptoRow : OpenClaim := { program := "ytplcdpiggpkppaa", sum := "458d22a1c42b973bcfa873d62832b85b0f04ca349cda35abc68f2ac9f6a1a0c7", func := "perigee/perigeelaw9.PowerLevelsMatchSpec", spec := "powerLevelsMatchSpec", inPlace := ["internal/bytealg.abigen_runtime_cmpstring"], unfollowed := true, recurses := true, apart := false, narrowed := true }
def PowerLevelsMatchSpecUptoSaid : Prop := powerLevelsMatchSpecUptoRow.holds Try.pinned (OpenSpec.upto powerLevelsMatchSpecSpec)

/-- 'perigeelaw9.PowerLeastMatchesSpec', WHERE WHAT IT READS IS OF BULK AT MOST 1048576: true; the input reads as it did. -/
def powerLeastMatchesSpecUptoRow : OpenClaim := { program := "ytplcdpiggpkppaa", sum := "458d22a1c42b973bcfa873d62832b85b0f04ca349cda35abc68f2ac9f6a1a0c7", func := "perigee/perigeelaw9.PowerLeastMatchesSpec", spec := "powerLeastMatchesSpec", inPlace := ["internal/bytealg.abigen_runtime_cmpstring"], unfollowed := true, recurses := true, apart := false, narrowed := true }
def PowerLeastMatchesSpecUptoSaid : Prop := powerLeastMatchesSpecUptoRow.holds Try.pinned (OpenSpec.upto powerLeastMatchesSpecSpec)

/-- 'perigeelaw9.PowerShedMatchesSpec', WHERE WHAT IT READS IS OF BULK AT MOST 1048576: true; the input reads as it did. -/
def powerShedMatchesSpecUptoRow : OpenClaim := { program := "ytplcdpiggpkppaa", sum := "458d22a1c42b973bcfa873d62832b85b0f04ca349cda35abc68f2ac9f6a1a0c7", func := "perigee/perigeelaw9.PowerShedMatchesSpec", spec := "powerShedMatchesSpec", inPlace := ["internal/bytealg.abigen_runtime_cmpstring"], unfollowed := true, recurses := true, apart := false, narrowed := true }
def PowerShedMatchesSpecUptoSaid : Prop := powerShedMatchesSpecUptoRow.holds Try.pinned (OpenSpec.upto powerShedMatchesSpecSpec)

/-- 'perigeelaw9.PowerKeptMatchesSpec', WHERE WHAT IT READS IS OF BULK AT MOST 1048576: true; the input reads as it did. -/
def powerKeptMatchesSpecUptoRow : OpenClaim := { program := "ytplcdpiggpkppaa", sum := "458d22a1c42b973bcfa873d62832b85b0f04ca349cda35abc68f2ac9f6a1a0c7", func := "perigee/perigeelaw9.PowerKeptMatchesSpec", spec := "powerKeptMatchesSpec", inPlace := ["internal/bytealg.abigen_runtime_cmpstring"], unfollowed := true, recurses := true, apart := false, narrowed := true }
def PowerKeptMatchesSpecUptoSaid : Prop := powerKeptMatchesSpecUptoRow.holds Try.pinned (OpenSpec.upto powerKeptMatchesSpecSpec)

/-- 'perigeelaw9.PowerKeptIsWorthMost', WHERE WHAT IT READS IS OF BULK AT MOST 1048576: true; the input reads as it did. -/
def powerKeptIsWorthMostUptoRow : OpenClaim := { program := "ytplcdpiggpkppaa", sum := "458d22a1c42b973bcfa873d62832b85b0f04ca349cda35abc68f2ac9f6a1a0c7", func := "perigee/perigeelaw9.PowerKeptIsWorthMost", spec := "powerKeptIsWorthMost", inPlace := ["internal/bytealg.abigen_runtime_cmpstring"], unfollowed := true, recurses := true, apart := false, narrowed := true }
def PowerKeptIsWorthMostUptoSaid : Prop := powerKeptIsWorthMostUptoRow.holds Try.pinned (OpenSpec.upto powerKeptIsWorthMostSpec)

end Rows
end Go.Proofs.Ytplcdpiggpkppaa
