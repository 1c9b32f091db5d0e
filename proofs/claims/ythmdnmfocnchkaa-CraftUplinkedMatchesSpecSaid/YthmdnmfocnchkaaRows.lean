/-
  No cell of these rows narrows 'for every input' (looked for: loops, veiled, ifaces, maps, wideKeys, modest, calm, conditions, laid).
  DERIVED. THE GIVEN ROWS OF THIS SEAT. 6 by the template 'for every input the law returns true; each argument reads behind the call as it read before'; 0 by the template 'total and deterministic' (their statements: YthmdnmfocnchkaaTotals.lean).
  GIVEN WITH THE SEED: the statements are not yours to turn. If you find one false, say at which input.
  Laid BY PROGRAM, IN A SANDBOX (cutbox-rows.mjs): the forced cells as the released guide's own fill.sh prints them over the translation 23774599d7c35e68… (all of the seat's roots in one cut). By AI agents, Wed Nov 11 2026. No macro, syntax, notation, axiom, sorry.
-/
import Derived.Test.YthmdnmfocnchkaaChecked
import GoSem.Claim
import GoSem.ClaimJoined
import GoSem.ClaimMapViews
import Derived.JoinedTies
import Derived.KernelRfl
namespace Go.Proofs.Ythmdnmfocnchkaa
/- THE CELL 'sum', in the pinned program and in every row, IS THE sha256 OF THE DUMP (.gsa) THAT YthmdnmfocnchkaaProg.lean LOADS. Nothing in Lean hashes anything: it is a label: what it is worth is what the hold of that sum in a sandbox is worth. -/
noncomputable def Try.pinned : Pinned := { name := "ythmdnmfocnchkaa", sum := "23774599d7c35e6859c70f111cc54a8fc43613c053d849fd426e7e9fd4cbd624", checked := Try.checked }
namespace Rows
def none {H : Type} : Left H := { results := [], args := [] }

/-- 'perigeelaw12.CraftUplinkedMatchesSpec': WHATEVER THE INPUT: true; the input reads as it did. -/
def craftUplinkedMatchesSpecSpec : ChangeSpec := { name := "craftUplinkedMatchesSpec", fn := fun _ => fun
  | [d1, d2, d3, d4] => { results := [.lit (.bool true)], args := [d1, d2, d3, d4] }
  | _ => none }
def craftUplinkedMatchesSpecRow : OpenClaim := { program := "ythmdnmfocnchkaa", sum := "23774599d7c35e6859c70f111cc54a8fc43613c053d849fd426e7e9fd4cbd624", func := "perigee/perigeelaw12.CraftUplinkedMatchesSpec", spec := "craftUplinkedMatchesSpec", unfollowed := true, recurses := true, apart := false }
def CraftUplinkedMatchesSpecSaid : Prop := craftUplinkedMatchesSpecRow.holds Try.pinned (OpenSpec.ofChange craftUplinkedMatchesSpecSpec)

/-- ITS FALSE NEIGHBOUR: 'it returns false'. Refute it at one input. -/
def craftUplinkedMatchesSpecWrong : ChangeSpec := { name := "craftUplinkedMatchesSpec", fn := fun _ => fun
  | [d1, d2, d3, d4] => { results := [.lit (.bool false)], args := [d1, d2, d3, d4] }
  | _ => none }
def CraftUplinkedMatchesSpecWrongFalsely : Prop := craftUplinkedMatchesSpecRow.holds Try.pinned (OpenSpec.ofChange craftUplinkedMatchesSpecWrong)

/-- 'perigeelaw12.CatchesMergeMatchSpec': WHATEVER THE INPUT: true; the input reads as it did. -/
def catchesMergeMatchSpecSpec : ChangeSpec := { name := "catchesMergeMatchSpec", fn := fun _ => fun
  | [d1, d2] => { results := [.lit (.bool true)], args := [d1, d2] }
  | _ => none }
def catchesMergeMatchSpecRow : OpenClaim := { program := "ythmdnmfocnchkaa", sum := "23774599d7c35e6859c70f111cc54a8fc43613c053d849fd426e7e9fd4cbd624", func := "perigee/perigeelaw12.CatchesMergeMatchSpec", spec := "catchesMergeMatchSpec", inPlace := ["internal/bytealg.abigen_runtime_cmpstring"], unfollowed := true, recurses := true, apart := false }
def CatchesMergeMatchSpecSaid : Prop := catchesMergeMatchSpecRow.holds Try.pinned (OpenSpec.ofChange catchesMergeMatchSpecSpec)

/-- ITS FALSE NEIGHBOUR: 'it returns false'. Refute it at one input. -/
def catchesMergeMatchSpecWrong : ChangeSpec := { name := "catchesMergeMatchSpec", fn := fun _ => fun
  | [d1, d2] => { results := [.lit (.bool false)], args := [d1, d2] }
  | _ => none }
def CatchesMergeMatchSpecWrongFalsely : Prop := catchesMergeMatchSpecRow.holds Try.pinned (OpenSpec.ofChange catchesMergeMatchSpecWrong)

/-- 'perigeelaw12.CatchesMergeEven': WHATEVER THE INPUT: true; the input reads as it did. -/
def catchesMergeEvenSpec : ChangeSpec := { name := "catchesMergeEven", fn := fun _ => fun
  | [d1, d2] => { results := [.lit (.bool true)], args := [d1, d2] }
  | _ => none }
def catchesMergeEvenRow : OpenClaim := { program := "ythmdnmfocnchkaa", sum := "23774599d7c35e6859c70f111cc54a8fc43613c053d849fd426e7e9fd4cbd624", func := "perigee/perigeelaw12.CatchesMergeEven", spec := "catchesMergeEven", inPlace := ["internal/bytealg.abigen_runtime_cmpstring"], unfollowed := true, recurses := true, apart := false }
def CatchesMergeEvenSaid : Prop := catchesMergeEvenRow.holds Try.pinned (OpenSpec.ofChange catchesMergeEvenSpec)

/-- ITS FALSE NEIGHBOUR: 'it returns false'. Refute it at one input. -/
def catchesMergeEvenWrong : ChangeSpec := { name := "catchesMergeEven", fn := fun _ => fun
  | [d1, d2] => { results := [.lit (.bool false)], args := [d1, d2] }
  | _ => none }
def CatchesMergeEvenWrongFalsely : Prop := catchesMergeEvenRow.holds Try.pinned (OpenSpec.ofChange catchesMergeEvenWrong)

/-- 'perigeelaw12.CatchesNoTwins': WHATEVER THE INPUT: true; the input reads as it did. -/
def catchesNoTwinsSpec : ChangeSpec := { name := "catchesNoTwins", fn := fun _ => fun
  | [d1, d2] => { results := [.lit (.bool true)], args := [d1, d2] }
  | _ => none }
def catchesNoTwinsRow : OpenClaim := { program := "ythmdnmfocnchkaa", sum := "23774599d7c35e6859c70f111cc54a8fc43613c053d849fd426e7e9fd4cbd624", func := "perigee/perigeelaw12.CatchesNoTwins", spec := "catchesNoTwins", inPlace := ["internal/bytealg.abigen_runtime_cmpstring"], unfollowed := true, recurses := true, apart := false }
def CatchesNoTwinsSaid : Prop := catchesNoTwinsRow.holds Try.pinned (OpenSpec.ofChange catchesNoTwinsSpec)

/-- ITS FALSE NEIGHBOUR: 'it returns false'. Refute it at one input. -/
def catchesNoTwinsWrong : ChangeSpec := { name := "catchesNoTwins", fn := fun _ => fun
  | [d1, d2] => { results := [.lit (.bool false)], args := [d1, d2] }
  | _ => none }
def CatchesNoTwinsWrongFalsely : Prop := catchesNoTwinsRow.holds Try.pinned (OpenSpec.ofChange catchesNoTwinsWrong)

/-- 'perigeelaw12.CatchesBestHearAll': WHATEVER THE INPUT: true; the input reads as it did. -/
def catchesBestHearAllSpec : ChangeSpec := { name := "catchesBestHearAll", fn := fun _ => fun
  | [d1, d2] => { results := [.lit (.bool true)], args := [d1, d2] }
  | _ => none }
def catchesBestHearAllRow : OpenClaim := { program := "ythmdnmfocnchkaa", sum := "23774599d7c35e6859c70f111cc54a8fc43613c053d849fd426e7e9fd4cbd624", func := "perigee/perigeelaw12.CatchesBestHearAll", spec := "catchesBestHearAll", inPlace := ["internal/bytealg.abigen_runtime_cmpstring"], unfollowed := true, recurses := true, apart := false }
def CatchesBestHearAllSaid : Prop := catchesBestHearAllRow.holds Try.pinned (OpenSpec.ofChange catchesBestHearAllSpec)

/-- ITS FALSE NEIGHBOUR: 'it returns false'. Refute it at one input. -/
def catchesBestHearAllWrong : ChangeSpec := { name := "catchesBestHearAll", fn := fun _ => fun
  | [d1, d2] => { results := [.lit (.bool false)], args := [d1, d2] }
  | _ => none }
def CatchesBestHearAllWrongFalsely : Prop := catchesBestHearAllRow.holds Try.pinned (OpenSpec.ofChange catchesBestHearAllWrong)

/-- 'perigeelaw12.CatchesMatchSpec': WHATEVER THE INPUT: true; the input reads as it did. -/
def catchesMatchSpecSpec : ChangeSpec := { name := "catchesMatchSpec", fn := fun _ => fun
  | [d1, d2] => { results := [.lit (.bool true)], args := [d1, d2] }
  | _ => none }
def catchesMatchSpecRow : OpenClaim := { program := "ythmdnmfocnchkaa", sum := "23774599d7c35e6859c70f111cc54a8fc43613c053d849fd426e7e9fd4cbd624", func := "perigee/perigeelaw12.CatchesMatchSpec", spec := "catchesMatchSpec", inPlace := ["internal/bytealg.abigen_runtime_cmpstring", "slices.overlaps[perigee/api.Missing]"], unfollowed := true, recurses := true, apart := false }
def CatchesMatchSpecSaid : Prop := catchesMatchSpecRow.holds Try.pinned (OpenSpec.ofChange catchesMatchSpecSpec)

/-- ITS FALSE NEIGHBOUR: 'it returns false'. Refute it at one input. -/
def catchesMatchSpecWrong : ChangeSpec := { name := "catchesMatchSpec", fn := fun _ => fun
  | [d1, d2] => { results := [.lit (.bool false)], args := [d1, d2] }
  | _ => none }
def CatchesMatchSpecWrongFalsely : Prop := catchesMatchSpecRow.holds Try.pinned (OpenSpec.ofChange catchesMatchSpecWrong)

/- THE SECOND FORM. 'bulk': how many values and letters a reading holds, each counted each time it is reached (what is shared counts as often as it is met; a slice's spare places count too). A statement '..UptoSaid' is the law's where the arguments, and the package variables that the reading takes, are together of bulk at most 1048576: NARROWER than '..Said'. Prove '..Said' where nothing that the law and all that it calls make is longer than what came in: it says more and counts as full. Else prove '..UptoSaid'. A law counts once. -/
mutual
def uptoBulk {H : Type} : DataW H → Nat
  | .lit (.string bytes) => bytes.length + 1
  | .lit _ => 1
  | .nil => 1
  | .ptr d => uptoBulk d + 1
  | .slice elems spare => uptoBulkAll elems + uptoBulkAll spare + 1
  | .agg parts => uptoBulkAll parts + 1
  | .iface _ d => uptoBulk d + 1
  | .map entries => uptoBulkEntries entries + 1
  | .held _ => 1
def uptoBulkAll {H : Type} : List (DataW H) → Nat
  | [] => 0
  | d :: r => uptoBulk d + uptoBulkAll r
def uptoBulkEntries {H : Type} : List (Lit × DataW H) → Nat
  | [] => 0
  | x :: r => uptoBulkEntry x + uptoBulkEntries r
def uptoBulkEntry {H : Type} : Lit × DataW H → Nat
  | (.string bytes, d) => bytes.length + uptoBulk d + 1
  | (_, d) => uptoBulk d + 1
 end
def uptoSmall : (H : Type) → List (DataW H) → Bool := fun _ ds => decide (uptoBulkAll ds ≤ 1048576)
def OpenSpec.upto (s : _root_.Go.ChangeSpec) : _root_.Go.OpenSpec := { _root_.Go.OpenSpec.ofChange s with cond := some uptoSmall }

/-- 'perigeelaw12.CraftUplinkedMatchesSpec', WHERE WHAT IT READS IS OF BULK AT MOST 1048576: true; the input reads as it did. -/
def craftUplinkedMatchesSpecUptoRow : OpenClaim := { program := "ythmdnmfocnchkaa", sum := "23774599d7c35e6859c70f111cc54a8fc43613c053d849fd426e7e9fd4cbd624", func := "perigee/perigeelaw12.CraftUplinkedMatchesSpec", spec := "craftUplinkedMatchesSpec", unfollowed := true, recurses := true, apart := false, narrowed := true }
def CraftUplinkedMatchesSpecUptoSaid : Prop := craftUplinkedMatchesSpecUptoRow.holds Try.pinned (OpenSpec.upto craftUplinkedMatchesSpecSpec)

/-- 'perigeelaw12.CatchesMergeMatchSpec', WHERE WHAT IT READS IS OF BULK AT MOST 1048576: true; the input reads as it did. -/
def catchesMergeMatchSpecUptoRow : OpenClaim := { program := "ythmdnmfocnchkaa", sum := "23774599d7c35e6859c70f111cc54a8fc43613c053d849fd426e7e9fd4cbd624", func := "perigee/perigeelaw12.CatchesMergeMatchSpec", spec := "catchesMergeMatchSpec", inPlace := ["internal/bytealg.abigen_runtime_cmpstring"], unfollowed := true, recurses := true, apart := false, narrowed := true }
def CatchesMergeMatchSpecUptoSaid : Prop := catchesMergeMatchSpecUptoRow.holds Try.pinned (OpenSpec.upto catchesMergeMatchSpecSpec)

/-- 'perigeelaw12.CatchesMergeEven', WHERE WHAT IT READS IS OF BULK AT MOST 1048576: true; the input reads as it did. -/
def catchesMergeEvenUptoRow : OpenClaim := { program := "ythmdnmfocnchkaa", sum := "23774599d7c35e6859c70f111cc54a8fc43613c053d849fd426e7e9fd4cbd624", func := "perigee/perigeelaw12.CatchesMergeEven", spec := "catchesMergeEven", inPlace := ["internal/bytealg.abigen_runtime_cmpstring"], unfollowed := true, recurses := true, apart := false, narrowed := true }
def CatchesMergeEvenUptoSaid : Prop := catchesMergeEvenUptoRow.holds Try.pinned (OpenSpec.upto catchesMergeEvenSpec)

/-- 'perigeelaw12.CatchesNoTwins', WHERE WHAT IT READS IS OF BULK AT MOST 1048576: true; the input reads as it did. -/
def catchesNoTwinsUptoRow : OpenClaim := { program := "ythmdnmfocnchkaa", sum := "23774599d7c35e6859c70f111cc54a8fc43613c053d849fd426e7e9fd4cbd624", func := "perigee/perigeelaw12.CatchesNoTwins", spec := "catchesNoTwins", inPlace := ["internal/bytealg.abigen_runtime_cmpstring"], unfollowed := true, recurses := true, apart := false, narrowed := true }
def CatchesNoTwinsUptoSaid : Prop := catchesNoTwinsUptoRow.holds Try.pinned (OpenSpec.upto catchesNoTwinsSpec)

/-- 'perigeelaw12.CatchesBestHearAll', WHERE WHAT IT READS IS OF BULK AT MOST 1048576: true; the input reads as it did. -/
def catchesBestHearAllUptoRow : OpenClaim := { program := "ythmdnmfocnchkaa", sum := "23774599d7c35e6859c70f111cc54a8fc43613c053d849fd426e7e9fd4cbd624", func := "perigee/perigeelaw12.CatchesBestHearAll", spec := "catchesBestHearAll", inPlace := ["internal/bytealg.abigen_runtime_cmpstring"], unfollowed := true, recurses := true, apart := false, narrowed := true }
def CatchesBestHearAllUptoSaid : Prop := catchesBestHearAllUptoRow.holds Try.pinned (OpenSpec.upto catchesBestHearAllSpec)

/-- 'perigeelaw12.CatchesMatchSpec', WHERE WHAT IT READS IS OF BULK AT MOST 1048576: true; the input reads as it did. -/
def catchesMatchSpecUptoRow : OpenClaim := { program := "ythmdnmfocnchkaa", sum := "23774599d7c35e6859c70f111cc54a8fc43613c053d849fd426e7e9fd4cbd624", func := "perigee/perigeelaw12.CatchesMatchSpec", spec := "catchesMatchSpec", inPlace := ["internal/bytealg.abigen_runtime_cmpstring", "slices.overlaps[perigee/api.Missing]"], unfollowed := true, recurses := true, apart := false, narrowed := true }
def CatchesMatchSpecUptoSaid : Prop := catchesMatchSpecUptoRow.holds Try.pinned (OpenSpec.upto catchesMatchSpecSpec)

end Rows
end Go.Proofs.Ythmdnmfocnchkaa
