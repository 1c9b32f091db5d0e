/-
  No cell of these rows narrows 'for every input' (looked for: loops, veiled, ifaces, maps, wideKeys, modest, calm, conditions, laid).
  DERIVED. THE GIVEN ROWS OF THIS SEAT. 10 by the template 'for every input the law returns true; each argument reads behind the call as it read before'; 0 by the template 'total and deterministic' (their statements: YtbngmblgkkdhpaaTotals.lean).
  GIVEN WITH THE SEED: the statements are not yours to turn. If you find one false, say at which input.
  Laid BY PROGRAM, IN A SANDBOX (cutbox-rows.mjs): the forced cells as the released guide's own fill.sh prints them over the translation 923c558f27097535… (all of the seat's roots in one cut). By AI agents, Wed Nov 11 2026. No macro, syntax, notation, axiom, sorry.
-/
import Derived.Test.YtbngmblgkkdhpaaChecked
import GoSem.Claim
import GoSem.ClaimJoined
import GoSem.ClaimMapViews
import Derived.JoinedTies
import Derived.KernelRfl
namespace Go.Proofs.Ytbngmblgkkdhpaa
/- THE CELL 'sum', in the pinned program and in every row, IS THE sha256 OF THE DUMP (.gsa) THAT YtbngmblgkkdhpaaProg.lean LOADS. Nothing in Lean hashes anything: it is a label: what it is worth is what the hold of that sum in a sandbox is worth. -/
noncomputable def Try.pinned : Pinned := { name := "ytbngmblgkkdhpaa", sum := "923c558f27097535f6b42738974e1077a91fc335d09c199c7658d72af5f67227", checked := Try.checked }
namespace Rows
def none {H : Type} : Left H := { results := [], args := [] }

/-- 'perigeelaw10.PassesVolumesAddUp': WHATEVER THE INPUT: true; the input reads as it did. -/
def passesVolumesAddUpSpec : ChangeSpec := { name := "passesVolumesAddUp", fn := fun _ => fun
  | [d1, d2, d3, d4, d5] => { results := [.lit (.bool true)], args := [d1, d2, d3, d4, d5] }
  | _ => none }
def passesVolumesAddUpRow : OpenClaim := { program := "ytbngmblgkkdhpaa", sum := "923c558f27097535f6b42738974e1077a91fc335d09c199c7658d72af5f67227", func := "perigee/perigeelaw10.PassesVolumesAddUp", spec := "passesVolumesAddUp", plainKeys := false, apart := false }
def PassesVolumesAddUpSaid : Prop := passesVolumesAddUpRow.holds Try.pinned (OpenSpec.ofChange passesVolumesAddUpSpec)

/-- ITS FALSE NEIGHBOUR: 'it returns false'. Refute it at one input. -/
def passesVolumesAddUpWrong : ChangeSpec := { name := "passesVolumesAddUp", fn := fun _ => fun
  | [d1, d2, d3, d4, d5] => { results := [.lit (.bool false)], args := [d1, d2, d3, d4, d5] }
  | _ => none }
def PassesVolumesAddUpWrongFalsely : Prop := passesVolumesAddUpRow.holds Try.pinned (OpenSpec.ofChange passesVolumesAddUpWrong)

/-- 'perigeelaw10.PassesMatchSpec': WHATEVER THE INPUT: true; the input reads as it did. -/
def passesMatchSpecSpec : ChangeSpec := { name := "passesMatchSpec", fn := fun _ => fun
  | [d1, d2, d3, d4, d5] => { results := [.lit (.bool true)], args := [d1, d2, d3, d4, d5] }
  | _ => none }
def passesMatchSpecRow : OpenClaim := { program := "ytbngmblgkkdhpaa", sum := "923c558f27097535f6b42738974e1077a91fc335d09c199c7658d72af5f67227", func := "perigee/perigeelaw10.PassesMatchSpec", spec := "passesMatchSpec", plainKeys := false, apart := false }
def PassesMatchSpecSaid : Prop := passesMatchSpecRow.holds Try.pinned (OpenSpec.ofChange passesMatchSpecSpec)

/-- ITS FALSE NEIGHBOUR: 'it returns false'. Refute it at one input. -/
def passesMatchSpecWrong : ChangeSpec := { name := "passesMatchSpec", fn := fun _ => fun
  | [d1, d2, d3, d4, d5] => { results := [.lit (.bool false)], args := [d1, d2, d3, d4, d5] }
  | _ => none }
def PassesMatchSpecWrongFalsely : Prop := passesMatchSpecRow.holds Try.pinned (OpenSpec.ofChange passesMatchSpecWrong)

/-- 'perigeelaw10.PassesUntilIsFirst': WHATEVER THE INPUT: true; the input reads as it did. -/
def passesUntilIsFirstSpec : ChangeSpec := { name := "passesUntilIsFirst", fn := fun _ => fun
  | [d1, d2, d3, d4] => { results := [.lit (.bool true)], args := [d1, d2, d3, d4] }
  | _ => none }
def passesUntilIsFirstRow : OpenClaim := { program := "ytbngmblgkkdhpaa", sum := "923c558f27097535f6b42738974e1077a91fc335d09c199c7658d72af5f67227", func := "perigee/perigeelaw10.PassesUntilIsFirst", spec := "passesUntilIsFirst", plainKeys := false, apart := false }
def PassesUntilIsFirstSaid : Prop := passesUntilIsFirstRow.holds Try.pinned (OpenSpec.ofChange passesUntilIsFirstSpec)

/-- ITS FALSE NEIGHBOUR: 'it returns false'. Refute it at one input. -/
def passesUntilIsFirstWrong : ChangeSpec := { name := "passesUntilIsFirst", fn := fun _ => fun
  | [d1, d2, d3, d4] => { results := [.lit (.bool false)], args := [d1, d2, d3, d4] }
  | _ => none }
def PassesUntilIsFirstWrongFalsely : Prop := passesUntilIsFirstRow.holds Try.pinned (OpenSpec.ofChange passesUntilIsFirstWrong)

/-- 'perigeelaw10.BookingsExcludeEven': WHATEVER THE INPUT: true; the input reads as it did. -/
def bookingsExcludeEvenSpec : ChangeSpec := { name := "bookingsExcludeEven", fn := fun _ => fun
  | [d1, d2, d3] => { results := [.lit (.bool true)], args := [d1, d2, d3] }
  | _ => none }
def bookingsExcludeEvenRow : OpenClaim := { program := "ytbngmblgkkdhpaa", sum := "923c558f27097535f6b42738974e1077a91fc335d09c199c7658d72af5f67227", func := "perigee/perigeelaw10.BookingsExcludeEven", spec := "bookingsExcludeEven", plainKeys := false, apart := false }
def BookingsExcludeEvenSaid : Prop := bookingsExcludeEvenRow.holds Try.pinned (OpenSpec.ofChange bookingsExcludeEvenSpec)

/-- ITS FALSE NEIGHBOUR: 'it returns false'. Refute it at one input. -/
def bookingsExcludeEvenWrong : ChangeSpec := { name := "bookingsExcludeEven", fn := fun _ => fun
  | [d1, d2, d3] => { results := [.lit (.bool false)], args := [d1, d2, d3] }
  | _ => none }
def BookingsExcludeEvenWrongFalsely : Prop := bookingsExcludeEvenRow.holds Try.pinned (OpenSpec.ofChange bookingsExcludeEvenWrong)

/-- 'perigeelaw10.BookingsMatchSpec': WHATEVER THE INPUT: true; the input reads as it did. -/
def bookingsMatchSpecSpec : ChangeSpec := { name := "bookingsMatchSpec", fn := fun _ => fun
  | [d1, d2, d3] => { results := [.lit (.bool true)], args := [d1, d2, d3] }
  | _ => none }
def bookingsMatchSpecRow : OpenClaim := { program := "ytbngmblgkkdhpaa", sum := "923c558f27097535f6b42738974e1077a91fc335d09c199c7658d72af5f67227", func := "perigee/perigeelaw10.BookingsMatchSpec", spec := "bookingsMatchSpec", unfollowed := true, recurses := true, plainKeys := false, apart := false }
def BookingsMatchSpecSaid : Prop := bookingsMatchSpecRow.holds Try.pinned (OpenSpec.ofChange bookingsMatchSpecSpec)

/-- ITS FALSE NEIGHBOUR: 'it returns false'. Refute it at one input. -/
def bookingsMatchSpecWrong : ChangeSpec := { name := "bookingsMatchSpec", fn := fun _ => fun
  | [d1, d2, d3] => { results := [.lit (.bool false)], args := [d1, d2, d3] }
  | _ => none }
def BookingsMatchSpecWrongFalsely : Prop := bookingsMatchSpecRow.holds Try.pinned (OpenSpec.ofChange bookingsMatchSpecWrong)

/-- 'perigeelaw10.BookingsBestCarriesMost': WHATEVER THE INPUT: true; the input reads as it did. -/
def bookingsBestCarriesMostSpec : ChangeSpec := { name := "bookingsBestCarriesMost", fn := fun _ => fun
  | [d1, d2, d3] => { results := [.lit (.bool true)], args := [d1, d2, d3] }
  | _ => none }
def bookingsBestCarriesMostRow : OpenClaim := { program := "ytbngmblgkkdhpaa", sum := "923c558f27097535f6b42738974e1077a91fc335d09c199c7658d72af5f67227", func := "perigee/perigeelaw10.BookingsBestCarriesMost", spec := "bookingsBestCarriesMost", plainKeys := false, apart := false }
def BookingsBestCarriesMostSaid : Prop := bookingsBestCarriesMostRow.holds Try.pinned (OpenSpec.ofChange bookingsBestCarriesMostSpec)

/-- ITS FALSE NEIGHBOUR: 'it returns false'. Refute it at one input. -/
def bookingsBestCarriesMostWrong : ChangeSpec := { name := "bookingsBestCarriesMost", fn := fun _ => fun
  | [d1, d2, d3] => { results := [.lit (.bool false)], args := [d1, d2, d3] }
  | _ => none }
def BookingsBestCarriesMostWrongFalsely : Prop := bookingsBestCarriesMostRow.holds Try.pinned (OpenSpec.ofChange bookingsBestCarriesMostWrong)

/-- 'perigeelaw10.SendingLateMatchSpec': WHATEVER THE INPUT: true; the input reads as it did. -/
def sendingLateMatchSpecSpec : ChangeSpec := { name := "sendingLateMatchSpec", fn := fun _ => fun
  | [d1, d2, d3, d4] => { results := [.lit (.bool true)], args := [d1, d2, d3, d4] }
  | _ => none }
def sendingLateMatchSpecRow : OpenClaim := { program := "ytbngmblgkkdhpaa", sum := "923c558f27097535f6b42738974e1077a91fc335d09c199c7658d72af5f67227", func := "perigee/perigeelaw10.SendingLateMatchSpec", spec := "sendingLateMatchSpec", inPlace := ["internal/bytealg.abigen_runtime_cmpstring"], unfollowed := true, recurses := true, plainKeys := false, apart := false }
def SendingLateMatchSpecSaid : Prop := sendingLateMatchSpecRow.holds Try.pinned (OpenSpec.ofChange sendingLateMatchSpecSpec)

/-- ITS FALSE NEIGHBOUR: 'it returns false'. Refute it at one input. -/
def sendingLateMatchSpecWrong : ChangeSpec := { name := "sendingLateMatchSpec", fn := fun _ => fun
  | [d1, d2, d3, d4] => { results := [.lit (.bool false)], args := [d1, d2, d3, d4] }
  | _ => none }
def SendingLateMatchSpecWrongFalsely : Prop := sendingLateMatchSpecRow.holds Try.pinned (OpenSpec.ofChange sendingLateMatchSpecWrong)

/-- 'perigeelaw10.SendingAddsUp': WHATEVER THE INPUT: true; the input reads as it did. -/
def sendingAddsUpSpec : ChangeSpec := { name := "sendingAddsUp", fn := fun _ => fun
  | [d1, d2, d3] => { results := [.lit (.bool true)], args := [d1, d2, d3] }
  | _ => none }
def sendingAddsUpRow : OpenClaim := { program := "ytbngmblgkkdhpaa", sum := "923c558f27097535f6b42738974e1077a91fc335d09c199c7658d72af5f67227", func := "perigee/perigeelaw10.SendingAddsUp", spec := "sendingAddsUp", inPlace := ["internal/bytealg.abigen_runtime_cmpstring"], unfollowed := true, recurses := true, plainKeys := false, apart := false }
def SendingAddsUpSaid : Prop := sendingAddsUpRow.holds Try.pinned (OpenSpec.ofChange sendingAddsUpSpec)

/-- ITS FALSE NEIGHBOUR: 'it returns false'. Refute it at one input. -/
def sendingAddsUpWrong : ChangeSpec := { name := "sendingAddsUp", fn := fun _ => fun
  | [d1, d2, d3] => { results := [.lit (.bool false)], args := [d1, d2, d3] }
  | _ => none }
def SendingAddsUpWrongFalsely : Prop := sendingAddsUpRow.holds Try.pinned (OpenSpec.ofChange sendingAddsUpWrong)

/-- 'perigeelaw10.SendingWastesNothing': WHATEVER THE INPUT: true; the input reads as it did. -/
def sendingWastesNothingSpec : ChangeSpec := { name := "sendingWastesNothing", fn := fun _ => fun
  | [d1, d2, d3, d4] => { results := [.lit (.bool true)], args := [d1, d2, d3, d4] }
  | _ => none }
def sendingWastesNothingRow : OpenClaim := { program := "ytbngmblgkkdhpaa", sum := "923c558f27097535f6b42738974e1077a91fc335d09c199c7658d72af5f67227", func := "perigee/perigeelaw10.SendingWastesNothing", spec := "sendingWastesNothing", inPlace := ["internal/bytealg.abigen_runtime_cmpstring"], unfollowed := true, recurses := true, plainKeys := false, apart := false }
def SendingWastesNothingSaid : Prop := sendingWastesNothingRow.holds Try.pinned (OpenSpec.ofChange sendingWastesNothingSpec)

/-- ITS FALSE NEIGHBOUR: 'it returns false'. Refute it at one input. -/
def sendingWastesNothingWrong : ChangeSpec := { name := "sendingWastesNothing", fn := fun _ => fun
  | [d1, d2, d3, d4] => { results := [.lit (.bool false)], args := [d1, d2, d3, d4] }
  | _ => none }
def SendingWastesNothingWrongFalsely : Prop := sendingWastesNothingRow.holds Try.pinned (OpenSpec.ofChange sendingWastesNothingWrong)

/-- 'perigeelaw10.SendingFewestIsEnough': WHATEVER THE INPUT: true; the input reads as it did. -/
def sendingFewestIsEnoughSpec : ChangeSpec := { name := "sendingFewestIsEnough", fn := fun _ => fun
  | [d1, d2, d3, d4] => { results := [.lit (.bool true)], args := [d1, d2, d3, d4] }
  | _ => none }
def sendingFewestIsEnoughRow : OpenClaim := { program := "ytbngmblgkkdhpaa", sum := "923c558f27097535f6b42738974e1077a91fc335d09c199c7658d72af5f67227", func := "perigee/perigeelaw10.SendingFewestIsEnough", spec := "sendingFewestIsEnough", inPlace := ["internal/bytealg.abigen_runtime_cmpstring"], unfollowed := true, recurses := true, plainKeys := false, apart := false }
def SendingFewestIsEnoughSaid : Prop := sendingFewestIsEnoughRow.holds Try.pinned (OpenSpec.ofChange sendingFewestIsEnoughSpec)

/-- ITS FALSE NEIGHBOUR: 'it returns false'. Refute it at one input. -/
def sendingFewestIsEnoughWrong : ChangeSpec := { name := "sendingFewestIsEnough", fn := fun _ => fun
  | [d1, d2, d3, d4] => { results := [.lit (.bool false)], args := [d1, d2, d3, d4] }
  | _ => none }
def SendingFewestIsEnoughWrongFalsely : Prop := sendingFewestIsEnoughRow.holds Try.pinned (OpenSpec.ofChange sendingFewestIsEnoughWrong)

/- THE SECOND FORM. 'bulk': how many values and letters a reading holds, each counted each time it is reached (what is shared counts as often as it is met; a slice's spare places count too). A statement '..UptoSaid' is the law's where the arguments, and the package variables that the reading takes, are together of bulk at most 1048576: NARROWER than '..Said'. Prove '..Said' where nothing that the law and all that it calls make is longer than what came in: it says more and counts as full. Else prove '..UptoSaid'. A law counts once. -/
mutual
def uptoBulk {H : Type} : DataW H → Nat
  | .lit (.string bytes) => bytes.length + 1
  | .lit _ => 1
  | .nil => 1
  | .ptr d => uptoBulk d + 1
  | .slice elems spare => uptoBulkAll elems + uptoBulkAll spare + 1
  | .agg parts => uptoBulkAll parts + 1
  | .iface _ d => uptoBulk d + 1
  | .map entries => uptoBulkEntries entries + 1
  | .held _ => 1
def uptoBulkAll {H : Type} : List (DataW H) → Nat
  | [] => 0
  | d :: r => uptoBulk d + uptoBulkAll r
def uptoBulkEntries {H : Type} : List (Lit × DataW H) → Nat
  | [] => 0
  | x :: r => uptoBulkEntry x + uptoBulkEntries r
def uptoBulkEntry {H : Type} : Lit × DataW H → Nat
  | (.string bytes, d) => bytes.length + uptoBulk d + 1
  | (_, d) => uptoBulk d + 1
 end
def uptoSmall : (H : Type) → List (DataW H) → Bool := fun _ ds => decide (uptoBulkAll ds ≤ 1048576)
def OpenSpec.upto (s : _root_.Go.ChangeSpec) : _root_.Go.OpenSpec := { _root_.Go.OpenSpec.ofChange s with cond := some uptoSmall }

/-- 'perigeelaw10.PassesVolumesAddUp', WHERE WHAT IT READS IS OF BULK AT MOST 1048576: true; the input reads as it did. -/
def passesVolumesAddUpUptoRow : OpenClaim := { program := "ytbngmblgkkdhpaa", sum := "923c558f27097535f6b42738974e1077a91fc335d09c199c7658d72af5f67227", func := "perigee/perigeelaw10.PassesVolumesAddUp", spec := "passesVolumesAddUp", plainKeys := false, apart := false, narrowed := true }
def PassesVolumesAddUpUptoSaid : Prop := passesVolumesAddUpUptoRow.holds Try.pinned (OpenSpec.upto passesVolumesAddUpSpec)

/-- 'perigeelaw10.PassesMatchSpec', WHERE WHAT IT READS IS OF BULK AT MOST 1048576: true; the input reads as it did. -/
def passesMatchSpecUptoRow : OpenClaim := { program := "ytbngmblgkkdhpaa", sum := "923c558f27097535f6b42738974e1077a91fc335d09c199c7658d72af5f67227", func := "perigee/perigeelaw10.PassesMatchSpec", spec := "passesMatchSpec", plainKeys := false, apart := false, narrowed := true }
def PassesMatchSpecUptoSaid : Prop := passesMatchSpecUptoRow.holds Try.pinned (OpenSpec.upto passesMatchSpecSpec)

/-- 'perigeelaw10.PassesUntilIsFirst', WHERE WHAT IT READS IS OF BULK AT MOST 1048576: true; the input reads as it did. -/
def passesUntilIsFirstUptoRow : OpenClaim := { program := "ytbngmblgkkdhpaa", sum := "923c558f27097535f6b42738974e1077a91fc335d09c199c7658d72af5f67227", func := "perigee/perigeelaw10.PassesUntilIsFirst", spec := "passesUntilIsFirst", plainKeys := false, apart := false, narrowed := true }
def PassesUntilIsFirstUptoSaid : Prop := passesUntilIsFirstUptoRow.holds Try.pinned (OpenSpec.upto passesUntilIsFirstSpec)

/-- 'perigeelaw10.BookingsExcludeEven', WHERE WHAT IT READS IS OF BULK AT MOST 1048576: true; the input reads as it did. -/
def bookingsExcludeEvenUptoRow : OpenClaim := { program := "ytbngmblgkkdhpaa", sum := "923c558f27097535f6b42738974e1077a91fc335d09c199c7658d72af5f67227", func := "perigee/perigeelaw10.BookingsExcludeEven", spec := "bookingsExcludeEven", plainKeys := false, apart := false, narrowed := true }
def BookingsExcludeEvenUptoSaid : Prop := bookingsExcludeEvenUptoRow.holds Try.pinned (OpenSpec.upto bookingsExcludeEvenSpec)

/-- 'perigeelaw10.BookingsMatchSpec', WHERE WHAT IT READS IS OF BULK AT MOST 1048576: true; the input reads as it did. -/
def bookingsMatchSpecUptoRow : OpenClaim := { program := "ytbngmblgkkdhpaa", sum := "923c558f27097535f6b42738974e1077a91fc335d09c199c7658d72af5f67227", func := "perigee/perigeelaw10.BookingsMatchSpec", spec := "bookingsMatchSpec", unfollowed := true, recurses := true, plainKeys := false, apart := false, narrowed := true }
def BookingsMatchSpecUptoSaid : Prop := bookingsMatchSpecUptoRow.holds Try.pinned (OpenSpec.upto bookingsMatchSpecSpec)

/-- 'perigeelaw10.BookingsBestCarriesMost', WHERE WHAT IT READS IS OF BULK AT MOST 1048576: true; the input reads as it did. -/
def bookingsBestCarriesMostUptoRow : OpenClaim := { program := "ytbngmblgkkdhpaa", sum := "923c558f27097535f6b42738974e1077a91fc335d09c199c7658d72af5f67227", func := "perigee/perigeelaw10.BookingsBestCarriesMost", spec := "bookingsBestCarriesMost", plainKeys := false, apart := false, narrowed := true }
def BookingsBestCarriesMostUptoSaid : Prop := bookingsBestCarriesMostUptoRow.holds Try.pinned (OpenSpec.upto bookingsBestCarriesMostSpec)

/-- 'perigeelaw10.SendingLateMatchSpec', WHERE WHAT IT READS IS OF BULK AT MOST 1048576: true; the input reads as it did. -/
def sendingLateMatchSpecUptoRow : OpenClaim := { program := "ytbngmblgkkdhpaa", sum := "923c558f27097535f6b42738974e1077a91fc335d09c199c7658d72af5f67227", func := "perigee/perigeelaw10.SendingLateMatchSpec", spec := "sendingLateMatchSpec", inPlace := ["internal/bytealg.abigen_runtime_cmpstring"], unfollowed := true, recurses := true, plainKeys := false, apart := false, narrowed := true }
def SendingLateMatchSpecUptoSaid : Prop := sendingLateMatchSpecUptoRow.holds Try.pinned (OpenSpec.upto sendingLateMatchSpecSpec)

/-- 'perigeelaw10.SendingAddsUp', WHERE WHAT IT READS IS OF BULK AT MOST 1048576: true; the input reads as it did. -/
def sendingAddsUpUptoRow : OpenClaim := { program := "ytbngmblgkkdhpaa", sum := "923c558f27097535f6b42738974e1077a91fc335d09c199c7658d72af5f67227", func := "perigee/perigeelaw10.SendingAddsUp", spec := "sendingAddsUp", inPlace := ["internal/bytealg.abigen_runtime_cmpstring"], unfollowed := true, recurses := true, plainKeys := false, apart := false, narrowed := true }
def SendingAddsUpUptoSaid : Prop := sendingAddsUpUptoRow.holds Try.pinned (OpenSpec.upto sendingAddsUpSpec)

/-- 'perigeelaw10.SendingWastesNothing', WHERE WHAT IT READS IS OF BULK AT MOST 1048576: true; the input reads as it did. -/
def sendingWastesNothingUptoRow : OpenClaim := { program := "ytbngmblgkkdhpaa", sum := "923c558f27097535f6b42738974e1077a91fc335d09c199c7658d72af5f67227", func := "perigee/perigeelaw10.SendingWastesNothing", spec := "sendingWastesNothing", inPlace := ["internal/bytealg.abigen_runtime_cmpstring"], unfollowed := true, recurses := true, plainKeys := false, apart := false, narrowed := true }
def SendingWastesNothingUptoSaid : Prop := sendingWastesNothingUptoRow.holds Try.pinned (OpenSpec.upto sendingWastesNothingSpec)

/-- 'perigeelaw10.SendingFewestIsEnough', WHERE WHAT IT READS IS OF BULK AT MOST 1048576: true; the input reads as it did. -/
def sendingFewestIsEnoughUptoRow : OpenClaim := { program := "ytbngmblgkkdhpaa", sum := "923c558f27097535f6b42738974e1077a91fc335d09c199c7658d72af5f67227", func := "perigee/perigeelaw10.SendingFewestIsEnough", spec := "sendingFewestIsEnough", inPlace := ["internal/bytealg.abigen_runtime_cmpstring"], unfollowed := true, recurses := true, plainKeys := false, apart := false, narrowed := true }
def SendingFewestIsEnoughUptoSaid : Prop := sendingFewestIsEnoughUptoRow.holds Try.pinned (OpenSpec.upto sendingFewestIsEnoughSpec)

end Rows
end Go.Proofs.Ytbngmblgkkdhpaa
