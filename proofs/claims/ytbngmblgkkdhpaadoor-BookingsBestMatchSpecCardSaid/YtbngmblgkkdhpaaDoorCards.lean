/-
  DERIVED. GIVEN WITH THE SEED: THE CARDS: each row of YtbngmblgkkdhpaaDoorRows.lean that lists a variable, with what it lists TIED to the program's text (the seventh form; the later family's looks); each row that meets fmt, with fmt's text TOLD by the authors' own Lean function (tested against real Go, not proved from fmt's source: count such statements apart). THE CARD IS WHAT COUNTS. Prove the row's statement (the work); the ties are given (YtbngmblgkkdhpaaDoorTie.lean); close each card by the builder's one call (the guide's Derived/Test/ToyasCard.lean, 'card_holds'). Laid BY PROGRAM, IN A SANDBOX (cutbox-door.mjs). By AI agents, Wed Nov 11 2026. No macro, syntax, notation, axiom, sorry.
-/
import Derived.Test.YtbngmblgkkdhpaaDoorRows
import GoSem.ClaimSeven
namespace Go.Proofs.YtbngmblgkkdhpaaDoor
namespace Rows

/-- THE TIED CARD OF 'perigeelaw10.PassesTextsComeBack'. -/
def passesTextsComeBackCard : Claim7 := { stood := { row := passesTextsComeBackRow, standIns := [], harness := (true, "a5ca3c692977541c33f01c0bee7e09d281cfa989c7b0d5188d37ff47f275770e"), looks := true }, kinds := [], alts := [], laidByText := true, laidKinds := [.data, .data, .data, .data, .pinned], laidTests := true, laidLooks := .later }
def PassesTextsComeBackCardSaid : Prop := Claim7.holds Tryd.pinned (.plain (OpenSpec.ofChange passesTextsComeBackSpec)) passesTextsComeBackCard

/-- THE TIED CARD OF 'perigeelaw10.PassesTextsMatchSpec'. -/
def passesTextsMatchSpecCard : Claim7 := { stood := { row := passesTextsMatchSpecRow, standIns := [], harness := (true, "a5ca3c692977541c33f01c0bee7e09d281cfa989c7b0d5188d37ff47f275770e"), looks := true }, kinds := [], alts := [], laidByText := true, laidKinds := [.data, .data, .data, .data, .pinned], laidTests := true, laidLooks := .later }
def PassesTextsMatchSpecCardSaid : Prop := Claim7.holds Tryd.pinned (.plain (OpenSpec.ofChange passesTextsMatchSpecSpec)) passesTextsMatchSpecCard

/-- THE TIED CARD OF 'perigeelaw10.BookingsBestMatchSpec'. -/
def bookingsBestMatchSpecCard : Claim7 := { stood := { row := bookingsBestMatchSpecRow, standIns := [], harness := (true, "a5ca3c692977541c33f01c0bee7e09d281cfa989c7b0d5188d37ff47f275770e"), looks := true }, kinds := [], alts := [], laidByText := true, laidKinds := [.data, .data, .data], laidTests := true, laidLooks := .later }
def BookingsBestMatchSpecCardSaid : Prop := Claim7.holds Tryd.pinned (.plain (OpenSpec.ofChange bookingsBestMatchSpecSpec)) bookingsBestMatchSpecCard

/-- THE TIED CARD OF 'perigeelaw10.BookingsFairIsFair'. -/
def bookingsFairIsFairCard : Claim7 := { stood := { row := bookingsFairIsFairRow, standIns := [], harness := (true, "a5ca3c692977541c33f01c0bee7e09d281cfa989c7b0d5188d37ff47f275770e"), looks := true }, kinds := [], alts := [], laidByText := true, laidKinds := [.data, .data, .data, .sentinel, .sentinel], laidTests := true, laidLooks := .later }
def BookingsFairIsFairCardSaid : Prop := Claim7.holds Tryd.pinned (.plain (OpenSpec.ofChange bookingsFairIsFairSpec)) bookingsFairIsFairCard

/-- THE SECOND FORM's CARD OF 'perigeelaw10.PassesTextsComeBack'. -/
def passesTextsComeBackUptoCard : Claim7 := { stood := { row := passesTextsComeBackUptoRow, standIns := [], harness := (true, "a5ca3c692977541c33f01c0bee7e09d281cfa989c7b0d5188d37ff47f275770e"), looks := true }, kinds := [], alts := [], laidByText := true, laidKinds := [.data, .data, .data, .data, .pinned], laidTests := true, laidLooks := .later }
def PassesTextsComeBackUptoCardSaid : Prop := Claim7.holds Tryd.pinned (.plain (OpenSpec.upto passesTextsComeBackSpec)) passesTextsComeBackUptoCard

/-- THE SECOND FORM's CARD OF 'perigeelaw10.PassesTextsMatchSpec'. -/
def passesTextsMatchSpecUptoCard : Claim7 := { stood := { row := passesTextsMatchSpecUptoRow, standIns := [], harness := (true, "a5ca3c692977541c33f01c0bee7e09d281cfa989c7b0d5188d37ff47f275770e"), looks := true }, kinds := [], alts := [], laidByText := true, laidKinds := [.data, .data, .data, .data, .pinned], laidTests := true, laidLooks := .later }
def PassesTextsMatchSpecUptoCardSaid : Prop := Claim7.holds Tryd.pinned (.plain (OpenSpec.upto passesTextsMatchSpecSpec)) passesTextsMatchSpecUptoCard

/-- THE SECOND FORM's CARD OF 'perigeelaw10.BookingsBestMatchSpec'. -/
def bookingsBestMatchSpecUptoCard : Claim7 := { stood := { row := bookingsBestMatchSpecUptoRow, standIns := [], harness := (true, "a5ca3c692977541c33f01c0bee7e09d281cfa989c7b0d5188d37ff47f275770e"), looks := true }, kinds := [], alts := [], laidByText := true, laidKinds := [.data, .data, .data], laidTests := true, laidLooks := .later }
def BookingsBestMatchSpecUptoCardSaid : Prop := Claim7.holds Tryd.pinned (.plain (OpenSpec.upto bookingsBestMatchSpecSpec)) bookingsBestMatchSpecUptoCard

/-- THE SECOND FORM's CARD OF 'perigeelaw10.BookingsFairIsFair'. -/
def bookingsFairIsFairUptoCard : Claim7 := { stood := { row := bookingsFairIsFairUptoRow, standIns := [], harness := (true, "a5ca3c692977541c33f01c0bee7e09d281cfa989c7b0d5188d37ff47f275770e"), looks := true }, kinds := [], alts := [], laidByText := true, laidKinds := [.data, .data, .data, .sentinel, .sentinel], laidTests := true, laidLooks := .later }
def BookingsFairIsFairUptoCardSaid : Prop := Claim7.holds Tryd.pinned (.plain (OpenSpec.upto bookingsFairIsFairSpec)) bookingsFairIsFairUptoCard
end Rows
end Go.Proofs.YtbngmblgkkdhpaaDoor
