/-
  DERIVED. GIVEN WITH THE SEED: THE CARDS: each row of YtplcdpiggpkppaaDoorRows.lean that lists a variable, with what it lists TIED to the program's text (the seventh form; the later family's looks); each row that meets fmt, with fmt's text TOLD by the authors' own Lean function (tested against real Go, not proved from fmt's source: count such statements apart). THE CARD IS WHAT COUNTS. Prove the row's statement (the work); the ties are given (YtplcdpiggpkppaaDoorTie.lean); close each card by the builder's one call (the guide's Derived/Test/ToyasCard.lean, 'card_holds'). Laid BY PROGRAM, IN A SANDBOX (cutbox-door.mjs). By AI agents, Wed Nov 11 2026. No macro, syntax, notation, axiom, sorry.
-/
import Derived.Test.YtplcdpiggpkppaaDoorRows
import GoSem.ClaimSeven
namespace Go.Proofs.YtplcdpiggpkppaaDoor
namespace Rows

/-- THE TIED CARD OF 'perigeelaw9.PowerTextsMatchSpec'. -/
def powerTextsMatchSpecCard : Claim7 := { stood := { row := powerTextsMatchSpecRow, standIns := [], harness := (true, "8c0e139fb81fb0ab864e5049374f8336c2e111bc53517c5c2a5f481d255d66f9"), looks := true }, kinds := [], alts := [], laidByText := true, laidKinds := [.data, .data, .data, .data, .pinned], laidTests := true, laidLooks := .later }
def PowerTextsMatchSpecCardSaid : Prop := Claim7.holds Tryd.pinned (.plain (OpenSpec.ofChange powerTextsMatchSpecSpec)) powerTextsMatchSpecCard

/-- THE TIED CARD OF 'perigeelaw9.PowerReadsMatchSpec'. -/
def powerReadsMatchSpecCard : Claim7 := { stood := { row := powerReadsMatchSpecRow, standIns := [], harness := (true, "8c0e139fb81fb0ab864e5049374f8336c2e111bc53517c5c2a5f481d255d66f9"), looks := true }, kinds := [], alts := [], laidByText := true, laidKinds := [.data, .data, .data, .data, .sentinel, .sentinel, .pinned], laidTests := true, laidLooks := .later }
def PowerReadsMatchSpecCardSaid : Prop := Claim7.holds Tryd.pinned (.plain (OpenSpec.ofChange powerReadsMatchSpecSpec)) powerReadsMatchSpecCard

/-- THE SECOND FORM's CARD OF 'perigeelaw9.PowerTextsMatchSpec'. -/
def powerTextsMatchSpecUptoCard : Claim7 := { stood := { row := powerTextsMatchSpecUptoRow, standIns := [], harness := (true, "8c0e139fb81fb0ab864e5049374f8336c2e111bc53517c5c2a5f481d255d66f9"), looks := true }, kinds := [], alts := [], laidByText := true, laidKinds := [.data, .data, .data, .data, .pinned], laidTests := true, laidLooks := .later }
def PowerTextsMatchSpecUptoCardSaid : Prop := Claim7.holds Tryd.pinned (.plain (OpenSpec.upto powerTextsMatchSpecSpec)) powerTextsMatchSpecUptoCard

/-- THE SECOND FORM's CARD OF 'perigeelaw9.PowerReadsMatchSpec'. -/
def powerReadsMatchSpecUptoCard : Claim7 := { stood := { row := powerReadsMatchSpecUptoRow, standIns := [], harness := (true, "8c0e139fb81fb0ab864e5049374f8336c2e111bc53517c5c2a5f481d255d66f9"), looks := true }, kinds := [], alts := [], laidByText := true, laidKinds := [.data, .data, .data, .data, .sentinel, .sentinel, .pinned], laidTests := true, laidLooks := .later }
def PowerReadsMatchSpecUptoCardSaid : Prop := Claim7.holds Tryd.pinned (.plain (OpenSpec.upto powerReadsMatchSpecSpec)) powerReadsMatchSpecUptoCard
end Rows
end Go.Proofs.YtplcdpiggpkppaaDoor
