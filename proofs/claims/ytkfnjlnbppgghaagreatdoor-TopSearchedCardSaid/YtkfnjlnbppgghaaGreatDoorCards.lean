/-
  DERIVED. GIVEN WITH THE SEED: THE CARDS: each row of YtkfnjlnbppgghaaGreatDoorRows.lean that lists a variable, with what it lists TIED to the program's text (the seventh form; the later family's looks); each row that meets fmt, with fmt's text TOLD by the authors' own Lean function (tested against real Go, not proved from fmt's source: count such statements apart). THE CARD IS WHAT COUNTS. Prove the row's statement (the work); the ties are given (YtkfnjlnbppgghaaGreatDoorTie.lean); close each card by the builder's one call (the guide's Derived/Test/ToyasCard.lean, 'card_holds'). Laid BY PROGRAM, IN A SANDBOX (cutbox-door.mjs). By AI agents, Wed Nov 11 2026. No macro, syntax, notation, axiom, sorry.
-/
import Derived.Test.YtkfnjlnbppgghaaGreatDoorRows
import GoSem.ClaimSeven
namespace Go.Proofs.YtkfnjlnbppgghaaGreatDoor
namespace Rows

/-- THE TIED CARD OF 'tutortop.TopSearched'. -/
def topSearchedCard : Claim7 := { stood := { row := topSearchedRow, standIns := [], harness := (true, "d717488c38b2ed67f309d36ebd086f60412743b655a082e21fb703e61e88a081"), looks := true }, kinds := [], alts := [], laidByText := true, laidKinds := [.handle], laidTests := true, laidLooks := .later }
def TopSearchedCardSaid : Prop := Claim7.holds Tryz.pinned (.plain (OpenSpec.ofChange topSearchedSpec)) topSearchedCard

/-- THE TIED CARD OF 'tutortop.TopApart'. -/
def topApartCard : Claim7 := { stood := { row := topApartRow, standIns := [], harness := (true, "d717488c38b2ed67f309d36ebd086f60412743b655a082e21fb703e61e88a081"), looks := true }, kinds := [], alts := [], laidByText := true, laidKinds := [.handle], laidTests := true, laidLooks := .later }
def TopApartCardSaid : Prop := Claim7.holds Tryz.pinned (.plain (OpenSpec.ofChange topApartSpec)) topApartCard

/-- THE TIED CARD OF 'tutortop.TopWords'. -/
def topWordsCard : Claim7 := { stood := { row := topWordsRow, standIns := [], harness := (true, "d717488c38b2ed67f309d36ebd086f60412743b655a082e21fb703e61e88a081"), looks := true }, kinds := [], alts := [], laidByText := true, laidKinds := [.handle], laidTests := true, laidLooks := .later }
def TopWordsCardSaid : Prop := Claim7.holds Tryz.pinned (.plain (OpenSpec.ofChange topWordsSpec)) topWordsCard

/-- THE SECOND FORM's CARD OF 'tutortop.TopSearched'. -/
def topSearchedUptoCard : Claim7 := { stood := { row := topSearchedUptoRow, standIns := [], harness := (true, "d717488c38b2ed67f309d36ebd086f60412743b655a082e21fb703e61e88a081"), looks := true }, kinds := [], alts := [], laidByText := true, laidKinds := [.handle], laidTests := true, laidLooks := .later }
def TopSearchedUptoCardSaid : Prop := Claim7.holds Tryz.pinned (.plain (OpenSpec.upto topSearchedSpec)) topSearchedUptoCard

/-- THE SECOND FORM's CARD OF 'tutortop.TopApart'. -/
def topApartUptoCard : Claim7 := { stood := { row := topApartUptoRow, standIns := [], harness := (true, "d717488c38b2ed67f309d36ebd086f60412743b655a082e21fb703e61e88a081"), looks := true }, kinds := [], alts := [], laidByText := true, laidKinds := [.handle], laidTests := true, laidLooks := .later }
def TopApartUptoCardSaid : Prop := Claim7.holds Tryz.pinned (.plain (OpenSpec.upto topApartSpec)) topApartUptoCard

/-- THE SECOND FORM's CARD OF 'tutortop.TopWords'. -/
def topWordsUptoCard : Claim7 := { stood := { row := topWordsUptoRow, standIns := [], harness := (true, "d717488c38b2ed67f309d36ebd086f60412743b655a082e21fb703e61e88a081"), looks := true }, kinds := [], alts := [], laidByText := true, laidKinds := [.handle], laidTests := true, laidLooks := .later }
def TopWordsUptoCardSaid : Prop := Claim7.holds Tryz.pinned (.plain (OpenSpec.upto topWordsSpec)) topWordsUptoCard
end Rows
end Go.Proofs.YtkfnjlnbppgghaaGreatDoor
