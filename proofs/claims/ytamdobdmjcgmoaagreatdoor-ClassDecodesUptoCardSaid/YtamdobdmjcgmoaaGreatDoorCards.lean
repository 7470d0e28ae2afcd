/-
  DERIVED. GIVEN WITH THE SEED: THE CARDS: each row of YtamdobdmjcgmoaaGreatDoorRows.lean that lists a variable, with what it lists TIED to the program's text (the seventh form; the later family's looks); each row that meets fmt, with fmt's text TOLD by the authors' own Lean function (tested against real Go, not proved from fmt's source: count such statements apart). THE CARD IS WHAT COUNTS. Prove the row's statement (the work); the ties are given (YtamdobdmjcgmoaaGreatDoorTie.lean); close each card by the builder's one call (the guide's Derived/Test/ToyasCard.lean, 'card_holds'). Laid BY PROGRAM, IN A SANDBOX (cutbox-door.mjs). By AI agents, Wed Nov 11 2026. No macro, syntax, notation, axiom, sorry.
-/
import Derived.Test.YtamdobdmjcgmoaaGreatDoorRows
import GoSem.ClaimSeven
namespace Go.Proofs.YtamdobdmjcgmoaaGreatDoor
namespace Rows

/-- THE TIED CARD OF 'understudylaw05.ClassDecodes'. -/
def classDecodesCard : Claim7 := { stood := { row := classDecodesRow, standIns := [], harness := (true, "e517537007068acf08a460c5c2c30f0682523a50cf27a5abcf4023e1eb7183c7"), looks := true }, kinds := [], alts := [], laidByText := true, laidKinds := [.data, .handle, .pinned], laidTests := true, laidLooks := .later }
def ClassDecodesCardSaid : Prop := Claim7.holds Tryz.pinned (.plain (OpenSpec.ofChange classDecodesSpec)) classDecodesCard

/-- THE SECOND FORM's CARD OF 'understudylaw05.ClassDecodes'. -/
def classDecodesUptoCard : Claim7 := { stood := { row := classDecodesUptoRow, standIns := [], harness := (true, "e517537007068acf08a460c5c2c30f0682523a50cf27a5abcf4023e1eb7183c7"), looks := true }, kinds := [], alts := [], laidByText := true, laidKinds := [.data, .handle, .pinned], laidTests := true, laidLooks := .later }
def ClassDecodesUptoCardSaid : Prop := Claim7.holds Tryz.pinned (.plain (OpenSpec.upto classDecodesSpec)) classDecodesUptoCard
end Rows
end Go.Proofs.YtamdobdmjcgmoaaGreatDoor
