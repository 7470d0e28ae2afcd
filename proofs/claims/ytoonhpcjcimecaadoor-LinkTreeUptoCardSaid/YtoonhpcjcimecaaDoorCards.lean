/-
  DERIVED. GIVEN WITH THE SEED: THE CARDS: each row of YtoonhpcjcimecaaDoorRows.lean that lists a variable, with what it lists TIED to the program's text (the seventh form; the later family's looks); each row that meets fmt, with fmt's text TOLD by the authors' own Lean function (tested against real Go, not proved from fmt's source: count such statements apart). THE CARD IS WHAT COUNTS. Prove the row's statement (the work); the ties are given (YtoonhpcjcimecaaDoorTie.lean); close each card by the builder's one call (the guide's Derived/Test/ToyasCard.lean, 'card_holds'). Laid BY PROGRAM, IN A SANDBOX (cutbox-door.mjs). By AI agents, Wed Nov 11 2026. No macro, syntax, notation, axiom, sorry.
-/
import Derived.Test.YtoonhpcjcimecaaDoorRows
import GoSem.ClaimSeven
namespace Go.Proofs.YtoonhpcjcimecaaDoor
namespace Rows

/-- THE TIED CARD OF 'understudylaw09.LinkTree'. -/
def linkTreeCard : Claim7 := { stood := { row := linkTreeRow, standIns := [], harness := (true, "f08a10c20217b7a6074797a3c60738fe7e2148a9ddfc1b59f40dfa9e4e0803f4"), looks := true }, kinds := [], alts := [], laidByText := true, laidKinds := [.data, .handle, .pinned], laidTests := true, laidLooks := .later }
def LinkTreeCardSaid : Prop := Claim7.holds Tryd.pinned (.plain (OpenSpec.ofChange linkTreeSpec)) linkTreeCard

/-- THE TIED CARD OF 'understudylaw09.LinkMore'. -/
def linkMoreCard : Claim7 := { stood := { row := linkMoreRow, standIns := [], harness := (true, "f08a10c20217b7a6074797a3c60738fe7e2148a9ddfc1b59f40dfa9e4e0803f4"), looks := true }, kinds := [], alts := [], laidByText := true, laidKinds := [.data, .handle, .pinned], laidTests := true, laidLooks := .later }
def LinkMoreCardSaid : Prop := Claim7.holds Tryd.pinned (.plain (OpenSpec.ofChange linkMoreSpec)) linkMoreCard

/-- THE SECOND FORM's CARD OF 'understudylaw09.LinkTree'. -/
def linkTreeUptoCard : Claim7 := { stood := { row := linkTreeUptoRow, standIns := [], harness := (true, "f08a10c20217b7a6074797a3c60738fe7e2148a9ddfc1b59f40dfa9e4e0803f4"), looks := true }, kinds := [], alts := [], laidByText := true, laidKinds := [.data, .handle, .pinned], laidTests := true, laidLooks := .later }
def LinkTreeUptoCardSaid : Prop := Claim7.holds Tryd.pinned (.plain (OpenSpec.upto linkTreeSpec)) linkTreeUptoCard

/-- THE SECOND FORM's CARD OF 'understudylaw09.LinkMore'. -/
def linkMoreUptoCard : Claim7 := { stood := { row := linkMoreUptoRow, standIns := [], harness := (true, "f08a10c20217b7a6074797a3c60738fe7e2148a9ddfc1b59f40dfa9e4e0803f4"), looks := true }, kinds := [], alts := [], laidByText := true, laidKinds := [.data, .handle, .pinned], laidTests := true, laidLooks := .later }
def LinkMoreUptoCardSaid : Prop := Claim7.holds Tryd.pinned (.plain (OpenSpec.upto linkMoreSpec)) linkMoreUptoCard
end Rows
end Go.Proofs.YtoonhpcjcimecaaDoor
