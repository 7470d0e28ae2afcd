/-
  DERIVED. GIVEN WITH THE SEED: THE CARDS: each row of YtmloaijagkebpaaDoorRows.lean that lists a variable, with what it lists TIED to the program's text (the seventh form; the later family's looks); each row that meets fmt, with fmt's text TOLD by the authors' own Lean function (tested against real Go, not proved from fmt's source: count such statements apart). THE CARD IS WHAT COUNTS. Prove the row's statement (the work); the ties are given (YtmloaijagkebpaaDoorTie.lean); close each card by the builder's one call (the guide's Derived/Test/ToyasCard.lean, 'card_holds'). Laid BY PROGRAM, IN A SANDBOX (cutbox-door.mjs). By AI agents, Wed Nov 11 2026. No macro, syntax, notation, axiom, sorry.
-/
import Derived.Test.YtmloaijagkebpaaDoorRows
import GoSem.ClaimSeven
namespace Go.Proofs.YtmloaijagkebpaaDoor
namespace Rows

/-- THE TIED CARD OF 'understudylaw05.ClassEncodes'. -/
def classEncodesCard : Claim7 := { stood := { row := classEncodesRow, standIns := [], harness := (true, "9b369da732de53de8a82e394f86e73f3eb072fcbd213164d27ed25ac8b564166"), looks := true }, kinds := [], alts := [], laidByText := true, laidKinds := [.data, .handle, .pinned], laidTests := true, laidLooks := .later }
def ClassEncodesCardSaid : Prop := Claim7.holds Tryd.pinned (.plain (OpenSpec.ofChange classEncodesSpec)) classEncodesCard

/-- THE SECOND FORM's CARD OF 'understudylaw05.ClassEncodes'. -/
def classEncodesUptoCard : Claim7 := { stood := { row := classEncodesUptoRow, standIns := [], harness := (true, "9b369da732de53de8a82e394f86e73f3eb072fcbd213164d27ed25ac8b564166"), looks := true }, kinds := [], alts := [], laidByText := true, laidKinds := [.data, .handle, .pinned], laidTests := true, laidLooks := .later }
def ClassEncodesUptoCardSaid : Prop := Claim7.holds Tryd.pinned (.plain (OpenSpec.upto classEncodesSpec)) classEncodesUptoCard
end Rows
end Go.Proofs.YtmloaijagkebpaaDoor
