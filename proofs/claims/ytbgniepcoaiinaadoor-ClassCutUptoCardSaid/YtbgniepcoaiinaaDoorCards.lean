/-
  DERIVED. GIVEN WITH THE SEED: THE CARDS: each row of YtbgniepcoaiinaaDoorRows.lean that lists a variable, with what it lists TIED to the program's text (the seventh form; the later family's looks); each row that meets fmt, with fmt's text TOLD by the authors' own Lean function (tested against real Go, not proved from fmt's source: count such statements apart). THE CARD IS WHAT COUNTS. Prove the row's statement (the work); the ties are given (YtbgniepcoaiinaaDoorTie.lean); close each card by the builder's one call (the guide's Derived/Test/ToyasCard.lean, 'card_holds'). Laid BY PROGRAM, IN A SANDBOX (cutbox-door.mjs). By AI agents, Wed Nov 11 2026. No macro, syntax, notation, axiom, sorry.
-/
import Derived.Test.YtbgniepcoaiinaaDoorRows
import GoSem.ClaimSeven
namespace Go.Proofs.YtbgniepcoaiinaaDoor
namespace Rows

/-- THE TIED CARD OF 'understudylaw05.ClassEncodes'. -/
def classEncodesCard : Claim7 := { stood := { row := classEncodesRow, standIns := [], harness := (true, "b18f611105258a372b444b5f4a05b616b870e4aee39fc80b771fe059f1d14bc6"), looks := true }, kinds := [], alts := [], laidByText := true, laidKinds := [.data, .handle, .pinned], laidTests := true, laidLooks := .later }
def ClassEncodesCardSaid : Prop := Claim7.holds Tryd.pinned (.plain (OpenSpec.ofChange classEncodesSpec)) classEncodesCard

/-- THE TIED CARD OF 'understudylaw05.ClassBack'. -/
def classBackCard : Claim7 := { stood := { row := classBackRow, standIns := [], harness := (true, "b18f611105258a372b444b5f4a05b616b870e4aee39fc80b771fe059f1d14bc6"), looks := true }, kinds := [], alts := [], laidByText := true, laidKinds := [.data, .handle, .pinned], laidTests := true, laidLooks := .later }
def ClassBackCardSaid : Prop := Claim7.holds Tryd.pinned (.plain (OpenSpec.ofChange classBackSpec)) classBackCard

/-- THE TIED CARD OF 'understudylaw05.ClassCut'. -/
def classCutCard : Claim7 := { stood := { row := classCutRow, standIns := [], harness := (true, "b18f611105258a372b444b5f4a05b616b870e4aee39fc80b771fe059f1d14bc6"), looks := true }, kinds := [], alts := [], laidByText := true, laidKinds := [.data, .handle, .pinned], laidTests := true, laidLooks := .later }
def ClassCutCardSaid : Prop := Claim7.holds Tryd.pinned (.plain (OpenSpec.ofChange classCutSpec)) classCutCard

/-- THE TIED CARD OF 'understudylaw05.ClassRight'. -/
def classRightCard : Claim7 := { stood := { row := classRightRow, standIns := [], harness := (true, "b18f611105258a372b444b5f4a05b616b870e4aee39fc80b771fe059f1d14bc6"), looks := true }, kinds := [], alts := [], laidByText := true, laidKinds := [.data, .handle, .pinned], laidTests := true, laidLooks := .later }
def ClassRightCardSaid : Prop := Claim7.holds Tryd.pinned (.plain (OpenSpec.ofChange classRightSpec)) classRightCard

/-- THE SECOND FORM's CARD OF 'understudylaw05.ClassEncodes'. -/
def classEncodesUptoCard : Claim7 := { stood := { row := classEncodesUptoRow, standIns := [], harness := (true, "b18f611105258a372b444b5f4a05b616b870e4aee39fc80b771fe059f1d14bc6"), looks := true }, kinds := [], alts := [], laidByText := true, laidKinds := [.data, .handle, .pinned], laidTests := true, laidLooks := .later }
def ClassEncodesUptoCardSaid : Prop := Claim7.holds Tryd.pinned (.plain (OpenSpec.upto classEncodesSpec)) classEncodesUptoCard

/-- THE SECOND FORM's CARD OF 'understudylaw05.ClassBack'. -/
def classBackUptoCard : Claim7 := { stood := { row := classBackUptoRow, standIns := [], harness := (true, "b18f611105258a372b444b5f4a05b616b870e4aee39fc80b771fe059f1d14bc6"), looks := true }, kinds := [], alts := [], laidByText := true, laidKinds := [.data, .handle, .pinned], laidTests := true, laidLooks := .later }
def ClassBackUptoCardSaid : Prop := Claim7.holds Tryd.pinned (.plain (OpenSpec.upto classBackSpec)) classBackUptoCard

/-- THE SECOND FORM's CARD OF 'understudylaw05.ClassCut'. -/
def classCutUptoCard : Claim7 := { stood := { row := classCutUptoRow, standIns := [], harness := (true, "b18f611105258a372b444b5f4a05b616b870e4aee39fc80b771fe059f1d14bc6"), looks := true }, kinds := [], alts := [], laidByText := true, laidKinds := [.data, .handle, .pinned], laidTests := true, laidLooks := .later }
def ClassCutUptoCardSaid : Prop := Claim7.holds Tryd.pinned (.plain (OpenSpec.upto classCutSpec)) classCutUptoCard

/-- THE SECOND FORM's CARD OF 'understudylaw05.ClassRight'. -/
def classRightUptoCard : Claim7 := { stood := { row := classRightUptoRow, standIns := [], harness := (true, "b18f611105258a372b444b5f4a05b616b870e4aee39fc80b771fe059f1d14bc6"), looks := true }, kinds := [], alts := [], laidByText := true, laidKinds := [.data, .handle, .pinned], laidTests := true, laidLooks := .later }
def ClassRightUptoCardSaid : Prop := Claim7.holds Tryd.pinned (.plain (OpenSpec.upto classRightSpec)) classRightUptoCard
end Rows
end Go.Proofs.YtbgniepcoaiinaaDoor
