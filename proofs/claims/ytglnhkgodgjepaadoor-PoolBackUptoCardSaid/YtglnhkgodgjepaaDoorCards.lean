/-
  DERIVED. GIVEN WITH THE SEED: THE CARDS: each row of YtglnhkgodgjepaaDoorRows.lean that lists a variable, with what it lists TIED to the program's text (the seventh form; the later family's looks); each row that meets fmt, with fmt's text TOLD by the authors' own Lean function (tested against real Go, not proved from fmt's source: count such statements apart). THE CARD IS WHAT COUNTS. Prove the row's statement (the work); the ties are given (YtglnhkgodgjepaaDoorTie.lean); close each card by the builder's one call (the guide's Derived/Test/ToyasCard.lean, 'card_holds'). Laid BY PROGRAM, IN A SANDBOX (cutbox-door.mjs). By AI agents, Wed Nov 11 2026. No macro, syntax, notation, axiom, sorry.
-/
import Derived.Test.YtglnhkgodgjepaaDoorRows
import GoSem.ClaimSeven
namespace Go.Proofs.YtglnhkgodgjepaaDoor
namespace Rows

/-- THE TIED CARD OF 'understudylaw04.PoolChecks'. -/
def poolChecksCard : Claim7 := { stood := { row := poolChecksRow, standIns := [], harness := (true, "1c1a04404d5c159d06abd663ddf7fb385cf917ec48b22c493593323d8e954181"), looks := true }, kinds := [], alts := [], laidByText := true, laidKinds := [.data, .handle, .pinned], laidTests := true, laidLooks := .later }
def PoolChecksCardSaid : Prop := Claim7.holds Tryd.pinned (.plain (OpenSpec.ofChange poolChecksSpec)) poolChecksCard

/-- THE TIED CARD OF 'understudylaw04.PoolRight'. -/
def poolRightCard : Claim7 := { stood := { row := poolRightRow, standIns := [], harness := (true, "1c1a04404d5c159d06abd663ddf7fb385cf917ec48b22c493593323d8e954181"), looks := true }, kinds := [], alts := [], laidByText := true, laidKinds := [.data, .handle, .pinned], laidTests := true, laidLooks := .later }
def PoolRightCardSaid : Prop := Claim7.holds Tryd.pinned (.plain (OpenSpec.ofChange poolRightSpec)) poolRightCard

/-- THE TIED CARD OF 'understudylaw04.PoolEncodes'. -/
def poolEncodesCard : Claim7 := { stood := { row := poolEncodesRow, standIns := [], harness := (true, "1c1a04404d5c159d06abd663ddf7fb385cf917ec48b22c493593323d8e954181"), looks := true }, kinds := [], alts := [], laidByText := true, laidKinds := [.data, .handle, .pinned], laidTests := true, laidLooks := .later }
def PoolEncodesCardSaid : Prop := Claim7.holds Tryd.pinned (.plain (OpenSpec.ofChange poolEncodesSpec)) poolEncodesCard

/-- THE TIED CARD OF 'understudylaw04.PoolDecodes'. -/
def poolDecodesCard : Claim7 := { stood := { row := poolDecodesRow, standIns := [], harness := (true, "1c1a04404d5c159d06abd663ddf7fb385cf917ec48b22c493593323d8e954181"), looks := true }, kinds := [], alts := [], laidByText := true, laidKinds := [.data, .handle, .pinned], laidTests := true, laidLooks := .later }
def PoolDecodesCardSaid : Prop := Claim7.holds Tryd.pinned (.plain (OpenSpec.ofChange poolDecodesSpec)) poolDecodesCard

/-- THE TIED CARD OF 'understudylaw04.PoolBack'. -/
def poolBackCard : Claim7 := { stood := { row := poolBackRow, standIns := [], harness := (true, "1c1a04404d5c159d06abd663ddf7fb385cf917ec48b22c493593323d8e954181"), looks := true }, kinds := [], alts := [], laidByText := true, laidKinds := [.data, .handle, .pinned], laidTests := true, laidLooks := .later }
def PoolBackCardSaid : Prop := Claim7.holds Tryd.pinned (.plain (OpenSpec.ofChange poolBackSpec)) poolBackCard

/-- THE SECOND FORM's CARD OF 'understudylaw04.PoolChecks'. -/
def poolChecksUptoCard : Claim7 := { stood := { row := poolChecksUptoRow, standIns := [], harness := (true, "1c1a04404d5c159d06abd663ddf7fb385cf917ec48b22c493593323d8e954181"), looks := true }, kinds := [], alts := [], laidByText := true, laidKinds := [.data, .handle, .pinned], laidTests := true, laidLooks := .later }
def PoolChecksUptoCardSaid : Prop := Claim7.holds Tryd.pinned (.plain (OpenSpec.upto poolChecksSpec)) poolChecksUptoCard

/-- THE SECOND FORM's CARD OF 'understudylaw04.PoolRight'. -/
def poolRightUptoCard : Claim7 := { stood := { row := poolRightUptoRow, standIns := [], harness := (true, "1c1a04404d5c159d06abd663ddf7fb385cf917ec48b22c493593323d8e954181"), looks := true }, kinds := [], alts := [], laidByText := true, laidKinds := [.data, .handle, .pinned], laidTests := true, laidLooks := .later }
def PoolRightUptoCardSaid : Prop := Claim7.holds Tryd.pinned (.plain (OpenSpec.upto poolRightSpec)) poolRightUptoCard

/-- THE SECOND FORM's CARD OF 'understudylaw04.PoolEncodes'. -/
def poolEncodesUptoCard : Claim7 := { stood := { row := poolEncodesUptoRow, standIns := [], harness := (true, "1c1a04404d5c159d06abd663ddf7fb385cf917ec48b22c493593323d8e954181"), looks := true }, kinds := [], alts := [], laidByText := true, laidKinds := [.data, .handle, .pinned], laidTests := true, laidLooks := .later }
def PoolEncodesUptoCardSaid : Prop := Claim7.holds Tryd.pinned (.plain (OpenSpec.upto poolEncodesSpec)) poolEncodesUptoCard

/-- THE SECOND FORM's CARD OF 'understudylaw04.PoolDecodes'. -/
def poolDecodesUptoCard : Claim7 := { stood := { row := poolDecodesUptoRow, standIns := [], harness := (true, "1c1a04404d5c159d06abd663ddf7fb385cf917ec48b22c493593323d8e954181"), looks := true }, kinds := [], alts := [], laidByText := true, laidKinds := [.data, .handle, .pinned], laidTests := true, laidLooks := .later }
def PoolDecodesUptoCardSaid : Prop := Claim7.holds Tryd.pinned (.plain (OpenSpec.upto poolDecodesSpec)) poolDecodesUptoCard

/-- THE SECOND FORM's CARD OF 'understudylaw04.PoolBack'. -/
def poolBackUptoCard : Claim7 := { stood := { row := poolBackUptoRow, standIns := [], harness := (true, "1c1a04404d5c159d06abd663ddf7fb385cf917ec48b22c493593323d8e954181"), looks := true }, kinds := [], alts := [], laidByText := true, laidKinds := [.data, .handle, .pinned], laidTests := true, laidLooks := .later }
def PoolBackUptoCardSaid : Prop := Claim7.holds Tryd.pinned (.plain (OpenSpec.upto poolBackSpec)) poolBackUptoCard
end Rows
end Go.Proofs.YtglnhkgodgjepaaDoor
