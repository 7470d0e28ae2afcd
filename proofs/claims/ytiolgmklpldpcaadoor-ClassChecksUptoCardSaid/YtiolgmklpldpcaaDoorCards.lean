/-
  DERIVED. GIVEN WITH THE SEED: THE CARDS: each row of YtiolgmklpldpcaaDoorRows.lean that lists a variable, with what it lists TIED to the program's text (the seventh form; the later family's looks); each row that meets fmt, with fmt's text TOLD by the authors' own Lean function (tested against real Go, not proved from fmt's source: count such statements apart). THE CARD IS WHAT COUNTS. Prove the row's statement (the work); the ties are given (YtiolgmklpldpcaaDoorTie.lean); close each card by the builder's one call (the guide's Derived/Test/ToyasCard.lean, 'card_holds'). Laid BY PROGRAM, IN A SANDBOX (cutbox-door.mjs). By AI agents, Wed Nov 11 2026. No macro, syntax, notation, axiom, sorry.
-/
import Derived.Test.YtiolgmklpldpcaaDoorRows
import GoSem.ClaimSeven
namespace Go.Proofs.YtiolgmklpldpcaaDoor
namespace Rows

/-- THE TIED CARD OF 'understudylaw05.ClassChecks'. -/
def classChecksCard : Claim7 := { stood := { row := classChecksRow, standIns := [], harness := (true, "54a9a3a4f04c15a0044c3e807406c853a920789b228868e76e7ae3dc53ab289e"), looks := true }, kinds := [], alts := [], laidByText := true, laidKinds := [.data, .handle, .pinned], laidTests := true, laidLooks := .later }
def ClassChecksCardSaid : Prop := Claim7.holds Tryd.pinned (.plain (OpenSpec.ofChange classChecksSpec)) classChecksCard

/-- THE SECOND FORM's CARD OF 'understudylaw05.ClassChecks'. -/
def classChecksUptoCard : Claim7 := { stood := { row := classChecksUptoRow, standIns := [], harness := (true, "54a9a3a4f04c15a0044c3e807406c853a920789b228868e76e7ae3dc53ab289e"), looks := true }, kinds := [], alts := [], laidByText := true, laidKinds := [.data, .handle, .pinned], laidTests := true, laidLooks := .later }
def ClassChecksUptoCardSaid : Prop := Claim7.holds Tryd.pinned (.plain (OpenSpec.upto classChecksSpec)) classChecksUptoCard
end Rows
end Go.Proofs.YtiolgmklpldpcaaDoor
