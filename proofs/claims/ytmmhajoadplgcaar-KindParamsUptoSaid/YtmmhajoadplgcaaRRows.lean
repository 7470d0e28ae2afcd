/-
  No cell of these rows narrows 'for every input' (looked for: loops, veiled, ifaces, maps, wideKeys, modest, calm, conditions, laid).
  DERIVED. THE GIVEN ROWS OF THIS SEAT. 3 by the template 'for every input the law returns true; each argument reads behind the call as it read before'; 0 by the template 'total and deterministic' (their statements: YtmmhajoadplgcaaRTotals.lean).
  GIVEN WITH THE SEED: the statements are not yours to turn. If you find one false, say at which input.
  Laid BY PROGRAM, IN A SANDBOX (cutbox-rows.mjs): the forced cells as the released guide's own fill.sh prints them over the translation b52034948a931372… (all of the seat's roots in one cut). By AI agents, Wed Nov 11 2026. No macro, syntax, notation, axiom, sorry.
-/
import Derived.Test.YtmmhajoadplgcaaRChecked
import GoSem.Claim
import GoSem.ClaimJoined
import GoSem.ClaimMapViews
import Derived.JoinedTies
import Derived.KernelRfl
namespace Go.Proofs.YtmmhajoadplgcaaR
/- THE CELL 'sum', in the pinned program and in every row, IS THE sha256 OF THE DUMP (.gsa) THAT YtmmhajoadplgcaaRProg.lean LOADS. Nothing in Lean hashes anything: it is a label: what it is worth is what the hold of that sum in a sandbox is worth. -/
noncomputable def Try.pinned : Pinned := { name := "ytmmhajoadplgcaar", sum := "b52034948a931372aaa06769c1b0f976f299db85e4b21dd9de904d9de80b21b6", checked := Try.checked }
namespace Rows
def none {H : Type} : Left H := { results := [], args := [] }

/-- 'understudylaw04.PoolLooks': WHATEVER THE INPUT: true; the input reads as it did. -/
def poolLooksSpec : ChangeSpec := { name := "poolLooks", fn := fun _ => fun
  | [d1, d2] => { results := [.lit (.bool true)], args := [d1, d2] }
  | _ => none }
def poolLooksRow : OpenClaim := { program := "ytmmhajoadplgcaar", sum := "b52034948a931372aaa06769c1b0f976f299db85e4b21dd9de904d9de80b21b6", func := "understudy/understudylaw04.PoolLooks", spec := "poolLooks", apart := false }
def PoolLooksSaid : Prop := poolLooksRow.holds Try.pinned (OpenSpec.ofChange poolLooksSpec)

/-- ITS FALSE NEIGHBOUR: 'it returns false'. Refute it at one input. -/
def poolLooksWrong : ChangeSpec := { name := "poolLooks", fn := fun _ => fun
  | [d1, d2] => { results := [.lit (.bool false)], args := [d1, d2] }
  | _ => none }
def PoolLooksWrongFalsely : Prop := poolLooksRow.holds Try.pinned (OpenSpec.ofChange poolLooksWrong)

/-- 'understudylaw08.KindFields': WHATEVER THE INPUT: true; the input reads as it did. -/
def kindFieldsSpec : ChangeSpec := { name := "kindFields", fn := fun _ => fun
  | [d] => { results := [.lit (.bool true)], args := [d] }
  | _ => none }
def kindFieldsRow : OpenClaim := { program := "ytmmhajoadplgcaar", sum := "b52034948a931372aaa06769c1b0f976f299db85e4b21dd9de904d9de80b21b6", func := "understudy/understudylaw08.KindFields", spec := "kindFields", inPlace := ["internal/bytealg.IndexByteString", "internal/bytealg.IndexString"], named := ["internal/bytealg.MaxLen"], apart := false }
def KindFieldsSaid : Prop := kindFieldsRow.holds Try.pinned (OpenSpec.ofChange kindFieldsSpec)

/-- ITS FALSE NEIGHBOUR: 'it returns false'. Refute it at one input. -/
def kindFieldsWrong : ChangeSpec := { name := "kindFields", fn := fun _ => fun
  | [d] => { results := [.lit (.bool false)], args := [d] }
  | _ => none }
def KindFieldsWrongFalsely : Prop := kindFieldsRow.holds Try.pinned (OpenSpec.ofChange kindFieldsWrong)

/-- 'understudylaw08.KindParams': WHATEVER THE INPUT: true; the input reads as it did. -/
def kindParamsSpec : ChangeSpec := { name := "kindParams", fn := fun _ => fun
  | [d1, d2] => { results := [.lit (.bool true)], args := [d1, d2] }
  | _ => none }
def kindParamsRow : OpenClaim := { program := "ytmmhajoadplgcaar", sum := "b52034948a931372aaa06769c1b0f976f299db85e4b21dd9de904d9de80b21b6", func := "understudy/understudylaw08.KindParams", spec := "kindParams", inPlace := ["internal/bytealg.IndexByteString", "internal/bytealg.IndexString"], named := ["internal/bytealg.MaxLen"], apart := false }
def KindParamsSaid : Prop := kindParamsRow.holds Try.pinned (OpenSpec.ofChange kindParamsSpec)

/-- ITS FALSE NEIGHBOUR: 'it returns false'. Refute it at one input. -/
def kindParamsWrong : ChangeSpec := { name := "kindParams", fn := fun _ => fun
  | [d1, d2] => { results := [.lit (.bool false)], args := [d1, d2] }
  | _ => none }
def KindParamsWrongFalsely : Prop := kindParamsRow.holds Try.pinned (OpenSpec.ofChange kindParamsWrong)

/- THE SECOND FORM. 'bulk': how many values and letters a reading holds, each counted each time it is reached (what is shared counts as often as it is met; a slice's spare places count too). A statement '..UptoSaid' is the law's where the arguments, and the package variables that the reading takes, are together of bulk at most 1048576: NARROWER than '..Said'. Prove '..Said' where nothing that the law and all that it calls make is longer than what came in: it says more and counts as full. Else prove '..UptoSaid'. A law counts once. -/
mutual
def uptoBulk {H : Type} : DataW H → Nat
  | .lit (.string bytes) => bytes.length + 1
  | .lit _ => 1
  | .nil => 1
  | .ptr d => uptoBulk d + 1
  | .slice elems spare => uptoBulkAll elems + uptoBulkAll spare + 1
  | .agg parts => uptoBulkAll parts + 1
  | .iface _ d => uptoBulk d + 1
  | .map entries => uptoBulkEntries entries + 1
  | .held _ => 1
def uptoBulkAll {H : Type} : List (DataW H) → Nat
  | [] => 0
  | d :: r => uptoBulk d + uptoBulkAll r
def uptoBulkEntries {H : Type} : List (Lit × DataW H) → Nat
  | [] => 0
  | x :: r => uptoBulkEntry x + uptoBulkEntries r
def uptoBulkEntry {H : Type} : Lit × DataW H → Nat
  | (.string bytes, d) => bytes.length + uptoBulk d + 1
  | (_, d) => uptoBulk d + 1
 end
def uptoSmall : (H : Type) → List (DataW H) → Bool := fun _ ds => decide (uptoBulkAll ds ≤ 1048576)
def OpenSpec.upto (s : _root_.Go.ChangeSpec) : _root_.Go.OpenSpec := { _root_.Go.OpenSpec.ofChange s with cond := some uptoSmall }

/-- 'understudylaw04.PoolLooks', WHERE WHAT IT READS IS OF BULK AT MOST 1048576: true; the input reads as it did. -/
def poolLooksUptoRow : OpenClaim := { program := "ytmmhajoadplgcaar", sum := "b52034948a931372aaa06769c1b0f976f299db85e4b21dd9de904d9de80b21b6", func := "understudy/understudylaw04.PoolLooks", spec := "poolLooks", apart := false, narrowed := true }
def PoolLooksUptoSaid : Prop := poolLooksUptoRow.holds Try.pinned (OpenSpec.upto poolLooksSpec)

/-- 'understudylaw08.KindFields', WHERE WHAT IT READS IS OF BULK AT MOST 1048576: true; the input reads as it did. -/
def kindFieldsUptoRow : OpenClaim := { program := "ytmmhajoadplgcaar", sum := "b52034948a931372aaa06769c1b0f976f299db85e4b21dd9de904d9de80b21b6", func := "understudy/understudylaw08.KindFields", spec := "kindFields", inPlace := ["internal/bytealg.IndexByteString", "internal/bytealg.IndexString"], named := ["internal/bytealg.MaxLen"], apart := false, narrowed := true }
def KindFieldsUptoSaid : Prop := kindFieldsUptoRow.holds Try.pinned (OpenSpec.upto kindFieldsSpec)

/-- 'understudylaw08.KindParams', WHERE WHAT IT READS IS OF BULK AT MOST 1048576: true; the input reads as it did. -/
def kindParamsUptoRow : OpenClaim := { program := "ytmmhajoadplgcaar", sum := "b52034948a931372aaa06769c1b0f976f299db85e4b21dd9de904d9de80b21b6", func := "understudy/understudylaw08.KindParams", spec := "kindParams", inPlace := ["internal/bytealg.IndexByteString", "internal/bytealg.IndexString"], named := ["internal/bytealg.MaxLen"], apart := false, narrowed := true }
def KindParamsUptoSaid : Prop := kindParamsUptoRow.holds Try.pinned (OpenSpec.upto kindParamsSpec)

end Rows
end Go.Proofs.YtmmhajoadplgcaaR
