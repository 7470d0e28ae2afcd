/- Small laws for the rows: what the bound on bulk gives; a slice of whole numbers, as the walks want it; what the listed tables give. -/
import Derived.Test.YtoimmkonlpdjfaaDoorRowBulk
import Derived.Test.YtoimmkonlpdjfaaDoorGG
import Derived.Test.YtoimmkonlpdjfaaDoorWSized
import Derived.WalkKit
import Derived.ProofKit
import Derived.OpenShut
import Derived.ShutString
import Derived.Lib.LaidU8T
import Derived.Lib.LaidIn
import Derived.PinnedBridge
import Derived.MakeChecks
namespace Go.Proofs.YtoimmkonlpdjfaaDoor.Px
open Go.RowKit Go.ChangeShapes Go.WideShapes Go.ChangeAt Go.Lib Go.Proofs.YtoimmkonlpdjfaaDoorW.PrintWords Go.Proofs.YtoimmkonlpdjfaaDoorW.PrintLast Go.Proofs.YtoimmkonlpdjfaaDoorW.PrintMore
set_option linter.unusedVariables false

theorem int_row {H : Type} {enc : TypeId × Value → H} {P : Program} {W : World} {t e : TypeId} {k : IntKind} {a : Option Addr} {len cap : Nat} {d : DataW H} {p : List MemPlace}
    (ht : P.underlying t = some (.slice e)) (he : P.underlying e = some (.int k)) (hc : P.cellsOf e = 1) (h : DataW.Trod enc P W 0 (fun _ => true) true t (.slice a len cap) d p) :
    ∃ l : List Int, len = l.length ∧ ReadsInt W k a l.length l ∧ (∀ x ∈ l, (Lit.int k x).wf = true) ∧ l.length ≤ cap ∧ l.length ≤ maxLen ∧ ∀ B, Rows.uptoBulk d ≤ B → l.length ≤ B := by
  obtain ⟨fuel, hf⟩ := h
  rcases open_ints ht he hc hf with ⟨hcs, hx⟩ | ⟨x, l, c, zs, hcs, _, hl, hm, hz, hx, hcell, hwz⟩
  · simp [Value.cells] at hcs
    obtain ⟨rfl, rfl, rfl⟩ := hcs
    obtain ⟨l, e1, h1, h2, h3, h4⟩ := ReadsInt.ofRowC (k := k) (w := W) (zs := []) (.inl ⟨rfl, rfl, rfl, rfl⟩)
    exact ⟨l, e1, h1, h3, h4, h2, fun B _ => by omega⟩
  · simp [Value.cells] at hcs
    obtain ⟨rfl, rfl, rfl⟩ := hcs
    simp only [if_true] at hz
    obtain ⟨l, e1, h1, h2, h3, h4⟩ := ReadsInt.ofRowC (k := k) (w := W) (.inr ⟨_, rfl, hl, hm, hz, hcell, hwz⟩)
    refine ⟨l, e1, h1, h3, h4, h2, fun B hB => ?_⟩
    obtain ⟨hx, _⟩ := Prod.mk.inj hx
    subst hx
    simp only [Rows.uptoBulk] at hB
    have := bulk_length (H := H) (lits k (zs.take len))
    have e2 : (lits (H := H) k (zs.take len)).length = len := by simp [lits]; omega
    omega
theorem GG.of_laid {l : List (String × DataW Unit)} {W : World} (h : laidMet Tryd.prog l W) (h1 : ("unicode/utf8.acceptRanges", Rows.laid_unicode_utf8_acceptRanges) ∈ l) (h2 : ("unicode/utf8.first", Rows.laid_unicode_utf8_first) ∈ l) (hS : W.ShapedOpen Tryd.prog) : GG W :=
  ⟨utf8Tabs_of_readsT (U8Types.of196 Tryd.laysValid) ⟨by kernel_rfl, by kernel_rfl, by kernel_rfl, by kernel_rfl, by kernel_rfl, by kernel_rfl, by kernel_rfl⟩ (by have := Lib.laidMet.reads h h2; unfold Rows.laid_unicode_utf8_first at this; rw [Pinned.utf8First_eq] at this; exact this) (Lib.laidMet.reads h h1)⟩
end Go.Proofs.YtoimmkonlpdjfaaDoor.Px
