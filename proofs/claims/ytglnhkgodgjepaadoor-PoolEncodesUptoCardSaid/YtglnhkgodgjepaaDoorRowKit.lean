/- Small laws for the rows: what the bound on bulk gives; a slice of whole numbers, as the walks want it; what the listed tables and errors.errorType give. -/
import Derived.Test.YtglnhkgodgjepaaDoorRowBulk
import Derived.Test.YtglnhkgodgjepaaDoorGG
import Derived.Test.YtglnhkgodgjepaaDoorWSized
import Derived.WalkKit
import Derived.ProofKit
import Derived.OpenShut
import Derived.ShutString
import Derived.Lib.LaidU8T
import Derived.Lib.LaidIn
import Derived.PinnedBridge
import Derived.MakeChecks
import Derived.LaidSub
import Derived.LaidHandle
namespace Go.Proofs.YtglnhkgodgjepaaDoor.Px
open Go.RowKit Go.ChangeShapes Go.WideShapes Go.ChangeAt Go.Lib Go.Proofs.YtglnhkgodgjepaaDoorW.PrintWords Go.Proofs.YtglnhkgodgjepaaDoorW.PrintLast Go.Proofs.YtglnhkgodgjepaaDoorW.PrintMore
set_option linter.unusedVariables false

theorem int_row {H : Type} {enc : TypeId × Value → H} {P : Program} {W : World} {t e : TypeId} {k : IntKind} {a : Option Addr} {len cap : Nat} {d : DataW H} {p : List MemPlace}
    (ht : P.underlying t = some (.slice e)) (he : P.underlying e = some (.int k)) (hc : P.cellsOf e = 1) (h : DataW.Trod enc P W 0 (fun _ => true) true t (.slice a len cap) d p) :
    ∃ l : List Int, len = l.length ∧ ReadsInt W k a l.length l ∧ (∀ x ∈ l, (Lit.int k x).wf = true) ∧ l.length ≤ cap ∧ l.length ≤ maxLen ∧ ∀ B, Rows.uptoBulk d ≤ B → l.length ≤ B := by
  obtain ⟨fuel, hf⟩ := h
  rcases open_ints ht he hc hf with ⟨hcs, hx⟩ | ⟨x, l, c, zs, hcs, _, hl, hm, hz, hx, hcell, hwz⟩
  · simp [Value.cells] at hcs
    obtain ⟨rfl, rfl, rfl⟩ := hcs
    obtain ⟨l, e1, h1, h2, h3, h4⟩ := ReadsInt.ofRowC (k := k) (w := W) (zs := []) (.inl ⟨rfl, rfl, rfl, rfl⟩)
    exact ⟨l, e1, h1, h3, h4, h2, fun B _ => by omega⟩
  · simp [Value.cells] at hcs
    obtain ⟨rfl, rfl, rfl⟩ := hcs
    simp only [if_true] at hz
    obtain ⟨l, e1, h1, h2, h3, h4⟩ := ReadsInt.ofRowC (k := k) (w := W) (.inr ⟨_, rfl, hl, hm, hz, hcell, hwz⟩)
    refine ⟨l, e1, h1, h3, h4, h2, fun B hB => ?_⟩
    obtain ⟨hx, _⟩ := Prod.mk.inj hx
    subst hx
    simp only [Rows.uptoBulk] at hB
    have := bulk_length (H := H) (lits k (zs.take len))
    have e2 : (lits (H := H) k (zs.take len)).length = len := by simp [lits]; omega
    omega
theorem laid_et : Tryd.prog.globalNamed "errors.errorType" = some 0 := by kernel_rfl
theorem laid_rt : (Tryd.prog.cutTypes.find? (·.1 == "internal/reflectlite.rtype")).map (·.2) = some 122 := by kernel_rfl
theorem laid_oneRow : ((List.range 180).filter fun t => Tryd.prog.rowNamed t [101, 114, 114, 111, 114]) = [49] := by kernel_rfl
theorem laid_size : Tryd.prog.types.size = 180 := by kernel_rfl
theorem GG.of_laid {l : List (String × DataW Unit)} {W : World} (h : laidMetH Tryd.prog l W) (h1 : ("unicode/utf8.acceptRanges", Rows.laid_unicode_utf8_acceptRanges) ∈ l) (h2 : ("unicode/utf8.first", Rows.laid_unicode_utf8_first) ∈ l) (h3 : ("errors.errorType", Rows.laid_errors_errorType) ∈ l) (hS : W.ShapedOpen Tryd.prog) : GG W := by
  obtain ⟨hp, hh⟩ := laidMetH_iff.1 h
  refine ⟨utf8Tabs_of_readsT (U8Types.of196 Tryd.laysValid) ⟨by kernel_rfl, by kernel_rfl, by kernel_rfl, by kernel_rfl, by kernel_rfl, by kernel_rfl, by kernel_rfl⟩ (by have := Lib.laidMet.reads hp (List.mem_filter.2 ⟨h2, by kernel_rfl⟩); unfold Rows.laid_unicode_utf8_first at this; rw [Pinned.utf8First_eq] at this; exact this) (Lib.laidMet.reads hp (List.mem_filter.2 ⟨h1, by kernel_rfl⟩)), ?_⟩
  obtain ⟨name, u, ty, e1, e2, e3, e4, e5⟩ := hh _ (List.mem_filter.2 ⟨h3, by kernel_rfl⟩)
  have en : name = [101, 114, 114, 111, 114] := (Option.some.inj e1).symm
  subst en
  obtain rfl := Option.some.inj (laid_rt.symm.trans e2)
  have hm : ty ∈ (List.range 180).filter fun t => Tryd.prog.rowNamed t [101, 114, 114, 111, 114] := List.mem_filter.2 ⟨List.mem_range.2 (by rw [← laid_size]; exact e3), e4⟩
  rw [laid_oneRow] at hm
  obtain rfl := List.mem_singleton.1 hm
  have hh : typeHandle Tryd.prog 49 = .pointer (some ⟨3, 49, none⟩) := by kernel_rfl
  rw [hh] at e5
  simpa using World.var?_cell laid_et e5 0
end Go.Proofs.YtglnhkgodgjepaaDoor.Px
