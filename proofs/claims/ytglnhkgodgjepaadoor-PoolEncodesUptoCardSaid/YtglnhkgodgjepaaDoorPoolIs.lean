/- Plain law of a pool's places: does a place lead to a tag, and to which text. -/
import Derived.Test.YtglnhkgodgjepaaDoorPx2
import Derived.Lib.Strings
namespace Go.Proofs.YtglnhkgodgjepaaDoor.Px
open Go.RowKit Go.Proofs.YtglnhkgodgjepaaDoorW.PrintWords Go.Proofs.YtglnhkgodgjepaaDoorW.PrintLast Go.Proofs.YtglnhkgodgjepaaDoorW.PrintMore
set_option linter.unusedVariables false
set_option linter.unusedSimpArgs false

/-- Does a place lead to a tag? -/
def isV (l : List S33) (i tag : Int) : Bool := decide (0 < i ∧ i < (l.length : Int) ∧ (rd_T33 l i).f0 = tag)
def noText : ByteArray := ⟨#[]⟩
def textV (l : List S33) (i : Int) : ByteArray × Bool := if isV l i 1 = true then ((rd_T33 l i).f1, true) else (noText, false)
theorem isV_pos {l : List S33} {i tag : Int} (h : isV l i tag = true) : 0 < i ∧ i < (l.length : Int) ∧ (rd_T33 l i).f0 = tag := of_decide_eq_true h
theorem pool_is.eq (l : List S33) (i tag : Int) : pool_is.f l i tag = some (isV l i tag) := by
  unfold pool_is.f isV
  by_cases h1 : i > 0
  · rw [if_pos h1]
    by_cases h2 : i < (l.length : Int)
    · rw [if_pos h2, if_pos (by omega)]
      congr 1
      rw [Bool.eq_iff_iff]
      simp only [beq_iff_eq, decide_eq_true_eq]
      exact ⟨fun h => ⟨h1, h2, h⟩, fun h => h.2.2⟩
    · rw [if_neg h2, decide_eq_false (by omega)]
  · rw [if_neg h1, decide_eq_false (by omega)]
theorem pool_Text.eq (l : List S33) (i : Int) : pool_Text.f l i = some (textV l i) := by
  unfold pool_Text.f textV
  rw [pool_is.eq, Option.bind_some]
  by_cases h : isV l i 1 = true
  · have := isV_pos h
    rw [if_pos h, if_pos h, if_pos (by omega), if_pos this.2.1]
  · rw [if_neg h, if_neg h]; rfl
end Go.Proofs.YtglnhkgodgjepaaDoor.Px
