/- Plain law of a pool's looks: texts, classes, members of any place; the program's and the reference's answers are these. -/
import Derived.Test.YtmmhajoadplgcaaRPx2
import Derived.Test.YtmmhajoadplgcaaRPx3
namespace Go.Proofs.YtmmhajoadplgcaaR.Px
open Go.RowKit Go.Proofs.YtmmhajoadplgcaaRW.PrintWords Go.Proofs.YtmmhajoadplgcaaRW.PrintLast Go.Proofs.YtmmhajoadplgcaaRW.PrintMore
set_option linter.unusedVariables false
set_option linter.unusedSimpArgs false

/-- Does a place lead to a tag? -/
def isV (l : List S45) (i tag : Int) : Bool := decide (0 < i ∧ i < (l.length : Int) ∧ (rd_T45 l i).f0 = tag)
def noText : ByteArray := ⟨#[]⟩
def textV (l : List S45) (i : Int) : ByteArray × Bool := if isV l i 1 = true then ((rd_T45 l i).f1, true) else (noText, false)
def classV (l : List S45) (i : Int) : ByteArray × Bool := if isV l i 7 = true then textV l (rd_T45 l i).f3 else (noText, false)
def refV (l : List S45) (i : Int) : ByteArray × ByteArray × ByteArray × Bool :=
  if (isV l i 9 || isV l i 10) = true ∧ isV l (rd_T45 l i).f4 12 = true ∧ (classV l (rd_T45 l i).f3).2 = true ∧ (textV l (rd_T45 l (rd_T45 l i).f4).f3).2 = true ∧ (textV l (rd_T45 l (rd_T45 l i).f4).f4).2 = true
  then ((classV l (rd_T45 l i).f3).1, (textV l (rd_T45 l (rd_T45 l i).f4).f3).1, (textV l (rd_T45 l (rd_T45 l i).f4).f4).1, true) else (noText, noText, noText, false)
theorem isV_pos {l : List S45} {i tag : Int} (h : isV l i tag = true) : 0 < i ∧ i < (l.length : Int) ∧ (rd_T45 l i).f0 = tag := of_decide_eq_true h

theorem pool_is.eq (l : List S45) (i tag : Int) : pool_is.f l i tag = some (isV l i tag) := by
  unfold pool_is.f isV
  by_cases h1 : i > 0
  · rw [if_pos h1]
    by_cases h2 : i < (l.length : Int)
    · rw [if_pos h2, if_pos (by omega)]
      congr 1
      rw [Bool.eq_iff_iff]
      simp only [beq_iff_eq, decide_eq_true_eq]
      exact ⟨fun h => ⟨h1, h2, h⟩, fun h => h.2.2⟩
    · rw [if_neg h2, decide_eq_false (by omega)]
  · rw [if_neg h1, decide_eq_false (by omega)]
theorem ref_is.eq (l : List S45) (i tag : Int) : understudyref04_is.f l i tag = some (isV l i tag) := by
  rw [← pool_is.eq]
  unfold understudyref04_is.f pool_is.f
  by_cases h1 : i > 0
  · rw [if_pos h1, if_pos (by omega)]
  · rw [if_neg h1, if_neg (by omega)]
theorem pool_Text.eq (l : List S45) (i : Int) : pool_Text.f l i = some (textV l i) := by
  unfold pool_Text.f textV
  rw [pool_is.eq, Option.bind_some]
  by_cases h : isV l i 1 = true
  · have := isV_pos h
    rw [if_pos h, if_pos h, if_pos (by omega), if_pos this.2.1]
  · rw [if_neg h, if_neg h]; rfl
theorem ref_Text.eq (l : List S45) (i : Int) : understudyref04_Text.f l i = some (textV l i) := by
  rw [← pool_Text.eq]
  unfold understudyref04_Text.f pool_Text.f
  rw [ref_is.eq, pool_is.eq]
theorem pool_Class.eq (l : List S45) (i : Int) : pool_Class.f l i = some (classV l i) := by
  unfold pool_Class.f classV
  rw [pool_is.eq, Option.bind_some]
  by_cases h : isV l i 7 = true
  · have := isV_pos h
    rw [if_pos h, if_pos h, if_pos (by omega), if_pos this.2.1, pool_Text.eq, Option.bind_some]
  · rw [if_neg h, if_neg h]; rfl
theorem ref_Class.eq (l : List S45) (i : Int) : understudyref04_Class.f l i = some (classV l i) := by
  rw [← pool_Class.eq]
  unfold understudyref04_Class.f pool_Class.f
  simp only [ref_is.eq, pool_is.eq, ref_Text.eq, pool_Text.eq]
theorem pool_Ref.eq (k : Nat) (l : List S45) (i : Int) : pool_Ref.f (k + 1) l i = some (refV l i) := by
  have key : ∀ b, b = (isV l i 9 || isV l i 10) → pool_Ref.j0 (k + 1) l i b = some (refV l i) := by
    intro b hb
    simp only [pool_Ref.j0]
    unfold refV
    by_cases h : b = true
    · have hi : 0 < i ∧ i < (l.length : Int) := by
        rw [h] at hb
        rcases Bool.or_eq_true _ _ ▸ hb.symm with h1 | h1
        · exact ⟨(isV_pos h1).1, (isV_pos h1).2.1⟩
        · exact ⟨(isV_pos h1).1, (isV_pos h1).2.1⟩
      rw [if_pos h, if_pos (by omega), if_pos hi.2, pool_is.eq, Option.bind_some]
      rw [hb] at h
      by_cases h12 : isV l (rd_T45 l i).f4 12 = true
      · have h4 := isV_pos h12
        rw [if_pos h12, pool_Class.eq, Option.bind_some, if_pos (by omega), if_pos h4.2.1, pool_Text.eq, Option.bind_some, pool_Text.eq, Option.bind_some]
        by_cases c1 : (classV l (rd_T45 l i).f3).2 = true
        · rw [if_pos c1]
          by_cases c2 : (textV l (rd_T45 l (rd_T45 l i).f4).f3).2 = true
          · rw [if_pos c2]
            by_cases c3 : (textV l (rd_T45 l (rd_T45 l i).f4).f4).2 = true
            · rw [if_pos c3, if_pos ⟨h, h12, c1, c2, c3⟩]
            · rw [if_neg c3, if_neg (fun hh => c3 hh.2.2.2.2)]; rfl
          · rw [if_neg c2, if_neg (fun hh => c2 hh.2.2.2.1)]; rfl
        · rw [if_neg c1, if_neg (fun hh => c1 hh.2.2.1)]; rfl
      · rw [if_neg h12, if_neg (fun hh => h12 hh.2.1)]; rfl
    · rw [if_neg h]
      rw [hb] at h
      rw [if_neg (fun hh => h hh.1)]; rfl
  unfold pool_Ref.f
  rw [pool_is.eq, Option.bind_some]
  by_cases h9 : isV l i 9 = true
  · rw [if_pos h9, key true (by rw [h9]; rfl)]
  · have h9' : isV l i 9 = false := by simpa using h9
    rw [if_neg h9, pool_is.eq, Option.bind_some, key _ (by rw [h9']; rfl)]
theorem ref_Ref.eq (k : Nat) (l : List S45) (i : Int) : understudyref04_Ref.f (k + 2) l i = some (refV l i) := by
  have key : ∀ b, b = (!(isV l i 9 || isV l i 10)) → understudyref04_Ref.j0 (k + 2) l i b = some (refV l i) := by
    intro b hb
    simp only [understudyref04_Ref.j0]
    unfold refV
    by_cases h : (isV l i 9 || isV l i 10) = true
    · have hi : 0 < i ∧ i < (l.length : Int) := by
        rcases Bool.or_eq_true _ _ ▸ h with h1 | h1
        · exact ⟨(isV_pos h1).1, (isV_pos h1).2.1⟩
        · exact ⟨(isV_pos h1).1, (isV_pos h1).2.1⟩
      rw [if_neg (by rw [hb, h]; simp), if_pos (by omega), if_pos hi.2, ref_Class.eq, Option.bind_some]
      by_cases c1 : (classV l (rd_T45 l i).f3).2 = true
      · rw [if_pos c1, ref_is.eq, Option.bind_some]
        simp only [understudyref04_Ref.j1]
        by_cases h12 : isV l (rd_T45 l i).f4 12 = true
        · have h4 := isV_pos h12
          rw [if_neg (by rw [h12]; simp), if_pos (by omega), if_pos h4.2.1, ref_Text.eq, Option.bind_some, ref_Text.eq, Option.bind_some]
          by_cases c2 : (textV l (rd_T45 l (rd_T45 l i).f4).f3).2 = true
          · rw [if_pos c2]
            by_cases c3 : (textV l (rd_T45 l (rd_T45 l i).f4).f4).2 = true
            · rw [if_pos c3, if_pos ⟨h, h12, c1, c2, c3⟩]
            · rw [if_neg c3, if_neg (fun hh => c3 hh.2.2.2.2)]; rfl
          · rw [if_neg c2, if_neg (fun hh => c2 hh.2.2.2.1)]; rfl
        · have h12' : isV l (rd_T45 l i).f4 12 = false := by simpa using h12
          rw [if_pos (by rw [h12']; rfl), if_neg (fun hh => h12 hh.2.1)]; rfl
      · rw [if_neg c1]
        simp only [understudyref04_Ref.j1]
        rw [if_pos trivial, if_neg (fun hh => c1 hh.2.2.1)]; rfl
    · have h' : (isV l i 9 || isV l i 10) = false := by simpa using h
      rw [if_pos (by rw [hb, h']; rfl), if_neg (fun hh => h hh.1)]; rfl
  unfold understudyref04_Ref.f
  rw [ref_is.eq, Option.bind_some]
  by_cases h9 : isV l i 9 = true
  · rw [if_pos h9, key false (by rw [h9]; rfl)]
  · have h9' : isV l i 9 = false := by simpa using h9
    rw [if_neg h9, ref_is.eq, Option.bind_some, key _ (by rw [h9']; rfl)]
end Go.Proofs.YtmmhajoadplgcaaR.Px
