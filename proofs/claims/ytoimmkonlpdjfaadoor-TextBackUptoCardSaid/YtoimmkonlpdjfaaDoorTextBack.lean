/- The pure statement of TextBack. -/
import Derived.Test.YtoimmkonlpdjfaaDoorTextBackMath
import Derived.Test.YtoimmkonlpdjfaaDoorPx4
import Derived.Test.YtoimmkonlpdjfaaDoorPx2
namespace Go.Proofs.YtoimmkonlpdjfaaDoor.Px
open Go.RowKit Go.Proofs.YtoimmkonlpdjfaaDoorW.PrintWords Go.Proofs.YtoimmkonlpdjfaaDoorW.PrintLast Go.Proofs.YtoimmkonlpdjfaaDoorW.PrintMore
set_option linter.unusedVariables false
set_option linter.unusedSimpArgs false

theorem awake.now : understudylaw02_awake.f 4 = some true := by decide +kernel
theorem awake.ev' : Ev (fun k => understudylaw02_awake.f k) true := Ev.of (fun k => understudylaw02_awake.mono k) awake.now
theorem awake.bind : Ev (fun k => (understudylaw02_awake.f k).bind fun t => some t) true := Ev.bind awake.ev' (Ev.now _)
theorem strOfNums_size' (l : List Int) : (strOfNums l).size = l.length := by
  rw [Lib.size_eq]
  simp [strOfNums]
theorem TextBack_tail (l1 : List Int) (hb : IsBytes l1) (hl : l1.length ≤ 1048576) : Ev (fun k => (text_Decode.f k l1).bind fun bt163 => (if bt163.2 = 0 then ((text_Encode.f k bt163.1).bind fun bt165 => (if bt165.2 = 0 then (if (strOfNums bt165.1).toList = (strOfNums l1).toList then ((understudylaw02_awake.f k).bind fun t169 => (some t169)) else (some false)) else (some false))) else ((understudylaw02_awake.f k).bind fun t170 => (some t170)))) true := by
  refine Ev.bind (text_Decode.ev l1 hb (by omega)) ?_
  by_cases he : (DecV l1).2 = 0
  · obtain ⟨X, hX, ht, hXl, hXv, hXe⟩ := enc_dec _ l1 [] (DecV l1).1 hb (show decV (l1.length + 1) l1 [] = ((DecV l1).1, 0) from by rw [← he]; rfl)
    rw [List.nil_append] at ht
    have hE := text_Encode.ev (strOfNums X) (by rw [strOfNums_size']; omega)
    have hV : encV (strOfNums X) = (l1, 0) := by
      unfold encV
      rw [show (strOfNums X).data.toList = X.map B8 from rfl, if_pos hXv, hXe]
    rw [hV] at hE
    refine Ev.congr (fun k => if_pos he) ?_
    rw [ht]
    refine Ev.bind hE ?_
    exact Ev.congr (fun k => (if_pos rfl).trans (if_pos rfl)) awake.bind
  · exact Ev.congr (fun k => if_neg he) awake.bind
theorem TextBack_l0 (l1 : List Int) (hb : IsBytes l1) (hl : l1.length ≤ 1048576) (x : List Int) (hx : ∀ y ∈ x, y ≠ 0) (hxl : x.length ≤ 140737488351232) : ∀ (n i : Nat), x.length - i ≤ n → i ≤ x.length → Ev (fun k => understudylaw02_TextBack.l0 k l1 x (i : Int)) true := by
  intro n
  induction n with
  | zero =>
    intro i h1 h2
    refine Ev.step (fun k => ?_) (TextBack_tail l1 hb hl)
    simp only [understudylaw02_TextBack.l0]
    rw [if_neg (by omega)]
  | succ n ih =>
    intro i h1 h2
    by_cases hi : i < x.length
    · have hne : rd x (i : Int) ≠ 0 := by
        unfold rd
        rw [Int.toNat_natCast, List.getD_eq_getElem?_getD, List.getElem?_eq_getElem hi]
        exact hx _ (List.getElem_mem _)
      refine Ev.step (f := fun k => understudylaw02_TextBack.l0 k l1 x ((i + 1 : Nat) : Int)) (fun k => ?_) (ih (i + 1) (by omega) (by omega))
      simp only [understudylaw02_TextBack.l0]
      rw [if_pos (by omega), if_pos (by omega), if_neg hne, w64 (by omega) (by omega)]
      rfl
    · refine Ev.step (fun k => ?_) (TextBack_tail l1 hb hl)
      simp only [understudylaw02_TextBack.l0]
      rw [if_neg (by omega)]
theorem TextBack_pure (a0 : ByteArray) (l1 : List Int) (hs : a0.size ≤ 1048576) (hl : l1.length ≤ 1048576) (hw : ∀ x ∈ l1, (Lit.int .u8 x).wf = true) : ∃ k, understudylaw02_TextBack.f k a0 l1 = some true := by
  have hb := bytes_of_wf hw
  refine Ev.rounds ?_
  unfold understudylaw02_TextBack.f
  refine Ev.bind (text_Encode.ev a0 (by omega)) ?_
  by_cases hv : Lib.validD a0.data.toList = true
  · have hE : encV a0 = (encL a0.data.toList, 0) := by unfold encV; rw [if_pos hv]
    have hal := encL_all _ a0.data.toList (Nat.le_refl _)
    have hlen := encL_len _ a0.data.toList (Nat.le_refl _)
    rw [← Lib.size_eq] at hlen
    have hD : DecV (encL a0.data.toList) = (a0, 0) := by
      have := dec_enc _ a0.data.toList [] ((encL a0.data.toList).length + 1) (Nat.le_refl _) hv (by omega)
      rw [List.nil_append, strOfNums_nums] at this
      exact this
    rw [hE]
    refine Ev.congr (fun k => if_pos rfl) ?_
    refine Ev.bind (text_Decode.ev (encL a0.data.toList) hal.2 (by omega)) ?_
    rw [hD]
    refine Ev.congr (fun k => (if_pos rfl).trans (if_pos rfl)) ?_
    exact TextBack_l0 l1 hb hl (encL a0.data.toList) hal.1 (by omega) _ 0 (Nat.le_refl _) (by omega)
  · have hE : encV a0 = ([], 20) := by unfold encV; rw [if_neg hv]
    rw [hE]
    exact Ev.congr (fun k => if_neg (by decide)) (TextBack_tail l1 hb hl)
end Go.Proofs.YtoimmkonlpdjfaaDoor.Px
