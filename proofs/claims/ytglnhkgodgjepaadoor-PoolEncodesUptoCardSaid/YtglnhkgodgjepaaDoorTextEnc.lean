/- Plain law of modified UTF-8: what a text's bytes are ('encL'), and that the program's Encode comes to them. -/
import Derived.Test.YtglnhkgodgjepaaDoorPx2
import Derived.Test.YtglnhkgodgjepaaDoorETextEncode
import Derived.Test.YtglnhkgodgjepaaDoorTextArith
import Derived.Lib.ValidLaws
import Derived.Lib.DecodeN
import Derived.Lib.MapLaws
import Derived.Laws.BitsLemmas
namespace Go.Proofs.YtglnhkgodgjepaaDoor.Px
open Go.RowKit Go.Proofs.YtglnhkgodgjepaaDoorW.PrintWords Go.Proofs.YtglnhkgodgjepaaDoorW.PrintLast Go.Proofs.YtglnhkgodgjepaaDoorW.PrintMore
set_option linter.unusedVariables false
set_option linter.unusedSimpArgs false

theorem text_Encode.ev_one (b : List Int) (c : Int) (h0 : 0 ≤ c) (h1 : c ≤ 1114111) (hb : b.length + 6 < 140737488355328) : Ev (fun k => text_Encode.one k b c) (b ++ cuL c) := by
  unfold text_Encode.one text_split.f cuL
  by_cases hc : c < 65536
  · refine Ev.congr (f := fun k => text_unit.f k b c) (fun k => ?_) (by rw [if_pos hc]; exact text_unit.ev b c h0 hc (by omega))
    simp only [if_pos hc, Option.bind_some, if_true]
  · have e1 : wrap32 (c - 65536) = c - 65536 := w32 (by omega) (by omega)
    have e2 : bits .and .i32 (c - 65536) 1023 = (c - 65536) % 1024 := bits_mask .i32 31 (by decide) wraps_i32 10 (by decide) _ (by omega) (by omega)
    have e3 : wrap32 (55296 + (c - 65536) / 1024) = 55296 + (c - 65536) / 1024 := w32 (by omega) (by omega)
    have e4 : wrap32 (56320 + (c - 65536) % 1024) = 56320 + (c - 65536) % 1024 := w32 (by omega) (by omega)
    have hl := unitL_len (55296 + (c - 65536) / 1024)
    refine Ev.congr (f := fun k => (text_unit.f k b (55296 + (c - 65536) / 1024)).bind fun b1 => text_unit.f k b1 (56320 + (c - 65536) % 1024)) (fun k => ?_) ?_
    · simp only [if_neg hc, Option.bind_some, e1, e2, e3, e4]
      rw [if_neg (by omega)]
    rw [if_neg hc, ← List.append_assoc]
    exact Ev.bind (text_unit.ev b _ (by omega) (by omega) (by omega)) (text_unit.ev _ _ (by omega) (by omega) (by rw [List.length_append]; omega))

/-! ### a text's bytes -/
def encGo : Nat → List UInt8 → List Int
  | 0, _ => []
  | f + 1, l => if l = [] then [] else cuL ((Lib.decodeL l).1 : Int) ++ encGo f (l.drop (Lib.decodeL l).2)
def encL (l : List UInt8) : List Int := encGo l.length l
theorem encGo_fuel : ∀ n m (l : List UInt8), l.length ≤ n → l.length ≤ m → encGo n l = encGo m l
  | 0, m, l, hn, _ => by
    have : l = [] := List.length_eq_zero_iff.1 (by omega)
    subst this
    cases m <;> simp [encGo]
  | n + 1, 0, l, _, hm => by
    have : l = [] := List.length_eq_zero_iff.1 (by omega)
    subst this
    simp [encGo]
  | n + 1, m + 1, l, hn, hm => by
    unfold encGo
    by_cases hne : l = []
    · simp [hne]
    · have hw := Lib.decodeL_width l
      have hl : 0 < l.length := List.length_pos_iff.2 hne
      rw [if_neg hne, if_neg hne, encGo_fuel n m (l.drop (Lib.decodeL l).2) (by rw [List.length_drop]; omega) (by rw [List.length_drop]; omega)]
theorem encL_nil : encL [] = [] := rfl
theorem encL_step (l : List UInt8) (hne : l ≠ []) : encL l = cuL ((Lib.decodeL l).1 : Int) ++ encL (l.drop (Lib.decodeL l).2) := by
  have hl : 0 < l.length := List.length_pos_iff.2 hne
  have hw := Lib.decodeL_width l
  obtain ⟨n, hn⟩ : ∃ n, l.length = n + 1 := ⟨l.length - 1, by omega⟩
  unfold encL
  rw [hn]
  show (if l = [] then [] else _) = _
  rw [if_neg hne, encGo_fuel n (l.drop (Lib.decodeL l).2).length _ (by rw [List.length_drop]; omega) (Nat.le_refl _)]
theorem encL_len : ∀ n (l : List UInt8), l.length ≤ n → (encL l).length ≤ 6 * l.length
  | 0, l, h => by
    have : l = [] := List.length_eq_zero_iff.1 (by omega)
    subst this
    simp [encL_nil]
  | n + 1, l, h => by
    by_cases hne : l = []
    · subst hne; simp [encL_nil]
    · have hw := Lib.decodeL_width l
      have hl : 0 < l.length := List.length_pos_iff.2 hne
      have ih := encL_len n (l.drop (Lib.decodeL l).2) (by rw [List.length_drop]; omega)
      have h6 := cuL_len ((Lib.decodeL l).1 : Int)
      rw [encL_step l hne, List.length_append]
      rw [List.length_drop] at ih
      omega

theorem text_Encode.ev_l (s : ByteArray) (hs : s.size ≤ 1099511627776) : ∀ n p b, s.size - p ≤ n → b.length ≤ 6 * p → Ev (fun k => text_Encode.l0 k s p b) (b ++ encL (s.data.toList.drop p), 0)
  | 0, p, b, hn, hb => by
    refine Ev.step (f := fun _ => some (b, 0)) (fun k => ?_) ?_
    · simp only [text_Encode.l0]; rw [if_neg (by omega)]
    · have : s.data.toList.drop p = [] := List.drop_eq_nil_of_le (by rw [← Lib.size_eq]; omega)
      rw [this, encL_nil, List.append_nil]
      exact Ev.now _
  | n + 1, p, b, hn, hb => by
    by_cases hp : p < s.size
    · have hw := text_Encode.width s p hp
      have hd : Lib.decodeL (s.data.toList.drop p) = Utf8.decode s p := Lib.decodeL_drop s p
      have hr := Lib.decodeL_rune (s.data.toList.drop p)
      have hne : s.data.toList.drop p ≠ [] := by
        intro e
        have := congrArg List.length e
        rw [List.length_drop, ← Lib.size_eq] at this
        simp at this
        omega
      rw [hd] at hr
      have h6 := cuL_len ((Utf8.decode s p).1 : Int)
      have hwl := decode_le s p
      refine Ev.step (f := fun k => (text_Encode.one k b ((Utf8.decode s p).1 : Int)).bind fun b1 => text_Encode.l0 k s (p + (Utf8.decode s p).2) b1) (fun k => ?_) ?_
      · simp only [text_Encode.l0]; rw [if_pos hp]
      · rw [encL_step _ hne, hd, List.drop_drop, ← List.append_assoc]
        exact Ev.bind (text_Encode.ev_one b _ (by omega) (by omega) (by omega)) (text_Encode.ev_l s hs n _ _ (by omega) (by rw [List.length_append]; omega))
    · refine Ev.step (f := fun _ => some (b, 0)) (fun k => ?_) ?_
      · simp only [text_Encode.l0]; rw [if_neg hp]
      · have : s.data.toList.drop p = [] := List.drop_eq_nil_of_le (by rw [← Lib.size_eq]; omega)
        rw [this, encL_nil, List.append_nil]
        exact Ev.now _
/-- WHAT THE PROGRAM's ENCODE COMES TO. -/
def encV (s : ByteArray) : List Int × Int := if Lib.validD s.data.toList = true then (encL s.data.toList, 0) else ([], 20)
theorem text_Encode.ev (s : ByteArray) (hs : s.size ≤ 1099511627776) : Ev (fun k => text_Encode.f k s) (encV s) := by
  unfold text_Encode.f encV
  by_cases hv : Lib.validD s.data.toList = true
  · refine Ev.congr (f := fun k => text_Encode.l0 k s 0 []) (fun k => by rw [if_pos (by omega), if_pos hv]) ?_
    rw [if_pos hv]
    have := text_Encode.ev_l s hs s.size 0 [] (by omega) (by simp)
    simpa using this
  · refine Ev.congr (f := fun k => some ([], 20)) (fun k => by rw [if_pos (by omega), if_neg hv]) ?_
    rw [if_neg hv]
    exact Ev.now _

end Go.Proofs.YtglnhkgodgjepaaDoor.Px
