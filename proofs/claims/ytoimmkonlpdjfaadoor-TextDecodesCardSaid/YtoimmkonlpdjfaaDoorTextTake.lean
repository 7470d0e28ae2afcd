/- Plain law of a unit that is read: the program's and the reference's both are 'takeV'. -/
import Derived.Test.YtoimmkonlpdjfaaDoorTextArith
import Derived.Test.YtoimmkonlpdjfaaDoorETextDecode
import Derived.Test.YtoimmkonlpdjfaaDoorPx4
namespace Go.Proofs.YtoimmkonlpdjfaaDoor.Px
open Go.RowKit Go.Proofs.YtoimmkonlpdjfaaDoorW.PrintWords Go.Proofs.YtoimmkonlpdjfaaDoorW.PrintLast Go.Proofs.YtoimmkonlpdjfaaDoorW.PrintMore
set_option linter.unusedVariables false
set_option linter.unusedSimpArgs false

def V2 (L : List Int) : Int := (rd L 0 - 192) * 64 + (rd L 1 - 128)
def V3 (L : List Int) : Int := (rd L 0 - 224) * 4096 + (rd L 1 - 128) * 64 + (rd L 2 - 128)
/-- The unit at the beginning, and how many bytes it has. -/
def takeV (L : List Int) : Option (Int × Nat) :=
  if 1 ≤ rd L 0 ∧ rd L 0 ≤ 127 then some (rd L 0, 1)
  else if 192 ≤ rd L 0 ∧ rd L 0 ≤ 223 ∧ 2 ≤ L.length ∧ 128 ≤ rd L 1 ∧ rd L 1 ≤ 191 ∧ (V2 L = 0 ∨ 128 ≤ V2 L) then some (V2 L, 2)
  else if 224 ≤ rd L 0 ∧ rd L 0 ≤ 239 ∧ 3 ≤ L.length ∧ 128 ≤ rd L 1 ∧ rd L 1 ≤ 191 ∧ 128 ≤ rd L 2 ∧ rd L 2 ≤ 191 ∧ 2048 ≤ V3 L then some (V3 L, 3)
  else none
theorem rd_byte {L : List Int} (h : IsBytes L) (i : Int) : 0 ≤ rd L i ∧ rd L i < 256 := by
  unfold rd
  rw [List.getD_eq_getElem?_getD]
  cases e : L[i.toNat]? with
  | none => simp
  | some x => simpa using h x (List.mem_of_getElem? e)
theorem ref_take.ev (L : List Int) (hL : IsBytes L) (hne : 0 < L.length) : Ev (fun k => understudyref02_take.f k L) (match takeV L with | some (v, m) => (v, (m : Int)) | none => (0, 0)) := by
  have h0 := rd_byte hL 0
  have h1 := rd_byte hL 1
  have h2 := rd_byte hL 2
  refine ⟨4, fun k hk => ?_⟩
  obtain ⟨k, rfl⟩ : ∃ m, k = m + 4 := ⟨k - 4, by omega⟩
  unfold takeV V2 V3
  simp only [understudyref02_take.f, understudyref02_take.j0, understudyref02_take.j1, understudyref02_take.j2]
  generalize rd L 0 = a at *
  generalize rd L 1 = b at *
  generalize rd L 2 = c at *
  rw [w64 (x := a) (by omega) (by omega), w64 (x := b) (by omega) (by omega), w64 (x := c) (by omega) (by omega)]
  rw [w64 (x := a - 192) (by omega) (by omega), w64 (x := a - 224) (by omega) (by omega), w64 (x := b - 128) (by omega) (by omega)]
  rw [w64 (x := (a - 192) * 64) (by omega) (by omega), w64 (x := (a - 224) * 4096) (by omega) (by omega), w64 (x := (b - 128) * 64) (by omega) (by omega)]
  rw [w64 (x := (a - 192) * 64 + b) (by omega) (by omega), w64 (x := (a - 224) * 4096 + (b - 128) * 64) (by omega) (by omega)]
  rw [w64 (x := (a - 192) * 64 + b - 128) (by omega) (by omega), w64 (x := (a - 224) * 4096 + (b - 128) * 64 + c) (by omega) (by omega)]
  rw [w64 (x := (a - 224) * 4096 + (b - 128) * 64 + c - 128) (by omega) (by omega)]
  rw [show (a - 192) * 64 + b - 128 = (a - 192) * 64 + (b - 128) by omega, show (a - 224) * 4096 + (b - 128) * 64 + c - 128 = (a - 224) * 4096 + (b - 128) * 64 + (c - 128) by omega]
  simp only [decide_eq_true_eq, Bool.false_eq_true, if_false]
  rw [if_pos (by omega)]
  by_cases c1 : 1 ≤ a ∧ a ≤ 127
  · rw [if_pos (by omega), if_pos c1.2, if_pos c1]; rfl
  · rw [if_neg c1]
    have e1 : ∀ x y : Option (Int × Int), (if a ≥ 1 then if a ≤ 127 then x else y else y) = y := by
      intro x y
      by_cases h : a ≥ 1
      · rw [if_pos h, if_neg (by omega)]
      · rw [if_neg h]
    rw [e1]
    by_cases c2 : 192 ≤ a ∧ a ≤ 223
    · rw [if_pos c2.1, if_pos c2.2, if_neg (show ¬ a ≥ 224 by omega)]
      rw [if_neg (show ¬ (224 ≤ a ∧ a ≤ 239 ∧ 3 ≤ L.length ∧ 128 ≤ b ∧ b ≤ 191 ∧ 128 ≤ c ∧ c ≤ 191 ∧ 2048 ≤ (a - 224) * 4096 + (b - 128) * 64 + (c - 128)) by omega)]
      by_cases c3 : 2 ≤ L.length
      · rw [if_pos (by omega), if_pos (by omega)]
        by_cases c4 : 128 ≤ b
        · rw [if_pos c4]
          by_cases c5 : b ≤ 191
          · rw [if_pos c5, if_pos (by omega)]
            by_cases c6 : (a - 192) * 64 + (b - 128) = 0
            · rw [if_pos c6, if_pos ⟨c2.1, c2.2, c3, c4, c5, .inl c6⟩]; rfl
            · rw [if_neg c6]
              by_cases c7 : (a - 192) * 64 + (b - 128) ≥ 128
              · rw [if_pos c7, if_pos ⟨c2.1, c2.2, c3, c4, c5, .inr c7⟩]; rfl
              · rw [if_neg c7, if_neg (by omega)]
          · rw [if_neg c5, if_neg (by omega)]
        · rw [if_neg c4, if_neg (by omega)]
      · rw [if_neg (by omega), if_neg (by omega)]
    · rw [if_neg (show ¬ (192 ≤ a ∧ a ≤ 223 ∧ 2 ≤ L.length ∧ 128 ≤ b ∧ b ≤ 191 ∧ ((a - 192) * 64 + (b - 128) = 0 ∨ 128 ≤ (a - 192) * 64 + (b - 128))) by omega)]
      have e2 : ∀ x y : Option (Int × Int), (if a ≥ 192 then if a ≤ 223 then x else y else y) = y := by
        intro x y
        by_cases h : a ≥ 192
        · rw [if_pos h, if_neg (by omega)]
        · rw [if_neg h]
      rw [e2]
      by_cases c3 : 224 ≤ a ∧ a ≤ 239 ∧ 3 ≤ L.length ∧ 128 ≤ b ∧ b ≤ 191 ∧ 128 ≤ c ∧ c ≤ 191
      · rw [if_pos (by omega), if_pos (by omega), if_pos (by omega), if_pos (by omega), if_pos (by omega), if_pos (by omega), if_pos (by omega), if_pos (by omega), if_pos (by omega), if_pos (by omega), if_pos (by omega)]
        by_cases c4 : (a - 224) * 4096 + (b - 128) * 64 + (c - 128) ≥ 2048
        · rw [if_pos c4, if_pos (by omega)]; rfl
        · rw [if_neg c4, if_neg (by omega)]
      · rw [if_neg (show ¬ (224 ≤ a ∧ a ≤ 239 ∧ 3 ≤ L.length ∧ 128 ≤ b ∧ b ≤ 191 ∧ 128 ≤ c ∧ c ≤ 191 ∧ 2048 ≤ (a - 224) * 4096 + (b - 128) * 64 + (c - 128)) by omega)]
        by_cases d1 : a ≥ 224
        · rw [if_pos d1]
          by_cases d2 : a ≤ 239
          · rw [if_pos d2]
            by_cases d3 : (L.length : Int) ≥ 3
            · rw [if_pos d3, if_pos (by omega)]
              by_cases d4 : b ≥ 128
              · rw [if_pos d4]
                by_cases d5 : b ≤ 191
                · rw [if_pos d5, if_pos (by omega)]
                  by_cases d6 : c ≥ 128
                  · rw [if_pos d6, if_neg (by omega)]
                  · rw [if_neg d6]
                · rw [if_neg d5]
              · rw [if_neg d4]
            · rw [if_neg d3]
          · rw [if_neg d2]
        · rw [if_neg d1]
theorem strOfNums_eq {a b : List Int} (ha : IsBytes a) (hb : IsBytes b) : ((strOfNums a).toList == (strOfNums b).toList) = decide (a = b) := by
  rw [Lib.toList_data, Lib.toList_data]
  have e : ∀ {l : List Int}, (strOfNums l).data.toList = l.map fun n => UInt8.ofNat n.toNat := fun {l} => rfl
  rw [e, e, Bool.eq_iff_iff, beq_iff_eq, decide_eq_true_eq]
  refine ⟨fun h => ?_, fun h => by rw [h]⟩
  have h1 : a.length = b.length := by simpa using congrArg List.length h
  apply List.ext_getElem h1
  intro i h2 h3
  have h4 := congrArg (fun l => l[i]?) h
  simp only [List.getElem?_map, List.getElem?_eq_getElem h2, List.getElem?_eq_getElem h3, Option.map_some, Option.some.injEq] at h4
  have h5 := ha a[i] (List.getElem_mem _)
  have h6 := hb b[i] (List.getElem_mem _)
  have h7 := congrArg UInt8.toNat h4
  simp only [UInt8.toNat_ofNat'] at h7
  rw [Nat.mod_eq_of_lt (by omega), Nat.mod_eq_of_lt (by omega)] at h7
  omega
theorem unitL_bytes (u : Int) (h0 : 0 ≤ u) (h1 : u < 65536) : IsBytes (unitL u) := by
  unfold unitL
  split
  · exact IsBytes.cons (by omega) IsBytes.nil
  · split
    · exact IsBytes.cons (by omega) (IsBytes.cons (by omega) IsBytes.nil)
    · exact IsBytes.cons (by omega) (IsBytes.cons (by omega) (IsBytes.cons (by omega) IsBytes.nil))
theorem take1 (L : List Int) (h : 0 < L.length) : L.take 1 = [rd L 0] := by
  cases L with
  | nil => simp at h
  | cons a t => rfl
theorem take2 (L : List Int) (h : 1 < L.length) : L.take 2 = [rd L 0, rd L 1] := by
  match L with
  | [] => simp at h
  | [_] => simp at h
  | a :: b :: t => rfl
theorem take3 (L : List Int) (h : 2 < L.length) : L.take 3 = [rd L 0, rd L 1, rd L 2] := by
  match L with
  | [] => simp at h
  | [_] => simp at h
  | [_, _] => simp at h
  | a :: b :: c :: t => rfl
theorem IsBytes.take {L : List Int} (h : IsBytes L) (n : Nat) : IsBytes (L.take n) := fun x hx => h x (List.mem_of_mem_take hx)
theorem IsBytes.drop {L : List Int} (h : IsBytes L) (n : Nat) : IsBytes (L.drop n) := fun x hx => h x (List.mem_of_mem_drop hx)
/-- What the next unit comes to, where its bytes are formed like one. -/
theorem text_next.ev_some (L : List Int) (hL : IsBytes L) (u : Int) (h0 : 0 ≤ u) (h1 : u < 65536) (hu : uniV L = some u) :
    Ev (fun k => text_next.f k L) (u, decide (unitL u = L.take (nxN (rd L 0)).toNat), (nxN (rd L 0)).toNat) := by
  unfold text_next.f
  rw [hu]
  simp only
  have h := text_unit.ev [] u h0 h1 (by simp)
  refine Ev.bind h ?_
  rw [List.nil_append, strOfNums_eq (unitL_bytes u h0 h1) (hL.take _)]
  exact Ev.now _
theorem text_next.ev_none (L : List Int) (hu : uniV L = none) : Ev (fun k => text_next.f k L) (0, false, 0) := by
  unfold text_next.f
  rw [hu]
  exact Ev.now _
/-- The next unit. -/
theorem text_next.ev (L : List Int) (hL : IsBytes L) (hne : 0 < L.length) :
    ∃ u m, Ev (fun k => text_next.f k L) (match takeV L with | some (v, m) => (v, true, m) | none => (u, false, m)) := by
  have h0 := rd_byte hL 0
  have h1 := rd_byte hL 1
  have h2 := rd_byte hL 2
  have m32 : ∀ (x : Int) (i : Nat), i ≤ 30 → 0 ≤ x → x < 2147483648 → bits .and .i32 x (2 ^ i - 1) = x % 2 ^ i := fun x i hi a b => bits_mask .i32 31 (by decide) wraps_i32 i (by omega) x a b
  have e0 : wrap32 (rd L 0) = rd L 0 := w32 (by omega) (by omega)
  rcases nxN_cases (rd L 0) with hn | hn | hn
  · -- one byte
    have hu : uniV L = some (rd L 0) := by unfold uniV u0V; rw [hn, if_neg (by omega), if_pos rfl, if_pos rfl, e0]
    have h := text_next.ev_some L hL _ h0.1 (by omega) hu
    rw [hn, show ((1 : Int)).toNat = 1 from rfl, take1 L hne] at h
    by_cases c1 : 1 ≤ rd L 0 ∧ rd L 0 ≤ 127
    · refine ⟨0, 0, ?_⟩
      rw [show unitL (rd L 0) = [rd L 0] from if_pos c1, decide_eq_true rfl] at h
      rw [show takeV L = some (rd L 0, 1) from if_pos c1]
      exact h
    · refine ⟨rd L 0, 1, ?_⟩
      have hc : rd L 0 < 192 ∨ 240 ≤ rd L 0 := by unfold nxN at hn; split at hn <;> (try split at hn) <;> omega
      rw [show takeV L = none by unfold takeV; rw [if_neg c1, if_neg (by omega), if_neg (by omega)]]
      rw [decide_eq_false (by unfold unitL; rw [if_neg c1, if_pos (by omega)]; simp)] at h
      exact h
  · have hc : 192 ≤ rd L 0 ∧ rd L 0 < 224 := by unfold nxN at hn; split at hn <;> (try split at hn) <;> omega
    by_cases hl : 2 ≤ L.length
    · by_cases hb : rd L 1 / 64 = 2
      · have hu2 : U2 L = V2 L := by
          unfold U2 u0V V2
          rw [hn, if_neg (by decide), if_pos rfl, e0, show (31 : Int) = 2 ^ 5 - 1 from rfl, m32 _ 5 (by decide) (by omega) (by omega), show (63 : Int) = 63 from rfl, u8_and63 _ (by omega) (by omega)]
          rw [w32 (by omega) (by omega), w32 (by omega) (by omega)]
          rw [bits_join .i32 31 (by decide) wraps_i32 6 (rd L 0 % 2 ^ 5 * 64) (rd L 1 % 64) (by omega) (by omega) (by omega) (by omega) (by omega) (by omega)]
          omega
        have hu : uniV L = some (V2 L) := by unfold uniV; rw [hn, if_neg (by omega), if_neg (by decide), if_pos hb, if_pos rfl, hu2]
        have hv : 0 ≤ V2 L ∧ V2 L ≤ 2047 := by unfold V2; omega
        have h := text_next.ev_some L hL _ hv.1 (by omega) hu
        rw [hn, show ((2 : Int)).toNat = 2 from rfl, take2 L (by omega)] at h
        by_cases c1 : V2 L = 0 ∨ 128 ≤ V2 L
        · refine ⟨0, 0, ?_⟩
          rw [show takeV L = some (V2 L, 2) by unfold takeV; rw [if_neg (by omega), if_pos ⟨hc.1, by omega, hl, by omega, by omega, c1⟩]]
          rw [decide_eq_true (by unfold unitL; rw [if_neg (by omega), if_pos (by omega)]; unfold V2 at *; simp only [List.cons.injEq, and_true]; omega)] at h
          exact h
        · refine ⟨V2 L, 2, ?_⟩
          rw [show takeV L = none by unfold takeV; rw [if_neg (by omega), if_neg (by omega), if_neg (by omega)]]
          rw [decide_eq_false (by unfold unitL; rw [if_pos (by omega)]; simp)] at h
          exact h
      · refine ⟨0, 0, ?_⟩
        rw [show takeV L = none by unfold takeV; rw [if_neg (by omega), if_neg (by omega), if_neg (by omega)]]
        exact text_next.ev_none L (by unfold uniV; rw [hn, if_neg (by omega), if_neg (by decide), if_neg hb])
    · refine ⟨0, 0, ?_⟩
      rw [show takeV L = none by unfold takeV; rw [if_neg (by omega), if_neg (by omega), if_neg (by omega)]]
      exact text_next.ev_none L (by unfold uniV; rw [hn, if_pos (by omega)])
  · have hc : 224 ≤ rd L 0 ∧ rd L 0 < 240 := by unfold nxN at hn; split at hn <;> (try split at hn) <;> omega
    by_cases hl : 3 ≤ L.length
    · by_cases hb : rd L 1 / 64 = 2 ∧ rd L 2 / 64 = 2
      · have hu3 : U3 L = V3 L := by
          unfold U3 U2 u0V V3
          rw [hn, if_neg (by decide), if_neg (by decide), e0, show (15 : Int) = 2 ^ 4 - 1 from rfl, m32 _ 4 (by decide) (by omega) (by omega), u8_and63 _ (by omega) (by omega), u8_and63 _ (by omega) (by omega)]
          rw [w32 (x := rd L 0 % 2 ^ 4 * 64) (by omega) (by omega), w32 (x := rd L 1 % 64) (by omega) (by omega), w32 (x := rd L 2 % 64) (by omega) (by omega)]
          rw [bits_join .i32 31 (by decide) wraps_i32 6 (rd L 0 % 2 ^ 4 * 64) (rd L 1 % 64) (by omega) (by omega) (by omega) (by omega) (by omega) (by omega)]
          rw [w32 (x := (rd L 0 % 2 ^ 4 * 64 + rd L 1 % 64) * 64) (by omega) (by omega)]
          rw [bits_join .i32 31 (by decide) wraps_i32 6 ((rd L 0 % 2 ^ 4 * 64 + rd L 1 % 64) * 64) (rd L 2 % 64) (by omega) (by omega) (by omega) (by omega) (by omega) (by omega)]
          omega
        have hu : uniV L = some (V3 L) := by unfold uniV; rw [hn, if_neg (by omega), if_neg (by decide), if_pos hb.1, if_neg (by decide), if_pos hb.2, hu3]
        have hv : 0 ≤ V3 L ∧ V3 L < 65536 := by unfold V3; omega
        have h := text_next.ev_some L hL _ hv.1 (by omega) hu
        rw [hn, show ((3 : Int)).toNat = 3 from rfl, take3 L (by omega)] at h
        by_cases c1 : 2048 ≤ V3 L
        · refine ⟨0, 0, ?_⟩
          rw [show takeV L = some (V3 L, 3) by unfold takeV; rw [if_neg (by omega), if_neg (by omega), if_pos ⟨hc.1, by omega, hl, by omega, by omega, by omega, by omega, c1⟩]]
          rw [decide_eq_true (by unfold unitL; rw [if_neg (by omega), if_neg (by omega)]; unfold V3 at *; simp only [List.cons.injEq, and_true]; omega)] at h
          exact h
        · refine ⟨V3 L, 3, ?_⟩
          rw [show takeV L = none by unfold takeV; rw [if_neg (by omega), if_neg (by omega), if_neg (by omega)]]
          have hx : ¬ unitL (V3 L) = [rd L 0, rd L 1, rd L 2] := by
            unfold unitL
            by_cases q : 1 ≤ V3 L ∧ V3 L ≤ 127
            · rw [if_pos q]; simp
            · rw [if_neg q, if_pos (by omega)]; simp
          rw [decide_eq_false hx] at h
          exact h
      · refine ⟨0, 0, ?_⟩
        rw [show takeV L = none by unfold takeV; rw [if_neg (by omega), if_neg (by omega), if_neg (by omega)]]
        refine text_next.ev_none L ?_
        unfold uniV
        rw [hn, if_neg (by omega), if_neg (by decide)]
        by_cases hb1 : rd L 1 / 64 = 2
        · rw [if_pos hb1, if_neg (by decide), if_neg (by omega)]
        · rw [if_neg hb1]
    · refine ⟨0, 0, ?_⟩
      rw [show takeV L = none by unfold takeV; rw [if_neg (by omega), if_neg (by omega), if_neg (by omega)]]
      exact text_next.ev_none L (by unfold uniV; rw [hn, if_pos (by omega)])
end Go.Proofs.YtoimmkonlpdjfaaDoor.Px
