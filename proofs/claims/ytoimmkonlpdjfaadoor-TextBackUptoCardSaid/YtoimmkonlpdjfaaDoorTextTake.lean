/- Plain law of a unit that is read: the program's and the reference's both are 'takeV'. -/
import Derived.Test.YtoimmkonlpdjfaaDoorTextArith
import Derived.Test.YtoimmkonlpdjfaaDoorETextDecode
namespace Go.Proofs.YtoimmkonlpdjfaaDoor.Px
open Go.RowKit Go.Proofs.YtoimmkonlpdjfaaDoorW.PrintWords Go.Proofs.YtoimmkonlpdjfaaDoorW.PrintLast Go.Proofs.YtoimmkonlpdjfaaDoorW.PrintMore
set_option linter.unusedVariables false
set_option linter.unusedSimpArgs false

def V2 (L : List Int) : Int := (rd L 0 - 192) * 64 + (rd L 1 - 128)
def V3 (L : List Int) : Int := (rd L 0 - 224) * 4096 + (rd L 1 - 128) * 64 + (rd L 2 - 128)
/-- The unit at the beginning, and how many bytes it has. -/
def takeV (L : List Int) : Option (Int × Nat) :=
  if 1 ≤ rd L 0 ∧ rd L 0 ≤ 127 then some (rd L 0, 1)
  else if 192 ≤ rd L 0 ∧ rd L 0 ≤ 223 ∧ 2 ≤ L.length ∧ 128 ≤ rd L 1 ∧ rd L 1 ≤ 191 ∧ (V2 L = 0 ∨ 128 ≤ V2 L) then some (V2 L, 2)
  else if 224 ≤ rd L 0 ∧ rd L 0 ≤ 239 ∧ 3 ≤ L.length ∧ 128 ≤ rd L 1 ∧ rd L 1 ≤ 191 ∧ 128 ≤ rd L 2 ∧ rd L 2 ≤ 191 ∧ 2048 ≤ V3 L then some (V3 L, 3)
  else none
theorem rd_byte {L : List Int} (h : IsBytes L) (i : Int) : 0 ≤ rd L i ∧ rd L i < 256 := by
  unfold rd
  rw [List.getD_eq_getElem?_getD]
  cases e : L[i.toNat]? with
  | none => simp
  | some x => simpa using h x (List.mem_of_getElem? e)
theorem strOfNums_eq {a b : List Int} (ha : IsBytes a) (hb : IsBytes b) : ((strOfNums a).toList == (strOfNums b).toList) = decide (a = b) := by
  rw [Lib.toList_data, Lib.toList_data]
  have e : ∀ {l : List Int}, (strOfNums l).data.toList = l.map fun n => UInt8.ofNat n.toNat := fun {l} => rfl
  rw [e, e, Bool.eq_iff_iff, beq_iff_eq, decide_eq_true_eq]
  refine ⟨fun h => ?_, fun h => by rw [h]⟩
  have h1 : a.length = b.length := by simpa using congrArg List.length h
  apply List.ext_getElem h1
  intro i h2 h3
  have h4 := congrArg (fun l => l[i]?) h
  simp only [List.getElem?_map, List.getElem?_eq_getElem h2, List.getElem?_eq_getElem h3, Option.map_some, Option.some.injEq] at h4
  have h5 := ha a[i] (List.getElem_mem _)
  have h6 := hb b[i] (List.getElem_mem _)
  have h7 := congrArg UInt8.toNat h4
  simp only [UInt8.toNat_ofNat'] at h7
  rw [Nat.mod_eq_of_lt (by omega), Nat.mod_eq_of_lt (by omega)] at h7
  omega
theorem unitL_bytes (u : Int) (h0 : 0 ≤ u) (h1 : u < 65536) : IsBytes (unitL u) := by
  unfold unitL
  split
  · exact IsBytes.cons (by omega) IsBytes.nil
  · split
    · exact IsBytes.cons (by omega) (IsBytes.cons (by omega) IsBytes.nil)
    · exact IsBytes.cons (by omega) (IsBytes.cons (by omega) (IsBytes.cons (by omega) IsBytes.nil))
theorem take1 (L : List Int) (h : 0 < L.length) : L.take 1 = [rd L 0] := by
  cases L with
  | nil => simp at h
  | cons a t => rfl
theorem take2 (L : List Int) (h : 1 < L.length) : L.take 2 = [rd L 0, rd L 1] := by
  match L with
  | [] => simp at h
  | [_] => simp at h
  | a :: b :: t => rfl
theorem take3 (L : List Int) (h : 2 < L.length) : L.take 3 = [rd L 0, rd L 1, rd L 2] := by
  match L with
  | [] => simp at h
  | [_] => simp at h
  | [_, _] => simp at h
  | a :: b :: c :: t => rfl
theorem IsBytes.take {L : List Int} (h : IsBytes L) (n : Nat) : IsBytes (L.take n) := fun x hx => h x (List.mem_of_mem_take hx)
theorem IsBytes.drop {L : List Int} (h : IsBytes L) (n : Nat) : IsBytes (L.drop n) := fun x hx => h x (List.mem_of_mem_drop hx)
/-- What the next unit comes to, where its bytes are formed like one. -/
theorem text_next.ev_some (L : List Int) (hL : IsBytes L) (u : Int) (h0 : 0 ≤ u) (h1 : u < 65536) (hu : uniV L = some u) :
    Ev (fun k => text_next.f k L) (u, decide (unitL u = L.take (nxN (rd L 0)).toNat), (nxN (rd L 0)).toNat) := by
  unfold text_next.f
  rw [hu]
  simp only
  have h := text_unit.ev [] u h0 h1 (by simp)
  refine Ev.bind h ?_
  rw [List.nil_append, strOfNums_eq (unitL_bytes u h0 h1) (hL.take _)]
  exact Ev.now _
theorem text_next.ev_none (L : List Int) (hu : uniV L = none) : Ev (fun k => text_next.f k L) (0, false, 0) := by
  unfold text_next.f
  rw [hu]
  exact Ev.now _
/-- The next unit. -/
theorem text_next.ev (L : List Int) (hL : IsBytes L) (hne : 0 < L.length) :
    ∃ u m, Ev (fun k => text_next.f k L) (match takeV L with | some (v, m) => (v, true, m) | none => (u, false, m)) := by
  have h0 := rd_byte hL 0
  have h1 := rd_byte hL 1
  have h2 := rd_byte hL 2
  have m32 : ∀ (x : Int) (i : Nat), i ≤ 30 → 0 ≤ x → x < 2147483648 → bits .and .i32 x (2 ^ i - 1) = x % 2 ^ i := fun x i hi a b => bits_mask .i32 31 (by decide) wraps_i32 i (by omega) x a b
  have e0 : wrap32 (rd L 0) = rd L 0 := w32 (by omega) (by omega)
  rcases nxN_cases (rd L 0) with hn | hn | hn
  · -- one byte
    have hu : uniV L = some (rd L 0) := by unfold uniV u0V; rw [hn, if_neg (by omega), if_pos rfl, if_pos rfl, e0]
    have h := text_next.ev_some L hL _ h0.1 (by omega) hu
    rw [hn, show ((1 : Int)).toNat = 1 from rfl, take1 L hne] at h
    by_cases c1 : 1 ≤ rd L 0 ∧ rd L 0 ≤ 127
    · refine ⟨0, 0, ?_⟩
      rw [show unitL (rd L 0) = [rd L 0] from if_pos c1, decide_eq_true rfl] at h
      rw [show takeV L = some (rd L 0, 1) from if_pos c1]
      exact h
    · refine ⟨rd L 0, 1, ?_⟩
      have hc : rd L 0 < 192 ∨ 240 ≤ rd L 0 := by unfold nxN at hn; split at hn <;> (try split at hn) <;> omega
      rw [show takeV L = none by unfold takeV; rw [if_neg c1, if_neg (by omega), if_neg (by omega)]]
      rw [decide_eq_false (by unfold unitL; rw [if_neg c1, if_pos (by omega)]; simp)] at h
      exact h
  · have hc : 192 ≤ rd L 0 ∧ rd L 0 < 224 := by unfold nxN at hn; split at hn <;> (try split at hn) <;> omega
    by_cases hl : 2 ≤ L.length
    · by_cases hb : rd L 1 / 64 = 2
      · have hu2 : U2 L = V2 L := by
          unfold U2 u0V V2
          rw [hn, if_neg (by decide), if_pos rfl, e0, show (31 : Int) = 2 ^ 5 - 1 from rfl, m32 _ 5 (by decide) (by omega) (by omega), show (63 : Int) = 63 from rfl, u8_and63 _ (by omega) (by omega)]
          rw [w32 (by omega) (by omega), w32 (by omega) (by omega)]
          rw [bits_join .i32 31 (by decide) wraps_i32 6 (rd L 0 % 2 ^ 5 * 64) (rd L 1 % 64) (by omega) (by omega) (by omega) (by omega) (by omega) (by omega)]
          omega
        have hu : uniV L = some (V2 L) := by unfold uniV; rw [hn, if_neg (by omega), if_neg (by decide), if_pos hb, if_pos rfl, hu2]
        have hv : 0 ≤ V2 L ∧ V2 L ≤ 2047 := by unfold V2; omega
        have h := text_next.ev_some L hL _ hv.1 (by omega) hu
        rw [hn, show ((2 : Int)).toNat = 2 from rfl, take2 L (by omega)] at h
        by_cases c1 : V2 L = 0 ∨ 128 ≤ V2 L
        · refine ⟨0, 0, ?_⟩
          rw [show takeV L = some (V2 L, 2) by unfold takeV; rw [if_neg (by omega), if_pos ⟨hc.1, by omega, hl, by omega, by omega, c1⟩]]
          rw [decide_eq_true (by unfold unitL; rw [if_neg (by omega), if_pos (by omega)]; unfold V2 at *; simp only [List.cons.injEq, and_true]; omega)] at h
          exact h
        · refine ⟨V2 L, 2, ?_⟩
          rw [show takeV L = none by unfold takeV; rw [if_neg (by omega), if_neg (by omega), if_neg (by omega)]]
          rw [decide_eq_false (by unfold unitL; rw [if_pos (by omega)]; simp)] at h
          exact h
      · refine ⟨0, 0, ?_⟩
        rw [show takeV L = none by unfold takeV; rw [if_neg (by omega), if_neg (by omega), if_neg (by omega)]]
        exact text_next.ev_none L (by unfold uniV; rw [hn, if_neg (by omega), if_neg (by decide), if_neg hb])
    · refine ⟨0, 0, ?_⟩
      rw [show takeV L = none by unfold takeV; rw [if_neg (by omega), if_neg (by omega), if_neg (by omega)]]
      exact text_next.ev_none L (by unfold uniV; rw [hn, if_pos (by omega)])
  · have hc : 224 ≤ rd L 0 ∧ rd L 0 < 240 := by unfold nxN at hn; split at hn <;> (try split at hn) <;> omega
    by_cases hl : 3 ≤ L.length
    · by_cases hb : rd L 1 / 64 = 2 ∧ rd L 2 / 64 = 2
      · have hu3 : U3 L = V3 L := by
          unfold U3 U2 u0V V3
          rw [hn, if_neg (by decide), if_neg (by decide), e0, show (15 : Int) = 2 ^ 4 - 1 from rfl, m32 _ 4 (by decide) (by omega) (by omega), u8_and63 _ (by omega) (by omega), u8_and63 _ (by omega) (by omega)]
          rw [w32 (x := rd L 0 % 2 ^ 4 * 64) (by omega) (by omega), w32 (x := rd L 1 % 64) (by omega) (by omega), w32 (x := rd L 2 % 64) (by omega) (by omega)]
          rw [bits_join .i32 31 (by decide) wraps_i32 6 (rd L 0 % 2 ^ 4 * 64) (rd L 1 % 64) (by omega) (by omega) (by omega) (by omega) (by omega) (by omega)]
          rw [w32 (x := (rd L 0 % 2 ^ 4 * 64 + rd L 1 % 64) * 64) (by omega) (by omega)]
          rw [bits_join .i32 31 (by decide) wraps_i32 6 ((rd L 0 % 2 ^ 4 * 64 + rd L 1 % 64) * 64) (rd L 2 % 64) (by omega) (by omega) (by omega) (by omega) (by omega) (by omega)]
          omega
        have hu : uniV L = some (V3 L) := by unfold uniV; rw [hn, if_neg (by omega), if_neg (by decide), if_pos hb.1, if_neg (by decide), if_pos hb.2, hu3]
        have hv : 0 ≤ V3 L ∧ V3 L < 65536 := by unfold V3; omega
        have h := text_next.ev_some L hL _ hv.1 (by omega) hu
        rw [hn, show ((3 : Int)).toNat = 3 from rfl, take3 L (by omega)] at h
        by_cases c1 : 2048 ≤ V3 L
        · refine ⟨0, 0, ?_⟩
          rw [show takeV L = some (V3 L, 3) by unfold takeV; rw [if_neg (by omega), if_neg (by omega), if_pos ⟨hc.1, by omega, hl, by omega, by omega, by omega, by omega, c1⟩]]
          rw [decide_eq_true (by unfold unitL; rw [if_neg (by omega), if_neg (by omega)]; unfold V3 at *; simp only [List.cons.injEq, and_true]; omega)] at h
          exact h
        · refine ⟨V3 L, 3, ?_⟩
          rw [show takeV L = none by unfold takeV; rw [if_neg (by omega), if_neg (by omega), if_neg (by omega)]]
          have hx : ¬ unitL (V3 L) = [rd L 0, rd L 1, rd L 2] := by
            unfold unitL
            by_cases q : 1 ≤ V3 L ∧ V3 L ≤ 127
            · rw [if_pos q]; simp
            · rw [if_neg q, if_pos (by omega)]; simp
          rw [decide_eq_false hx] at h
          exact h
      · refine ⟨0, 0, ?_⟩
        rw [show takeV L = none by unfold takeV; rw [if_neg (by omega), if_neg (by omega), if_neg (by omega)]]
        refine text_next.ev_none L ?_
        unfold uniV
        rw [hn, if_neg (by omega), if_neg (by decide)]
        by_cases hb1 : rd L 1 / 64 = 2
        · rw [if_pos hb1, if_neg (by decide), if_neg (by omega)]
        · rw [if_neg hb1]
    · refine ⟨0, 0, ?_⟩
      rw [show takeV L = none by unfold takeV; rw [if_neg (by omega), if_neg (by omega), if_neg (by omega)]]
      exact text_next.ev_none L (by unfold uniV; rw [hn, if_pos (by omega)])
end Go.Proofs.YtoimmkonlpdjfaaDoor.Px
