/- Byte arrays as lists: small laws for the plain laws. -/
import Derived.Test.YtcoghiefkogklaaPx0
import Derived.Lib.IndexBytes
import Derived.Lib.IndexMore
import Derived.Lib.Strings
namespace Go.Proofs.Ytcoghiefkogklaa.Px
open Go.RowKit Go.Proofs.YtcoghiefkogklaaW.PrintWords Go.Proofs.YtcoghiefkogklaaW.PrintLast Go.Proofs.YtcoghiefkogklaaW.PrintMore
set_option linter.unusedVariables false

/-- The bytes of a list. -/
abbrev BA (l : List UInt8) : ByteArray := ⟨l.toArray⟩
theorem BA_eta (s : ByteArray) : BA s.data.toList = s := by obtain ⟨⟨l⟩⟩ := s; rfl
theorem BA_data (l : List UInt8) : (BA l).data.toList = l := rfl
theorem BA_list (l : List UInt8) : (BA l).toList = l := by rw [Lib.toList_data]
theorem BA_size (l : List UInt8) : (BA l).size = l.length := by rw [Lib.size_eq]
theorem BA_ext (l : List UInt8) (a b : Nat) : (BA l).extract a b = BA ((l.drop a).take (b - a)) := Lib.extract_eq _ _ _
theorem BA_drop (l : List UInt8) (a : Nat) : (BA l).extract a (BA l).size = BA (l.drop a) := by
  rw [BA_ext, BA_size, List.take_of_length_le (by rw [List.length_drop]; exact Nat.le_refl _)]
theorem BA_append (a b : List UInt8) : BA a ++ BA b = BA (a ++ b) := by
  have h : (BA a ++ BA b).data.toList = a ++ b := by simp [BA]
  rw [← BA_eta (BA a ++ BA b), h]
theorem bt_BA (l : List UInt8) (i : Nat) (h : i < l.length) : bt (BA l) (i : Int) = ((l[i]).toNat : Int) := by
  have h1 : (i : Int).toNat < (BA l).size := by rw [BA_size]; omega
  rw [← bt_at _ _ h1]
  rfl
theorem bt_BA0 (c : UInt8) (t : List UInt8) : bt (BA (c :: t)) 0 = (c.toNat : Int) := bt_BA (c :: t) 0 (by simp)
theorem w64n (n m : Nat) (h : n + m ≤ 9223372036854775807) : wrap64 ((n : Int) + (m : Int)) = ((n + m : Nat) : Int) := by unfold wrap64; omega
theorem w64s (n : Nat) (h : n < 9223372036854775807) : wrap64 ((n : Int) + 1) = ((n + 1 : Nat) : Int) := by unfold wrap64; omega
theorem u8_int (c : UInt8) (n : Nat) (h : n < 256) : ((c.toNat : Int) = (n : Int)) ↔ c = n.toUInt8 := by
  constructor
  · intro e
    have e' : c.toNat = n := by omega
    exact UInt8.toNat.inj (by rw [e']; simp; omega)
  · intro e
    subst e
    simp
    omega

/-! ### up to a byte -/
theorem take_until (p : UInt8 → Bool) : ∀ l : List UInt8, l.take (l.takeWhile p).length = l.takeWhile p
  | [] => rfl
  | c :: t => by
    rw [List.takeWhile_cons]
    split
    · rw [List.length_cons, List.take_succ_cons, take_until p t]
    · rfl
theorem drop_until (p : UInt8 → Bool) : ∀ l : List UInt8, l.drop (l.takeWhile p).length = l.dropWhile p
  | [] => rfl
  | c :: t => by
    rw [List.takeWhile_cons, List.dropWhile_cons]
    split
    · rw [List.length_cons, List.drop_succ_cons, drop_until p t]
    · rfl
theorem index_until (b : UInt8) : ∀ l : List UInt8, Lib.indexByte l b = if b ∈ l then ((l.takeWhile (· != b)).length : Int) else -1
  | [] => rfl
  | c :: t => by
    unfold Lib.indexByte
    rw [index_until b t, List.takeWhile_cons]
    by_cases h : c = b
    · subst h; simp
    · have h1 : (c == b) = false := by simpa using h
      have h2 : (c != b) = true := by simpa using h
      have h3 : b ∈ c :: t ↔ b ∈ t := by
        rw [List.mem_cons]
        exact ⟨fun e => e.resolve_left (fun e => h e.symm), .inr⟩
      rw [h1, h2]
      by_cases hm : b ∈ t
      · simp only [hm, h3, if_true, if_false, Bool.false_eq_true]
        rw [if_neg (by simp)]
        simp
      · simp [hm, h3]
theorem cut_until (b : UInt8) (l : List UInt8) : Lib.cut l [b] = if b ∈ l then (l.takeWhile (· != b), (l.dropWhile (· != b)).drop 1, true) else (l, [], false) := by
  unfold Lib.cut
  rw [Lib.index_one, index_until]
  by_cases h : b ∈ l
  · rw [if_pos h, if_pos h, if_pos (by omega)]
    simp only [Int.toNat_natCast, List.length_singleton]
    rw [take_until, ← List.drop_drop, drop_until]
  · rw [if_neg h, if_neg h, if_neg (by omega)]
end Go.Proofs.Ytcoghiefkogklaa.Px
