/- Plain law of modified UTF-8: what a text's bytes are ('encL'), and that the program's Encode and the reference's both come to them. -/
import Derived.Test.YtglnhkgodgjepaaDoorPx5
import Derived.Test.YtglnhkgodgjepaaDoorETextEncode
import Derived.Test.YtglnhkgodgjepaaDoorTextArith
import Derived.Test.YtglnhkgodgjepaaDoorTextEnc
import Derived.Lib.ValidLaws
import Derived.Lib.DecodeN
import Derived.Lib.MapLaws
import Derived.Laws.BitsLemmas
namespace Go.Proofs.YtglnhkgodgjepaaDoor.Px
open Go.RowKit Go.Proofs.YtglnhkgodgjepaaDoorW.PrintWords Go.Proofs.YtglnhkgodgjepaaDoorW.PrintLast Go.Proofs.YtglnhkgodgjepaaDoorW.PrintMore
set_option linter.unusedVariables false
set_option linter.unusedSimpArgs false

theorem ref_unit.ev (u : Int) (h0 : 0 ≤ u) (h1 : u < 65536) : Ev (fun k => understudyref02_unit.f k u) (unitL u) := by
  refine ⟨1, fun k hk => ?_⟩
  obtain ⟨k, rfl⟩ : ∃ m, k = m + 1 := ⟨k - 1, by omega⟩
  have d64 : Int.tdiv u 64 = u / 64 := Int.tdiv_eq_ediv_of_nonneg h0
  have d4096 : Int.tdiv u 4096 = u / 4096 := Int.tdiv_eq_ediv_of_nonneg h0
  have m64 : Int.tmod u 64 = u % 64 := Int.tmod_eq_emod_of_nonneg h0
  have m64' : Int.tmod (u / 64) 64 = u / 64 % 64 := Int.tmod_eq_emod_of_nonneg (by omega)
  show understudyref02_unit.f (k + 1) u = _
  unfold understudyref02_unit.f unitL
  by_cases c1 : 1 ≤ u ∧ u ≤ 127
  · rw [if_pos c1, if_pos (by omega), decide_eq_true (by omega)]
    simp only [understudyref02_unit.j0]
    rw [if_pos trivial, show u % 256 = u from by omega]
  · rw [if_neg c1]
    have key : understudyref02_unit.j0 (k + 1) u false = some (if u ≤ 2047 then [192 + u / 64, 128 + u % 64] else [224 + u / 4096, 128 + u / 64 % 64, 128 + u % 64]) := by
      simp only [understudyref02_unit.j0]
      rw [if_neg (by simp), d64, d4096, m64, w64 (x := u / 64) (by omega) (by omega), w64 (x := u / 4096) (by omega) (by omega), m64', w64 (x := 192 + u / 64) (by omega) (by omega), w64 (x := 128 + u % 64) (by omega) (by omega), w64 (x := 224 + u / 4096) (by omega) (by omega), w64 (x := 128 + u / 64 % 64) (by omega) (by omega)]
      by_cases c2 : u ≤ 2047
      · rw [if_pos c2, if_pos c2, show (192 + u / 64) % 256 = 192 + u / 64 from by omega, show (128 + u % 64) % 256 = 128 + u % 64 from by omega]
      · rw [if_neg c2, if_neg c2, show (224 + u / 4096) % 256 = 224 + u / 4096 from by omega, show (128 + u % 64) % 256 = 128 + u % 64 from by omega, show (128 + u / 64 % 64) % 256 = 128 + u / 64 % 64 from by omega]
    by_cases c3 : u ≥ 1
    · rw [if_pos c3, decide_eq_false (by omega), key]
    · rw [if_neg c3, key]

/-! ### the reference's point -/
theorem bt_nat (s : ByteArray) (i : Nat) (h : i < s.size) : bt s (i : Int) = ((s.get! i).toNat : Int) := by
  have h' : ((i : Int)).toNat < s.size := by omega
  have e := Utf8W.get!_of_lt s i h
  unfold bt
  rw [dif_pos h', e]
  rfl
theorem bt_nat' (s : ByteArray) (i : Nat) (j : Int) (hj : j = i) (h : i < s.size) : bt s j = ((s.get! i).toNat : Int) := by subst hj; exact bt_nat s i h
theorem point_step (k : Nat) (s : ByteArray) (c n least : Int) (i b : Nat) (hi : (i : Int) < n) (hs : i < s.size) (hb : (s.get! i).toNat = b) (hn : n ≤ 4) (h1 : 128 ≤ b) (h2 : b ≤ 191) (hc0 : 0 ≤ c) (hc1 : c < 65536) :
    understudyref02_point.l0 (k + 1) s c n least (i : Int) = understudyref02_point.l0 k s (c * 64 + (b : Int) % 64) n least ((i : Int) + 1) := by
  have e := bt_nat s i hs
  rw [hb] at e
  have e1 : bits .and .u8 (b : Int) 63 = (b : Int) % 64 := u8_and63 _ (by omega) (by omega)
  have e2 : bits .or .i64 (c * 64) ((b : Int) % 64) = c * 64 + (b : Int) % 64 := bits_join .i64 63 (by decide) wraps_i64' 6 (c * 64) ((b : Int) % 64) (by omega) (by omega) (by omega) (by omega) (by omega) (by omega)
  simp only [understudyref02_point.l0]
  rw [if_pos hi, if_pos (by omega), if_pos (by omega), e, if_neg (by omega), if_neg (by omega), e1, w64 (x := c * 64) (by omega) (by omega), w64 (x := (b : Int) % 64) (by omega) (by omega), e2, w64 (by omega) (by omega)]
theorem point_bad (k : Nat) (s : ByteArray) (c n least : Int) (i b : Nat) (hi : (i : Int) < n) (hs : i < s.size) (hb : (s.get! i).toNat = b) (h : b < 128 ∨ 191 < b) :
    understudyref02_point.l0 (k + 1) s c n least (i : Int) = some (0, 0) := by
  have e := bt_nat s i hs
  rw [hb] at e
  simp only [understudyref02_point.l0]
  rw [if_pos hi, if_pos (by omega), if_pos (by omega), e]
  rcases h with h | h
  · rw [if_pos (by omega)]
  · rw [if_neg (by omega), if_pos (by omega)]
theorem point_end (k : Nat) (s : ByteArray) (c n least i : Int) (hi : ¬ i < n) :
    understudyref02_point.l0 (k + 1) s c n least i = some (if c < least ∨ c > 1114111 ∨ (55296 ≤ c ∧ c ≤ 57343) then (0, 0) else (c, n)) := by
  simp only [understudyref02_point.l0]
  rw [if_neg hi]
  by_cases h1 : c < least
  · rw [if_pos h1, if_pos (.inl h1)]
  · rw [if_neg h1]
    by_cases h2 : c > 1114111
    · rw [if_pos h2, if_pos (.inr (.inl h2))]
    · rw [if_neg h2]
      by_cases h3 : c ≥ 55296
      · rw [if_pos h3]
        by_cases h4 : c ≤ 57343
        · rw [if_pos h4, if_pos (.inr (.inr ⟨h3, h4⟩))]
        · rw [if_neg h4, if_neg (by omega)]
      · rw [if_neg h3, if_neg (by omega)]

/-- What stands at a text's beginning: the code point and its bytes; 0, 0 where none is right. -/
def pointV (s : ByteArray) : Int × Int := if (Utf8.decode s 0).1 = 65533 ∧ (Utf8.decode s 0).2 = 1 then (0, 0) else (((Utf8.decode s 0).1 : Int), ((Utf8.decode s 0).2 : Int))
def pointN (d : Nat × Nat) : Int × Int := if d.1 = 65533 ∧ d.2 = 1 then (0, 0) else ((d.1 : Int), (d.2 : Int))
theorem pointV_eq (s : ByteArray) : pointV s = pointN (Lib.decodeN s.size (s.get! 0).toNat (s.get! 1).toNat (s.get! 2).toNat (s.get! 3).toNat) := by
  unfold pointV pointN
  rw [Lib.decode_at, Nat.sub_zero]

theorem pointN_bad {d : Nat × Nat} (h : d = (65533, 1)) : pointN d = (0, 0) := by rw [h]; rfl
theorem pointN_good {d : Nat × Nat} {c n : Nat} (h : d = (c, n)) (hn : ¬ (c = 65533 ∧ n = 1)) : pointN d = ((c : Int), (n : Int)) := by rw [h]; unfold pointN; rw [if_neg hn]
theorem point2 (k : Nat) (s : ByteArray) (b0 : Nat) (h0 : 194 ≤ b0) (h1 : b0 ≤ 223) :
    understudyref02_point.j2 (k + 4) s ((b0 : Int) % 32) 2 128 = some (pointN (Lib.decodeN s.size b0 (s.get! 1).toNat (s.get! 2).toNat (s.get! 3).toNat)) := by
  generalize e1 : (s.get! 1).toNat = b1
  simp only [understudyref02_point.j2]
  by_cases hs : (s.size : Int) < 2
  · rw [if_pos hs]
    rw [pointN_bad (by unfold Lib.decodeN; rw [if_neg (by omega), if_neg (by omega), if_neg (by omega), if_neg (by omega)])]
  · rw [if_neg hs]
    by_cases hb : b1 < 128 ∨ 191 < b1
    · rw [show (1 : Int) = ((1 : Nat) : Int) from rfl, point_bad (k + 2) s _ 2 128 1 b1 (by omega) (by omega) e1 hb]
      rw [pointN_bad (by unfold Lib.decodeN; rw [if_neg (by omega), if_neg (by omega), if_neg (by omega), if_neg (by omega)])]
    · rw [show (1 : Int) = ((1 : Nat) : Int) from rfl, point_step (k + 2) s _ 2 128 1 b1 (by omega) (by omega) e1 (by omega) (by omega) (by omega) (by omega) (by omega), point_end _ _ _ _ _ _ (by omega), if_neg (by omega)]
      rw [pointN_good (c := b0 % 32 * 64 + b1 % 64) (n := 2) (by unfold Lib.decodeN; rw [if_neg (by omega), if_pos (by omega), if_pos (by omega)]) (by omega)]
      have : ((b0 % 32 * 64 + b1 % 64 : Nat) : Int) = (b0 : Int) % 32 * 64 + (b1 : Int) % 64 := by omega
      rw [this]
      rfl
theorem point3 (k : Nat) (s : ByteArray) (b0 : Nat) (h0 : 224 ≤ b0) (h1 : b0 ≤ 239) :
    understudyref02_point.j2 (k + 5) s ((b0 : Int) % 16) 3 2048 = some (pointN (Lib.decodeN s.size b0 (s.get! 1).toNat (s.get! 2).toNat (s.get! 3).toNat)) := by
  generalize e1 : (s.get! 1).toNat = b1
  generalize e2 : (s.get! 2).toNat = b2
  simp only [understudyref02_point.j2]
  have fin : ∀ b3 : Nat, ¬ ((1 < s.size ∧ b1 / 64 = 2) ∧ (2 < s.size ∧ b2 / 64 = 2)) → pointN (Lib.decodeN s.size b0 b1 b2 b3) = (0, 0) := by
    intro b3 hh
    exact pointN_bad (by unfold Lib.decodeN; rw [if_neg (by omega), if_neg (by omega), if_neg (by omega), if_neg (by omega)])
  by_cases hs : (s.size : Int) < 3
  · rw [if_pos hs, fin _ (by omega)]
  · rw [if_neg hs]
    by_cases hb : b1 < 128 ∨ 191 < b1
    · rw [show (1 : Int) = ((1 : Nat) : Int) from rfl, point_bad (k + 3) s _ 3 2048 1 b1 (by omega) (by omega) e1 hb, fin _ (by omega)]
    · rw [show (1 : Int) = ((1 : Nat) : Int) from rfl, point_step (k + 3) s _ 3 2048 1 b1 (by omega) (by omega) e1 (by omega) (by omega) (by omega) (by omega) (by omega)]
      by_cases hb2 : b2 < 128 ∨ 191 < b2
      · rw [show ((1 : Nat) : Int) + 1 = ((2 : Nat) : Int) from rfl, point_bad (k + 2) s _ 3 2048 2 b2 (by omega) (by omega) e2 hb2, fin _ (by omega)]
      · rw [show ((1 : Nat) : Int) + 1 = ((2 : Nat) : Int) from rfl, point_step (k + 2) s _ 3 2048 2 b2 (by omega) (by omega) e2 (by omega) (by omega) (by omega) (by omega) (by omega), point_end _ _ _ _ _ _ (by omega)]
        generalize (s.get! 3).toNat = b3
        have hd : Lib.decodeN s.size b0 b1 b2 b3 = if b0 % 16 * 4096 + b1 % 64 * 64 + b2 % 64 ≥ 2048 ∧ (b0 % 16 * 4096 + b1 % 64 * 64 + b2 % 64 < 55296 ∨ (57344 ≤ b0 % 16 * 4096 + b1 % 64 * 64 + b2 % 64 ∧ b0 % 16 * 4096 + b1 % 64 * 64 + b2 % 64 ≤ 1114111)) then (b0 % 16 * 4096 + b1 % 64 * 64 + b2 % 64, 3) else (65533, 1) := by unfold Lib.decodeN; rw [if_neg (by omega), if_neg (by omega), if_pos (by omega)]
        rw [hd]
        clear hd
        have hv : ((b0 % 16 * 4096 + b1 % 64 * 64 + b2 % 64 : Nat) : Int) = ((b0 : Int) % 16 * 64 + (b1 : Int) % 64) * 64 + (b2 : Int) % 64 := by omega
        generalize b0 % 16 * 4096 + b1 % 64 * 64 + b2 % 64 = c at hv ⊢
        rw [← hv]
        by_cases hc : c ≥ 2048 ∧ (c < 55296 ∨ (57344 ≤ c ∧ c ≤ 1114111))
        · rw [if_neg (by omega), if_pos hc, pointN_good rfl (by omega)]; rfl
        · rw [if_pos (by omega), if_neg hc, pointN_bad rfl]
theorem point4 (k : Nat) (s : ByteArray) (b0 : Nat) (h0 : 240 ≤ b0) (h1 : b0 ≤ 244) :
    understudyref02_point.j2 (k + 6) s ((b0 : Int) % 8) 4 65536 = some (pointN (Lib.decodeN s.size b0 (s.get! 1).toNat (s.get! 2).toNat (s.get! 3).toNat)) := by
  generalize e1 : (s.get! 1).toNat = b1
  generalize e2 : (s.get! 2).toNat = b2
  generalize e3 : (s.get! 3).toNat = b3
  simp only [understudyref02_point.j2]
  have fin : ¬ ((1 < s.size ∧ b1 / 64 = 2) ∧ (2 < s.size ∧ b2 / 64 = 2) ∧ (3 < s.size ∧ b3 / 64 = 2)) → pointN (Lib.decodeN s.size b0 b1 b2 b3) = (0, 0) := by
    intro hh
    exact pointN_bad (by unfold Lib.decodeN; rw [if_neg (by omega), if_neg (by omega), if_neg (by omega), if_neg (by omega)])
  by_cases hs : (s.size : Int) < 4
  · rw [if_pos hs, fin (by omega)]
  · rw [if_neg hs]
    by_cases hb : b1 < 128 ∨ 191 < b1
    · rw [show (1 : Int) = ((1 : Nat) : Int) from rfl, point_bad (k + 4) s _ 4 65536 1 b1 (by omega) (by omega) e1 hb, fin (by omega)]
    · rw [show (1 : Int) = ((1 : Nat) : Int) from rfl, point_step (k + 4) s _ 4 65536 1 b1 (by omega) (by omega) e1 (by omega) (by omega) (by omega) (by omega) (by omega)]
      by_cases hb2 : b2 < 128 ∨ 191 < b2
      · rw [show ((1 : Nat) : Int) + 1 = ((2 : Nat) : Int) from rfl, point_bad (k + 3) s _ 4 65536 2 b2 (by omega) (by omega) e2 hb2, fin (by omega)]
      · rw [show ((1 : Nat) : Int) + 1 = ((2 : Nat) : Int) from rfl, point_step (k + 3) s _ 4 65536 2 b2 (by omega) (by omega) e2 (by omega) (by omega) (by omega) (by omega) (by omega)]
        by_cases hb3 : b3 < 128 ∨ 191 < b3
        · rw [show ((2 : Nat) : Int) + 1 = ((3 : Nat) : Int) from rfl, point_bad (k + 2) s _ 4 65536 3 b3 (by omega) (by omega) e3 hb3, fin (by omega)]
        · rw [show ((2 : Nat) : Int) + 1 = ((3 : Nat) : Int) from rfl, point_step (k + 2) s _ 4 65536 3 b3 (by omega) (by omega) e3 (by omega) (by omega) (by omega) (by omega) (by omega), point_end _ _ _ _ _ _ (by omega)]
          have hd : Lib.decodeN s.size b0 b1 b2 b3 = if b0 % 8 * 262144 + b1 % 64 * 4096 + b2 % 64 * 64 + b3 % 64 ≥ 65536 ∧ (b0 % 8 * 262144 + b1 % 64 * 4096 + b2 % 64 * 64 + b3 % 64 < 55296 ∨ (57344 ≤ b0 % 8 * 262144 + b1 % 64 * 4096 + b2 % 64 * 64 + b3 % 64 ∧ b0 % 8 * 262144 + b1 % 64 * 4096 + b2 % 64 * 64 + b3 % 64 ≤ 1114111)) then (b0 % 8 * 262144 + b1 % 64 * 4096 + b2 % 64 * 64 + b3 % 64, 4) else (65533, 1) := by unfold Lib.decodeN; rw [if_neg (by omega), if_neg (by omega), if_neg (by omega), if_pos (by omega)]
          rw [hd]
          clear hd
          have hv : ((b0 % 8 * 262144 + b1 % 64 * 4096 + b2 % 64 * 64 + b3 % 64 : Nat) : Int) = (((b0 : Int) % 8 * 64 + (b1 : Int) % 64) * 64 + (b2 : Int) % 64) * 64 + (b3 : Int) % 64 := by omega
          generalize b0 % 8 * 262144 + b1 % 64 * 4096 + b2 % 64 * 64 + b3 % 64 = c at hv ⊢
          rw [← hv]
          by_cases hc : c ≥ 65536 ∧ (c < 55296 ∨ (57344 ≤ c ∧ c ≤ 1114111))
          · rw [if_neg (by omega), if_pos hc, pointN_good rfl (by omega)]; rfl
          · rw [if_pos (by omega), if_neg hc, pointN_bad rfl]
theorem point.ev (s : ByteArray) (hs : 0 < s.size) : Ev (fun k => understudyref02_point.f k s) (pointV s) := by
  refine ⟨9, fun k hk => ?_⟩
  obtain ⟨k, rfl⟩ : ∃ m, k = m + 9 := ⟨k - 9, by omega⟩
  show understudyref02_point.f (k + 9) s = _
  rw [pointV_eq]
  have e := bt_nat s 0 hs
  generalize e0 : (s.get! 0).toNat = b0 at e ⊢
  have hb0 : b0 < 256 := by rw [← e0]; exact (s.get! 0).toNat_lt
  have a31 : bits .and .i64 (b0 : Int) 31 = (b0 : Int) % 32 := and64 5 (by omega) _ (by omega) (by omega)
  have a15 : bits .and .i64 (b0 : Int) 15 = (b0 : Int) % 16 := and64 4 (by omega) _ (by omega) (by omega)
  have a7 : bits .and .i64 (b0 : Int) 7 = (b0 : Int) % 8 := and64 3 (by omega) _ (by omega) (by omega)
  unfold understudyref02_point.f
  rw [if_pos (by omega), show (0 : Int) = ((0 : Nat) : Int) from rfl, e, w64 (by omega) (by omega)]
  have none_ : ¬ (194 ≤ b0 ∧ b0 ≤ 244) → 128 ≤ b0 → ∀ b1 b2 b3, b1 < 256 → b2 < 256 → b3 < 256 → pointN (Lib.decodeN s.size b0 b1 b2 b3) = (0, 0) := by
    intro h1 h2 b1 b2 b3 l1 l2 l3
    apply pointN_bad
    unfold Lib.decodeN
    rw [if_neg (by omega)]
    by_cases c1 : b0 / 32 = 6 ∧ (1 < s.size ∧ b1 / 64 = 2)
    · rw [if_pos c1, if_neg (by omega)]
    · rw [if_neg c1, if_neg (by omega)]
      by_cases c2 : b0 / 8 = 30 ∧ (1 < s.size ∧ b1 / 64 = 2) ∧ (2 < s.size ∧ b2 / 64 = 2) ∧ (3 < s.size ∧ b3 / 64 = 2)
      · rw [if_pos c2, if_neg (by omega)]
      · rw [if_neg c2]
  have lt (i : Nat) : (s.get! i).toNat < 256 := (s.get! i).toNat_lt
  by_cases c1 : b0 < 128
  · rw [if_pos (by omega)]
    rw [pointN_good (c := b0) (n := 1) (by unfold Lib.decodeN; rw [if_pos c1]) (by omega)]
    rfl
  · rw [if_neg (by omega)]
    by_cases c2 : 194 ≤ b0 ∧ b0 ≤ 223
    · rw [if_pos (by omega), decide_eq_true (by omega)]
      simp only [understudyref02_point.j0]
      rw [if_pos trivial, a31]
      exact point2 (k + 4) s b0 c2.1 c2.2
    · have key : understudyref02_point.j0 (k + 9) s (b0 : Int) false = some (pointN (Lib.decodeN s.size b0 (s.get! 1).toNat (s.get! 2).toNat (s.get! 3).toNat)) := by
        simp only [understudyref02_point.j0]
        rw [if_neg (by simp)]
        by_cases c3 : 224 ≤ b0 ∧ b0 ≤ 239
        · rw [if_pos (by omega), decide_eq_true (by omega)]
          simp only [understudyref02_point.j1]
          rw [if_pos trivial, a15]
          exact point3 (k + 2) s b0 c3.1 c3.2
        · have key2 : understudyref02_point.j1 (k + 8) s (b0 : Int) false = some (pointN (Lib.decodeN s.size b0 (s.get! 1).toNat (s.get! 2).toNat (s.get! 3).toNat)) := by
            simp only [understudyref02_point.j1]
            rw [if_neg (by simp)]
            by_cases c4 : 240 ≤ b0
            · rw [if_pos (by omega)]
              by_cases c5 : b0 ≤ 244
              · rw [if_pos (by omega), a7]
                exact point4 (k + 1) s b0 c4 c5
              · rw [if_neg (by omega), none_ (by omega) (by omega) _ _ _ (lt _) (lt _) (lt _)]
            · rw [if_neg (by omega), none_ (by omega) (by omega) _ _ _ (lt _) (lt _) (lt _)]
          by_cases c6 : (b0 : Int) ≥ 224
          · rw [if_pos c6, decide_eq_false (by omega)]; exact key2
          · rw [if_neg c6]; exact key2
      by_cases c6 : (b0 : Int) ≥ 194
      · rw [if_pos c6, decide_eq_false (by omega)]; exact key
      · rw [if_neg c6]; exact key

theorem ne_of_size (s : ByteArray) (hs : 0 < s.size) : s.data.toList ≠ [] := by
  intro e
  have := congrArg List.length e
  rw [← Lib.size_eq] at this
  simp only [List.length_nil] at this
  omega
theorem ref_Encode.ev_l : ∀ n (s : ByteArray) (b : List Int), s.size ≤ n → b.length + 6 * s.size < 140737488355328 → Ev (fun k => understudyref02_Encode.l0 k s b) (if Lib.validD s.data.toList = true then (b ++ encL s.data.toList, 0) else ([], 20)) := by
  intro n
  induction n with
  | zero =>
    intro s b hn hb
    have e : s.data.toList = [] := List.length_eq_zero_iff.1 (by rw [← Lib.size_eq]; omega)
    refine ⟨1, fun k hk => ?_⟩
    obtain ⟨k, rfl⟩ : ∃ m, k = m + 1 := ⟨k - 1, by omega⟩
    simp only [understudyref02_Encode.l0]
    rw [if_neg (by omega), e, Lib.validD_nil, if_pos rfl, encL_nil, List.append_nil]
  | succ n ih =>
    intro s b hn hb
    by_cases hs : 0 < s.size
    · have hne := ne_of_size s hs
      have hd : Lib.decodeL s.data.toList = Utf8.decode s 0 := by
        have := Lib.decodeL_drop s 0
        simpa using this
      have hw := text_Encode.width s 0 hs
      have hr := Lib.decodeL_rune s.data.toList
      rw [hd] at hr
      have hwl := Lib.decodeL_le s.data.toList hne
      rw [hd, ← Lib.size_eq] at hwl
      have h6 := cuL_len ((Utf8.decode s 0).1 : Int)
      obtain ⟨K1, hP⟩ := point.ev s hs
      have hstep := Lib.validD_step s.data.toList hne
      have hex : (s.extract (Utf8.decode s 0).2 s.size).data.toList = s.data.toList.drop (Utf8.decode s 0).2 := Lib.extract_to_end s _
      rw [hd] at hstep
      unfold pointV at hP
      by_cases hbad : (Utf8.decode s 0).1 = 65533 ∧ (Utf8.decode s 0).2 = 1
      · rw [if_pos hbad] at hstep
        rw [if_pos hbad] at hP
        rw [if_neg (by rw [hstep]; simp)]
        refine ⟨K1 + 1, fun k hk => ?_⟩
        obtain ⟨k, rfl⟩ : ∃ m, k = m + 1 := ⟨k - 1, by omega⟩
        have hp := hP k (by omega)
        simp only at hp
        simp only [understudyref02_Encode.l0]
        rw [if_pos (by omega), hp, Option.bind_some, if_pos rfl]
      · rw [if_neg hbad] at hstep
        rw [if_neg hbad] at hP
        rw [hstep, encL_step _ hne, hd]
        have hsz : (s.extract (Utf8.decode s 0).2 s.size).size = s.size - (Utf8.decode s 0).2 := by
          rw [Lib.size_eq, hex, List.length_drop, ← Lib.size_eq]
        generalize ht : s.extract (Utf8.decode s 0).2 s.size = t at hex hsz
        have IH := ih t (b ++ cuL ((Utf8.decode s 0).1 : Int)) (by omega) (by rw [List.length_append]; omega)
        rw [hex] at IH
        obtain ⟨K2, hI⟩ := IH
        generalize hc : (Utf8.decode s 0).1 = c at *
        generalize hwd : (Utf8.decode s 0).2 = wd at *
        rw [← List.append_assoc]
        by_cases hbig : c < 65536
        · obtain ⟨K3, hU⟩ := ref_unit.ev (c : Int) (by omega) (by omega)
          have hcu : cuL (c : Int) = unitL (c : Int) := by unfold cuL; rw [if_pos (by omega)]
          refine ⟨K1 + K2 + K3 + 1, fun k hk => ?_⟩
          obtain ⟨k, rfl⟩ : ∃ m, k = m + 1 := ⟨k - 1, by omega⟩
          have hp := hP k (by omega)
          have hu := hU k (by omega)
          have hi := hI k (by omega)
          simp only at hp hu hi
          simp only [understudyref02_Encode.l0]
          rw [hcu] at hi h6
          rw [if_pos (by omega), hp, Option.bind_some]
          simp only
          rw [if_neg (by omega), if_pos (by omega), if_pos (by omega), if_neg (by omega), hu, Option.bind_some, if_pos (by omega), Int.toNat_natCast, ht, hi, hcu]
        · obtain ⟨K3, hU⟩ := ref_unit.ev (55296 + ((c : Int) - 65536) / 1024) (by omega) (by omega)
          obtain ⟨K4, hV⟩ := ref_unit.ev (56320 + ((c : Int) - 65536) % 1024) (by omega) (by omega)
          have hcu : cuL (c : Int) = unitL (55296 + ((c : Int) - 65536) / 1024) ++ unitL (56320 + ((c : Int) - 65536) % 1024) := by unfold cuL; rw [if_neg (by omega)]
          refine ⟨K1 + K2 + K3 + K4 + 1, fun k hk => ?_⟩
          obtain ⟨k, rfl⟩ : ∃ m, k = m + 1 := ⟨k - 1, by omega⟩
          have hp := hP k (by omega)
          have hu := hU k (by omega)
          have hv := hV k (by omega)
          have hi := hI k (by omega)
          simp only at hp hu hv hi
          have e1 : wrap64 ((c : Int) - 65536) = (c : Int) - 65536 := w64 (by omega) (by omega)
          have e2 : Int.tdiv ((c : Int) - 65536) 1024 = ((c : Int) - 65536) / 1024 := Int.tdiv_eq_ediv_of_nonneg (by omega)
          have e3 : Int.tmod ((c : Int) - 65536) 1024 = ((c : Int) - 65536) % 1024 := Int.tmod_eq_emod_of_nonneg (by omega)
          have e4 : wrap64 (((c : Int) - 65536) / 1024) = ((c : Int) - 65536) / 1024 := w64 (by omega) (by omega)
          have e5 : wrap64 (55296 + ((c : Int) - 65536) / 1024) = 55296 + ((c : Int) - 65536) / 1024 := w64 (by omega) (by omega)
          have e6 : wrap64 (56320 + ((c : Int) - 65536) % 1024) = 56320 + ((c : Int) - 65536) % 1024 := w64 (by omega) (by omega)
          have h7 := unitL_len (55296 + ((c : Int) - 65536) / 1024)
          simp only [understudyref02_Encode.l0]
          rw [hcu, ← List.append_assoc] at hi
          rw [hcu, List.length_append] at h6
          rw [if_pos (by omega), hp, Option.bind_some]
          simp only [e1, e2, e3, e4, e5, e6]
          rw [if_neg (by omega), if_pos (by omega), if_pos (by omega), if_pos (by omega), hu, Option.bind_some, if_pos (by omega), Option.bind_some, hv, Option.bind_some, if_pos (by rw [List.length_append]; omega), Int.toNat_natCast, ht, hi, hcu]
          simp only [List.append_assoc]
    · have e : s.data.toList = [] := List.length_eq_zero_iff.1 (by rw [← Lib.size_eq]; omega)
      refine ⟨1, fun k hk => ?_⟩
      obtain ⟨k, rfl⟩ : ∃ m, k = m + 1 := ⟨k - 1, by omega⟩
      simp only [understudyref02_Encode.l0]
      rw [if_neg (by omega), e, Lib.validD_nil, if_pos rfl, encL_nil, List.append_nil]
/-- WHAT THE REFERENCE's ENCODE COMES TO: the same. -/
theorem ref_Encode.ev (s : ByteArray) (hs : s.size ≤ 1099511627776) : Ev (fun k => understudyref02_Encode.f k s) (encV s) := by
  have h := ref_Encode.ev_l s.size s [] (Nat.le_refl _) (by simp; omega)
  simp only [List.nil_append] at h
  exact h
end Go.Proofs.YtglnhkgodgjepaaDoor.Px
