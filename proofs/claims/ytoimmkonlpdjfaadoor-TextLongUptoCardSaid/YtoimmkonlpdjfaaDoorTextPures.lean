/- The pure statements of TextEncodes, TextJoins, TextLong, at texts that are not longer than 2^40 bytes. -/
import Derived.Test.YtoimmkonlpdjfaaDoorTextMath
import Derived.Test.YtoimmkonlpdjfaaDoorPx3
namespace Go.Proofs.YtoimmkonlpdjfaaDoor.Px
open Go.RowKit Go.Proofs.YtoimmkonlpdjfaaDoorW.PrintWords Go.Proofs.YtoimmkonlpdjfaaDoorW.PrintLast Go.Proofs.YtoimmkonlpdjfaaDoorW.PrintMore
set_option linter.unusedVariables false
set_option linter.unusedSimpArgs false

theorem encV_A : encV (⟨#[65]⟩ : ByteArray) = ([65], 0) := by decide +kernel
theorem awake.ev : Ev (fun k => understudylaw02_awake.f k) true := by
  obtain ⟨K, h⟩ := text_Encode.ev (⟨#[65]⟩ : ByteArray) (by decide)
  refine ⟨K, fun k hk => ?_⟩
  have h1 := h k hk
  rw [encV_A] at h1
  simp only at h1
  show understudylaw02_awake.f k = _
  unfold understudylaw02_awake.f
  rw [h1]
  simp [Lib.toList_data, strOfNums]
theorem TextEncodes_pure (a0 : ByteArray) (h : a0.size ≤ 1099511627776) : ∃ k, understudylaw02_TextEncodes.f k a0 = some true := by
  obtain ⟨K1, h1⟩ := text_Encode.ev a0 h
  obtain ⟨K2, h2⟩ := ref_Encode.ev a0 h
  obtain ⟨K3, h3⟩ := text_Len.ev a0 h
  obtain ⟨K4, h4⟩ := awake.ev
  refine ⟨K1 + K2 + K3 + K4, ?_⟩
  have e1 := h1 (K1 + K2 + K3 + K4) (by omega)
  have e2 := h2 (K1 + K2 + K3 + K4) (by omega)
  have e3 := h3 (K1 + K2 + K3 + K4) (by omega)
  have e4 := h4 (K1 + K2 + K3 + K4) (by omega)
  simp only at e1 e2 e3 e4
  unfold understudylaw02_TextEncodes.f
  rw [e1, e2, e3, e4]
  simp

/-! ### one behind the other -/
theorem decodeN_ext (n n' b0 b1 b2 b3 c1 c2 c3 : Nat) (hn : n ≤ n') (h1 : 1 < n → c1 = b1) (h2 : 2 < n → c2 = b2) (h3 : 3 < n → c3 = b3)
    (hbad : ¬ ((Lib.decodeN n b0 b1 b2 b3).1 = 65533 ∧ (Lib.decodeN n b0 b1 b2 b3).2 = 1)) : Lib.decodeN n' b0 c1 c2 c3 = Lib.decodeN n b0 b1 b2 b3 := by
  unfold Lib.decodeN at hbad ⊢
  by_cases a1 : b0 < 128
  · rw [if_pos a1, if_pos a1]
  · rw [if_neg a1] at hbad
    rw [if_neg a1, if_neg a1]
    by_cases a2 : b0 / 32 = 6 ∧ (1 < n ∧ b1 / 64 = 2)
    · obtain rfl := h1 a2.2.1
      rw [if_pos a2, if_pos (by omega)]
    · rw [if_neg a2] at hbad
      rw [if_neg a2]
      by_cases a3 : b0 / 16 = 14 ∧ (1 < n ∧ b1 / 64 = 2) ∧ (2 < n ∧ b2 / 64 = 2)
      · obtain rfl := h1 (by omega)
        obtain rfl := h2 (by omega)
        rw [if_pos a3, if_neg (by omega), if_pos (by omega)]
      · rw [if_neg a3] at hbad
        rw [if_neg a3]
        by_cases a4 : b0 / 8 = 30 ∧ (1 < n ∧ b1 / 64 = 2) ∧ (2 < n ∧ b2 / 64 = 2) ∧ (3 < n ∧ b3 / 64 = 2)
        · obtain rfl := h1 (by omega)
          obtain rfl := h2 (by omega)
          obtain rfl := h3 (by omega)
          rw [if_pos a4, if_neg (by omega), if_neg (by omega), if_pos (by omega)]
        · rw [if_neg a4] at hbad
          exact absurd ⟨rfl, rfl⟩ hbad
theorem decodeL_append (l1 l2 : List UInt8) (hne : l1 ≠ []) (hbad : ¬ ((Lib.decodeL l1).1 = 65533 ∧ (Lib.decodeL l1).2 = 1)) : Lib.decodeL (l1 ++ l2) = Lib.decodeL l1 := by
  have hl : 0 < l1.length := List.length_pos_iff.2 hne
  rw [Lib.decodeL_N] at hbad
  rw [Lib.decodeL_N, Lib.decodeL_N]
  have g : ∀ i, i < l1.length → (l1 ++ l2).getD i 0 = l1.getD i 0 := fun i hi => by simp [List.getD, List.getElem?_append_left hi]
  rw [g 0 hl]
  exact decodeN_ext _ _ _ _ _ _ _ _ _ (by rw [List.length_append]; omega) (fun h => by rw [g 1 h]) (fun h => by rw [g 2 h]) (fun h => by rw [g 3 h]) hbad
theorem valid_append : ∀ n (l1 l2 : List UInt8), l1.length ≤ n → Lib.validD l1 = true → Lib.validD (l1 ++ l2) = Lib.validD l2 ∧ encL (l1 ++ l2) = encL l1 ++ encL l2 := by
  intro n
  induction n with
  | zero =>
    intro l1 l2 hn hv
    have e : l1 = [] := List.length_eq_zero_iff.1 (by omega)
    subst e
    simp [encL_nil]
  | succ n ih =>
    intro l1 l2 hn hv
    by_cases hne : l1 = []
    · subst hne
      simp [encL_nil]
    · have hl : 0 < l1.length := List.length_pos_iff.2 hne
      have hw := Lib.decodeL_width l1
      have hwl := Lib.decodeL_le l1 hne
      rw [Lib.validD_step l1 hne] at hv
      by_cases hbad : (Lib.decodeL l1).1 = 65533 ∧ (Lib.decodeL l1).2 = 1
      · rw [if_pos hbad] at hv
        exact absurd hv (by simp)
      · rw [if_neg hbad] at hv
        have hne' : l1 ++ l2 ≠ [] := by simp [hne]
        have hd := decodeL_append l1 l2 hne hbad
        obtain ⟨i1, i2⟩ := ih (l1.drop (Lib.decodeL l1).2) l2 (by rw [List.length_drop]; omega) hv
        rw [Lib.validD_step _ hne', encL_step _ hne', encL_step _ hne, hd, if_neg hbad, List.drop_append_of_le_length hwl, i1, i2, List.append_assoc]
        exact ⟨rfl, rfl⟩

/-- A code point and its bytes' number. -/
theorem decodeN_width (n b0 b1 b2 b3 : Nat) (hbad : ¬ ((Lib.decodeN n b0 b1 b2 b3).1 = 65533 ∧ (Lib.decodeN n b0 b1 b2 b3).2 = 1)) :
    ((Lib.decodeN n b0 b1 b2 b3).1 < 128 ∧ (Lib.decodeN n b0 b1 b2 b3).2 = 1) ∨ (128 ≤ (Lib.decodeN n b0 b1 b2 b3).1 ∧ (Lib.decodeN n b0 b1 b2 b3).1 < 2048 ∧ (Lib.decodeN n b0 b1 b2 b3).2 = 2) ∨ (2048 ≤ (Lib.decodeN n b0 b1 b2 b3).1 ∧ (Lib.decodeN n b0 b1 b2 b3).1 < 65536 ∧ (Lib.decodeN n b0 b1 b2 b3).2 = 3) ∨ (65536 ≤ (Lib.decodeN n b0 b1 b2 b3).1 ∧ (Lib.decodeN n b0 b1 b2 b3).1 ≤ 1114111 ∧ (Lib.decodeN n b0 b1 b2 b3).2 = 4) := by
  unfold Lib.decodeN at hbad ⊢
  by_cases a1 : b0 < 128
  · rw [if_pos a1]; exact .inl ⟨a1, rfl⟩
  · rw [if_neg a1] at hbad ⊢
    by_cases a2 : b0 / 32 = 6 ∧ (1 < n ∧ b1 / 64 = 2)
    · rw [if_pos a2] at hbad ⊢
      by_cases a5 : b0 % 32 * 64 + b1 % 64 ≥ 128
      · rw [if_pos a5]; exact .inr (.inl ⟨a5, by show b0 % 32 * 64 + b1 % 64 < 2048; omega, rfl⟩)
      · rw [if_neg a5] at hbad; exact absurd ⟨rfl, rfl⟩ hbad
    · rw [if_neg a2] at hbad ⊢
      by_cases a3 : b0 / 16 = 14 ∧ (1 < n ∧ b1 / 64 = 2) ∧ (2 < n ∧ b2 / 64 = 2)
      · rw [if_pos a3] at hbad ⊢
        by_cases a5 : b0 % 16 * 4096 + b1 % 64 * 64 + b2 % 64 ≥ 2048 ∧ (b0 % 16 * 4096 + b1 % 64 * 64 + b2 % 64 < 55296 ∨ (57344 ≤ b0 % 16 * 4096 + b1 % 64 * 64 + b2 % 64 ∧ b0 % 16 * 4096 + b1 % 64 * 64 + b2 % 64 ≤ 1114111))
        · rw [if_pos a5]; exact .inr (.inr (.inl ⟨a5.1, by show b0 % 16 * 4096 + b1 % 64 * 64 + b2 % 64 < 65536; omega, rfl⟩))
        · rw [if_neg a5] at hbad; exact absurd ⟨rfl, rfl⟩ hbad
      · rw [if_neg a3] at hbad ⊢
        by_cases a4 : b0 / 8 = 30 ∧ (1 < n ∧ b1 / 64 = 2) ∧ (2 < n ∧ b2 / 64 = 2) ∧ (3 < n ∧ b3 / 64 = 2)
        · rw [if_pos a4] at hbad ⊢
          by_cases a5 : b0 % 8 * 262144 + b1 % 64 * 4096 + b2 % 64 * 64 + b3 % 64 ≥ 65536 ∧ (b0 % 8 * 262144 + b1 % 64 * 4096 + b2 % 64 * 64 + b3 % 64 < 55296 ∨ (57344 ≤ b0 % 8 * 262144 + b1 % 64 * 4096 + b2 % 64 * 64 + b3 % 64 ∧ b0 % 8 * 262144 + b1 % 64 * 4096 + b2 % 64 * 64 + b3 % 64 ≤ 1114111))
          · rw [if_pos a5]; exact .inr (.inr (.inr ⟨a5.1, by show b0 % 8 * 262144 + b1 % 64 * 4096 + b2 % 64 * 64 + b3 % 64 ≤ 1114111; omega, rfl⟩))
          · rw [if_neg a5] at hbad; exact absurd ⟨rfl, rfl⟩ hbad
        · rw [if_neg a4] at hbad; exact absurd ⟨rfl, rfl⟩ hbad
theorem cuL_width (c w : Nat) (h : (c < 128 ∧ w = 1) ∨ (128 ≤ c ∧ c < 2048 ∧ w = 2) ∨ (2048 ≤ c ∧ c < 65536 ∧ w = 3) ∨ (65536 ≤ c ∧ c ≤ 1114111 ∧ w = 4)) : w ≤ (cuL (c : Int)).length ∧ (cuL (c : Int)).length ≤ 2 * w := by
  have u3 : ∀ u : Int, 2047 < u → (unitL u).length = 3 := fun u hu => by unfold unitL; rw [if_neg (by omega), if_neg (by omega)]; rfl
  unfold cuL
  by_cases hc : (c : Int) < 65536
  · rw [if_pos hc]
    by_cases h3 : 2047 < c
    · rw [u3 _ (by omega)]; omega
    · unfold unitL
      by_cases h1 : 1 ≤ (c : Int) ∧ (c : Int) ≤ 127
      · rw [if_pos h1]; simp; omega
      · rw [if_neg h1, if_pos (by omega)]; simp; omega
  · rw [if_neg hc, List.length_append, u3 _ (by omega), u3 _ (by omega)]; omega
theorem encL_bounds : ∀ n (l : List UInt8), l.length ≤ n → Lib.validD l = true → l.length ≤ (encL l).length ∧ (encL l).length ≤ 2 * l.length := by
  intro n
  induction n with
  | zero =>
    intro l hn hv
    have e : l = [] := List.length_eq_zero_iff.1 (by omega)
    subst e
    simp [encL_nil]
  | succ n ih =>
    intro l hn hv
    by_cases hne : l = []
    · subst hne
      simp [encL_nil]
    · have hl : 0 < l.length := List.length_pos_iff.2 hne
      have hw := Lib.decodeL_width l
      have hwl := Lib.decodeL_le l hne
      rw [Lib.validD_step l hne] at hv
      by_cases hbad : (Lib.decodeL l).1 = 65533 ∧ (Lib.decodeL l).2 = 1
      · rw [if_pos hbad] at hv
        exact absurd hv (by simp)
      · rw [if_neg hbad] at hv
        have hI := ih _ (by rw [List.length_drop]; omega) hv
        have hW := hbad
        rw [Lib.decodeL_N] at hW
        have hW := decodeN_width _ _ _ _ _ hW
        rw [← Lib.decodeL_N] at hW
        have hC := cuL_width _ _ hW
        rw [encL_step l hne, List.length_append]
        rw [List.length_drop] at hI
        omega
theorem TextJoins_yes (k : Nat) (a0 a1 : ByteArray) (x y z : List Int) (hx : x.length ≤ 1099511627776 * 6) (hy : y.length ≤ 1099511627776 * 6) (h0 : a0.size + a1.size ≤ 9223372036854775807) (hz : z = x ++ y)
    (e4 : understudylaw02_awake.f k = some true) (e5 : text_Len.f k a0 = some (x.length : Int)) (e6 : text_Len.f k a1 = some (y.length : Int)) (e7 : text_Len.f k (a0 ++ a1) = some (z.length : Int)) :
    understudylaw02_TextJoins.j0 (k + 1) a0 a1 x y z 0 (0 != (0 : Int)) = some true := by
  have hs : strOfNums z = strOfNums x ++ strOfNums y := by
    subst hz
    apply ByteArray.ext
    apply Array.toList_inj.1
    simp [strOfNums_data]
  have hw : wrap64 ((x.length : Int) + (y.length : Int)) = (z.length : Int) := by
    rw [hz, List.length_append, w64 (by omega) (by omega)]; omega
  have hn : (0 != (0 : Int)) = false := rfl
  rw [hn]
  simp only [understudylaw02_TextJoins.j0]
  rw [if_neg (by simp), if_pos trivial, strOfNums_size, strOfNums_size, if_pos (by omega), hs, if_pos rfl, if_pos h0, e7, Option.bind_some, e5, Option.bind_some, e6, Option.bind_some, hw, if_pos rfl, e4, Option.bind_some]
theorem TextJoins_no (k : Nat) (a0 a1 : ByteArray) (x y z : List Int) (q : Int) (b : Bool) (hb : b = true) (e4 : understudylaw02_awake.f k = some true) :
    understudylaw02_TextJoins.j0 (k + 1) a0 a1 x y z q b = some true := by
  subst hb
  simp only [understudylaw02_TextJoins.j0]
  rw [if_pos trivial, e4, Option.bind_some]
theorem TextJoins_pure (a0 a1 : ByteArray) (h0 : a0.size ≤ 549755813888) (h1 : a1.size ≤ 549755813888) : ∃ k, understudylaw02_TextJoins.f k a0 a1 = some true := by
  have hsz : (a0 ++ a1).size = a0.size + a1.size := ByteArray.size_append
  have hdl : (a0 ++ a1).data.toList = a0.data.toList ++ a1.data.toList := by rw [ByteArray.data_append, Array.toList_append]
  obtain ⟨K1, h1'⟩ := text_Encode.ev a0 (by omega)
  obtain ⟨K2, h2⟩ := text_Encode.ev a1 (by omega)
  obtain ⟨K3, h3⟩ := text_Encode.ev (a0 ++ a1) (by omega)
  obtain ⟨K4, h4⟩ := awake.ev
  obtain ⟨K5, h5⟩ := text_Len.ev a0 (by omega)
  obtain ⟨K6, h6⟩ := text_Len.ev a1 (by omega)
  obtain ⟨K7, h7⟩ := text_Len.ev (a0 ++ a1) (by omega)
  obtain ⟨K, g1, g2, g3, g4, g5, g6, g7⟩ : ∃ K, K1 ≤ K + 1 ∧ K2 ≤ K + 1 ∧ K3 ≤ K + 1 ∧ K4 ≤ K ∧ K5 ≤ K ∧ K6 ≤ K ∧ K7 ≤ K := ⟨K1 + K2 + K3 + K4 + K5 + K6 + K7, by omega, by omega, by omega, by omega, by omega, by omega, by omega⟩
  refine ⟨K + 1, ?_⟩
  have e1 := h1' _ g1
  have e2 := h2 _ g2
  have e3 := h3 _ g3
  have e4 := h4 _ g4
  have e5 := h5 _ g5
  have e6 := h6 _ g6
  have e7 := h7 _ g7
  simp only at e1 e2 e3 e4 e5 e6 e7
  clear h1' h2 h3 h4 h5 h6 h7 g1 g2 g3 g4 g5 g6 g7
  unfold understudylaw02_TextJoins.f
  rw [e1, Option.bind_some, e2, Option.bind_some, if_pos (by omega), e3, Option.bind_some]
  clear e1 e2 e3
  by_cases v0 : Lib.validD a0.data.toList = true
  · have E0 : encV a0 = (encL a0.data.toList, 0) := by unfold encV; rw [if_pos v0]
    by_cases v1 : Lib.validD a1.data.toList = true
    · obtain ⟨va, ea⟩ := valid_append _ a0.data.toList a1.data.toList (Nat.le_refl _) v0
      have E1 : encV a1 = (encL a1.data.toList, 0) := by unfold encV; rw [if_pos v1]
      have E2 : encV (a0 ++ a1) = (encL a0.data.toList ++ encL a1.data.toList, 0) := by unfold encV; rw [hdl, va, if_pos v1, ea]
      have l0 := encL_len _ a0.data.toList (Nat.le_refl _)
      have l1 := encL_len _ a1.data.toList (Nat.le_refl _)
      rw [← Lib.size_eq] at l0 l1
      rw [E0] at e5
      rw [E1] at e6
      rw [E2] at e7
      rw [E0, E1, E2]
      rw [if_pos rfl]
      exact TextJoins_yes K a0 a1 (encL a0.data.toList) (encL a1.data.toList) (encL a0.data.toList ++ encL a1.data.toList) (by omega) (by omega) (by omega) rfl e4 e5 e6 e7
    · have E1 : encV a1 = ([], 20) := by unfold encV; rw [if_neg v1]
      rw [E0, E1, if_pos rfl]
      exact TextJoins_no K _ _ _ _ _ _ _ rfl e4
  · have E0 : encV a0 = ([], 20) := by unfold encV; rw [if_neg v0]
    rw [E0, if_neg (by decide)]
    exact TextJoins_no K _ _ _ _ _ _ _ rfl e4
theorem TextLong_pure (a0 : ByteArray) (h : a0.size ≤ 1099511627776) : ∃ k, understudylaw02_TextLong.f k a0 = some true := by
  obtain ⟨K1, h1⟩ := text_Encode.ev a0 h
  obtain ⟨K3, h3⟩ := text_Len.ev a0 h
  obtain ⟨K4, h4⟩ := awake.ev
  refine ⟨K1 + K3 + K4, ?_⟩
  have e1 := h1 (K1 + K3 + K4) (by omega)
  have e3 := h3 (K1 + K3 + K4) (by omega)
  have e4 := h4 (K1 + K3 + K4) (by omega)
  simp only at e1 e3 e4
  unfold understudylaw02_TextLong.f
  rw [e1, e3, e4]
  simp only [Option.bind_some]
  by_cases v0 : Lib.validD a0.data.toList = true
  · have E0 : encV a0 = (encL a0.data.toList, 0) := by unfold encV; rw [if_pos v0]
    have hb := encL_bounds _ a0.data.toList (Nat.le_refl _) v0
    rw [← Lib.size_eq] at hb
    rw [E0]
    simp only
    have d : Int.tdiv (((encL a0.data.toList).length : Int)) 2 = ((encL a0.data.toList).length : Int) / 2 := Int.tdiv_eq_ediv_of_nonneg (by omega)
    rw [if_pos trivial, if_pos (by omega), d, w64 (by omega) (by omega), if_pos (by omega)]
  · have E0 : encV a0 = ([], 20) := by unfold encV; rw [if_neg v0]
    rw [E0]
    simp
end Go.Proofs.YtoimmkonlpdjfaaDoor.Px
