/- Plain law of there and back: what is encoded is decoded as itself, and what is decoded is encoded as itself. -/
import Derived.Test.YtoimmkonlpdjfaaDoorTextDecodes
import Derived.Test.YtoimmkonlpdjfaaDoorTextEnc
namespace Go.Proofs.YtoimmkonlpdjfaaDoor.Px
open Go.RowKit Go.Proofs.YtoimmkonlpdjfaaDoorW.PrintWords Go.Proofs.YtoimmkonlpdjfaaDoorW.PrintLast Go.Proofs.YtoimmkonlpdjfaaDoorW.PrintMore
set_option linter.unusedVariables false
set_option linter.unusedSimpArgs false

abbrev B8 (x : Int) : UInt8 := UInt8.ofNat x.toNat
theorem takeV_unit (v : Int) (h0 : 0 ≤ v) (h1 : v < 65536) (R : List Int) : takeV (unitL v ++ R) = some (v, (unitL v).length) := by
  unfold unitL
  by_cases c1 : 1 ≤ v ∧ v ≤ 127
  · rw [if_pos c1]
    unfold takeV
    simp only [List.cons_append, List.nil_append]
    rw [show rd (v :: R) 0 = v from rfl, if_pos c1]
    rfl
  · rw [if_neg c1]
    by_cases c2 : v ≤ 2047
    · rw [if_pos c2]
      unfold takeV V2
      simp only [List.cons_append, List.nil_append]
      rw [show rd ((192 + v / 64) :: (128 + v % 64) :: R) 0 = 192 + v / 64 from rfl, show rd ((192 + v / 64) :: (128 + v % 64) :: R) 1 = 128 + v % 64 from rfl]
      rw [if_neg (by omega), if_pos ⟨by omega, by omega, by simp, by omega, by omega, by omega⟩]
      exact congrArg some (Prod.ext (show (192 + v / 64 - 192) * 64 + (128 + v % 64 - 128) = v by omega) rfl)
    · rw [if_neg c2]
      unfold takeV V3 V2
      simp only [List.cons_append, List.nil_append]
      rw [show rd ((224 + v / 4096) :: (128 + v / 64 % 64) :: (128 + v % 64) :: R) 0 = 224 + v / 4096 from rfl, show rd ((224 + v / 4096) :: (128 + v / 64 % 64) :: (128 + v % 64) :: R) 1 = 128 + v / 64 % 64 from rfl, show rd ((224 + v / 4096) :: (128 + v / 64 % 64) :: (128 + v % 64) :: R) 2 = 128 + v % 64 from rfl]
      rw [if_neg (by omega), if_neg (by omega), if_pos ⟨by omega, by omega, by simp, by omega, by omega, by omega, by omega, by omega⟩]
      exact congrArg some (Prod.ext (show (224 + v / 4096 - 224) * 4096 + (128 + v / 64 % 64 - 128) * 64 + (128 + v % 64 - 128) = v by omega) rfl)
theorem unit_of_takeV {L : List Int} (hL : IsBytes L) {v : Int} {m : Nat} (h : takeV L = some (v, m)) : L = unitL v ++ L.drop m := by
  have h0 := rd_byte hL 0
  have h1 := rd_byte hL 1
  have h2 := rd_byte hL 2
  have hl : 1 ≤ rd L 0 → 0 < L.length := by
    intro hh
    cases L with
    | nil => simp [rd] at hh
    | cons a t => simp
  have key : L.take m = unitL v := by
    unfold takeV V2 V3 at h
    unfold unitL
    split at h
    · cases h
      rw [if_pos (by assumption), take1 L (hl (by omega))]
    · split at h
      · cases h
        rw [if_neg (by omega), if_pos (by omega), take2 L (by omega)]
        simp only [List.cons.injEq, and_true]
        omega
      · split at h
        · cases h
          rw [if_neg (by omega), if_neg (by omega), take3 L (by omega)]
          simp only [List.cons.injEq, and_true]
          omega
        · cases h
  rw [← key, List.take_append_drop]
theorem unitL_pos (v : Int) : 0 < (unitL v).length := by unfold unitL; split <;> (try split) <;> simp
theorem unitL_ne (v : Int) (h0 : 0 ≤ v) (h1 : v < 65536) : ∀ x ∈ unitL v, x ≠ 0 := by
  intro x hx
  unfold unitL at hx
  split at hx
  · simp only [List.mem_singleton] at hx; omega
  · split at hx <;> simp only [List.mem_cons, List.not_mem_nil, or_false] at hx <;> omega
theorem cuL_ne (c : Int) (h0 : 0 ≤ c) (h1 : c ≤ 1114111) : ∀ x ∈ cuL c, x ≠ 0 := by
  intro x hx
  unfold cuL at hx
  split at hx
  · exact unitL_ne c h0 (by assumption) x hx
  · rcases List.mem_append.1 hx with hx | hx
    · exact unitL_ne _ (by omega) (by omega) x hx
    · exact unitL_ne _ (by omega) (by omega) x hx
theorem unitL_bytes' (v : Int) (h0 : 0 ≤ v) (h1 : v < 65536) : IsBytes (unitL v) := unitL_bytes v h0 h1
theorem cuL_bytes (c : Int) (h0 : 0 ≤ c) (h1 : c ≤ 1114111) : IsBytes (cuL c) := by
  intro x hx
  unfold cuL at hx
  split at hx
  · exact unitL_bytes c h0 (by assumption) x hx
  · rcases List.mem_append.1 hx with hx | hx
    · exact unitL_bytes _ (by omega) (by omega) x hx
    · exact unitL_bytes _ (by omega) (by omega) x hx
theorem encL_all : ∀ n (l : List UInt8), l.length ≤ n → (∀ x ∈ encL l, x ≠ 0) ∧ IsBytes (encL l)
  | 0, l, h => by
    have : l = [] := List.length_eq_zero_iff.1 (by omega)
    subst this
    exact ⟨fun x hx => by simp [encL_nil] at hx, fun x hx => by simp [encL_nil] at hx⟩
  | n + 1, l, h => by
    by_cases hne : l = []
    · subst hne; exact ⟨fun x hx => by simp [encL_nil] at hx, fun x hx => by simp [encL_nil] at hx⟩
    · have hw := Lib.decodeL_width l
      have hl : 0 < l.length := List.length_pos_iff.2 hne
      have ih := encL_all n (l.drop (Lib.decodeL l).2) (by rw [List.length_drop]; omega)
      have hr := Lib.decodeL_rune l
      rw [encL_step l hne]
      refine ⟨fun x hx => ?_, fun x hx => ?_⟩
      · rcases List.mem_append.1 hx with hx | hx
        · exact cuL_ne _ (by omega) (by omega) x hx
        · exact ih.1 x hx
      · rcases List.mem_append.1 hx with hx | hx
        · exact cuL_bytes _ (by omega) (by omega) x hx
        · exact ih.2 x hx

/-- What is decoded is no half of a pair. -/
theorem decodeL_scalar (l : List UInt8) : (Lib.decodeL l).1 < 55296 ∨ 57344 ≤ (Lib.decodeL l).1 := by
  rw [Lib.decodeL_N]
  have k0 := (l.getD 0 0).toNat_lt
  rcases Lib.decodeN_shape l.length (l.getD 0 0).toNat (l.getD 1 0).toNat (l.getD 2 0).toNat (l.getD 3 0).toNat with ⟨c, e⟩ | ⟨c1, c2, c3, cv, e⟩ | ⟨c1, c2, c3, c4, cv, cs, e⟩ | ⟨c1, c2, c3, c4, c5, cv, cw, e⟩ | e
  all_goals (rw [e]; dsimp only; omega)
theorem utf8L_eq (v : Int) (h0 : 0 ≤ v) (h1 : v ≤ 1114111) (hs : v < 55296 ∨ 57344 ≤ v) : Lib.encodeRuneZ v = utf8L v := by
  unfold utf8L
  by_cases c1 : v < 128
  · rw [if_pos c1, Lib.encodeRuneZ_one h0 (by omega)]
  · rw [if_neg c1]
    by_cases c2 : v < 2048
    · rw [if_pos c2, Lib.encodeRuneZ_two (by omega) (by omega)]
    · rw [if_neg c2]
      by_cases c3 : v < 65536
      · rw [if_pos c3, Lib.encodeRuneZ_three (by omega)]
      · rw [if_neg c3, Lib.encodeRuneZ_four (by omega) h1]
theorem utf8L_bytes (v : Int) (h0 : 0 ≤ v) (h1 : v ≤ 1114111) : IsBytes (utf8L v) := by
  intro x hx
  unfold utf8L at hx
  split at hx
  · simp only [List.mem_singleton] at hx; omega
  · split at hx
    · simp only [List.mem_cons, List.not_mem_nil, or_false] at hx; omega
    · split at hx <;> simp only [List.mem_cons, List.not_mem_nil, or_false] at hx <;> omega
abbrev Nums (l : List UInt8) : List Int := l.map fun b => (b.toNat : Int)
theorem nums_B8 {xs : List Int} (h : IsBytes xs) : Nums (xs.map B8) = xs := by
  rw [Nums, List.map_map]
  refine (List.map_congr_left (fun x hx => ?_)).trans (List.map_id xs)
  have := h x hx
  simp only [Function.comp, B8, UInt8.toNat_ofNat', id]
  rw [Nat.mod_eq_of_lt (by omega)]
  omega
theorem b8_nums (l : List UInt8) : (Nums l).map B8 = l := by
  rw [Nums, List.map_map]
  refine (List.map_congr_left (fun x _ => ?_)).trans (List.map_id l)
  simp [Function.comp, B8]
theorem strOfNums_nums (s : ByteArray) : strOfNums (Nums s.data.toList) = s := by
  have e : (strOfNums (Nums s.data.toList)).data.toList = (Nums s.data.toList).map B8 := rfl
  rw [b8_nums] at e
  have e2 := congrArg List.toArray e
  simp only [Array.toArray_toList] at e2
  cases h : strOfNums (Nums s.data.toList)
  cases s
  rw [h] at e2
  exact congrArg ByteArray.mk e2
theorem toUInt8_B8 (x : Int) : x.toNat.toUInt8 = B8 x := rfl
theorem take_utf8 (l : List UInt8) (hne : l ≠ []) (hv : ¬ ((Lib.decodeL l).1 = 65533 ∧ (Lib.decodeL l).2 = 1)) : Nums (l.take (Lib.decodeL l).2) = utf8L ((Lib.decodeL l).1 : Int) := by
  have hr := Lib.decodeL_rune l
  have hs := decodeL_scalar l
  rw [← Lib.encode_decode l hne hv]
  unfold Lib.encodeRune
  rw [utf8L_eq _ (by omega) (by omega) (by omega)]
  exact nums_B8 (utf8L_bytes _ (by omega) (by omega))
/-- WHAT IS ENCODED IS DECODED AS ITSELF. -/
theorem dec_enc : ∀ (n : Nat) (l : List UInt8) (o : List Int) (q : Nat), l.length ≤ n → Lib.validD l = true → (encL l).length < q → decV q (encL l) o = (strOfNums (o ++ Nums l), 0) := by
  have base : ∀ (o : List Int) (q : Nat), (encL []).length < q → decV q (encL []) o = (strOfNums (o ++ Nums []), 0) := by
    intro o q hq
    obtain ⟨q, rfl⟩ : ∃ m, q = m + 1 := ⟨q - 1, by omega⟩
    simp [decV, encL_nil]
  intro n
  induction n with
  | zero =>
    intro l o q h hv hq
    have : l = [] := List.length_eq_zero_iff.1 (by omega)
    subst this
    exact base o q hq
  | succ n ih =>
    intro l o q h hv hq
    by_cases hne : l = []
    · subst hne; exact base o q hq
    have hl : 0 < l.length := List.length_pos_iff.2 hne
    have hw := Lib.decodeL_width l
    have hr := Lib.decodeL_rune l
    have hs := decodeL_scalar l
    rw [Lib.validD_step l hne] at hv
    by_cases hbad : (Lib.decodeL l).1 = 65533 ∧ (Lib.decodeL l).2 = 1
    · rw [if_pos hbad] at hv; cases hv
    rw [if_neg hbad] at hv
    have ht := take_utf8 l hne hbad
    have hN : Nums l = utf8L ((Lib.decodeL l).1 : Int) ++ Nums (l.drop (Lib.decodeL l).2) := by
      rw [← ht]
      show _ = (l.take _).map _ ++ (l.drop _).map _
      rw [← List.map_append, List.take_append_drop]
    obtain ⟨q, rfl⟩ : ∃ m, q = m + 1 := ⟨q - 1, by omega⟩
    rw [encL_step l hne] at hq ⊢
    rw [List.length_append] at hq
    obtain ⟨c, hc⟩ : ∃ c : Int, c = ((Lib.decodeL l).1 : Int) := ⟨_, rfl⟩
    rw [← hc] at hq hN ⊢
    unfold cuL at hq ⊢
    by_cases h16 : c < 65536
    · rw [if_pos h16] at hq ⊢
      have hp := unitL_pos c
      simp only [decV]
      rw [if_neg (fun e => absurd (congrArg List.length e) (by rw [List.length_append, List.length_nil]; omega)), takeV_unit c (by omega) h16]
      simp only
      rw [if_neg (by omega), if_pos (by omega), List.drop_left, ih _ _ q (by rw [List.length_drop]; omega) hv (by omega), hN, List.append_assoc]
    · rw [if_neg h16] at hq ⊢
      have hp1 := unitL_pos (55296 + (c - 65536) / 1024)
      have hp2 := unitL_pos (56320 + (c - 65536) % 1024)
      rw [List.length_append] at hq
      simp only [decV]
      rw [List.append_assoc, if_neg (fun e => absurd (congrArg List.length e) (by rw [List.length_append, List.length_nil]; omega)), takeV_unit _ (by omega) (by omega)]
      simp only
      rw [if_neg (by omega), if_neg (by omega), List.drop_left, if_neg (fun e => absurd (congrArg List.length e) (by rw [List.length_append, List.length_nil]; omega)), takeV_unit _ (by omega) (by omega)]
      simp only
      rw [if_pos (by omega), List.drop_left, ih _ _ q (by rw [List.length_drop]; omega) hv (by omega), hN, List.append_assoc]
      rw [show pairN (55296 + (c - 65536) / 1024) (56320 + (c - 65536) % 1024) = c by unfold pairN; omega]

theorem n8 (x : Int) (h0 : 0 ≤ x) (h1 : x < 256) : ((B8 x).toNat : Nat) = x.toNat := by
  simp only [B8, UInt8.toNat_ofNat']
  rw [Nat.mod_eq_of_lt (by omega)]
/-- A code point's own bytes, whatever stands behind, are decoded as it. -/
theorem decodeL_utf8 (v : Int) (h0 : 0 ≤ v) (h1 : v ≤ 1114111) (hs : v < 55296 ∨ 57344 ≤ v) (R : List UInt8) : Lib.decodeL ((utf8L v).map B8 ++ R) = (v.toNat, (utf8L v).length) := by
  rw [Lib.decodeL_N]
  unfold utf8L
  by_cases c1 : v < 128
  · rw [if_pos c1]
    simp only [List.map_cons, List.map_nil, List.cons_append, List.nil_append, List.getD_cons_zero, List.length_cons, List.length_nil]
    unfold Lib.decodeN
    rw [n8 _ (by omega) (by omega), if_pos (by omega)]
  · rw [if_neg c1]
    by_cases c2 : v < 2048
    · rw [if_pos c2]
      simp only [List.map_cons, List.map_nil, List.cons_append, List.nil_append, List.getD_cons_zero, List.getD_cons_succ, List.length_cons, List.length_nil]
      unfold Lib.decodeN
      rw [n8 _ (by omega) (by omega), n8 _ (by omega) (by omega), if_neg (by omega), if_pos (by omega), if_pos (by omega)]
      exact Prod.ext (show (192 + v / 64).toNat % 32 * 64 + (128 + v % 64).toNat % 64 = v.toNat by omega) rfl
    · rw [if_neg c2]
      by_cases c3 : v < 65536
      · rw [if_pos c3]
        simp only [List.map_cons, List.map_nil, List.cons_append, List.nil_append, List.getD_cons_zero, List.getD_cons_succ, List.length_cons, List.length_nil]
        unfold Lib.decodeN
        rw [n8 _ (by omega) (by omega), n8 _ (by omega) (by omega), n8 _ (by omega) (by omega), if_neg (by omega), if_neg (by omega), if_pos (by omega), if_pos (by omega)]
        exact Prod.ext (show (224 + v / 4096).toNat % 16 * 4096 + (128 + v / 64 % 64).toNat % 64 * 64 + (128 + v % 64).toNat % 64 = v.toNat by omega) rfl
      · rw [if_neg c3]
        simp only [List.map_cons, List.map_nil, List.cons_append, List.nil_append, List.getD_cons_zero, List.getD_cons_succ, List.length_cons, List.length_nil]
        unfold Lib.decodeN
        rw [n8 _ (by omega) (by omega), n8 _ (by omega) (by omega), n8 _ (by omega) (by omega), n8 _ (by omega) (by omega), if_neg (by omega), if_neg (by omega), if_neg (by omega), if_pos (by omega), if_pos (by omega)]
        exact Prod.ext (show (240 + v / 262144).toNat % 8 * 262144 + (128 + v / 4096 % 64).toNat % 64 * 4096 + (128 + v / 64 % 64).toNat % 64 * 64 + (128 + v % 64).toNat % 64 = v.toNat by omega) rfl
theorem utf8L_pos (v : Int) : 0 < (utf8L v).length := by unfold utf8L; split <;> (try split) <;> (try split) <;> simp
theorem step_utf8 (v : Int) (h0 : 0 ≤ v) (h1 : v ≤ 1114111) (hs : v < 55296 ∨ 57344 ≤ v) (R : List UInt8) : Lib.validD ((utf8L v).map B8 ++ R) = Lib.validD R ∧ encL ((utf8L v).map B8 ++ R) = cuL v ++ encL R := by
  have hd := decodeL_utf8 v h0 h1 hs R
  have hne : (utf8L v).map B8 ++ R ≠ [] := by
    intro e
    have e1 := congrArg List.length e
    have e2 := utf8L_pos v
    rw [List.length_append, List.length_map, List.length_nil] at e1
    omega
  have hlen : ((utf8L v).map B8).length = (utf8L v).length := List.length_map ..
  rw [Lib.validD_step _ hne, encL_step _ hne, hd]
  dsimp only
  have hdrop : ((utf8L v).map B8 ++ R).drop (utf8L v).length = R := by rw [← hlen, List.drop_left]
  rw [hdrop]
  refine ⟨if_neg ?_, by rw [Int.toNat_of_nonneg h0]⟩
  rintro ⟨e1, e2⟩
  unfold utf8L at e2
  rw [if_neg (by omega), if_neg (by omega), if_pos (by omega)] at e2
  simp at e2
/-- WHAT IS DECODED IS ENCODED AS ITSELF. -/
theorem enc_dec : ∀ (n : Nat) (L o : List Int) (t : ByteArray), IsBytes L → decV n L o = (t, 0) → ∃ X : List Int, IsBytes X ∧ t = strOfNums (o ++ X) ∧ X.length ≤ L.length ∧ Lib.validD (X.map B8) = true ∧ encL (X.map B8) = L := by
  intro n
  induction n with
  | zero => intro L o t hL h; simp [decV] at h
  | succ n ih =>
    intro L o t hL h
    simp only [decV] at h
    by_cases he : L = []
    · rw [if_pos he] at h
      subst he
      cases h
      exact ⟨[], fun x hx => by simp at hx, by rw [List.append_nil], Nat.le_refl _, rfl, rfl⟩
    rw [if_neg he] at h
    cases e : takeV L with
    | none => rw [e] at h; simp at h
    | some p =>
      obtain ⟨v, m⟩ := p
      rw [e] at h
      simp only at h
      obtain ⟨v0, v1, m1, m3, ml⟩ := takeV_ok hL e
      have hu := unit_of_takeV hL e
      have hlen := (takeV_len hL e)
      have hdl : (L.drop m).length = L.length - m := List.length_drop
      by_cases c1 : 56320 ≤ v ∧ v ≤ 57343
      · rw [if_pos c1] at h; simp at h
      rw [if_neg c1] at h
      by_cases c2 : v < 55296 ∨ 56319 < v
      · rw [if_pos c2] at h
        obtain ⟨X, hX, rfl, hXl, hXv, hXe⟩ := ih _ _ _ (hL.drop m) h
        obtain ⟨s1, s2⟩ := step_utf8 v v0 (by omega) (by omega) (X.map B8)
        refine ⟨utf8L v ++ X, fun x hx => ?_, by rw [List.append_assoc], by rw [List.length_append]; omega, by rw [List.map_append, s1]; exact hXv, ?_⟩
        · rcases List.mem_append.1 hx with hx | hx
          · exact utf8L_bytes v v0 (by omega) x hx
          · exact hX x hx
        · rw [List.map_append, s2, hXe]
          unfold cuL
          rw [if_pos v1]
          exact hu.symm
      · rw [if_neg c2] at h
        by_cases c3 : L.drop m = []
        · rw [if_pos c3] at h; simp at h
        rw [if_neg c3] at h
        cases e2 : takeV (L.drop m) with
        | none => rw [e2] at h; simp at h
        | some p2 =>
          obtain ⟨u, q⟩ := p2
          rw [e2] at h
          simp only at h
          obtain ⟨u0, u1, q1, q3, ql⟩ := takeV_ok (hL.drop m) e2
          have hu2 := unit_of_takeV (hL.drop m) e2
          have hlen2 := (takeV_len (hL.drop m) e2)
          have hdl2 : ((L.drop m).drop q).length = L.length - m - q := by rw [List.length_drop, hdl]
          by_cases c4 : 56320 ≤ u ∧ u ≤ 57343
          · rw [if_pos c4] at h
            obtain ⟨X, hX, rfl, hXl, hXv, hXe⟩ := ih _ _ _ ((hL.drop m).drop q) h
            have hc : 65536 ≤ pairN v u ∧ pairN v u ≤ 1114111 := by unfold pairN; omega
            obtain ⟨s1, s2⟩ := step_utf8 (pairN v u) (by omega) (by omega) (by omega) (X.map B8)
            have h4 := utf8L_len (pairN v u)
            have m33 := hlen.2 (by omega)
            have q33 := hlen2.2 (by omega)
            refine ⟨utf8L (pairN v u) ++ X, fun x hx => ?_, by rw [List.append_assoc], by rw [List.length_append]; omega, by rw [List.map_append, s1]; exact hXv, ?_⟩
            · rcases List.mem_append.1 hx with hx | hx
              · exact utf8L_bytes _ (by omega) (by omega) x hx
              · exact hX x hx
            · rw [List.map_append, s2, hXe]
              unfold cuL
              rw [if_neg (by omega), show 55296 + (pairN v u - 65536) / 1024 = v by unfold pairN; omega, show 56320 + (pairN v u - 65536) % 1024 = u by unfold pairN; omega, List.append_assoc, ← hu2]
              exact hu.symm
          · rw [if_neg c4] at h; simp at h
end Go.Proofs.YtoimmkonlpdjfaaDoor.Px
