/- Plain law of Decode: the program's and the reference's both are 'decV'; the pure statement of TextDecodes. -/
import Derived.Test.YtoimmkonlpdjfaaDoorTextTake
namespace Go.Proofs.YtoimmkonlpdjfaaDoor.Px
open Go.RowKit Go.Proofs.YtoimmkonlpdjfaaDoorW.PrintWords Go.Proofs.YtoimmkonlpdjfaaDoorW.PrintLast Go.Proofs.YtoimmkonlpdjfaaDoorW.PrintMore
set_option linter.unusedVariables false
set_option linter.unusedSimpArgs false

/-- A code point in Go's own UTF-8. -/
def utf8L (v : Int) : List Int :=
  if v < 128 then [v] else if v < 2048 then [192 + v / 64, 128 + v % 64] else if v < 65536 then [224 + v / 4096, 128 + v / 64 % 64, 128 + v % 64]
  else [240 + v / 262144, 128 + v / 4096 % 64, 128 + v / 64 % 64, 128 + v % 64]
theorem utf8L_len (v : Int) : (utf8L v).length ≤ 4 := by
  unfold utf8L
  split
  · simp
  · split
    · simp
    · split <;> simp
theorem utf8_AppendRune.ev (o : List Int) (v : Int) (h0 : 0 ≤ v) (h1 : v ≤ 1114111) (hs : v < 55296 ∨ 57344 ≤ v) (ho : o.length + 4 < 140737488355328) : Ev (fun k => utf8_AppendRune.f k o v) (o ++ utf8L v) := by
  refine ⟨1, fun k hk => ?_⟩
  obtain ⟨k, rfl⟩ : ∃ m, k = m + 1 := ⟨k - 1, by omega⟩
  show utf8_AppendRune.f (k + 1) o v = _
  unfold utf8_AppendRune.f utf8L
  rw [show v % 4294967296 = v by omega]
  by_cases c1 : v ≤ 127
  · rw [if_pos c1, if_pos (by omega), if_pos (by omega), show v % 256 = v by omega]
  · rw [if_neg c1, if_neg (by omega)]
    unfold utf8_appendRuneNonASCII.f
    rw [show v % 4294967296 = v by omega]
    by_cases c2 : v ≤ 2047
    · rw [if_pos c2, if_pos (by omega), Option.bind_some, if_pos (by simp; omega), show v / 64 % 256 = v / 64 by omega, u8_or192 _ (by omega) (by omega)]
      rfl
    · rw [if_neg c2, if_neg (show ¬ v < 2048 by omega)]
      have key3 : v < 65536 → utf8_appendRuneNonASCII.j0 (k + 1) o v v true = some (o ++ [224 + v / 4096, 128 + v / 64 % 64, 128 + v % 64]) := by
        intro h
        simp only [utf8_appendRuneNonASCII.j0, if_true]
        rw [Option.bind_some, if_pos (by simp; omega), show v / 4096 % 256 = v / 4096 by omega, u8_or224 _ (by omega) (by omega)]
      have key4 : 65536 ≤ v → utf8_appendRuneNonASCII.j0 (k + 1) o v v false = some (o ++ [240 + v / 262144, 128 + v / 4096 % 64, 128 + v / 64 % 64, 128 + v % 64]) := by
        intro h
        simp only [utf8_appendRuneNonASCII.j0, Bool.false_eq_true, if_false]
        rw [if_pos (by omega), if_pos (by omega), Option.bind_some, if_pos (by simp; omega), show v / 262144 % 256 = v / 262144 by omega, u8_or240 _ (by omega) (by omega)]
      by_cases c3 : v < 55296
      · rw [if_pos c3, decide_eq_true c3, key3 (by omega), if_pos (by omega)]
        rfl
      · rw [if_neg c3, if_pos (by omega)]
        by_cases c4 : v ≤ 65535
        · rw [decide_eq_true c4, key3 (by omega), if_pos (by omega)]
          rfl
        · rw [decide_eq_false c4, key4 (by omega), if_neg (by omega)]
          rfl
/-- The pair's code point. -/
def pairN (a u : Int) : Int := 65536 + (a - 55296) * 1024 + (u - 56320)
abbrev badV : ByteArray × Int := ((⟨#[]⟩ : ByteArray), 20)
/-- The text of bytes, by units. -/
def decV : Nat → List Int → List Int → ByteArray × Int
  | 0, _, _ => badV
  | n + 1, L, o =>
    if L = [] then (strOfNums o, 0)
    else match takeV L with
      | none => badV
      | some (v, m) =>
        if 56320 ≤ v ∧ v ≤ 57343 then badV
        else if v < 55296 ∨ 56319 < v then decV n (L.drop m) (o ++ utf8L v)
        else if L.drop m = [] then badV
        else match takeV (L.drop m) with
          | none => badV
          | some (u, q) => if 56320 ≤ u ∧ u ≤ 57343 then decV n ((L.drop m).drop q) (o ++ utf8L (pairN v u)) else badV
theorem takeV_ok {L : List Int} (hL : IsBytes L) {v : Int} {m : Nat} (h : takeV L = some (v, m)) : 0 ≤ v ∧ v < 65536 ∧ 1 ≤ m ∧ m ≤ 3 ∧ m ≤ L.length := by
  have h0 := rd_byte hL 0
  have h1 := rd_byte hL 1
  have h2 := rd_byte hL 2
  have hl : 1 ≤ rd L 0 → 1 ≤ L.length := by
    intro hh
    cases L with
    | nil => simp [rd] at hh
    | cons a t => simp
  unfold takeV V2 V3 at h
  split at h
  · cases h; omega
  · split at h
    · cases h; omega
    · split at h
      · cases h; omega
      · cases h
theorem takeV_len {L : List Int} (hL : IsBytes L) {v : Int} {m : Nat} (h : takeV L = some (v, m)) : (utf8L v).length ≤ m ∧ (2048 ≤ v → m = 3) := by
  have h0 := rd_byte hL 0
  have h1 := rd_byte hL 1
  have h2 := rd_byte hL 2
  unfold takeV V2 V3 at h
  unfold utf8L
  split at h
  · cases h
    rw [if_pos (by omega)]
    exact ⟨Nat.le_refl _, by omega⟩
  · split at h
    · cases h
      refine ⟨?_, by omega⟩
      split
      · simp
      · rw [if_pos (by omega)]; simp
    · split at h
      · cases h
        refine ⟨?_, fun _ => rfl⟩
        rw [if_neg (by omega), if_neg (by omega), if_pos (by omega)]
        simp
      · cases h
theorem len_pos {L : List Int} (h : L ≠ []) : 0 < L.length := List.length_pos_iff.2 h
theorem text_Decode.ev_l : ∀ (n : Nat) (L o : List Int), IsBytes L → L.length < n → o.length + L.length + 8 < 140737488355328 → Ev (fun k => text_Decode.l0 k L 0 o) (decV n L o) := by
  intro n
  induction n with
  | zero => intro L o _ h; omega
  | succ n ih =>
    intro L o hL hn ho
    simp only [decV]
    -- one round
    have hround : ∀ (L : List Int) (a : Int), 0 < L.length → ∀ k, text_Decode.l0 (k + 1) L a o = (text_next.f k L).bind fun t =>
        if t.2.1 = true then
          (if ((decide (56320 ≤ t.1) && decide (t.1 < 57344)) != (a != 0)) = true then some badV
          else if (a != 0) = true then (utf8_AppendRune.f k o (pairV a t.1)).bind fun o1 => text_Decode.l0 k (L.drop t.2.2) 0 o1
          else if (decide (55296 ≤ t.1) && decide (t.1 < 56320)) = true then text_Decode.l0 k (L.drop t.2.2) t.1 o
          else (utf8_AppendRune.f k o t.1).bind fun o1 => text_Decode.l0 k (L.drop t.2.2) a o1)
        else some badV := by
      intro L a hp k
      simp only [text_Decode.l0]
      rw [if_pos hp]
    by_cases he : L = []
    · subst he
      refine Ev.step (f := fun _ => some (strOfNums o, 0)) (fun k => ?_) (Ev.now _)
      simp [text_Decode.l0]
    · have hp := len_pos he
      rw [if_neg he]
      obtain ⟨x, y, ht⟩ := text_next.ev L hL hp
      refine Ev.step (hround L 0 hp) ?_
      refine Ev.bind ht ?_
      cases e : takeV L with
      | none => simp only [Bool.false_eq_true, if_false]; exact Ev.now _
      | some p =>
        obtain ⟨v, m⟩ := p
        obtain ⟨v0, v1, m1, m3, ml⟩ := takeV_ok hL e
        have hd : (L.drop m).length = L.length - m := List.length_drop
        simp only [if_true]
        have ha : ((0 : Int) != 0) = false := rfl
        simp only [ha, Bool.false_eq_true, if_false]
        by_cases c1 : 56320 ≤ v ∧ v ≤ 57343
        · rw [if_pos c1]
          refine Ev.congr (f := fun _ => some badV) (fun k => ?_) (Ev.now _)
          rw [if_pos (by rw [decide_eq_true c1.1, decide_eq_true (show v < 57344 by omega)]; rfl)]
        · rw [if_neg c1]
          have hlow : (decide (56320 ≤ v) && decide (v < 57344)) = false := by
            by_cases c : 56320 ≤ v
            · rw [decide_eq_false (show ¬ v < 57344 by omega), Bool.and_false]
            · rw [decide_eq_false c, Bool.false_and]
          have hne : ¬ ((decide (56320 ≤ v) && decide (v < 57344)) != false) = true := by rw [hlow]; decide
          by_cases c2 : v < 55296 ∨ 56319 < v
          · rw [if_pos c2]
            have hhi : ¬ (decide (55296 ≤ v) && decide (v < 56320)) = true := by
              rw [Bool.and_eq_true, decide_eq_true_eq, decide_eq_true_eq]; omega
            have hu := (takeV_len hL e).1
            refine Ev.congr (f := fun k => (utf8_AppendRune.f k o v).bind fun o1 => text_Decode.l0 k (L.drop m) 0 o1) (fun k => (if_neg hne).trans (if_neg hhi)) ?_
            exact Ev.bind (utf8_AppendRune.ev o v v0 (by omega) (by omega) (by omega)) (ih _ _ (hL.drop m) (by omega) (by rw [List.length_append]; omega))
          · rw [if_neg c2]
            have hhi : (decide (55296 ≤ v) && decide (v < 56320)) = true := by
              rw [Bool.and_eq_true, decide_eq_true_eq, decide_eq_true_eq]; omega
            refine Ev.congr (f := fun k => text_Decode.l0 k (L.drop m) v o) (fun k => (if_neg hne).trans (if_pos hhi)) ?_
            have hv : (v != 0) = true := bne_iff_ne.mpr (by omega)
            by_cases c3 : L.drop m = []
            · rw [if_pos c3, c3]
              refine Ev.step (f := fun _ => some badV) (fun k => ?_) (Ev.now _)
              simp only [text_Decode.l0]
              rw [if_neg (by simp), if_pos hv]
            · rw [if_neg c3]
              have hp2 := len_pos c3
              obtain ⟨x2, y2, ht2⟩ := text_next.ev _ (hL.drop m) hp2
              refine Ev.step (hround (L.drop m) v hp2) ?_
              refine Ev.bind ht2 ?_
              cases e2 : takeV (L.drop m) with
              | none => simp only [Bool.false_eq_true, if_false]; exact Ev.now _
              | some p =>
                obtain ⟨u, q⟩ := p
                obtain ⟨u0, u1, q1, q3, ql⟩ := takeV_ok (hL.drop m) e2
                simp only [if_true, hv]
                by_cases c4 : 56320 ≤ u ∧ u ≤ 57343
                · rw [if_pos c4]
                  have hw : pairV v u = pairN v u := by
                    unfold pairV pairN
                    rw [w32 (x := v - 55296) (by omega) (by omega), w32 (x := (v - 55296) * 1024) (by omega) (by omega), w32 (x := 65536 + (v - 55296) * 1024) (by omega) (by omega), w32 (x := 65536 + (v - 55296) * 1024 + u) (by omega) (by omega), w32 (by omega) (by omega)]
                    omega
                  have hr : 65536 ≤ pairN v u ∧ pairN v u ≤ 1114111 := by unfold pairN; omega
                  have hu := utf8L_len (pairN v u)
                  have hm3 := (takeV_len hL e).2 (by omega)
                  have hq3 := (takeV_len (hL.drop m) e2).2 (by omega)
                  have hd2 : ((L.drop m).drop q).length = L.length - m - q := by rw [List.length_drop, hd]
                  have hl2 : ¬ ((decide (56320 ≤ u) && decide (u < 57344)) != true) = true := by
                    rw [decide_eq_true c4.1, decide_eq_true (show u < 57344 by omega)]; decide
                  refine Ev.congr (f := fun k => (utf8_AppendRune.f k o (pairN v u)).bind fun o1 => text_Decode.l0 k ((L.drop m).drop q) 0 o1) (fun k => by rw [if_neg hl2, hw]) ?_
                  exact Ev.bind (utf8_AppendRune.ev o _ (by omega) (by omega) (by omega) (by omega)) (ih _ _ ((hL.drop m).drop q) (by omega) (by rw [List.length_append]; omega))
                · rw [if_neg c4]
                  have hl2 : ((decide (56320 ≤ u) && decide (u < 57344)) != true) = true := by
                    by_cases c : 56320 ≤ u
                    · rw [decide_eq_false (show ¬ u < 57344 by omega), Bool.and_false]; rfl
                    · rw [decide_eq_false c, Bool.false_and]; rfl
                  exact Ev.congr (fun k => if_pos hl2) (Ev.now _)
def DecV (L : List Int) : ByteArray × Int := decV (L.length + 1) L []
theorem text_Decode.ev (L : List Int) (hL : IsBytes L) (h : L.length ≤ 140737488351232) : Ev (fun k => text_Decode.f k L) (DecV L) := text_Decode.ev_l _ L [] hL (by omega) (by simp; omega)
theorem bytes_of_wf {l : List Int} (h : ∀ x ∈ l, (Lit.int .u8 x).wf = true) : IsBytes l := by
  intro x hx
  have h1 := h x hx
  simp [Lit.wf, IntKind.min, IntKind.max, IntKind.bits, IntKind.signed] at h1
  omega
end Go.Proofs.YtoimmkonlpdjfaaDoor.Px
