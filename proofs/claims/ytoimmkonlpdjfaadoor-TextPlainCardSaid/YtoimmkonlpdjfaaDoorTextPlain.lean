/- The pure statement of TextPlain. -/
import Derived.Test.YtoimmkonlpdjfaaDoorTextDecodes
import Derived.Test.YtoimmkonlpdjfaaDoorTextEnc
import Derived.Test.YtoimmkonlpdjfaaDoorPx4
import Derived.Test.YtoimmkonlpdjfaaDoorPx2
namespace Go.Proofs.YtoimmkonlpdjfaaDoor.Px
open Go.RowKit Go.Proofs.YtoimmkonlpdjfaaDoorW.PrintWords Go.Proofs.YtoimmkonlpdjfaaDoorW.PrintLast Go.Proofs.YtoimmkonlpdjfaaDoorW.PrintMore
set_option linter.unusedVariables false
set_option linter.unusedSimpArgs false

theorem awake.now : understudylaw02_awake.f 4 = some true := by decide +kernel
theorem awake.ev' : Ev (fun k => understudylaw02_awake.f k) true := Ev.of (fun k => understudylaw02_awake.mono k) awake.now
/-- Letters. -/
def Letters (l : List Int) : Prop := ∀ x ∈ l, 1 ≤ x ∧ x ≤ 127
theorem Letters.bytes {l : List Int} (h : Letters l) : IsBytes l := fun x hx => by have := h x hx; omega
theorem decV_letters : ∀ (n : Nat) (L o : List Int), Letters L → L.length < n → decV n L o = (strOfNums (o ++ L), 0) := by
  intro n
  induction n with
  | zero => intro L o _ h; omega
  | succ n ih =>
    intro L o hL hn
    simp only [decV]
    cases L with
    | nil => rw [if_pos rfl, List.append_nil]
    | cons c t =>
      have hc := hL c List.mem_cons_self
      have h0 : rd (c :: t) 0 = c := rfl
      rw [if_neg (by simp), show takeV (c :: t) = some (c, 1) by unfold takeV; rw [h0, if_pos hc]]
      simp only
      rw [if_neg (by omega), if_pos (by omega), List.drop_succ_cons, List.drop_zero, ih _ _ (fun x hx => hL x (List.mem_cons_of_mem _ hx)) (by rw [List.length_cons] at hn; omega)]
      rw [show utf8L c = [c] from if_pos (by omega), List.append_assoc]
      rfl
theorem valid_letters : ∀ l : List Int, Letters l → Lib.validD (l.map fun n => UInt8.ofNat n.toNat) = true
  | [], _ => Lib.validD_nil
  | c :: t, h => by
    have hc := h c List.mem_cons_self
    rw [List.map_cons, Lib.validD_cons _ _ (by simp only [UInt8.toNat_ofNat']; rw [Nat.mod_eq_of_lt (by omega)]; omega)]
    exact valid_letters t (fun x hx => h x (List.mem_cons_of_mem _ hx))
theorem strOfNums_size (l : List Int) : (strOfNums l).size = l.length := by
  rw [Lib.size_eq]
  simp [strOfNums]
theorem text_split.low (c : Int) (h : c < 65536) : text_split.f c = some (0, c) := by
  unfold text_split.f
  rw [if_pos h]
theorem enc_letters (xs : List Int) (hx : Letters xs) (hl : xs.length ≤ 140737488351232) : ∀ n p, xs.length - p ≤ n → p ≤ xs.length → Ev (fun k => text_Encode.l0 k (strOfNums xs) p (xs.take p)) (xs, 0) := by
  intro n
  induction n with
  | zero =>
    intro p h1 h2
    have e : p = xs.length := by omega
    subst e
    refine Ev.step (f := fun _ => some (xs, 0)) (fun k => ?_) (Ev.now _)
    simp only [text_Encode.l0]
    rw [if_neg (by rw [strOfNums_size]; omega), List.take_length]
  | succ n ih =>
    intro p h1 h2
    by_cases hp : p < xs.length
    · have hs : p < (strOfNums xs).size := by rw [strOfNums_size]; exact hp
      have hc := hx xs[p] (List.getElem_mem _)
      have hb : ((strOfNums xs)[p]'hs).toNat = xs[p].toNat := by
        have h2 : (strOfNums xs).data[p]? = some (UInt8.ofNat xs[p].toNat) := by simp [strOfNums, hp]
        have h3 : (strOfNums xs).data[p]? = some ((strOfNums xs)[p]'hs) := Array.getElem?_eq_getElem hs
        rw [Option.some.inj (h3.symm.trans h2), UInt8.toNat_ofNat', Nat.mod_eq_of_lt (by omega)]
      have hd := decode_ascii (strOfNums xs) p hs (by rw [hb]; omega)
      refine Ev.step (f := fun k => (text_unit.f k (xs.take p) xs[p]).bind fun b1 => text_Encode.l0 k (strOfNums xs) (p + 1) b1) (fun k => ?_) ?_
      · simp only [text_Encode.l0]
        rw [if_pos hs, hd]
        unfold text_Encode.one
        simp only [hb]
        rw [show ((xs[p].toNat : Nat) : Int) = xs[p] by omega, text_split.low _ (by omega), Option.bind_some, if_pos rfl]
      · have hu := text_unit.ev (xs.take p) xs[p] (by omega) (by omega) (by rw [List.length_take]; omega)
        rw [show unitL xs[p] = [xs[p]] from if_pos hc, List.take_append_getElem hp] at hu
        exact Ev.bind hu (ih (p + 1) (by omega) (by omega))
    · exact ih p (by omega) h2
theorem Encode_letters (xs : List Int) (hx : Letters xs) (hl : xs.length ≤ 140737488351232) : Ev (fun k => text_Encode.f k (strOfNums xs)) (xs, 0) := by
  unfold text_Encode.f
  have h := enc_letters xs hx hl _ 0 (Nat.le_refl _) (by omega)
  refine Ev.congr (fun k => (if_pos (by rw [strOfNums_size]; omega)).trans (if_pos (valid_letters xs hx))) ?_
  simpa using h
theorem TextPlain_l0 (hawake : True) : ∀ (n : Nat) (xs : List Int) (i : Nat), xs.length - i ≤ n → i ≤ xs.length → xs.length ≤ 140737488351232 → IsBytes xs → (∀ j (h : j < xs.length), j < i → 1 ≤ xs[j] ∧ xs[j] ≤ 127) →
    Ev (fun k => understudylaw02_TextPlain.l0 k xs (i : Int)) true := by
  have fin : ∀ xs : List Int, Letters xs → xs.length ≤ 140737488351232 → Ev (fun k => (text_Encode.f k (strOfNums xs)).bind fun bt164 => ((text_Decode.f k xs).bind fun bt168 => (if bt164.2 = 0 then (if bt168.2 = 0 then (if (strOfNums bt164.1).toList = (strOfNums xs).toList then (if bt168.1.toList = (strOfNums xs).toList then ((understudylaw02_awake.f k).bind fun t170 => (some t170)) else (some false)) else (some false)) else (some false)) else (some false)))) true := by
    intro xs hx hl
    refine Ev.bind (Encode_letters xs hx hl) (Ev.bind (text_Decode.ev xs hx.bytes hl) ?_)
    unfold DecV
    rw [decV_letters _ xs [] hx (by omega), List.nil_append]
    simp only [if_true]
    exact Ev.bind awake.ev' (Ev.now _)
  intro n
  induction n with
  | zero =>
    intro xs i h1 h2 hl hb hd
    refine Ev.step (fun k => ?_) (fin xs (fun x hx => by obtain ⟨j, hj, rfl⟩ := List.getElem_of_mem hx; exact hd j hj (by omega)) hl)
    simp only [understudylaw02_TextPlain.l0]
    rw [if_neg (by omega)]
  | succ n ih =>
    intro xs i h1 h2 hl hb hd
    by_cases hi : i < xs.length
    · have hr := rd_byte hb (i : Int)
      have hm : Int.tmod (rd xs (i : Int)) 127 = rd xs (i : Int) % 127 := Int.tmod_eq_emod_of_nonneg hr.1
      have hv : 1 ≤ (1 + Int.tmod (rd xs (i : Int)) 127) % 256 ∧ (1 + Int.tmod (rd xs (i : Int)) 127) % 256 ≤ 127 := by rw [hm]; omega
      refine Ev.step (f := fun k => understudylaw02_TextPlain.l0 k (xs.set i ((1 + (Int.tmod (rd xs (i : Int)) 127)) % 256)) ((i + 1 : Nat) : Int)) (fun k => ?_) ?_
      · simp only [understudylaw02_TextPlain.l0]
        rw [if_pos (by omega), if_pos (by omega), Int.toNat_natCast, w64 (by omega) (by omega)]
        rfl
      · refine ih _ (i + 1) (by rw [List.length_set]; omega) (by rw [List.length_set]; omega) (by rw [List.length_set]; exact hl) ?_ ?_
        · intro x hx
          rcases List.mem_or_eq_of_mem_set hx with hx | rfl
          · exact hb x hx
          · omega
        · intro j hj hji
          rw [List.length_set] at hj
          rw [List.getElem_set]
          split
          · exact hv
          · exact hd j hj (by omega)
    · exact ih xs i (by omega) h2 hl hb hd
theorem TextPlain_pure (l0 : List Int) (h : l0.length ≤ 140737488351232) (hw : ∀ x ∈ l0, (Lit.int .u8 x).wf = true) : ∃ k, understudylaw02_TextPlain.f k l0 = some true := by
  have hb := bytes_of_wf hw
  refine Ev.rounds ?_
  unfold understudylaw02_TextPlain.f
  simp only [Option.bind_some, List.length_nil, List.nil_append]
  refine Ev.congr (fun k => if_pos (by omega)) ?_
  exact TextPlain_l0 trivial _ l0 0 (Nat.le_refl _) (by omega) h hb (fun j _ hj => by omega)
end Go.Proofs.YtoimmkonlpdjfaaDoor.Px
