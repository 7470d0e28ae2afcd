/- text.Decode: what it computes, as a Lean function, and the walk of it. -/
import Derived.Test.YtoimmkonlpdjfaaDoorETextNext
import Derived.Test.YtoimmkonlpdjfaaDoorBuilderRune
import Derived.Test.YtoimmkonlpdjfaaDoorPx3
import Derived.Test.YtoimmkonlpdjfaaDoorPx1
import Derived.BigCall
import Derived.Laws.Closers25b
namespace Go.Proofs.YtoimmkonlpdjfaaDoor.Px
open Go.RowKit Go.Proofs.YtoimmkonlpdjfaaDoorW.PrintWords Go.Proofs.YtoimmkonlpdjfaaDoorW.PrintLast Go.Proofs.YtoimmkonlpdjfaaDoorW.PrintMore
set_option linter.unusedVariables false
set_option linter.unusedSimpArgs false

/-- Two halves of a pair, together. -/
def pairV (a u : Int) : Int := wrap32 (wrap32 (wrap32 (65536 + wrap32 (wrap32 (a - 55296) * 1024)) + u) - 56320)
def text_Decode.l0 : Nat → List Int → Int → List Int → Option (ByteArray × Int)
  | 0, _, _, _ => none
  | k + 1, L, a, o =>
    if 0 < L.length then (text_next.f k L).bind fun t =>
      if t.2.1 = true then
        (if ((decide (56320 ≤ t.1) && decide (t.1 < 57344)) != (a != 0)) = true then some ((⟨#[]⟩ : ByteArray), 20)
        else if (a != 0) = true then (utf8_AppendRune.f k o (pairV a t.1)).bind fun o1 => text_Decode.l0 k (L.drop t.2.2) 0 o1
        else if (decide (55296 ≤ t.1) && decide (t.1 < 56320)) = true then text_Decode.l0 k (L.drop t.2.2) t.1 o
        else (utf8_AppendRune.f k o t.1).bind fun o1 => text_Decode.l0 k (L.drop t.2.2) a o1)
      else some ((⟨#[]⟩ : ByteArray), 20)
    else if (a != 0) = true then some ((⟨#[]⟩ : ByteArray), 20) else some (strOfNums o, 0)
def text_Decode.f (k : Nat) (l0 : List Int) : Option (ByteArray × Int) := text_Decode.l0 k l0 0 []
theorem text_next.mono (k : Nat) (L : List Int) : LeO (text_next.f k L) (text_next.f (k + 1) L) := by
  unfold text_next.f
  split
  · exact LeO.refl _
  · exact LeO.bind (text_unit.mono _ _ _) (fun _ => LeO.refl _)
theorem text_Decode.mono_l : ∀ k L a o, LeO (text_Decode.l0 k L a o) (text_Decode.l0 (k + 1) L a o)
  | 0 => fun _ _ _ r h => by simp [text_Decode.l0] at h
  | k + 1 => fun L a o => by
    unfold text_Decode.l0
    refine LeO.ite (LeO.bind (text_next.mono _ _) (fun t => LeO.ite (LeO.ite (LeO.refl _) (LeO.ite (LeO.bind (utf8_AppendRune.mono _ _ _) (fun _ => text_Decode.mono_l k _ _ _)) (LeO.ite (text_Decode.mono_l k _ _ _) (LeO.bind (utf8_AppendRune.mono _ _ _) (fun _ => text_Decode.mono_l k _ _ _))))) (LeO.refl _))) (LeO.refl _)
theorem text_Decode.mono : ∀ l0 k, LeO (text_Decode.f k l0) (text_Decode.f (k + 1) l0) := fun l0 k => text_Decode.mono_l k l0 0 []

/-- The box of the bytes that are left. -/
def IsL (w0 w : World) (gb : Nat) (L : List Int) : Prop :=
  ∃ A c, w.heap[gb]? = some (.cells #[.slice A L.length c] 22 (0, 0)) ∧ Kd.C (Kd.int .u8) w0 A L.length L ∧ L.length ≤ c
/-- Blocks that are neither the builder nor the box. -/
def Ok2 (g gb j : Nat) : Prop := j ≠ g ∧ j ≠ gb
theorem IsB.keep {ok : Nat → Prop} {w0 w w' : World} {g gb : Nat} {l : List Int} (h : IsB ok w0 w g l) (hk : Kept w w' (fun j => j = gb)) (hok : ∀ j, ok j → j ≠ gb) (hne : g ≠ gb) : IsB ok w0 w' g l := by
  obtain ⟨p, v, hb, hp, hR⟩ := h
  exact ⟨p, v, (hk.2 g (blk_lt hb) hne).trans hb, hp, Kd.R_step hR (fun j hj hl => hk.2 j hl (hok j hj))⟩
theorem IsB.mono {ok ok' : Nat → Prop} {w0 w : World} {g : Nat} {l : List Int} (h : IsB ok w0 w g l) (hok : ∀ j, ok j → ok' j) : IsB ok' w0 w g l := by
  obtain ⟨p, v, hb, hp, hR⟩ := h
  exact ⟨p, v, hb, hp, Kd.R_mono hR hok⟩
theorem IsL.keep {w0 w w' : World} {gb : Nat} {L : List Int} {S : Nat → Prop} (h : IsL w0 w gb L) (hk : Kept w w' S) (hn : ¬ S gb) : IsL w0 w' gb L := by
  obtain ⟨A, c, hb, hC, hc⟩ := h
  exact ⟨A, c, (hk.2 gb (blk_lt hb) hn).trans hb, hC, hc⟩
/-- All are bytes. -/
def IsBytes (l : List Int) : Prop := ∀ x ∈ l, 0 ≤ x ∧ x < 256
theorem bits_byte (op : BinOp) (a b : Int) : 0 ≤ Go.bits op .u8 a b ∧ Go.bits op .u8 a b < 256 := by
  have h1 := Go.bits_lo_u8 op a b
  have h2 := Go.bits_hi_u8 op a b
  exact ⟨h1, by omega⟩
theorem IsBytes.app {a b : List Int} (ha : IsBytes a) (hb : IsBytes b) : IsBytes (a ++ b) := fun x hx => (List.mem_append.1 hx).elim (ha x) (hb x)
theorem IsBytes.cons {x : Int} {l : List Int} (hx : 0 ≤ x ∧ x < 256) (hl : IsBytes l) : IsBytes (x :: l) := fun y hy => (List.mem_cons.1 hy).elim (fun e => e ▸ hx) (hl y)
theorem IsBytes.nil : IsBytes [] := fun x hx => by cases hx
theorem utf8_appendRuneNonASCII.bytes_j0 (k : Nat) (o : List Int) (x y : Int) (b : Bool) (r : List Int) (ho : IsBytes o) (h : utf8_appendRuneNonASCII.j0 k o x y b = some r) : IsBytes r := by
  cases k with
  | zero => cases h
  | succ k =>
    simp only [utf8_appendRuneNonASCII.j0] at h
    repeat' split at h
    all_goals simp only [Option.bind_some, Option.ite_none_right_eq_some, Option.some.injEq, reduceCtorEq] at h
    all_goals first
      | (obtain ⟨_, rfl⟩ := h; refine ho.app ?_; repeat (first | exact IsBytes.nil | refine IsBytes.cons (by first | exact bits_byte _ _ _ | omega) ?_))
      | (cases h)
theorem utf8_AppendRune.bytes (k : Nat) (o : List Int) (x : Int) (r : List Int) (ho : IsBytes o) (h : utf8_AppendRune.f k o x = some r) : IsBytes r := by
  unfold utf8_AppendRune.f at h
  split at h
  · split at h
    · cases h
      exact ho.app (IsBytes.cons (by omega) IsBytes.nil)
    · cases h
  · obtain ⟨q, hq, h⟩ := Option.bind_eq_some_iff.mp h
    cases h
    unfold utf8_appendRuneNonASCII.f at hq
    repeat' split at hq
    all_goals first
      | (exact utf8_appendRuneNonASCII.bytes_j0 _ _ _ _ _ _ ho hq)
      | (simp only [Option.bind_some, Option.ite_none_right_eq_some, Option.some.injEq] at hq; obtain ⟨_, rfl⟩ := hq; refine ho.app ?_; repeat (first | exact IsBytes.nil | refine IsBytes.cons (by first | exact bits_byte _ _ _ | omega) ?_))
theorem reps_nums {l : List Int} {inner : List Value} (h : Reps (fun x cs => cs = [Value.int .u8 x]) 1 l inner) : inner = nums .u8 l := by
  apply List.ext_getElem?
  intro j
  have hl : inner.length = l.length := by have := h.1; omega
  rcases Nat.lt_or_ge j l.length with hj | hj
  · have h1 := h.2 j _ (List.getElem?_eq_getElem hj)
    rw [Nat.mul_one, List.drop_eq_getElem_cons (by omega)] at h1
    simp only [List.take_succ_cons, List.take_zero, List.cons.injEq, and_true] at h1
    rw [List.getElem?_eq_getElem (by omega), h1]
    unfold nums
    rw [List.getElem?_map, List.getElem?_eq_getElem hj]
    rfl
  · rw [List.getElem?_eq_none (by omega), List.getElem?_eq_none (by rw [nums_length]; omega)]
theorem byteCells_nums {l : List Int} (h : IsBytes l) : Lib.byteCells (l.map fun n => UInt8.ofNat n.toNat) = nums .u8 l := by
  unfold Lib.byteCells nums
  rw [List.map_map]
  refine List.map_congr_left fun x hx => ?_
  have := h x hx
  simp only [Function.comp, UInt8.toNat_ofNat']
  rw [Nat.mod_eq_of_lt (by omega), Int.toNat_of_nonneg this.1]
theorem IsB.string {ok : Nat → Prop} {w0 w : World} {g : Nat} {l : List Int} (h : IsB ok w0 w g l) (hl : IsBytes l) (hg : w0.heap.size ≤ g) (hz : w0.heap.size ≤ w.heap.size) :
    Calls Tryd.prog 22 #[.pointer (some ⟨g, 0, none⟩)] w fun e w' => e = .returned (.string (strOfNums l)) ∧ Below w0.heap.size w w' := by
  obtain ⟨p, v, hb, hp, hR⟩ := h
  have hne := Kd.R_ne hR hb (by decide)
  obtain ⟨_, inner, ho, hr⟩ := hR
  have hr := reps_nums hr
  subst hr
  have hbb : Lib.BuilderAt 46 5 w0.heap.size g p (Lib.byteCells (l.map fun n => UInt8.ofNat n.toNat)) w := by
    rw [byteCells_nums hl]
    exact ⟨hg, v, hb, by rw [nums_length]; exact ho, hne.symm⟩
  refine (Tryd.Builder_String_any w0.heap.size g (l.map fun n => UInt8.ofNat n.toNat) w ?_ hz).mono ?_
  · rcases hp with rfl | rfl
    · exact .inl hbb
    · exact .inr hbb
  · rintro e w' ⟨rfl, hB⟩
    exact ⟨rfl, hB⟩

set_option maxHeartbeats 80000000 in
set_option maxRecDepth 100000 in
theorem text_Decode.calls (k : Nat) (A0 : Option Addr) (c0 : Nat) (l0 : List Int) (r1 : ByteArray) (r2 : Int) (w : World) (hr0 : Kd.C (Kd.int .u8) w A0 l0.length l0) (hc0 : l0.length ≤ c0) (h : text_Decode.f k l0 = some (r1, r2)) :
    Calls Tryd.prog 13 #[.slice A0 l0.length c0] w fun e w' => e = .returned (.tuple #[.string r1, .int .i64 r2]) ∧ Below w.heap.size w w' := by
  have HR := Aside0.mk hr0
  have HC := Aside0.mk hc0
  have H0 := Aside0.mk h
  clear hr0 hc0 h
  have u22 := Tryd.underlying22
  have uB := Tryd.underlying46
  go_enter Tryd.func13, Tryd.ntmps13
  go_wp2_with (first
    | ((with_reducible refine gate_dst (N := 1) rfl ?_); refine box_event ?hg (N := 1) ?hd (cs := #[.slice A0 l0.length c0]) (t := 22) ?hr ?_; (case hd => rfl); (case hg => rfl); (case hr => first | (go_simp; done) | (go_simp; rfl)); intro gb hg w1 hbox hb; have HB1 := Aside0.mk (below_step (Below.refl w.heap.size w) hb); have BK1 := Aside0.mk hbox; have GE1 := Aside0.mk (Nat.le_of_eq hg.symm); clear hb hbox hg)
    | ((with_reducible refine gate_dst (N := 4) rfl ?_); refine box_event ?hg (N := 4) ?hd (cs := #[.pointer none, .slice none 0 0]) (t := 46) ?hr ?_; (case hd => rfl); (case hg => rfl); (case hr => first | (go_simp; done) | (go_simp; rfl)); intro g hg w2 hbox hb; have HB2 := Aside0.mk (below_step HB1.out hb); have BK2 := Aside0.mk hbox; have BK1' := Aside0.mk (blk_below BK1.out hb); have GE2 := Aside0.mk (show w.heap.size ≤ g from by rw [hg]; exact HB1.out.size); have NE := Aside0.mk (show gb ≠ g from by rw [hg]; exact Nat.ne_of_lt (blk_lt BK1.out)); clear hb hbox hg))
  have HZ := Aside0.mk HB2.out.size
  go_loopg [5] k (fun kq v5 wr => ∃ (L : List Int) (a : Int) (o : List Int), v5 = .int .i32 a ∧ Aside0 (text_Decode.l0 kq L a o = some (r1, r2)) ∧ Aside0 (kq ≤ k) ∧ Aside0 (IsL w wr gb L) ∧ Aside0 (IsB (Ok2 g gb) w wr g o) ∧ Aside0 (IsBytes o) ∧ Aside0 (Below w.heap.size w wr))
  case atStart => exact ⟨l0, 0, [], rfl, H0, ⟨Nat.le_refl _⟩, ⟨A0, c0, BK1'.out, HR.out, HC.out⟩, ⟨.pointer none, .slice none 0 0, BK2.out, .inl rfl, Kd.R_nil _ _ _ _ _⟩, ⟨fun x hx => by cases hx⟩, HB2⟩
  case round =>
    obtain ⟨L, a, o, rfl, HA, HK, HL, HI, HW, HB⟩ := hrel
    cases gk with
    | zero => exact absurd HA.out (by simp [text_Decode.l0])
    | succ k1 =>
    have H := HA.out
    clear HA
    simp only [text_Decode.l0] at H
    obtain ⟨A, c, hbk, hC, hc⟩ := HL.out
    have HBK := Aside0.mk hbk
    have HCC := Aside0.mk hC
    have Hc := Aside0.mk hc
    have hcell : wr.cell? ⟨gb, 0, none⟩ = some (.slice A L.length c) := (blk_cell hbk 0).trans rfl
    clear hbk hC hc
    have hlt : g < wr.heap.size := by obtain ⟨p, v, hp, _⟩ := HI.out; exact blk_lt hp
    have HLT := Aside0.mk hlt
    have HLB := Aside0.mk (blk_lt HBK.out)
    clear hlt
    by_cases hp : 0 < L.length
    · rw [if_pos hp] at H
      obtain ⟨⟨u, t, m⟩, hn, H⟩ := Option.bind_eq_some_iff.mp H
      have HN := Aside0.mk (next.calls k1 w wr gb A c L HB.out GE1.out HBK.out HCC.out Hc.out hp u t m hn)
      have hpb : decide (0 < L.length) = true := decide_eq_true hp
      have hpi : decide ((0 : Int) < (L.length : Int)) = true := decide_eq_true (by omega)
      clear hp hn
      cases t with
      | false =>
        rw [if_neg (by simp)] at H
        simp only [Option.some.injEq, Prod.mk.injEq] at H
        obtain ⟨rfl, rfl⟩ := H
        go_wp2_with (first | (go_at_call 20; refine HN.out.mono ?_; rintro e w3 ⟨rfl, hL3, hB3, hK3⟩; have HL3 := Aside0.mk hL3; have HB3 := Aside0.mk hB3; have HI3 := Aside0.mk (IsB.keep HI.out hK3 (fun j hj => hj.2) (Ne.symm NE.out)); have HS3 := Aside0.mk hK3.1; clear hL3 hB3 hK3))
        go_ret2
        exact ⟨rfl, HB3.out⟩
      | true =>
        rw [if_pos rfl] at H
        by_cases h1 : 56320 ≤ u
        · have h1b : decide (56320 ≤ u) = true := decide_eq_true h1
          by_cases h2 : u < 57344
          · have h2b : decide (u < 57344) = true := decide_eq_true h2
            clear h1 h2
            by_cases ha : (a != 0) = true
            · rw [if_neg (by simp [h1b, h2b, ha]), if_pos ha] at H
              obtain ⟨o1, ho1, H⟩ := Option.bind_eq_some_iff.mp H
              have H2 := Aside0.mk ho1
              have H' := Aside0.mk H
              clear ho1 H
              go_wp2_with (first | (go_at_call 20; refine HN.out.mono ?_; rintro e w3 ⟨rfl, hL3, hB3, hK3⟩; have HL3 := Aside0.mk hL3; have HB3 := Aside0.mk hB3; have HI3 := Aside0.mk (IsB.keep HI.out hK3 (fun j hj => hj.2) (Ne.symm NE.out)); have HS3 := Aside0.mk hK3.1; clear hL3 hB3 hK3) | (go_at_call 21; refine (writeRune.calls k1 (Ok2 g gb) w w3 g o o1 (pairV a u) HB3.out GE2.out HI3.out (fun j hj => hj.1) H2.out).mono ?_; rintro e w4 ⟨⟨nn, rfl⟩, hI4, hB4, hK4⟩; have HI4 := Aside0.mk (IsB.mono hI4 (fun j hj => by rcases hj with hj | hj; exact hj; exact ⟨by have := HLT.out; have := HS3.out; omega, by have := HLB.out; have := HS3.out; omega⟩)); have HB4 := Aside0.mk hB4; have HL4 := Aside0.mk (IsL.keep HL3.out hK4 (by rintro (h | h); exact h.2 rfl; exact NE.out h)); clear hI4 hB4 hK4))
              go_roundg k1
              case measure => have := HK.out; omega
              case rel => exact ⟨_, 0, o1, by first | rfl | simp [*], H', ⟨by have := HK.out; omega⟩, HL4, HI4, ⟨utf8_AppendRune.bytes _ _ _ _ HW.out H2.out⟩, HB4⟩
            · have ha' : (a != 0) = false := by simpa using ha
              clear ha
              rw [if_pos (by simp [h1b, h2b, ha'])] at H
              simp only [Option.some.injEq, Prod.mk.injEq] at H
              obtain ⟨rfl, rfl⟩ := H
              go_wp2_with (first | (go_at_call 20; refine HN.out.mono ?_; rintro e w3 ⟨rfl, hL3, hB3, hK3⟩; have HL3 := Aside0.mk hL3; have HB3 := Aside0.mk hB3; have HI3 := Aside0.mk (IsB.keep HI.out hK3 (fun j hj => hj.2) (Ne.symm NE.out)); have HS3 := Aside0.mk hK3.1; clear hL3 hB3 hK3))
              go_ret2
              exact ⟨rfl, HB3.out⟩
          · have h2b : decide (u < 57344) = false := decide_eq_false h2
            clear h1 h2
            by_cases ha : (a != 0) = true
            · rw [if_pos (by simp [h1b, h2b, ha])] at H
              simp only [Option.some.injEq, Prod.mk.injEq] at H
              obtain ⟨rfl, rfl⟩ := H
              go_wp2_with (first | (go_at_call 20; refine HN.out.mono ?_; rintro e w3 ⟨rfl, hL3, hB3, hK3⟩; have HL3 := Aside0.mk hL3; have HB3 := Aside0.mk hB3; have HI3 := Aside0.mk (IsB.keep HI.out hK3 (fun j hj => hj.2) (Ne.symm NE.out)); have HS3 := Aside0.mk hK3.1; clear hL3 hB3 hK3))
              go_ret2
              exact ⟨rfl, HB3.out⟩
            · have ha' : (a != 0) = false := by simpa using ha
              clear ha
              rw [if_neg (by simp [h1b, h2b, ha']), if_neg (by simp [ha'])] at H
              by_cases h3 : 55296 ≤ u
              · have h3b : decide (55296 ≤ u) = true := decide_eq_true h3
                by_cases h4 : u < 56320
                · have h4b : decide (u < 56320) = true := decide_eq_true h4
                  rw [if_pos (by rw [h3b, h4b]; rfl)] at H
                  clear h3 h4
                  have H' := Aside0.mk H
                  clear H
                  go_wp2_with (first | (go_at_call 20; refine HN.out.mono ?_; rintro e w3 ⟨rfl, hL3, hB3, hK3⟩; have HL3 := Aside0.mk hL3; have HB3 := Aside0.mk hB3; have HI3 := Aside0.mk (IsB.keep HI.out hK3 (fun j hj => hj.2) (Ne.symm NE.out)); have HS3 := Aside0.mk hK3.1; clear hL3 hB3 hK3))
                  go_roundg k1
                  case measure => have := HK.out; omega
                  case rel => exact ⟨_, u, o, rfl, H', ⟨by have := HK.out; omega⟩, HL3, HI3, HW, HB3⟩
                · have h4b : decide (u < 56320) = false := decide_eq_false h4
                  rw [if_neg (by rw [h3b, h4b]; decide)] at H
                  clear h3 h4
                  obtain ⟨o1, ho1, H⟩ := Option.bind_eq_some_iff.mp H
                  have H2 := Aside0.mk ho1
                  have H' := Aside0.mk H
                  clear ho1 H
                  go_wp2_with (first | (go_at_call 20; refine HN.out.mono ?_; rintro e w3 ⟨rfl, hL3, hB3, hK3⟩; have HL3 := Aside0.mk hL3; have HB3 := Aside0.mk hB3; have HI3 := Aside0.mk (IsB.keep HI.out hK3 (fun j hj => hj.2) (Ne.symm NE.out)); have HS3 := Aside0.mk hK3.1; clear hL3 hB3 hK3) | (go_at_call 21; refine (writeRune.calls k1 (Ok2 g gb) w w3 g o o1 u HB3.out GE2.out HI3.out (fun j hj => hj.1) H2.out).mono ?_; rintro e w4 ⟨⟨nn, rfl⟩, hI4, hB4, hK4⟩; have HI4 := Aside0.mk (IsB.mono hI4 (fun j hj => by rcases hj with hj | hj; exact hj; exact ⟨by have := HLT.out; have := HS3.out; omega, by have := HLB.out; have := HS3.out; omega⟩)); have HB4 := Aside0.mk hB4; have HL4 := Aside0.mk (IsL.keep HL3.out hK4 (by rintro (h | h); exact h.2 rfl; exact NE.out h)); clear hI4 hB4 hK4))
                  go_roundg k1
                  case measure => have := HK.out; omega
                  case rel => exact ⟨_, a, o1, by first | rfl | simp [*], H', ⟨by have := HK.out; omega⟩, HL4, HI4, ⟨utf8_AppendRune.bytes _ _ _ _ HW.out H2.out⟩, HB4⟩
              · have h3b : decide (55296 ≤ u) = false := decide_eq_false h3
                rw [if_neg (by rw [h3b]; simp)] at H
                clear h3
                obtain ⟨o1, ho1, H⟩ := Option.bind_eq_some_iff.mp H
                have H2 := Aside0.mk ho1
                have H' := Aside0.mk H
                clear ho1 H
                go_wp2_with (first | (go_at_call 20; refine HN.out.mono ?_; rintro e w3 ⟨rfl, hL3, hB3, hK3⟩; have HL3 := Aside0.mk hL3; have HB3 := Aside0.mk hB3; have HI3 := Aside0.mk (IsB.keep HI.out hK3 (fun j hj => hj.2) (Ne.symm NE.out)); have HS3 := Aside0.mk hK3.1; clear hL3 hB3 hK3) | (go_at_call 21; refine (writeRune.calls k1 (Ok2 g gb) w w3 g o o1 u HB3.out GE2.out HI3.out (fun j hj => hj.1) H2.out).mono ?_; rintro e w4 ⟨⟨nn, rfl⟩, hI4, hB4, hK4⟩; have HI4 := Aside0.mk (IsB.mono hI4 (fun j hj => by rcases hj with hj | hj; exact hj; exact ⟨by have := HLT.out; have := HS3.out; omega, by have := HLB.out; have := HS3.out; omega⟩)); have HB4 := Aside0.mk hB4; have HL4 := Aside0.mk (IsL.keep HL3.out hK4 (by rintro (h | h); exact h.2 rfl; exact NE.out h)); clear hI4 hB4 hK4))
                go_roundg k1
                case measure => have := HK.out; omega
                case rel => exact ⟨_, a, o1, by first | rfl | simp [*], H', ⟨by have := HK.out; omega⟩, HL4, HI4, ⟨utf8_AppendRune.bytes _ _ _ _ HW.out H2.out⟩, HB4⟩
        · have h1b : decide (56320 ≤ u) = false := decide_eq_false h1
          clear h1
          by_cases ha : (a != 0) = true
          · rw [if_pos (by simp [h1b, ha])] at H
            simp only [Option.some.injEq, Prod.mk.injEq] at H
            obtain ⟨rfl, rfl⟩ := H
            go_wp2_with (first | (go_at_call 20; refine HN.out.mono ?_; rintro e w3 ⟨rfl, hL3, hB3, hK3⟩; have HL3 := Aside0.mk hL3; have HB3 := Aside0.mk hB3; have HI3 := Aside0.mk (IsB.keep HI.out hK3 (fun j hj => hj.2) (Ne.symm NE.out)); have HS3 := Aside0.mk hK3.1; clear hL3 hB3 hK3))
            go_ret2
            exact ⟨rfl, HB3.out⟩
          · have ha' : (a != 0) = false := by simpa using ha
            clear ha
            rw [if_neg (by simp [h1b, ha']), if_neg (by simp [ha'])] at H
            by_cases h3 : 55296 ≤ u
            · have h3b : decide (55296 ≤ u) = true := decide_eq_true h3
              by_cases h4 : u < 56320
              · have h4b : decide (u < 56320) = true := decide_eq_true h4
                rw [if_pos (by rw [h3b, h4b]; rfl)] at H
                clear h3 h4
                have H' := Aside0.mk H
                clear H
                go_wp2_with (first | (go_at_call 20; refine HN.out.mono ?_; rintro e w3 ⟨rfl, hL3, hB3, hK3⟩; have HL3 := Aside0.mk hL3; have HB3 := Aside0.mk hB3; have HI3 := Aside0.mk (IsB.keep HI.out hK3 (fun j hj => hj.2) (Ne.symm NE.out)); have HS3 := Aside0.mk hK3.1; clear hL3 hB3 hK3))
                go_roundg k1
                case measure => have := HK.out; omega
                case rel => exact ⟨_, u, o, rfl, H', ⟨by have := HK.out; omega⟩, HL3, HI3, HW, HB3⟩
              · have h4b : decide (u < 56320) = false := decide_eq_false h4
                rw [if_neg (by rw [h3b, h4b]; decide)] at H
                clear h3 h4
                obtain ⟨o1, ho1, H⟩ := Option.bind_eq_some_iff.mp H
                have H2 := Aside0.mk ho1
                have H' := Aside0.mk H
                clear ho1 H
                go_wp2_with (first | (go_at_call 20; refine HN.out.mono ?_; rintro e w3 ⟨rfl, hL3, hB3, hK3⟩; have HL3 := Aside0.mk hL3; have HB3 := Aside0.mk hB3; have HI3 := Aside0.mk (IsB.keep HI.out hK3 (fun j hj => hj.2) (Ne.symm NE.out)); have HS3 := Aside0.mk hK3.1; clear hL3 hB3 hK3) | (go_at_call 21; refine (writeRune.calls k1 (Ok2 g gb) w w3 g o o1 u HB3.out GE2.out HI3.out (fun j hj => hj.1) H2.out).mono ?_; rintro e w4 ⟨⟨nn, rfl⟩, hI4, hB4, hK4⟩; have HI4 := Aside0.mk (IsB.mono hI4 (fun j hj => by rcases hj with hj | hj; exact hj; exact ⟨by have := HLT.out; have := HS3.out; omega, by have := HLB.out; have := HS3.out; omega⟩)); have HB4 := Aside0.mk hB4; have HL4 := Aside0.mk (IsL.keep HL3.out hK4 (by rintro (h | h); exact h.2 rfl; exact NE.out h)); clear hI4 hB4 hK4))
                go_roundg k1
                case measure => have := HK.out; omega
                case rel => exact ⟨_, a, o1, by first | rfl | simp [*], H', ⟨by have := HK.out; omega⟩, HL4, HI4, ⟨utf8_AppendRune.bytes _ _ _ _ HW.out H2.out⟩, HB4⟩
            · have h3b : decide (55296 ≤ u) = false := decide_eq_false h3
              rw [if_neg (by rw [h3b]; simp)] at H
              clear h3
              obtain ⟨o1, ho1, H⟩ := Option.bind_eq_some_iff.mp H
              have H2 := Aside0.mk ho1
              have H' := Aside0.mk H
              clear ho1 H
              go_wp2_with (first | (go_at_call 20; refine HN.out.mono ?_; rintro e w3 ⟨rfl, hL3, hB3, hK3⟩; have HL3 := Aside0.mk hL3; have HB3 := Aside0.mk hB3; have HI3 := Aside0.mk (IsB.keep HI.out hK3 (fun j hj => hj.2) (Ne.symm NE.out)); have HS3 := Aside0.mk hK3.1; clear hL3 hB3 hK3) | (go_at_call 21; refine (writeRune.calls k1 (Ok2 g gb) w w3 g o o1 u HB3.out GE2.out HI3.out (fun j hj => hj.1) H2.out).mono ?_; rintro e w4 ⟨⟨nn, rfl⟩, hI4, hB4, hK4⟩; have HI4 := Aside0.mk (IsB.mono hI4 (fun j hj => by rcases hj with hj | hj; exact hj; exact ⟨by have := HLT.out; have := HS3.out; omega, by have := HLB.out; have := HS3.out; omega⟩)); have HB4 := Aside0.mk hB4; have HL4 := Aside0.mk (IsL.keep HL3.out hK4 (by rintro (h | h); exact h.2 rfl; exact NE.out h)); clear hI4 hB4 hK4))
              go_roundg k1
              case measure => have := HK.out; omega
              case rel => exact ⟨_, a, o1, by first | rfl | simp [*], H', ⟨by have := HK.out; omega⟩, HL4, HI4, ⟨utf8_AppendRune.bytes _ _ _ _ HW.out H2.out⟩, HB4⟩
    · rw [if_neg hp] at H
      have hpi : decide ((0 : Int) < (L.length : Int)) = false := decide_eq_false (by omega)
      have hpb : decide (0 < L.length) = false := decide_eq_false hp
      have hpe : (0 < L.length) = False := eq_false hp
      clear hp
      by_cases ha : (a != 0) = true
      · rw [if_pos ha] at H
        simp only [Option.some.injEq, Prod.mk.injEq] at H
        obtain ⟨rfl, rfl⟩ := H
        go_wp2
        go_ret2
        exact ⟨rfl, HB.out⟩
      · have ha' : (a != 0) = false := by simpa using ha
        rw [if_neg ha] at H
        simp only [Option.some.injEq, Prod.mk.injEq] at H
        obtain ⟨rfl, rfl⟩ := H
        clear ha
        have hS := IsB.string HI.out HW.out GE2.out HB.out.size
        go_wp2_with (go_at_call 22; refine hS.mono ?_; rintro e w3 ⟨rfl, hB3⟩; have HB3 := Aside0.mk hB3; clear hB3)
        go_ret2
        exact ⟨rfl, HB.out.trans HB3.out⟩
end Go.Proofs.YtoimmkonlpdjfaaDoor.Px
