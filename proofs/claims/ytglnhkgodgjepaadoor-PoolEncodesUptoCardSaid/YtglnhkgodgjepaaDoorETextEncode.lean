/- text.Encode: what the Go function computes, as a Lean function, and the walk of it; utf8.ValidString by the shelf's contract, text.split and text.unit by the printed contracts. -/
import Derived.Test.YtglnhkgodgjepaaDoorGG
import Derived.Test.YtglnhkgodgjepaaDoorPx2
import Derived.Lib.OthersKept
import Derived.BigCall
import Derived.Shelf.Unicode.ValidAny
namespace Go.Proofs.YtglnhkgodgjepaaDoor.Px
open Go.RowKit Go.Proofs.YtglnhkgodgjepaaDoorW.PrintWords Go.Proofs.YtglnhkgodgjepaaDoorW.PrintLast Go.Proofs.YtglnhkgodgjepaaDoorW.PrintMore
set_option linter.unusedVariables false
set_option linter.unusedSimpArgs false

/-- One code point's bytes behind those that are there. -/
def text_Encode.one (k : Nat) (b : List Int) (c : Int) : Option (List Int) :=
  (text_split.f c).bind fun t => if t.1 = 0 then text_unit.f k b t.2 else (text_unit.f k b t.1).bind fun b1 => text_unit.f k b1 t.2
def text_Encode.l0 : Nat → ByteArray → Nat → List Int → Option (List Int × Int)
  | 0, _, _, _ => none
  | k + 1, s, p, b => if p < s.size then (text_Encode.one k b ((Utf8.decode s p).1 : Int)).bind fun b1 => text_Encode.l0 k s (p + (Utf8.decode s p).2) b1 else some (b, 0)
def text_Encode.f (k : Nat) (a0 : ByteArray) : Option (List Int × Int) :=
  if a0.size ≤ 9223372036854775807 then (if Lib.validD a0.data.toList = true then text_Encode.l0 k a0 0 [] else some ([], 20)) else none
theorem text_Encode.mono_one (k : Nat) (b : List Int) (c : Int) : LeO (text_Encode.one k b c) (text_Encode.one (k + 1) b c) := by
  unfold text_Encode.one
  refine LeO.bind (LeO.refl _) (fun _ => LeO.ite (text_unit.mono _ _ _) (LeO.bind (text_unit.mono _ _ _) (fun _ => text_unit.mono _ _ _)))
theorem text_Encode.mono_l : ∀ k s p b, LeO (text_Encode.l0 k s p b) (text_Encode.l0 (k + 1) s p b)
  | 0 => fun _ _ _ r h => by simp [text_Encode.l0] at h
  | k + 1 => fun s p b => by
    unfold text_Encode.l0
    exact LeO.ite (LeO.bind (text_Encode.mono_one _ _ _) (fun _ => text_Encode.mono_l k _ _ _)) (LeO.refl _)
theorem text_Encode.mono : ∀ a0 k, LeO (text_Encode.f k a0) (text_Encode.f (k + 1) a0) := by
  intro a0 k
  unfold text_Encode.f
  exact LeO.ite (LeO.ite (text_Encode.mono_l _ _ _ _) (LeO.refl _)) (LeO.refl _)

theorem text_Encode.width (s : ByteArray) (pos : Nat) (h : pos < s.size) : 1 ≤ (Utf8.decode s pos).2 := by
  by_cases ha : (s[pos]'h).toNat < 128
  · rw [decode_ascii s pos h ha]; exact Nat.le_refl _
  · exact (decode_high s pos h (by omega)).2

/-- A range's iterator moves on: a row of the call's own stays as it is. -/
theorem R_iterAt {w : World} {base : Nat} {v : Value} {xs : List Int} {k : Nat} {s : ByteArray} {p : Nat} (h : Kd.R (Kd.int .u8) 5 w base (fun _ => True) v xs) (hk : w.heap[k]? = some (.stringIter s p)) (p' : Nat) :
    Kd.R (Kd.int .u8) 5 (w.iterAt k s p') base (fun _ => True) v xs := by
  refine Kd.R_step (Kd.R_mono (Kd.R_bound h) (fun _ hk => hk.2)) (fun j hj _ => ?_) |> fun z => Kd.R_mono z (fun _ _ => trivial)
  obtain ⟨_, _, q, _, cells, hc⟩ := hj
  refine Lib.iterAt_other w k j s p' ?_
  rintro rfl
  rw [hk] at hc
  cases hc
/-- The row's block is none that holds an iterator. -/
theorem R_noIter {w : World} {base : Nat} {ok : Nat → Prop} {v : Value} {xs : List Int} {it : Nat} {s : ByteArray} {p : Nat} (h : Kd.R (Kd.int .u8) 5 w base ok v xs) (hk : w.heap[it]? = some (.stringIter s p)) :
    Kd.R (Kd.int .u8) 5 w base (fun k => k ≠ it) v xs := by
  refine Kd.R_mono (Kd.R_bound h) (fun j hj => ?_)
  obtain ⟨_, _, _, q, _, cells, hc⟩ := hj
  rintro rfl
  rw [hk] at hc
  cases hc

theorem valid_calls (s : ByteArray) (w : World) (hs : s.size ≤ 9223372036854775807) (hG : GG w) :
    Calls Tryd.prog 46 #[.string s] w fun e w' => e = .returned (.bool (Lib.validD s.data.toList)) ∧ Below w.heap.size w w' :=
  Any.utf8_ValidString Tryd.laysValid s w hs hG.tabs
theorem R_mk (w w1 : World) (h : w.heap.size ≤ w1.heap.size) (s : ByteArray) : Kd.R (Kd.int .u8) 5 ((w1.alloc (.cells #[] 5)).iter s 0) w.heap.size (fun _ => True) (.slice (some ⟨w1.heap.size, 0, none⟩) 0 0) [] := by
  have h1 := World.ownsRow_lit (base := w.heap.size) (e := 5) (size := 1) w1 #[] 0 h (by simp [maxLen]) (by simp)
  have h2 : Kd.R (Kd.int .u8) 5 (w1.alloc (.cells #[] 5)) w.heap.size (fun _ => True) (.slice (some ⟨w1.heap.size, 0, none⟩) 0 0) [] :=
    ⟨fun _ _ => trivial, [], by simp only [List.length_nil]; exact (by simpa using h1 : World.ownsRow _ _ _ 1 _ 0 []), Reps.none _ _⟩
  exact Kd.R_below h2 (((Below.refl _ _).alloc (Nat.le_refl _) _))
set_option maxHeartbeats 4000000 in
set_option maxRecDepth 100000 in
theorem text_Encode.calls (k : Nat) (a0 : ByteArray) (r1 : List Int) (r2 : Int) (w : World) (hG : Aside0 (GG w)) (h : text_Encode.f k a0 = some (r1, r2)) :
    Calls Tryd.prog 25 #[.string a0] w fun e w' => ∃ v0_ : Value, e = .returned (.tuple #[v0_, .int .i64 r2]) ∧ Kd.R (Kd.int .u8) 5 w' w.heap.size (fun _ => True) v0_ r1 ∧ Below w.heap.size w w' := by
  unfold text_Encode.f at h
  by_cases hs : a0.size ≤ 9223372036854775807
  · rw [if_pos hs] at h
    have cV := valid_calls a0 w hs hG.out
    by_cases hv : Lib.validD a0.data.toList = true
    · rw [if_pos hv] at h
      rw [hv] at cV
      have H0 := Aside0.mk h
      clear h hv hs
      go_enter Tryd.func25, Tryd.ntmps25
      go_wp2_with (go_at_call 46; refine cV.mono ?_; rintro e w1 ⟨rfl, hb1⟩)
      have hz1 : w.heap.size ≤ w1.heap.size := hb1.size
      go_loopg [4] k (fun kq v wr => ∃ (pos : Nat) (b : List Int), Aside0 (text_Encode.l0 kq a0 pos b = some (r1, r2)) ∧ Aside0 (kq ≤ k) ∧ Aside0 (Kd.R (Kd.int .u8) 5 wr w.heap.size (fun _ => True) v b) ∧ Aside0 (wr.heap[w1.heap.size + 1]? = some (.stringIter a0 pos)) ∧ Aside0 (Below w.heap.size w wr))
      case atStart =>
        refine ⟨0, [], H0, ⟨Nat.le_refl _⟩, ⟨R_mk w w1 hz1 a0⟩, ⟨?_⟩, ⟨below_then hb1 hz1 (((Below.refl _ w1).alloc (Nat.le_refl _) _).alloc (by simp) _)⟩⟩
        have := World.iter_heap (w1.alloc (.cells #[] 5)) a0 0
        simpa using this
      case round =>
        obtain ⟨pos, b, HA, HK, HR, HI, HB⟩ := hrel
        cases gk with
        | zero => exact absurd HA.out (by simp [text_Encode.l0])
        | succ k1 =>
        have hlt : w1.heap.size + 1 < wr.heap.size := (Array.getElem?_eq_some_iff.1 HI.out).1
        have H := HA.out
        clear HA
        simp only [text_Encode.l0] at H
        by_cases hp : pos < a0.size
        · rw [if_pos hp] at H
          replace H := Option.bind_eq_some_iff.mp H
          obtain ⟨b1, h1, H⟩ := H
          have H' := Aside0.mk H
          clear H
          unfold text_Encode.one at h1
          replace h1 := Option.bind_eq_some_iff.mp h1
          obtain ⟨⟨t1, t2⟩, hsp, h1⟩ := h1
          have HS := Aside0.mk hsp
          clear hsp
          have hnx : ∀ ty, (Instr.next (.pointer (some ⟨w1.heap.size + 1, 0, none⟩)) true ty).run Tryd.prog wr = _ := fun ty => Lib.run_next_any_at wr (w1.heap.size + 1) a0 pos ty HI.out hp
          have hz : w.heap.size ≤ wr.heap.size := HB.out.size
          by_cases hc : t1 = 0
          · rw [if_pos hc] at h1
            have hc0 : (t1 != 0) = false := bne_eq_false_iff_eq.mpr hc
            clear hc
            have H1 := Aside0.mk h1
            clear h1
            go_wp2_with fail
            refine (text_split.calls _ t1 t2 _ HS.out).mono ?_
            rintro e w' ⟨rfl, ⟨⟨nd, rfl⟩⟩⟩
            go_wp2_with fail
            refine (text_unit.calls k1 (fun j => j ≠ w1.heap.size + 1) _ b t2 b1 w _ ?side1 ?side2 H1.out).mono ?_
            case side1 => exact pw_below_drewN (Lib.below_iterAt HB.out (by omega) _ _) _
            case side2 => exact R_noIter (Kd.R_drewN (R_iterAt HR.out HI.out _) _) (Lib.iterAt_heap _ _ _ _ _ HI.out)
            rintro e w2 ⟨v1, rfl, ho, hb2, hk2⟩
            have hi2 : w2.heap[w1.heap.size + 1]? = some (.stringIter a0 (pos + (Utf8.decode a0 pos).2)) := (hk2.2 _ (by simpa [Lib.iterAt_size] using hlt) (by simp)).trans (Lib.iterAt_heap _ _ _ _ _ HI.out)
            go_wp2
            go_roundg k1
            case measure => have := HK.out; omega
            case rel => exact ⟨_, b1, H', ⟨by have := HK.out; omega⟩, ⟨Kd.R_mono ho (fun _ _ => trivial)⟩, ⟨hi2⟩, ⟨hb2⟩⟩
          · rw [if_neg hc] at h1
            replace h1 := Option.bind_eq_some_iff.mp h1
            obtain ⟨b2, h2, h1⟩ := h1
            have hc0 : (t1 != 0) = true := bne_iff_ne.mpr hc
            clear hc
            have H1 := Aside0.mk h1
            have H2 := Aside0.mk h2
            clear h1 h2
            go_wp2_with fail
            refine (text_split.calls _ t1 t2 _ HS.out).mono ?_
            rintro e w' ⟨rfl, ⟨⟨nd, rfl⟩⟩⟩
            go_wp2_with fail
            refine (text_unit.calls k1 (fun j => j ≠ w1.heap.size + 1) _ b t1 b2 w _ ?side1 ?side2 H2.out).mono ?_
            case side1 => exact pw_below_drewN (Lib.below_iterAt HB.out (by omega) _ _) _
            case side2 => exact R_noIter (Kd.R_drewN (R_iterAt HR.out HI.out _) _) (Lib.iterAt_heap _ _ _ _ _ HI.out)
            rintro e w2 ⟨v1, rfl, ho, hb2, hk2⟩
            have hi2 := Aside0.mk (show w2.heap[w1.heap.size + 1]? = some (.stringIter a0 (pos + (Utf8.decode a0 pos).2)) from (hk2.2 _ (by simpa [Lib.iterAt_size] using hlt) (by simp)).trans (Lib.iterAt_heap _ _ _ _ _ HI.out))
            have ho2 := Aside0.mk ho
            clear hk2 ho
            go_wp2_with fail
            refine (text_unit.calls k1 (fun j => j ≠ w1.heap.size + 1) _ b2 t2 b1 w _ ?side1 ?side2 H1.out).mono ?_
            case side1 => exact hb2
            case side2 => exact R_noIter ho2.out hi2.out
            rintro e w3 ⟨v2, rfl, ho, hb3, hk3⟩
            have hi3 := (hk3.2 _ (Array.getElem?_eq_some_iff.1 hi2.out).1 (by simp)).trans hi2.out
            go_wp2
            go_roundg k1
            case measure => have := HK.out; omega
            case rel => exact ⟨_, b1, H', ⟨by have := HK.out; omega⟩, ⟨Kd.R_mono ho (fun _ _ => trivial)⟩, ⟨hi3⟩, ⟨hb3⟩⟩
        · rw [if_neg hp] at H
          simp only [Option.some.injEq, Prod.mk.injEq] at H
          obtain ⟨rfl, rfl⟩ := H
          have hnx : ∀ ty, (Instr.next (.pointer (some ⟨w1.heap.size + 1, 0, none⟩)) true ty).run Tryd.prog wr = _ := fun ty => Lib.run_next_end_at wr (w1.heap.size + 1) a0 pos ty HI.out hp
          go_wp2
          go_ret2
          exact ⟨_, rfl, HR.out, HB.out⟩
    · rw [if_neg hv] at h
      have hv' : Lib.validD a0.data.toList = false := by simpa using hv
      rw [hv'] at cV
      simp only [Option.some.injEq, Prod.mk.injEq] at h
      obtain ⟨rfl, rfl⟩ := h
      clear hv hv' hs
      go_enter Tryd.func25, Tryd.ntmps25
      go_wp2_with (go_at_call 46; refine cV.mono ?_; rintro e w1 ⟨rfl, hb1⟩)
      go_ret2
      exact ⟨_, rfl, Kd.R_nil _ _ _ _ _, hb1⟩
  · rw [if_neg hs] at h
    exact absurd h (by simp)
end Go.Proofs.YtglnhkgodgjepaaDoor.Px
