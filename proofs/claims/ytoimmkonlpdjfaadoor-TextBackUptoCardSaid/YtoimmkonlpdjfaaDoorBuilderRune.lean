/- strings.Builder: copyCheck, at a builder that lies where it was made; WriteRune, by the printed contract of utf8.AppendRune. -/
import Derived.Test.YtoimmkonlpdjfaaDoorGG
import Derived.Test.YtoimmkonlpdjfaaDoorPx3
import Derived.Shelf.Strings.Builder1
import Derived.Lib.Builder
namespace Go.Proofs.YtoimmkonlpdjfaaDoor.Px
open Go.RowKit Go.Proofs.YtoimmkonlpdjfaaDoorW.PrintWords Go.Proofs.YtoimmkonlpdjfaaDoorW.PrintLast Go.Proofs.YtoimmkonlpdjfaaDoorW.PrintMore
set_option linter.unusedVariables false
set_option linter.unusedSimpArgs false

/-- The builder in block g holds the bytes l; its own row's block is one of those of which 'ok' holds. -/
def IsB (ok : Nat → Prop) (w0 w : World) (g : Nat) (l : List Int) : Prop :=
  ∃ p v, w.heap[g]? = some (.cells #[p, v] 46 (0, 0)) ∧ (p = .pointer none ∨ p = .pointer (some ⟨g, 0, none⟩)) ∧ Kd.R (Kd.int .u8) 5 w w0.heap.size ok v l

theorem B_size : (Tryd.prog.info? 46).map (·.size) = some 2 := by kernel_rfl
theorem B_lies : liesAt Tryd.prog Tryd.prog.depth 46 (2 / Tryd.prog.cellsOf 46) 0 46 1 = true := by kernel_rfl
set_option maxRecDepth 100000 in
theorem copyCheck_used (b : Nat) (w : World) (h0 : w.cell? ⟨b, 0, none⟩ = some (.pointer (some ⟨b, 0, none⟩))) :
    Calls Tryd.prog 26 #[.pointer (some ⟨b, 0, none⟩)] w fun e w' => e = .returned (.tuple #[]) ∧ w' = w := by
  obtain ⟨j, hj, _⟩ := Option.map_eq_some_iff.1 B_size
  have u1 := Tryd.underlying44
  go_enter Tryd.func26, Tryd.ntmps26
  go_wp2
  rw [Lib.run_neq_ptr_same w _ Tryd.underlying44 hj]
  go_wp2
  go_end0
  exact ⟨rfl, rfl⟩
set_option maxRecDepth 100000 in
theorem copyCheck_fresh (b : Nat) (w : World) (h0 : w.cell? ⟨b, 0, none⟩ = some (.pointer none)) (hsh : w.shape? b = some (46, 2)) (hfz : w.frozen? ⟨b, 0, none⟩ = false) :
    Calls Tryd.prog 26 #[.pointer (some ⟨b, 0, none⟩)] w fun e w' => e = .returned (.tuple #[]) ∧ w' = w.setCell ⟨b, 0, none⟩ (.pointer (some ⟨b, 0, none⟩)) := by
  obtain ⟨j, hj, hjs⟩ := Option.map_eq_some_iff.1 B_size
  have u1 := Tryd.underlying44
  have u2 := Tryd.underlying63
  go_enter Tryd.func26, Tryd.ntmps26
  go_wp2
  rw [Lib.run_to_unsafe w ⟨b, 0, none⟩ Tryd.underlying44 Tryd.underlying63 hj (by rw [hjs]; decide) hsh (Nat.zero_lt_succ 1)]
  simp only [Result.andThen]
  rw [Oper.upon_value]
  go_wp2
  rw [run_callFunc_extern Tryd.func28 (by kernel_rfl) (by kernel_rfl) (by kernel_rfl) (e := Extern.AbiNoEscape.same) (by kernel_rfl)]
  rw [Lib.run_noEscape]
  simp only [Result.andThen]
  rw [Oper.upon_value]
  go_wp2
  rw [Lib.run_from_unsafe w ⟨b, 0, none⟩ Tryd.underlying63 Tryd.underlying44 hj hsh B_lies]
  simp only [Result.andThen]
  rw [Oper.upon_value]
  go_wp2
  go_end0
  exact ⟨rfl, rfl⟩
/-- copyCheck at a builder that lies where it was made: its address is its own. -/
theorem copyCheck.calls (w0 w : World) (g : Nat) (p v : Value) (hB : Below w0.heap.size w0 w) (hg0 : w0.heap.size ≤ g) (hb : w.heap[g]? = some (.cells #[p, v] 46 (0, 0))) (hp : p = .pointer none ∨ p = .pointer (some ⟨g, 0, none⟩)) :
    Calls Tryd.prog 26 #[.pointer (some ⟨g, 0, none⟩)] w fun e w' => e = .returned (.tuple #[]) ∧ w'.heap[g]? = some (.cells #[.pointer (some ⟨g, 0, none⟩), v] 46 (0, 0)) ∧ Below w0.heap.size w0 w' ∧ Kept w w' (fun j => j = g) ∧ w'.heap.size = w.heap.size := by
  have h0 : w.cell? ⟨g, 0, none⟩ = some p := (blk_cell hb 0).trans rfl
  rcases hp with rfl | rfl
  · refine (copyCheck_fresh g w h0 (by simp [World.shape?, hb]) (blk_frozen hb 0)).mono ?_
    rintro e w' ⟨rfl, rfl⟩
    exact ⟨rfl, by simpa using blk_set hb 0 (.pointer (some ⟨g, 0, none⟩)), below_set hB hg0, Kept.setCell (Kept.refl w (fun j => j = g)) (p := ⟨g, 0, none⟩) (.inl rfl) _, by simp [World.setCell]⟩
  · refine (copyCheck_used g w h0).mono ?_
    rintro e w' ⟨rfl, rfl⟩
    exact ⟨rfl, hb, hB, Kept.refl _ _, rfl⟩
set_option maxHeartbeats 8000000 in
set_option maxRecDepth 100000 in
theorem writeRune.calls (k : Nat) (ok : Nat → Prop) (w0 w : World) (g : Nat) (l r : List Int) (u : Int) (hB : Below w0.heap.size w0 w) (hg0 : w0.heap.size ≤ g) (hI : IsB ok w0 w g l) (hok : ∀ j, ok j → j ≠ g) (h : utf8_AppendRune.f k l u = some r) :
    Calls Tryd.prog 21 #[.pointer (some ⟨g, 0, none⟩), .int .i32 u] w fun e w' => (∃ n : Int, e = .returned (.tuple #[.int .i64 n, .nilIface])) ∧ IsB (fun j => ok j ∨ w.heap.size ≤ j) w0 w' g r ∧ Below w0.heap.size w0 w' ∧ Kept w w' (fun j => ok j ∨ j = g) := by
  obtain ⟨p, v, hb, hp, hR⟩ := hI
  obtain ⟨Ao, co, rfl⟩ := Kd.R_slice hR
  have HCC := Aside0.mk (copyCheck.calls w0 w g p _ hB hg0 hb hp)
  have HR := Aside0.mk hR
  have HA := Aside0.mk h
  have hlt := blk_lt hb
  have HLT := Aside0.mk hlt
  have HG := Aside0.mk hg0
  have HOK := Aside0.mk hok
  clear hb hp hR h hlt hB hok hg0
  have u1 := Tryd.underlying44
  have u2 := Tryd.underlying22
  go_enter Tryd.func21, Tryd.ntmps21
  go_wp2_with (first
    | (go_at_call 26; refine HCC.out.mono ?_; rintro e w1 ⟨rfl, hb1, hB1, hK1, hz1⟩; have HB1 := Aside0.mk hb1; have HW1 := Aside0.mk hB1; have HK1 := Aside0.mk hK1; have HZ1 := Aside0.mk hz1; have HR1 := Aside0.mk (Kd.R_step HR.out (fun j hj hl => HK1.out.2 j hl (HOK.out j hj))); have hc0 : w1.cell? ⟨g, 0, none⟩ = some (.pointer (some ⟨g, 0, none⟩)) := (blk_cell HB1.out 0).trans rfl; have hc1 : w1.cell? ⟨g, 1, none⟩ = some (.slice Ao l.length co) := (blk_cell HB1.out 1).trans rfl; clear hb1 hB1 hK1 hz1)
    | (go_at_call 27; refine (utf8_AppendRune.calls k ok _ l u r w0 _ HW1.out HR1.out HA.out).mono ?_; rintro e w2 ⟨v2, rfl, hR2, hB2, hK2⟩; have HB2 := Aside0.mk ((hK2.2 g (blk_lt HB1.out) (fun h => HOK.out g h rfl)).trans HB1.out); have HR2 := Aside0.mk hR2; have HW2 := Aside0.mk hB2; have HK2 := Aside0.mk hK2; have hd0 : w2.cell? ⟨g, 0, none⟩ = some (.pointer (some ⟨g, 0, none⟩)) := (blk_cell HB2.out 0).trans rfl; have hd1 : w2.cell? ⟨g, 1, none⟩ = some (.slice Ao l.length co) := (blk_cell HB2.out 1).trans rfl; have hf1 := blk_frozen HB2.out 1; obtain ⟨Ap, cp, hv2⟩ := Kd.R_slice hR2; subst hv2; clear hR2 hB2 hK2))
  go_ret2
  refine ⟨⟨_, rfl⟩, ⟨.pointer (some ⟨g, 0, none⟩), .slice Ap r.length cp, by simpa using blk_set HB2.out 1 (.slice Ap r.length cp), .inr rfl, ?_⟩, below_set HW2.out HG.out, ?_⟩
  · have h1 : Kd.R (Kd.int .u8) 5 (w2.setCell ⟨g, 1, none⟩ (.slice Ap r.length cp)) w0.heap.size (fun j => ok j ∨ w1.heap.size ≤ j) (.slice Ap r.length cp) r := by
      refine Kd.R_step HR2.out (fun j hj _ => Below.heap_setCell w2 ⟨g, 1, none⟩ _ j ?_)
      intro e
      have e1 : j = g := e
      rcases hj with hj | hj
      · exact HOK.out _ hj e1
      · have h2 := HLT.out
        have h3 := HZ1.out
        omega
    rw [HZ1.out] at h1
    exact h1
  · exact Kept.setCell ((HK1.out.mono (S' := fun j => ok j ∨ j = g) (fun j h => .inr h)).then_ (S2 := ok) HK2.out (fun j h => .inl (.inl h))) (p := ⟨g, 1, none⟩) (.inl (.inr rfl)) _
end Go.Proofs.YtoimmkonlpdjfaaDoor.Px
