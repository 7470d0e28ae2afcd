/- What the struct types' readings give (by rowgen.py). -/
import Derived.Test.YtiolgmklpldpcaaDoorFits
namespace Go.Proofs.YtiolgmklpldpcaaDoor.Px
open Go.RowKit Go.ChangeShapes Go.WideShapes Go.ChangeAt Go.Proofs.YtiolgmklpldpcaaDoorW.PrintWords Go.Proofs.YtiolgmklpldpcaaDoorW.PrintLast Go.Proofs.YtiolgmklpldpcaaDoorW.PrintMore
set_option linter.unusedVariables false
set_option maxRecDepth 100000
def QS51 (b : Nat) (a : S51) : Prop := (Qint .i64) b a.f0 ∧ Qstr b a.f1 ∧ (Qint .i64) b a.f2 ∧ (Qint .i64) b a.f3 ∧ (Qint .i64) b a.f4
theorem QS51.mono : ∀ b b' a, b ≤ b' → QS51 b a → QS51 b' a := fun b b' a h hq => ⟨(Qint.mono .i64) b b' a.f0 h hq.1, Qstr.mono b b' a.f1 h hq.2.1, (Qint.mono .i64) b b' a.f2 h hq.2.2.1, (Qint.mono .i64) b b' a.f3 h hq.2.2.2.1, (Qint.mono .i64) b b' a.f4 h hq.2.2.2.2⟩
theorem fits51 {H : Type} (enc : TypeId × Value → H) (W : World) : Fits enc Tryd.prog W 51 k51 QS51 := by
  intro fuel cs x p h
  obtain ⟨xs, n, rfl, hx, hlen, hxl, hall⟩ := DataW.trod_struct Tryd.underlying51 h
  have hx1 := (Prod.mk.inj hx).1
  have hb : ∀ z ∈ xs, Rows.uptoBulk z.1 ≤ Rows.uptoBulk x := by
    intro z hz
    rw [hx1]
    simp only [Rows.uptoBulk]
    have := bulk_part_le (List.mem_map_of_mem (f := (·.1)) hz)
    omega
  have hl : cs.length = 5 := hlen.trans (by kernel_rfl)
  have hxl' : xs.length = 5 := hxl
  have e0 := hall 0 _ rfl
  obtain ⟨z0, hz0⟩ : ∃ z, xs[0]? = some z := ⟨xs[0]'(by omega), List.getElem?_eq_getElem (by omega)⟩
  rw [hz0] at e0
  have c0 : Tryd.prog.cellsOf 3 = 1 := by kernel_rfl
  replace e0 : DataW.trod enc Tryd.prog W 0 (fun _ => true) true n 3 ((cs.drop 0).take 1) = some z0 := by rw [← c0]; exact e0
  obtain ⟨a0, K0, q0⟩ := (Fits.int Tryd.underlying3) n _ z0.1 z0.2 e0
  replace q0 := (Qint.mono .i64) _ _ _ (hb z0 (List.mem_of_getElem? hz0)) q0
  have e1 := hall 1 _ rfl
  obtain ⟨z1, hz1⟩ : ∃ z, xs[1]? = some z := ⟨xs[1]'(by omega), List.getElem?_eq_getElem (by omega)⟩
  rw [hz1] at e1
  have c1 : Tryd.prog.cellsOf 9 = 1 := by kernel_rfl
  replace e1 : DataW.trod enc Tryd.prog W 0 (fun _ => true) true n 9 ((cs.drop 1).take 1) = some z1 := by rw [← c1]; exact e1
  obtain ⟨a1, K1, q1⟩ := (Fits.string Tryd.underlying9) n _ z1.1 z1.2 e1
  replace q1 := Qstr.mono _ _ _ (hb z1 (List.mem_of_getElem? hz1)) q1
  have e2 := hall 2 _ rfl
  obtain ⟨z2, hz2⟩ : ∃ z, xs[2]? = some z := ⟨xs[2]'(by omega), List.getElem?_eq_getElem (by omega)⟩
  rw [hz2] at e2
  have c2 : Tryd.prog.cellsOf 2 = 1 := by kernel_rfl
  replace e2 : DataW.trod enc Tryd.prog W 0 (fun _ => true) true n 2 ((cs.drop 2).take 1) = some z2 := by rw [← c2]; exact e2
  obtain ⟨a2, K2, q2⟩ := (Fits.int Tryd.underlying2) n _ z2.1 z2.2 e2
  replace q2 := (Qint.mono .i64) _ _ _ (hb z2 (List.mem_of_getElem? hz2)) q2
  have e3 := hall 3 _ rfl
  obtain ⟨z3, hz3⟩ : ∃ z, xs[3]? = some z := ⟨xs[3]'(by omega), List.getElem?_eq_getElem (by omega)⟩
  rw [hz3] at e3
  have c3 : Tryd.prog.cellsOf 3 = 1 := by kernel_rfl
  replace e3 : DataW.trod enc Tryd.prog W 0 (fun _ => true) true n 3 ((cs.drop 3).take 1) = some z3 := by rw [← c3]; exact e3
  obtain ⟨a3, K3, q3⟩ := (Fits.int Tryd.underlying3) n _ z3.1 z3.2 e3
  replace q3 := (Qint.mono .i64) _ _ _ (hb z3 (List.mem_of_getElem? hz3)) q3
  have e4 := hall 4 _ rfl
  obtain ⟨z4, hz4⟩ : ∃ z, xs[4]? = some z := ⟨xs[4]'(by omega), List.getElem?_eq_getElem (by omega)⟩
  rw [hz4] at e4
  have c4 : Tryd.prog.cellsOf 3 = 1 := by kernel_rfl
  replace e4 : DataW.trod enc Tryd.prog W 0 (fun _ => true) true n 3 ((cs.drop 4).take 1) = some z4 := by rw [← c4]; exact e4
  obtain ⟨a4, K4, q4⟩ := (Fits.int Tryd.underlying3) n _ z4.1 z4.2 e4
  replace q4 := (Qint.mono .i64) _ _ _ (hb z4 (List.mem_of_getElem? hz4)) q4
  refine ⟨⟨a0, a1, a2, a3, a4⟩, ?_, ⟨q0, q1, q2, q3, q4⟩⟩
  rw [show cs = cs.drop 0 from rfl]
  exact ⟨(cs.drop 0).take 1, cs.drop 1, by rw [← List.drop_drop (i := 1) (j := 0), List.take_append_drop], K0, ⟨(cs.drop 1).take 1, cs.drop 2, by rw [← List.drop_drop (i := 1) (j := 1), List.take_append_drop], K1, ⟨(cs.drop 2).take 1, cs.drop 3, by rw [← List.drop_drop (i := 1) (j := 2), List.take_append_drop], K2, ⟨(cs.drop 3).take 1, cs.drop 4, by rw [← List.drop_drop (i := 1) (j := 3), List.take_append_drop], K3, (by rw [show cs.drop 4 = (cs.drop 4).take 1 from (List.take_of_length_le (by rw [List.length_drop]; omega)).symm]; exact K4)⟩⟩⟩⟩
def QS42 (b : Nat) (a : S42) : Prop := (Qint .i64) b a.f0 ∧ (Qint .i64) b a.f1 ∧ (Qint .i64) b a.f2
theorem QS42.mono : ∀ b b' a, b ≤ b' → QS42 b a → QS42 b' a := fun b b' a h hq => ⟨(Qint.mono .i64) b b' a.f0 h hq.1, (Qint.mono .i64) b b' a.f1 h hq.2.1, (Qint.mono .i64) b b' a.f2 h hq.2.2⟩
theorem fits42 {H : Type} (enc : TypeId × Value → H) (W : World) : Fits enc Tryd.prog W 42 k42 QS42 := by
  intro fuel cs x p h
  obtain ⟨xs, n, rfl, hx, hlen, hxl, hall⟩ := DataW.trod_struct Tryd.underlying42 h
  have hx1 := (Prod.mk.inj hx).1
  have hb : ∀ z ∈ xs, Rows.uptoBulk z.1 ≤ Rows.uptoBulk x := by
    intro z hz
    rw [hx1]
    simp only [Rows.uptoBulk]
    have := bulk_part_le (List.mem_map_of_mem (f := (·.1)) hz)
    omega
  have hl : cs.length = 3 := hlen.trans (by kernel_rfl)
  have hxl' : xs.length = 3 := hxl
  have e0 := hall 0 _ rfl
  obtain ⟨z0, hz0⟩ : ∃ z, xs[0]? = some z := ⟨xs[0]'(by omega), List.getElem?_eq_getElem (by omega)⟩
  rw [hz0] at e0
  have c0 : Tryd.prog.cellsOf 3 = 1 := by kernel_rfl
  replace e0 : DataW.trod enc Tryd.prog W 0 (fun _ => true) true n 3 ((cs.drop 0).take 1) = some z0 := by rw [← c0]; exact e0
  obtain ⟨a0, K0, q0⟩ := (Fits.int Tryd.underlying3) n _ z0.1 z0.2 e0
  replace q0 := (Qint.mono .i64) _ _ _ (hb z0 (List.mem_of_getElem? hz0)) q0
  have e1 := hall 1 _ rfl
  obtain ⟨z1, hz1⟩ : ∃ z, xs[1]? = some z := ⟨xs[1]'(by omega), List.getElem?_eq_getElem (by omega)⟩
  rw [hz1] at e1
  have c1 : Tryd.prog.cellsOf 3 = 1 := by kernel_rfl
  replace e1 : DataW.trod enc Tryd.prog W 0 (fun _ => true) true n 3 ((cs.drop 1).take 1) = some z1 := by rw [← c1]; exact e1
  obtain ⟨a1, K1, q1⟩ := (Fits.int Tryd.underlying3) n _ z1.1 z1.2 e1
  replace q1 := (Qint.mono .i64) _ _ _ (hb z1 (List.mem_of_getElem? hz1)) q1
  have e2 := hall 2 _ rfl
  obtain ⟨z2, hz2⟩ : ∃ z, xs[2]? = some z := ⟨xs[2]'(by omega), List.getElem?_eq_getElem (by omega)⟩
  rw [hz2] at e2
  have c2 : Tryd.prog.cellsOf 3 = 1 := by kernel_rfl
  replace e2 : DataW.trod enc Tryd.prog W 0 (fun _ => true) true n 3 ((cs.drop 2).take 1) = some z2 := by rw [← c2]; exact e2
  obtain ⟨a2, K2, q2⟩ := (Fits.int Tryd.underlying3) n _ z2.1 z2.2 e2
  replace q2 := (Qint.mono .i64) _ _ _ (hb z2 (List.mem_of_getElem? hz2)) q2
  refine ⟨⟨a0, a1, a2⟩, ?_, ⟨q0, q1, q2⟩⟩
  rw [show cs = cs.drop 0 from rfl]
  exact ⟨(cs.drop 0).take 1, cs.drop 1, by rw [← List.drop_drop (i := 1) (j := 0), List.take_append_drop], K0, ⟨(cs.drop 1).take 1, cs.drop 2, by rw [← List.drop_drop (i := 1) (j := 1), List.take_append_drop], K1, (by rw [show cs.drop 2 = (cs.drop 2).take 1 from (List.take_of_length_le (by rw [List.length_drop]; omega)).symm]; exact K2)⟩⟩
def QS62 (b : Nat) (a : S62) : Prop := (Qint .i64) b a.f0 ∧ (Qint .i64) b a.f1 ∧ (Qint .i64) b a.f2 ∧ (Qint .i64) b a.f3
theorem QS62.mono : ∀ b b' a, b ≤ b' → QS62 b a → QS62 b' a := fun b b' a h hq => ⟨(Qint.mono .i64) b b' a.f0 h hq.1, (Qint.mono .i64) b b' a.f1 h hq.2.1, (Qint.mono .i64) b b' a.f2 h hq.2.2.1, (Qint.mono .i64) b b' a.f3 h hq.2.2.2⟩
theorem fits62 {H : Type} (enc : TypeId × Value → H) (W : World) : Fits enc Tryd.prog W 62 k62 QS62 := by
  intro fuel cs x p h
  obtain ⟨xs, n, rfl, hx, hlen, hxl, hall⟩ := DataW.trod_struct Tryd.underlying62 h
  have hx1 := (Prod.mk.inj hx).1
  have hb : ∀ z ∈ xs, Rows.uptoBulk z.1 ≤ Rows.uptoBulk x := by
    intro z hz
    rw [hx1]
    simp only [Rows.uptoBulk]
    have := bulk_part_le (List.mem_map_of_mem (f := (·.1)) hz)
    omega
  have hl : cs.length = 4 := hlen.trans (by kernel_rfl)
  have hxl' : xs.length = 4 := hxl
  have e0 := hall 0 _ rfl
  obtain ⟨z0, hz0⟩ : ∃ z, xs[0]? = some z := ⟨xs[0]'(by omega), List.getElem?_eq_getElem (by omega)⟩
  rw [hz0] at e0
  have c0 : Tryd.prog.cellsOf 3 = 1 := by kernel_rfl
  replace e0 : DataW.trod enc Tryd.prog W 0 (fun _ => true) true n 3 ((cs.drop 0).take 1) = some z0 := by rw [← c0]; exact e0
  obtain ⟨a0, K0, q0⟩ := (Fits.int Tryd.underlying3) n _ z0.1 z0.2 e0
  replace q0 := (Qint.mono .i64) _ _ _ (hb z0 (List.mem_of_getElem? hz0)) q0
  have e1 := hall 1 _ rfl
  obtain ⟨z1, hz1⟩ : ∃ z, xs[1]? = some z := ⟨xs[1]'(by omega), List.getElem?_eq_getElem (by omega)⟩
  rw [hz1] at e1
  have c1 : Tryd.prog.cellsOf 3 = 1 := by kernel_rfl
  replace e1 : DataW.trod enc Tryd.prog W 0 (fun _ => true) true n 3 ((cs.drop 1).take 1) = some z1 := by rw [← c1]; exact e1
  obtain ⟨a1, K1, q1⟩ := (Fits.int Tryd.underlying3) n _ z1.1 z1.2 e1
  replace q1 := (Qint.mono .i64) _ _ _ (hb z1 (List.mem_of_getElem? hz1)) q1
  have e2 := hall 2 _ rfl
  obtain ⟨z2, hz2⟩ : ∃ z, xs[2]? = some z := ⟨xs[2]'(by omega), List.getElem?_eq_getElem (by omega)⟩
  rw [hz2] at e2
  have c2 : Tryd.prog.cellsOf 3 = 1 := by kernel_rfl
  replace e2 : DataW.trod enc Tryd.prog W 0 (fun _ => true) true n 3 ((cs.drop 2).take 1) = some z2 := by rw [← c2]; exact e2
  obtain ⟨a2, K2, q2⟩ := (Fits.int Tryd.underlying3) n _ z2.1 z2.2 e2
  replace q2 := (Qint.mono .i64) _ _ _ (hb z2 (List.mem_of_getElem? hz2)) q2
  have e3 := hall 3 _ rfl
  obtain ⟨z3, hz3⟩ : ∃ z, xs[3]? = some z := ⟨xs[3]'(by omega), List.getElem?_eq_getElem (by omega)⟩
  rw [hz3] at e3
  have c3 : Tryd.prog.cellsOf 3 = 1 := by kernel_rfl
  replace e3 : DataW.trod enc Tryd.prog W 0 (fun _ => true) true n 3 ((cs.drop 3).take 1) = some z3 := by rw [← c3]; exact e3
  obtain ⟨a3, K3, q3⟩ := (Fits.int Tryd.underlying3) n _ z3.1 z3.2 e3
  replace q3 := (Qint.mono .i64) _ _ _ (hb z3 (List.mem_of_getElem? hz3)) q3
  refine ⟨⟨a0, a1, a2, a3⟩, ?_, ⟨q0, q1, q2, q3⟩⟩
  rw [show cs = cs.drop 0 from rfl]
  exact ⟨(cs.drop 0).take 1, cs.drop 1, by rw [← List.drop_drop (i := 1) (j := 0), List.take_append_drop], K0, ⟨(cs.drop 1).take 1, cs.drop 2, by rw [← List.drop_drop (i := 1) (j := 1), List.take_append_drop], K1, ⟨(cs.drop 2).take 1, cs.drop 3, by rw [← List.drop_drop (i := 1) (j := 2), List.take_append_drop], K2, (by rw [show cs.drop 3 = (cs.drop 3).take 1 from (List.take_of_length_le (by rw [List.length_drop]; omega)).symm]; exact K3)⟩⟩⟩
def QS37 (b : Nat) (a : S37) : Prop := (Qint .i64) b a.f0 ∧ (Qint .i64) b a.f1 ∧ (Qint .i64) b a.f2 ∧ (Qint .i64) b a.f3 ∧ (Qint .i64) b a.f4 ∧ (QAll (Qint .u8)) b a.f5 ∧ (QAll QS62) b a.f6 ∧ (QAll (Qint .u8)) b a.f7
theorem QS37.mono : ∀ b b' a, b ≤ b' → QS37 b a → QS37 b' a := fun b b' a h hq => ⟨(Qint.mono .i64) b b' a.f0 h hq.1, (Qint.mono .i64) b b' a.f1 h hq.2.1, (Qint.mono .i64) b b' a.f2 h hq.2.2.1, (Qint.mono .i64) b b' a.f3 h hq.2.2.2.1, (Qint.mono .i64) b b' a.f4 h hq.2.2.2.2.1, (QAll.mono (Qint.mono .u8)) b b' a.f5 h hq.2.2.2.2.2.1, (QAll.mono QS62.mono) b b' a.f6 h hq.2.2.2.2.2.2.1, (QAll.mono (Qint.mono .u8)) b b' a.f7 h hq.2.2.2.2.2.2.2⟩
theorem fits37 {H : Type} (enc : TypeId × Value → H) (W : World) : Fits enc Tryd.prog W 37 k37 QS37 := by
  intro fuel cs x p h
  obtain ⟨xs, n, rfl, hx, hlen, hxl, hall⟩ := DataW.trod_struct Tryd.underlying37 h
  have hx1 := (Prod.mk.inj hx).1
  have hb : ∀ z ∈ xs, Rows.uptoBulk z.1 ≤ Rows.uptoBulk x := by
    intro z hz
    rw [hx1]
    simp only [Rows.uptoBulk]
    have := bulk_part_le (List.mem_map_of_mem (f := (·.1)) hz)
    omega
  have hl : cs.length = 8 := hlen.trans (by kernel_rfl)
  have hxl' : xs.length = 8 := hxl
  have e0 := hall 0 _ rfl
  obtain ⟨z0, hz0⟩ : ∃ z, xs[0]? = some z := ⟨xs[0]'(by omega), List.getElem?_eq_getElem (by omega)⟩
  rw [hz0] at e0
  have c0 : Tryd.prog.cellsOf 3 = 1 := by kernel_rfl
  replace e0 : DataW.trod enc Tryd.prog W 0 (fun _ => true) true n 3 ((cs.drop 0).take 1) = some z0 := by rw [← c0]; exact e0
  obtain ⟨a0, K0, q0⟩ := (Fits.int Tryd.underlying3) n _ z0.1 z0.2 e0
  replace q0 := (Qint.mono .i64) _ _ _ (hb z0 (List.mem_of_getElem? hz0)) q0
  have e1 := hall 1 _ rfl
  obtain ⟨z1, hz1⟩ : ∃ z, xs[1]? = some z := ⟨xs[1]'(by omega), List.getElem?_eq_getElem (by omega)⟩
  rw [hz1] at e1
  have c1 : Tryd.prog.cellsOf 3 = 1 := by kernel_rfl
  replace e1 : DataW.trod enc Tryd.prog W 0 (fun _ => true) true n 3 ((cs.drop 1).take 1) = some z1 := by rw [← c1]; exact e1
  obtain ⟨a1, K1, q1⟩ := (Fits.int Tryd.underlying3) n _ z1.1 z1.2 e1
  replace q1 := (Qint.mono .i64) _ _ _ (hb z1 (List.mem_of_getElem? hz1)) q1
  have e2 := hall 2 _ rfl
  obtain ⟨z2, hz2⟩ : ∃ z, xs[2]? = some z := ⟨xs[2]'(by omega), List.getElem?_eq_getElem (by omega)⟩
  rw [hz2] at e2
  have c2 : Tryd.prog.cellsOf 3 = 1 := by kernel_rfl
  replace e2 : DataW.trod enc Tryd.prog W 0 (fun _ => true) true n 3 ((cs.drop 2).take 1) = some z2 := by rw [← c2]; exact e2
  obtain ⟨a2, K2, q2⟩ := (Fits.int Tryd.underlying3) n _ z2.1 z2.2 e2
  replace q2 := (Qint.mono .i64) _ _ _ (hb z2 (List.mem_of_getElem? hz2)) q2
  have e3 := hall 3 _ rfl
  obtain ⟨z3, hz3⟩ : ∃ z, xs[3]? = some z := ⟨xs[3]'(by omega), List.getElem?_eq_getElem (by omega)⟩
  rw [hz3] at e3
  have c3 : Tryd.prog.cellsOf 3 = 1 := by kernel_rfl
  replace e3 : DataW.trod enc Tryd.prog W 0 (fun _ => true) true n 3 ((cs.drop 3).take 1) = some z3 := by rw [← c3]; exact e3
  obtain ⟨a3, K3, q3⟩ := (Fits.int Tryd.underlying3) n _ z3.1 z3.2 e3
  replace q3 := (Qint.mono .i64) _ _ _ (hb z3 (List.mem_of_getElem? hz3)) q3
  have e4 := hall 4 _ rfl
  obtain ⟨z4, hz4⟩ : ∃ z, xs[4]? = some z := ⟨xs[4]'(by omega), List.getElem?_eq_getElem (by omega)⟩
  rw [hz4] at e4
  have c4 : Tryd.prog.cellsOf 3 = 1 := by kernel_rfl
  replace e4 : DataW.trod enc Tryd.prog W 0 (fun _ => true) true n 3 ((cs.drop 4).take 1) = some z4 := by rw [← c4]; exact e4
  obtain ⟨a4, K4, q4⟩ := (Fits.int Tryd.underlying3) n _ z4.1 z4.2 e4
  replace q4 := (Qint.mono .i64) _ _ _ (hb z4 (List.mem_of_getElem? hz4)) q4
  have e5 := hall 5 _ rfl
  obtain ⟨z5, hz5⟩ : ∃ z, xs[5]? = some z := ⟨xs[5]'(by omega), List.getElem?_eq_getElem (by omega)⟩
  rw [hz5] at e5
  have c5 : Tryd.prog.cellsOf 34 = 1 := by kernel_rfl
  replace e5 : DataW.trod enc Tryd.prog W 0 (fun _ => true) true n 34 ((cs.drop 5).take 1) = some z5 := by rw [← c5]; exact e5
  obtain ⟨a5, K5, q5⟩ := (Fits.slice (Qint.mono .u8) Tryd.underlying34 (by kernel_rfl) (Fits.int Tryd.underlying5)) n _ z5.1 z5.2 e5
  replace q5 := (QAll.mono (Qint.mono .u8)) _ _ _ (hb z5 (List.mem_of_getElem? hz5)) q5
  have e6 := hall 6 _ rfl
  obtain ⟨z6, hz6⟩ : ∃ z, xs[6]? = some z := ⟨xs[6]'(by omega), List.getElem?_eq_getElem (by omega)⟩
  rw [hz6] at e6
  have c6 : Tryd.prog.cellsOf 35 = 1 := by kernel_rfl
  replace e6 : DataW.trod enc Tryd.prog W 0 (fun _ => true) true n 35 ((cs.drop 6).take 1) = some z6 := by rw [← c6]; exact e6
  obtain ⟨a6, K6, q6⟩ := (Fits.slice QS62.mono Tryd.underlying35 (by kernel_rfl) (fits62 enc W)) n _ z6.1 z6.2 e6
  replace q6 := (QAll.mono QS62.mono) _ _ _ (hb z6 (List.mem_of_getElem? hz6)) q6
  have e7 := hall 7 _ rfl
  obtain ⟨z7, hz7⟩ : ∃ z, xs[7]? = some z := ⟨xs[7]'(by omega), List.getElem?_eq_getElem (by omega)⟩
  rw [hz7] at e7
  have c7 : Tryd.prog.cellsOf 34 = 1 := by kernel_rfl
  replace e7 : DataW.trod enc Tryd.prog W 0 (fun _ => true) true n 34 ((cs.drop 7).take 1) = some z7 := by rw [← c7]; exact e7
  obtain ⟨a7, K7, q7⟩ := (Fits.slice (Qint.mono .u8) Tryd.underlying34 (by kernel_rfl) (Fits.int Tryd.underlying5)) n _ z7.1 z7.2 e7
  replace q7 := (QAll.mono (Qint.mono .u8)) _ _ _ (hb z7 (List.mem_of_getElem? hz7)) q7
  refine ⟨⟨a0, a1, a2, a3, a4, a5, a6, a7⟩, ?_, ⟨q0, q1, q2, q3, q4, q5, q6, q7⟩⟩
  rw [show cs = cs.drop 0 from rfl]
  exact ⟨(cs.drop 0).take 1, cs.drop 1, by rw [← List.drop_drop (i := 1) (j := 0), List.take_append_drop], K0, ⟨(cs.drop 1).take 1, cs.drop 2, by rw [← List.drop_drop (i := 1) (j := 1), List.take_append_drop], K1, ⟨(cs.drop 2).take 1, cs.drop 3, by rw [← List.drop_drop (i := 1) (j := 2), List.take_append_drop], K2, ⟨(cs.drop 3).take 1, cs.drop 4, by rw [← List.drop_drop (i := 1) (j := 3), List.take_append_drop], K3, ⟨(cs.drop 4).take 1, cs.drop 5, by rw [← List.drop_drop (i := 1) (j := 4), List.take_append_drop], K4, ⟨(cs.drop 5).take 1, cs.drop 6, by rw [← List.drop_drop (i := 1) (j := 5), List.take_append_drop], K5, ⟨(cs.drop 6).take 1, cs.drop 7, by rw [← List.drop_drop (i := 1) (j := 6), List.take_append_drop], K6, (by rw [show cs.drop 7 = (cs.drop 7).take 1 from (List.take_of_length_le (by rw [List.length_drop]; omega)).symm]; exact K7)⟩⟩⟩⟩⟩⟩⟩
theorem open26 {H : Type} (enc : TypeId × Value → H) (W : World) (fuel : Nat) (cs : List Value) (x : DataW H) (p : List MemPlace) (h : DataW.trod enc Tryd.prog W 0 (fun _ => true) true fuel 26 cs = some (x, p)) (b : Nat) (hbb : Rows.uptoBulk x ≤ b) : ∃ (A0 : Option Addr) (c0 : Nat) (a0 : List S51) (a1 : Int) (a2 : Int) (A3 : Option Addr) (c3 : Nat) (a3 : List S42) (A4 : Option Addr) (c4 : Nat) (a4 : List S37), cs = [.slice A0 a0.length c0, .int .i64 a1, .int .i64 a2, .slice A3 a3.length c3, .slice A4 a4.length c4] ∧ (k51.C W A0 a0.length a0) ∧ (a0.length ≤ c0) ∧ (k42.C W A3 a3.length a3) ∧ (a3.length ≤ c3) ∧ (k37.C W A4 a4.length a4) ∧ (a4.length ≤ c4) ∧ ((QAll QS51) b a0) ∧ ((Qint .i64) b a1) ∧ ((Qint .i64) b a2) ∧ ((QAll QS42) b a3) ∧ ((QAll QS37) b a4) := by
  obtain ⟨xs, n, rfl, hx, hlen, hxl, hall⟩ := DataW.trod_struct Tryd.underlying26 h
  have hx1 := (Prod.mk.inj hx).1
  have hb : ∀ z ∈ xs, Rows.uptoBulk z.1 ≤ Rows.uptoBulk x := by
    intro z hz
    rw [hx1]
    simp only [Rows.uptoBulk]
    have := bulk_part_le (List.mem_map_of_mem (f := (·.1)) hz)
    omega
  have hl : cs.length = 5 := hlen.trans (by kernel_rfl)
  have hxl' : xs.length = 5 := hxl
  obtain ⟨y0, y1, y2, y3, y4, rfl⟩ : ∃ y0 y1 y2 y3 y4, cs = [y0, y1, y2, y3, y4] := by
    match cs, hl with
    | [y0, y1, y2, y3, y4], _ => exact ⟨y0, y1, y2, y3, y4, rfl⟩
  have e0 := hall 0 _ rfl
  obtain ⟨z0, hz0⟩ : ∃ z, xs[0]? = some z := ⟨xs[0]'(by omega), List.getElem?_eq_getElem (by omega)⟩
  rw [hz0] at e0
  have k0 : Tryd.prog.cellsOf 22 = 1 := by kernel_rfl
  replace e0 : DataW.trod enc Tryd.prog W 0 (fun _ => true) true n 22 [y0] = some z0 := by first | exact e0 | (rw [k0] at e0; exact e0)
  obtain ⟨a0, ⟨A0, c0, hc0, hp0, hr0⟩, q0⟩ := (Fits.slice QS51.mono Tryd.underlying22 (by kernel_rfl) (fits51 enc W)) n _ z0.1 z0.2 e0
  replace q0 := (QAll.mono QS51.mono) _ b _ (Nat.le_trans (hb z0 (List.mem_of_getElem? hz0)) hbb) q0
  obtain rfl : y0 = _ := List.head_eq_of_cons_eq hc0
  have e1 := hall 1 _ rfl
  obtain ⟨z1, hz1⟩ : ∃ z, xs[1]? = some z := ⟨xs[1]'(by omega), List.getElem?_eq_getElem (by omega)⟩
  rw [hz1] at e1
  have k1 : Tryd.prog.cellsOf 3 = 1 := by kernel_rfl
  replace e1 : DataW.trod enc Tryd.prog W 0 (fun _ => true) true n 3 [y1] = some z1 := by first | exact e1 | (rw [k1] at e1; exact e1)
  obtain ⟨a1, hc1, q1⟩ := (Fits.int Tryd.underlying3) n _ z1.1 z1.2 e1
  replace q1 := (Qint.mono .i64) _ b _ (Nat.le_trans (hb z1 (List.mem_of_getElem? hz1)) hbb) q1
  obtain rfl : y1 = _ := List.head_eq_of_cons_eq hc1
  have e2 := hall 2 _ rfl
  obtain ⟨z2, hz2⟩ : ∃ z, xs[2]? = some z := ⟨xs[2]'(by omega), List.getElem?_eq_getElem (by omega)⟩
  rw [hz2] at e2
  have k2 : Tryd.prog.cellsOf 3 = 1 := by kernel_rfl
  replace e2 : DataW.trod enc Tryd.prog W 0 (fun _ => true) true n 3 [y2] = some z2 := by first | exact e2 | (rw [k2] at e2; exact e2)
  obtain ⟨a2, hc2, q2⟩ := (Fits.int Tryd.underlying3) n _ z2.1 z2.2 e2
  replace q2 := (Qint.mono .i64) _ b _ (Nat.le_trans (hb z2 (List.mem_of_getElem? hz2)) hbb) q2
  obtain rfl : y2 = _ := List.head_eq_of_cons_eq hc2
  have e3 := hall 3 _ rfl
  obtain ⟨z3, hz3⟩ : ∃ z, xs[3]? = some z := ⟨xs[3]'(by omega), List.getElem?_eq_getElem (by omega)⟩
  rw [hz3] at e3
  have k3 : Tryd.prog.cellsOf 23 = 1 := by kernel_rfl
  replace e3 : DataW.trod enc Tryd.prog W 0 (fun _ => true) true n 23 [y3] = some z3 := by first | exact e3 | (rw [k3] at e3; exact e3)
  obtain ⟨a3, ⟨A3, c3, hc3, hp3, hr3⟩, q3⟩ := (Fits.slice QS42.mono Tryd.underlying23 (by kernel_rfl) (fits42 enc W)) n _ z3.1 z3.2 e3
  replace q3 := (QAll.mono QS42.mono) _ b _ (Nat.le_trans (hb z3 (List.mem_of_getElem? hz3)) hbb) q3
  obtain rfl : y3 = _ := List.head_eq_of_cons_eq hc3
  have e4 := hall 4 _ rfl
  obtain ⟨z4, hz4⟩ : ∃ z, xs[4]? = some z := ⟨xs[4]'(by omega), List.getElem?_eq_getElem (by omega)⟩
  rw [hz4] at e4
  have k4 : Tryd.prog.cellsOf 24 = 1 := by kernel_rfl
  replace e4 : DataW.trod enc Tryd.prog W 0 (fun _ => true) true n 24 [y4] = some z4 := by first | exact e4 | (rw [k4] at e4; exact e4)
  obtain ⟨a4, ⟨A4, c4, hc4, hp4, hr4⟩, q4⟩ := (Fits.slice QS37.mono Tryd.underlying24 (by kernel_rfl) (fits37 enc W)) n _ z4.1 z4.2 e4
  replace q4 := (QAll.mono QS37.mono) _ b _ (Nat.le_trans (hb z4 (List.mem_of_getElem? hz4)) hbb) q4
  obtain rfl : y4 = _ := List.head_eq_of_cons_eq hc4
  exact ⟨A0, c0, a0, a1, a2, A3, c3, a3, A4, c4, a4, rfl, hr0, hp0, hr3, hp3, hr4, hp4, q0, q1, q2, q3, q4⟩
end Go.Proofs.YtiolgmklpldpcaaDoor.Px
