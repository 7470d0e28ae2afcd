/- What the struct types' readings give (by rowgen.py). -/
import Derived.Test.YtglnhkgodgjepaaDoorFits
namespace Go.Proofs.YtglnhkgodgjepaaDoor.Px
open Go.RowKit Go.ChangeShapes Go.WideShapes Go.ChangeAt Go.Proofs.YtglnhkgodgjepaaDoorW.PrintWords Go.Proofs.YtglnhkgodgjepaaDoorW.PrintLast Go.Proofs.YtglnhkgodgjepaaDoorW.PrintMore
set_option linter.unusedVariables false
set_option maxRecDepth 100000
def QS33 (b : Nat) (a : S33) : Prop := (Qint .i64) b a.f0 ∧ Qstr b a.f1 ∧ (Qint .i64) b a.f2 ∧ (Qint .i64) b a.f3 ∧ (Qint .i64) b a.f4
theorem QS33.mono : ∀ b b' a, b ≤ b' → QS33 b a → QS33 b' a := fun b b' a h hq => ⟨(Qint.mono .i64) b b' a.f0 h hq.1, Qstr.mono b b' a.f1 h hq.2.1, (Qint.mono .i64) b b' a.f2 h hq.2.2.1, (Qint.mono .i64) b b' a.f3 h hq.2.2.2.1, (Qint.mono .i64) b b' a.f4 h hq.2.2.2.2⟩
theorem fits33 {H : Type} (enc : TypeId × Value → H) (W : World) : Fits enc Tryd.prog W 33 k33 QS33 := by
  intro fuel cs x p h
  obtain ⟨xs, n, rfl, hx, hlen, hxl, hall⟩ := DataW.trod_struct Tryd.underlying33 h
  have hx1 := (Prod.mk.inj hx).1
  have hb : ∀ z ∈ xs, Rows.uptoBulk z.1 ≤ Rows.uptoBulk x := by
    intro z hz
    rw [hx1]
    simp only [Rows.uptoBulk]
    have := bulk_part_le (List.mem_map_of_mem (f := (·.1)) hz)
    omega
  have hl : cs.length = 5 := hlen.trans (by kernel_rfl)
  have hxl' : xs.length = 5 := hxl
  have e0 := hall 0 _ rfl
  obtain ⟨z0, hz0⟩ : ∃ z, xs[0]? = some z := ⟨xs[0]'(by omega), List.getElem?_eq_getElem (by omega)⟩
  rw [hz0] at e0
  have c0 : Tryd.prog.cellsOf 3 = 1 := by kernel_rfl
  replace e0 : DataW.trod enc Tryd.prog W 0 (fun _ => true) true n 3 ((cs.drop 0).take 1) = some z0 := by rw [← c0]; exact e0
  obtain ⟨a0, K0, q0⟩ := (Fits.int Tryd.underlying3) n _ z0.1 z0.2 e0
  replace q0 := (Qint.mono .i64) _ _ _ (hb z0 (List.mem_of_getElem? hz0)) q0
  have e1 := hall 1 _ rfl
  obtain ⟨z1, hz1⟩ : ∃ z, xs[1]? = some z := ⟨xs[1]'(by omega), List.getElem?_eq_getElem (by omega)⟩
  rw [hz1] at e1
  have c1 : Tryd.prog.cellsOf 9 = 1 := by kernel_rfl
  replace e1 : DataW.trod enc Tryd.prog W 0 (fun _ => true) true n 9 ((cs.drop 1).take 1) = some z1 := by rw [← c1]; exact e1
  obtain ⟨a1, K1, q1⟩ := (Fits.string Tryd.underlying9) n _ z1.1 z1.2 e1
  replace q1 := Qstr.mono _ _ _ (hb z1 (List.mem_of_getElem? hz1)) q1
  have e2 := hall 2 _ rfl
  obtain ⟨z2, hz2⟩ : ∃ z, xs[2]? = some z := ⟨xs[2]'(by omega), List.getElem?_eq_getElem (by omega)⟩
  rw [hz2] at e2
  have c2 : Tryd.prog.cellsOf 2 = 1 := by kernel_rfl
  replace e2 : DataW.trod enc Tryd.prog W 0 (fun _ => true) true n 2 ((cs.drop 2).take 1) = some z2 := by rw [← c2]; exact e2
  obtain ⟨a2, K2, q2⟩ := (Fits.int Tryd.underlying2) n _ z2.1 z2.2 e2
  replace q2 := (Qint.mono .i64) _ _ _ (hb z2 (List.mem_of_getElem? hz2)) q2
  have e3 := hall 3 _ rfl
  obtain ⟨z3, hz3⟩ : ∃ z, xs[3]? = some z := ⟨xs[3]'(by omega), List.getElem?_eq_getElem (by omega)⟩
  rw [hz3] at e3
  have c3 : Tryd.prog.cellsOf 3 = 1 := by kernel_rfl
  replace e3 : DataW.trod enc Tryd.prog W 0 (fun _ => true) true n 3 ((cs.drop 3).take 1) = some z3 := by rw [← c3]; exact e3
  obtain ⟨a3, K3, q3⟩ := (Fits.int Tryd.underlying3) n _ z3.1 z3.2 e3
  replace q3 := (Qint.mono .i64) _ _ _ (hb z3 (List.mem_of_getElem? hz3)) q3
  have e4 := hall 4 _ rfl
  obtain ⟨z4, hz4⟩ : ∃ z, xs[4]? = some z := ⟨xs[4]'(by omega), List.getElem?_eq_getElem (by omega)⟩
  rw [hz4] at e4
  have c4 : Tryd.prog.cellsOf 3 = 1 := by kernel_rfl
  replace e4 : DataW.trod enc Tryd.prog W 0 (fun _ => true) true n 3 ((cs.drop 4).take 1) = some z4 := by rw [← c4]; exact e4
  obtain ⟨a4, K4, q4⟩ := (Fits.int Tryd.underlying3) n _ z4.1 z4.2 e4
  replace q4 := (Qint.mono .i64) _ _ _ (hb z4 (List.mem_of_getElem? hz4)) q4
  refine ⟨⟨a0, a1, a2, a3, a4⟩, ?_, ⟨q0, q1, q2, q3, q4⟩⟩
  rw [show cs = cs.drop 0 from rfl]
  exact ⟨(cs.drop 0).take 1, cs.drop 1, by rw [← List.drop_drop (i := 1) (j := 0), List.take_append_drop], K0, ⟨(cs.drop 1).take 1, cs.drop 2, by rw [← List.drop_drop (i := 1) (j := 1), List.take_append_drop], K1, ⟨(cs.drop 2).take 1, cs.drop 3, by rw [← List.drop_drop (i := 1) (j := 2), List.take_append_drop], K2, ⟨(cs.drop 3).take 1, cs.drop 4, by rw [← List.drop_drop (i := 1) (j := 3), List.take_append_drop], K3, (by rw [show cs.drop 4 = (cs.drop 4).take 1 from (List.take_of_length_le (by rw [List.length_drop]; omega)).symm]; exact K4)⟩⟩⟩⟩
end Go.Proofs.YtglnhkgodgjepaaDoor.Px
