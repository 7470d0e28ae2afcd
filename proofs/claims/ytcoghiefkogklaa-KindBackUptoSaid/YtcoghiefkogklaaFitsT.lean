/- What the struct types' readings give (by rowgen.py). -/
import Derived.Test.YtcoghiefkogklaaFits
namespace Go.Proofs.Ytcoghiefkogklaa.Px
open Go.RowKit Go.ChangeShapes Go.WideShapes Go.ChangeAt Go.Proofs.YtcoghiefkogklaaW.PrintWords Go.Proofs.YtcoghiefkogklaaW.PrintLast Go.Proofs.YtcoghiefkogklaaW.PrintMore
set_option linter.unusedVariables false
set_option maxRecDepth 100000
theorem open23 {H : Type} (enc : TypeId × Value → H) (W : World) (fuel : Nat) (cs : List Value) (x : DataW H) (p : List MemPlace) (h : DataW.trod enc Try.prog W 0 (fun _ => true) true fuel 23 cs = some (x, p)) (b : Nat) (hbb : Rows.uptoBulk x ≤ b) : ∃ (a0 : Int) (a1 : ByteArray) (a2 : Int) (a3 : Int) (a4 : Int), cs = [.int .i64 a0, .string a1, .int .i64 a2, .int .i64 a3, .int .i64 a4] ∧ ((Qint .i64) b a0) ∧ (Qstr b a1) ∧ ((Qint .i64) b a2) ∧ ((Qint .i64) b a3) ∧ ((Qint .i64) b a4) := by
  obtain ⟨xs, n, rfl, hx, hlen, hxl, hall⟩ := DataW.trod_struct Try.underlying23 h
  have hx1 := (Prod.mk.inj hx).1
  have hb : ∀ z ∈ xs, Rows.uptoBulk z.1 ≤ Rows.uptoBulk x := by
    intro z hz
    rw [hx1]
    simp only [Rows.uptoBulk]
    have := bulk_part_le (List.mem_map_of_mem (f := (·.1)) hz)
    omega
  have hl : cs.length = 5 := hlen.trans (by kernel_rfl)
  have hxl' : xs.length = 5 := hxl
  obtain ⟨y0, y1, y2, y3, y4, rfl⟩ : ∃ y0 y1 y2 y3 y4, cs = [y0, y1, y2, y3, y4] := by
    match cs, hl with
    | [y0, y1, y2, y3, y4], _ => exact ⟨y0, y1, y2, y3, y4, rfl⟩
  have e0 := hall 0 _ rfl
  obtain ⟨z0, hz0⟩ : ∃ z, xs[0]? = some z := ⟨xs[0]'(by omega), List.getElem?_eq_getElem (by omega)⟩
  rw [hz0] at e0
  have k0 : Try.prog.cellsOf 3 = 1 := by kernel_rfl
  replace e0 : DataW.trod enc Try.prog W 0 (fun _ => true) true n 3 [y0] = some z0 := by first | exact e0 | (rw [k0] at e0; exact e0)
  obtain ⟨a0, hc0, q0⟩ := (Fits.int Try.underlying3) n _ z0.1 z0.2 e0
  replace q0 := (Qint.mono .i64) _ b _ (Nat.le_trans (hb z0 (List.mem_of_getElem? hz0)) hbb) q0
  obtain rfl : y0 = _ := List.head_eq_of_cons_eq hc0
  have e1 := hall 1 _ rfl
  obtain ⟨z1, hz1⟩ : ∃ z, xs[1]? = some z := ⟨xs[1]'(by omega), List.getElem?_eq_getElem (by omega)⟩
  rw [hz1] at e1
  have k1 : Try.prog.cellsOf 9 = 1 := by kernel_rfl
  replace e1 : DataW.trod enc Try.prog W 0 (fun _ => true) true n 9 [y1] = some z1 := by first | exact e1 | (rw [k1] at e1; exact e1)
  obtain ⟨a1, hc1, q1⟩ := (Fits.string Try.underlying9) n _ z1.1 z1.2 e1
  replace q1 := Qstr.mono _ b _ (Nat.le_trans (hb z1 (List.mem_of_getElem? hz1)) hbb) q1
  obtain rfl : y1 = _ := List.head_eq_of_cons_eq hc1
  have e2 := hall 2 _ rfl
  obtain ⟨z2, hz2⟩ : ∃ z, xs[2]? = some z := ⟨xs[2]'(by omega), List.getElem?_eq_getElem (by omega)⟩
  rw [hz2] at e2
  have k2 : Try.prog.cellsOf 3 = 1 := by kernel_rfl
  replace e2 : DataW.trod enc Try.prog W 0 (fun _ => true) true n 3 [y2] = some z2 := by first | exact e2 | (rw [k2] at e2; exact e2)
  obtain ⟨a2, hc2, q2⟩ := (Fits.int Try.underlying3) n _ z2.1 z2.2 e2
  replace q2 := (Qint.mono .i64) _ b _ (Nat.le_trans (hb z2 (List.mem_of_getElem? hz2)) hbb) q2
  obtain rfl : y2 = _ := List.head_eq_of_cons_eq hc2
  have e3 := hall 3 _ rfl
  obtain ⟨z3, hz3⟩ : ∃ z, xs[3]? = some z := ⟨xs[3]'(by omega), List.getElem?_eq_getElem (by omega)⟩
  rw [hz3] at e3
  have k3 : Try.prog.cellsOf 3 = 1 := by kernel_rfl
  replace e3 : DataW.trod enc Try.prog W 0 (fun _ => true) true n 3 [y3] = some z3 := by first | exact e3 | (rw [k3] at e3; exact e3)
  obtain ⟨a3, hc3, q3⟩ := (Fits.int Try.underlying3) n _ z3.1 z3.2 e3
  replace q3 := (Qint.mono .i64) _ b _ (Nat.le_trans (hb z3 (List.mem_of_getElem? hz3)) hbb) q3
  obtain rfl : y3 = _ := List.head_eq_of_cons_eq hc3
  have e4 := hall 4 _ rfl
  obtain ⟨z4, hz4⟩ : ∃ z, xs[4]? = some z := ⟨xs[4]'(by omega), List.getElem?_eq_getElem (by omega)⟩
  rw [hz4] at e4
  have k4 : Try.prog.cellsOf 3 = 1 := by kernel_rfl
  replace e4 : DataW.trod enc Try.prog W 0 (fun _ => true) true n 3 [y4] = some z4 := by first | exact e4 | (rw [k4] at e4; exact e4)
  obtain ⟨a4, hc4, q4⟩ := (Fits.int Try.underlying3) n _ z4.1 z4.2 e4
  replace q4 := (Qint.mono .i64) _ b _ (Nat.le_trans (hb z4 (List.mem_of_getElem? hz4)) hbb) q4
  obtain rfl : y4 = _ := List.head_eq_of_cons_eq hc4
  exact ⟨a0, a1, a2, a3, a4, rfl, q0, q1, q2, q3, q4⟩
end Go.Proofs.Ytcoghiefkogklaa.Px
