/- strings.Repeat at "[" and 1 to 4: the builder lies where it was made; WriteString by copyCheck's own walk (after the shelf's). -/
import Derived.Test.YtcoghiefkogklaaPx0
import Derived.Test.YtcoghiefkogklaaShelf
import Derived.Shelf.Strings.BuilderF
import Derived.Lib.FrozenHead
import Derived.Lib.Builder
namespace Go.Proofs.Ytcoghiefkogklaa.Px
open Go.RowKit Go.Proofs.YtcoghiefkogklaaW.PrintWords Go.Proofs.YtcoghiefkogklaaW.PrintLast Go.Proofs.YtcoghiefkogklaaW.PrintMore
attribute [local go_sem] max2_int min2_int max_two min_two max_three min_three
set_option linter.unusedVariables false
set_option linter.unusedSimpArgs false

theorem B_size : (Try.prog.info? 48).map (·.size) = some 2 := by kernel_rfl
theorem B_lies : liesAt Try.prog Try.prog.depth 48 (2 / Try.prog.cellsOf 48) 0 48 1 = true := by kernel_rfl
set_option maxRecDepth 100000 in
theorem copyCheck_used (b : Nat) (w : World) (h0 : w.cell? ⟨b, 0, none⟩ = some (.pointer (some ⟨b, 0, none⟩))) :
    Calls Try.prog 23 #[.pointer (some ⟨b, 0, none⟩)] w fun e w' => e = .returned (.tuple #[]) ∧ w' = w := by
  obtain ⟨j, hj, _⟩ := Option.map_eq_some_iff.1 B_size
  have u1 := Try.underlying45
  go_enter Try.func23, Try.ntmps23
  go_wp2
  rw [Lib.run_neq_ptr_same w _ Try.underlying45 hj]
  go_wp2
  go_end0
  exact ⟨rfl, rfl⟩

set_option maxRecDepth 100000 in
theorem copyCheck_fresh (b : Nat) (w : World) (h0 : w.cell? ⟨b, 0, none⟩ = some (.pointer none)) (hsh : w.shape? b = some (48, 2)) (hfz : w.frozen? ⟨b, 0, none⟩ = false) :
    Calls Try.prog 23 #[.pointer (some ⟨b, 0, none⟩)] w fun e w' => e = .returned (.tuple #[]) ∧ w' = w.setCell ⟨b, 0, none⟩ (.pointer (some ⟨b, 0, none⟩)) := by
  obtain ⟨j, hj, hjs⟩ := Option.map_eq_some_iff.1 B_size
  have u1 := Try.underlying45
  have u2 := Try.underlying63
  go_enter Try.func23, Try.ntmps23
  go_wp2
  rw [Lib.run_to_unsafe w ⟨b, 0, none⟩ Try.underlying45 Try.underlying63 hj (by rw [hjs]; decide) hsh (Nat.zero_lt_succ 1)]
  simp only [Result.andThen]
  rw [Oper.upon_value]
  go_wp2
  rw [run_callFunc_extern Try.func26 (by kernel_rfl) (by kernel_rfl) (by kernel_rfl) (e := Extern.AbiNoEscape.same) (by kernel_rfl)]
  rw [Lib.run_noEscape]
  simp only [Result.andThen]
  rw [Oper.upon_value]
  go_wp2
  rw [Lib.run_from_unsafe w ⟨b, 0, none⟩ Try.underlying63 Try.underlying45 hj hsh B_lies]
  simp only [Result.andThen]
  rw [Oper.upon_value]
  go_wp2
  go_end0
  exact ⟨rfl, rfl⟩
theorem copyCheckF.calls (B b : Nat) (bs : List Value) (w : World) (h : Lib.IsBuilderF 48 5 B b bs w) :
    Calls Try.prog 23 #[.pointer (some ⟨b, 0, none⟩)] w fun e w' => e = .returned (.tuple #[]) ∧ Lib.BuilderAtF 48 5 B b (.pointer (some ⟨b, 0, none⟩)) bs w' ∧ Below B w w' := by
  rcases h with h | h
  · refine (copyCheck_fresh b w h.cell0 h.shape h.frozen0).mono ?_
    rintro e w' ⟨rfl, rfl⟩
    exact ⟨rfl, h.used _, (Below.refl B w).setCell (p := ⟨b, 0, none⟩) h.1 _⟩
  · refine (copyCheck_used b w h.cell0).mono ?_
    rintro e w' ⟨rfl, rfl⟩
    exact ⟨rfl, h, Below.refl B _⟩
theorem info_u8 : (Try.prog.info? 5).map (fun i => (i.zero, i.size, i.bytes)) = some (some (.int .u8 0), 1, 1) := by kernel_rfl
set_option maxHeartbeats 4000000 in
set_option maxRecDepth 100000 in
theorem writeStr.calls (B b : Nat) (bs : List Value) (s : ByteArray) (w : World) (h : Lib.IsBuilderF 48 5 B b bs w) (hlen : bs.length + s.size ≤ 140737488355328) (hBw : B ≤ w.heap.size) :
    Calls Try.prog 16 #[.pointer (some ⟨b, 0, none⟩), .string s] w fun e w' => e = .returned (.tuple #[.int .i64 s.size, .nilIface]) ∧ (Lib.BuilderAtF 48 5 B b (.pointer (some ⟨b, 0, none⟩)) (bs ++ Lib.strCells s) w' ∧ Below B w w') := by
  obtain ⟨i0, hi, hzz⟩ := Option.map_eq_some_iff.1 info_u8
  simp only [Prod.mk.injEq] at hzz
  obtain ⟨hz0, hz1, hz2⟩ := hzz
  have u1 := Try.underlying45
  have u2 := Try.underlying46
  go_enter Try.func16, Try.ntmps16
  go_wp2_with (go_at_call 23; refine (copyCheckF.calls B b bs w h).mono ?_)
  rintro e w1 ⟨rfl, h1, hb1⟩
  obtain ⟨hB, v, hbk, hown, hne⟩ := h1
  have c0 : w1.cell? ⟨b, 0, none⟩ = some (.pointer (some ⟨b, 0, none⟩)) := by rw [Lib.cell_of_heap hbk]; rfl
  have c1 : w1.cell? ⟨b, 1, none⟩ = some v := by rw [Lib.cell_of_heap hbk]; rfl
  go_wp2_with (at_builtin; refine Lib.wpList_append_own_stringF _ rfl _ _ 46 9 rfl B 5 i0 Try.underlying46 Try.underlying9 hi hz0 hz1 hz2 _ _ _ rfl hown s rfl ?c3 ?c4 ?c5 ?_)
  case c3 => unfold maxLen; omega
  case c4 => omega
  case c5 => have := hb1.size; omega
  intro v' w2 hown' hgrow _
  have HO := Aside0.mk hown'
  have HGW := Aside0.mk hgrow
  have hb2 : w2.heap[b]? = some (.cells #[.pointer (some ⟨b, 0, none⟩), v] 48 (0, 0)) := by
    rw [hgrow.block b (blk_lt hbk) (fun e => hne e.symm)]
    exact hbk
  have d0 : w2.cell? ⟨b, 0, none⟩ = some (.pointer (some ⟨b, 0, none⟩)) := by rw [Lib.cell_of_heap hb2]; rfl
  have d1 : w2.cell? ⟨b, 1, none⟩ = some v := by rw [Lib.cell_of_heap hb2]; rfl
  have f1 : w2.frozen? ⟨b, 1, none⟩ = false := Lib.frozen_of_heap hb2 1
  obtain ⟨ao, n', cap, rfl⟩ : ∃ ao n' cap, v' = .slice ao n' cap := by
    rcases hown'.2 with ⟨hv, _⟩ | ⟨g, cap, cur, fz, hv, _⟩
    · exact ⟨_, _, _, hv⟩
    · exact ⟨_, _, _, hv⟩
  go_wp2
  go_ret2
  refine ⟨rfl, ?_, ?_⟩
  · exact Lib.BuilderAtF.put (T := 48) (e := 5) hB hb2 (bs' := bs ++ Lib.strCells s) (by simpa [Lib.strCells_length] using HO.out) (by decide)
  · exact (hb1.grown HGW.out (by have := hb1.size; omega) (fun k hk => (hown.lt k hk).1)).setCell (p := ⟨b, 1, none⟩) hB _

def strings_Repeat.f (a0 : ByteArray) (a1 : Int) : Option ByteArray :=
  if a1 = 1 then some a0 else if a0.data.toList = [91] ∧ 2 ≤ a1 ∧ a1 ≤ 4 then some ⟨(List.replicate a1.toNat 91).toArray⟩ else none
set_option maxHeartbeats 4000000 in
set_option maxRecDepth 100000 in
theorem repeat_one (a0 : ByteArray) (w : World) : Calls Try.prog 9 #[.string a0, .int .i64 1] w fun e w' => e = .returned (.string a0) ∧ w' = w := by
  go_enter Try.func9, Try.ntmps9
  go_wp2
  go_ret
  exact ⟨rfl, rfl⟩
theorem mul_one (n : Nat) (hn : n < 18446744073709551616) (w : World) : Calls Try.prog 14 #[.int .u64 1, .int .u64 n] w fun e w' => e = .returned (.tuple #[.int .u64 0, .int .u64 n]) ∧ w' = w := by
  refine (Try.bits_Mul 1 n (by omega) hn w).mono ?_
  rintro e w' ⟨rfl, rfl⟩
  refine ⟨?_, rfl⟩
  rw [Nat.one_mul, Nat.div_eq_of_lt hn, Nat.mod_eq_of_lt hn]
  rfl
set_option maxHeartbeats 8000000 in
set_option maxRecDepth 100000 in
theorem repeat_2 (w : World) : Calls Try.prog 9 #[.string (⟨#[91]⟩ : ByteArray), .int .i64 2] w fun e w' => e = .returned (.string (⟨#[91, 91]⟩ : ByteArray)) ∧ Below w.heap.size w w' := by
  have hMul : ∀ W, Calls Try.prog 14 #[.int .u64 1, .int .u64 2] W fun e w' => e = .returned (.tuple #[.int .u64 0, .int .u64 2]) ∧ w' = W := fun W => mul_one 2 (by omega) W
  have HB0 := Aside0.mk (Below.refl w.heap.size w)
  go_enter Try.func9, Try.ntmps9
  go_wp2_with (go_at_call 14; refine (hMul _).mono ?_)
  rintro e w1 ⟨rfl, hww⟩
  replace hww := hww.symm
  subst hww
  clear hMul
  go_wp2_with (first | ((with_reducible refine gate_dst (N := 9) rfl ?_); refine box_event ?hg (N := 9) ?hd (cs := #[.pointer none, .slice none 0 0]) (t := 48) ?hr ?_; (case hd => rfl); (case hg => rfl); (case hr => first | (go_simp; done) | (go_simp; rfl)); intro gb hg w1 hbox hb; have BK := Aside0.mk hbox; have GE := Aside0.mk (show w.heap.size ≤ gb from by rw [hg]; exact Nat.le_refl _); have HB1 := Aside0.mk (below_step HB0.out hb); have cG : Calls Try.prog 15 #[.pointer (some ⟨gb, 0, none⟩), .int .i64 2] w1 fun e w' => e = .returned (.tuple #[]) ∧ (Lib.BuilderAt 48 5 w.heap.size gb (.pointer (some ⟨gb, 0, none⟩)) [] w' ∧ Below w.heap.size w1 w') := Try.Builder_Grow_fresh w.heap.size gb 2 w1 GE.out BK.out HB1.out.size (by omega); clear hbox hb hg) | (go_at_call 15; refine cG.mono ?_))
  rintro e w2 ⟨rfl, h2, hb2⟩
  have HB2 := Aside0.mk (HB1.out.trans hb2)
  have H2 := Aside0.mk (show Lib.IsBuilderF 48 5 w.heap.size gb (Lib.byteCells []) w2 from Lib.IsBuilderF.of (Or.inr h2))
  clear h2 hb2 cG
  go_wp2_with (go_at_call 16; refine (writeStr.calls w.heap.size gb [] (⟨#[91]⟩ : ByteArray) _ H2.out (by decide +kernel) HB2.out.size).mono ?_)
  rintro e w3 ⟨rfl, h3, hb3⟩
  have HB3 := Aside0.mk (HB2.out.trans hb3)
  have H3 := Aside0.mk (show Lib.IsBuilderF 48 5 w.heap.size gb (Lib.byteCells [91]) w3 from Or.inr h3)
  clear h3 hb3
  go_wp2
  refine wp_loop_rounds 2 ?_
  have cL : Calls Try.prog 17 #[.pointer (some ⟨gb, 0, none⟩)] w3 fun e w' => e = .returned (.int .i64 1) ∧ w' = w3 := Try.Builder_Len_f w.heap.size gb (Lib.byteCells [91]) w3 H3.out
  have cS : Calls Try.prog 18 #[.pointer (some ⟨gb, 0, none⟩)] w3 fun e w' => e = .returned (.string (⟨#[91]⟩ : ByteArray)) ∧ (Lib.IsBuilderF 48 5 w.heap.size gb (Lib.byteCells [91]) w' ∧ Below w.heap.size w3 w') := Try.Builder_String_any_f w.heap.size gb [91] w3 H3.out HB3.out.size
  rw [rounds_succ]
  go_wp2_with (first | (go_at_call 17; refine cL.mono ?_; rintro e wL ⟨rfl, hww⟩; replace hww := hww.symm; subst hww) | (go_at_call 18; refine cS.mono ?_))
  rintro e w4 ⟨rfl, h, hb⟩
  have HB4 := Aside0.mk (HB3.out.trans hb)
  have H4 := Aside0.mk h
  clear h hb cL cS
  go_wp2_with (go_at_call 16; refine (writeStr.calls w.heap.size gb (Lib.byteCells [91]) (⟨#[91]⟩ : ByteArray) _ H4.out (by decide +kernel) HB4.out.size).mono ?_)
  rintro e w5 ⟨rfl, h, hb⟩
  have HB5 := Aside0.mk (HB4.out.trans hb)
  have H5 := Aside0.mk (show Lib.IsBuilderF 48 5 w.heap.size gb (Lib.byteCells [91, 91]) w5 from Or.inr h)
  clear h hb
  go_wp2
  have cL : Calls Try.prog 17 #[.pointer (some ⟨gb, 0, none⟩)] w5 fun e w' => e = .returned (.int .i64 2) ∧ w' = w5 := Try.Builder_Len_f w.heap.size gb (Lib.byteCells [91, 91]) w5 H5.out
  have cS : Calls Try.prog 18 #[.pointer (some ⟨gb, 0, none⟩)] w5 fun e w' => e = .returned (.string (⟨#[91, 91]⟩ : ByteArray)) ∧ (Lib.IsBuilderF 48 5 w.heap.size gb (Lib.byteCells [91, 91]) w' ∧ Below w.heap.size w5 w') := Try.Builder_String_any_f w.heap.size gb [91, 91] w5 H5.out HB5.out.size
  rw [rounds_succ]
  go_wp2_with (first | (go_at_call 17; refine cL.mono ?_; rintro e wL ⟨rfl, hww⟩; replace hww := hww.symm; subst hww) | (go_at_call 18; refine cS.mono ?_))
  rintro e w6 ⟨rfl, h, hb⟩
  have HB6 := Aside0.mk (HB5.out.trans hb)
  have H6 := Aside0.mk h
  clear h hb cL cS
  go_wp2
  go_ret
  exact ⟨rfl, HB6.out⟩
set_option maxHeartbeats 8000000 in
set_option maxRecDepth 100000 in
theorem repeat_3 (w : World) : Calls Try.prog 9 #[.string (⟨#[91]⟩ : ByteArray), .int .i64 3] w fun e w' => e = .returned (.string (⟨#[91, 91, 91]⟩ : ByteArray)) ∧ Below w.heap.size w w' := by
  have hMul : ∀ W, Calls Try.prog 14 #[.int .u64 1, .int .u64 3] W fun e w' => e = .returned (.tuple #[.int .u64 0, .int .u64 3]) ∧ w' = W := fun W => mul_one 3 (by omega) W
  have HB0 := Aside0.mk (Below.refl w.heap.size w)
  go_enter Try.func9, Try.ntmps9
  go_wp2_with (go_at_call 14; refine (hMul _).mono ?_)
  rintro e w1 ⟨rfl, hww⟩
  replace hww := hww.symm
  subst hww
  clear hMul
  go_wp2_with (first | ((with_reducible refine gate_dst (N := 9) rfl ?_); refine box_event ?hg (N := 9) ?hd (cs := #[.pointer none, .slice none 0 0]) (t := 48) ?hr ?_; (case hd => rfl); (case hg => rfl); (case hr => first | (go_simp; done) | (go_simp; rfl)); intro gb hg w1 hbox hb; have BK := Aside0.mk hbox; have GE := Aside0.mk (show w.heap.size ≤ gb from by rw [hg]; exact Nat.le_refl _); have HB1 := Aside0.mk (below_step HB0.out hb); have cG : Calls Try.prog 15 #[.pointer (some ⟨gb, 0, none⟩), .int .i64 3] w1 fun e w' => e = .returned (.tuple #[]) ∧ (Lib.BuilderAt 48 5 w.heap.size gb (.pointer (some ⟨gb, 0, none⟩)) [] w' ∧ Below w.heap.size w1 w') := Try.Builder_Grow_fresh w.heap.size gb 3 w1 GE.out BK.out HB1.out.size (by omega); clear hbox hb hg) | (go_at_call 15; refine cG.mono ?_))
  rintro e w2 ⟨rfl, h2, hb2⟩
  have HB2 := Aside0.mk (HB1.out.trans hb2)
  have H2 := Aside0.mk (show Lib.IsBuilderF 48 5 w.heap.size gb (Lib.byteCells []) w2 from Lib.IsBuilderF.of (Or.inr h2))
  clear h2 hb2 cG
  go_wp2_with (go_at_call 16; refine (writeStr.calls w.heap.size gb [] (⟨#[91]⟩ : ByteArray) _ H2.out (by decide +kernel) HB2.out.size).mono ?_)
  rintro e w3 ⟨rfl, h3, hb3⟩
  have HB3 := Aside0.mk (HB2.out.trans hb3)
  have H3 := Aside0.mk (show Lib.IsBuilderF 48 5 w.heap.size gb (Lib.byteCells [91]) w3 from Or.inr h3)
  clear h3 hb3
  go_wp2
  refine wp_loop_rounds 3 ?_
  have cL : Calls Try.prog 17 #[.pointer (some ⟨gb, 0, none⟩)] w3 fun e w' => e = .returned (.int .i64 1) ∧ w' = w3 := Try.Builder_Len_f w.heap.size gb (Lib.byteCells [91]) w3 H3.out
  have cS : Calls Try.prog 18 #[.pointer (some ⟨gb, 0, none⟩)] w3 fun e w' => e = .returned (.string (⟨#[91]⟩ : ByteArray)) ∧ (Lib.IsBuilderF 48 5 w.heap.size gb (Lib.byteCells [91]) w' ∧ Below w.heap.size w3 w') := Try.Builder_String_any_f w.heap.size gb [91] w3 H3.out HB3.out.size
  rw [rounds_succ]
  go_wp2_with (first | (go_at_call 17; refine cL.mono ?_; rintro e wL ⟨rfl, hww⟩; replace hww := hww.symm; subst hww) | (go_at_call 18; refine cS.mono ?_))
  rintro e w4 ⟨rfl, h, hb⟩
  have HB4 := Aside0.mk (HB3.out.trans hb)
  have H4 := Aside0.mk h
  clear h hb cL cS
  go_wp2_with (go_at_call 16; refine (writeStr.calls w.heap.size gb (Lib.byteCells [91]) (⟨#[91]⟩ : ByteArray) _ H4.out (by decide +kernel) HB4.out.size).mono ?_)
  rintro e w5 ⟨rfl, h, hb⟩
  have HB5 := Aside0.mk (HB4.out.trans hb)
  have H5 := Aside0.mk (show Lib.IsBuilderF 48 5 w.heap.size gb (Lib.byteCells [91, 91]) w5 from Or.inr h)
  clear h hb
  go_wp2
  have cL : Calls Try.prog 17 #[.pointer (some ⟨gb, 0, none⟩)] w5 fun e w' => e = .returned (.int .i64 2) ∧ w' = w5 := Try.Builder_Len_f w.heap.size gb (Lib.byteCells [91, 91]) w5 H5.out
  have cS : Calls Try.prog 18 #[.pointer (some ⟨gb, 0, none⟩)] w5 fun e w' => e = .returned (.string (⟨#[91, 91]⟩ : ByteArray)) ∧ (Lib.IsBuilderF 48 5 w.heap.size gb (Lib.byteCells [91, 91]) w' ∧ Below w.heap.size w5 w') := Try.Builder_String_any_f w.heap.size gb [91, 91] w5 H5.out HB5.out.size
  rw [rounds_succ]
  go_wp2_with (first | (go_at_call 17; refine cL.mono ?_; rintro e wL ⟨rfl, hww⟩; replace hww := hww.symm; subst hww) | (go_at_call 18; refine cS.mono ?_))
  rintro e w6 ⟨rfl, h, hb⟩
  have HB6 := Aside0.mk (HB5.out.trans hb)
  have H6 := Aside0.mk h
  clear h hb cL cS
  go_wp2_with (go_at_call 16; refine (writeStr.calls w.heap.size gb (Lib.byteCells [91, 91]) (⟨#[91]⟩ : ByteArray) _ H6.out (by decide +kernel) HB6.out.size).mono ?_)
  rintro e w7 ⟨rfl, h, hb⟩
  have HB7 := Aside0.mk (HB6.out.trans hb)
  have H7 := Aside0.mk (show Lib.IsBuilderF 48 5 w.heap.size gb (Lib.byteCells [91, 91, 91]) w7 from Or.inr h)
  clear h hb
  go_wp2
  have cL : Calls Try.prog 17 #[.pointer (some ⟨gb, 0, none⟩)] w7 fun e w' => e = .returned (.int .i64 3) ∧ w' = w7 := Try.Builder_Len_f w.heap.size gb (Lib.byteCells [91, 91, 91]) w7 H7.out
  have cS : Calls Try.prog 18 #[.pointer (some ⟨gb, 0, none⟩)] w7 fun e w' => e = .returned (.string (⟨#[91, 91, 91]⟩ : ByteArray)) ∧ (Lib.IsBuilderF 48 5 w.heap.size gb (Lib.byteCells [91, 91, 91]) w' ∧ Below w.heap.size w7 w') := Try.Builder_String_any_f w.heap.size gb [91, 91, 91] w7 H7.out HB7.out.size
  rw [rounds_succ]
  go_wp2_with (first | (go_at_call 17; refine cL.mono ?_; rintro e wL ⟨rfl, hww⟩; replace hww := hww.symm; subst hww) | (go_at_call 18; refine cS.mono ?_))
  rintro e w8 ⟨rfl, h, hb⟩
  have HB8 := Aside0.mk (HB7.out.trans hb)
  have H8 := Aside0.mk h
  clear h hb cL cS
  go_wp2
  go_ret
  exact ⟨rfl, HB8.out⟩
set_option maxHeartbeats 8000000 in
set_option maxRecDepth 100000 in
theorem repeat_4 (w : World) : Calls Try.prog 9 #[.string (⟨#[91]⟩ : ByteArray), .int .i64 4] w fun e w' => e = .returned (.string (⟨#[91, 91, 91, 91]⟩ : ByteArray)) ∧ Below w.heap.size w w' := by
  have hMul : ∀ W, Calls Try.prog 14 #[.int .u64 1, .int .u64 4] W fun e w' => e = .returned (.tuple #[.int .u64 0, .int .u64 4]) ∧ w' = W := fun W => mul_one 4 (by omega) W
  have HB0 := Aside0.mk (Below.refl w.heap.size w)
  go_enter Try.func9, Try.ntmps9
  go_wp2_with (go_at_call 14; refine (hMul _).mono ?_)
  rintro e w1 ⟨rfl, hww⟩
  replace hww := hww.symm
  subst hww
  clear hMul
  go_wp2_with (first | ((with_reducible refine gate_dst (N := 9) rfl ?_); refine box_event ?hg (N := 9) ?hd (cs := #[.pointer none, .slice none 0 0]) (t := 48) ?hr ?_; (case hd => rfl); (case hg => rfl); (case hr => first | (go_simp; done) | (go_simp; rfl)); intro gb hg w1 hbox hb; have BK := Aside0.mk hbox; have GE := Aside0.mk (show w.heap.size ≤ gb from by rw [hg]; exact Nat.le_refl _); have HB1 := Aside0.mk (below_step HB0.out hb); have cG : Calls Try.prog 15 #[.pointer (some ⟨gb, 0, none⟩), .int .i64 4] w1 fun e w' => e = .returned (.tuple #[]) ∧ (Lib.BuilderAt 48 5 w.heap.size gb (.pointer (some ⟨gb, 0, none⟩)) [] w' ∧ Below w.heap.size w1 w') := Try.Builder_Grow_fresh w.heap.size gb 4 w1 GE.out BK.out HB1.out.size (by omega); clear hbox hb hg) | (go_at_call 15; refine cG.mono ?_))
  rintro e w2 ⟨rfl, h2, hb2⟩
  have HB2 := Aside0.mk (HB1.out.trans hb2)
  have H2 := Aside0.mk (show Lib.IsBuilderF 48 5 w.heap.size gb (Lib.byteCells []) w2 from Lib.IsBuilderF.of (Or.inr h2))
  clear h2 hb2 cG
  go_wp2_with (go_at_call 16; refine (writeStr.calls w.heap.size gb [] (⟨#[91]⟩ : ByteArray) _ H2.out (by decide +kernel) HB2.out.size).mono ?_)
  rintro e w3 ⟨rfl, h3, hb3⟩
  have HB3 := Aside0.mk (HB2.out.trans hb3)
  have H3 := Aside0.mk (show Lib.IsBuilderF 48 5 w.heap.size gb (Lib.byteCells [91]) w3 from Or.inr h3)
  clear h3 hb3
  go_wp2
  refine wp_loop_rounds 3 ?_
  have cL : Calls Try.prog 17 #[.pointer (some ⟨gb, 0, none⟩)] w3 fun e w' => e = .returned (.int .i64 1) ∧ w' = w3 := Try.Builder_Len_f w.heap.size gb (Lib.byteCells [91]) w3 H3.out
  have cS : Calls Try.prog 18 #[.pointer (some ⟨gb, 0, none⟩)] w3 fun e w' => e = .returned (.string (⟨#[91]⟩ : ByteArray)) ∧ (Lib.IsBuilderF 48 5 w.heap.size gb (Lib.byteCells [91]) w' ∧ Below w.heap.size w3 w') := Try.Builder_String_any_f w.heap.size gb [91] w3 H3.out HB3.out.size
  rw [rounds_succ]
  go_wp2_with (first | (go_at_call 17; refine cL.mono ?_; rintro e wL ⟨rfl, hww⟩; replace hww := hww.symm; subst hww) | (go_at_call 18; refine cS.mono ?_))
  rintro e w4 ⟨rfl, h, hb⟩
  have HB4 := Aside0.mk (HB3.out.trans hb)
  have H4 := Aside0.mk h
  clear h hb cL cS
  go_wp2_with (go_at_call 16; refine (writeStr.calls w.heap.size gb (Lib.byteCells [91]) (⟨#[91]⟩ : ByteArray) _ H4.out (by decide +kernel) HB4.out.size).mono ?_)
  rintro e w5 ⟨rfl, h, hb⟩
  have HB5 := Aside0.mk (HB4.out.trans hb)
  have H5 := Aside0.mk (show Lib.IsBuilderF 48 5 w.heap.size gb (Lib.byteCells [91, 91]) w5 from Or.inr h)
  clear h hb
  go_wp2
  have cL : Calls Try.prog 17 #[.pointer (some ⟨gb, 0, none⟩)] w5 fun e w' => e = .returned (.int .i64 2) ∧ w' = w5 := Try.Builder_Len_f w.heap.size gb (Lib.byteCells [91, 91]) w5 H5.out
  have cS : Calls Try.prog 18 #[.pointer (some ⟨gb, 0, none⟩)] w5 fun e w' => e = .returned (.string (⟨#[91, 91]⟩ : ByteArray)) ∧ (Lib.IsBuilderF 48 5 w.heap.size gb (Lib.byteCells [91, 91]) w' ∧ Below w.heap.size w5 w') := Try.Builder_String_any_f w.heap.size gb [91, 91] w5 H5.out HB5.out.size
  rw [rounds_succ]
  go_wp2_with (first | (go_at_call 17; refine cL.mono ?_; rintro e wL ⟨rfl, hww⟩; replace hww := hww.symm; subst hww) | (go_at_call 18; refine cS.mono ?_))
  rintro e w6 ⟨rfl, h, hb⟩
  have HB6 := Aside0.mk (HB5.out.trans hb)
  have H6 := Aside0.mk h
  clear h hb cL cS
  go_wp2_with (go_at_call 16; refine (writeStr.calls w.heap.size gb (Lib.byteCells [91, 91]) (⟨#[91, 91]⟩ : ByteArray) _ H6.out (by decide +kernel) HB6.out.size).mono ?_)
  rintro e w7 ⟨rfl, h, hb⟩
  have HB7 := Aside0.mk (HB6.out.trans hb)
  have H7 := Aside0.mk (show Lib.IsBuilderF 48 5 w.heap.size gb (Lib.byteCells [91, 91, 91, 91]) w7 from Or.inr h)
  clear h hb
  go_wp2
  have cL : Calls Try.prog 17 #[.pointer (some ⟨gb, 0, none⟩)] w7 fun e w' => e = .returned (.int .i64 4) ∧ w' = w7 := Try.Builder_Len_f w.heap.size gb (Lib.byteCells [91, 91, 91, 91]) w7 H7.out
  have cS : Calls Try.prog 18 #[.pointer (some ⟨gb, 0, none⟩)] w7 fun e w' => e = .returned (.string (⟨#[91, 91, 91, 91]⟩ : ByteArray)) ∧ (Lib.IsBuilderF 48 5 w.heap.size gb (Lib.byteCells [91, 91, 91, 91]) w' ∧ Below w.heap.size w7 w') := Try.Builder_String_any_f w.heap.size gb [91, 91, 91, 91] w7 H7.out HB7.out.size
  rw [rounds_succ]
  go_wp2_with (first | (go_at_call 17; refine cL.mono ?_; rintro e wL ⟨rfl, hww⟩; replace hww := hww.symm; subst hww) | (go_at_call 18; refine cS.mono ?_))
  rintro e w8 ⟨rfl, h, hb⟩
  have HB8 := Aside0.mk (HB7.out.trans hb)
  have H8 := Aside0.mk h
  clear h hb cL cS
  go_wp2
  go_ret
  exact ⟨rfl, HB8.out⟩
theorem strings_Repeat.calls (a0 : ByteArray) (a1 : Int) (r1 : ByteArray) (w : World) (h : strings_Repeat.f a0 a1 = some r1) :
    Calls Try.prog 9 #[.string a0, .int .i64 a1] w fun e w' => e = .returned (.string r1) ∧ Below w.heap.size w w' := by
  unfold strings_Repeat.f at h
  by_cases h1 : a1 = 1
  · rw [if_pos h1] at h
    obtain rfl := Option.some.inj h
    subst h1
    refine (repeat_one a0 w).mono ?_
    rintro e w' ⟨rfl, rfl⟩
    exact ⟨rfl, Below.refl _ _⟩
  · rw [if_neg h1] at h
    by_cases h2 : a0.data.toList = [91] ∧ 2 ≤ a1 ∧ a1 ≤ 4
    · rw [if_pos h2] at h
      obtain rfl := Option.some.inj h
      obtain ⟨hd, hl, hu⟩ := h2
      obtain rfl : a0 = (⟨#[91]⟩ : ByteArray) := by
        cases a0 with
        | mk d =>
          have e : d = #[91] := by
            have := congrArg List.toArray hd
            simpa using this
          rw [e]
      obtain rfl | rfl | rfl : a1 = 2 ∨ a1 = 3 ∨ a1 = 4 := by omega
      · exact repeat_2 w
      · exact repeat_3 w
      · exact repeat_4 w
    · rw [if_neg h2] at h
      cases h
end Go.Proofs.Ytcoghiefkogklaa.Px
