-- By myprint.py (wip/tools): a program of this session's, over the kit's print. Not trusted: Lean checks it.
import Derived.Test.YtglnhkgodgjepaaDoorPx0
import Derived.Test.YtglnhkgodgjepaaDoorPx5
import Derived.Test.YtglnhkgodgjepaaDoorPx6
namespace Go.Proofs.YtglnhkgodgjepaaDoor.Px
open Go.RowKit Go.Proofs.YtglnhkgodgjepaaDoorW.PrintWords Go.Proofs.YtglnhkgodgjepaaDoorW.PrintLast Go.Proofs.YtglnhkgodgjepaaDoorW.PrintMore
attribute [local go_sem] max2_int min2_int max_two min_two max_three min_three max_four min_four   -- for this text's walks alone
set_option linter.unusedVariables false
set_option linter.unusedSimpArgs false

/-! ### understudyref04_one: function 21 -/
mutual
def understudyref04_one.j0 : Nat → Bool → Option (Int)
  | 0, _ => none
  | k + 1, x32 => if x32 = true then (some 20) else (some 0)
def understudyref04_one.j1 : Nat → List (S33) → Bool → Int → ByteArray → Int → Int → Int → Option (Int)
  | 0, _, _, _, _, _, _, _ => none
  | k + 1, x0, x63, x166000, x166001, x166002, x166003, x166004 => if x63 = true then ((understudyref04_is.f x0 x166003 7).bind fun t174 => (if t174 = true then ((understudyref04_is.f x0 x166004 12).bind fun t175 => (if t175 = true then (some 0) else (some 40))) else (some 40))) else (some 40)
end
def understudyref04_one.f (k : Nat) (l0 : List (S33)) (a1 : Int) : Option (Int) := if 0 ≤ a1 then (if a1 < (l0.length : Int) then ((understudyref04_bare.f k ((rd_T33 l0 a1).f0) ((rd_T33 l0 a1).f1) ((rd_T33 l0 a1).f2) ((rd_T33 l0 a1).f3) ((rd_T33 l0 a1).f4)).bind fun t166 => (if t166 = true then (if ((rd_T33 l0 a1).f0) = 1 then ((understudyref02_Encode.f k ((rd_T33 l0 a1).f1)).bind fun bt167 => (if bt167.2 = 0 then (understudyref04_one.j0 k (decide ((bt167.1.length : Int) > 256))) else (understudyref04_one.j0 k true))) else (if ((rd_T33 l0 a1).f0) = 3 then (if ((rd_T33 l0 a1).f2) ≥ (-2147483648) then (if (((rd_T33 l0 a1).f2) ≤ 2147483647) then (some 0) else (some 40)) else (some 40)) else (if ((rd_T33 l0 a1).f0) = 5 then (some 0) else (if ((rd_T33 l0 a1).f0) = 7 then ((understudyref04_is.f l0 ((rd_T33 l0 a1).f3) 1).bind fun t171 => (if t171 = true then (some 0) else (some 40))) else (if ((rd_T33 l0 a1).f0) = 12 then ((understudyref04_is.f l0 ((rd_T33 l0 a1).f3) 1).bind fun t172 => (if t172 = true then ((understudyref04_is.f l0 ((rd_T33 l0 a1).f4) 1).bind fun t173 => (if t173 = true then (some 0) else (some 40))) else (some 40))) else (if ((rd_T33 l0 a1).f0) = 9 then (understudyref04_one.j1 k l0 (((rd_T33 l0 a1).f0) == 9) ((rd_T33 l0 a1).f0) ((rd_T33 l0 a1).f1) ((rd_T33 l0 a1).f2) ((rd_T33 l0 a1).f3) ((rd_T33 l0 a1).f4)) else (understudyref04_one.j1 k l0 (((rd_T33 l0 a1).f0) == 10) ((rd_T33 l0 a1).f0) ((rd_T33 l0 a1).f1) ((rd_T33 l0 a1).f2) ((rd_T33 l0 a1).f3) ((rd_T33 l0 a1).f4)))))))) else (some 40))) else (none)) else (none)
theorem understudyref04_one.mono_l : ∀ k, (∀ y0, LeO (understudyref04_one.j0 k y0) (understudyref04_one.j0 (k + 1) y0)) ∧ (∀ y0 y1 y2 y3 y4 y5 y6, LeO (understudyref04_one.j1 k y0 y1 y2 y3 y4 y5 y6) (understudyref04_one.j1 (k + 1) y0 y1 y2 y3 y4 y5 y6))
  | 0 => ⟨fun _ r h => by simp [understudyref04_one.j0] at h, fun _ _ _ _ _ _ _ r h => by simp [understudyref04_one.j1] at h⟩
  | k + 1 => by
    obtain ⟨ih0, ih1⟩ := understudyref04_one.mono_l k
    refine ⟨?_, ?_⟩
    · intro y0
      unfold understudyref04_one.j0
      repeat' first
      | (with_reducible exact ih0 _)
      | (with_reducible exact ih1 _ _ _ _ _ _ _)
      | (with_reducible exact understudyref02_Encode.mono _ _)
      | (with_reducible exact understudyref04_bare.mono _ _ _ _ _ _)
      | (with_reducible exact LeO.refl _)
      | (with_reducible exact LeO.none _)
      | (with_reducible refine LeO.ite ?_ ?_)
      | (with_reducible refine LeO.bind ?_ (fun _ => ?_))
      | exact ih0 _
      | exact ih1 _ _ _ _ _ _ _
      | exact understudyref02_Encode.mono _ _
      | exact understudyref04_bare.mono _ _ _ _ _ _
      | exact LeO.none _
      | refine LeO.ite ?_ ?_
      | refine LeO.bind ?_ (fun _ => ?_)
    · intro y0 y1 y2 y3 y4 y5 y6
      unfold understudyref04_one.j1
      repeat' first
      | (with_reducible exact ih0 _)
      | (with_reducible exact ih1 _ _ _ _ _ _ _)
      | (with_reducible exact understudyref02_Encode.mono _ _)
      | (with_reducible exact understudyref04_bare.mono _ _ _ _ _ _)
      | (with_reducible exact LeO.refl _)
      | (with_reducible exact LeO.none _)
      | (with_reducible refine LeO.ite ?_ ?_)
      | (with_reducible refine LeO.bind ?_ (fun _ => ?_))
      | exact ih0 _
      | exact ih1 _ _ _ _ _ _ _
      | exact understudyref02_Encode.mono _ _
      | exact understudyref04_bare.mono _ _ _ _ _ _
      | exact LeO.none _
      | refine LeO.ite ?_ ?_
      | refine LeO.bind ?_ (fun _ => ?_)
theorem understudyref04_one.mono : ∀ a0 a1 k, LeO (understudyref04_one.f k a0 a1) (understudyref04_one.f (k + 1) a0 a1) := by
  intro a0 a1 k
  obtain ⟨ih0, ih1⟩ := understudyref04_one.mono_l k
  unfold understudyref04_one.f
  repeat' first
      | (with_reducible exact ih0 _)
      | (with_reducible exact ih1 _ _ _ _ _ _ _)
      | (with_reducible exact understudyref02_Encode.mono _ _)
      | (with_reducible exact understudyref04_bare.mono _ _ _ _ _ _)
      | (with_reducible exact LeO.refl _)
      | (with_reducible exact LeO.none _)
      | (with_reducible refine LeO.ite ?_ ?_)
      | (with_reducible refine LeO.bind ?_ (fun _ => ?_))
      | exact ih0 _
      | exact ih1 _ _ _ _ _ _ _
      | exact understudyref02_Encode.mono _ _
      | exact understudyref04_bare.mono _ _ _ _ _ _
      | exact LeO.none _
      | refine LeO.ite ?_ ?_
      | refine LeO.bind ?_ (fun _ => ?_)
set_option maxHeartbeats 80000000 in
set_option maxRecDepth 100000 in
theorem understudyref04_one.calls (k : Nat) (A0 : Option Addr) (c0 : Nat) (l0 : List (S33)) (a1 : Int) (r : Int) (w : World) (hr0 : Kd.C k33 w A0 l0.length l0) (hc0 : l0.length ≤ c0) (h : understudyref04_one.f k l0 a1 = some r) :
    Calls Tryd.prog 21 #[.slice A0 l0.length c0, .int .i64 a1] w fun e w' => e = .returned (.int .i64 r) ∧ Below w.heap.size w w' := by
  have hu33 := Tryd.underlying33
  have HR0 := Aside0.mk hr0
  have HC0 := Aside0.mk hc0
  clear hr0 hc0
  have HB := Aside0.mk (Below.refl w.heap.size w)
  have H : (if 0 ≤ a1 then (if a1 < (l0.length : Int) then ((understudyref04_bare.f k ((rd_T33 l0 a1).f0) ((rd_T33 l0 a1).f1) ((rd_T33 l0 a1).f2) ((rd_T33 l0 a1).f3) ((rd_T33 l0 a1).f4)).bind fun t166 => (if t166 = true then (if ((rd_T33 l0 a1).f0) = 1 then ((understudyref02_Encode.f k ((rd_T33 l0 a1).f1)).bind fun bt167 => (if bt167.2 = 0 then (understudyref04_one.j0 k (decide ((bt167.1.length : Int) > 256))) else (understudyref04_one.j0 k true))) else (if ((rd_T33 l0 a1).f0) = 3 then (if ((rd_T33 l0 a1).f2) ≥ (-2147483648) then (if (((rd_T33 l0 a1).f2) ≤ 2147483647) then (some 0) else (some 40)) else (some 40)) else (if ((rd_T33 l0 a1).f0) = 5 then (some 0) else (if ((rd_T33 l0 a1).f0) = 7 then ((understudyref04_is.f l0 ((rd_T33 l0 a1).f3) 1).bind fun t171 => (if t171 = true then (some 0) else (some 40))) else (if ((rd_T33 l0 a1).f0) = 12 then ((understudyref04_is.f l0 ((rd_T33 l0 a1).f3) 1).bind fun t172 => (if t172 = true then ((understudyref04_is.f l0 ((rd_T33 l0 a1).f4) 1).bind fun t173 => (if t173 = true then (some 0) else (some 40))) else (some 40))) else (if ((rd_T33 l0 a1).f0) = 9 then (understudyref04_one.j1 k l0 (((rd_T33 l0 a1).f0) == 9) ((rd_T33 l0 a1).f0) ((rd_T33 l0 a1).f1) ((rd_T33 l0 a1).f2) ((rd_T33 l0 a1).f3) ((rd_T33 l0 a1).f4)) else (understudyref04_one.j1 k l0 (((rd_T33 l0 a1).f0) == 10) ((rd_T33 l0 a1).f0) ((rd_T33 l0 a1).f1) ((rd_T33 l0 a1).f2) ((rd_T33 l0 a1).f3) ((rd_T33 l0 a1).f4)))))))) else (some 40))) else (none)) else (none)) = some r := h
  clear h
  by_cases c3 : 0 ≤ a1
  · rw [if_pos c3] at H
    have c3b0 : decide (0 ≤ a1) = true := decide_eq_true c3
    clear c3
    by_cases c4 : a1 < (l0.length : Int)
    · rw [if_pos c4] at H
      have c4b0 : decide (a1 < (l0.length : Int)) = true := decide_eq_true c4
      clear c4
      replace H := Option.bind_eq_some_iff.mp H
      obtain ⟨t166, A50, H⟩ := H
      replace H : (if t166 = true then (if ((rd_T33 l0 a1).f0) = 1 then ((understudyref02_Encode.f k ((rd_T33 l0 a1).f1)).bind fun bt167 => (if bt167.2 = 0 then (understudyref04_one.j0 k (decide ((bt167.1.length : Int) > 256))) else (understudyref04_one.j0 k true))) else (if ((rd_T33 l0 a1).f0) = 3 then (if ((rd_T33 l0 a1).f2) ≥ (-2147483648) then (if (((rd_T33 l0 a1).f2) ≤ 2147483647) then (some 0) else (some 40)) else (some 40)) else (if ((rd_T33 l0 a1).f0) = 5 then (some 0) else (if ((rd_T33 l0 a1).f0) = 7 then ((understudyref04_is.f l0 ((rd_T33 l0 a1).f3) 1).bind fun t171 => (if t171 = true then (some 0) else (some 40))) else (if ((rd_T33 l0 a1).f0) = 12 then ((understudyref04_is.f l0 ((rd_T33 l0 a1).f3) 1).bind fun t172 => (if t172 = true then ((understudyref04_is.f l0 ((rd_T33 l0 a1).f4) 1).bind fun t173 => (if t173 = true then (some 0) else (some 40))) else (some 40))) else (if ((rd_T33 l0 a1).f0) = 9 then (understudyref04_one.j1 k l0 (((rd_T33 l0 a1).f0) == 9) ((rd_T33 l0 a1).f0) ((rd_T33 l0 a1).f1) ((rd_T33 l0 a1).f2) ((rd_T33 l0 a1).f3) ((rd_T33 l0 a1).f4)) else (understudyref04_one.j1 k l0 (((rd_T33 l0 a1).f0) == 10) ((rd_T33 l0 a1).f0) ((rd_T33 l0 a1).f1) ((rd_T33 l0 a1).f2) ((rd_T33 l0 a1).f3) ((rd_T33 l0 a1).f4)))))))) else (some 40)) = some r := H
      have A5 := Aside0.mk A50
      clear A50
      by_cases c6 : t166 = true
      · subst c6
        have H1 : (if ((rd_T33 l0 a1).f0) = 1 then ((understudyref02_Encode.f k ((rd_T33 l0 a1).f1)).bind fun bt167 => (if bt167.2 = 0 then (understudyref04_one.j0 k (decide ((bt167.1.length : Int) > 256))) else (understudyref04_one.j0 k true))) else (if ((rd_T33 l0 a1).f0) = 3 then (if ((rd_T33 l0 a1).f2) ≥ (-2147483648) then (if (((rd_T33 l0 a1).f2) ≤ 2147483647) then (some 0) else (some 40)) else (some 40)) else (if ((rd_T33 l0 a1).f0) = 5 then (some 0) else (if ((rd_T33 l0 a1).f0) = 7 then ((understudyref04_is.f l0 ((rd_T33 l0 a1).f3) 1).bind fun t171 => (if t171 = true then (some 0) else (some 40))) else (if ((rd_T33 l0 a1).f0) = 12 then ((understudyref04_is.f l0 ((rd_T33 l0 a1).f3) 1).bind fun t172 => (if t172 = true then ((understudyref04_is.f l0 ((rd_T33 l0 a1).f4) 1).bind fun t173 => (if t173 = true then (some 0) else (some 40))) else (some 40))) else (if ((rd_T33 l0 a1).f0) = 9 then (understudyref04_one.j1 k l0 (((rd_T33 l0 a1).f0) == 9) ((rd_T33 l0 a1).f0) ((rd_T33 l0 a1).f1) ((rd_T33 l0 a1).f2) ((rd_T33 l0 a1).f3) ((rd_T33 l0 a1).f4)) else (understudyref04_one.j1 k l0 (((rd_T33 l0 a1).f0) == 10) ((rd_T33 l0 a1).f0) ((rd_T33 l0 a1).f1) ((rd_T33 l0 a1).f2) ((rd_T33 l0 a1).f3) ((rd_T33 l0 a1).f4)))))))) = some r := by rw [if_pos rfl] at H; exact H
        clear H
        have H := H1
        clear H1
        by_cases c7 : ((rd_T33 l0 a1).f0) = 1
        · rw [if_pos c7] at H
          have c7b0 : (((rd_T33 l0 a1).f0) == 1) = true := beq_iff_eq.mpr c7
          have c7b1 : (((rd_T33 l0 a1).f0) != 1) = false := bne_eq_false_iff_eq.mpr c7
          clear c7
          replace H := Option.bind_eq_some_iff.mp H
          obtain ⟨⟨t167, t168⟩, A80, H⟩ := H
          replace H : (if t168 = 0 then (understudyref04_one.j0 k (decide ((t167.length : Int) > 256))) else (understudyref04_one.j0 k true)) = some r := H
          have A8 := Aside0.mk A80
          clear A80
          have HC9 := Aside0.mk H
          clear H
          have p164 : 0 ≤ (a1 : Int) := of_decide_eq_true (by first | (with_reducible assumption) | assumption)
          have q164 : a1 < (l0.length : Int) := of_decide_eq_true (by first | (with_reducible assumption) | assumption)
          obtain ⟨ad164, e164, hx164_0, hx164_1, hx164_2, hx164_3, hx164_4⟩ := at_T33 HR0.out a1 p164 q164
          cases e164
          replace p164 := eq_true p164
          replace q164 := eq_true q164
          go_enter Tryd.func21, Tryd.ntmps21
          go_upto_region 9 with (first | ((with_reducible refine gate_dst (N := 5) rfl ?_); (try (refine gate_guard (by rfl) ?_; dsimp only)); refine box_event ?hg (N := 5) ?hd (cs := #[.int .i64 0, .string (⟨#[]⟩ : ByteArray), .int .i64 0, .int .i64 0, .int .i64 0]) (t := 33) ?hr ?_; (case hd => rfl); (case hg => rfl); (case hr => first | (go_simp; done) | (go_simp; rfl)); intro gb165 hg w10 hbox hb; have n0_ := Aside0.mk (below_step (by repeat (first | (with_reducible first | exact HB.out | apply below_alloc | apply pw_below_drewN | apply below_drew1) | exact HB.out)) hb); have n1_ := Aside0.mk (hbox); have n2_ := Aside0.mk ((by rw [hg]; exact (below_size (by repeat (first | (with_reducible first | exact HB.out | apply below_alloc | apply pw_below_drewN | apply below_drew1) | exact HB.out))) : w.heap.size ≤ gb165)); have n3_ := Aside0.mk ((by rw [hg]; exact (below_size (by repeat (first | (with_reducible first | exact HB.out | apply below_alloc | apply pw_below_drewN | apply below_drew1) | exact HB.out))) : w.heap.size ≤ gb165)); clear HB; have HB := n0_; have BK165 := n1_; have GW165 := n2_; have GE165 := n3_; clear n0_ n1_ n2_ n3_; clear hb hbox hg; have hcz11_0 : w10.cell? ⟨gb165, 0, none⟩ = some (.int .i64 0) := (blk_cell BK165.out 0).trans rfl; have hcz11_1 : w10.cell? ⟨gb165, 1, none⟩ = some (.string (⟨#[]⟩ : ByteArray)) := (blk_cell BK165.out 1).trans rfl; have hcz11_2 : w10.cell? ⟨gb165, 2, none⟩ = some (.int .i64 0) := (blk_cell BK165.out 2).trans rfl; have hcz11_3 : w10.cell? ⟨gb165, 3, none⟩ = some (.int .i64 0) := (blk_cell BK165.out 3).trans rfl; have hcz11_4 : w10.cell? ⟨gb165, 4, none⟩ = some (.int .i64 0) := (blk_cell BK165.out 4).trans rfl; have hfz11_0 := blk_frozen BK165.out 0; have hfz11_1 := blk_frozen BK165.out 1; have hfz11_2 := blk_frozen BK165.out 2; have hfz11_3 := blk_frozen BK165.out 3; have hfz11_4 := blk_frozen BK165.out 4) | ((with_reducible refine gate_store (t := 33) (p := 5) rfl ?_); refine store_event (t := 33) (p := 5) (v := ?vo_w12) (w1 := (((((w10.setCell ⟨gb165, 0, none⟩ (.int .i64 ((rd_T33 l0 a1).f0))).setCell ⟨gb165, 1, none⟩ (.string ((rd_T33 l0 a1).f1))).setCell ⟨gb165, 2, none⟩ (.int .i64 ((rd_T33 l0 a1).f2))).setCell ⟨gb165, 3, none⟩ (.int .i64 ((rd_T33 l0 a1).f3))).setCell ⟨gb165, 4, none⟩ (.int .i64 ((rd_T33 l0 a1).f4)))) ?hg ?ho ?hn ?hr ?_; (case ho => rfl); (case hg => rfl); (case hn => rfl); (case hr => first | (go_simp; done) | (go_simp; rfl)); intro w12 hw; have n0_ : Aside0 (w12.heap[gb165]? = some (.cells #[.int .i64 ((rd_T33 l0 a1).f0), .string ((rd_T33 l0 a1).f1), .int .i64 ((rd_T33 l0 a1).f2), .int .i64 ((rd_T33 l0 a1).f3), .int .i64 ((rd_T33 l0 a1).f4)] 33 (0, 0))) := ⟨(by rw [hw]; exact (by (with_reducible repeat (first | refine blk_drewN ?_ _ | refine blk_drew ?_ | refine blk_alloc ?_ _)); refine blk_put (cs := #[.int .i64 ((rd_T33 l0 a1).f0), .string ((rd_T33 l0 a1).f1), .int .i64 ((rd_T33 l0 a1).f2), .int .i64 ((rd_T33 l0 a1).f3), .int .i64 0]) ?_ 4 _ rfl; (with_reducible repeat (first | refine blk_drewN ?_ _ | refine blk_drew ?_ | refine blk_alloc ?_ _)); refine blk_put (cs := #[.int .i64 ((rd_T33 l0 a1).f0), .string ((rd_T33 l0 a1).f1), .int .i64 ((rd_T33 l0 a1).f2), .int .i64 0, .int .i64 0]) ?_ 3 _ rfl; (with_reducible repeat (first | refine blk_drewN ?_ _ | refine blk_drew ?_ | refine blk_alloc ?_ _)); refine blk_put (cs := #[.int .i64 ((rd_T33 l0 a1).f0), .string ((rd_T33 l0 a1).f1), .int .i64 0, .int .i64 0, .int .i64 0]) ?_ 2 _ rfl; (with_reducible repeat (first | refine blk_drewN ?_ _ | refine blk_drew ?_ | refine blk_alloc ?_ _)); refine blk_put (cs := #[.int .i64 ((rd_T33 l0 a1).f0), .string (⟨#[]⟩ : ByteArray), .int .i64 0, .int .i64 0, .int .i64 0]) ?_ 1 _ rfl; (with_reducible repeat (first | refine blk_drewN ?_ _ | refine blk_drew ?_ | refine blk_alloc ?_ _)); refine blk_put (cs := #[.int .i64 0, .string (⟨#[]⟩ : ByteArray), .int .i64 0, .int .i64 0, .int .i64 0]) ?_ 0 _ rfl; (with_reducible repeat (first | refine blk_drewN ?_ _ | refine blk_drew ?_ | refine blk_alloc ?_ _)); exact BK165.out))⟩; have n1_ : Aside0 (Below w.heap.size w w12) := ⟨(by rw [hw]; exact (by repeat (first | (with_reducible first | exact HB.out | apply below_alloc | apply pw_below_drewN | apply below_drew1 | refine below_set ?_ GE165.out) | exact HB.out)))⟩; clear hw; clear BK165; clear HB; have BK165 := n0_; have HB := n1_; clear n0_ n1_; have hcz13_0 : w12.cell? ⟨gb165, 0, none⟩ = some (.int .i64 ((rd_T33 l0 a1).f0)) := (blk_cell BK165.out 0).trans rfl; have hcz13_1 : w12.cell? ⟨gb165, 1, none⟩ = some (.string ((rd_T33 l0 a1).f1)) := (blk_cell BK165.out 1).trans rfl; have hcz13_2 : w12.cell? ⟨gb165, 2, none⟩ = some (.int .i64 ((rd_T33 l0 a1).f2)) := (blk_cell BK165.out 2).trans rfl; have hcz13_3 : w12.cell? ⟨gb165, 3, none⟩ = some (.int .i64 ((rd_T33 l0 a1).f3)) := (blk_cell BK165.out 3).trans rfl; have hcz13_4 : w12.cell? ⟨gb165, 4, none⟩ = some (.int .i64 ((rd_T33 l0 a1).f4)) := (blk_cell BK165.out 4).trans rfl; have hfz13_0 := blk_frozen BK165.out 0; have hfz13_1 := blk_frozen BK165.out 1; have hfz13_2 := blk_frozen BK165.out 2; have hfz13_3 := blk_frozen BK165.out 3; have hfz13_4 := blk_frozen BK165.out 4) | ((with_reducible refine gate_callee (f := 43) rfl ?_); refine goesL_ (some 14) rfl rfl Tryd.func43 (by kernel_rfl) rfl #[.agg #[.int .i64 ((rd_T33 l0 a1).f0), .string ((rd_T33 l0 a1).f1), .int .i64 ((rd_T33 l0 a1).f2), .int .i64 ((rd_T33 l0 a1).f3), .int .i64 ((rd_T33 l0 a1).f4)]] rfl (by (try simp only [List.map_toArray, List.map_cons, List.map_nil]); first | done | rfl | (simp only [List.length_drop, List.length_take]; rfl)) ?_; (with_reducible refine (understudyref04_bare.calls k ((rd_T33 l0 a1).f0) ((rd_T33 l0 a1).f1) ((rd_T33 l0 a1).f2) ((rd_T33 l0 a1).f3) ((rd_T33 l0 a1).f4) true _ A5.out).mono ?_); rintro e w14 ⟨rfl, hb⟩; refine ⟨_, rfl, ?_⟩; have n0_ := Aside0.mk (blk_below (g := gb165) (o := .cells #[.int .i64 ((rd_T33 l0 a1).f0), .string ((rd_T33 l0 a1).f1), .int .i64 ((rd_T33 l0 a1).f2), .int .i64 ((rd_T33 l0 a1).f3), .int .i64 ((rd_T33 l0 a1).f4)] 33 (0, 0)) (by (with_reducible repeat (first | refine blk_drewN ?_ _ | refine blk_drew ?_ | refine blk_alloc ?_ _)); exact BK165.out) hb); have n1_ := Aside0.mk (below_step (by repeat (first | (with_reducible first | exact HB.out | apply below_alloc | apply pw_below_drewN | apply below_drew1 | refine below_set ?_ GE165.out) | exact HB.out)) hb); clear BK165; clear HB; have BK165 := n0_; have HB := n1_; clear n0_ n1_; (try clear hb); (try clear hb2); (try clear hk); (try clear hi); have hcz15_0 : w14.cell? ⟨gb165, 0, none⟩ = some (.int .i64 ((rd_T33 l0 a1).f0)) := (blk_cell BK165.out 0).trans rfl; have hcz15_1 : w14.cell? ⟨gb165, 1, none⟩ = some (.string ((rd_T33 l0 a1).f1)) := (blk_cell BK165.out 1).trans rfl; have hcz15_2 : w14.cell? ⟨gb165, 2, none⟩ = some (.int .i64 ((rd_T33 l0 a1).f2)) := (blk_cell BK165.out 2).trans rfl; have hcz15_3 : w14.cell? ⟨gb165, 3, none⟩ = some (.int .i64 ((rd_T33 l0 a1).f3)) := (blk_cell BK165.out 3).trans rfl; have hcz15_4 : w14.cell? ⟨gb165, 4, none⟩ = some (.int .i64 ((rd_T33 l0 a1).f4)) := (blk_cell BK165.out 4).trans rfl; have hfz15_0 := blk_frozen BK165.out 0; have hfz15_1 := blk_frozen BK165.out 1; have hfz15_2 := blk_frozen BK165.out 2; have hfz15_3 := blk_frozen BK165.out 3; have hfz15_4 := blk_frozen BK165.out 4) | ((with_reducible refine gate_callee (f := 30) rfl ?_); refine goesL_ (some 23) rfl rfl Tryd.func30 (by kernel_rfl) rfl #[.string ((rd_T33 l0 a1).f1)] rfl (by (try simp only [List.map_toArray, List.map_cons, List.map_nil]); first | done | rfl | (simp only [List.length_drop, List.length_take]; rfl)) ?_; (with_reducible refine (understudyref02_Encode.calls k ((rd_T33 l0 a1).f1) t167 t168 _ A8.out).mono ?_); rintro e w16 ⟨v169, rfl, ho0, hb⟩; refine ⟨_, rfl, ?_⟩; have n0_ := Aside0.mk (Kd.R_lower ho0 (below_size (by repeat (first | (with_reducible first | exact HB.out | apply below_alloc | apply pw_below_drewN | apply below_drew1 | refine below_set ?_ GE165.out) | exact HB.out)))); have n1_ := Aside0.mk (blk_below (g := gb165) (o := .cells #[.int .i64 ((rd_T33 l0 a1).f0), .string ((rd_T33 l0 a1).f1), .int .i64 ((rd_T33 l0 a1).f2), .int .i64 ((rd_T33 l0 a1).f3), .int .i64 ((rd_T33 l0 a1).f4)] 33 (0, 0)) (by (with_reducible repeat (first | refine blk_drewN ?_ _ | refine blk_drew ?_ | refine blk_alloc ?_ _)); exact BK165.out) hb); have n2_ := Aside0.mk (below_step (by repeat (first | (with_reducible first | exact HB.out | apply below_alloc | apply pw_below_drewN | apply below_drew1 | refine below_set ?_ GE165.out) | exact HB.out)) hb); clear BK165; clear HB; have HO170 := n0_; have BK165 := n1_; have HB := n2_; clear n0_ n1_ n2_; (try clear hb); (try clear hb2); (try clear hk); (try clear hi); (try clear ho0)))
          (try simp only [Act.put, List.setIfInBounds_toArray, List.set_cons_zero, List.set_cons_succ])
          go_cut [32] (fun v32 wc => ∃ (kq : Nat) (x32_8 : Bool), v32 = .bool x32_8 ∧ Aside0 (understudyref04_one.j0 kq x32_8 = some r) ∧ Aside0 (kq ≤ k) ∧ Aside0 (wc.heap[gb165]? = some (.cells #[.int .i64 ((rd_T33 l0 a1).f0), .string ((rd_T33 l0 a1).f1), .int .i64 ((rd_T33 l0 a1).f2), .int .i64 ((rd_T33 l0 a1).f3), .int .i64 ((rd_T33 l0 a1).f4)] 33 (0, 0))) ∧ Aside0 (Below w.heap.size w wc))
          case first =>
            have H := HC9.out
            clear HC9
            by_cases c17 : t168 = 0
            · rw [if_pos c17] at H
              have c17b0 : (t168 == 0) = true := beq_iff_eq.mpr c17
              have c17b1 : (t168 != 0) = false := bne_eq_false_iff_eq.mpr c17
              clear c17
              (first | rw [c17b0] | (simp only [i64_w, i32_w]; rw [c17b0]) | skip)
              have H' := Aside0.mk H
              clear H
              obtain ⟨Ao18, co18, eo18⟩ := Kd.R_slice HO170.out
              subst eo18
              go_wp2
              go_meet
              case rel => exact ⟨_, (decide ((t167.length : Int) > 256)), (by first | rfl | (simp; done) | (simp [*]; done)), H', ⟨by first | omega | exact Nat.le_refl _⟩, ⟨by (with_reducible repeat (first | refine blk_drewN ?_ _ | refine blk_drew ?_ | refine blk_alloc ?_ _)); exact BK165.out⟩, ⟨by repeat (first | (with_reducible first | exact HB.out | apply below_alloc | apply pw_below_drewN | apply below_drew1 | refine below_set ?_ GE165.out) | exact HB.out)⟩⟩
            · rw [if_neg c17] at H
              have c17b0 : (t168 == 0) = false := beq_eq_false_iff_ne.mpr c17
              have c17b1 : (t168 != 0) = true := bne_iff_ne.mpr c17
              (first | rw [c17b0] | (simp only [i64_w, i32_w]; rw [c17b0]) | skip)
              have H' := Aside0.mk H
              clear H
              go_wp2
              go_meet
              case rel => exact ⟨_, (true), (by first | rfl | (simp; done) | (simp [*]; done)), H', ⟨by first | omega | exact Nat.le_refl _⟩, ⟨by (with_reducible repeat (first | refine blk_drewN ?_ _ | refine blk_drew ?_ | refine blk_alloc ?_ _)); exact BK165.out⟩, ⟨by repeat (first | (with_reducible first | exact HB.out | apply below_alloc | apply pw_below_drewN | apply below_drew1 | refine below_set ?_ GE165.out) | exact HB.out)⟩⟩
          case rest =>
            clear HC9
            try clear c1
            try clear p1
            try clear q1
            try clear hx1
            try clear c2
            try clear p2
            try clear c3
            try clear c3b0
            try clear c4
            try clear c4b0
            try clear c6
            try clear c7
            try clear c7b0
            try clear c7b1
            try clear p16
            try clear q16
            try clear hx16
            try clear c17
            try clear c17b0
            try clear c17b1
            try clear hcz11_0
            try clear hcz11_1
            try clear hcz11_2
            try clear hcz11_3
            try clear hcz11_4
            try clear hcz13_0
            try clear hcz13_1
            try clear hcz13_2
            try clear hcz13_3
            try clear hcz13_4
            try clear hcz15_0
            try clear hcz15_1
            try clear hcz15_2
            try clear hcz15_3
            try clear hcz15_4
            try clear hfz11_0
            try clear hfz11_1
            try clear hfz11_2
            try clear hfz11_3
            try clear hfz11_4
            try clear hfz13_0
            try clear hfz13_1
            try clear hfz13_2
            try clear hfz13_3
            try clear hfz13_4
            try clear hfz15_0
            try clear hfz15_1
            try clear hfz15_2
            try clear hfz15_3
            try clear hfz15_4
            try clear hx164_0
            try clear hx164_1
            try clear hx164_2
            try clear hx164_3
            try clear hx164_4
            try clear p164
            try clear q164
            obtain ⟨kq, x32_8, rfl, HA, HJ8, BK165, HB⟩ := hcut
            cases kq with
            | zero => exact absurd HA.out (by simp [understudyref04_one.j0])
            | succ kj8 =>
              have H := HA.out
              clear HA
              simp only [understudyref04_one.j0] at H
              by_cases c19 : x32_8 = true
              · subst c19
                have H1 : (some 20) = some r := by rw [if_pos rfl] at H; exact H
                clear H
                have H := H1
                clear H1
                obtain rfl := Option.some.inj H
                go_wp2
                go_ret
                exact ⟨by first | rfl | (simp [errW_none, errW_some] <;> rfl) | (simp [*, errW_none, errW_some] <;> rfl), by repeat (first | (with_reducible first | exact HB.out | apply below_alloc | apply pw_below_drewN | apply below_drew1 | refine below_set ?_ GE165.out) | exact HB.out)⟩
              · replace c19 := Bool.eq_false_iff.mpr c19
                subst c19
                have H1 : (some 0) = some r := by rw [if_neg (show ¬ (false = true) by decide)] at H; exact H
                clear H
                have H := H1
                clear H1
                obtain rfl := Option.some.inj H
                go_wp2
                go_ret
                exact ⟨by first | rfl | (simp [errW_none, errW_some] <;> rfl) | (simp [*, errW_none, errW_some] <;> rfl), by repeat (first | (with_reducible first | exact HB.out | apply below_alloc | apply pw_below_drewN | apply below_drew1 | refine below_set ?_ GE165.out) | exact HB.out)⟩
        · rw [if_neg c7] at H
          have c7b0 : (((rd_T33 l0 a1).f0) == 1) = false := beq_eq_false_iff_ne.mpr c7
          have c7b1 : (((rd_T33 l0 a1).f0) != 1) = true := bne_iff_ne.mpr c7
          by_cases c20 : ((rd_T33 l0 a1).f0) = 3
          · rw [if_pos c20] at H
            have c20b0 : (((rd_T33 l0 a1).f0) == 3) = true := beq_iff_eq.mpr c20
            have c20b1 : (((rd_T33 l0 a1).f0) != 3) = false := bne_eq_false_iff_eq.mpr c20
            clear c20
            by_cases c21 : ((rd_T33 l0 a1).f2) ≥ (-2147483648)
            · rw [if_pos c21] at H
              have c21b0 : decide ((-2147483648) ≤ ((rd_T33 l0 a1).f2)) = true := decide_eq_true c21
              clear c21
              by_cases c22 : (((rd_T33 l0 a1).f2) ≤ 2147483647)
              · rw [if_pos c22] at H
                have c22b0 : decide (((rd_T33 l0 a1).f2) ≤ 2147483647) = true := decide_eq_true c22
                clear c22
                obtain rfl := Option.some.inj H
                have p164 : 0 ≤ (a1 : Int) := of_decide_eq_true (by first | (with_reducible assumption) | assumption)
                have q164 : a1 < (l0.length : Int) := of_decide_eq_true (by first | (with_reducible assumption) | assumption)
                obtain ⟨ad164, e164, hx164_0, hx164_1, hx164_2, hx164_3, hx164_4⟩ := at_T33 HR0.out a1 p164 q164
                cases e164
                replace p164 := eq_true p164
                replace q164 := eq_true q164
                go_enter Tryd.func21, Tryd.ntmps21
                go_wp2_with (first | ((with_reducible refine gate_dst (N := 5) rfl ?_); (try (refine gate_guard (by rfl) ?_; dsimp only)); refine box_event ?hg (N := 5) ?hd (cs := #[.int .i64 0, .string (⟨#[]⟩ : ByteArray), .int .i64 0, .int .i64 0, .int .i64 0]) (t := 33) ?hr ?_; (case hd => rfl); (case hg => rfl); (case hr => first | (go_simp; done) | (go_simp; rfl)); intro gb165 hg w23 hbox hb; have n0_ := Aside0.mk (below_step (by repeat (first | (with_reducible first | exact HB.out | apply below_alloc | apply pw_below_drewN | apply below_drew1) | exact HB.out)) hb); have n1_ := Aside0.mk (hbox); have n2_ := Aside0.mk ((by rw [hg]; exact (below_size (by repeat (first | (with_reducible first | exact HB.out | apply below_alloc | apply pw_below_drewN | apply below_drew1) | exact HB.out))) : w.heap.size ≤ gb165)); have n3_ := Aside0.mk ((by rw [hg]; exact (below_size (by repeat (first | (with_reducible first | exact HB.out | apply below_alloc | apply pw_below_drewN | apply below_drew1) | exact HB.out))) : w.heap.size ≤ gb165)); clear HB; have HB := n0_; have BK165 := n1_; have GW165 := n2_; have GE165 := n3_; clear n0_ n1_ n2_ n3_; clear hb hbox hg; have hcz24_0 : w23.cell? ⟨gb165, 0, none⟩ = some (.int .i64 0) := (blk_cell BK165.out 0).trans rfl; have hcz24_1 : w23.cell? ⟨gb165, 1, none⟩ = some (.string (⟨#[]⟩ : ByteArray)) := (blk_cell BK165.out 1).trans rfl; have hcz24_2 : w23.cell? ⟨gb165, 2, none⟩ = some (.int .i64 0) := (blk_cell BK165.out 2).trans rfl; have hcz24_3 : w23.cell? ⟨gb165, 3, none⟩ = some (.int .i64 0) := (blk_cell BK165.out 3).trans rfl; have hcz24_4 : w23.cell? ⟨gb165, 4, none⟩ = some (.int .i64 0) := (blk_cell BK165.out 4).trans rfl; have hfz24_0 := blk_frozen BK165.out 0; have hfz24_1 := blk_frozen BK165.out 1; have hfz24_2 := blk_frozen BK165.out 2; have hfz24_3 := blk_frozen BK165.out 3; have hfz24_4 := blk_frozen BK165.out 4) | ((with_reducible refine gate_store (t := 33) (p := 5) rfl ?_); refine store_event (t := 33) (p := 5) (v := ?vo_w25) (w1 := (((((w23.setCell ⟨gb165, 0, none⟩ (.int .i64 ((rd_T33 l0 a1).f0))).setCell ⟨gb165, 1, none⟩ (.string ((rd_T33 l0 a1).f1))).setCell ⟨gb165, 2, none⟩ (.int .i64 ((rd_T33 l0 a1).f2))).setCell ⟨gb165, 3, none⟩ (.int .i64 ((rd_T33 l0 a1).f3))).setCell ⟨gb165, 4, none⟩ (.int .i64 ((rd_T33 l0 a1).f4)))) ?hg ?ho ?hn ?hr ?_; (case ho => rfl); (case hg => rfl); (case hn => rfl); (case hr => first | (go_simp; done) | (go_simp; rfl)); intro w25 hw; have n0_ : Aside0 (w25.heap[gb165]? = some (.cells #[.int .i64 ((rd_T33 l0 a1).f0), .string ((rd_T33 l0 a1).f1), .int .i64 ((rd_T33 l0 a1).f2), .int .i64 ((rd_T33 l0 a1).f3), .int .i64 ((rd_T33 l0 a1).f4)] 33 (0, 0))) := ⟨(by rw [hw]; exact (by (with_reducible repeat (first | refine blk_drewN ?_ _ | refine blk_drew ?_ | refine blk_alloc ?_ _)); refine blk_put (cs := #[.int .i64 ((rd_T33 l0 a1).f0), .string ((rd_T33 l0 a1).f1), .int .i64 ((rd_T33 l0 a1).f2), .int .i64 ((rd_T33 l0 a1).f3), .int .i64 0]) ?_ 4 _ rfl; (with_reducible repeat (first | refine blk_drewN ?_ _ | refine blk_drew ?_ | refine blk_alloc ?_ _)); refine blk_put (cs := #[.int .i64 ((rd_T33 l0 a1).f0), .string ((rd_T33 l0 a1).f1), .int .i64 ((rd_T33 l0 a1).f2), .int .i64 0, .int .i64 0]) ?_ 3 _ rfl; (with_reducible repeat (first | refine blk_drewN ?_ _ | refine blk_drew ?_ | refine blk_alloc ?_ _)); refine blk_put (cs := #[.int .i64 ((rd_T33 l0 a1).f0), .string ((rd_T33 l0 a1).f1), .int .i64 0, .int .i64 0, .int .i64 0]) ?_ 2 _ rfl; (with_reducible repeat (first | refine blk_drewN ?_ _ | refine blk_drew ?_ | refine blk_alloc ?_ _)); refine blk_put (cs := #[.int .i64 ((rd_T33 l0 a1).f0), .string (⟨#[]⟩ : ByteArray), .int .i64 0, .int .i64 0, .int .i64 0]) ?_ 1 _ rfl; (with_reducible repeat (first | refine blk_drewN ?_ _ | refine blk_drew ?_ | refine blk_alloc ?_ _)); refine blk_put (cs := #[.int .i64 0, .string (⟨#[]⟩ : ByteArray), .int .i64 0, .int .i64 0, .int .i64 0]) ?_ 0 _ rfl; (with_reducible repeat (first | refine blk_drewN ?_ _ | refine blk_drew ?_ | refine blk_alloc ?_ _)); exact BK165.out))⟩; have n1_ : Aside0 (Below w.heap.size w w25) := ⟨(by rw [hw]; exact (by repeat (first | (with_reducible first | exact HB.out | apply below_alloc | apply pw_below_drewN | apply below_drew1 | refine below_set ?_ GE165.out) | exact HB.out)))⟩; clear hw; clear BK165; clear HB; have BK165 := n0_; have HB := n1_; clear n0_ n1_; have hcz26_0 : w25.cell? ⟨gb165, 0, none⟩ = some (.int .i64 ((rd_T33 l0 a1).f0)) := (blk_cell BK165.out 0).trans rfl; have hcz26_1 : w25.cell? ⟨gb165, 1, none⟩ = some (.string ((rd_T33 l0 a1).f1)) := (blk_cell BK165.out 1).trans rfl; have hcz26_2 : w25.cell? ⟨gb165, 2, none⟩ = some (.int .i64 ((rd_T33 l0 a1).f2)) := (blk_cell BK165.out 2).trans rfl; have hcz26_3 : w25.cell? ⟨gb165, 3, none⟩ = some (.int .i64 ((rd_T33 l0 a1).f3)) := (blk_cell BK165.out 3).trans rfl; have hcz26_4 : w25.cell? ⟨gb165, 4, none⟩ = some (.int .i64 ((rd_T33 l0 a1).f4)) := (blk_cell BK165.out 4).trans rfl; have hfz26_0 := blk_frozen BK165.out 0; have hfz26_1 := blk_frozen BK165.out 1; have hfz26_2 := blk_frozen BK165.out 2; have hfz26_3 := blk_frozen BK165.out 3; have hfz26_4 := blk_frozen BK165.out 4) | ((with_reducible refine gate_callee (f := 43) rfl ?_); refine goesL_ (some 14) rfl rfl Tryd.func43 (by kernel_rfl) rfl #[.agg #[.int .i64 ((rd_T33 l0 a1).f0), .string ((rd_T33 l0 a1).f1), .int .i64 ((rd_T33 l0 a1).f2), .int .i64 ((rd_T33 l0 a1).f3), .int .i64 ((rd_T33 l0 a1).f4)]] rfl (by (try simp only [List.map_toArray, List.map_cons, List.map_nil]); first | done | rfl | (simp only [List.length_drop, List.length_take]; rfl)) ?_; (with_reducible refine (understudyref04_bare.calls k ((rd_T33 l0 a1).f0) ((rd_T33 l0 a1).f1) ((rd_T33 l0 a1).f2) ((rd_T33 l0 a1).f3) ((rd_T33 l0 a1).f4) true _ A5.out).mono ?_); rintro e w27 ⟨rfl, hb⟩; refine ⟨_, rfl, ?_⟩; have n0_ := Aside0.mk (blk_below (g := gb165) (o := .cells #[.int .i64 ((rd_T33 l0 a1).f0), .string ((rd_T33 l0 a1).f1), .int .i64 ((rd_T33 l0 a1).f2), .int .i64 ((rd_T33 l0 a1).f3), .int .i64 ((rd_T33 l0 a1).f4)] 33 (0, 0)) (by (with_reducible repeat (first | refine blk_drewN ?_ _ | refine blk_drew ?_ | refine blk_alloc ?_ _)); exact BK165.out) hb); have n1_ := Aside0.mk (below_step (by repeat (first | (with_reducible first | exact HB.out | apply below_alloc | apply pw_below_drewN | apply below_drew1 | refine below_set ?_ GE165.out) | exact HB.out)) hb); clear BK165; clear HB; have BK165 := n0_; have HB := n1_; clear n0_ n1_; (try clear hb); (try clear hb2); (try clear hk); (try clear hi); have hcz28_0 : w27.cell? ⟨gb165, 0, none⟩ = some (.int .i64 ((rd_T33 l0 a1).f0)) := (blk_cell BK165.out 0).trans rfl; have hcz28_1 : w27.cell? ⟨gb165, 1, none⟩ = some (.string ((rd_T33 l0 a1).f1)) := (blk_cell BK165.out 1).trans rfl; have hcz28_2 : w27.cell? ⟨gb165, 2, none⟩ = some (.int .i64 ((rd_T33 l0 a1).f2)) := (blk_cell BK165.out 2).trans rfl; have hcz28_3 : w27.cell? ⟨gb165, 3, none⟩ = some (.int .i64 ((rd_T33 l0 a1).f3)) := (blk_cell BK165.out 3).trans rfl; have hcz28_4 : w27.cell? ⟨gb165, 4, none⟩ = some (.int .i64 ((rd_T33 l0 a1).f4)) := (blk_cell BK165.out 4).trans rfl; have hfz28_0 := blk_frozen BK165.out 0; have hfz28_1 := blk_frozen BK165.out 1; have hfz28_2 := blk_frozen BK165.out 2; have hfz28_3 := blk_frozen BK165.out 3; have hfz28_4 := blk_frozen BK165.out 4))
                go_ret
                exact ⟨by first | rfl | (simp [errW_none, errW_some] <;> rfl) | (simp [*, errW_none, errW_some] <;> rfl), by repeat (first | (with_reducible first | exact HB.out | apply below_alloc | apply pw_below_drewN | apply below_drew1 | refine below_set ?_ GE165.out) | exact HB.out)⟩
              · rw [if_neg c22] at H
                have c22b0 : decide (((rd_T33 l0 a1).f2) ≤ 2147483647) = false := decide_eq_false c22
                clear c22
                obtain rfl := Option.some.inj H
                have p164 : 0 ≤ (a1 : Int) := of_decide_eq_true (by first | (with_reducible assumption) | assumption)
                have q164 : a1 < (l0.length : Int) := of_decide_eq_true (by first | (with_reducible assumption) | assumption)
                obtain ⟨ad164, e164, hx164_0, hx164_1, hx164_2, hx164_3, hx164_4⟩ := at_T33 HR0.out a1 p164 q164
                cases e164
                replace p164 := eq_true p164
                replace q164 := eq_true q164
                go_enter Tryd.func21, Tryd.ntmps21
                go_wp2_with (first | ((with_reducible refine gate_dst (N := 5) rfl ?_); (try (refine gate_guard (by rfl) ?_; dsimp only)); refine box_event ?hg (N := 5) ?hd (cs := #[.int .i64 0, .string (⟨#[]⟩ : ByteArray), .int .i64 0, .int .i64 0, .int .i64 0]) (t := 33) ?hr ?_; (case hd => rfl); (case hg => rfl); (case hr => first | (go_simp; done) | (go_simp; rfl)); intro gb165 hg w29 hbox hb; have n0_ := Aside0.mk (below_step (by repeat (first | (with_reducible first | exact HB.out | apply below_alloc | apply pw_below_drewN | apply below_drew1) | exact HB.out)) hb); have n1_ := Aside0.mk (hbox); have n2_ := Aside0.mk ((by rw [hg]; exact (below_size (by repeat (first | (with_reducible first | exact HB.out | apply below_alloc | apply pw_below_drewN | apply below_drew1) | exact HB.out))) : w.heap.size ≤ gb165)); have n3_ := Aside0.mk ((by rw [hg]; exact (below_size (by repeat (first | (with_reducible first | exact HB.out | apply below_alloc | apply pw_below_drewN | apply below_drew1) | exact HB.out))) : w.heap.size ≤ gb165)); clear HB; have HB := n0_; have BK165 := n1_; have GW165 := n2_; have GE165 := n3_; clear n0_ n1_ n2_ n3_; clear hb hbox hg; have hcz30_0 : w29.cell? ⟨gb165, 0, none⟩ = some (.int .i64 0) := (blk_cell BK165.out 0).trans rfl; have hcz30_1 : w29.cell? ⟨gb165, 1, none⟩ = some (.string (⟨#[]⟩ : ByteArray)) := (blk_cell BK165.out 1).trans rfl; have hcz30_2 : w29.cell? ⟨gb165, 2, none⟩ = some (.int .i64 0) := (blk_cell BK165.out 2).trans rfl; have hcz30_3 : w29.cell? ⟨gb165, 3, none⟩ = some (.int .i64 0) := (blk_cell BK165.out 3).trans rfl; have hcz30_4 : w29.cell? ⟨gb165, 4, none⟩ = some (.int .i64 0) := (blk_cell BK165.out 4).trans rfl; have hfz30_0 := blk_frozen BK165.out 0; have hfz30_1 := blk_frozen BK165.out 1; have hfz30_2 := blk_frozen BK165.out 2; have hfz30_3 := blk_frozen BK165.out 3; have hfz30_4 := blk_frozen BK165.out 4) | ((with_reducible refine gate_store (t := 33) (p := 5) rfl ?_); refine store_event (t := 33) (p := 5) (v := ?vo_w31) (w1 := (((((w29.setCell ⟨gb165, 0, none⟩ (.int .i64 ((rd_T33 l0 a1).f0))).setCell ⟨gb165, 1, none⟩ (.string ((rd_T33 l0 a1).f1))).setCell ⟨gb165, 2, none⟩ (.int .i64 ((rd_T33 l0 a1).f2))).setCell ⟨gb165, 3, none⟩ (.int .i64 ((rd_T33 l0 a1).f3))).setCell ⟨gb165, 4, none⟩ (.int .i64 ((rd_T33 l0 a1).f4)))) ?hg ?ho ?hn ?hr ?_; (case ho => rfl); (case hg => rfl); (case hn => rfl); (case hr => first | (go_simp; done) | (go_simp; rfl)); intro w31 hw; have n0_ : Aside0 (w31.heap[gb165]? = some (.cells #[.int .i64 ((rd_T33 l0 a1).f0), .string ((rd_T33 l0 a1).f1), .int .i64 ((rd_T33 l0 a1).f2), .int .i64 ((rd_T33 l0 a1).f3), .int .i64 ((rd_T33 l0 a1).f4)] 33 (0, 0))) := ⟨(by rw [hw]; exact (by (with_reducible repeat (first | refine blk_drewN ?_ _ | refine blk_drew ?_ | refine blk_alloc ?_ _)); refine blk_put (cs := #[.int .i64 ((rd_T33 l0 a1).f0), .string ((rd_T33 l0 a1).f1), .int .i64 ((rd_T33 l0 a1).f2), .int .i64 ((rd_T33 l0 a1).f3), .int .i64 0]) ?_ 4 _ rfl; (with_reducible repeat (first | refine blk_drewN ?_ _ | refine blk_drew ?_ | refine blk_alloc ?_ _)); refine blk_put (cs := #[.int .i64 ((rd_T33 l0 a1).f0), .string ((rd_T33 l0 a1).f1), .int .i64 ((rd_T33 l0 a1).f2), .int .i64 0, .int .i64 0]) ?_ 3 _ rfl; (with_reducible repeat (first | refine blk_drewN ?_ _ | refine blk_drew ?_ | refine blk_alloc ?_ _)); refine blk_put (cs := #[.int .i64 ((rd_T33 l0 a1).f0), .string ((rd_T33 l0 a1).f1), .int .i64 0, .int .i64 0, .int .i64 0]) ?_ 2 _ rfl; (with_reducible repeat (first | refine blk_drewN ?_ _ | refine blk_drew ?_ | refine blk_alloc ?_ _)); refine blk_put (cs := #[.int .i64 ((rd_T33 l0 a1).f0), .string (⟨#[]⟩ : ByteArray), .int .i64 0, .int .i64 0, .int .i64 0]) ?_ 1 _ rfl; (with_reducible repeat (first | refine blk_drewN ?_ _ | refine blk_drew ?_ | refine blk_alloc ?_ _)); refine blk_put (cs := #[.int .i64 0, .string (⟨#[]⟩ : ByteArray), .int .i64 0, .int .i64 0, .int .i64 0]) ?_ 0 _ rfl; (with_reducible repeat (first | refine blk_drewN ?_ _ | refine blk_drew ?_ | refine blk_alloc ?_ _)); exact BK165.out))⟩; have n1_ : Aside0 (Below w.heap.size w w31) := ⟨(by rw [hw]; exact (by repeat (first | (with_reducible first | exact HB.out | apply below_alloc | apply pw_below_drewN | apply below_drew1 | refine below_set ?_ GE165.out) | exact HB.out)))⟩; clear hw; clear BK165; clear HB; have BK165 := n0_; have HB := n1_; clear n0_ n1_; have hcz32_0 : w31.cell? ⟨gb165, 0, none⟩ = some (.int .i64 ((rd_T33 l0 a1).f0)) := (blk_cell BK165.out 0).trans rfl; have hcz32_1 : w31.cell? ⟨gb165, 1, none⟩ = some (.string ((rd_T33 l0 a1).f1)) := (blk_cell BK165.out 1).trans rfl; have hcz32_2 : w31.cell? ⟨gb165, 2, none⟩ = some (.int .i64 ((rd_T33 l0 a1).f2)) := (blk_cell BK165.out 2).trans rfl; have hcz32_3 : w31.cell? ⟨gb165, 3, none⟩ = some (.int .i64 ((rd_T33 l0 a1).f3)) := (blk_cell BK165.out 3).trans rfl; have hcz32_4 : w31.cell? ⟨gb165, 4, none⟩ = some (.int .i64 ((rd_T33 l0 a1).f4)) := (blk_cell BK165.out 4).trans rfl; have hfz32_0 := blk_frozen BK165.out 0; have hfz32_1 := blk_frozen BK165.out 1; have hfz32_2 := blk_frozen BK165.out 2; have hfz32_3 := blk_frozen BK165.out 3; have hfz32_4 := blk_frozen BK165.out 4) | ((with_reducible refine gate_callee (f := 43) rfl ?_); refine goesL_ (some 14) rfl rfl Tryd.func43 (by kernel_rfl) rfl #[.agg #[.int .i64 ((rd_T33 l0 a1).f0), .string ((rd_T33 l0 a1).f1), .int .i64 ((rd_T33 l0 a1).f2), .int .i64 ((rd_T33 l0 a1).f3), .int .i64 ((rd_T33 l0 a1).f4)]] rfl (by (try simp only [List.map_toArray, List.map_cons, List.map_nil]); first | done | rfl | (simp only [List.length_drop, List.length_take]; rfl)) ?_; (with_reducible refine (understudyref04_bare.calls k ((rd_T33 l0 a1).f0) ((rd_T33 l0 a1).f1) ((rd_T33 l0 a1).f2) ((rd_T33 l0 a1).f3) ((rd_T33 l0 a1).f4) true _ A5.out).mono ?_); rintro e w33 ⟨rfl, hb⟩; refine ⟨_, rfl, ?_⟩; have n0_ := Aside0.mk (blk_below (g := gb165) (o := .cells #[.int .i64 ((rd_T33 l0 a1).f0), .string ((rd_T33 l0 a1).f1), .int .i64 ((rd_T33 l0 a1).f2), .int .i64 ((rd_T33 l0 a1).f3), .int .i64 ((rd_T33 l0 a1).f4)] 33 (0, 0)) (by (with_reducible repeat (first | refine blk_drewN ?_ _ | refine blk_drew ?_ | refine blk_alloc ?_ _)); exact BK165.out) hb); have n1_ := Aside0.mk (below_step (by repeat (first | (with_reducible first | exact HB.out | apply below_alloc | apply pw_below_drewN | apply below_drew1 | refine below_set ?_ GE165.out) | exact HB.out)) hb); clear BK165; clear HB; have BK165 := n0_; have HB := n1_; clear n0_ n1_; (try clear hb); (try clear hb2); (try clear hk); (try clear hi); have hcz34_0 : w33.cell? ⟨gb165, 0, none⟩ = some (.int .i64 ((rd_T33 l0 a1).f0)) := (blk_cell BK165.out 0).trans rfl; have hcz34_1 : w33.cell? ⟨gb165, 1, none⟩ = some (.string ((rd_T33 l0 a1).f1)) := (blk_cell BK165.out 1).trans rfl; have hcz34_2 : w33.cell? ⟨gb165, 2, none⟩ = some (.int .i64 ((rd_T33 l0 a1).f2)) := (blk_cell BK165.out 2).trans rfl; have hcz34_3 : w33.cell? ⟨gb165, 3, none⟩ = some (.int .i64 ((rd_T33 l0 a1).f3)) := (blk_cell BK165.out 3).trans rfl; have hcz34_4 : w33.cell? ⟨gb165, 4, none⟩ = some (.int .i64 ((rd_T33 l0 a1).f4)) := (blk_cell BK165.out 4).trans rfl; have hfz34_0 := blk_frozen BK165.out 0; have hfz34_1 := blk_frozen BK165.out 1; have hfz34_2 := blk_frozen BK165.out 2; have hfz34_3 := blk_frozen BK165.out 3; have hfz34_4 := blk_frozen BK165.out 4))
                go_ret
                exact ⟨by first | rfl | (simp [errW_none, errW_some] <;> rfl) | (simp [*, errW_none, errW_some] <;> rfl), by repeat (first | (with_reducible first | exact HB.out | apply below_alloc | apply pw_below_drewN | apply below_drew1 | refine below_set ?_ GE165.out) | exact HB.out)⟩
            · rw [if_neg c21] at H
              have c21b0 : decide ((-2147483648) ≤ ((rd_T33 l0 a1).f2)) = false := decide_eq_false c21
              clear c21
              obtain rfl := Option.some.inj H
              have p164 : 0 ≤ (a1 : Int) := of_decide_eq_true (by first | (with_reducible assumption) | assumption)
              have q164 : a1 < (l0.length : Int) := of_decide_eq_true (by first | (with_reducible assumption) | assumption)
              obtain ⟨ad164, e164, hx164_0, hx164_1, hx164_2, hx164_3, hx164_4⟩ := at_T33 HR0.out a1 p164 q164
              cases e164
              replace p164 := eq_true p164
              replace q164 := eq_true q164
              go_enter Tryd.func21, Tryd.ntmps21
              go_wp2_with (first | ((with_reducible refine gate_dst (N := 5) rfl ?_); (try (refine gate_guard (by rfl) ?_; dsimp only)); refine box_event ?hg (N := 5) ?hd (cs := #[.int .i64 0, .string (⟨#[]⟩ : ByteArray), .int .i64 0, .int .i64 0, .int .i64 0]) (t := 33) ?hr ?_; (case hd => rfl); (case hg => rfl); (case hr => first | (go_simp; done) | (go_simp; rfl)); intro gb165 hg w35 hbox hb; have n0_ := Aside0.mk (below_step (by repeat (first | (with_reducible first | exact HB.out | apply below_alloc | apply pw_below_drewN | apply below_drew1) | exact HB.out)) hb); have n1_ := Aside0.mk (hbox); have n2_ := Aside0.mk ((by rw [hg]; exact (below_size (by repeat (first | (with_reducible first | exact HB.out | apply below_alloc | apply pw_below_drewN | apply below_drew1) | exact HB.out))) : w.heap.size ≤ gb165)); have n3_ := Aside0.mk ((by rw [hg]; exact (below_size (by repeat (first | (with_reducible first | exact HB.out | apply below_alloc | apply pw_below_drewN | apply below_drew1) | exact HB.out))) : w.heap.size ≤ gb165)); clear HB; have HB := n0_; have BK165 := n1_; have GW165 := n2_; have GE165 := n3_; clear n0_ n1_ n2_ n3_; clear hb hbox hg; have hcz36_0 : w35.cell? ⟨gb165, 0, none⟩ = some (.int .i64 0) := (blk_cell BK165.out 0).trans rfl; have hcz36_1 : w35.cell? ⟨gb165, 1, none⟩ = some (.string (⟨#[]⟩ : ByteArray)) := (blk_cell BK165.out 1).trans rfl; have hcz36_2 : w35.cell? ⟨gb165, 2, none⟩ = some (.int .i64 0) := (blk_cell BK165.out 2).trans rfl; have hcz36_3 : w35.cell? ⟨gb165, 3, none⟩ = some (.int .i64 0) := (blk_cell BK165.out 3).trans rfl; have hcz36_4 : w35.cell? ⟨gb165, 4, none⟩ = some (.int .i64 0) := (blk_cell BK165.out 4).trans rfl; have hfz36_0 := blk_frozen BK165.out 0; have hfz36_1 := blk_frozen BK165.out 1; have hfz36_2 := blk_frozen BK165.out 2; have hfz36_3 := blk_frozen BK165.out 3; have hfz36_4 := blk_frozen BK165.out 4) | ((with_reducible refine gate_store (t := 33) (p := 5) rfl ?_); refine store_event (t := 33) (p := 5) (v := ?vo_w37) (w1 := (((((w35.setCell ⟨gb165, 0, none⟩ (.int .i64 ((rd_T33 l0 a1).f0))).setCell ⟨gb165, 1, none⟩ (.string ((rd_T33 l0 a1).f1))).setCell ⟨gb165, 2, none⟩ (.int .i64 ((rd_T33 l0 a1).f2))).setCell ⟨gb165, 3, none⟩ (.int .i64 ((rd_T33 l0 a1).f3))).setCell ⟨gb165, 4, none⟩ (.int .i64 ((rd_T33 l0 a1).f4)))) ?hg ?ho ?hn ?hr ?_; (case ho => rfl); (case hg => rfl); (case hn => rfl); (case hr => first | (go_simp; done) | (go_simp; rfl)); intro w37 hw; have n0_ : Aside0 (w37.heap[gb165]? = some (.cells #[.int .i64 ((rd_T33 l0 a1).f0), .string ((rd_T33 l0 a1).f1), .int .i64 ((rd_T33 l0 a1).f2), .int .i64 ((rd_T33 l0 a1).f3), .int .i64 ((rd_T33 l0 a1).f4)] 33 (0, 0))) := ⟨(by rw [hw]; exact (by (with_reducible repeat (first | refine blk_drewN ?_ _ | refine blk_drew ?_ | refine blk_alloc ?_ _)); refine blk_put (cs := #[.int .i64 ((rd_T33 l0 a1).f0), .string ((rd_T33 l0 a1).f1), .int .i64 ((rd_T33 l0 a1).f2), .int .i64 ((rd_T33 l0 a1).f3), .int .i64 0]) ?_ 4 _ rfl; (with_reducible repeat (first | refine blk_drewN ?_ _ | refine blk_drew ?_ | refine blk_alloc ?_ _)); refine blk_put (cs := #[.int .i64 ((rd_T33 l0 a1).f0), .string ((rd_T33 l0 a1).f1), .int .i64 ((rd_T33 l0 a1).f2), .int .i64 0, .int .i64 0]) ?_ 3 _ rfl; (with_reducible repeat (first | refine blk_drewN ?_ _ | refine blk_drew ?_ | refine blk_alloc ?_ _)); refine blk_put (cs := #[.int .i64 ((rd_T33 l0 a1).f0), .string ((rd_T33 l0 a1).f1), .int .i64 0, .int .i64 0, .int .i64 0]) ?_ 2 _ rfl; (with_reducible repeat (first | refine blk_drewN ?_ _ | refine blk_drew ?_ | refine blk_alloc ?_ _)); refine blk_put (cs := #[.int .i64 ((rd_T33 l0 a1).f0), .string (⟨#[]⟩ : ByteArray), .int .i64 0, .int .i64 0, .int .i64 0]) ?_ 1 _ rfl; (with_reducible repeat (first | refine blk_drewN ?_ _ | refine blk_drew ?_ | refine blk_alloc ?_ _)); refine blk_put (cs := #[.int .i64 0, .string (⟨#[]⟩ : ByteArray), .int .i64 0, .int .i64 0, .int .i64 0]) ?_ 0 _ rfl; (with_reducible repeat (first | refine blk_drewN ?_ _ | refine blk_drew ?_ | refine blk_alloc ?_ _)); exact BK165.out))⟩; have n1_ : Aside0 (Below w.heap.size w w37) := ⟨(by rw [hw]; exact (by repeat (first | (with_reducible first | exact HB.out | apply below_alloc | apply pw_below_drewN | apply below_drew1 | refine below_set ?_ GE165.out) | exact HB.out)))⟩; clear hw; clear BK165; clear HB; have BK165 := n0_; have HB := n1_; clear n0_ n1_; have hcz38_0 : w37.cell? ⟨gb165, 0, none⟩ = some (.int .i64 ((rd_T33 l0 a1).f0)) := (blk_cell BK165.out 0).trans rfl; have hcz38_1 : w37.cell? ⟨gb165, 1, none⟩ = some (.string ((rd_T33 l0 a1).f1)) := (blk_cell BK165.out 1).trans rfl; have hcz38_2 : w37.cell? ⟨gb165, 2, none⟩ = some (.int .i64 ((rd_T33 l0 a1).f2)) := (blk_cell BK165.out 2).trans rfl; have hcz38_3 : w37.cell? ⟨gb165, 3, none⟩ = some (.int .i64 ((rd_T33 l0 a1).f3)) := (blk_cell BK165.out 3).trans rfl; have hcz38_4 : w37.cell? ⟨gb165, 4, none⟩ = some (.int .i64 ((rd_T33 l0 a1).f4)) := (blk_cell BK165.out 4).trans rfl; have hfz38_0 := blk_frozen BK165.out 0; have hfz38_1 := blk_frozen BK165.out 1; have hfz38_2 := blk_frozen BK165.out 2; have hfz38_3 := blk_frozen BK165.out 3; have hfz38_4 := blk_frozen BK165.out 4) | ((with_reducible refine gate_callee (f := 43) rfl ?_); refine goesL_ (some 14) rfl rfl Tryd.func43 (by kernel_rfl) rfl #[.agg #[.int .i64 ((rd_T33 l0 a1).f0), .string ((rd_T33 l0 a1).f1), .int .i64 ((rd_T33 l0 a1).f2), .int .i64 ((rd_T33 l0 a1).f3), .int .i64 ((rd_T33 l0 a1).f4)]] rfl (by (try simp only [List.map_toArray, List.map_cons, List.map_nil]); first | done | rfl | (simp only [List.length_drop, List.length_take]; rfl)) ?_; (with_reducible refine (understudyref04_bare.calls k ((rd_T33 l0 a1).f0) ((rd_T33 l0 a1).f1) ((rd_T33 l0 a1).f2) ((rd_T33 l0 a1).f3) ((rd_T33 l0 a1).f4) true _ A5.out).mono ?_); rintro e w39 ⟨rfl, hb⟩; refine ⟨_, rfl, ?_⟩; have n0_ := Aside0.mk (blk_below (g := gb165) (o := .cells #[.int .i64 ((rd_T33 l0 a1).f0), .string ((rd_T33 l0 a1).f1), .int .i64 ((rd_T33 l0 a1).f2), .int .i64 ((rd_T33 l0 a1).f3), .int .i64 ((rd_T33 l0 a1).f4)] 33 (0, 0)) (by (with_reducible repeat (first | refine blk_drewN ?_ _ | refine blk_drew ?_ | refine blk_alloc ?_ _)); exact BK165.out) hb); have n1_ := Aside0.mk (below_step (by repeat (first | (with_reducible first | exact HB.out | apply below_alloc | apply pw_below_drewN | apply below_drew1 | refine below_set ?_ GE165.out) | exact HB.out)) hb); clear BK165; clear HB; have BK165 := n0_; have HB := n1_; clear n0_ n1_; (try clear hb); (try clear hb2); (try clear hk); (try clear hi); have hcz40_0 : w39.cell? ⟨gb165, 0, none⟩ = some (.int .i64 ((rd_T33 l0 a1).f0)) := (blk_cell BK165.out 0).trans rfl; have hcz40_1 : w39.cell? ⟨gb165, 1, none⟩ = some (.string ((rd_T33 l0 a1).f1)) := (blk_cell BK165.out 1).trans rfl; have hcz40_2 : w39.cell? ⟨gb165, 2, none⟩ = some (.int .i64 ((rd_T33 l0 a1).f2)) := (blk_cell BK165.out 2).trans rfl; have hcz40_3 : w39.cell? ⟨gb165, 3, none⟩ = some (.int .i64 ((rd_T33 l0 a1).f3)) := (blk_cell BK165.out 3).trans rfl; have hcz40_4 : w39.cell? ⟨gb165, 4, none⟩ = some (.int .i64 ((rd_T33 l0 a1).f4)) := (blk_cell BK165.out 4).trans rfl; have hfz40_0 := blk_frozen BK165.out 0; have hfz40_1 := blk_frozen BK165.out 1; have hfz40_2 := blk_frozen BK165.out 2; have hfz40_3 := blk_frozen BK165.out 3; have hfz40_4 := blk_frozen BK165.out 4))
              go_ret
              exact ⟨by first | rfl | (simp [errW_none, errW_some] <;> rfl) | (simp [*, errW_none, errW_some] <;> rfl), by repeat (first | (with_reducible first | exact HB.out | apply below_alloc | apply pw_below_drewN | apply below_drew1 | refine below_set ?_ GE165.out) | exact HB.out)⟩
          · rw [if_neg c20] at H
            have c20b0 : (((rd_T33 l0 a1).f0) == 3) = false := beq_eq_false_iff_ne.mpr c20
            have c20b1 : (((rd_T33 l0 a1).f0) != 3) = true := bne_iff_ne.mpr c20
            by_cases c41 : ((rd_T33 l0 a1).f0) = 5
            · rw [if_pos c41] at H
              have c41b0 : (((rd_T33 l0 a1).f0) == 5) = true := beq_iff_eq.mpr c41
              have c41b1 : (((rd_T33 l0 a1).f0) != 5) = false := bne_eq_false_iff_eq.mpr c41
              clear c41
              obtain rfl := Option.some.inj H
              have p164 : 0 ≤ (a1 : Int) := of_decide_eq_true (by first | (with_reducible assumption) | assumption)
              have q164 : a1 < (l0.length : Int) := of_decide_eq_true (by first | (with_reducible assumption) | assumption)
              obtain ⟨ad164, e164, hx164_0, hx164_1, hx164_2, hx164_3, hx164_4⟩ := at_T33 HR0.out a1 p164 q164
              cases e164
              replace p164 := eq_true p164
              replace q164 := eq_true q164
              go_enter Tryd.func21, Tryd.ntmps21
              go_wp2_with (first | ((with_reducible refine gate_dst (N := 5) rfl ?_); (try (refine gate_guard (by rfl) ?_; dsimp only)); refine box_event ?hg (N := 5) ?hd (cs := #[.int .i64 0, .string (⟨#[]⟩ : ByteArray), .int .i64 0, .int .i64 0, .int .i64 0]) (t := 33) ?hr ?_; (case hd => rfl); (case hg => rfl); (case hr => first | (go_simp; done) | (go_simp; rfl)); intro gb165 hg w42 hbox hb; have n0_ := Aside0.mk (below_step (by repeat (first | (with_reducible first | exact HB.out | apply below_alloc | apply pw_below_drewN | apply below_drew1) | exact HB.out)) hb); have n1_ := Aside0.mk (hbox); have n2_ := Aside0.mk ((by rw [hg]; exact (below_size (by repeat (first | (with_reducible first | exact HB.out | apply below_alloc | apply pw_below_drewN | apply below_drew1) | exact HB.out))) : w.heap.size ≤ gb165)); have n3_ := Aside0.mk ((by rw [hg]; exact (below_size (by repeat (first | (with_reducible first | exact HB.out | apply below_alloc | apply pw_below_drewN | apply below_drew1) | exact HB.out))) : w.heap.size ≤ gb165)); clear HB; have HB := n0_; have BK165 := n1_; have GW165 := n2_; have GE165 := n3_; clear n0_ n1_ n2_ n3_; clear hb hbox hg; have hcz43_0 : w42.cell? ⟨gb165, 0, none⟩ = some (.int .i64 0) := (blk_cell BK165.out 0).trans rfl; have hcz43_1 : w42.cell? ⟨gb165, 1, none⟩ = some (.string (⟨#[]⟩ : ByteArray)) := (blk_cell BK165.out 1).trans rfl; have hcz43_2 : w42.cell? ⟨gb165, 2, none⟩ = some (.int .i64 0) := (blk_cell BK165.out 2).trans rfl; have hcz43_3 : w42.cell? ⟨gb165, 3, none⟩ = some (.int .i64 0) := (blk_cell BK165.out 3).trans rfl; have hcz43_4 : w42.cell? ⟨gb165, 4, none⟩ = some (.int .i64 0) := (blk_cell BK165.out 4).trans rfl; have hfz43_0 := blk_frozen BK165.out 0; have hfz43_1 := blk_frozen BK165.out 1; have hfz43_2 := blk_frozen BK165.out 2; have hfz43_3 := blk_frozen BK165.out 3; have hfz43_4 := blk_frozen BK165.out 4) | ((with_reducible refine gate_store (t := 33) (p := 5) rfl ?_); refine store_event (t := 33) (p := 5) (v := ?vo_w44) (w1 := (((((w42.setCell ⟨gb165, 0, none⟩ (.int .i64 ((rd_T33 l0 a1).f0))).setCell ⟨gb165, 1, none⟩ (.string ((rd_T33 l0 a1).f1))).setCell ⟨gb165, 2, none⟩ (.int .i64 ((rd_T33 l0 a1).f2))).setCell ⟨gb165, 3, none⟩ (.int .i64 ((rd_T33 l0 a1).f3))).setCell ⟨gb165, 4, none⟩ (.int .i64 ((rd_T33 l0 a1).f4)))) ?hg ?ho ?hn ?hr ?_; (case ho => rfl); (case hg => rfl); (case hn => rfl); (case hr => first | (go_simp; done) | (go_simp; rfl)); intro w44 hw; have n0_ : Aside0 (w44.heap[gb165]? = some (.cells #[.int .i64 ((rd_T33 l0 a1).f0), .string ((rd_T33 l0 a1).f1), .int .i64 ((rd_T33 l0 a1).f2), .int .i64 ((rd_T33 l0 a1).f3), .int .i64 ((rd_T33 l0 a1).f4)] 33 (0, 0))) := ⟨(by rw [hw]; exact (by (with_reducible repeat (first | refine blk_drewN ?_ _ | refine blk_drew ?_ | refine blk_alloc ?_ _)); refine blk_put (cs := #[.int .i64 ((rd_T33 l0 a1).f0), .string ((rd_T33 l0 a1).f1), .int .i64 ((rd_T33 l0 a1).f2), .int .i64 ((rd_T33 l0 a1).f3), .int .i64 0]) ?_ 4 _ rfl; (with_reducible repeat (first | refine blk_drewN ?_ _ | refine blk_drew ?_ | refine blk_alloc ?_ _)); refine blk_put (cs := #[.int .i64 ((rd_T33 l0 a1).f0), .string ((rd_T33 l0 a1).f1), .int .i64 ((rd_T33 l0 a1).f2), .int .i64 0, .int .i64 0]) ?_ 3 _ rfl; (with_reducible repeat (first | refine blk_drewN ?_ _ | refine blk_drew ?_ | refine blk_alloc ?_ _)); refine blk_put (cs := #[.int .i64 ((rd_T33 l0 a1).f0), .string ((rd_T33 l0 a1).f1), .int .i64 0, .int .i64 0, .int .i64 0]) ?_ 2 _ rfl; (with_reducible repeat (first | refine blk_drewN ?_ _ | refine blk_drew ?_ | refine blk_alloc ?_ _)); refine blk_put (cs := #[.int .i64 ((rd_T33 l0 a1).f0), .string (⟨#[]⟩ : ByteArray), .int .i64 0, .int .i64 0, .int .i64 0]) ?_ 1 _ rfl; (with_reducible repeat (first | refine blk_drewN ?_ _ | refine blk_drew ?_ | refine blk_alloc ?_ _)); refine blk_put (cs := #[.int .i64 0, .string (⟨#[]⟩ : ByteArray), .int .i64 0, .int .i64 0, .int .i64 0]) ?_ 0 _ rfl; (with_reducible repeat (first | refine blk_drewN ?_ _ | refine blk_drew ?_ | refine blk_alloc ?_ _)); exact BK165.out))⟩; have n1_ : Aside0 (Below w.heap.size w w44) := ⟨(by rw [hw]; exact (by repeat (first | (with_reducible first | exact HB.out | apply below_alloc | apply pw_below_drewN | apply below_drew1 | refine below_set ?_ GE165.out) | exact HB.out)))⟩; clear hw; clear BK165; clear HB; have BK165 := n0_; have HB := n1_; clear n0_ n1_; have hcz45_0 : w44.cell? ⟨gb165, 0, none⟩ = some (.int .i64 ((rd_T33 l0 a1).f0)) := (blk_cell BK165.out 0).trans rfl; have hcz45_1 : w44.cell? ⟨gb165, 1, none⟩ = some (.string ((rd_T33 l0 a1).f1)) := (blk_cell BK165.out 1).trans rfl; have hcz45_2 : w44.cell? ⟨gb165, 2, none⟩ = some (.int .i64 ((rd_T33 l0 a1).f2)) := (blk_cell BK165.out 2).trans rfl; have hcz45_3 : w44.cell? ⟨gb165, 3, none⟩ = some (.int .i64 ((rd_T33 l0 a1).f3)) := (blk_cell BK165.out 3).trans rfl; have hcz45_4 : w44.cell? ⟨gb165, 4, none⟩ = some (.int .i64 ((rd_T33 l0 a1).f4)) := (blk_cell BK165.out 4).trans rfl; have hfz45_0 := blk_frozen BK165.out 0; have hfz45_1 := blk_frozen BK165.out 1; have hfz45_2 := blk_frozen BK165.out 2; have hfz45_3 := blk_frozen BK165.out 3; have hfz45_4 := blk_frozen BK165.out 4) | ((with_reducible refine gate_callee (f := 43) rfl ?_); refine goesL_ (some 14) rfl rfl Tryd.func43 (by kernel_rfl) rfl #[.agg #[.int .i64 ((rd_T33 l0 a1).f0), .string ((rd_T33 l0 a1).f1), .int .i64 ((rd_T33 l0 a1).f2), .int .i64 ((rd_T33 l0 a1).f3), .int .i64 ((rd_T33 l0 a1).f4)]] rfl (by (try simp only [List.map_toArray, List.map_cons, List.map_nil]); first | done | rfl | (simp only [List.length_drop, List.length_take]; rfl)) ?_; (with_reducible refine (understudyref04_bare.calls k ((rd_T33 l0 a1).f0) ((rd_T33 l0 a1).f1) ((rd_T33 l0 a1).f2) ((rd_T33 l0 a1).f3) ((rd_T33 l0 a1).f4) true _ A5.out).mono ?_); rintro e w46 ⟨rfl, hb⟩; refine ⟨_, rfl, ?_⟩; have n0_ := Aside0.mk (blk_below (g := gb165) (o := .cells #[.int .i64 ((rd_T33 l0 a1).f0), .string ((rd_T33 l0 a1).f1), .int .i64 ((rd_T33 l0 a1).f2), .int .i64 ((rd_T33 l0 a1).f3), .int .i64 ((rd_T33 l0 a1).f4)] 33 (0, 0)) (by (with_reducible repeat (first | refine blk_drewN ?_ _ | refine blk_drew ?_ | refine blk_alloc ?_ _)); exact BK165.out) hb); have n1_ := Aside0.mk (below_step (by repeat (first | (with_reducible first | exact HB.out | apply below_alloc | apply pw_below_drewN | apply below_drew1 | refine below_set ?_ GE165.out) | exact HB.out)) hb); clear BK165; clear HB; have BK165 := n0_; have HB := n1_; clear n0_ n1_; (try clear hb); (try clear hb2); (try clear hk); (try clear hi); have hcz47_0 : w46.cell? ⟨gb165, 0, none⟩ = some (.int .i64 ((rd_T33 l0 a1).f0)) := (blk_cell BK165.out 0).trans rfl; have hcz47_1 : w46.cell? ⟨gb165, 1, none⟩ = some (.string ((rd_T33 l0 a1).f1)) := (blk_cell BK165.out 1).trans rfl; have hcz47_2 : w46.cell? ⟨gb165, 2, none⟩ = some (.int .i64 ((rd_T33 l0 a1).f2)) := (blk_cell BK165.out 2).trans rfl; have hcz47_3 : w46.cell? ⟨gb165, 3, none⟩ = some (.int .i64 ((rd_T33 l0 a1).f3)) := (blk_cell BK165.out 3).trans rfl; have hcz47_4 : w46.cell? ⟨gb165, 4, none⟩ = some (.int .i64 ((rd_T33 l0 a1).f4)) := (blk_cell BK165.out 4).trans rfl; have hfz47_0 := blk_frozen BK165.out 0; have hfz47_1 := blk_frozen BK165.out 1; have hfz47_2 := blk_frozen BK165.out 2; have hfz47_3 := blk_frozen BK165.out 3; have hfz47_4 := blk_frozen BK165.out 4))
              go_ret
              exact ⟨by first | rfl | (simp [errW_none, errW_some] <;> rfl) | (simp [*, errW_none, errW_some] <;> rfl), by repeat (first | (with_reducible first | exact HB.out | apply below_alloc | apply pw_below_drewN | apply below_drew1 | refine below_set ?_ GE165.out) | exact HB.out)⟩
            · rw [if_neg c41] at H
              have c41b0 : (((rd_T33 l0 a1).f0) == 5) = false := beq_eq_false_iff_ne.mpr c41
              have c41b1 : (((rd_T33 l0 a1).f0) != 5) = true := bne_iff_ne.mpr c41
              by_cases c48 : ((rd_T33 l0 a1).f0) = 7
              · rw [if_pos c48] at H
                have c48b0 : (((rd_T33 l0 a1).f0) == 7) = true := beq_iff_eq.mpr c48
                have c48b1 : (((rd_T33 l0 a1).f0) != 7) = false := bne_eq_false_iff_eq.mpr c48
                clear c48
                replace H := Option.bind_eq_some_iff.mp H
                obtain ⟨t171, A490, H⟩ := H
                replace H : (if t171 = true then (some 0) else (some 40)) = some r := H
                have A49 := Aside0.mk A490
                clear A490
                by_cases c50 : t171 = true
                · subst c50
                  have H1 : (some 0) = some r := by rw [if_pos rfl] at H; exact H
                  clear H
                  have H := H1
                  clear H1
                  obtain rfl := Option.some.inj H
                  have p164 : 0 ≤ (a1 : Int) := of_decide_eq_true (by first | (with_reducible assumption) | assumption)
                  have q164 : a1 < (l0.length : Int) := of_decide_eq_true (by first | (with_reducible assumption) | assumption)
                  obtain ⟨ad164, e164, hx164_0, hx164_1, hx164_2, hx164_3, hx164_4⟩ := at_T33 HR0.out a1 p164 q164
                  cases e164
                  replace p164 := eq_true p164
                  replace q164 := eq_true q164
                  go_enter Tryd.func21, Tryd.ntmps21
                  go_wp2_with (first | ((with_reducible refine gate_dst (N := 5) rfl ?_); (try (refine gate_guard (by rfl) ?_; dsimp only)); refine box_event ?hg (N := 5) ?hd (cs := #[.int .i64 0, .string (⟨#[]⟩ : ByteArray), .int .i64 0, .int .i64 0, .int .i64 0]) (t := 33) ?hr ?_; (case hd => rfl); (case hg => rfl); (case hr => first | (go_simp; done) | (go_simp; rfl)); intro gb165 hg w51 hbox hb; have n0_ := Aside0.mk (below_step (by repeat (first | (with_reducible first | exact HB.out | apply below_alloc | apply pw_below_drewN | apply below_drew1) | exact HB.out)) hb); have n1_ := Aside0.mk (hbox); have n2_ := Aside0.mk ((by rw [hg]; exact (below_size (by repeat (first | (with_reducible first | exact HB.out | apply below_alloc | apply pw_below_drewN | apply below_drew1) | exact HB.out))) : w.heap.size ≤ gb165)); have n3_ := Aside0.mk ((by rw [hg]; exact (below_size (by repeat (first | (with_reducible first | exact HB.out | apply below_alloc | apply pw_below_drewN | apply below_drew1) | exact HB.out))) : w.heap.size ≤ gb165)); clear HB; have HB := n0_; have BK165 := n1_; have GW165 := n2_; have GE165 := n3_; clear n0_ n1_ n2_ n3_; clear hb hbox hg; have hcz52_0 : w51.cell? ⟨gb165, 0, none⟩ = some (.int .i64 0) := (blk_cell BK165.out 0).trans rfl; have hcz52_1 : w51.cell? ⟨gb165, 1, none⟩ = some (.string (⟨#[]⟩ : ByteArray)) := (blk_cell BK165.out 1).trans rfl; have hcz52_2 : w51.cell? ⟨gb165, 2, none⟩ = some (.int .i64 0) := (blk_cell BK165.out 2).trans rfl; have hcz52_3 : w51.cell? ⟨gb165, 3, none⟩ = some (.int .i64 0) := (blk_cell BK165.out 3).trans rfl; have hcz52_4 : w51.cell? ⟨gb165, 4, none⟩ = some (.int .i64 0) := (blk_cell BK165.out 4).trans rfl; have hfz52_0 := blk_frozen BK165.out 0; have hfz52_1 := blk_frozen BK165.out 1; have hfz52_2 := blk_frozen BK165.out 2; have hfz52_3 := blk_frozen BK165.out 3; have hfz52_4 := blk_frozen BK165.out 4) | ((with_reducible refine gate_store (t := 33) (p := 5) rfl ?_); refine store_event (t := 33) (p := 5) (v := ?vo_w53) (w1 := (((((w51.setCell ⟨gb165, 0, none⟩ (.int .i64 ((rd_T33 l0 a1).f0))).setCell ⟨gb165, 1, none⟩ (.string ((rd_T33 l0 a1).f1))).setCell ⟨gb165, 2, none⟩ (.int .i64 ((rd_T33 l0 a1).f2))).setCell ⟨gb165, 3, none⟩ (.int .i64 ((rd_T33 l0 a1).f3))).setCell ⟨gb165, 4, none⟩ (.int .i64 ((rd_T33 l0 a1).f4)))) ?hg ?ho ?hn ?hr ?_; (case ho => rfl); (case hg => rfl); (case hn => rfl); (case hr => first | (go_simp; done) | (go_simp; rfl)); intro w53 hw; have n0_ : Aside0 (w53.heap[gb165]? = some (.cells #[.int .i64 ((rd_T33 l0 a1).f0), .string ((rd_T33 l0 a1).f1), .int .i64 ((rd_T33 l0 a1).f2), .int .i64 ((rd_T33 l0 a1).f3), .int .i64 ((rd_T33 l0 a1).f4)] 33 (0, 0))) := ⟨(by rw [hw]; exact (by (with_reducible repeat (first | refine blk_drewN ?_ _ | refine blk_drew ?_ | refine blk_alloc ?_ _)); refine blk_put (cs := #[.int .i64 ((rd_T33 l0 a1).f0), .string ((rd_T33 l0 a1).f1), .int .i64 ((rd_T33 l0 a1).f2), .int .i64 ((rd_T33 l0 a1).f3), .int .i64 0]) ?_ 4 _ rfl; (with_reducible repeat (first | refine blk_drewN ?_ _ | refine blk_drew ?_ | refine blk_alloc ?_ _)); refine blk_put (cs := #[.int .i64 ((rd_T33 l0 a1).f0), .string ((rd_T33 l0 a1).f1), .int .i64 ((rd_T33 l0 a1).f2), .int .i64 0, .int .i64 0]) ?_ 3 _ rfl; (with_reducible repeat (first | refine blk_drewN ?_ _ | refine blk_drew ?_ | refine blk_alloc ?_ _)); refine blk_put (cs := #[.int .i64 ((rd_T33 l0 a1).f0), .string ((rd_T33 l0 a1).f1), .int .i64 0, .int .i64 0, .int .i64 0]) ?_ 2 _ rfl; (with_reducible repeat (first | refine blk_drewN ?_ _ | refine blk_drew ?_ | refine blk_alloc ?_ _)); refine blk_put (cs := #[.int .i64 ((rd_T33 l0 a1).f0), .string (⟨#[]⟩ : ByteArray), .int .i64 0, .int .i64 0, .int .i64 0]) ?_ 1 _ rfl; (with_reducible repeat (first | refine blk_drewN ?_ _ | refine blk_drew ?_ | refine blk_alloc ?_ _)); refine blk_put (cs := #[.int .i64 0, .string (⟨#[]⟩ : ByteArray), .int .i64 0, .int .i64 0, .int .i64 0]) ?_ 0 _ rfl; (with_reducible repeat (first | refine blk_drewN ?_ _ | refine blk_drew ?_ | refine blk_alloc ?_ _)); exact BK165.out))⟩; have n1_ : Aside0 (Below w.heap.size w w53) := ⟨(by rw [hw]; exact (by repeat (first | (with_reducible first | exact HB.out | apply below_alloc | apply pw_below_drewN | apply below_drew1 | refine below_set ?_ GE165.out) | exact HB.out)))⟩; clear hw; clear BK165; clear HB; have BK165 := n0_; have HB := n1_; clear n0_ n1_; have hcz54_0 : w53.cell? ⟨gb165, 0, none⟩ = some (.int .i64 ((rd_T33 l0 a1).f0)) := (blk_cell BK165.out 0).trans rfl; have hcz54_1 : w53.cell? ⟨gb165, 1, none⟩ = some (.string ((rd_T33 l0 a1).f1)) := (blk_cell BK165.out 1).trans rfl; have hcz54_2 : w53.cell? ⟨gb165, 2, none⟩ = some (.int .i64 ((rd_T33 l0 a1).f2)) := (blk_cell BK165.out 2).trans rfl; have hcz54_3 : w53.cell? ⟨gb165, 3, none⟩ = some (.int .i64 ((rd_T33 l0 a1).f3)) := (blk_cell BK165.out 3).trans rfl; have hcz54_4 : w53.cell? ⟨gb165, 4, none⟩ = some (.int .i64 ((rd_T33 l0 a1).f4)) := (blk_cell BK165.out 4).trans rfl; have hfz54_0 := blk_frozen BK165.out 0; have hfz54_1 := blk_frozen BK165.out 1; have hfz54_2 := blk_frozen BK165.out 2; have hfz54_3 := blk_frozen BK165.out 3; have hfz54_4 := blk_frozen BK165.out 4) | ((with_reducible refine gate_callee (f := 43) rfl ?_); refine goesL_ (some 14) rfl rfl Tryd.func43 (by kernel_rfl) rfl #[.agg #[.int .i64 ((rd_T33 l0 a1).f0), .string ((rd_T33 l0 a1).f1), .int .i64 ((rd_T33 l0 a1).f2), .int .i64 ((rd_T33 l0 a1).f3), .int .i64 ((rd_T33 l0 a1).f4)]] rfl (by (try simp only [List.map_toArray, List.map_cons, List.map_nil]); first | done | rfl | (simp only [List.length_drop, List.length_take]; rfl)) ?_; (with_reducible refine (understudyref04_bare.calls k ((rd_T33 l0 a1).f0) ((rd_T33 l0 a1).f1) ((rd_T33 l0 a1).f2) ((rd_T33 l0 a1).f3) ((rd_T33 l0 a1).f4) true _ A5.out).mono ?_); rintro e w55 ⟨rfl, hb⟩; refine ⟨_, rfl, ?_⟩; have n0_ := Aside0.mk (blk_below (g := gb165) (o := .cells #[.int .i64 ((rd_T33 l0 a1).f0), .string ((rd_T33 l0 a1).f1), .int .i64 ((rd_T33 l0 a1).f2), .int .i64 ((rd_T33 l0 a1).f3), .int .i64 ((rd_T33 l0 a1).f4)] 33 (0, 0)) (by (with_reducible repeat (first | refine blk_drewN ?_ _ | refine blk_drew ?_ | refine blk_alloc ?_ _)); exact BK165.out) hb); have n1_ := Aside0.mk (below_step (by repeat (first | (with_reducible first | exact HB.out | apply below_alloc | apply pw_below_drewN | apply below_drew1 | refine below_set ?_ GE165.out) | exact HB.out)) hb); clear BK165; clear HB; have BK165 := n0_; have HB := n1_; clear n0_ n1_; (try clear hb); (try clear hb2); (try clear hk); (try clear hi); have hcz56_0 : w55.cell? ⟨gb165, 0, none⟩ = some (.int .i64 ((rd_T33 l0 a1).f0)) := (blk_cell BK165.out 0).trans rfl; have hcz56_1 : w55.cell? ⟨gb165, 1, none⟩ = some (.string ((rd_T33 l0 a1).f1)) := (blk_cell BK165.out 1).trans rfl; have hcz56_2 : w55.cell? ⟨gb165, 2, none⟩ = some (.int .i64 ((rd_T33 l0 a1).f2)) := (blk_cell BK165.out 2).trans rfl; have hcz56_3 : w55.cell? ⟨gb165, 3, none⟩ = some (.int .i64 ((rd_T33 l0 a1).f3)) := (blk_cell BK165.out 3).trans rfl; have hcz56_4 : w55.cell? ⟨gb165, 4, none⟩ = some (.int .i64 ((rd_T33 l0 a1).f4)) := (blk_cell BK165.out 4).trans rfl; have hfz56_0 := blk_frozen BK165.out 0; have hfz56_1 := blk_frozen BK165.out 1; have hfz56_2 := blk_frozen BK165.out 2; have hfz56_3 := blk_frozen BK165.out 3; have hfz56_4 := blk_frozen BK165.out 4) | ((with_reducible refine gate_callee (f := 44) rfl ?_); refine goesL_ (some 50) rfl rfl Tryd.func44 (by kernel_rfl) rfl #[.slice (some ad164) l0.length c0, .int .i64 ((rd_T33 l0 a1).f3), .int .i64 1] rfl (by (try simp only [List.map_toArray, List.map_cons, List.map_nil]); first | done | rfl | (simp only [List.length_drop, List.length_take]; rfl)) ?_; (with_reducible refine (understudyref04_is.calls _ _ l0 ((rd_T33 l0 a1).f3) 1 true _ ?side1 ?side2 A49.out).mono ?_); (case side1 => repeat (first | exact (Kd.C_below HR0.out HB.out) | (with_reducible refine Kd.C_alloc ?_ _) | (with_reducible refine Kd.C_drewN ?_ _) | (with_reducible refine Kd.C_drew ?_))); (case side2 => exact HC0.out); rintro e w' ⟨rfl, ⟨nd, rfl⟩⟩; refine ⟨_, rfl, ?_⟩))
                  go_ret
                  exact ⟨by first | rfl | (simp [errW_none, errW_some] <;> rfl) | (simp [*, errW_none, errW_some] <;> rfl), by repeat (first | (with_reducible first | exact HB.out | apply below_alloc | apply pw_below_drewN | apply below_drew1 | refine below_set ?_ GE165.out) | exact HB.out)⟩
                · replace c50 := Bool.eq_false_iff.mpr c50
                  subst c50
                  have H1 : (some 40) = some r := by rw [if_neg (show ¬ (false = true) by decide)] at H; exact H
                  clear H
                  have H := H1
                  clear H1
                  obtain rfl := Option.some.inj H
                  have p164 : 0 ≤ (a1 : Int) := of_decide_eq_true (by first | (with_reducible assumption) | assumption)
                  have q164 : a1 < (l0.length : Int) := of_decide_eq_true (by first | (with_reducible assumption) | assumption)
                  obtain ⟨ad164, e164, hx164_0, hx164_1, hx164_2, hx164_3, hx164_4⟩ := at_T33 HR0.out a1 p164 q164
                  cases e164
                  replace p164 := eq_true p164
                  replace q164 := eq_true q164
                  go_enter Tryd.func21, Tryd.ntmps21
                  go_wp2_with (first | ((with_reducible refine gate_dst (N := 5) rfl ?_); (try (refine gate_guard (by rfl) ?_; dsimp only)); refine box_event ?hg (N := 5) ?hd (cs := #[.int .i64 0, .string (⟨#[]⟩ : ByteArray), .int .i64 0, .int .i64 0, .int .i64 0]) (t := 33) ?hr ?_; (case hd => rfl); (case hg => rfl); (case hr => first | (go_simp; done) | (go_simp; rfl)); intro gb165 hg w57 hbox hb; have n0_ := Aside0.mk (below_step (by repeat (first | (with_reducible first | exact HB.out | apply below_alloc | apply pw_below_drewN | apply below_drew1) | exact HB.out)) hb); have n1_ := Aside0.mk (hbox); have n2_ := Aside0.mk ((by rw [hg]; exact (below_size (by repeat (first | (with_reducible first | exact HB.out | apply below_alloc | apply pw_below_drewN | apply below_drew1) | exact HB.out))) : w.heap.size ≤ gb165)); have n3_ := Aside0.mk ((by rw [hg]; exact (below_size (by repeat (first | (with_reducible first | exact HB.out | apply below_alloc | apply pw_below_drewN | apply below_drew1) | exact HB.out))) : w.heap.size ≤ gb165)); clear HB; have HB := n0_; have BK165 := n1_; have GW165 := n2_; have GE165 := n3_; clear n0_ n1_ n2_ n3_; clear hb hbox hg; have hcz58_0 : w57.cell? ⟨gb165, 0, none⟩ = some (.int .i64 0) := (blk_cell BK165.out 0).trans rfl; have hcz58_1 : w57.cell? ⟨gb165, 1, none⟩ = some (.string (⟨#[]⟩ : ByteArray)) := (blk_cell BK165.out 1).trans rfl; have hcz58_2 : w57.cell? ⟨gb165, 2, none⟩ = some (.int .i64 0) := (blk_cell BK165.out 2).trans rfl; have hcz58_3 : w57.cell? ⟨gb165, 3, none⟩ = some (.int .i64 0) := (blk_cell BK165.out 3).trans rfl; have hcz58_4 : w57.cell? ⟨gb165, 4, none⟩ = some (.int .i64 0) := (blk_cell BK165.out 4).trans rfl; have hfz58_0 := blk_frozen BK165.out 0; have hfz58_1 := blk_frozen BK165.out 1; have hfz58_2 := blk_frozen BK165.out 2; have hfz58_3 := blk_frozen BK165.out 3; have hfz58_4 := blk_frozen BK165.out 4) | ((with_reducible refine gate_store (t := 33) (p := 5) rfl ?_); refine store_event (t := 33) (p := 5) (v := ?vo_w59) (w1 := (((((w57.setCell ⟨gb165, 0, none⟩ (.int .i64 ((rd_T33 l0 a1).f0))).setCell ⟨gb165, 1, none⟩ (.string ((rd_T33 l0 a1).f1))).setCell ⟨gb165, 2, none⟩ (.int .i64 ((rd_T33 l0 a1).f2))).setCell ⟨gb165, 3, none⟩ (.int .i64 ((rd_T33 l0 a1).f3))).setCell ⟨gb165, 4, none⟩ (.int .i64 ((rd_T33 l0 a1).f4)))) ?hg ?ho ?hn ?hr ?_; (case ho => rfl); (case hg => rfl); (case hn => rfl); (case hr => first | (go_simp; done) | (go_simp; rfl)); intro w59 hw; have n0_ : Aside0 (w59.heap[gb165]? = some (.cells #[.int .i64 ((rd_T33 l0 a1).f0), .string ((rd_T33 l0 a1).f1), .int .i64 ((rd_T33 l0 a1).f2), .int .i64 ((rd_T33 l0 a1).f3), .int .i64 ((rd_T33 l0 a1).f4)] 33 (0, 0))) := ⟨(by rw [hw]; exact (by (with_reducible repeat (first | refine blk_drewN ?_ _ | refine blk_drew ?_ | refine blk_alloc ?_ _)); refine blk_put (cs := #[.int .i64 ((rd_T33 l0 a1).f0), .string ((rd_T33 l0 a1).f1), .int .i64 ((rd_T33 l0 a1).f2), .int .i64 ((rd_T33 l0 a1).f3), .int .i64 0]) ?_ 4 _ rfl; (with_reducible repeat (first | refine blk_drewN ?_ _ | refine blk_drew ?_ | refine blk_alloc ?_ _)); refine blk_put (cs := #[.int .i64 ((rd_T33 l0 a1).f0), .string ((rd_T33 l0 a1).f1), .int .i64 ((rd_T33 l0 a1).f2), .int .i64 0, .int .i64 0]) ?_ 3 _ rfl; (with_reducible repeat (first | refine blk_drewN ?_ _ | refine blk_drew ?_ | refine blk_alloc ?_ _)); refine blk_put (cs := #[.int .i64 ((rd_T33 l0 a1).f0), .string ((rd_T33 l0 a1).f1), .int .i64 0, .int .i64 0, .int .i64 0]) ?_ 2 _ rfl; (with_reducible repeat (first | refine blk_drewN ?_ _ | refine blk_drew ?_ | refine blk_alloc ?_ _)); refine blk_put (cs := #[.int .i64 ((rd_T33 l0 a1).f0), .string (⟨#[]⟩ : ByteArray), .int .i64 0, .int .i64 0, .int .i64 0]) ?_ 1 _ rfl; (with_reducible repeat (first | refine blk_drewN ?_ _ | refine blk_drew ?_ | refine blk_alloc ?_ _)); refine blk_put (cs := #[.int .i64 0, .string (⟨#[]⟩ : ByteArray), .int .i64 0, .int .i64 0, .int .i64 0]) ?_ 0 _ rfl; (with_reducible repeat (first | refine blk_drewN ?_ _ | refine blk_drew ?_ | refine blk_alloc ?_ _)); exact BK165.out))⟩; have n1_ : Aside0 (Below w.heap.size w w59) := ⟨(by rw [hw]; exact (by repeat (first | (with_reducible first | exact HB.out | apply below_alloc | apply pw_below_drewN | apply below_drew1 | refine below_set ?_ GE165.out) | exact HB.out)))⟩; clear hw; clear BK165; clear HB; have BK165 := n0_; have HB := n1_; clear n0_ n1_; have hcz60_0 : w59.cell? ⟨gb165, 0, none⟩ = some (.int .i64 ((rd_T33 l0 a1).f0)) := (blk_cell BK165.out 0).trans rfl; have hcz60_1 : w59.cell? ⟨gb165, 1, none⟩ = some (.string ((rd_T33 l0 a1).f1)) := (blk_cell BK165.out 1).trans rfl; have hcz60_2 : w59.cell? ⟨gb165, 2, none⟩ = some (.int .i64 ((rd_T33 l0 a1).f2)) := (blk_cell BK165.out 2).trans rfl; have hcz60_3 : w59.cell? ⟨gb165, 3, none⟩ = some (.int .i64 ((rd_T33 l0 a1).f3)) := (blk_cell BK165.out 3).trans rfl; have hcz60_4 : w59.cell? ⟨gb165, 4, none⟩ = some (.int .i64 ((rd_T33 l0 a1).f4)) := (blk_cell BK165.out 4).trans rfl; have hfz60_0 := blk_frozen BK165.out 0; have hfz60_1 := blk_frozen BK165.out 1; have hfz60_2 := blk_frozen BK165.out 2; have hfz60_3 := blk_frozen BK165.out 3; have hfz60_4 := blk_frozen BK165.out 4) | ((with_reducible refine gate_callee (f := 43) rfl ?_); refine goesL_ (some 14) rfl rfl Tryd.func43 (by kernel_rfl) rfl #[.agg #[.int .i64 ((rd_T33 l0 a1).f0), .string ((rd_T33 l0 a1).f1), .int .i64 ((rd_T33 l0 a1).f2), .int .i64 ((rd_T33 l0 a1).f3), .int .i64 ((rd_T33 l0 a1).f4)]] rfl (by (try simp only [List.map_toArray, List.map_cons, List.map_nil]); first | done | rfl | (simp only [List.length_drop, List.length_take]; rfl)) ?_; (with_reducible refine (understudyref04_bare.calls k ((rd_T33 l0 a1).f0) ((rd_T33 l0 a1).f1) ((rd_T33 l0 a1).f2) ((rd_T33 l0 a1).f3) ((rd_T33 l0 a1).f4) true _ A5.out).mono ?_); rintro e w61 ⟨rfl, hb⟩; refine ⟨_, rfl, ?_⟩; have n0_ := Aside0.mk (blk_below (g := gb165) (o := .cells #[.int .i64 ((rd_T33 l0 a1).f0), .string ((rd_T33 l0 a1).f1), .int .i64 ((rd_T33 l0 a1).f2), .int .i64 ((rd_T33 l0 a1).f3), .int .i64 ((rd_T33 l0 a1).f4)] 33 (0, 0)) (by (with_reducible repeat (first | refine blk_drewN ?_ _ | refine blk_drew ?_ | refine blk_alloc ?_ _)); exact BK165.out) hb); have n1_ := Aside0.mk (below_step (by repeat (first | (with_reducible first | exact HB.out | apply below_alloc | apply pw_below_drewN | apply below_drew1 | refine below_set ?_ GE165.out) | exact HB.out)) hb); clear BK165; clear HB; have BK165 := n0_; have HB := n1_; clear n0_ n1_; (try clear hb); (try clear hb2); (try clear hk); (try clear hi); have hcz62_0 : w61.cell? ⟨gb165, 0, none⟩ = some (.int .i64 ((rd_T33 l0 a1).f0)) := (blk_cell BK165.out 0).trans rfl; have hcz62_1 : w61.cell? ⟨gb165, 1, none⟩ = some (.string ((rd_T33 l0 a1).f1)) := (blk_cell BK165.out 1).trans rfl; have hcz62_2 : w61.cell? ⟨gb165, 2, none⟩ = some (.int .i64 ((rd_T33 l0 a1).f2)) := (blk_cell BK165.out 2).trans rfl; have hcz62_3 : w61.cell? ⟨gb165, 3, none⟩ = some (.int .i64 ((rd_T33 l0 a1).f3)) := (blk_cell BK165.out 3).trans rfl; have hcz62_4 : w61.cell? ⟨gb165, 4, none⟩ = some (.int .i64 ((rd_T33 l0 a1).f4)) := (blk_cell BK165.out 4).trans rfl; have hfz62_0 := blk_frozen BK165.out 0; have hfz62_1 := blk_frozen BK165.out 1; have hfz62_2 := blk_frozen BK165.out 2; have hfz62_3 := blk_frozen BK165.out 3; have hfz62_4 := blk_frozen BK165.out 4) | ((with_reducible refine gate_callee (f := 44) rfl ?_); refine goesL_ (some 50) rfl rfl Tryd.func44 (by kernel_rfl) rfl #[.slice (some ad164) l0.length c0, .int .i64 ((rd_T33 l0 a1).f3), .int .i64 1] rfl (by (try simp only [List.map_toArray, List.map_cons, List.map_nil]); first | done | rfl | (simp only [List.length_drop, List.length_take]; rfl)) ?_; (with_reducible refine (understudyref04_is.calls _ _ l0 ((rd_T33 l0 a1).f3) 1 false _ ?side1 ?side2 A49.out).mono ?_); (case side1 => repeat (first | exact (Kd.C_below HR0.out HB.out) | (with_reducible refine Kd.C_alloc ?_ _) | (with_reducible refine Kd.C_drewN ?_ _) | (with_reducible refine Kd.C_drew ?_))); (case side2 => exact HC0.out); rintro e w' ⟨rfl, ⟨nd, rfl⟩⟩; refine ⟨_, rfl, ?_⟩))
                  go_ret
                  exact ⟨by first | rfl | (simp [errW_none, errW_some] <;> rfl) | (simp [*, errW_none, errW_some] <;> rfl), by repeat (first | (with_reducible first | exact HB.out | apply below_alloc | apply pw_below_drewN | apply below_drew1 | refine below_set ?_ GE165.out) | exact HB.out)⟩
              · rw [if_neg c48] at H
                have c48b0 : (((rd_T33 l0 a1).f0) == 7) = false := beq_eq_false_iff_ne.mpr c48
                have c48b1 : (((rd_T33 l0 a1).f0) != 7) = true := bne_iff_ne.mpr c48
                by_cases c63 : ((rd_T33 l0 a1).f0) = 12
                · rw [if_pos c63] at H
                  have c63b0 : (((rd_T33 l0 a1).f0) == 12) = true := beq_iff_eq.mpr c63
                  have c63b1 : (((rd_T33 l0 a1).f0) != 12) = false := bne_eq_false_iff_eq.mpr c63
                  clear c63
                  replace H := Option.bind_eq_some_iff.mp H
                  obtain ⟨t172, A640, H⟩ := H
                  replace H : (if t172 = true then ((understudyref04_is.f l0 ((rd_T33 l0 a1).f4) 1).bind fun t173 => (if t173 = true then (some 0) else (some 40))) else (some 40)) = some r := H
                  have A64 := Aside0.mk A640
                  clear A640
                  by_cases c65 : t172 = true
                  · subst c65
                    have H1 : ((understudyref04_is.f l0 ((rd_T33 l0 a1).f4) 1).bind fun t173 => (if t173 = true then (some 0) else (some 40))) = some r := by rw [if_pos rfl] at H; exact H
                    clear H
                    have H := H1
                    clear H1
                    replace H := Option.bind_eq_some_iff.mp H
                    obtain ⟨t173, A660, H⟩ := H
                    replace H : (if t173 = true then (some 0) else (some 40)) = some r := H
                    have A66 := Aside0.mk A660
                    clear A660
                    by_cases c67 : t173 = true
                    · subst c67
                      have H1 : (some 0) = some r := by rw [if_pos rfl] at H; exact H
                      clear H
                      have H := H1
                      clear H1
                      obtain rfl := Option.some.inj H
                      have p164 : 0 ≤ (a1 : Int) := of_decide_eq_true (by first | (with_reducible assumption) | assumption)
                      have q164 : a1 < (l0.length : Int) := of_decide_eq_true (by first | (with_reducible assumption) | assumption)
                      obtain ⟨ad164, e164, hx164_0, hx164_1, hx164_2, hx164_3, hx164_4⟩ := at_T33 HR0.out a1 p164 q164
                      cases e164
                      replace p164 := eq_true p164
                      replace q164 := eq_true q164
                      go_enter Tryd.func21, Tryd.ntmps21
                      go_wp2_with (first | ((with_reducible refine gate_dst (N := 5) rfl ?_); (try (refine gate_guard (by rfl) ?_; dsimp only)); refine box_event ?hg (N := 5) ?hd (cs := #[.int .i64 0, .string (⟨#[]⟩ : ByteArray), .int .i64 0, .int .i64 0, .int .i64 0]) (t := 33) ?hr ?_; (case hd => rfl); (case hg => rfl); (case hr => first | (go_simp; done) | (go_simp; rfl)); intro gb165 hg w68 hbox hb; have n0_ := Aside0.mk (below_step (by repeat (first | (with_reducible first | exact HB.out | apply below_alloc | apply pw_below_drewN | apply below_drew1) | exact HB.out)) hb); have n1_ := Aside0.mk (hbox); have n2_ := Aside0.mk ((by rw [hg]; exact (below_size (by repeat (first | (with_reducible first | exact HB.out | apply below_alloc | apply pw_below_drewN | apply below_drew1) | exact HB.out))) : w.heap.size ≤ gb165)); have n3_ := Aside0.mk ((by rw [hg]; exact (below_size (by repeat (first | (with_reducible first | exact HB.out | apply below_alloc | apply pw_below_drewN | apply below_drew1) | exact HB.out))) : w.heap.size ≤ gb165)); clear HB; have HB := n0_; have BK165 := n1_; have GW165 := n2_; have GE165 := n3_; clear n0_ n1_ n2_ n3_; clear hb hbox hg; have hcz69_0 : w68.cell? ⟨gb165, 0, none⟩ = some (.int .i64 0) := (blk_cell BK165.out 0).trans rfl; have hcz69_1 : w68.cell? ⟨gb165, 1, none⟩ = some (.string (⟨#[]⟩ : ByteArray)) := (blk_cell BK165.out 1).trans rfl; have hcz69_2 : w68.cell? ⟨gb165, 2, none⟩ = some (.int .i64 0) := (blk_cell BK165.out 2).trans rfl; have hcz69_3 : w68.cell? ⟨gb165, 3, none⟩ = some (.int .i64 0) := (blk_cell BK165.out 3).trans rfl; have hcz69_4 : w68.cell? ⟨gb165, 4, none⟩ = some (.int .i64 0) := (blk_cell BK165.out 4).trans rfl; have hfz69_0 := blk_frozen BK165.out 0; have hfz69_1 := blk_frozen BK165.out 1; have hfz69_2 := blk_frozen BK165.out 2; have hfz69_3 := blk_frozen BK165.out 3; have hfz69_4 := blk_frozen BK165.out 4) | ((with_reducible refine gate_store (t := 33) (p := 5) rfl ?_); refine store_event (t := 33) (p := 5) (v := ?vo_w70) (w1 := (((((w68.setCell ⟨gb165, 0, none⟩ (.int .i64 ((rd_T33 l0 a1).f0))).setCell ⟨gb165, 1, none⟩ (.string ((rd_T33 l0 a1).f1))).setCell ⟨gb165, 2, none⟩ (.int .i64 ((rd_T33 l0 a1).f2))).setCell ⟨gb165, 3, none⟩ (.int .i64 ((rd_T33 l0 a1).f3))).setCell ⟨gb165, 4, none⟩ (.int .i64 ((rd_T33 l0 a1).f4)))) ?hg ?ho ?hn ?hr ?_; (case ho => rfl); (case hg => rfl); (case hn => rfl); (case hr => first | (go_simp; done) | (go_simp; rfl)); intro w70 hw; have n0_ : Aside0 (w70.heap[gb165]? = some (.cells #[.int .i64 ((rd_T33 l0 a1).f0), .string ((rd_T33 l0 a1).f1), .int .i64 ((rd_T33 l0 a1).f2), .int .i64 ((rd_T33 l0 a1).f3), .int .i64 ((rd_T33 l0 a1).f4)] 33 (0, 0))) := ⟨(by rw [hw]; exact (by (with_reducible repeat (first | refine blk_drewN ?_ _ | refine blk_drew ?_ | refine blk_alloc ?_ _)); refine blk_put (cs := #[.int .i64 ((rd_T33 l0 a1).f0), .string ((rd_T33 l0 a1).f1), .int .i64 ((rd_T33 l0 a1).f2), .int .i64 ((rd_T33 l0 a1).f3), .int .i64 0]) ?_ 4 _ rfl; (with_reducible repeat (first | refine blk_drewN ?_ _ | refine blk_drew ?_ | refine blk_alloc ?_ _)); refine blk_put (cs := #[.int .i64 ((rd_T33 l0 a1).f0), .string ((rd_T33 l0 a1).f1), .int .i64 ((rd_T33 l0 a1).f2), .int .i64 0, .int .i64 0]) ?_ 3 _ rfl; (with_reducible repeat (first | refine blk_drewN ?_ _ | refine blk_drew ?_ | refine blk_alloc ?_ _)); refine blk_put (cs := #[.int .i64 ((rd_T33 l0 a1).f0), .string ((rd_T33 l0 a1).f1), .int .i64 0, .int .i64 0, .int .i64 0]) ?_ 2 _ rfl; (with_reducible repeat (first | refine blk_drewN ?_ _ | refine blk_drew ?_ | refine blk_alloc ?_ _)); refine blk_put (cs := #[.int .i64 ((rd_T33 l0 a1).f0), .string (⟨#[]⟩ : ByteArray), .int .i64 0, .int .i64 0, .int .i64 0]) ?_ 1 _ rfl; (with_reducible repeat (first | refine blk_drewN ?_ _ | refine blk_drew ?_ | refine blk_alloc ?_ _)); refine blk_put (cs := #[.int .i64 0, .string (⟨#[]⟩ : ByteArray), .int .i64 0, .int .i64 0, .int .i64 0]) ?_ 0 _ rfl; (with_reducible repeat (first | refine blk_drewN ?_ _ | refine blk_drew ?_ | refine blk_alloc ?_ _)); exact BK165.out))⟩; have n1_ : Aside0 (Below w.heap.size w w70) := ⟨(by rw [hw]; exact (by repeat (first | (with_reducible first | exact HB.out | apply below_alloc | apply pw_below_drewN | apply below_drew1 | refine below_set ?_ GE165.out) | exact HB.out)))⟩; clear hw; clear BK165; clear HB; have BK165 := n0_; have HB := n1_; clear n0_ n1_; have hcz71_0 : w70.cell? ⟨gb165, 0, none⟩ = some (.int .i64 ((rd_T33 l0 a1).f0)) := (blk_cell BK165.out 0).trans rfl; have hcz71_1 : w70.cell? ⟨gb165, 1, none⟩ = some (.string ((rd_T33 l0 a1).f1)) := (blk_cell BK165.out 1).trans rfl; have hcz71_2 : w70.cell? ⟨gb165, 2, none⟩ = some (.int .i64 ((rd_T33 l0 a1).f2)) := (blk_cell BK165.out 2).trans rfl; have hcz71_3 : w70.cell? ⟨gb165, 3, none⟩ = some (.int .i64 ((rd_T33 l0 a1).f3)) := (blk_cell BK165.out 3).trans rfl; have hcz71_4 : w70.cell? ⟨gb165, 4, none⟩ = some (.int .i64 ((rd_T33 l0 a1).f4)) := (blk_cell BK165.out 4).trans rfl; have hfz71_0 := blk_frozen BK165.out 0; have hfz71_1 := blk_frozen BK165.out 1; have hfz71_2 := blk_frozen BK165.out 2; have hfz71_3 := blk_frozen BK165.out 3; have hfz71_4 := blk_frozen BK165.out 4) | ((with_reducible refine gate_callee (f := 43) rfl ?_); refine goesL_ (some 14) rfl rfl Tryd.func43 (by kernel_rfl) rfl #[.agg #[.int .i64 ((rd_T33 l0 a1).f0), .string ((rd_T33 l0 a1).f1), .int .i64 ((rd_T33 l0 a1).f2), .int .i64 ((rd_T33 l0 a1).f3), .int .i64 ((rd_T33 l0 a1).f4)]] rfl (by (try simp only [List.map_toArray, List.map_cons, List.map_nil]); first | done | rfl | (simp only [List.length_drop, List.length_take]; rfl)) ?_; (with_reducible refine (understudyref04_bare.calls k ((rd_T33 l0 a1).f0) ((rd_T33 l0 a1).f1) ((rd_T33 l0 a1).f2) ((rd_T33 l0 a1).f3) ((rd_T33 l0 a1).f4) true _ A5.out).mono ?_); rintro e w72 ⟨rfl, hb⟩; refine ⟨_, rfl, ?_⟩; have n0_ := Aside0.mk (blk_below (g := gb165) (o := .cells #[.int .i64 ((rd_T33 l0 a1).f0), .string ((rd_T33 l0 a1).f1), .int .i64 ((rd_T33 l0 a1).f2), .int .i64 ((rd_T33 l0 a1).f3), .int .i64 ((rd_T33 l0 a1).f4)] 33 (0, 0)) (by (with_reducible repeat (first | refine blk_drewN ?_ _ | refine blk_drew ?_ | refine blk_alloc ?_ _)); exact BK165.out) hb); have n1_ := Aside0.mk (below_step (by repeat (first | (with_reducible first | exact HB.out | apply below_alloc | apply pw_below_drewN | apply below_drew1 | refine below_set ?_ GE165.out) | exact HB.out)) hb); clear BK165; clear HB; have BK165 := n0_; have HB := n1_; clear n0_ n1_; (try clear hb); (try clear hb2); (try clear hk); (try clear hi); have hcz73_0 : w72.cell? ⟨gb165, 0, none⟩ = some (.int .i64 ((rd_T33 l0 a1).f0)) := (blk_cell BK165.out 0).trans rfl; have hcz73_1 : w72.cell? ⟨gb165, 1, none⟩ = some (.string ((rd_T33 l0 a1).f1)) := (blk_cell BK165.out 1).trans rfl; have hcz73_2 : w72.cell? ⟨gb165, 2, none⟩ = some (.int .i64 ((rd_T33 l0 a1).f2)) := (blk_cell BK165.out 2).trans rfl; have hcz73_3 : w72.cell? ⟨gb165, 3, none⟩ = some (.int .i64 ((rd_T33 l0 a1).f3)) := (blk_cell BK165.out 3).trans rfl; have hcz73_4 : w72.cell? ⟨gb165, 4, none⟩ = some (.int .i64 ((rd_T33 l0 a1).f4)) := (blk_cell BK165.out 4).trans rfl; have hfz73_0 := blk_frozen BK165.out 0; have hfz73_1 := blk_frozen BK165.out 1; have hfz73_2 := blk_frozen BK165.out 2; have hfz73_3 := blk_frozen BK165.out 3; have hfz73_4 := blk_frozen BK165.out 4) | ((with_reducible refine gate_callee (f := 44) rfl ?_); refine goesL_ (some 56) rfl rfl Tryd.func44 (by kernel_rfl) rfl #[.slice (some ad164) l0.length c0, .int .i64 ((rd_T33 l0 a1).f3), .int .i64 1] rfl (by (try simp only [List.map_toArray, List.map_cons, List.map_nil]); first | done | rfl | (simp only [List.length_drop, List.length_take]; rfl)) ?_; (with_reducible refine (understudyref04_is.calls _ _ l0 ((rd_T33 l0 a1).f3) 1 true _ ?side1 ?side2 A64.out).mono ?_); (case side1 => repeat (first | exact (Kd.C_below HR0.out HB.out) | (with_reducible refine Kd.C_alloc ?_ _) | (with_reducible refine Kd.C_drewN ?_ _) | (with_reducible refine Kd.C_drew ?_))); (case side2 => exact HC0.out); rintro e w' ⟨rfl, ⟨nd, rfl⟩⟩; refine ⟨_, rfl, ?_⟩) | (go_at_call 44; (with_reducible refine (understudyref04_is.calls _ _ l0 ((rd_T33 l0 a1).f4) 1 true _ ?side1 ?side2 A66.out).mono ?_); (case side1 => repeat (first | exact (Kd.C_below HR0.out (by repeat (first | (with_reducible first | exact HB.out | apply below_alloc | apply pw_below_drewN | apply below_drew1 | refine below_set ?_ GE165.out) | exact HB.out))) | (with_reducible refine Kd.C_alloc ?_ _) | (with_reducible refine Kd.C_drewN ?_ _) | (with_reducible refine Kd.C_drew ?_))); (case side2 => exact HC0.out); rintro e w' ⟨rfl, ⟨nd, rfl⟩⟩))
                      go_ret
                      exact ⟨by first | rfl | (simp [errW_none, errW_some] <;> rfl) | (simp [*, errW_none, errW_some] <;> rfl), by repeat (first | (with_reducible first | exact HB.out | apply below_alloc | apply pw_below_drewN | apply below_drew1 | refine below_set ?_ GE165.out) | exact HB.out)⟩
                    · replace c67 := Bool.eq_false_iff.mpr c67
                      subst c67
                      have H1 : (some 40) = some r := by rw [if_neg (show ¬ (false = true) by decide)] at H; exact H
                      clear H
                      have H := H1
                      clear H1
                      obtain rfl := Option.some.inj H
                      have p164 : 0 ≤ (a1 : Int) := of_decide_eq_true (by first | (with_reducible assumption) | assumption)
                      have q164 : a1 < (l0.length : Int) := of_decide_eq_true (by first | (with_reducible assumption) | assumption)
                      obtain ⟨ad164, e164, hx164_0, hx164_1, hx164_2, hx164_3, hx164_4⟩ := at_T33 HR0.out a1 p164 q164
                      cases e164
                      replace p164 := eq_true p164
                      replace q164 := eq_true q164
                      go_enter Tryd.func21, Tryd.ntmps21
                      go_wp2_with (first | ((with_reducible refine gate_dst (N := 5) rfl ?_); (try (refine gate_guard (by rfl) ?_; dsimp only)); refine box_event ?hg (N := 5) ?hd (cs := #[.int .i64 0, .string (⟨#[]⟩ : ByteArray), .int .i64 0, .int .i64 0, .int .i64 0]) (t := 33) ?hr ?_; (case hd => rfl); (case hg => rfl); (case hr => first | (go_simp; done) | (go_simp; rfl)); intro gb165 hg w74 hbox hb; have n0_ := Aside0.mk (below_step (by repeat (first | (with_reducible first | exact HB.out | apply below_alloc | apply pw_below_drewN | apply below_drew1) | exact HB.out)) hb); have n1_ := Aside0.mk (hbox); have n2_ := Aside0.mk ((by rw [hg]; exact (below_size (by repeat (first | (with_reducible first | exact HB.out | apply below_alloc | apply pw_below_drewN | apply below_drew1) | exact HB.out))) : w.heap.size ≤ gb165)); have n3_ := Aside0.mk ((by rw [hg]; exact (below_size (by repeat (first | (with_reducible first | exact HB.out | apply below_alloc | apply pw_below_drewN | apply below_drew1) | exact HB.out))) : w.heap.size ≤ gb165)); clear HB; have HB := n0_; have BK165 := n1_; have GW165 := n2_; have GE165 := n3_; clear n0_ n1_ n2_ n3_; clear hb hbox hg; have hcz75_0 : w74.cell? ⟨gb165, 0, none⟩ = some (.int .i64 0) := (blk_cell BK165.out 0).trans rfl; have hcz75_1 : w74.cell? ⟨gb165, 1, none⟩ = some (.string (⟨#[]⟩ : ByteArray)) := (blk_cell BK165.out 1).trans rfl; have hcz75_2 : w74.cell? ⟨gb165, 2, none⟩ = some (.int .i64 0) := (blk_cell BK165.out 2).trans rfl; have hcz75_3 : w74.cell? ⟨gb165, 3, none⟩ = some (.int .i64 0) := (blk_cell BK165.out 3).trans rfl; have hcz75_4 : w74.cell? ⟨gb165, 4, none⟩ = some (.int .i64 0) := (blk_cell BK165.out 4).trans rfl; have hfz75_0 := blk_frozen BK165.out 0; have hfz75_1 := blk_frozen BK165.out 1; have hfz75_2 := blk_frozen BK165.out 2; have hfz75_3 := blk_frozen BK165.out 3; have hfz75_4 := blk_frozen BK165.out 4) | ((with_reducible refine gate_store (t := 33) (p := 5) rfl ?_); refine store_event (t := 33) (p := 5) (v := ?vo_w76) (w1 := (((((w74.setCell ⟨gb165, 0, none⟩ (.int .i64 ((rd_T33 l0 a1).f0))).setCell ⟨gb165, 1, none⟩ (.string ((rd_T33 l0 a1).f1))).setCell ⟨gb165, 2, none⟩ (.int .i64 ((rd_T33 l0 a1).f2))).setCell ⟨gb165, 3, none⟩ (.int .i64 ((rd_T33 l0 a1).f3))).setCell ⟨gb165, 4, none⟩ (.int .i64 ((rd_T33 l0 a1).f4)))) ?hg ?ho ?hn ?hr ?_; (case ho => rfl); (case hg => rfl); (case hn => rfl); (case hr => first | (go_simp; done) | (go_simp; rfl)); intro w76 hw; have n0_ : Aside0 (w76.heap[gb165]? = some (.cells #[.int .i64 ((rd_T33 l0 a1).f0), .string ((rd_T33 l0 a1).f1), .int .i64 ((rd_T33 l0 a1).f2), .int .i64 ((rd_T33 l0 a1).f3), .int .i64 ((rd_T33 l0 a1).f4)] 33 (0, 0))) := ⟨(by rw [hw]; exact (by (with_reducible repeat (first | refine blk_drewN ?_ _ | refine blk_drew ?_ | refine blk_alloc ?_ _)); refine blk_put (cs := #[.int .i64 ((rd_T33 l0 a1).f0), .string ((rd_T33 l0 a1).f1), .int .i64 ((rd_T33 l0 a1).f2), .int .i64 ((rd_T33 l0 a1).f3), .int .i64 0]) ?_ 4 _ rfl; (with_reducible repeat (first | refine blk_drewN ?_ _ | refine blk_drew ?_ | refine blk_alloc ?_ _)); refine blk_put (cs := #[.int .i64 ((rd_T33 l0 a1).f0), .string ((rd_T33 l0 a1).f1), .int .i64 ((rd_T33 l0 a1).f2), .int .i64 0, .int .i64 0]) ?_ 3 _ rfl; (with_reducible repeat (first | refine blk_drewN ?_ _ | refine blk_drew ?_ | refine blk_alloc ?_ _)); refine blk_put (cs := #[.int .i64 ((rd_T33 l0 a1).f0), .string ((rd_T33 l0 a1).f1), .int .i64 0, .int .i64 0, .int .i64 0]) ?_ 2 _ rfl; (with_reducible repeat (first | refine blk_drewN ?_ _ | refine blk_drew ?_ | refine blk_alloc ?_ _)); refine blk_put (cs := #[.int .i64 ((rd_T33 l0 a1).f0), .string (⟨#[]⟩ : ByteArray), .int .i64 0, .int .i64 0, .int .i64 0]) ?_ 1 _ rfl; (with_reducible repeat (first | refine blk_drewN ?_ _ | refine blk_drew ?_ | refine blk_alloc ?_ _)); refine blk_put (cs := #[.int .i64 0, .string (⟨#[]⟩ : ByteArray), .int .i64 0, .int .i64 0, .int .i64 0]) ?_ 0 _ rfl; (with_reducible repeat (first | refine blk_drewN ?_ _ | refine blk_drew ?_ | refine blk_alloc ?_ _)); exact BK165.out))⟩; have n1_ : Aside0 (Below w.heap.size w w76) := ⟨(by rw [hw]; exact (by repeat (first | (with_reducible first | exact HB.out | apply below_alloc | apply pw_below_drewN | apply below_drew1 | refine below_set ?_ GE165.out) | exact HB.out)))⟩; clear hw; clear BK165; clear HB; have BK165 := n0_; have HB := n1_; clear n0_ n1_; have hcz77_0 : w76.cell? ⟨gb165, 0, none⟩ = some (.int .i64 ((rd_T33 l0 a1).f0)) := (blk_cell BK165.out 0).trans rfl; have hcz77_1 : w76.cell? ⟨gb165, 1, none⟩ = some (.string ((rd_T33 l0 a1).f1)) := (blk_cell BK165.out 1).trans rfl; have hcz77_2 : w76.cell? ⟨gb165, 2, none⟩ = some (.int .i64 ((rd_T33 l0 a1).f2)) := (blk_cell BK165.out 2).trans rfl; have hcz77_3 : w76.cell? ⟨gb165, 3, none⟩ = some (.int .i64 ((rd_T33 l0 a1).f3)) := (blk_cell BK165.out 3).trans rfl; have hcz77_4 : w76.cell? ⟨gb165, 4, none⟩ = some (.int .i64 ((rd_T33 l0 a1).f4)) := (blk_cell BK165.out 4).trans rfl; have hfz77_0 := blk_frozen BK165.out 0; have hfz77_1 := blk_frozen BK165.out 1; have hfz77_2 := blk_frozen BK165.out 2; have hfz77_3 := blk_frozen BK165.out 3; have hfz77_4 := blk_frozen BK165.out 4) | ((with_reducible refine gate_callee (f := 43) rfl ?_); refine goesL_ (some 14) rfl rfl Tryd.func43 (by kernel_rfl) rfl #[.agg #[.int .i64 ((rd_T33 l0 a1).f0), .string ((rd_T33 l0 a1).f1), .int .i64 ((rd_T33 l0 a1).f2), .int .i64 ((rd_T33 l0 a1).f3), .int .i64 ((rd_T33 l0 a1).f4)]] rfl (by (try simp only [List.map_toArray, List.map_cons, List.map_nil]); first | done | rfl | (simp only [List.length_drop, List.length_take]; rfl)) ?_; (with_reducible refine (understudyref04_bare.calls k ((rd_T33 l0 a1).f0) ((rd_T33 l0 a1).f1) ((rd_T33 l0 a1).f2) ((rd_T33 l0 a1).f3) ((rd_T33 l0 a1).f4) true _ A5.out).mono ?_); rintro e w78 ⟨rfl, hb⟩; refine ⟨_, rfl, ?_⟩; have n0_ := Aside0.mk (blk_below (g := gb165) (o := .cells #[.int .i64 ((rd_T33 l0 a1).f0), .string ((rd_T33 l0 a1).f1), .int .i64 ((rd_T33 l0 a1).f2), .int .i64 ((rd_T33 l0 a1).f3), .int .i64 ((rd_T33 l0 a1).f4)] 33 (0, 0)) (by (with_reducible repeat (first | refine blk_drewN ?_ _ | refine blk_drew ?_ | refine blk_alloc ?_ _)); exact BK165.out) hb); have n1_ := Aside0.mk (below_step (by repeat (first | (with_reducible first | exact HB.out | apply below_alloc | apply pw_below_drewN | apply below_drew1 | refine below_set ?_ GE165.out) | exact HB.out)) hb); clear BK165; clear HB; have BK165 := n0_; have HB := n1_; clear n0_ n1_; (try clear hb); (try clear hb2); (try clear hk); (try clear hi); have hcz79_0 : w78.cell? ⟨gb165, 0, none⟩ = some (.int .i64 ((rd_T33 l0 a1).f0)) := (blk_cell BK165.out 0).trans rfl; have hcz79_1 : w78.cell? ⟨gb165, 1, none⟩ = some (.string ((rd_T33 l0 a1).f1)) := (blk_cell BK165.out 1).trans rfl; have hcz79_2 : w78.cell? ⟨gb165, 2, none⟩ = some (.int .i64 ((rd_T33 l0 a1).f2)) := (blk_cell BK165.out 2).trans rfl; have hcz79_3 : w78.cell? ⟨gb165, 3, none⟩ = some (.int .i64 ((rd_T33 l0 a1).f3)) := (blk_cell BK165.out 3).trans rfl; have hcz79_4 : w78.cell? ⟨gb165, 4, none⟩ = some (.int .i64 ((rd_T33 l0 a1).f4)) := (blk_cell BK165.out 4).trans rfl; have hfz79_0 := blk_frozen BK165.out 0; have hfz79_1 := blk_frozen BK165.out 1; have hfz79_2 := blk_frozen BK165.out 2; have hfz79_3 := blk_frozen BK165.out 3; have hfz79_4 := blk_frozen BK165.out 4) | ((with_reducible refine gate_callee (f := 44) rfl ?_); refine goesL_ (some 56) rfl rfl Tryd.func44 (by kernel_rfl) rfl #[.slice (some ad164) l0.length c0, .int .i64 ((rd_T33 l0 a1).f3), .int .i64 1] rfl (by (try simp only [List.map_toArray, List.map_cons, List.map_nil]); first | done | rfl | (simp only [List.length_drop, List.length_take]; rfl)) ?_; (with_reducible refine (understudyref04_is.calls _ _ l0 ((rd_T33 l0 a1).f3) 1 true _ ?side1 ?side2 A64.out).mono ?_); (case side1 => repeat (first | exact (Kd.C_below HR0.out HB.out) | (with_reducible refine Kd.C_alloc ?_ _) | (with_reducible refine Kd.C_drewN ?_ _) | (with_reducible refine Kd.C_drew ?_))); (case side2 => exact HC0.out); rintro e w' ⟨rfl, ⟨nd, rfl⟩⟩; refine ⟨_, rfl, ?_⟩) | (go_at_call 44; (with_reducible refine (understudyref04_is.calls _ _ l0 ((rd_T33 l0 a1).f4) 1 false _ ?side1 ?side2 A66.out).mono ?_); (case side1 => repeat (first | exact (Kd.C_below HR0.out (by repeat (first | (with_reducible first | exact HB.out | apply below_alloc | apply pw_below_drewN | apply below_drew1 | refine below_set ?_ GE165.out) | exact HB.out))) | (with_reducible refine Kd.C_alloc ?_ _) | (with_reducible refine Kd.C_drewN ?_ _) | (with_reducible refine Kd.C_drew ?_))); (case side2 => exact HC0.out); rintro e w' ⟨rfl, ⟨nd, rfl⟩⟩))
                      go_ret
                      exact ⟨by first | rfl | (simp [errW_none, errW_some] <;> rfl) | (simp [*, errW_none, errW_some] <;> rfl), by repeat (first | (with_reducible first | exact HB.out | apply below_alloc | apply pw_below_drewN | apply below_drew1 | refine below_set ?_ GE165.out) | exact HB.out)⟩
                  · replace c65 := Bool.eq_false_iff.mpr c65
                    subst c65
                    have H1 : (some 40) = some r := by rw [if_neg (show ¬ (false = true) by decide)] at H; exact H
                    clear H
                    have H := H1
                    clear H1
                    obtain rfl := Option.some.inj H
                    have p164 : 0 ≤ (a1 : Int) := of_decide_eq_true (by first | (with_reducible assumption) | assumption)
                    have q164 : a1 < (l0.length : Int) := of_decide_eq_true (by first | (with_reducible assumption) | assumption)
                    obtain ⟨ad164, e164, hx164_0, hx164_1, hx164_2, hx164_3, hx164_4⟩ := at_T33 HR0.out a1 p164 q164
                    cases e164
                    replace p164 := eq_true p164
                    replace q164 := eq_true q164
                    go_enter Tryd.func21, Tryd.ntmps21
                    go_wp2_with (first | ((with_reducible refine gate_dst (N := 5) rfl ?_); (try (refine gate_guard (by rfl) ?_; dsimp only)); refine box_event ?hg (N := 5) ?hd (cs := #[.int .i64 0, .string (⟨#[]⟩ : ByteArray), .int .i64 0, .int .i64 0, .int .i64 0]) (t := 33) ?hr ?_; (case hd => rfl); (case hg => rfl); (case hr => first | (go_simp; done) | (go_simp; rfl)); intro gb165 hg w80 hbox hb; have n0_ := Aside0.mk (below_step (by repeat (first | (with_reducible first | exact HB.out | apply below_alloc | apply pw_below_drewN | apply below_drew1) | exact HB.out)) hb); have n1_ := Aside0.mk (hbox); have n2_ := Aside0.mk ((by rw [hg]; exact (below_size (by repeat (first | (with_reducible first | exact HB.out | apply below_alloc | apply pw_below_drewN | apply below_drew1) | exact HB.out))) : w.heap.size ≤ gb165)); have n3_ := Aside0.mk ((by rw [hg]; exact (below_size (by repeat (first | (with_reducible first | exact HB.out | apply below_alloc | apply pw_below_drewN | apply below_drew1) | exact HB.out))) : w.heap.size ≤ gb165)); clear HB; have HB := n0_; have BK165 := n1_; have GW165 := n2_; have GE165 := n3_; clear n0_ n1_ n2_ n3_; clear hb hbox hg; have hcz81_0 : w80.cell? ⟨gb165, 0, none⟩ = some (.int .i64 0) := (blk_cell BK165.out 0).trans rfl; have hcz81_1 : w80.cell? ⟨gb165, 1, none⟩ = some (.string (⟨#[]⟩ : ByteArray)) := (blk_cell BK165.out 1).trans rfl; have hcz81_2 : w80.cell? ⟨gb165, 2, none⟩ = some (.int .i64 0) := (blk_cell BK165.out 2).trans rfl; have hcz81_3 : w80.cell? ⟨gb165, 3, none⟩ = some (.int .i64 0) := (blk_cell BK165.out 3).trans rfl; have hcz81_4 : w80.cell? ⟨gb165, 4, none⟩ = some (.int .i64 0) := (blk_cell BK165.out 4).trans rfl; have hfz81_0 := blk_frozen BK165.out 0; have hfz81_1 := blk_frozen BK165.out 1; have hfz81_2 := blk_frozen BK165.out 2; have hfz81_3 := blk_frozen BK165.out 3; have hfz81_4 := blk_frozen BK165.out 4) | ((with_reducible refine gate_store (t := 33) (p := 5) rfl ?_); refine store_event (t := 33) (p := 5) (v := ?vo_w82) (w1 := (((((w80.setCell ⟨gb165, 0, none⟩ (.int .i64 ((rd_T33 l0 a1).f0))).setCell ⟨gb165, 1, none⟩ (.string ((rd_T33 l0 a1).f1))).setCell ⟨gb165, 2, none⟩ (.int .i64 ((rd_T33 l0 a1).f2))).setCell ⟨gb165, 3, none⟩ (.int .i64 ((rd_T33 l0 a1).f3))).setCell ⟨gb165, 4, none⟩ (.int .i64 ((rd_T33 l0 a1).f4)))) ?hg ?ho ?hn ?hr ?_; (case ho => rfl); (case hg => rfl); (case hn => rfl); (case hr => first | (go_simp; done) | (go_simp; rfl)); intro w82 hw; have n0_ : Aside0 (w82.heap[gb165]? = some (.cells #[.int .i64 ((rd_T33 l0 a1).f0), .string ((rd_T33 l0 a1).f1), .int .i64 ((rd_T33 l0 a1).f2), .int .i64 ((rd_T33 l0 a1).f3), .int .i64 ((rd_T33 l0 a1).f4)] 33 (0, 0))) := ⟨(by rw [hw]; exact (by (with_reducible repeat (first | refine blk_drewN ?_ _ | refine blk_drew ?_ | refine blk_alloc ?_ _)); refine blk_put (cs := #[.int .i64 ((rd_T33 l0 a1).f0), .string ((rd_T33 l0 a1).f1), .int .i64 ((rd_T33 l0 a1).f2), .int .i64 ((rd_T33 l0 a1).f3), .int .i64 0]) ?_ 4 _ rfl; (with_reducible repeat (first | refine blk_drewN ?_ _ | refine blk_drew ?_ | refine blk_alloc ?_ _)); refine blk_put (cs := #[.int .i64 ((rd_T33 l0 a1).f0), .string ((rd_T33 l0 a1).f1), .int .i64 ((rd_T33 l0 a1).f2), .int .i64 0, .int .i64 0]) ?_ 3 _ rfl; (with_reducible repeat (first | refine blk_drewN ?_ _ | refine blk_drew ?_ | refine blk_alloc ?_ _)); refine blk_put (cs := #[.int .i64 ((rd_T33 l0 a1).f0), .string ((rd_T33 l0 a1).f1), .int .i64 0, .int .i64 0, .int .i64 0]) ?_ 2 _ rfl; (with_reducible repeat (first | refine blk_drewN ?_ _ | refine blk_drew ?_ | refine blk_alloc ?_ _)); refine blk_put (cs := #[.int .i64 ((rd_T33 l0 a1).f0), .string (⟨#[]⟩ : ByteArray), .int .i64 0, .int .i64 0, .int .i64 0]) ?_ 1 _ rfl; (with_reducible repeat (first | refine blk_drewN ?_ _ | refine blk_drew ?_ | refine blk_alloc ?_ _)); refine blk_put (cs := #[.int .i64 0, .string (⟨#[]⟩ : ByteArray), .int .i64 0, .int .i64 0, .int .i64 0]) ?_ 0 _ rfl; (with_reducible repeat (first | refine blk_drewN ?_ _ | refine blk_drew ?_ | refine blk_alloc ?_ _)); exact BK165.out))⟩; have n1_ : Aside0 (Below w.heap.size w w82) := ⟨(by rw [hw]; exact (by repeat (first | (with_reducible first | exact HB.out | apply below_alloc | apply pw_below_drewN | apply below_drew1 | refine below_set ?_ GE165.out) | exact HB.out)))⟩; clear hw; clear BK165; clear HB; have BK165 := n0_; have HB := n1_; clear n0_ n1_; have hcz83_0 : w82.cell? ⟨gb165, 0, none⟩ = some (.int .i64 ((rd_T33 l0 a1).f0)) := (blk_cell BK165.out 0).trans rfl; have hcz83_1 : w82.cell? ⟨gb165, 1, none⟩ = some (.string ((rd_T33 l0 a1).f1)) := (blk_cell BK165.out 1).trans rfl; have hcz83_2 : w82.cell? ⟨gb165, 2, none⟩ = some (.int .i64 ((rd_T33 l0 a1).f2)) := (blk_cell BK165.out 2).trans rfl; have hcz83_3 : w82.cell? ⟨gb165, 3, none⟩ = some (.int .i64 ((rd_T33 l0 a1).f3)) := (blk_cell BK165.out 3).trans rfl; have hcz83_4 : w82.cell? ⟨gb165, 4, none⟩ = some (.int .i64 ((rd_T33 l0 a1).f4)) := (blk_cell BK165.out 4).trans rfl; have hfz83_0 := blk_frozen BK165.out 0; have hfz83_1 := blk_frozen BK165.out 1; have hfz83_2 := blk_frozen BK165.out 2; have hfz83_3 := blk_frozen BK165.out 3; have hfz83_4 := blk_frozen BK165.out 4) | ((with_reducible refine gate_callee (f := 43) rfl ?_); refine goesL_ (some 14) rfl rfl Tryd.func43 (by kernel_rfl) rfl #[.agg #[.int .i64 ((rd_T33 l0 a1).f0), .string ((rd_T33 l0 a1).f1), .int .i64 ((rd_T33 l0 a1).f2), .int .i64 ((rd_T33 l0 a1).f3), .int .i64 ((rd_T33 l0 a1).f4)]] rfl (by (try simp only [List.map_toArray, List.map_cons, List.map_nil]); first | done | rfl | (simp only [List.length_drop, List.length_take]; rfl)) ?_; (with_reducible refine (understudyref04_bare.calls k ((rd_T33 l0 a1).f0) ((rd_T33 l0 a1).f1) ((rd_T33 l0 a1).f2) ((rd_T33 l0 a1).f3) ((rd_T33 l0 a1).f4) true _ A5.out).mono ?_); rintro e w84 ⟨rfl, hb⟩; refine ⟨_, rfl, ?_⟩; have n0_ := Aside0.mk (blk_below (g := gb165) (o := .cells #[.int .i64 ((rd_T33 l0 a1).f0), .string ((rd_T33 l0 a1).f1), .int .i64 ((rd_T33 l0 a1).f2), .int .i64 ((rd_T33 l0 a1).f3), .int .i64 ((rd_T33 l0 a1).f4)] 33 (0, 0)) (by (with_reducible repeat (first | refine blk_drewN ?_ _ | refine blk_drew ?_ | refine blk_alloc ?_ _)); exact BK165.out) hb); have n1_ := Aside0.mk (below_step (by repeat (first | (with_reducible first | exact HB.out | apply below_alloc | apply pw_below_drewN | apply below_drew1 | refine below_set ?_ GE165.out) | exact HB.out)) hb); clear BK165; clear HB; have BK165 := n0_; have HB := n1_; clear n0_ n1_; (try clear hb); (try clear hb2); (try clear hk); (try clear hi); have hcz85_0 : w84.cell? ⟨gb165, 0, none⟩ = some (.int .i64 ((rd_T33 l0 a1).f0)) := (blk_cell BK165.out 0).trans rfl; have hcz85_1 : w84.cell? ⟨gb165, 1, none⟩ = some (.string ((rd_T33 l0 a1).f1)) := (blk_cell BK165.out 1).trans rfl; have hcz85_2 : w84.cell? ⟨gb165, 2, none⟩ = some (.int .i64 ((rd_T33 l0 a1).f2)) := (blk_cell BK165.out 2).trans rfl; have hcz85_3 : w84.cell? ⟨gb165, 3, none⟩ = some (.int .i64 ((rd_T33 l0 a1).f3)) := (blk_cell BK165.out 3).trans rfl; have hcz85_4 : w84.cell? ⟨gb165, 4, none⟩ = some (.int .i64 ((rd_T33 l0 a1).f4)) := (blk_cell BK165.out 4).trans rfl; have hfz85_0 := blk_frozen BK165.out 0; have hfz85_1 := blk_frozen BK165.out 1; have hfz85_2 := blk_frozen BK165.out 2; have hfz85_3 := blk_frozen BK165.out 3; have hfz85_4 := blk_frozen BK165.out 4) | ((with_reducible refine gate_callee (f := 44) rfl ?_); refine goesL_ (some 56) rfl rfl Tryd.func44 (by kernel_rfl) rfl #[.slice (some ad164) l0.length c0, .int .i64 ((rd_T33 l0 a1).f3), .int .i64 1] rfl (by (try simp only [List.map_toArray, List.map_cons, List.map_nil]); first | done | rfl | (simp only [List.length_drop, List.length_take]; rfl)) ?_; (with_reducible refine (understudyref04_is.calls _ _ l0 ((rd_T33 l0 a1).f3) 1 false _ ?side1 ?side2 A64.out).mono ?_); (case side1 => repeat (first | exact (Kd.C_below HR0.out HB.out) | (with_reducible refine Kd.C_alloc ?_ _) | (with_reducible refine Kd.C_drewN ?_ _) | (with_reducible refine Kd.C_drew ?_))); (case side2 => exact HC0.out); rintro e w' ⟨rfl, ⟨nd, rfl⟩⟩; refine ⟨_, rfl, ?_⟩))
                    go_ret
                    exact ⟨by first | rfl | (simp [errW_none, errW_some] <;> rfl) | (simp [*, errW_none, errW_some] <;> rfl), by repeat (first | (with_reducible first | exact HB.out | apply below_alloc | apply pw_below_drewN | apply below_drew1 | refine below_set ?_ GE165.out) | exact HB.out)⟩
                · rw [if_neg c63] at H
                  have c63b0 : (((rd_T33 l0 a1).f0) == 12) = false := beq_eq_false_iff_ne.mpr c63
                  have c63b1 : (((rd_T33 l0 a1).f0) != 12) = true := bne_iff_ne.mpr c63
                  have HC86 := Aside0.mk H
                  clear H
                  have p164 : 0 ≤ (a1 : Int) := of_decide_eq_true (by first | (with_reducible assumption) | assumption)
                  have q164 : a1 < (l0.length : Int) := of_decide_eq_true (by first | (with_reducible assumption) | assumption)
                  obtain ⟨ad164, e164, hx164_0, hx164_1, hx164_2, hx164_3, hx164_4⟩ := at_T33 HR0.out a1 p164 q164
                  cases e164
                  replace p164 := eq_true p164
                  replace q164 := eq_true q164
                  go_enter Tryd.func21, Tryd.ntmps21
                  go_upto_if 63 with (first | ((with_reducible refine gate_dst (N := 5) rfl ?_); (try (refine gate_guard (by rfl) ?_; dsimp only)); refine box_event ?hg (N := 5) ?hd (cs := #[.int .i64 0, .string (⟨#[]⟩ : ByteArray), .int .i64 0, .int .i64 0, .int .i64 0]) (t := 33) ?hr ?_; (case hd => rfl); (case hg => rfl); (case hr => first | (go_simp; done) | (go_simp; rfl)); intro gb165 hg w87 hbox hb; have n0_ := Aside0.mk (below_step (by repeat (first | (with_reducible first | exact HB.out | apply below_alloc | apply pw_below_drewN | apply below_drew1) | exact HB.out)) hb); have n1_ := Aside0.mk (hbox); have n2_ := Aside0.mk ((by rw [hg]; exact (below_size (by repeat (first | (with_reducible first | exact HB.out | apply below_alloc | apply pw_below_drewN | apply below_drew1) | exact HB.out))) : w.heap.size ≤ gb165)); have n3_ := Aside0.mk ((by rw [hg]; exact (below_size (by repeat (first | (with_reducible first | exact HB.out | apply below_alloc | apply pw_below_drewN | apply below_drew1) | exact HB.out))) : w.heap.size ≤ gb165)); clear HB; have HB := n0_; have BK165 := n1_; have GW165 := n2_; have GE165 := n3_; clear n0_ n1_ n2_ n3_; clear hb hbox hg; have hcz88_0 : w87.cell? ⟨gb165, 0, none⟩ = some (.int .i64 0) := (blk_cell BK165.out 0).trans rfl; have hcz88_1 : w87.cell? ⟨gb165, 1, none⟩ = some (.string (⟨#[]⟩ : ByteArray)) := (blk_cell BK165.out 1).trans rfl; have hcz88_2 : w87.cell? ⟨gb165, 2, none⟩ = some (.int .i64 0) := (blk_cell BK165.out 2).trans rfl; have hcz88_3 : w87.cell? ⟨gb165, 3, none⟩ = some (.int .i64 0) := (blk_cell BK165.out 3).trans rfl; have hcz88_4 : w87.cell? ⟨gb165, 4, none⟩ = some (.int .i64 0) := (blk_cell BK165.out 4).trans rfl; have hfz88_0 := blk_frozen BK165.out 0; have hfz88_1 := blk_frozen BK165.out 1; have hfz88_2 := blk_frozen BK165.out 2; have hfz88_3 := blk_frozen BK165.out 3; have hfz88_4 := blk_frozen BK165.out 4) | ((with_reducible refine gate_store (t := 33) (p := 5) rfl ?_); refine store_event (t := 33) (p := 5) (v := ?vo_w89) (w1 := (((((w87.setCell ⟨gb165, 0, none⟩ (.int .i64 ((rd_T33 l0 a1).f0))).setCell ⟨gb165, 1, none⟩ (.string ((rd_T33 l0 a1).f1))).setCell ⟨gb165, 2, none⟩ (.int .i64 ((rd_T33 l0 a1).f2))).setCell ⟨gb165, 3, none⟩ (.int .i64 ((rd_T33 l0 a1).f3))).setCell ⟨gb165, 4, none⟩ (.int .i64 ((rd_T33 l0 a1).f4)))) ?hg ?ho ?hn ?hr ?_; (case ho => rfl); (case hg => rfl); (case hn => rfl); (case hr => first | (go_simp; done) | (go_simp; rfl)); intro w89 hw; have n0_ : Aside0 (w89.heap[gb165]? = some (.cells #[.int .i64 ((rd_T33 l0 a1).f0), .string ((rd_T33 l0 a1).f1), .int .i64 ((rd_T33 l0 a1).f2), .int .i64 ((rd_T33 l0 a1).f3), .int .i64 ((rd_T33 l0 a1).f4)] 33 (0, 0))) := ⟨(by rw [hw]; exact (by (with_reducible repeat (first | refine blk_drewN ?_ _ | refine blk_drew ?_ | refine blk_alloc ?_ _)); refine blk_put (cs := #[.int .i64 ((rd_T33 l0 a1).f0), .string ((rd_T33 l0 a1).f1), .int .i64 ((rd_T33 l0 a1).f2), .int .i64 ((rd_T33 l0 a1).f3), .int .i64 0]) ?_ 4 _ rfl; (with_reducible repeat (first | refine blk_drewN ?_ _ | refine blk_drew ?_ | refine blk_alloc ?_ _)); refine blk_put (cs := #[.int .i64 ((rd_T33 l0 a1).f0), .string ((rd_T33 l0 a1).f1), .int .i64 ((rd_T33 l0 a1).f2), .int .i64 0, .int .i64 0]) ?_ 3 _ rfl; (with_reducible repeat (first | refine blk_drewN ?_ _ | refine blk_drew ?_ | refine blk_alloc ?_ _)); refine blk_put (cs := #[.int .i64 ((rd_T33 l0 a1).f0), .string ((rd_T33 l0 a1).f1), .int .i64 0, .int .i64 0, .int .i64 0]) ?_ 2 _ rfl; (with_reducible repeat (first | refine blk_drewN ?_ _ | refine blk_drew ?_ | refine blk_alloc ?_ _)); refine blk_put (cs := #[.int .i64 ((rd_T33 l0 a1).f0), .string (⟨#[]⟩ : ByteArray), .int .i64 0, .int .i64 0, .int .i64 0]) ?_ 1 _ rfl; (with_reducible repeat (first | refine blk_drewN ?_ _ | refine blk_drew ?_ | refine blk_alloc ?_ _)); refine blk_put (cs := #[.int .i64 0, .string (⟨#[]⟩ : ByteArray), .int .i64 0, .int .i64 0, .int .i64 0]) ?_ 0 _ rfl; (with_reducible repeat (first | refine blk_drewN ?_ _ | refine blk_drew ?_ | refine blk_alloc ?_ _)); exact BK165.out))⟩; have n1_ : Aside0 (Below w.heap.size w w89) := ⟨(by rw [hw]; exact (by repeat (first | (with_reducible first | exact HB.out | apply below_alloc | apply pw_below_drewN | apply below_drew1 | refine below_set ?_ GE165.out) | exact HB.out)))⟩; clear hw; clear BK165; clear HB; have BK165 := n0_; have HB := n1_; clear n0_ n1_; have hcz90_0 : w89.cell? ⟨gb165, 0, none⟩ = some (.int .i64 ((rd_T33 l0 a1).f0)) := (blk_cell BK165.out 0).trans rfl; have hcz90_1 : w89.cell? ⟨gb165, 1, none⟩ = some (.string ((rd_T33 l0 a1).f1)) := (blk_cell BK165.out 1).trans rfl; have hcz90_2 : w89.cell? ⟨gb165, 2, none⟩ = some (.int .i64 ((rd_T33 l0 a1).f2)) := (blk_cell BK165.out 2).trans rfl; have hcz90_3 : w89.cell? ⟨gb165, 3, none⟩ = some (.int .i64 ((rd_T33 l0 a1).f3)) := (blk_cell BK165.out 3).trans rfl; have hcz90_4 : w89.cell? ⟨gb165, 4, none⟩ = some (.int .i64 ((rd_T33 l0 a1).f4)) := (blk_cell BK165.out 4).trans rfl; have hfz90_0 := blk_frozen BK165.out 0; have hfz90_1 := blk_frozen BK165.out 1; have hfz90_2 := blk_frozen BK165.out 2; have hfz90_3 := blk_frozen BK165.out 3; have hfz90_4 := blk_frozen BK165.out 4) | ((with_reducible refine gate_callee (f := 43) rfl ?_); refine goesL_ (some 14) rfl rfl Tryd.func43 (by kernel_rfl) rfl #[.agg #[.int .i64 ((rd_T33 l0 a1).f0), .string ((rd_T33 l0 a1).f1), .int .i64 ((rd_T33 l0 a1).f2), .int .i64 ((rd_T33 l0 a1).f3), .int .i64 ((rd_T33 l0 a1).f4)]] rfl (by (try simp only [List.map_toArray, List.map_cons, List.map_nil]); first | done | rfl | (simp only [List.length_drop, List.length_take]; rfl)) ?_; (with_reducible refine (understudyref04_bare.calls k ((rd_T33 l0 a1).f0) ((rd_T33 l0 a1).f1) ((rd_T33 l0 a1).f2) ((rd_T33 l0 a1).f3) ((rd_T33 l0 a1).f4) true _ A5.out).mono ?_); rintro e w91 ⟨rfl, hb⟩; refine ⟨_, rfl, ?_⟩; have n0_ := Aside0.mk (blk_below (g := gb165) (o := .cells #[.int .i64 ((rd_T33 l0 a1).f0), .string ((rd_T33 l0 a1).f1), .int .i64 ((rd_T33 l0 a1).f2), .int .i64 ((rd_T33 l0 a1).f3), .int .i64 ((rd_T33 l0 a1).f4)] 33 (0, 0)) (by (with_reducible repeat (first | refine blk_drewN ?_ _ | refine blk_drew ?_ | refine blk_alloc ?_ _)); exact BK165.out) hb); have n1_ := Aside0.mk (below_step (by repeat (first | (with_reducible first | exact HB.out | apply below_alloc | apply pw_below_drewN | apply below_drew1 | refine below_set ?_ GE165.out) | exact HB.out)) hb); clear BK165; clear HB; have BK165 := n0_; have HB := n1_; clear n0_ n1_; (try clear hb); (try clear hb2); (try clear hk); (try clear hi); have hcz92_0 : w91.cell? ⟨gb165, 0, none⟩ = some (.int .i64 ((rd_T33 l0 a1).f0)) := (blk_cell BK165.out 0).trans rfl; have hcz92_1 : w91.cell? ⟨gb165, 1, none⟩ = some (.string ((rd_T33 l0 a1).f1)) := (blk_cell BK165.out 1).trans rfl; have hcz92_2 : w91.cell? ⟨gb165, 2, none⟩ = some (.int .i64 ((rd_T33 l0 a1).f2)) := (blk_cell BK165.out 2).trans rfl; have hcz92_3 : w91.cell? ⟨gb165, 3, none⟩ = some (.int .i64 ((rd_T33 l0 a1).f3)) := (blk_cell BK165.out 3).trans rfl; have hcz92_4 : w91.cell? ⟨gb165, 4, none⟩ = some (.int .i64 ((rd_T33 l0 a1).f4)) := (blk_cell BK165.out 4).trans rfl; have hfz92_0 := blk_frozen BK165.out 0; have hfz92_1 := blk_frozen BK165.out 1; have hfz92_2 := blk_frozen BK165.out 2; have hfz92_3 := blk_frozen BK165.out 3; have hfz92_4 := blk_frozen BK165.out 4))
                  (try simp only [Act.put, List.setIfInBounds_toArray, List.set_cons_zero, List.set_cons_succ])
                  go_cut [63] (fun v63 wc => ∃ (kq : Nat) (x63_85 : Bool), v63 = .bool x63_85 ∧ Aside0 (understudyref04_one.j1 kq l0 x63_85 ((rd_T33 l0 a1).f0) ((rd_T33 l0 a1).f1) ((rd_T33 l0 a1).f2) ((rd_T33 l0 a1).f3) ((rd_T33 l0 a1).f4) = some r) ∧ Aside0 (kq ≤ k) ∧ Aside0 (wc.heap[gb165]? = some (.cells #[.int .i64 ((rd_T33 l0 a1).f0), .string ((rd_T33 l0 a1).f1), .int .i64 ((rd_T33 l0 a1).f2), .int .i64 ((rd_T33 l0 a1).f3), .int .i64 ((rd_T33 l0 a1).f4)] 33 (0, 0))) ∧ Aside0 (Below w.heap.size w wc))
                  case first =>
                    have H := HC86.out
                    clear HC86
                    by_cases c93 : ((rd_T33 l0 a1).f0) = 9
                    · rw [if_pos c93] at H
                      have c93b0 : (((rd_T33 l0 a1).f0) == 9) = true := beq_iff_eq.mpr c93
                      have c93b1 : (((rd_T33 l0 a1).f0) != 9) = false := bne_eq_false_iff_eq.mpr c93
                      clear c93
                      (first | rw [c93b0] | (simp only [i64_w, i32_w]; rw [c93b0]) | skip)
                      have H' := Aside0.mk H
                      clear H
                      go_wp2
                      go_meet
                      case rel => exact ⟨_, ((((rd_T33 l0 a1).f0) == 9)), (by first | rfl | (simp; done) | (simp [*]; done)), H', ⟨by first | omega | exact Nat.le_refl _⟩, ⟨by (with_reducible repeat (first | refine blk_drewN ?_ _ | refine blk_drew ?_ | refine blk_alloc ?_ _)); exact BK165.out⟩, ⟨by repeat (first | (with_reducible first | exact HB.out | apply below_alloc | apply pw_below_drewN | apply below_drew1 | refine below_set ?_ GE165.out) | exact HB.out)⟩⟩
                    · rw [if_neg c93] at H
                      have c93b0 : (((rd_T33 l0 a1).f0) == 9) = false := beq_eq_false_iff_ne.mpr c93
                      have c93b1 : (((rd_T33 l0 a1).f0) != 9) = true := bne_iff_ne.mpr c93
                      (first | rw [c93b0] | (simp only [i64_w, i32_w]; rw [c93b0]) | skip)
                      have H' := Aside0.mk H
                      clear H
                      go_wp2
                      go_meet
                      case rel => exact ⟨_, ((((rd_T33 l0 a1).f0) == 10)), (by first | rfl | (simp; done) | (simp [*]; done)), H', ⟨by first | omega | exact Nat.le_refl _⟩, ⟨by (with_reducible repeat (first | refine blk_drewN ?_ _ | refine blk_drew ?_ | refine blk_alloc ?_ _)); exact BK165.out⟩, ⟨by repeat (first | (with_reducible first | exact HB.out | apply below_alloc | apply pw_below_drewN | apply below_drew1 | refine below_set ?_ GE165.out) | exact HB.out)⟩⟩
                  case rest =>
                    clear HC86
                    try clear c1
                    try clear p1
                    try clear q1
                    try clear hx1
                    try clear c2
                    try clear p2
                    try clear c3
                    try clear c3b0
                    try clear c4
                    try clear c4b0
                    try clear c5
                    try clear c6
                    try clear c7
                    try clear c7b0
                    try clear c7b1
                    try clear c9
                    try clear p16
                    try clear q16
                    try clear hx16
                    try clear c17
                    try clear c17b0
                    try clear c17b1
                    try clear c19
                    try clear c20
                    try clear c20b0
                    try clear c20b1
                    try clear c21
                    try clear c21b0
                    try clear c22
                    try clear c22b0
                    try clear c30
                    try clear c41
                    try clear c41b0
                    try clear c41b1
                    try clear c43
                    try clear c44
                    try clear c48
                    try clear c48b0
                    try clear c48b1
                    try clear c50
                    try clear c63
                    try clear c63b0
                    try clear c63b1
                    try clear c65
                    try clear c67
                    try clear c93
                    try clear c93b0
                    try clear c93b1
                    try clear hcz11_0
                    try clear hcz11_1
                    try clear hcz11_2
                    try clear hcz11_3
                    try clear hcz11_4
                    try clear hcz13_0
                    try clear hcz13_1
                    try clear hcz13_2
                    try clear hcz13_3
                    try clear hcz13_4
                    try clear hcz15_0
                    try clear hcz15_1
                    try clear hcz15_2
                    try clear hcz15_3
                    try clear hcz15_4
                    try clear hcz24_0
                    try clear hcz24_1
                    try clear hcz24_2
                    try clear hcz24_3
                    try clear hcz24_4
                    try clear hcz26_0
                    try clear hcz26_1
                    try clear hcz26_2
                    try clear hcz26_3
                    try clear hcz26_4
                    try clear hcz28_0
                    try clear hcz28_1
                    try clear hcz28_2
                    try clear hcz28_3
                    try clear hcz28_4
                    try clear hcz30_0
                    try clear hcz30_1
                    try clear hcz30_2
                    try clear hcz30_3
                    try clear hcz30_4
                    try clear hcz32_0
                    try clear hcz32_1
                    try clear hcz32_2
                    try clear hcz32_3
                    try clear hcz32_4
                    try clear hcz34_0
                    try clear hcz34_1
                    try clear hcz34_2
                    try clear hcz34_3
                    try clear hcz34_4
                    try clear hcz36_0
                    try clear hcz36_1
                    try clear hcz36_2
                    try clear hcz36_3
                    try clear hcz36_4
                    try clear hcz38_0
                    try clear hcz38_1
                    try clear hcz38_2
                    try clear hcz38_3
                    try clear hcz38_4
                    try clear hcz40_0
                    try clear hcz40_1
                    try clear hcz40_2
                    try clear hcz40_3
                    try clear hcz40_4
                    try clear hcz43_0
                    try clear hcz43_1
                    try clear hcz43_2
                    try clear hcz43_3
                    try clear hcz43_4
                    try clear hcz45_0
                    try clear hcz45_1
                    try clear hcz45_2
                    try clear hcz45_3
                    try clear hcz45_4
                    try clear hcz47_0
                    try clear hcz47_1
                    try clear hcz47_2
                    try clear hcz47_3
                    try clear hcz47_4
                    try clear hcz52_0
                    try clear hcz52_1
                    try clear hcz52_2
                    try clear hcz52_3
                    try clear hcz52_4
                    try clear hcz54_0
                    try clear hcz54_1
                    try clear hcz54_2
                    try clear hcz54_3
                    try clear hcz54_4
                    try clear hcz56_0
                    try clear hcz56_1
                    try clear hcz56_2
                    try clear hcz56_3
                    try clear hcz56_4
                    try clear hcz58_0
                    try clear hcz58_1
                    try clear hcz58_2
                    try clear hcz58_3
                    try clear hcz58_4
                    try clear hcz60_0
                    try clear hcz60_1
                    try clear hcz60_2
                    try clear hcz60_3
                    try clear hcz60_4
                    try clear hcz62_0
                    try clear hcz62_1
                    try clear hcz62_2
                    try clear hcz62_3
                    try clear hcz62_4
                    try clear hcz69_0
                    try clear hcz69_1
                    try clear hcz69_2
                    try clear hcz69_3
                    try clear hcz69_4
                    try clear hcz71_0
                    try clear hcz71_1
                    try clear hcz71_2
                    try clear hcz71_3
                    try clear hcz71_4
                    try clear hcz73_0
                    try clear hcz73_1
                    try clear hcz73_2
                    try clear hcz73_3
                    try clear hcz73_4
                    try clear hcz75_0
                    try clear hcz75_1
                    try clear hcz75_2
                    try clear hcz75_3
                    try clear hcz75_4
                    try clear hcz77_0
                    try clear hcz77_1
                    try clear hcz77_2
                    try clear hcz77_3
                    try clear hcz77_4
                    try clear hcz79_0
                    try clear hcz79_1
                    try clear hcz79_2
                    try clear hcz79_3
                    try clear hcz79_4
                    try clear hcz81_0
                    try clear hcz81_1
                    try clear hcz81_2
                    try clear hcz81_3
                    try clear hcz81_4
                    try clear hcz83_0
                    try clear hcz83_1
                    try clear hcz83_2
                    try clear hcz83_3
                    try clear hcz83_4
                    try clear hcz85_0
                    try clear hcz85_1
                    try clear hcz85_2
                    try clear hcz85_3
                    try clear hcz85_4
                    try clear hcz88_0
                    try clear hcz88_1
                    try clear hcz88_2
                    try clear hcz88_3
                    try clear hcz88_4
                    try clear hcz90_0
                    try clear hcz90_1
                    try clear hcz90_2
                    try clear hcz90_3
                    try clear hcz90_4
                    try clear hcz92_0
                    try clear hcz92_1
                    try clear hcz92_2
                    try clear hcz92_3
                    try clear hcz92_4
                    try clear hfz11_0
                    try clear hfz11_1
                    try clear hfz11_2
                    try clear hfz11_3
                    try clear hfz11_4
                    try clear hfz13_0
                    try clear hfz13_1
                    try clear hfz13_2
                    try clear hfz13_3
                    try clear hfz13_4
                    try clear hfz15_0
                    try clear hfz15_1
                    try clear hfz15_2
                    try clear hfz15_3
                    try clear hfz15_4
                    try clear hfz24_0
                    try clear hfz24_1
                    try clear hfz24_2
                    try clear hfz24_3
                    try clear hfz24_4
                    try clear hfz26_0
                    try clear hfz26_1
                    try clear hfz26_2
                    try clear hfz26_3
                    try clear hfz26_4
                    try clear hfz28_0
                    try clear hfz28_1
                    try clear hfz28_2
                    try clear hfz28_3
                    try clear hfz28_4
                    try clear hfz30_0
                    try clear hfz30_1
                    try clear hfz30_2
                    try clear hfz30_3
                    try clear hfz30_4
                    try clear hfz32_0
                    try clear hfz32_1
                    try clear hfz32_2
                    try clear hfz32_3
                    try clear hfz32_4
                    try clear hfz34_0
                    try clear hfz34_1
                    try clear hfz34_2
                    try clear hfz34_3
                    try clear hfz34_4
                    try clear hfz36_0
                    try clear hfz36_1
                    try clear hfz36_2
                    try clear hfz36_3
                    try clear hfz36_4
                    try clear hfz38_0
                    try clear hfz38_1
                    try clear hfz38_2
                    try clear hfz38_3
                    try clear hfz38_4
                    try clear hfz40_0
                    try clear hfz40_1
                    try clear hfz40_2
                    try clear hfz40_3
                    try clear hfz40_4
                    try clear hfz43_0
                    try clear hfz43_1
                    try clear hfz43_2
                    try clear hfz43_3
                    try clear hfz43_4
                    try clear hfz45_0
                    try clear hfz45_1
                    try clear hfz45_2
                    try clear hfz45_3
                    try clear hfz45_4
                    try clear hfz47_0
                    try clear hfz47_1
                    try clear hfz47_2
                    try clear hfz47_3
                    try clear hfz47_4
                    try clear hfz52_0
                    try clear hfz52_1
                    try clear hfz52_2
                    try clear hfz52_3
                    try clear hfz52_4
                    try clear hfz54_0
                    try clear hfz54_1
                    try clear hfz54_2
                    try clear hfz54_3
                    try clear hfz54_4
                    try clear hfz56_0
                    try clear hfz56_1
                    try clear hfz56_2
                    try clear hfz56_3
                    try clear hfz56_4
                    try clear hfz58_0
                    try clear hfz58_1
                    try clear hfz58_2
                    try clear hfz58_3
                    try clear hfz58_4
                    try clear hfz60_0
                    try clear hfz60_1
                    try clear hfz60_2
                    try clear hfz60_3
                    try clear hfz60_4
                    try clear hfz62_0
                    try clear hfz62_1
                    try clear hfz62_2
                    try clear hfz62_3
                    try clear hfz62_4
                    try clear hfz69_0
                    try clear hfz69_1
                    try clear hfz69_2
                    try clear hfz69_3
                    try clear hfz69_4
                    try clear hfz71_0
                    try clear hfz71_1
                    try clear hfz71_2
                    try clear hfz71_3
                    try clear hfz71_4
                    try clear hfz73_0
                    try clear hfz73_1
                    try clear hfz73_2
                    try clear hfz73_3
                    try clear hfz73_4
                    try clear hfz75_0
                    try clear hfz75_1
                    try clear hfz75_2
                    try clear hfz75_3
                    try clear hfz75_4
                    try clear hfz77_0
                    try clear hfz77_1
                    try clear hfz77_2
                    try clear hfz77_3
                    try clear hfz77_4
                    try clear hfz79_0
                    try clear hfz79_1
                    try clear hfz79_2
                    try clear hfz79_3
                    try clear hfz79_4
                    try clear hfz81_0
                    try clear hfz81_1
                    try clear hfz81_2
                    try clear hfz81_3
                    try clear hfz81_4
                    try clear hfz83_0
                    try clear hfz83_1
                    try clear hfz83_2
                    try clear hfz83_3
                    try clear hfz83_4
                    try clear hfz85_0
                    try clear hfz85_1
                    try clear hfz85_2
                    try clear hfz85_3
                    try clear hfz85_4
                    try clear hfz88_0
                    try clear hfz88_1
                    try clear hfz88_2
                    try clear hfz88_3
                    try clear hfz88_4
                    try clear hfz90_0
                    try clear hfz90_1
                    try clear hfz90_2
                    try clear hfz90_3
                    try clear hfz90_4
                    try clear hfz92_0
                    try clear hfz92_1
                    try clear hfz92_2
                    try clear hfz92_3
                    try clear hfz92_4
                    try clear hx164_0
                    try clear hx164_1
                    try clear hx164_2
                    try clear hx164_3
                    try clear hx164_4
                    try clear p1
                    try clear p16
                    try clear p164
                    try clear p2
                    try clear q1
                    try clear q16
                    try clear q164
                    obtain ⟨kq, x63_85, rfl, HA, HJ85, BK165, HB⟩ := hcut
                    cases kq with
                    | zero => exact absurd HA.out (by simp [understudyref04_one.j1])
                    | succ kj85 =>
                      have H := HA.out
                      clear HA
                      simp only [understudyref04_one.j1] at H
                      by_cases c94 : x63_85 = true
                      · subst c94
                        have H1 : ((understudyref04_is.f l0 ((rd_T33 l0 a1).f3) 7).bind fun t174 => (if t174 = true then ((understudyref04_is.f l0 ((rd_T33 l0 a1).f4) 12).bind fun t175 => (if t175 = true then (some 0) else (some 40))) else (some 40))) = some r := by rw [if_pos rfl] at H; exact H
                        clear H
                        have H := H1
                        clear H1
                        replace H := Option.bind_eq_some_iff.mp H
                        obtain ⟨t174, A950, H⟩ := H
                        replace H : (if t174 = true then ((understudyref04_is.f l0 ((rd_T33 l0 a1).f4) 12).bind fun t175 => (if t175 = true then (some 0) else (some 40))) else (some 40)) = some r := H
                        have A95 := Aside0.mk A950
                        clear A950
                        by_cases c96 : t174 = true
                        · subst c96
                          have H1 : ((understudyref04_is.f l0 ((rd_T33 l0 a1).f4) 12).bind fun t175 => (if t175 = true then (some 0) else (some 40))) = some r := by rw [if_pos rfl] at H; exact H
                          clear H
                          have H := H1
                          clear H1
                          replace H := Option.bind_eq_some_iff.mp H
                          obtain ⟨t175, A970, H⟩ := H
                          replace H : (if t175 = true then (some 0) else (some 40)) = some r := H
                          have A97 := Aside0.mk A970
                          clear A970
                          by_cases c98 : t175 = true
                          · subst c98
                            have H1 : (some 0) = some r := by rw [if_pos rfl] at H; exact H
                            clear H
                            have H := H1
                            clear H1
                            obtain rfl := Option.some.inj H
                            have hcz99_0 : wc.cell? ⟨gb165, 0, none⟩ = some (.int .i64 ((rd_T33 l0 a1).f0)) := (blk_cell BK165.out 0).trans rfl
                            have hcz99_1 : wc.cell? ⟨gb165, 1, none⟩ = some (.string ((rd_T33 l0 a1).f1)) := (blk_cell BK165.out 1).trans rfl
                            have hcz99_2 : wc.cell? ⟨gb165, 2, none⟩ = some (.int .i64 ((rd_T33 l0 a1).f2)) := (blk_cell BK165.out 2).trans rfl
                            have hcz99_3 : wc.cell? ⟨gb165, 3, none⟩ = some (.int .i64 ((rd_T33 l0 a1).f3)) := (blk_cell BK165.out 3).trans rfl
                            have hcz99_4 : wc.cell? ⟨gb165, 4, none⟩ = some (.int .i64 ((rd_T33 l0 a1).f4)) := (blk_cell BK165.out 4).trans rfl
                            have hfz99_0 := blk_frozen BK165.out 0
                            have hfz99_1 := blk_frozen BK165.out 1
                            have hfz99_2 := blk_frozen BK165.out 2
                            have hfz99_3 := blk_frozen BK165.out 3
                            have hfz99_4 := blk_frozen BK165.out 4
                            go_wp2_with (first | ((with_reducible refine gate_callee (f := 44) rfl ?_); refine goesL_ (some 69) rfl rfl Tryd.func44 (by kernel_rfl) rfl #[.slice (some ad164) l0.length c0, .int .i64 ((rd_T33 l0 a1).f3), .int .i64 7] rfl (by (try simp only [List.map_toArray, List.map_cons, List.map_nil]); first | done | rfl | (simp only [List.length_drop, List.length_take]; rfl)) ?_; (with_reducible refine (understudyref04_is.calls _ _ l0 ((rd_T33 l0 a1).f3) 7 true _ ?side1 ?side2 A95.out).mono ?_); (case side1 => repeat (first | exact (Kd.C_below HR0.out HB.out) | (with_reducible refine Kd.C_alloc ?_ _) | (with_reducible refine Kd.C_drewN ?_ _) | (with_reducible refine Kd.C_drew ?_))); (case side2 => exact HC0.out); rintro e w' ⟨rfl, ⟨nd, rfl⟩⟩; refine ⟨_, rfl, ?_⟩) | (go_at_call 44; (with_reducible refine (understudyref04_is.calls _ _ l0 ((rd_T33 l0 a1).f4) 12 true _ ?side1 ?side2 A97.out).mono ?_); (case side1 => repeat (first | exact (Kd.C_below HR0.out (by repeat (first | (with_reducible first | exact HB.out | apply below_alloc | apply pw_below_drewN | apply below_drew1 | refine below_set ?_ GE165.out) | exact HB.out))) | (with_reducible refine Kd.C_alloc ?_ _) | (with_reducible refine Kd.C_drewN ?_ _) | (with_reducible refine Kd.C_drew ?_))); (case side2 => exact HC0.out); rintro e w' ⟨rfl, ⟨nd, rfl⟩⟩))
                            go_ret
                            exact ⟨by first | rfl | (simp [errW_none, errW_some] <;> rfl) | (simp [*, errW_none, errW_some] <;> rfl), by repeat (first | (with_reducible first | exact HB.out | apply below_alloc | apply pw_below_drewN | apply below_drew1 | refine below_set ?_ GE165.out) | exact HB.out)⟩
                          · replace c98 := Bool.eq_false_iff.mpr c98
                            subst c98
                            have H1 : (some 40) = some r := by rw [if_neg (show ¬ (false = true) by decide)] at H; exact H
                            clear H
                            have H := H1
                            clear H1
                            obtain rfl := Option.some.inj H
                            have hcz100_0 : wc.cell? ⟨gb165, 0, none⟩ = some (.int .i64 ((rd_T33 l0 a1).f0)) := (blk_cell BK165.out 0).trans rfl
                            have hcz100_1 : wc.cell? ⟨gb165, 1, none⟩ = some (.string ((rd_T33 l0 a1).f1)) := (blk_cell BK165.out 1).trans rfl
                            have hcz100_2 : wc.cell? ⟨gb165, 2, none⟩ = some (.int .i64 ((rd_T33 l0 a1).f2)) := (blk_cell BK165.out 2).trans rfl
                            have hcz100_3 : wc.cell? ⟨gb165, 3, none⟩ = some (.int .i64 ((rd_T33 l0 a1).f3)) := (blk_cell BK165.out 3).trans rfl
                            have hcz100_4 : wc.cell? ⟨gb165, 4, none⟩ = some (.int .i64 ((rd_T33 l0 a1).f4)) := (blk_cell BK165.out 4).trans rfl
                            have hfz100_0 := blk_frozen BK165.out 0
                            have hfz100_1 := blk_frozen BK165.out 1
                            have hfz100_2 := blk_frozen BK165.out 2
                            have hfz100_3 := blk_frozen BK165.out 3
                            have hfz100_4 := blk_frozen BK165.out 4
                            go_wp2_with (first | ((with_reducible refine gate_callee (f := 44) rfl ?_); refine goesL_ (some 69) rfl rfl Tryd.func44 (by kernel_rfl) rfl #[.slice (some ad164) l0.length c0, .int .i64 ((rd_T33 l0 a1).f3), .int .i64 7] rfl (by (try simp only [List.map_toArray, List.map_cons, List.map_nil]); first | done | rfl | (simp only [List.length_drop, List.length_take]; rfl)) ?_; (with_reducible refine (understudyref04_is.calls _ _ l0 ((rd_T33 l0 a1).f3) 7 true _ ?side1 ?side2 A95.out).mono ?_); (case side1 => repeat (first | exact (Kd.C_below HR0.out HB.out) | (with_reducible refine Kd.C_alloc ?_ _) | (with_reducible refine Kd.C_drewN ?_ _) | (with_reducible refine Kd.C_drew ?_))); (case side2 => exact HC0.out); rintro e w' ⟨rfl, ⟨nd, rfl⟩⟩; refine ⟨_, rfl, ?_⟩) | (go_at_call 44; (with_reducible refine (understudyref04_is.calls _ _ l0 ((rd_T33 l0 a1).f4) 12 false _ ?side1 ?side2 A97.out).mono ?_); (case side1 => repeat (first | exact (Kd.C_below HR0.out (by repeat (first | (with_reducible first | exact HB.out | apply below_alloc | apply pw_below_drewN | apply below_drew1 | refine below_set ?_ GE165.out) | exact HB.out))) | (with_reducible refine Kd.C_alloc ?_ _) | (with_reducible refine Kd.C_drewN ?_ _) | (with_reducible refine Kd.C_drew ?_))); (case side2 => exact HC0.out); rintro e w' ⟨rfl, ⟨nd, rfl⟩⟩))
                            go_ret
                            exact ⟨by first | rfl | (simp [errW_none, errW_some] <;> rfl) | (simp [*, errW_none, errW_some] <;> rfl), by repeat (first | (with_reducible first | exact HB.out | apply below_alloc | apply pw_below_drewN | apply below_drew1 | refine below_set ?_ GE165.out) | exact HB.out)⟩
                        · replace c96 := Bool.eq_false_iff.mpr c96
                          subst c96
                          have H1 : (some 40) = some r := by rw [if_neg (show ¬ (false = true) by decide)] at H; exact H
                          clear H
                          have H := H1
                          clear H1
                          obtain rfl := Option.some.inj H
                          have hcz101_0 : wc.cell? ⟨gb165, 0, none⟩ = some (.int .i64 ((rd_T33 l0 a1).f0)) := (blk_cell BK165.out 0).trans rfl
                          have hcz101_1 : wc.cell? ⟨gb165, 1, none⟩ = some (.string ((rd_T33 l0 a1).f1)) := (blk_cell BK165.out 1).trans rfl
                          have hcz101_2 : wc.cell? ⟨gb165, 2, none⟩ = some (.int .i64 ((rd_T33 l0 a1).f2)) := (blk_cell BK165.out 2).trans rfl
                          have hcz101_3 : wc.cell? ⟨gb165, 3, none⟩ = some (.int .i64 ((rd_T33 l0 a1).f3)) := (blk_cell BK165.out 3).trans rfl
                          have hcz101_4 : wc.cell? ⟨gb165, 4, none⟩ = some (.int .i64 ((rd_T33 l0 a1).f4)) := (blk_cell BK165.out 4).trans rfl
                          have hfz101_0 := blk_frozen BK165.out 0
                          have hfz101_1 := blk_frozen BK165.out 1
                          have hfz101_2 := blk_frozen BK165.out 2
                          have hfz101_3 := blk_frozen BK165.out 3
                          have hfz101_4 := blk_frozen BK165.out 4
                          go_wp2_with (first | ((with_reducible refine gate_callee (f := 44) rfl ?_); refine goesL_ (some 69) rfl rfl Tryd.func44 (by kernel_rfl) rfl #[.slice (some ad164) l0.length c0, .int .i64 ((rd_T33 l0 a1).f3), .int .i64 7] rfl (by (try simp only [List.map_toArray, List.map_cons, List.map_nil]); first | done | rfl | (simp only [List.length_drop, List.length_take]; rfl)) ?_; (with_reducible refine (understudyref04_is.calls _ _ l0 ((rd_T33 l0 a1).f3) 7 false _ ?side1 ?side2 A95.out).mono ?_); (case side1 => repeat (first | exact (Kd.C_below HR0.out HB.out) | (with_reducible refine Kd.C_alloc ?_ _) | (with_reducible refine Kd.C_drewN ?_ _) | (with_reducible refine Kd.C_drew ?_))); (case side2 => exact HC0.out); rintro e w' ⟨rfl, ⟨nd, rfl⟩⟩; refine ⟨_, rfl, ?_⟩))
                          go_ret
                          exact ⟨by first | rfl | (simp [errW_none, errW_some] <;> rfl) | (simp [*, errW_none, errW_some] <;> rfl), by repeat (first | (with_reducible first | exact HB.out | apply below_alloc | apply pw_below_drewN | apply below_drew1 | refine below_set ?_ GE165.out) | exact HB.out)⟩
                      · replace c94 := Bool.eq_false_iff.mpr c94
                        subst c94
                        have H1 : (some 40) = some r := by rw [if_neg (show ¬ (false = true) by decide)] at H; exact H
                        clear H
                        have H := H1
                        clear H1
                        obtain rfl := Option.some.inj H
                        go_wp2
                        go_ret
                        exact ⟨by first | rfl | (simp [errW_none, errW_some] <;> rfl) | (simp [*, errW_none, errW_some] <;> rfl), by repeat (first | (with_reducible first | exact HB.out | apply below_alloc | apply pw_below_drewN | apply below_drew1 | refine below_set ?_ GE165.out) | exact HB.out)⟩
      · replace c6 := Bool.eq_false_iff.mpr c6
        subst c6
        have H1 : (some 40) = some r := by rw [if_neg (show ¬ (false = true) by decide)] at H; exact H
        clear H
        have H := H1
        clear H1
        obtain rfl := Option.some.inj H
        have p164 : 0 ≤ (a1 : Int) := of_decide_eq_true (by first | (with_reducible assumption) | assumption)
        have q164 : a1 < (l0.length : Int) := of_decide_eq_true (by first | (with_reducible assumption) | assumption)
        obtain ⟨ad164, e164, hx164_0, hx164_1, hx164_2, hx164_3, hx164_4⟩ := at_T33 HR0.out a1 p164 q164
        cases e164
        replace p164 := eq_true p164
        replace q164 := eq_true q164
        go_enter Tryd.func21, Tryd.ntmps21
        go_wp2_with (first | ((with_reducible refine gate_dst (N := 5) rfl ?_); (try (refine gate_guard (by rfl) ?_; dsimp only)); refine box_event ?hg (N := 5) ?hd (cs := #[.int .i64 0, .string (⟨#[]⟩ : ByteArray), .int .i64 0, .int .i64 0, .int .i64 0]) (t := 33) ?hr ?_; (case hd => rfl); (case hg => rfl); (case hr => first | (go_simp; done) | (go_simp; rfl)); intro gb165 hg w102 hbox hb; have n0_ := Aside0.mk (below_step (by repeat (first | (with_reducible first | exact HB.out | apply below_alloc | apply pw_below_drewN | apply below_drew1) | exact HB.out)) hb); have n1_ := Aside0.mk (hbox); have n2_ := Aside0.mk ((by rw [hg]; exact (below_size (by repeat (first | (with_reducible first | exact HB.out | apply below_alloc | apply pw_below_drewN | apply below_drew1) | exact HB.out))) : w.heap.size ≤ gb165)); have n3_ := Aside0.mk ((by rw [hg]; exact (below_size (by repeat (first | (with_reducible first | exact HB.out | apply below_alloc | apply pw_below_drewN | apply below_drew1) | exact HB.out))) : w.heap.size ≤ gb165)); clear HB; have HB := n0_; have BK165 := n1_; have GW165 := n2_; have GE165 := n3_; clear n0_ n1_ n2_ n3_; clear hb hbox hg; have hcz103_0 : w102.cell? ⟨gb165, 0, none⟩ = some (.int .i64 0) := (blk_cell BK165.out 0).trans rfl; have hcz103_1 : w102.cell? ⟨gb165, 1, none⟩ = some (.string (⟨#[]⟩ : ByteArray)) := (blk_cell BK165.out 1).trans rfl; have hcz103_2 : w102.cell? ⟨gb165, 2, none⟩ = some (.int .i64 0) := (blk_cell BK165.out 2).trans rfl; have hcz103_3 : w102.cell? ⟨gb165, 3, none⟩ = some (.int .i64 0) := (blk_cell BK165.out 3).trans rfl; have hcz103_4 : w102.cell? ⟨gb165, 4, none⟩ = some (.int .i64 0) := (blk_cell BK165.out 4).trans rfl; have hfz103_0 := blk_frozen BK165.out 0; have hfz103_1 := blk_frozen BK165.out 1; have hfz103_2 := blk_frozen BK165.out 2; have hfz103_3 := blk_frozen BK165.out 3; have hfz103_4 := blk_frozen BK165.out 4) | ((with_reducible refine gate_store (t := 33) (p := 5) rfl ?_); refine store_event (t := 33) (p := 5) (v := ?vo_w104) (w1 := (((((w102.setCell ⟨gb165, 0, none⟩ (.int .i64 ((rd_T33 l0 a1).f0))).setCell ⟨gb165, 1, none⟩ (.string ((rd_T33 l0 a1).f1))).setCell ⟨gb165, 2, none⟩ (.int .i64 ((rd_T33 l0 a1).f2))).setCell ⟨gb165, 3, none⟩ (.int .i64 ((rd_T33 l0 a1).f3))).setCell ⟨gb165, 4, none⟩ (.int .i64 ((rd_T33 l0 a1).f4)))) ?hg ?ho ?hn ?hr ?_; (case ho => rfl); (case hg => rfl); (case hn => rfl); (case hr => first | (go_simp; done) | (go_simp; rfl)); intro w104 hw; have n0_ : Aside0 (w104.heap[gb165]? = some (.cells #[.int .i64 ((rd_T33 l0 a1).f0), .string ((rd_T33 l0 a1).f1), .int .i64 ((rd_T33 l0 a1).f2), .int .i64 ((rd_T33 l0 a1).f3), .int .i64 ((rd_T33 l0 a1).f4)] 33 (0, 0))) := ⟨(by rw [hw]; exact (by (with_reducible repeat (first | refine blk_drewN ?_ _ | refine blk_drew ?_ | refine blk_alloc ?_ _)); refine blk_put (cs := #[.int .i64 ((rd_T33 l0 a1).f0), .string ((rd_T33 l0 a1).f1), .int .i64 ((rd_T33 l0 a1).f2), .int .i64 ((rd_T33 l0 a1).f3), .int .i64 0]) ?_ 4 _ rfl; (with_reducible repeat (first | refine blk_drewN ?_ _ | refine blk_drew ?_ | refine blk_alloc ?_ _)); refine blk_put (cs := #[.int .i64 ((rd_T33 l0 a1).f0), .string ((rd_T33 l0 a1).f1), .int .i64 ((rd_T33 l0 a1).f2), .int .i64 0, .int .i64 0]) ?_ 3 _ rfl; (with_reducible repeat (first | refine blk_drewN ?_ _ | refine blk_drew ?_ | refine blk_alloc ?_ _)); refine blk_put (cs := #[.int .i64 ((rd_T33 l0 a1).f0), .string ((rd_T33 l0 a1).f1), .int .i64 0, .int .i64 0, .int .i64 0]) ?_ 2 _ rfl; (with_reducible repeat (first | refine blk_drewN ?_ _ | refine blk_drew ?_ | refine blk_alloc ?_ _)); refine blk_put (cs := #[.int .i64 ((rd_T33 l0 a1).f0), .string (⟨#[]⟩ : ByteArray), .int .i64 0, .int .i64 0, .int .i64 0]) ?_ 1 _ rfl; (with_reducible repeat (first | refine blk_drewN ?_ _ | refine blk_drew ?_ | refine blk_alloc ?_ _)); refine blk_put (cs := #[.int .i64 0, .string (⟨#[]⟩ : ByteArray), .int .i64 0, .int .i64 0, .int .i64 0]) ?_ 0 _ rfl; (with_reducible repeat (first | refine blk_drewN ?_ _ | refine blk_drew ?_ | refine blk_alloc ?_ _)); exact BK165.out))⟩; have n1_ : Aside0 (Below w.heap.size w w104) := ⟨(by rw [hw]; exact (by repeat (first | (with_reducible first | exact HB.out | apply below_alloc | apply pw_below_drewN | apply below_drew1 | refine below_set ?_ GE165.out) | exact HB.out)))⟩; clear hw; clear BK165; clear HB; have BK165 := n0_; have HB := n1_; clear n0_ n1_; have hcz105_0 : w104.cell? ⟨gb165, 0, none⟩ = some (.int .i64 ((rd_T33 l0 a1).f0)) := (blk_cell BK165.out 0).trans rfl; have hcz105_1 : w104.cell? ⟨gb165, 1, none⟩ = some (.string ((rd_T33 l0 a1).f1)) := (blk_cell BK165.out 1).trans rfl; have hcz105_2 : w104.cell? ⟨gb165, 2, none⟩ = some (.int .i64 ((rd_T33 l0 a1).f2)) := (blk_cell BK165.out 2).trans rfl; have hcz105_3 : w104.cell? ⟨gb165, 3, none⟩ = some (.int .i64 ((rd_T33 l0 a1).f3)) := (blk_cell BK165.out 3).trans rfl; have hcz105_4 : w104.cell? ⟨gb165, 4, none⟩ = some (.int .i64 ((rd_T33 l0 a1).f4)) := (blk_cell BK165.out 4).trans rfl; have hfz105_0 := blk_frozen BK165.out 0; have hfz105_1 := blk_frozen BK165.out 1; have hfz105_2 := blk_frozen BK165.out 2; have hfz105_3 := blk_frozen BK165.out 3; have hfz105_4 := blk_frozen BK165.out 4) | ((with_reducible refine gate_callee (f := 43) rfl ?_); refine goesL_ (some 14) rfl rfl Tryd.func43 (by kernel_rfl) rfl #[.agg #[.int .i64 ((rd_T33 l0 a1).f0), .string ((rd_T33 l0 a1).f1), .int .i64 ((rd_T33 l0 a1).f2), .int .i64 ((rd_T33 l0 a1).f3), .int .i64 ((rd_T33 l0 a1).f4)]] rfl (by (try simp only [List.map_toArray, List.map_cons, List.map_nil]); first | done | rfl | (simp only [List.length_drop, List.length_take]; rfl)) ?_; (with_reducible refine (understudyref04_bare.calls k ((rd_T33 l0 a1).f0) ((rd_T33 l0 a1).f1) ((rd_T33 l0 a1).f2) ((rd_T33 l0 a1).f3) ((rd_T33 l0 a1).f4) false _ A5.out).mono ?_); rintro e w106 ⟨rfl, hb⟩; refine ⟨_, rfl, ?_⟩; have n0_ := Aside0.mk (blk_below (g := gb165) (o := .cells #[.int .i64 ((rd_T33 l0 a1).f0), .string ((rd_T33 l0 a1).f1), .int .i64 ((rd_T33 l0 a1).f2), .int .i64 ((rd_T33 l0 a1).f3), .int .i64 ((rd_T33 l0 a1).f4)] 33 (0, 0)) (by (with_reducible repeat (first | refine blk_drewN ?_ _ | refine blk_drew ?_ | refine blk_alloc ?_ _)); exact BK165.out) hb); have n1_ := Aside0.mk (below_step (by repeat (first | (with_reducible first | exact HB.out | apply below_alloc | apply pw_below_drewN | apply below_drew1 | refine below_set ?_ GE165.out) | exact HB.out)) hb); clear BK165; clear HB; have BK165 := n0_; have HB := n1_; clear n0_ n1_; (try clear hb); (try clear hb2); (try clear hk); (try clear hi)))
        go_ret
        exact ⟨by first | rfl | (simp [errW_none, errW_some] <;> rfl) | (simp [*, errW_none, errW_some] <;> rfl), by repeat (first | (with_reducible first | exact HB.out | apply below_alloc | apply pw_below_drewN | apply below_drew1 | refine below_set ?_ GE165.out) | exact HB.out)⟩
    · rw [if_neg c4] at H
      exact absurd H (by simp)
  · rw [if_neg c3] at H
    exact absurd H (by simp)

end Go.Proofs.YtglnhkgodgjepaaDoor.Px
