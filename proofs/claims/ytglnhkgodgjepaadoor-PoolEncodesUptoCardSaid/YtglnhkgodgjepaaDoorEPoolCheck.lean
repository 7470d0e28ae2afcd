/- pool.check, pool.Check: what they compute, as Lean functions, and the walks; errors.As by the worked example's contracts. -/
import Derived.Test.YtglnhkgodgjepaaDoorGG
import Derived.Test.YtglnhkgodgjepaaDoorErrorsAs
import Derived.Test.YtglnhkgodgjepaaDoorETextEncode
import Derived.Test.YtglnhkgodgjepaaDoorPx3
import Derived.Test.YtglnhkgodgjepaaDoorPx4
import Derived.BigCall
import Derived.Deep.CutBlock
import Derived.Deep.RegionHeld3
namespace Go.Proofs.YtglnhkgodgjepaaDoor.Px
open Go.RowKit Go.Proofs.YtglnhkgodgjepaaDoorW.PrintWords Go.Proofs.YtglnhkgodgjepaaDoorW.PrintLast Go.Proofs.YtglnhkgodgjepaaDoorW.PrintMore
set_option linter.unusedVariables false
set_option linter.unusedSimpArgs false

abbrev Cst := S33
/-- Are two constants the same, as the walk says it. -/
def sameC (c : Cst) (x : Int × ByteArray × Int × Int × Int) : Bool := c.f0 == x.1 && (c.f1.toList == x.2.1.toList && (c.f2 == x.2.2.1 && (c.f3 == x.2.2.2.1 && c.f4 == x.2.2.2.2)))
/-- What is wrong, and where, from a place on. -/
def pool_check.l0 : Nat → List Cst → Nat → Option (Option (Int × Int))
  | 0, _, _ => none
  | k + 1, p, i =>
    if i + 1 < p.length then
      (pool_fields.f k (rd_T33 p (i + 1)).f0 (rd_T33 p (i + 1)).f1 (rd_T33 p (i + 1)).f2 (rd_T33 p (i + 1)).f3 (rd_T33 p (i + 1)).f4).bind fun x =>
      if sameC (rd_T33 p (i + 1)) x = true then
        (pool_leads.f k p (rd_T33 p (i + 1)).f0 (rd_T33 p (i + 1)).f1 (rd_T33 p (i + 1)).f2 (rd_T33 p (i + 1)).f3 (rd_T33 p (i + 1)).f4).bind fun t =>
        if t = true then
          (text_Encode.f k (rd_T33 p (i + 1)).f1).bind fun b =>
          if b.2 = 0 then (if (b.1.length : Int) > 256 then some (some ((i : Int) + 1, 20)) else pool_check.l0 k p (i + 1)) else some (some ((i : Int) + 1, 20))
        else some (some ((i : Int) + 1, 40))
      else some (some ((i : Int) + 1, 40))
    else some none
def pool_check.f (k : Nat) (p : List Cst) : Option (Option (Int × Int)) :=
  if p.length > 1024 then some (some (0, 2)) else if p.length = 0 then some (some (0, 40)) else if sameC (rd_T33 p 0) (0, ⟨#[]⟩, 0, 0, 0) = true then pool_check.l0 k p 0 else some (some (0, 40))
def pool_Check.f (k : Nat) (p : List Cst) : Option Int := (pool_check.f k p).bind fun r => some (match r with | none => 0 | some (_, y) => y)
/-- What is handed back: nothing, or where what is wrong lies. -/
def IsWrong (w' : World) (r : Option (Int × Int)) (e : Ending) : Prop :=
  match r with
  | none => e = .returned .nilIface
  | some q => ∃ g, e = .returned (.iface 46 (.pointer (some ⟨g, 0, none⟩))) ∧ w'.heap[g]? = some (.cells #[.int .i64 q.1, .int .i64 q.2] 53 (0, 0))
theorem eqC0 (d : Nat) (w : World) (x0 y0 : Int) (x1 y1 : ByteArray) (x2 y2 : Int) (x3 y3 : Int) (x4 y4 : Int) :
    (Op.equalIn (d + 2) 33 (.agg #[.int .i64 x0, .string x1, .int .i64 x2, .int .i64 x3, .int .i64 x4]) (.agg #[.int .i64 y0, .string y1, .int .i64 y2, .int .i64 y3, .int .i64 y4])).run Tryd.prog w = .ok (x0 == y0 && (x1.toList == y1.toList && (x2 == y2 && (x3 == y3 && (x4 == y4))))) w := by
  refine eqA_of Tryd.underlying33 (by kernel_rfl) ?_
  refine eqf_cons (by rfl) (by go_simp; rfl) (by go_simp; rfl) (by go_simp) ?_
  refine eqf_cons (by rfl) (by go_simp; rfl) (by go_simp; rfl) (by go_simp) ?_
  refine eqf_cons (by rfl) (by go_simp; rfl) (by go_simp; rfl) (by go_simp) ?_
  refine eqf_cons (by rfl) (by go_simp; rfl) (by go_simp; rfl) (by go_simp) ?_
  exact eqf_last (by rfl) (by go_simp; rfl) (by go_simp; rfl) (by go_simp)
/-- The walk's comparison of two constants. -/
theorem eqC (d : Nat) (W : World) (c : Cst) (x1 : Int) (x2 : ByteArray) (x3 x4 x5 : Int) :
    (Op.equalIn (d + 2) 33 (.agg #[.int .i64 c.f0, .string c.f1, .int .i64 c.f2, .int .i64 c.f3, .int .i64 c.f4]) (.agg #[.int .i64 x1, .string x2, .int .i64 x3, .int .i64 x4, .int .i64 x5])).run Tryd.prog W = .ok (sameC c (x1, x2, x3, x4, x5)) W :=
  eqC0 d W _ _ _ _ _ _ _ _ _ _
attribute [local go_sem high] eqC
set_option maxHeartbeats 80000000 in
set_option maxRecDepth 100000 in
theorem pool_check.calls (k : Nat) (A0 : Option Addr) (c0 : Nat) (p : List Cst) (r : Option (Int × Int)) (w : World) (hG : Aside0 (GG w)) (hr0 : Kd.C k33 w A0 p.length p) (hc0 : p.length ≤ c0) (h : pool_check.f k p = some r) :
    Calls Tryd.prog 20 #[.slice A0 p.length c0] w fun e w' => IsWrong w' r e ∧ Below w.heap.size w w' := by
  have hu1 := Tryd.underlying33
  have hu2 := Tryd.underlying53
  have HR := Aside0.mk hr0
  have HC := Aside0.mk hc0
  have HB0 := Aside0.mk (Below.refl w.heap.size w)
  clear hr0 hc0
  unfold pool_check.f at h
  by_cases c1 : p.length > 1024
  · rw [if_pos c1] at h
    obtain rfl := Option.some.inj h
    have c1b : decide (1024 < p.length) = true := decide_eq_true c1
    have c1i : decide ((1024 : Int) < (p.length : Int)) = true := decide_eq_true (by omega)
    clear c1 h
    go_enter Tryd.func20, Tryd.ntmps20
    go_wp2_with ((with_reducible refine gate_dst (N := 12) rfl ?_); refine box_event ?hg (N := 12) ?hd (cs := #[.int .i64 0, .int .i64 2]) (t := 53) ?hr ?_; (case hd => rfl); (case hg => rfl); (case hr => first | (go_simp; done) | (go_simp; rfl)); intro gb hg w1 hbox hb; have BK := Aside0.mk hbox; have HB := Aside0.mk (below_step HB0.out hb); clear hbox hb hg)
    go_ret
    exact ⟨⟨gb, rfl, BK.out⟩, HB.out⟩
  rw [if_neg c1] at h
  have c1b : decide (1024 < p.length) = false := decide_eq_false c1
  have c1i : decide ((1024 : Int) < (p.length : Int)) = false := decide_eq_false (by omega)
  clear c1
  by_cases c2 : p.length = 0
  · rw [if_pos c2] at h
    obtain rfl := Option.some.inj h
    have c2i : ((p.length : Int) == 0) = true := beq_iff_eq.mpr (by omega)
    have c2n : (p.length == 0) = true := beq_iff_eq.mpr c2
    clear c2 h
    go_enter Tryd.func20, Tryd.ntmps20
    go_wp2_with ((with_reducible refine gate_dst (N := 26) rfl ?_); refine box_event ?hg (N := 26) ?hd (cs := #[.int .i64 0, .int .i64 40]) (t := 53) ?hr ?_; (case hd => rfl); (case hg => rfl); (case hr => first | (go_simp; done) | (go_simp; rfl)); intro gb hg w1 hbox hb; have BK := Aside0.mk hbox; have HB := Aside0.mk (below_step HB0.out hb); clear hbox hb hg)
    go_ret
    exact ⟨⟨gb, rfl, BK.out⟩, HB.out⟩
  rw [if_neg c2] at h
  have c2i : ((p.length : Int) == 0) = false := beq_eq_false_iff_ne.mpr (by omega)
  have HL := Aside0.mk (show 0 < p.length by omega)
  clear c2
  obtain ⟨ad, ea, hx0, hx1, hx2, hx3, hx4⟩ := at_T33 HR.out 0 (by omega) (by have := HL.out; omega)
  subst ea
  have qi : (0 < p.length) = True := eq_true HL.out
  simp only [show ((0 : Int)).toNat = 0 from rfl, Nat.zero_mul, Addr.add_zero'] at hx0 hx1 hx2 hx3 hx4
  by_cases c3 : sameC (rd_T33 p 0) (0, ⟨#[]⟩, 0, 0, 0) = true
  · rw [if_pos c3] at h
    have hEq : sameC (rd_T33 p 0) (0, ⟨#[]⟩, 0, 0, 0) = true := c3
    have HH := Aside0.mk h
    clear c3 h
    obtain ⟨i0, hi0, _, hsz, _⟩ := info_parts info33
    have hs1 := cut_from (P := Tryd.prog) 22 33 .i64 Tryd.underlying22 hi0 5 hsz (some ad) p.length c0 1 (by decide) (by have := HL.out; omega)
    obtain ⟨A1, hA1⟩ : ∃ A1, A1 = (if c0 = (1 : Int).toNat then some ad else (some ad).map (·.add ((1 : Int).toNat * 5))) := ⟨_, rfl⟩
    rw [← hA1] at hs1
    have HD := Aside0.mk (show Kd.C k33 w A1 (p.drop 1).length (p.drop 1) from by rw [hA1]; exact Kd.C_drop (m := 1) (c := c0) HR.out HL.out HC.out)
    clear hA1
    go_enter Tryd.func20, Tryd.ntmps20
    go_wp2
    clear hx0 hx1 hx2 hx3 hx4
    go_loopg [31] k (fun kq v31 w' => ∃ i : Nat, v31 = .int .i64 (i : Int) ∧ Aside0 (pool_check.l0 kq p i = some r) ∧ Aside0 (kq ≤ k) ∧ Aside0 (i + 1 ≤ p.length) ∧ Aside0 (Below w.heap.size w w'))
    case atStart => exact ⟨0, rfl, HH, ⟨Nat.le_refl _⟩, ⟨HL.out⟩, HB0⟩
    case round =>
      obtain ⟨i, rfl, HA, HK, HI, HB⟩ := hrel
      cases gk with
      | zero => exact absurd HA.out (by simp [pool_check.l0])
      | succ k1 =>
      have H := HA.out
      clear HA
      simp only [pool_check.l0] at H
      have hlen : (p.drop 1).length = p.length - 1 := List.length_drop
      by_cases hp : i + 1 < p.length
      · rw [if_pos hp] at H
        have hpi : decide ((i : Int) < ((p.length - 1 : Nat) : Int)) = true := decide_eq_true (by omega)
        have hpn : decide (i < p.length - 1) = true := decide_eq_true (by omega)
        have hpt : (i < p.length - 1) = True := eq_true (by omega)
        have hge : (0 ≤ (i : Int)) = True := eq_true (by omega)
        have hrd : rd_T33 p ((i : Int) + 1) = rd_T33 (p.drop 1) (i : Int) := by
          unfold rd_T33
          rw [Int.toNat_natCast, show ((i : Int) + 1).toNat = i + 1 by omega, List.getD_eq_getElem?_getD, List.getD_eq_getElem?_getD, List.getElem?_drop, Nat.add_comm]
        rw [hrd] at H
        obtain ⟨a1, ea, hx0, hx1, hx2, hx3, hx4⟩ := at_T33 (Kd.C_below HD.out HB.out) (i : Int) (by omega) (by omega)
        subst ea
        simp only [Int.toNat_natCast] at hx0 hx1 hx2 hx3 hx4
        obtain ⟨cc, hcc⟩ : ∃ cc, cc = rd_T33 (p.drop 1) (i : Int) := ⟨_, rfl⟩
        rw [← hcc] at H hx0 hx1 hx2 hx3 hx4
        have hcap : p.length ≤ 1024 := by simpa using c1b
        have HPI := Aside0.mk (show i < 1024 from by omega)
        clear hp hcc hrd
        obtain ⟨⟨x1, x2, x3, x4, x5⟩, hf, H⟩ := Option.bind_eq_some_iff.mp H
        have HF := Aside0.mk hf
        clear hf
        go_wp2_with (first | ((with_reducible refine gate_dst (N := 4) rfl ?_); refine box_event ?hg (N := 4) ?hd (cs := #[.int .i64 0, .string (⟨#[]⟩ : ByteArray), .int .i64 0, .int .i64 0, .int .i64 0]) (t := 33) ?hr ?_; (case hd => rfl); (case hg => rfl); (case hr => first | (go_simp; done) | (go_simp; rfl)); intro gb hg w1 hbox hb; have BK := Aside0.mk hbox; have GE := Aside0.mk (show w.heap.size ≤ gb from by rw [hg]; exact HB.out.size); have HB1 := Aside0.mk (below_step HB.out hb); have hz0 : w1.cell? ⟨gb, 0, none⟩ = some (.int .i64 0) := (blk_cell BK.out 0).trans rfl; have hz1 : w1.cell? ⟨gb, 1, none⟩ = some (.string (⟨#[]⟩ : ByteArray)) := (blk_cell BK.out 1).trans rfl; have hz2 : w1.cell? ⟨gb, 2, none⟩ = some (.int .i64 0) := (blk_cell BK.out 2).trans rfl; have hz3 : w1.cell? ⟨gb, 3, none⟩ = some (.int .i64 0) := (blk_cell BK.out 3).trans rfl; have hz4 : w1.cell? ⟨gb, 4, none⟩ = some (.int .i64 0) := (blk_cell BK.out 4).trans rfl; have hf0 := blk_frozen BK.out 0; have hf1 := blk_frozen BK.out 1; have hf2 := blk_frozen BK.out 2; have hf3 := blk_frozen BK.out 3; have hf4 := blk_frozen BK.out 4; clear hbox hb hg) | ((with_reducible refine gate_store (t := 33) (p := 4) rfl ?_); refine store_event (t := 33) (p := 4) (v := ?vo_) (w1 := (((((w1.setCell ⟨gb, 0, none⟩ (.int .i64 cc.f0)).setCell ⟨gb, 1, none⟩ (.string cc.f1)).setCell ⟨gb, 2, none⟩ (.int .i64 cc.f2)).setCell ⟨gb, 3, none⟩ (.int .i64 cc.f3)).setCell ⟨gb, 4, none⟩ (.int .i64 cc.f4))) ?hg ?ho ?hn ?hr ?_; (case ho => rfl); (case hg => rfl); (case hn => rfl); (case hr => first | (go_simp; done) | (go_simp; rfl)); intro w2 hw; have BK2 := Aside0.mk (show w2.heap[gb]? = some (.cells #[.int .i64 cc.f0, .string cc.f1, .int .i64 cc.f2, .int .i64 cc.f3, .int .i64 cc.f4] 33 (0, 0)) from by rw [hw]; refine blk_put (cs := #[.int .i64 cc.f0, .string cc.f1, .int .i64 cc.f2, .int .i64 cc.f3, .int .i64 0]) ?_ 4 _ rfl; refine blk_put (cs := #[.int .i64 cc.f0, .string cc.f1, .int .i64 cc.f2, .int .i64 0, .int .i64 0]) ?_ 3 _ rfl; refine blk_put (cs := #[.int .i64 cc.f0, .string cc.f1, .int .i64 0, .int .i64 0, .int .i64 0]) ?_ 2 _ rfl; refine blk_put (cs := #[.int .i64 cc.f0, .string (⟨#[]⟩ : ByteArray), .int .i64 0, .int .i64 0, .int .i64 0]) ?_ 1 _ rfl; refine blk_put (cs := #[.int .i64 0, .string (⟨#[]⟩ : ByteArray), .int .i64 0, .int .i64 0, .int .i64 0]) ?_ 0 _ rfl; exact BK.out); have HB2 := Aside0.mk (show Below w.heap.size w w2 from by rw [hw]; refine below_set ?_ GE.out; refine below_set ?_ GE.out; refine below_set ?_ GE.out; refine below_set ?_ GE.out; refine below_set ?_ GE.out; exact HB1.out); have hc0 : w2.cell? ⟨gb, 0, none⟩ = some (.int .i64 cc.f0) := (blk_cell BK2.out 0).trans rfl; have hc1 : w2.cell? ⟨gb, 1, none⟩ = some (.string cc.f1) := (blk_cell BK2.out 1).trans rfl; have hc2 : w2.cell? ⟨gb, 2, none⟩ = some (.int .i64 cc.f2) := (blk_cell BK2.out 2).trans rfl; have hc3 : w2.cell? ⟨gb, 3, none⟩ = some (.int .i64 cc.f3) := (blk_cell BK2.out 3).trans rfl; have hc4 : w2.cell? ⟨gb, 4, none⟩ = some (.int .i64 cc.f4) := (blk_cell BK2.out 4).trans rfl; clear hw))
        by_cases hs : sameC cc (x1, x2, x3, x4, x5) = true
        · rw [if_pos hs] at H
          have hEqc : sameC cc (x1, x2, x3, x4, x5) = true := hs
          have hwi : wrap64 ((i : Int) + 1) = (i : Int) + 1 := by have := HPI.out; unfold wrap64; omega
          clear hs
          obtain ⟨t, hld, H⟩ := Option.bind_eq_some_iff.mp H
          have HLD := Aside0.mk hld
          clear hld
          cases t with
          | false =>
            rw [if_neg (by simp)] at H
            obtain rfl := Option.some.inj H
            clear H
            refine start_ (n := 10) (S := fun w' => w'.cell? ⟨gb, 0, none⟩ = some (.int .i64 cc.f0) ∧ w'.cell? ⟨gb, 1, none⟩ = some (.string cc.f1) ∧ w'.cell? ⟨gb, 2, none⟩ = some (.int .i64 cc.f2) ∧ w'.cell? ⟨gb, 3, none⟩ = some (.int .i64 cc.f3) ∧ w'.cell? ⟨gb, 4, none⟩ = some (.int .i64 cc.f4)) (ds := []) #[false, false, false, false, false, false, false, false, false, false] (by kernel_rfl) rfl rfl ⟨hc0, hc1, hc2, hc3, hc4⟩ (fun hHeld => ?_)
            refine take_ (i := 0) (N := some 36) (v := ?_) (a' := ?_) #[true, false, false, false, false, false, false, false, false, false] rfl rfl (by kernel_rfl) (fun _ _ _ h => h) (Or.inl ⟨by rfl, ?_⟩) hHeld ?_ ?_
            rotate_left
            · rintro w' ⟨s0, s1, s2, s3, s4⟩
              go_simp
              with_reducible rfl
            rotate_left
            · simp only [Act.put, List.setIfInBounds_toArray, List.set_cons_zero, List.set_cons_succ, i64_w, i32_w]
              rfl
            refine take_ (i := 1) (N := some 37) (v := ?_) (a' := ?_) #[true, true, false, false, false, false, false, false, false, false] rfl rfl (by kernel_rfl) (fun _ _ _ h => h) (Or.inl ⟨by rfl, ?_⟩) hHeld ?_ ?_
            rotate_left
            · rintro w' ⟨s0, s1, s2, s3, s4⟩
              go_simp
              with_reducible rfl
            rotate_left
            · simp only [Act.put, List.setIfInBounds_toArray, List.set_cons_zero, List.set_cons_succ, i64_w, i32_w]
              rfl
            refine one_ (i := 2) (N := some 38) #[true, true, true, false, false, false, false, false, false, false] rfl rfl (by kernel_rfl) (by decide) (fun K hK => ?_)
            refine goes_ Tryd.func41 (by kernel_rfl) rfl #[.agg #[.int .i64 cc.f0, .string cc.f1, .int .i64 cc.f2, .int .i64 cc.f3, .int .i64 cc.f4]] (by rfl) rfl rfl (by simp only [List.map_toArray, List.map_cons, List.map_nil]; rfl) ?_
            with_reducible refine (pool_fields.calls k1 cc.f0 cc.f1 cc.f2 cc.f3 cc.f4 x1 x2 x3 x4 x5 _ HF.out).mono ?_
            rintro e w3 ⟨rfl, hb3⟩
            refine ⟨_, rfl, ?_⟩
            have BK3 := Aside0.mk (blk_below (by first | exact BK2.out | exact blk_drewN BK2.out _ | exact blk_drew BK2.out) hb3)
            have HB3 := Aside0.mk (below_step (by first | exact HB2.out | exact pw_below_drewN HB2.out _ | exact below_drew1 HB2.out) hb3)
            clear hb3
            refine hK.out _ _ ⟨(blk_cell BK3.out 0).trans rfl, (blk_cell BK3.out 1).trans rfl, (blk_cell BK3.out 2).trans rfl, (blk_cell BK3.out 3).trans rfl, (blk_cell BK3.out 4).trans rfl⟩ (fun hHeld => ?_)
            clear hK K
            refine norm_ (a' := ?_) ?_ ?_
            rotate_left
            · show Act.put _ (some 38) _ = _
              simp only [Act.put, List.setIfInBounds_toArray, List.set_cons_zero, List.set_cons_succ, i64_w, i32_w]
              rfl
            refine pure_ (i := 3) (N := some 39) (v := ?_) (a' := ?_) #[true, true, true, true, false, false, false, false, false, false] rfl rfl (by kernel_rfl) (fun _ _ _ h => h) (Or.inl ⟨by rfl, ?_⟩) ?_ ?_
            rotate_left
            · intro w'
              go_simp
              with_reducible rfl
            rotate_left
            · simp only [Act.put, List.setIfInBounds_toArray, List.set_cons_zero, List.set_cons_succ, i64_w, i32_w]
              rfl
            refine pure_ (i := 4) (N := some 40) (v := ?_) (a' := ?_) #[true, true, true, true, true, false, false, false, false, false] rfl rfl (by kernel_rfl) (fun _ _ _ h => h) (Or.inl ⟨by rfl, ?_⟩) ?_ ?_
            rotate_left
            · intro w'
              go_simp
              with_reducible rfl
            rotate_left
            · simp only [Act.put, List.setIfInBounds_toArray, List.set_cons_zero, List.set_cons_succ, i64_w, i32_w]
              rfl
            refine pure_ (i := 5) (N := some 41) (v := ?_) (a' := ?_) #[true, true, true, true, true, true, false, false, false, false] rfl rfl (by kernel_rfl) (fun _ _ _ h => h) (Or.inl ⟨by rfl, ?_⟩) ?_ ?_
            rotate_left
            · intro w'
              go_simp
              with_reducible rfl
            rotate_left
            · simp only [Act.put, List.setIfInBounds_toArray, List.set_cons_zero, List.set_cons_succ, i64_w, i32_w]
              rfl
            refine take_ (i := 6) (N := some 42) (v := ?_) (a' := ?_) #[true, true, true, true, true, true, true, false, false, false] rfl rfl (by kernel_rfl) (fun _ _ _ h => h) (Or.inl ⟨by rfl, ?_⟩) hHeld ?_ ?_
            rotate_left
            · rintro w' ⟨s0, s1, s2, s3, s4⟩
              go_simp
              with_reducible rfl
            rotate_left
            · simp only [Act.put, List.setIfInBounds_toArray, List.set_cons_zero, List.set_cons_succ, i64_w, i32_w]
              rfl
            refine one_ (i := 7) (N := some 43) #[true, true, true, true, true, true, true, true, false, false] rfl rfl (by kernel_rfl) (by decide) (fun K hK => ?_)
            refine goes_ Tryd.func42 (by kernel_rfl) rfl #[.slice (some ad) p.length c0, .agg #[.int .i64 cc.f0, .string cc.f1, .int .i64 cc.f2, .int .i64 cc.f3, .int .i64 cc.f4]] (by rfl) rfl rfl (by simp only [List.map_toArray, List.map_cons, List.map_nil]; rfl) ?_
            with_reducible refine (pool_leads.calls k1 (some ad) c0 p cc.f0 cc.f1 cc.f2 cc.f3 cc.f4 false _ (Kd.C_below (Kd.C_below HR.out HB3.out) (by first | exact Below.refl _ _ | exact pw_below_drewN (Below.refl _ _) _)) HC.out HLD.out).mono ?_
            rintro e w5 ⟨rfl, hb5⟩
            refine ⟨_, rfl, ?_⟩
            have BK5 := Aside0.mk (blk_below (by first | exact BK3.out | exact blk_drewN BK3.out _ | exact blk_drew BK3.out) hb5)
            have HB5 := Aside0.mk (below_step (by first | exact HB3.out | exact pw_below_drewN HB3.out _ | exact below_drew1 HB3.out) hb5)
            clear hb5
            refine hK.out _ _ ⟨(blk_cell BK5.out 0).trans rfl, (blk_cell BK5.out 1).trans rfl, (blk_cell BK5.out 2).trans rfl, (blk_cell BK5.out 3).trans rfl, (blk_cell BK5.out 4).trans rfl⟩ (fun hHeld => ?_)
            clear hK K
            refine norm_ (a' := ?_) ?_ ?_
            rotate_left
            · show Act.put _ (some 43) _ = _
              simp only [Act.put, List.setIfInBounds_toArray, List.set_cons_zero, List.set_cons_succ, i64_w, i32_w]
              rfl
            refine pure_ (i := 8) (N := some 44) (v := ?_) (a' := ?_) #[true, true, true, true, true, true, true, true, true, false] rfl rfl (by kernel_rfl) (fun _ _ _ h => h) (Or.inl ⟨by rfl, ?_⟩) ?_ ?_
            rotate_left
            · intro w'
              go_simp
              with_reducible rfl
            rotate_left
            · simp only [Act.put, List.setIfInBounds_toArray, List.set_cons_zero, List.set_cons_succ, i64_w, i32_w]
              rfl
            refine pure_ (i := 9) (N := some 45) (v := ?_) (a' := ?_) #[true, true, true, true, true, true, true, true, true, true] rfl rfl (by kernel_rfl) (fun _ _ _ h => h) (Or.inl ⟨by rfl, ?_⟩) ?_ ?_
            rotate_left
            · intro w'
              go_simp
              with_reducible rfl
            rotate_left
            · simp only [Act.put, List.setIfInBounds_toArray, List.set_cons_zero, List.set_cons_succ, i64_w, i32_w]
              rfl
            refine done_ (by kernel_rfl) ?_
            go_wp2_with ((with_reducible refine gate_dst (N := 49) rfl ?_); refine box_event ?hg (N := 49) ?hd (cs := #[.int .i64 ((i : Int) + 1), .int .i64 40]) (t := 53) ?hr ?_; (case hd => rfl); (case hg => rfl); (case hr => first | (go_simp; done) | (go_simp; rfl)); intro gw hgw w6 hbox hb; have BK6 := Aside0.mk hbox; have HB6 := Aside0.mk (below_step HB5.out hb); clear hbox hb hgw)
            go_ret
            exact ⟨⟨gw, rfl, BK6.out⟩, HB6.out⟩
          | true =>
            rw [if_pos rfl] at H
            obtain ⟨⟨b1, b2⟩, hE, H⟩ := Option.bind_eq_some_iff.mp H
            have HE := Aside0.mk hE
            have H9 := Aside0.mk H
            clear hE H
            refine start_ (n := 10) (S := fun w' => w'.cell? ⟨gb, 0, none⟩ = some (.int .i64 cc.f0) ∧ w'.cell? ⟨gb, 1, none⟩ = some (.string cc.f1) ∧ w'.cell? ⟨gb, 2, none⟩ = some (.int .i64 cc.f2) ∧ w'.cell? ⟨gb, 3, none⟩ = some (.int .i64 cc.f3) ∧ w'.cell? ⟨gb, 4, none⟩ = some (.int .i64 cc.f4)) (ds := []) #[false, false, false, false, false, false, false, false, false, false] (by kernel_rfl) rfl rfl ⟨hc0, hc1, hc2, hc3, hc4⟩ (fun hHeld => ?_)
            refine take_ (i := 0) (N := some 36) (v := ?_) (a' := ?_) #[true, false, false, false, false, false, false, false, false, false] rfl rfl (by kernel_rfl) (fun _ _ _ h => h) (Or.inl ⟨by rfl, ?_⟩) hHeld ?_ ?_
            rotate_left
            · rintro w' ⟨s0, s1, s2, s3, s4⟩
              go_simp
              with_reducible rfl
            rotate_left
            · simp only [Act.put, List.setIfInBounds_toArray, List.set_cons_zero, List.set_cons_succ, i64_w, i32_w]
              rfl
            refine take_ (i := 1) (N := some 37) (v := ?_) (a' := ?_) #[true, true, false, false, false, false, false, false, false, false] rfl rfl (by kernel_rfl) (fun _ _ _ h => h) (Or.inl ⟨by rfl, ?_⟩) hHeld ?_ ?_
            rotate_left
            · rintro w' ⟨s0, s1, s2, s3, s4⟩
              go_simp
              with_reducible rfl
            rotate_left
            · simp only [Act.put, List.setIfInBounds_toArray, List.set_cons_zero, List.set_cons_succ, i64_w, i32_w]
              rfl
            refine one_ (i := 2) (N := some 38) #[true, true, true, false, false, false, false, false, false, false] rfl rfl (by kernel_rfl) (by decide) (fun K hK => ?_)
            refine goes_ Tryd.func41 (by kernel_rfl) rfl #[.agg #[.int .i64 cc.f0, .string cc.f1, .int .i64 cc.f2, .int .i64 cc.f3, .int .i64 cc.f4]] (by rfl) rfl rfl (by simp only [List.map_toArray, List.map_cons, List.map_nil]; rfl) ?_
            with_reducible refine (pool_fields.calls k1 cc.f0 cc.f1 cc.f2 cc.f3 cc.f4 x1 x2 x3 x4 x5 _ HF.out).mono ?_
            rintro e w3 ⟨rfl, hb3⟩
            refine ⟨_, rfl, ?_⟩
            have BK3 := Aside0.mk (blk_below (by first | exact BK2.out | exact blk_drewN BK2.out _ | exact blk_drew BK2.out) hb3)
            have HB3 := Aside0.mk (below_step (by first | exact HB2.out | exact pw_below_drewN HB2.out _ | exact below_drew1 HB2.out) hb3)
            clear hb3
            refine hK.out _ _ ⟨(blk_cell BK3.out 0).trans rfl, (blk_cell BK3.out 1).trans rfl, (blk_cell BK3.out 2).trans rfl, (blk_cell BK3.out 3).trans rfl, (blk_cell BK3.out 4).trans rfl⟩ (fun hHeld => ?_)
            clear hK K
            refine norm_ (a' := ?_) ?_ ?_
            rotate_left
            · show Act.put _ (some 38) _ = _
              simp only [Act.put, List.setIfInBounds_toArray, List.set_cons_zero, List.set_cons_succ, i64_w, i32_w]
              rfl
            refine pure_ (i := 3) (N := some 39) (v := ?_) (a' := ?_) #[true, true, true, true, false, false, false, false, false, false] rfl rfl (by kernel_rfl) (fun _ _ _ h => h) (Or.inl ⟨by rfl, ?_⟩) ?_ ?_
            rotate_left
            · intro w'
              go_simp
              with_reducible rfl
            rotate_left
            · simp only [Act.put, List.setIfInBounds_toArray, List.set_cons_zero, List.set_cons_succ, i64_w, i32_w]
              rfl
            refine pure_ (i := 4) (N := some 40) (v := ?_) (a' := ?_) #[true, true, true, true, true, false, false, false, false, false] rfl rfl (by kernel_rfl) (fun _ _ _ h => h) (Or.inl ⟨by rfl, ?_⟩) ?_ ?_
            rotate_left
            · intro w'
              go_simp
              with_reducible rfl
            rotate_left
            · simp only [Act.put, List.setIfInBounds_toArray, List.set_cons_zero, List.set_cons_succ, i64_w, i32_w]
              rfl
            refine pure_ (i := 5) (N := some 41) (v := ?_) (a' := ?_) #[true, true, true, true, true, true, false, false, false, false] rfl rfl (by kernel_rfl) (fun _ _ _ h => h) (Or.inl ⟨by rfl, ?_⟩) ?_ ?_
            rotate_left
            · intro w'
              go_simp
              with_reducible rfl
            rotate_left
            · simp only [Act.put, List.setIfInBounds_toArray, List.set_cons_zero, List.set_cons_succ, i64_w, i32_w]
              rfl
            refine take_ (i := 6) (N := some 42) (v := ?_) (a' := ?_) #[true, true, true, true, true, true, true, false, false, false] rfl rfl (by kernel_rfl) (fun _ _ _ h => h) (Or.inl ⟨by rfl, ?_⟩) hHeld ?_ ?_
            rotate_left
            · rintro w' ⟨s0, s1, s2, s3, s4⟩
              go_simp
              with_reducible rfl
            rotate_left
            · simp only [Act.put, List.setIfInBounds_toArray, List.set_cons_zero, List.set_cons_succ, i64_w, i32_w]
              rfl
            refine one_ (i := 7) (N := some 43) #[true, true, true, true, true, true, true, true, false, false] rfl rfl (by kernel_rfl) (by decide) (fun K hK => ?_)
            refine goes_ Tryd.func42 (by kernel_rfl) rfl #[.slice (some ad) p.length c0, .agg #[.int .i64 cc.f0, .string cc.f1, .int .i64 cc.f2, .int .i64 cc.f3, .int .i64 cc.f4]] (by rfl) rfl rfl (by simp only [List.map_toArray, List.map_cons, List.map_nil]; rfl) ?_
            with_reducible refine (pool_leads.calls k1 (some ad) c0 p cc.f0 cc.f1 cc.f2 cc.f3 cc.f4 true _ (Kd.C_below (Kd.C_below HR.out HB3.out) (by first | exact Below.refl _ _ | exact pw_below_drewN (Below.refl _ _) _)) HC.out HLD.out).mono ?_
            rintro e w5 ⟨rfl, hb5⟩
            refine ⟨_, rfl, ?_⟩
            have BK5 := Aside0.mk (blk_below (by first | exact BK3.out | exact blk_drewN BK3.out _ | exact blk_drew BK3.out) hb5)
            have HB5 := Aside0.mk (below_step (by first | exact HB3.out | exact pw_below_drewN HB3.out _ | exact below_drew1 HB3.out) hb5)
            clear hb5
            refine hK.out _ _ ⟨(blk_cell BK5.out 0).trans rfl, (blk_cell BK5.out 1).trans rfl, (blk_cell BK5.out 2).trans rfl, (blk_cell BK5.out 3).trans rfl, (blk_cell BK5.out 4).trans rfl⟩ (fun hHeld => ?_)
            clear hK K
            refine norm_ (a' := ?_) ?_ ?_
            rotate_left
            · show Act.put _ (some 43) _ = _
              simp only [Act.put, List.setIfInBounds_toArray, List.set_cons_zero, List.set_cons_succ, i64_w, i32_w]
              rfl
            refine pure_ (i := 8) (N := some 44) (v := ?_) (a' := ?_) #[true, true, true, true, true, true, true, true, true, false] rfl rfl (by kernel_rfl) (fun _ _ _ h => h) (Or.inl ⟨by rfl, ?_⟩) ?_ ?_
            rotate_left
            · intro w'
              go_simp
              with_reducible rfl
            rotate_left
            · simp only [Act.put, List.setIfInBounds_toArray, List.set_cons_zero, List.set_cons_succ, i64_w, i32_w]
              rfl
            refine pure_ (i := 9) (N := some 45) (v := ?_) (a' := ?_) #[true, true, true, true, true, true, true, true, true, true] rfl rfl (by kernel_rfl) (fun _ _ _ h => h) (Or.inl ⟨by rfl, ?_⟩) ?_ ?_
            rotate_left
            · intro w'
              go_simp
              with_reducible rfl
            rotate_left
            · simp only [Act.put, List.setIfInBounds_toArray, List.set_cons_zero, List.set_cons_succ, i64_w, i32_w]
              rfl
            refine done_ (by kernel_rfl) ?_
            have hs1 : w5.cell? ⟨gb, 1, none⟩ = some (.string cc.f1) := (blk_cell BK5.out 1).trans rfl
            have H := H9.out
            clear H9
            simp only at H
            by_cases he : b2 = 0
            · rw [if_pos he] at H
              have heb : (b2 != 0) = false := bne_eq_false_iff_eq.mpr he
              by_cases hl : (b1.length : Int) > 256
              · rw [if_pos hl] at H
                obtain rfl := Option.some.inj H
                have hlb : decide ((256 : Int) < (b1.length : Int)) = true := decide_eq_true hl
                have hln : decide (256 < b1.length) = true := decide_eq_true (by omega)
                clear he hl H
                go_wp2_with fail
                refine (text_Encode.calls k1 cc.f1 b1 b2 _ ⟨GG.below hG.out (by first | exact HB5.out | exact pw_below_drewN HB5.out _ | exact below_drew1 HB5.out)⟩ HE.out).mono ?_
                rintro e w6 ⟨v6, rfl, hR6, hb6⟩
                obtain ⟨A6, c6, hv6⟩ := Kd.R_slice hR6
                subst hv6
                have HB6 := Aside0.mk (below_step (by first | exact HB5.out | exact pw_below_drewN HB5.out _ | exact below_drew1 HB5.out) hb6)
                clear hR6 hb6
                go_wp2_with ((with_reducible refine gate_dst (N := 67) rfl ?_); refine box_event ?hg (N := 67) ?hd (cs := #[.int .i64 ((i : Int) + 1), .int .i64 20]) (t := 53) ?hr ?_; (case hd => rfl); (case hg => rfl); (case hr => first | (go_simp; done) | (go_simp; rfl)); intro gw hgw w7 hbox hb; have BK9 := Aside0.mk hbox; have HB7 := Aside0.mk (below_step HB6.out hb); clear hbox hb hgw)
                go_ret
                exact ⟨⟨gw, rfl, BK9.out⟩, HB7.out⟩
              · rw [if_neg hl] at H
                have hlb : decide ((256 : Int) < (b1.length : Int)) = false := decide_eq_false hl
                have hln : decide (256 < b1.length) = false := decide_eq_false (by omega)
                have H' := Aside0.mk H
                clear he hl H
                go_wp2_with fail
                refine (text_Encode.calls k1 cc.f1 b1 b2 _ ⟨GG.below hG.out (by first | exact HB5.out | exact pw_below_drewN HB5.out _ | exact below_drew1 HB5.out)⟩ HE.out).mono ?_
                rintro e w6 ⟨v6, rfl, hR6, hb6⟩
                obtain ⟨A6, c6, hv6⟩ := Kd.R_slice hR6
                subst hv6
                have HB6 := Aside0.mk (below_step (by first | exact HB5.out | exact pw_below_drewN HB5.out _ | exact below_drew1 HB5.out) hb6)
                clear hR6 hb6
                go_wp2
                go_roundg k1
                case measure => have := HK.out; omega
                case rel => exact ⟨i + 1, congrArg (Value.int .i64) (by omega), H', ⟨by have := HK.out; omega⟩, ⟨by have := of_decide_eq_true hpn; omega⟩, HB6⟩
            · rw [if_neg he] at H
              obtain rfl := Option.some.inj H
              have heb : (b2 != 0) = true := bne_iff_ne.mpr he
              clear he H
              go_wp2_with fail
              refine (text_Encode.calls k1 cc.f1 b1 b2 _ ⟨GG.below hG.out (by first | exact HB5.out | exact pw_below_drewN HB5.out _ | exact below_drew1 HB5.out)⟩ HE.out).mono ?_
              rintro e w6 ⟨v6, rfl, hR6, hb6⟩
              obtain ⟨A6, c6, hv6⟩ := Kd.R_slice hR6
              subst hv6
              have HB6 := Aside0.mk (below_step (by first | exact HB5.out | exact pw_below_drewN HB5.out _ | exact below_drew1 HB5.out) hb6)
              clear hR6 hb6
              go_wp2_with ((with_reducible refine gate_dst (N := 67) rfl ?_); refine box_event ?hg (N := 67) ?hd (cs := #[.int .i64 ((i : Int) + 1), .int .i64 20]) (t := 53) ?hr ?_; (case hd => rfl); (case hg => rfl); (case hr => first | (go_simp; done) | (go_simp; rfl)); intro gw hgw w7 hbox hb; have BK9 := Aside0.mk hbox; have HB7 := Aside0.mk (below_step HB6.out hb); clear hbox hb hgw)
              go_ret
              exact ⟨⟨gw, rfl, BK9.out⟩, HB7.out⟩
        · rw [if_neg hs] at H
          obtain rfl := Option.some.inj H
          have hEqc : sameC cc (x1, x2, x3, x4, x5) = false := by simpa using hs
          clear hs H
          refine start_ (n := 10) (S := fun w' => w'.cell? ⟨gb, 0, none⟩ = some (.int .i64 cc.f0) ∧ w'.cell? ⟨gb, 1, none⟩ = some (.string cc.f1) ∧ w'.cell? ⟨gb, 2, none⟩ = some (.int .i64 cc.f2) ∧ w'.cell? ⟨gb, 3, none⟩ = some (.int .i64 cc.f3) ∧ w'.cell? ⟨gb, 4, none⟩ = some (.int .i64 cc.f4)) (ds := []) #[false, false, false, false, false, false, false, false, false, false] (by kernel_rfl) rfl rfl ⟨hc0, hc1, hc2, hc3, hc4⟩ (fun hHeld => ?_)
          refine take_ (i := 0) (N := some 36) (v := ?_) (a' := ?_) #[true, false, false, false, false, false, false, false, false, false] rfl rfl (by kernel_rfl) (fun _ _ _ h => h) (Or.inl ⟨by rfl, ?_⟩) hHeld ?_ ?_
          rotate_left
          · rintro w' ⟨s0, s1, s2, s3, s4⟩
            go_simp
            with_reducible rfl
          rotate_left
          · simp only [Act.put, List.setIfInBounds_toArray, List.set_cons_zero, List.set_cons_succ, i64_w, i32_w]
            rfl
          refine take_ (i := 1) (N := some 37) (v := ?_) (a' := ?_) #[true, true, false, false, false, false, false, false, false, false] rfl rfl (by kernel_rfl) (fun _ _ _ h => h) (Or.inl ⟨by rfl, ?_⟩) hHeld ?_ ?_
          rotate_left
          · rintro w' ⟨s0, s1, s2, s3, s4⟩
            go_simp
            with_reducible rfl
          rotate_left
          · simp only [Act.put, List.setIfInBounds_toArray, List.set_cons_zero, List.set_cons_succ, i64_w, i32_w]
            rfl
          refine one_ (i := 2) (N := some 38) #[true, true, true, false, false, false, false, false, false, false] rfl rfl (by kernel_rfl) (by decide) (fun K hK => ?_)
          refine goes_ Tryd.func41 (by kernel_rfl) rfl #[.agg #[.int .i64 cc.f0, .string cc.f1, .int .i64 cc.f2, .int .i64 cc.f3, .int .i64 cc.f4]] (by rfl) rfl rfl (by simp only [List.map_toArray, List.map_cons, List.map_nil]; rfl) ?_
          with_reducible refine (pool_fields.calls k1 cc.f0 cc.f1 cc.f2 cc.f3 cc.f4 x1 x2 x3 x4 x5 _ HF.out).mono ?_
          rintro e w3 ⟨rfl, hb3⟩
          refine ⟨_, rfl, ?_⟩
          have BK3 := Aside0.mk (blk_below (by first | exact BK2.out | exact blk_drewN BK2.out _ | exact blk_drew BK2.out) hb3)
          have HB3 := Aside0.mk (below_step (by first | exact HB2.out | exact pw_below_drewN HB2.out _ | exact below_drew1 HB2.out) hb3)
          clear hb3
          refine hK.out _ _ ⟨(blk_cell BK3.out 0).trans rfl, (blk_cell BK3.out 1).trans rfl, (blk_cell BK3.out 2).trans rfl, (blk_cell BK3.out 3).trans rfl, (blk_cell BK3.out 4).trans rfl⟩ (fun hHeld => ?_)
          clear hK K
          refine norm_ (a' := ?_) ?_ ?_
          rotate_left
          · show Act.put _ (some 38) _ = _
            simp only [Act.put, List.setIfInBounds_toArray, List.set_cons_zero, List.set_cons_succ, i64_w, i32_w]
            rfl
          refine pure_ (i := 3) (N := some 39) (v := ?_) (a' := ?_) #[true, true, true, true, false, false, false, false, false, false] rfl rfl (by kernel_rfl) (fun _ _ _ h => h) (Or.inl ⟨by rfl, ?_⟩) ?_ ?_
          rotate_left
          · intro w'
            go_simp
            with_reducible rfl
          rotate_left
          · simp only [Act.put, List.setIfInBounds_toArray, List.set_cons_zero, List.set_cons_succ, i64_w, i32_w]
            rfl
          refine pure_ (i := 4) (N := some 40) (v := ?_) (a' := ?_) #[true, true, true, true, true, false, false, false, false, false] rfl rfl (by kernel_rfl) (fun _ _ _ h => h) (Or.inl ⟨by rfl, ?_⟩) ?_ ?_
          rotate_left
          · intro w'
            go_simp
            with_reducible rfl
          rotate_left
          · simp only [Act.put, List.setIfInBounds_toArray, List.set_cons_zero, List.set_cons_succ, i64_w, i32_w]
            rfl
          refine pure_ (i := 5) (N := some 41) (v := undef) (a' := ?_) #[true, true, true, true, true, true, false, false, false, false] rfl rfl (by kernel_rfl) (fun _ _ _ h => h) (Or.inr ⟨by rfl, rfl⟩) ?_ ?_
          rotate_left
          · simp only [Act.put, List.setIfInBounds_toArray, List.set_cons_zero, List.set_cons_succ, i64_w, i32_w]
            rfl
          refine pure_ (i := 6) (N := some 42) (v := undef) (a' := ?_) #[true, true, true, true, true, true, true, false, false, false] rfl rfl (by kernel_rfl) (fun _ _ _ h => h) (Or.inr ⟨by rfl, rfl⟩) ?_ ?_
          rotate_left
          · simp only [Act.put, List.setIfInBounds_toArray, List.set_cons_zero, List.set_cons_succ, i64_w, i32_w]
            rfl
          refine pure_ (i := 7) (N := some 43) (v := undef) (a' := ?_) #[true, true, true, true, true, true, true, true, false, false] rfl rfl (by kernel_rfl) (fun _ _ _ h => h) (Or.inr ⟨by rfl, rfl⟩) ?_ ?_
          rotate_left
          · simp only [Act.put, List.setIfInBounds_toArray, List.set_cons_zero, List.set_cons_succ, i64_w, i32_w]
            rfl
          refine pure_ (i := 8) (N := some 44) (v := undef) (a' := ?_) #[true, true, true, true, true, true, true, true, true, false] rfl rfl (by kernel_rfl) (fun _ _ _ h => h) (Or.inr ⟨by rfl, rfl⟩) ?_ ?_
          rotate_left
          · simp only [Act.put, List.setIfInBounds_toArray, List.set_cons_zero, List.set_cons_succ, i64_w, i32_w]
            rfl
          refine pure_ (i := 9) (N := some 45) (v := ?_) (a' := ?_) #[true, true, true, true, true, true, true, true, true, true] rfl rfl (by kernel_rfl) (fun _ _ _ h => h) (Or.inl ⟨by rfl, ?_⟩) ?_ ?_
          rotate_left
          · intro w'
            go_simp
            with_reducible rfl
          rotate_left
          · simp only [Act.put, List.setIfInBounds_toArray, List.set_cons_zero, List.set_cons_succ, i64_w, i32_w]
            rfl
          refine done_ (by kernel_rfl) ?_
          have hwi : wrap64 ((i : Int) + 1) = (i : Int) + 1 := by have := HPI.out; unfold wrap64; omega
          go_wp2_with ((with_reducible refine gate_dst (N := 49) rfl ?_); refine box_event ?hg (N := 49) ?hd (cs := #[.int .i64 ((i : Int) + 1), .int .i64 40]) (t := 53) ?hr ?_; (case hd => rfl); (case hg => rfl); (case hr => first | (go_simp; done) | (go_simp; rfl)); intro gw hgw w4 hbox hb; have BK4 := Aside0.mk hbox; have HB4 := Aside0.mk (below_step HB3.out hb); clear hbox hb hgw)
          go_ret
          exact ⟨⟨gw, rfl, BK4.out⟩, HB4.out⟩
      · rw [if_neg hp] at H
        obtain rfl := Option.some.inj H
        have hpi : decide ((i : Int) < ((p.length - 1 : Nat) : Int)) = false := decide_eq_false (by omega)
        have hpn : decide (i < p.length - 1) = false := decide_eq_false (by omega)
        clear hp H
        go_wp2
        go_ret
        exact ⟨rfl, HB.out⟩
  · rw [if_neg c3] at h
    obtain rfl := Option.some.inj h
    have c3b : sameC (rd_T33 p 0) (0, ⟨#[]⟩, 0, 0, 0) = false := by simpa using c3
    have hEq := c3b
    clear c3 h c3b
    go_enter Tryd.func20, Tryd.ntmps20
    go_wp2_with ((with_reducible refine gate_dst (N := 26) rfl ?_); refine box_event ?hg (N := 26) ?hd (cs := #[.int .i64 0, .int .i64 40]) (t := 53) ?hr ?_; (case hd => rfl); (case hg => rfl); (case hr => first | (go_simp; done) | (go_simp; rfl)); intro gb hg w1 hbox hb; have BK := Aside0.mk hbox; have HB := Aside0.mk (below_step HB0.out hb); clear hbox hb hg)
    go_ret
    exact ⟨⟨gb, rfl, BK.out⟩, HB.out⟩

theorem pool_check.mono_l : ∀ k p i, LeO (pool_check.l0 k p i) (pool_check.l0 (k + 1) p i)
  | 0 => fun _ _ r h => by simp [pool_check.l0] at h
  | k + 1 => fun p i => by
    unfold pool_check.l0
    exact LeO.ite (LeO.bind (pool_fields.mono _ _ _ _ _ _) (fun _ => LeO.ite (LeO.bind (pool_leads.mono _ _ _ _ _ _ _) (fun _ => LeO.ite (LeO.bind (text_Encode.mono _ _) (fun _ => LeO.ite (LeO.ite (LeO.refl _) (pool_check.mono_l k _ _)) (LeO.refl _))) (LeO.refl _))) (LeO.refl _))) (LeO.refl _)
theorem pool_check.mono (p : List Cst) (k : Nat) : LeO (pool_check.f k p) (pool_check.f (k + 1) p) := by
  unfold pool_check.f
  exact LeO.ite (LeO.refl _) (LeO.ite (LeO.refl _) (LeO.ite (pool_check.mono_l _ _ _) (LeO.refl _)))
theorem pool_Check.mono : ∀ (p : List Cst) k, LeO (pool_Check.f k p) (pool_Check.f (k + 1) p) := by
  intro p k
  unfold pool_Check.f
  exact LeO.bind (pool_check.mono p k) (fun _ => LeO.refl _)

/-- errors.As at the error that pool.check hands back. -/
theorem as_at (B : Nat) (w0 w : World) (g gb : Nat) (x y : Int) (hB : Below B w0 w) (hgb : B ≤ gb) (hbk : w.heap[gb]? = some (.cells #[.pointer none] 46 (0, 0))) (hbg : w.heap[g]? = some (.cells #[.int .i64 x, .int .i64 y] 53 (0, 0))) (hG : GG w) (hBs : B ≤ w.heap.size) :
    Calls Tryd.prog 19 #[.iface 46 (.pointer (some ⟨g, 0, none⟩)), .iface 51 (.pointer (some ⟨gb, 0, none⟩))] w fun ev w' => ev = .returned (.bool true) ∧ w'.cell? ⟨gb, 0, none⟩ = some (.pointer (some ⟨g, 0, none⟩)) ∧ w'.cell? ⟨g, 1, none⟩ = some (.int .i64 y) ∧ Below B w0 w' := by
  have hne : gb ≠ g := by
    rintro rfl
    rw [hbk] at hbg
    cases hbg
  have hl1 := blk_lt hbk
  have hl2 := blk_lt hbg
  refine (as_hit ⟨g, 0, none⟩ ⟨gb, 0, none⟩ (.pointer none) w hG.et ((blk_cell hbk 0).trans rfl) (blk_frozen hbk 0)).mono ?_
  rintro ev w' ⟨rfl, rfl⟩
  refine ⟨rfl, ?_, ?_, ?_⟩
  · refine World.cell?_setCell_same (u := .pointer none) _ _ _ ?_
    rw [World.cell?_alloc_lt _ _ ⟨gb, 0, none⟩ (by simp <;> omega), World.cell?_alloc_lt _ _ ⟨gb, 0, none⟩ (by simp <;> omega), World.cell?_alloc_lt _ _ ⟨gb, 0, none⟩ (by simp <;> omega), World.cell?_alloc_lt _ _ ⟨gb, 0, none⟩ hl1]
    exact (blk_cell hbk 0).trans rfl
  · rw [World.cell?_setCell_far _ _ _ _ hne]
    rw [World.cell?_alloc_lt _ _ ⟨g, 1, none⟩ (by simp <;> omega), World.cell?_alloc_lt _ _ ⟨g, 1, none⟩ (by simp <;> omega), World.cell?_alloc_lt _ _ ⟨g, 1, none⟩ (by simp <;> omega), World.cell?_alloc_lt _ _ ⟨g, 1, none⟩ hl2]
    exact (blk_cell hbg 1).trans rfl
  · exact ((((hB.alloc hBs _).alloc (by simp <;> omega) _).alloc (by simp <;> omega) _).alloc (by simp <;> omega) _).setCell hgb _

set_option maxHeartbeats 4000000 in
set_option maxRecDepth 100000 in
theorem pool_Check.calls (k : Nat) (A0 : Option Addr) (c0 : Nat) (p : List Cst) (r1 : Int) (w : World) (hG : Aside0 (GG w)) (hr0 : Kd.C k33 w A0 p.length p) (hc0 : p.length ≤ c0) (h : pool_Check.f k p = some r1) :
    Calls Tryd.prog 8 #[.slice A0 p.length c0] w fun e w' => e = .returned (.int .i64 r1) ∧ Below w.heap.size w w' := by
  have HR := Aside0.mk hr0
  have HC := Aside0.mk hc0
  have HB0 := Aside0.mk (Below.refl w.heap.size w)
  clear hr0 hc0
  unfold pool_Check.f at h
  obtain ⟨r, hr, h⟩ := Option.bind_eq_some_iff.mp h
  have HF := Aside0.mk hr
  clear hr
  go_enter Tryd.func8, Tryd.ntmps8
  go_wp2_with ((with_reducible refine gate_dst (N := 3) rfl ?_); refine box_event ?hg (N := 3) ?hd (cs := #[.pointer none]) (t := 46) ?hr ?_; (case hd => rfl); (case hg => rfl); (case hr => first | (go_simp; done) | (go_simp; rfl)); intro gb hg w1 hbox hb; have BK := Aside0.mk hbox; have GE := Aside0.mk (show w.heap.size ≤ gb from by rw [hg]; exact Nat.le_refl _); have HB1 := Aside0.mk (below_step HB0.out hb); clear hbox hb hg)
  refine (pool_check.calls k A0 c0 p r _ ⟨GG.below hG.out HB1.out⟩ (Kd.C_below HR.out HB1.out) HC.out HF.out).mono ?_
  rintro e w2 ⟨hw, hb2⟩
  have HB2 := Aside0.mk (below_step HB1.out hb2)
  have BK2 := Aside0.mk (blk_below BK.out hb2)
  clear hb2
  cases r with
  | none =>
    obtain rfl := Option.some.inj h
    obtain rfl : e = .returned .nilIface := hw
    clear h
    go_wp2_with fail
    refine (as_nil _ _).mono ?_
    rintro e w3 ⟨rfl, rfl⟩
    go_wp2
    go_ret
    exact ⟨rfl, HB2.out⟩
  | some q =>
    obtain ⟨x, y⟩ := q
    obtain rfl := Option.some.inj h
    obtain ⟨g, rfl, hbg⟩ := hw
    have HBG := Aside0.mk hbg
    clear h hbg
    go_wp2_with fail
    refine (as_at w.heap.size w _ g gb x y HB2.out GE.out BK2.out HBG.out (GG.below hG.out HB2.out) HB2.out.size).mono ?_
    rintro e w3 ⟨rfl, hc1, hc2, hb3⟩
    have HB3 := Aside0.mk hb3
    clear hb3
    go_wp2
    go_ret
    exact ⟨rfl, HB3.out⟩
end Go.Proofs.YtglnhkgodgjepaaDoor.Px
