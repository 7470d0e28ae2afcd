/- pool.Encode: what it computes, as a Lean function, and the walk: pool.Check, text.Encode and wire.Writer by their contracts. -/
import Derived.Test.YtglnhkgodgjepaaDoorEPoolCheck
import Derived.Test.YtglnhkgodgjepaaDoorEWire
namespace Go.Proofs.YtglnhkgodgjepaaDoor.Px
open Go.RowKit Go.Proofs.YtglnhkgodgjepaaDoorW.PrintWords Go.Proofs.YtglnhkgodgjepaaDoorW.PrintLast Go.Proofs.YtglnhkgodgjepaaDoorW.PrintMore
set_option linter.unusedVariables false
set_option linter.unusedSimpArgs false

/-- What a writer with room for it does with a number, with bytes. -/
def wU (n : Nat) (x : Int) (bs : List Int) : Option (List Int) := if bs.length + n ≤ 1048576 ∧ 0 ≤ x ∧ x < 2 ^ (8 * n) then some (bs ++ beN n x) else none
def wI (n : Nat) (x : Int) (bs : List Int) : Option (List Int) := if bs.length + n ≤ 1048576 ∧ (n ≤ 7 → x / 2 ^ (8 * n - 1) = 0 ∨ x / 2 ^ (8 * n - 1) = -1) then some (bs ++ beN n x) else none
def wB (ys bs : List Int) : Option (List Int) := if bs.length + ys.length ≤ 1048576 then some (bs ++ ys) else none
theorem wU_some {n : Nat} {x : Int} {bs r : List Int} (h : wU n x bs = some r) : (bs.length + n ≤ 1048576 ∧ 0 ≤ x ∧ x < 2 ^ (8 * n)) ∧ bs ++ beN n x = r := by
  unfold wU at h
  split at h
  · rename_i hc; exact ⟨hc, Option.some.inj h⟩
  · cases h
theorem wI_some {n : Nat} {x : Int} {bs r : List Int} (h : wI n x bs = some r) : (bs.length + n ≤ 1048576 ∧ (n ≤ 7 → x / 2 ^ (8 * n - 1) = 0 ∨ x / 2 ^ (8 * n - 1) = -1)) ∧ bs ++ beN n x = r := by
  unfold wI at h
  split at h
  · rename_i hc; exact ⟨hc, Option.some.inj h⟩
  · cases h
theorem wB_some {ys bs r : List Int} (h : wB ys bs = some r) : bs.length + ys.length ≤ 1048576 ∧ bs ++ ys = r := by
  unfold wB at h
  split at h
  · rename_i hc; exact ⟨hc, Option.some.inj h⟩
  · cases h
theorem wr_U {B g : Nat} {v : Value} {bs r : List Int} {x : Int} {n : Nat} {w : World} (hI : IsWr B w g v bs 1048576) (h1 : 1 ≤ n) (h8 : n ≤ 8) (h : wU n x bs = some r) :
    Calls Tryd.prog 24 #[.pointer (some ⟨g, 0, none⟩), .int .i64 n, .int .u64 x] w fun e w' => e = .returned (.int .i64 0) ∧ WrPost B w g v r 1048576 w' := by
  obtain ⟨⟨a, b, c⟩, rfl⟩ := wU_some h
  exact wr_Uint.calls B g v bs 1048576 x n w hI h1 h8 b c (by omega) (by omega)
theorem wr_I {B g : Nat} {v : Value} {bs r : List Int} {x : Int} {n : Nat} {w : World} (hI : IsWr B w g v bs 1048576) (h1 : 1 ≤ n) (h8 : n ≤ 8) (h : wI n x bs = some r) :
    Calls Tryd.prog 27 #[.pointer (some ⟨g, 0, none⟩), .int .i64 n, .int .i64 x] w fun e w' => e = .returned (.int .i64 0) ∧ WrPost B w g v r 1048576 w' := by
  obtain ⟨⟨a, b⟩, rfl⟩ := wI_some h
  exact wr_Int.calls B g v bs 1048576 x n w hI h1 h8 b (by omega) (by omega)
theorem wr_B {B g : Nat} {v : Value} {bs ys r : List Int} {A : Option Addr} {c : Nat} {w : World} (hI : IsWr B w g v bs 1048576) (hy : (Kd.int .u8).C w A ys.length ys) (h : wB ys bs = some r) :
    Calls Tryd.prog 26 #[.pointer (some ⟨g, 0, none⟩), .slice A ys.length c] w fun e w' => e = .returned (.int .i64 0) ∧ WrPost B w g v r 1048576 w' := by
  obtain ⟨a, rfl⟩ := wB_some h
  exact wr_Bytes.calls B g v bs ys 1048576 A c w hI hy (by omega) (by omega)

/-- One constant's bytes behind those that are there. -/
def pool_Encode.one (k : Nat) (c : Cst) (bs : List Int) : Option (List Int) :=
  (wU 1 c.f0 bs).bind fun b1 =>
    if c.f0 = 1 then (text_Encode.f k c.f1).bind fun t => (wU 2 (t.1.length : Int) b1).bind fun b2 => wB t.1 b2
    else if c.f0 = 3 then wI 4 c.f2 b1
    else if c.f0 = 5 then wI 8 c.f2 b1
    else (wU 2 c.f3 b1).bind fun b2 => if c.f0 = 7 then some b2 else wU 2 c.f4 b2
def pool_Encode.l0 : Nat → List Cst → Nat → List Int → Option (List Int)
  | 0, _, _, _ => none
  | k + 1, p, i, bs => if i + 1 < p.length then (pool_Encode.one k (rd_T33 p (i + 1)) bs).bind fun b => pool_Encode.l0 k p (i + 1) b else if bs.length ≤ 1048576 then some bs else none
def pool_Encode.f (k : Nat) (p : List Cst) : Option (List Int × Int) :=
  (pool_Check.f k p).bind fun e => if e = 0 then (if 0 < p.length ∧ p.length ≤ 1024 then (wU 2 (p.length : Int) []).bind fun b0 => (pool_Encode.l0 k p 0 b0).bind fun b => some (b, 0) else none) else some ([], e)
theorem pool_Encode.mono_one (k : Nat) (c : Cst) (bs : List Int) : LeO (pool_Encode.one k c bs) (pool_Encode.one (k + 1) c bs) := by
  unfold pool_Encode.one
  refine LeO.bind (LeO.refl _) (fun _ => LeO.ite (LeO.bind (text_Encode.mono _ _) (fun _ => LeO.refl _)) (LeO.refl _))
theorem pool_Encode.mono_l : ∀ k p i bs, LeO (pool_Encode.l0 k p i bs) (pool_Encode.l0 (k + 1) p i bs)
  | 0 => fun _ _ _ r h => by simp [pool_Encode.l0] at h
  | k + 1 => fun p i bs => by
    unfold pool_Encode.l0
    exact LeO.ite (LeO.bind (pool_Encode.mono_one _ _ _) (fun _ => pool_Encode.mono_l k _ _ _)) (LeO.refl _)
theorem pool_Encode.mono : ∀ a0 k, LeO (pool_Encode.f k a0) (pool_Encode.f (k + 1) a0) := by
  intro a0 k
  unfold pool_Encode.f
  exact LeO.bind (pool_Check.mono _ _) (fun _ => LeO.ite (LeO.ite (LeO.bind (LeO.refl _) (fun _ => LeO.bind (pool_Encode.mono_l _ _ _ _) (fun _ => LeO.refl _))) (LeO.refl _)) (LeO.refl _))
theorem row_C {w : World} {base : Nat} {ok : Nat → Prop} {A : Option Addr} {c n : Nat} {xs : List Int} (h : Kd.R (Kd.int .u8) 5 w base ok (.slice A n c) xs) : (Kd.int .u8).C w A xs.length xs := by
  obtain ⟨A', c', e, _, hC⟩ := Kd.R_reads h
  injection e with e1 e2 e3
  rw [e1]
  exact hC
set_option maxHeartbeats 80000000 in
set_option maxRecDepth 100000 in
theorem pool_Encode.calls (k : Nat) (A0 : Option Addr) (c0 : Nat) (p : List Cst) (r1 : List Int) (r2 : Int) (w : World) (hG : Aside0 (GG w)) (hr0 : Kd.C k33 w A0 p.length p) (hc0 : p.length ≤ c0) (h : pool_Encode.f k p = some (r1, r2)) :
    Calls Tryd.prog 14 #[.slice A0 p.length c0] w fun e w' => ∃ v0_ : Value, e = .returned (.tuple #[v0_, .int .i64 r2]) ∧ Kd.R (Kd.int .u8) 5 w' w.heap.size (fun _ => True) v0_ r1 ∧ Below w.heap.size w w' := by
  unfold pool_Encode.f at h
  obtain ⟨e0, hE, h⟩ := Option.bind_eq_some_iff.mp h
  have HCk := Aside0.mk (pool_Check.calls k A0 c0 p e0 w hG hr0 hc0 hE)
  have HR := Aside0.mk hr0
  have HC := Aside0.mk hc0
  clear hr0 hc0 hE
  by_cases he : e0 = 0
  · rw [if_pos he] at h
    have heb : (e0 != 0) = false := bne_eq_false_iff_eq.mpr he
    clear he
    by_cases hp : 0 < p.length ∧ p.length ≤ 1024
    · rw [if_pos hp] at h
      obtain ⟨b0, hU, h⟩ := Option.bind_eq_some_iff.mp h
      obtain ⟨b, hL, h⟩ := Option.bind_eq_some_iff.mp h
      have H := Option.some.inj h
      injection H with H1 H2
      subst H1
      subst H2
      have HU := Aside0.mk hU
      have HL := Aside0.mk hL
      have HP := Aside0.mk hp
      obtain ⟨ad, ea, _⟩ := at_T33 HR.out 0 (by omega) (by omega)
      subst ea
      obtain ⟨i0, hi0, _, hsz, _⟩ := info_parts info33
      have hs1 := cut_from (P := Tryd.prog) 22 33 .i64 Tryd.underlying22 hi0 5 hsz (some ad) p.length c0 1 (by decide) (by have := HP.out; omega)
      obtain ⟨A1, hA1⟩ : ∃ A1, A1 = (if c0 = (1 : Int).toNat then some ad else (some ad).map (·.add ((1 : Int).toNat * 5))) := ⟨_, rfl⟩
      rw [← hA1] at hs1
      have HD := Aside0.mk (show Kd.C k33 w A1 (p.drop 1).length (p.drop 1) from by rw [hA1]; exact Kd.C_drop (m := 1) (c := c0) HR.out HP.out.1 HC.out)
      have hlp : (p.length : Int) ≤ 1024 := by omega
      clear hA1 hU hL h hp
      go_enter Tryd.func14, Tryd.ntmps14
      go_wp2_with fail
      with_reducible refine HCk.out.mono ?_
      rintro e w1 ⟨rfl, hb1⟩
      have HB1 := Aside0.mk hb1
      clear hb1 HCk
      go_wp2_with fail
      refine (wr_New.calls 1048576 w1 (by decide) (by decide)).mono ?_
      rintro e w2 ⟨rfl, hI2, hb2⟩
      have HI2 := Aside0.mk hI2
      obtain ⟨g, hg⟩ : ∃ g, g = w1.heap.size := ⟨_, rfl⟩
      rw [← hg] at hI2 hb2 HI2
      rw [← hg]
      have HGG := Aside0.mk hg
      have HB2 := Aside0.mk (show Below w1.heap.size w1 w2 from by rw [← hg]; exact hb2)
      have HB2' := Aside0.mk (below_step HB1.out HB2.out)
      clear hg hI2 hb2
      go_wp2_with fail
      refine (wr_U (n := 2) HI2.out (by decide) (by decide) HU.out).mono ?_
      rintro e w3 ⟨rfl, v3, hI3, hS3⟩
      have HI3 := Aside0.mk hI3
      have HS3 := Aside0.mk hS3
      have HB3 := Aside0.mk (show Below w.heap.size w w3 from HB2'.out.trans (hS3.below.mono (by rw [HGG.out]; exact HB1.out.size)))
      have HG1 := Aside0.mk (show w.heap.size ≤ g from by rw [HGG.out]; exact HB1.out.size)
      clear hI3 hS3 HU
      go_wp2
      go_loopg [28] k (fun kq v28 w' => ∃ (i : Nat) (cur : List Int) (v : Value), v28 = .int .i64 (i : Int) ∧ Aside0 (pool_Encode.l0 kq p i cur = some b) ∧ Aside0 (kq ≤ k) ∧ Aside0 (i + 1 ≤ p.length) ∧ Aside0 (IsWr g w' g v cur 1048576) ∧ Aside0 (Below w.heap.size w w'))
      case atStart => exact ⟨0, _, _, rfl, HL, ⟨Nat.le_refl _⟩, ⟨HP.out.1⟩, HI3, HB3⟩
      case round =>
        obtain ⟨i, cur, vr, rfl, HA, HK, HI1, HI, HB⟩ := hrel
        cases gk with
        | zero => exact absurd HA.out (by simp [pool_Encode.l0])
        | succ k1 =>
        have H := HA.out
        clear HA
        simp only [pool_Encode.l0] at H
        have hlen : (p.drop 1).length = p.length - 1 := List.length_drop
        by_cases hp : i + 1 < p.length
        · rw [if_pos hp] at H
          have hpi : decide ((i : Int) < ((p.length - 1 : Nat) : Int)) = true := decide_eq_true (by omega)
          have hpn : decide (i < p.length - 1) = true := decide_eq_true (by omega)
          have hpt : (i < p.length - 1) = True := eq_true (by omega)
          have hge : (0 ≤ (i : Int)) = True := eq_true (by omega)
          have hrd : rd_T33 p ((i : Int) + 1) = rd_T33 (p.drop 1) (i : Int) := by
            unfold rd_T33
            rw [Int.toNat_natCast, show ((i : Int) + 1).toNat = i + 1 by omega, List.getD_eq_getElem?_getD, List.getD_eq_getElem?_getD, List.getElem?_drop, Nat.add_comm]
          rw [hrd] at H
          obtain ⟨a1, ea, hx0, hx1, hx2, hx3, hx4⟩ := at_T33 (Kd.C_below HD.out HB.out) (i : Int) (by omega) (by omega)
          subst ea
          simp only [Int.toNat_natCast] at hx0 hx1 hx2 hx3 hx4
          obtain ⟨cc, hcc⟩ : ∃ cc, cc = rd_T33 (p.drop 1) (i : Int) := ⟨_, rfl⟩
          rw [← hcc] at H hx0 hx1 hx2 hx3 hx4
          have HPI := Aside0.mk (show i < 1024 from by omega)
          have hwi : wrap64 ((i : Int) + 1) = (i : Int) + 1 := by have := HPI.out; unfold wrap64; omega
          clear hp hcc hrd
          obtain ⟨bn, hO, H⟩ := Option.bind_eq_some_iff.mp H
          have HN := Aside0.mk H
          clear H
          unfold pool_Encode.one at hO
          obtain ⟨b1, hU1, hO⟩ := Option.bind_eq_some_iff.mp hO
          have HU1 := Aside0.mk hU1
          have hlo := (wU_some hU1).1.2.1
          have hhi : cc.f0 < 256 := (wU_some hU1).1.2.2
          clear hU1
          have HBb := Aside0.mk (below_alloc (Below.refl wr.heap.size wr) (.cells #[.int .i64 cc.f0, .string cc.f1, .int .i64 cc.f2, .int .i64 cc.f3, .int .i64 cc.f4] 33 (0, 0)))
          have BK2 := Aside0.mk (blk_new wr (.cells #[.int .i64 cc.f0, .string cc.f1, .int .i64 cc.f2, .int .i64 cc.f3, .int .i64 cc.f4] 33 (0, 0)))
          have HIa := Aside0.mk (HI.out.below HBb.out)
          have HBa' := Aside0.mk (HB.out.trans (HBb.out.mono HB.out.size))
          have FRa := Aside0.mk (HI.out.far_new (Nat.le_refl _) (blk_lt BK2.out))
          have BKa := BK2
          have HBa := HBa'
          clear BK2 HBb HBa'
          go_wp2_with fail
          refine (wr_U (n := 1) HIa.out (by decide) (by decide) HU1.out).mono ?_
          rintro e wb ⟨rfl, vb, hIb, hSb⟩
          have HIb := Aside0.mk hIb
          have HBb := Aside0.mk (HBa.out.trans (hSb.below.mono HG1.out))
          have BKb := Aside0.mk (hSb.blk FRa.out BKa.out)
          have FRb := Aside0.mk (hSb.far FRa.out)
          clear hIb hSb
          have hc0_b : wb.cell? ⟨wr.heap.size, 0, none⟩ = some (.int .i64 cc.f0) := (blk_cell BKb.out 0).trans rfl
          have hc1_b : wb.cell? ⟨wr.heap.size, 1, none⟩ = some (.string cc.f1) := (blk_cell BKb.out 1).trans rfl
          have hc2_b : wb.cell? ⟨wr.heap.size, 2, none⟩ = some (.int .i64 cc.f2) := (blk_cell BKb.out 2).trans rfl
          have hc3_b : wb.cell? ⟨wr.heap.size, 3, none⟩ = some (.int .i64 cc.f3) := (blk_cell BKb.out 3).trans rfl
          have hc4_b : wb.cell? ⟨wr.heap.size, 4, none⟩ = some (.int .i64 cc.f4) := (blk_cell BKb.out 4).trans rfl
          by_cases t1 : cc.f0 = 1
          · rw [if_pos t1] at hO
            obtain ⟨⟨tb, te⟩, hT, hO⟩ := Option.bind_eq_some_iff.mp hO
            obtain ⟨b2, hU2, hO⟩ := Option.bind_eq_some_iff.mp hO
            have q1 : (cc.f0 == 1) = true := beq_iff_eq.mpr t1
            have HT := Aside0.mk hT
            have HU2 := Aside0.mk hU2
            have HW := Aside0.mk hO
            have htl : (tb.length : Int) < 65536 := (wU_some hU2).1.2.2
            clear t1 hT hU2 hO
            go_wp2_with fail
            refine (text_Encode.calls k1 cc.f1 tb te _ ⟨GG.below hG.out HBb.out⟩ HT.out).mono ?_
            rintro e wt ⟨vt, rfl, hRt, hbt⟩
            obtain ⟨At, ct, hvt, hct, _⟩ := Kd.R_reads hRt
            subst hvt
            have HRt := Aside0.mk hRt
            have HIt := Aside0.mk (HIb.out.below hbt)
            have HBt := Aside0.mk (below_step HBb.out hbt)
            have HF := Aside0.mk (show ∀ k, wb.heap.size ≤ k → k < wt.heap.size → WrFar wt g vb k from fun k h1 h2 => HIb.out.far_new h1 h2)
            clear hRt hbt hc0_b hc1_b hc2_b hc3_b hc4_b
            go_wp2_with fail
            refine (wr_U (n := 2) HIt.out (by decide) (by decide) HU2.out).mono ?_
            rintro e wc ⟨rfl, vc, hIc, hSc⟩
            have HIc := Aside0.mk hIc
            have HBc := Aside0.mk (HBt.out.trans (hSc.below.mono HG1.out))
            have HRc := Aside0.mk (hSc.R HRt.out HF.out)
            clear hIc hSc
            go_wp2_with fail
            refine (wr_B HIc.out (row_C HRc.out) HW.out).mono ?_
            rintro e wd ⟨rfl, vd, hId, hSd⟩
            have HId := Aside0.mk hId
            have HBd := Aside0.mk (HBc.out.trans (hSd.below.mono HG1.out))
            clear hId hSd
            go_wp2
            go_roundg k1
            case measure => have := HK.out; omega
            case rel => exact ⟨i + 1, _, _, congrArg (Value.int .i64) (by omega), HN, ⟨by have := HK.out; omega⟩, ⟨by have := of_decide_eq_true hpn; omega⟩, HId, HBd⟩
          rw [if_neg t1] at hO
          have q1 : (cc.f0 == 1) = false := beq_eq_false_iff_ne.mpr t1
          by_cases t3 : cc.f0 = 3
          · rw [if_pos t3] at hO
            have q3 : (cc.f0 == 3) = true := beq_iff_eq.mpr t3
            have HW := Aside0.mk hO
            clear t1 t3 hO
            go_wp2_with fail
            refine (wr_I (n := 4) HIb.out (by decide) (by decide) HW.out).mono ?_
            rintro e wc ⟨rfl, vc, hIc, hSc⟩
            have HIc := Aside0.mk hIc
            have HBc := Aside0.mk (HBb.out.trans (hSc.below.mono HG1.out))
            clear hIc hSc hc0_b hc1_b hc2_b hc3_b hc4_b
            go_wp2
            go_roundg k1
            case measure => have := HK.out; omega
            case rel => exact ⟨i + 1, _, _, congrArg (Value.int .i64) (by omega), HN, ⟨by have := HK.out; omega⟩, ⟨by have := of_decide_eq_true hpn; omega⟩, HIc, HBc⟩
          rw [if_neg t3] at hO
          have q3 : (cc.f0 == 3) = false := beq_eq_false_iff_ne.mpr t3
          by_cases t5 : cc.f0 = 5
          · rw [if_pos t5] at hO
            have q5 : (cc.f0 == 5) = true := beq_iff_eq.mpr t5
            have HW := Aside0.mk hO
            clear t1 t3 t5 hO
            go_wp2_with fail
            refine (wr_I (n := 8) HIb.out (by decide) (by decide) HW.out).mono ?_
            rintro e wc ⟨rfl, vc, hIc, hSc⟩
            have HIc := Aside0.mk hIc
            have HBc := Aside0.mk (HBb.out.trans (hSc.below.mono HG1.out))
            clear hIc hSc hc0_b hc1_b hc2_b hc3_b hc4_b
            go_wp2
            go_roundg k1
            case measure => have := HK.out; omega
            case rel => exact ⟨i + 1, _, _, congrArg (Value.int .i64) (by omega), HN, ⟨by have := HK.out; omega⟩, ⟨by have := of_decide_eq_true hpn; omega⟩, HIc, HBc⟩
          rw [if_neg t5] at hO
          have q5 : (cc.f0 == 5) = false := beq_eq_false_iff_ne.mpr t5
          obtain ⟨b2, hU2, hO⟩ := Option.bind_eq_some_iff.mp hO
          have HU2 := Aside0.mk hU2
          have h20 := (wU_some hU2).1.2.1
          have h21 : cc.f3 < 65536 := (wU_some hU2).1.2.2
          by_cases t7 : cc.f0 = 7
          · rw [if_pos t7] at hO
            obtain rfl := Option.some.inj hO
            have q7 : (cc.f0 != 7) = false := bne_eq_false_iff_eq.mpr t7
            clear t1 t3 t5 t7 hO hU2
            go_wp2_with fail
            refine (wr_U (n := 2) HIb.out (by decide) (by decide) HU2.out).mono ?_
            rintro e wc ⟨rfl, vc, hIc, hSc⟩
            have HIc := Aside0.mk hIc
            have HBc := Aside0.mk (HBb.out.trans (hSc.below.mono HG1.out))
            have BKc := Aside0.mk (hSc.blk FRb.out BKb.out)
            have FRc := Aside0.mk (hSc.far FRb.out)
            clear hIc hSc hc0_b hc1_b hc2_b hc3_b hc4_b
            have hc0_c : wc.cell? ⟨wr.heap.size, 0, none⟩ = some (.int .i64 cc.f0) := (blk_cell BKc.out 0).trans rfl
            have hc1_c : wc.cell? ⟨wr.heap.size, 1, none⟩ = some (.string cc.f1) := (blk_cell BKc.out 1).trans rfl
            have hc2_c : wc.cell? ⟨wr.heap.size, 2, none⟩ = some (.int .i64 cc.f2) := (blk_cell BKc.out 2).trans rfl
            have hc3_c : wc.cell? ⟨wr.heap.size, 3, none⟩ = some (.int .i64 cc.f3) := (blk_cell BKc.out 3).trans rfl
            have hc4_c : wc.cell? ⟨wr.heap.size, 4, none⟩ = some (.int .i64 cc.f4) := (blk_cell BKc.out 4).trans rfl
            go_wp2
            go_roundg k1
            case measure => have := HK.out; omega
            case rel => exact ⟨i + 1, _, _, congrArg (Value.int .i64) (by omega), HN, ⟨by have := HK.out; omega⟩, ⟨by have := of_decide_eq_true hpn; omega⟩, HIc, HBc⟩
          rw [if_neg t7] at hO
          have q7 : (cc.f0 != 7) = true := bne_iff_ne.mpr t7
          have HW := Aside0.mk hO
          have h30 := (wU_some hO).1.2.1
          have h31 : cc.f4 < 65536 := (wU_some hO).1.2.2
          clear t1 t3 t5 t7 hO hU2
          go_wp2_with fail
          refine (wr_U (n := 2) HIb.out (by decide) (by decide) HU2.out).mono ?_
          rintro e wc ⟨rfl, vc, hIc, hSc⟩
          have HIc := Aside0.mk hIc
          have HBc := Aside0.mk (HBb.out.trans (hSc.below.mono HG1.out))
          have BKc := Aside0.mk (hSc.blk FRb.out BKb.out)
          have FRc := Aside0.mk (hSc.far FRb.out)
          clear hIc hSc hc0_b hc1_b hc2_b hc3_b hc4_b
          have hc0_c : wc.cell? ⟨wr.heap.size, 0, none⟩ = some (.int .i64 cc.f0) := (blk_cell BKc.out 0).trans rfl
          have hc1_c : wc.cell? ⟨wr.heap.size, 1, none⟩ = some (.string cc.f1) := (blk_cell BKc.out 1).trans rfl
          have hc2_c : wc.cell? ⟨wr.heap.size, 2, none⟩ = some (.int .i64 cc.f2) := (blk_cell BKc.out 2).trans rfl
          have hc3_c : wc.cell? ⟨wr.heap.size, 3, none⟩ = some (.int .i64 cc.f3) := (blk_cell BKc.out 3).trans rfl
          have hc4_c : wc.cell? ⟨wr.heap.size, 4, none⟩ = some (.int .i64 cc.f4) := (blk_cell BKc.out 4).trans rfl
          go_wp2_with fail
          refine (wr_U (n := 2) HIc.out (by decide) (by decide) HW.out).mono ?_
          rintro e wd ⟨rfl, vd, hId, hSd⟩
          have HId := Aside0.mk hId
          have HBd := Aside0.mk (HBc.out.trans (hSd.below.mono HG1.out))
          clear hId hSd hc0_c hc1_c hc2_c hc3_c hc4_c
          go_wp2
          go_roundg k1
          case measure => have := HK.out; omega
          case rel => exact ⟨i + 1, _, _, congrArg (Value.int .i64) (by omega), HN, ⟨by have := HK.out; omega⟩, ⟨by have := of_decide_eq_true hpn; omega⟩, HId, HBd⟩
        · rw [if_neg hp] at H
          have hpi : decide ((i : Int) < ((p.length - 1 : Nat) : Int)) = false := decide_eq_false (by omega)
          have hpn : decide (i < p.length - 1) = false := decide_eq_false (by omega)
          by_cases hl : cur.length ≤ 1048576
          · rw [if_pos hl] at H
            obtain rfl := Option.some.inj H
            have HLn := Aside0.mk hl
            clear hp H hl
            go_wp2_with fail
            refine (wr_Out.calls g g vr cur 1048576 _ HI.out HLn.out).mono ?_
            rintro e wo ⟨vo, rfl, hRo, hbo⟩
            have HRo := Aside0.mk hRo
            have HBo := Aside0.mk (below_step HB.out hbo)
            clear hRo hbo
            go_wp2
            go_ret2
            exact ⟨_, rfl, Kd.R_lower HRo.out HB.out.size, HBo.out⟩
          · rw [if_neg hl] at H
            cases H
    · rw [if_neg hp] at h
      cases h
  · rw [if_neg he] at h
    have heb : (e0 != 0) = true := bne_iff_ne.mpr he
    have H := Option.some.inj h
    injection H with H1 H2
    subst H1
    subst H2
    clear he h
    go_enter Tryd.func14, Tryd.ntmps14
    go_wp2_with fail
    with_reducible refine HCk.out.mono ?_
    rintro e w1 ⟨rfl, hb1⟩
    have HB1 := Aside0.mk hb1
    clear hb1 HCk
    go_wp2
    go_ret2
    exact ⟨_, rfl, Kd.R_nil _ _ _ _ _, HB1.out⟩
end Go.Proofs.YtglnhkgodgjepaaDoor.Px
