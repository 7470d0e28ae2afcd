/- text.Decode's inner function: the next unit of the bytes that are left; the walk of it. -/
import Derived.Test.YtoimmkonlpdjfaaDoorPx1
import Derived.Lib.Bytes
import Derived.Deep.CutBlock
namespace Go.Proofs.YtoimmkonlpdjfaaDoor.Px
open Go.RowKit Go.Proofs.YtoimmkonlpdjfaaDoorW.PrintWords Go.Proofs.YtoimmkonlpdjfaaDoorW.PrintLast Go.Proofs.YtoimmkonlpdjfaaDoorW.PrintMore
set_option linter.unusedVariables false
set_option linter.unusedSimpArgs false

/-- How many bytes a first byte asks for. -/
def nxN (c : Int) : Int := if 224 ≤ c then (if c < 240 then 3 else 1) else if 192 ≤ c then 2 else 1
theorem nxN_cases (c : Int) : nxN c = 1 ∨ nxN c = 2 ∨ nxN c = 3 := by
  unfold nxN
  split
  · split
    · exact .inr (.inr rfl)
    · exact .inl rfl
  · split
    · exact .inr (.inl rfl)
    · exact .inl rfl
/-- What of the first byte counts. -/
def u0V (L : List Int) : Int := if nxN (rd L 0) = 1 then wrap32 (rd L 0) else if nxN (rd L 0) = 2 then Go.bits .and .i32 (wrap32 (rd L 0)) 31 else Go.bits .and .i32 (wrap32 (rd L 0)) 15
theorem fits_add' (a : Addr) (x j : Nat) : (a.add x).add j = a.add (x + j) := by
  unfold Addr.add
  by_cases h1 : x = 0 <;> by_cases h2 : j = 0 <;> simp [h1, h2, Nat.add_assoc]
def U2 (L : List Int) : Int := Go.bits .or .i32 (wrap32 (u0V L * 64)) (wrap32 (Go.bits .and .u8 (rd L 1) 63))
def U3 (L : List Int) : Int := Go.bits .or .i32 (wrap32 (U2 L * 64)) (wrap32 (Go.bits .and .u8 (rd L 2) 63))
/-- The next unit, if its bytes are formed like one. -/
def uniV (L : List Int) : Option Int :=
  if (L.length : Int) < nxN (rd L 0) then none
  else if nxN (rd L 0) = 1 then some (u0V L)
  else if rd L 1 / 64 = 2 then (if nxN (rd L 0) = 2 then some (U2 L) else if rd L 2 / 64 = 2 then some (U3 L) else none) else none
/-- The next unit; are its bytes the unit's; how many they are. -/
def text_next.f (k : Nat) (L : List Int) : Option (Int × Bool × Nat) :=
  match uniV L with
  | none => some (0, false, 0)
  | some u => (text_unit.f k [] u).bind fun b => some (u, (strOfNums b).toList == (strOfNums (L.take (nxN (rd L 0)).toNat)).toList, (nxN (rd L 0)).toNat)
set_option maxHeartbeats 8000000 in
set_option maxRecDepth 100000 in
theorem next.calls (k : Nat) (w0 w : World) (gb : Nat) (A : Option Addr) (c : Nat) (L : List Int) (hB : Below w0.heap.size w0 w) (hg : w0.heap.size ≤ gb) (hb : w.heap[gb]? = some (.cells #[.slice A L.length c] 22 (0, 0)))
    (hC : Kd.C (Kd.int .u8) w0 A L.length L) (hc : L.length ≤ c) (hne : 0 < L.length) (r1 : Int) (r2 : Bool) (r3 : Nat) (h : text_next.f k L = some (r1, r2, r3)) :
    Calls Tryd.prog 20 #[.pointer (some ⟨gb, 0, none⟩)] w fun e w' => e = .returned (.tuple #[.int .i32 r1, .bool r2]) ∧ (∃ A' c', w'.heap[gb]? = some (.cells #[.slice A' (L.drop r3).length c'] 22 (0, 0)) ∧ Kd.C (Kd.int .u8) w0 A' (L.drop r3).length (L.drop r3) ∧ (L.drop r3).length ≤ c') ∧ Below w0.heap.size w0 w' ∧ Kept w w' (fun j => j = gb) := by
  have HH := Aside0.mk h
  clear h
  have HC := Aside0.mk hC
  have HB := Aside0.mk hB
  have HG := Aside0.mk hg
  have HBK := Aside0.mk hb
  have hcell : w.cell? ⟨gb, 0, none⟩ = some (.slice A L.length c) := (blk_cell hb 0).trans rfl
  have hCw := Kd.C_below hC hB
  obtain ⟨ad, rfl, hx0⟩ := Kd.at_int hCw 0 (by omega) (by omega)
  rw [show ((0 : Int)).toNat = 0 from rfl, Addr.add_zero'] at hx0
  have qi : (0 < L.length) = True := eq_true hne
  have u22 := Tryd.underlying22
  clear hC hB hg hb hCw
  go_enter Tryd.func20, Tryd.ntmps20
  go_upto_block 0 with (fail)
  go_cut [3] (fun v3 wc => v3 = .int .i64 (nxN (rd L 0)) ∧ wc = w)
  case first =>
    by_cases h1 : 224 ≤ rd L 0
    · have h1b : decide (224 ≤ rd L 0) = true := decide_eq_true h1
      by_cases h2 : rd L 0 < 240
      · have h2b : decide (rd L 0 < 240) = true := decide_eq_true h2
        have hn := Aside0.mk (show nxN (rd L 0) = 3 by unfold nxN; rw [if_pos h1, if_pos h2])
        clear h1 h2
        go_wp2
        go_meet
        case rel => exact ⟨by rw [hn.out], rfl⟩
      · have h2b : decide (rd L 0 < 240) = false := decide_eq_false h2
        have h3b : decide (192 ≤ rd L 0) = true := decide_eq_true (by omega)
        have h4b : decide (rd L 0 < 224) = false := decide_eq_false (by omega)
        have hn := Aside0.mk (show nxN (rd L 0) = 1 by unfold nxN; rw [if_pos h1, if_neg h2])
        clear h1 h2
        go_wp2
        go_meet
        case rel => exact ⟨by rw [hn.out], rfl⟩
    · have h1b : decide (224 ≤ rd L 0) = false := decide_eq_false h1
      by_cases h2 : 192 ≤ rd L 0
      · have h2b : decide (192 ≤ rd L 0) = true := decide_eq_true h2
        have h4b : decide (rd L 0 < 224) = true := decide_eq_true (by omega)
        have hn := Aside0.mk (show nxN (rd L 0) = 2 by unfold nxN; rw [if_neg h1, if_pos h2])
        clear h1 h2
        go_wp2
        go_meet
        case rel => exact ⟨by rw [hn.out], rfl⟩
      · have h2b : decide (192 ≤ rd L 0) = false := decide_eq_false h2
        have hn := Aside0.mk (show nxN (rd L 0) = 1 by unfold nxN; rw [if_neg h1, if_neg h2])
        clear h1 h2
        go_wp2
        go_meet
        case rel => exact ⟨by rw [hn.out], rfl⟩
  case rest =>
    obtain ⟨rfl, hww⟩ := hcut
    replace hww := hww.symm
    subst hww
    by_cases hl : (L.length : Int) < nxN (rd L 0)
    · have hlb : decide ((L.length : Int) < nxN (rd L 0)) = true := decide_eq_true hl
      have hU : uniV L = none := if_pos hl
      have hH := HH.out
      unfold text_next.f at hH
      rw [hU] at hH
      simp only [Option.some.injEq, Prod.mk.injEq] at hH
      obtain ⟨rfl, rfl, rfl⟩ := hH
      have HCC := Aside0.mk hc
      clear hl hU
      go_wp2
      go_ret2
      exact ⟨rfl, ⟨some ad, c, HBK.out, HC.out, HCC.out⟩, HB.out, Kept.refl _ _⟩
    have hlb : decide ((L.length : Int) < nxN (rd L 0)) = false := decide_eq_false hl
    have HL := Aside0.mk hl
    clear hl
    go_upto_if 35 with (fail)
    go_cut [3, 5] (fun v3 v5 wc => v3 = .int .i64 (nxN (rd L 0)) ∧ v5 = .int .i32 (u0V L) ∧ wc = w)
    case first =>
      rcases nxN_cases (rd L 0) with hn | hn | hn
      · rw [hn]
        have hN := Aside0.mk hn
        clear hn
        go_wp2
        go_meet
        case rel => exact ⟨by rw [hN.out], by unfold u0V; rw [hN.out]; rfl, rfl⟩
      · rw [hn]
        have hN := Aside0.mk hn
        clear hn
        go_wp2
        go_meet
        case rel => exact ⟨by rw [hN.out], by unfold u0V; rw [hN.out]; rfl, rfl⟩
      · rw [hn]
        have hN := Aside0.mk hn
        clear hn
        go_wp2
        go_meet
        case rel => exact ⟨by rw [hN.out], by unfold u0V; rw [hN.out]; rfl, rfl⟩
    case rest =>
    obtain ⟨rfl, rfl, hww⟩ := hcut
    replace hww := hww.symm
    subst hww
    obtain ⟨i0, hi0, _, hsz, _⟩ := info_parts info5
    have hn1 : 1 ≤ nxN (rd L 0) := by rcases nxN_cases (rd L 0) with hn | hn | hn <;> omega
    have hs1 := cut_mid (P := Tryd.prog) 22 5 .i64 .i64 Tryd.underlying22 hi0 1 hsz (some ad) L.length c 1 (nxN (rd L 0)) (by decide) hn1 (by have := HL.out; omega) hc
    obtain ⟨A1, hA1⟩ : ∃ A1, A1 = (if c = (1 : Int).toNat then some ad else (some ad).map (·.add ((1 : Int).toNat * 1))) := ⟨_, rfl⟩
    rw [← hA1] at hs1
    have HA1 := Aside0.mk hA1
    clear hA1 hn1 hlb
    go_upto_block 1 with (fail)
    have hr1 : 2 ≤ nxN (rd L 0) → (∃ a1, A1 = some a1 ∧ w.cell? a1 = some (.int .u8 (rd L 1)) ∧ (3 ≤ nxN (rd L 0) → w.cell? (a1.add 1) = some (.int .u8 (rd L 2)))) := by
      intro h2
      have hl := HL.out
      have hCw := Kd.C_below HC.out HB.out
      have hA := HA1.out
      rw [if_neg (by rw [show ((1 : Int)).toNat = 1 from rfl]; omega)] at hA
      obtain ⟨a', ea, hx⟩ := Kd.at_int hCw 1 (by omega) (by omega)
      cases ea
      refine ⟨ad.add 1, hA, hx, fun h3 => ?_⟩
      obtain ⟨a', ea, hx⟩ := Kd.at_int hCw 2 (by omega) (by omega)
      cases ea
      rw [fits_add']
      exact hx
    go_cut [3, 5, 42, 43, 44] (fun v3 v5 v42 v43 v44 wc => v3 = .int .i64 (nxN (rd L 0)) ∧ (∃ u, v5 = .int .i32 u ∧ uniV L = some u) ∧ wc = w)
    case first =>
      rcases nxN_cases (rd L 0) with hn | hn | hn
      · have hN := Aside0.mk hn
        rw [hn]
        clear hn
        simp only [Int.reduceToNat, Nat.sub_self]
        go_wp2
        refine wp_loop_rounds 1 ?_
        rw [rounds_succ]
        go_wp2
        go_meet
        case rel => exact ⟨by rw [hN.out], ⟨_, rfl, by unfold uniV; rw [if_neg (by have := HL.out; omega), hN.out, if_pos rfl]⟩, rfl⟩
      · have hN := Aside0.mk hn
        obtain ⟨a1, rfl, hx1, _⟩ := hr1 (by omega)
        rw [hn]
        clear hn
        simp only [Int.reduceToNat, Nat.reduceSub]
        by_cases hb : rd L 1 / 64 = 2
        · have hbb : (rd L 1 / 64 != 2) = false := bne_eq_false_iff_eq.mpr hb
          have HBB := Aside0.mk hb
          clear hb
          go_wp2
          refine wp_loop_rounds 2 ?_
          rw [rounds_succ]
          go_wp2
          rw [rounds_succ]
          go_wp2
          go_meet
          case rel => exact ⟨by rw [hN.out], ⟨_, rfl, by unfold uniV; rw [if_neg (by have := HL.out; omega), hN.out, if_neg (by decide), if_pos HBB.out, if_pos rfl]; rfl⟩, rfl⟩
        · have hU : uniV L = none := by unfold uniV; rw [if_neg (by have := HL.out; omega), hN.out, if_neg (by decide), if_neg hb]
          have hH := HH.out
          unfold text_next.f at hH
          rw [hU] at hH
          simp only [Option.some.injEq, Prod.mk.injEq] at hH
          obtain ⟨rfl, rfl, rfl⟩ := hH
          have hbb : (rd L 1 / 64 != 2) = true := bne_iff_ne.mpr hb
          have HCC := Aside0.mk hc
          clear hb hU
          go_wp2
          refine wp_loop_rounds 1 ?_
          rw [rounds_succ]
          go_wp2
          go_ret2
          exact ⟨rfl, ⟨some ad, c, HBK.out, HC.out, HCC.out⟩, HB.out, Kept.refl _ _⟩
      · have hN := Aside0.mk hn
        obtain ⟨a1, rfl, hx1, hx2⟩ := hr1 (by omega)
        have hx2 : w.cell? ⟨a1.block, a1.off + 1, none⟩ = some (.int .u8 (rd L 2)) := hx2 (by omega)
        rw [hn]
        clear hn
        simp only [Int.reduceToNat, Nat.reduceSub]
        by_cases hb : rd L 1 / 64 = 2
        · have hbb : (rd L 1 / 64 != 2) = false := bne_eq_false_iff_eq.mpr hb
          have HBB := Aside0.mk hb
          clear hb
          by_cases hb : rd L 2 / 64 = 2
          · have hbb : (rd L 2 / 64 != 2) = false := bne_eq_false_iff_eq.mpr hb
            have HBB2 := Aside0.mk hb
            clear hb
            go_wp2
            refine wp_loop_rounds 3 ?_
            rw [rounds_succ]
            go_wp2
            rw [rounds_succ]
            go_wp2
            rw [rounds_succ]
            go_wp2
            go_meet
            case rel => exact ⟨by rw [hN.out], ⟨_, rfl, by unfold uniV; rw [if_neg (by have := HL.out; omega), hN.out, if_neg (by decide), if_pos HBB.out, if_neg (by decide), if_pos HBB2.out]; rfl⟩, rfl⟩
          · have hU : uniV L = none := by unfold uniV; rw [if_neg (by have := HL.out; omega), hN.out, if_neg (by decide), if_pos HBB.out, if_neg (by decide), if_neg hb]
            have hH := HH.out
            unfold text_next.f at hH
            rw [hU] at hH
            simp only [Option.some.injEq, Prod.mk.injEq] at hH
            obtain ⟨rfl, rfl, rfl⟩ := hH
            have hbb : (rd L 2 / 64 != 2) = true := bne_iff_ne.mpr hb
            have HCC := Aside0.mk hc
            clear hb hU
            go_wp2
            refine wp_loop_rounds 2 ?_
            rw [rounds_succ]
            go_wp2
            rw [rounds_succ]
            go_wp2
            go_ret2
            exact ⟨rfl, ⟨some ad, c, HBK.out, HC.out, HCC.out⟩, HB.out, Kept.refl _ _⟩
        · have hU : uniV L = none := by unfold uniV; rw [if_neg (by have := HL.out; omega), hN.out, if_neg (by decide), if_neg hb]
          have hH := HH.out
          unfold text_next.f at hH
          rw [hU] at hH
          simp only [Option.some.injEq, Prod.mk.injEq] at hH
          obtain ⟨rfl, rfl, rfl⟩ := hH
          have hbb : (rd L 1 / 64 != 2) = true := bne_iff_ne.mpr hb
          have HCC := Aside0.mk hc
          clear hb hU
          go_wp2
          refine wp_loop_rounds 1 ?_
          rw [rounds_succ]
          go_wp2
          go_ret2
          exact ⟨rfl, ⟨some ad, c, HBK.out, HC.out, HCC.out⟩, HB.out, Kept.refl _ _⟩
    case rest =>
    obtain ⟨rfl, ⟨u, rfl, hU⟩, hww⟩ := hcut
    replace hww := hww.symm
    subst hww
    have hH := HH.out
    unfold text_next.f at hH
    rw [hU] at hH
    obtain ⟨b, hb, hH⟩ := Option.bind_eq_some_iff.mp hH
    simp only [Option.some.injEq, Prod.mk.injEq] at hH
    obtain ⟨rfl, rfl, rfl⟩ := hH
    have HU := Aside0.mk hU
    have HA := Aside0.mk hb
    clear hb hU
    have hn1 : 1 ≤ nxN (rd L 0) := by rcases nxN_cases (rd L 0) with hn | hn | hn <;> omega
    have hs2 := cut_to (P := Tryd.prog) 22 5 .i64 Tryd.underlying22 hi0 (some ad) L.length c (nxN (rd L 0)) (by omega) (by have := HL.out; omega) hc
    have hs3 := cut_from (P := Tryd.prog) 22 5 .i64 Tryd.underlying22 hi0 1 hsz (some ad) L.length c (nxN (rd L 0)) (by omega) (by have := HL.out; omega)
    obtain ⟨A2, hA2⟩ : ∃ A2, A2 = (if c = (nxN (rd L 0)).toNat then some ad else (some ad).map (·.add ((nxN (rd L 0)).toNat * 1))) := ⟨_, rfl⟩
    rw [← hA2] at hs3
    have HA2 := Aside0.mk hA2
    have HN1 := Aside0.mk hn1
    have hT : ∀ W, Below w0.heap.size w0 W → (convert 22 9 (.slice (some ad) (nxN (rd L 0)).toNat c)).run Tryd.prog W = .ok (.string (strOfNums (L.take (nxN (rd L 0)).toNat))) W := by
      intro W hW
      have hC1 := Kd.C_take (m := (nxN (rd L 0)).toNat) (Kd.C_below HC.out hW) (by have := HL.out; omega)
      rw [List.length_take, Nat.min_eq_left (by have := HL.out; omega)] at hC1
      exact Kd.C_string Tryd.underlying22 Tryd.underlying5 Tryd.underlying9 hC1
    have HT := Aside0.mk hT
    have hT1 : ∀ nq, (convert 22 9 (.slice (some ad) (nxN (rd L 0)).toNat c)).run Tryd.prog (w.drewN nq) = .ok (.string (strOfNums (L.take (nxN (rd L 0)).toNat))) (w.drewN nq) := fun nq => hT _ (pw_below_drewN HB.out nq)
    have hT3 : (convert 22 9 (.slice (some ad) (nxN (rd L 0)).toNat c)).run Tryd.prog w.drew = .ok (.string (strOfNums (L.take (nxN (rd L 0)).toNat))) w.drew := hT _ (below_drew1 HB.out)
    have hCC := Aside0.mk hc
    clear hT hA2 hs1 HA1 hn1 hx0 hr1
    go_wp2_with (fail)
    go_region_with (first | (go_at_call 17; refine (text_unit.calls k (fun _ => False) _ [] u b w0 _ (by first | exact HB.out | exact pw_below_drewN HB.out _) (Kd.R_nil _ _ _ _ _) HA.out).mono ?_; rintro e w2 ⟨v2, rfl, hR2, hB2, hK2⟩; obtain ⟨A3, c3, hv3⟩ := Kd.R_slice hR2; subst hv3; have hC3 := (Kd.R_reads' hR2).2.2; have hcv := Kd.C_string (P := Tryd.prog) (src := 22) (dst := 9) (c := c3) Tryd.underlying22 Tryd.underlying5 Tryd.underlying9 hC3; have hHB2 := (hK2.2 gb (by first | exact blk_lt HBK.out) (fun h => h)).trans (by first | exact HBK.out | exact blk_drewN HBK.out _); have hcell2 : w2.cell? ⟨gb, 0, none⟩ = some (.slice (some ad) L.length c) := (blk_cell hHB2 0).trans rfl; have hfz2 := blk_frozen hHB2 0; have hT2 := HT.out w2 hB2; have HB2 := Aside0.mk hB2; have HHB2 := Aside0.mk hHB2; have HK2 := Aside0.mk hK2; clear hR2 hB2 hC3 hHB2 hK2))
    all_goals go_wp2
    all_goals go_ret2
    all_goals (
      refine ⟨rfl, ⟨A2, c - (nxN (rd L 0)).toNat, by rw [List.length_drop]; simpa using blk_set HHB2.out 0 (.slice A2 (L.length - (nxN (rd L 0)).toNat) (c - (nxN (rd L 0)).toNat)), ?_, by rw [List.length_drop]; have := hCC.out; omega⟩, below_set HB2.out HG.out, ?_⟩
      · rw [HA2.out]
        exact Kd.C_drop (m := (nxN (rd L 0)).toNat) (c := c) HC.out (by have := HL.out; omega) hCC.out
      · exact Kept.setCell ((show Kept w w2 (fun _ => False) from HK2.out).mono (S' := fun j => j = gb) (fun _ h => h.elim)) (p := ⟨gb, 0, none⟩) (.inl rfl) _)
end Go.Proofs.YtoimmkonlpdjfaaDoor.Px
