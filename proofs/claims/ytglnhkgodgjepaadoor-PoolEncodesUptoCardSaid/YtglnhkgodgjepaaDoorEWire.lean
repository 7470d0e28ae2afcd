/- wire.Writer: NewWriter, put, Uint, Int, Bytes, Out: what they leave, as contracts over a writer's block and row. -/
import Derived.Test.YtglnhkgodgjepaaDoorPx0
import Derived.BigCall
import Derived.Deep.CutBlock
import Derived.Deep.RegionHeld3
namespace Go.Proofs.YtglnhkgodgjepaaDoor.Px
open Go.RowKit Go.Proofs.YtglnhkgodgjepaaDoorW.PrintWords Go.Proofs.YtglnhkgodgjepaaDoorW.PrintLast Go.Proofs.YtglnhkgodgjepaaDoorW.PrintMore
set_option linter.unusedVariables false
set_option linter.unusedSimpArgs false

/-- A number's bytes, the highest first. -/
def beN : Nat → Int → List Int
  | 0, _ => []
  | n + 1, x => (x / 2 ^ (8 * n) % 256) :: beN n x
theorem beN_length : ∀ n x, (beN n x).length = n
  | 0, _ => rfl
  | n + 1, x => by simp [beN, beN_length n x]
/-- A writer: its block, and the row of its bytes. -/
structure IsWr (B : Nat) (w : World) (g : Nat) (v : Value) (bs : List Int) (m : Int) : Prop where
  ge : B ≤ g
  blk : w.heap[g]? = some (.cells #[v, .int .i64 m, .bool true] 98 (0, 0))
  row : Kd.R (Kd.int .u8) 5 w B (fun _ => True) v bs
/-- What a call on a writer may change. -/
structure WrStep (B : Nat) (w w' : World) (g : Nat) (v v' : Value) : Prop where
  below : Below B w w'
  keep : KeepBut w w' g v.ownBlock
  row : v'.ownBlock = v.ownBlock ∨ ∃ b, v'.ownBlock = some b ∧ w.heap.size ≤ b
def WrPost (B : Nat) (w : World) (g : Nat) (v : Value) (bs : List Int) (m : Int) (w' : World) : Prop := ∃ v', IsWr B w' g v' bs m ∧ WrStep B w w' g v v'
theorem IsWr.lt {B : Nat} {w : World} {g : Nat} {v : Value} {bs : List Int} {m : Int} (h : IsWr B w g v bs m) : g < w.heap.size := blk_lt h.blk
theorem IsWr.cell {B : Nat} {w : World} {g : Nat} {v : Value} {bs : List Int} {m : Int} (h : IsWr B w g v bs m) : w.cell? ⟨g, 0, none⟩ = some v ∧ w.cell? ⟨g, 1, none⟩ = some (.int .i64 m) ∧ w.cell? ⟨g, 2, none⟩ = some (.bool true) :=
  ⟨(blk_cell h.blk 0).trans rfl, (blk_cell h.blk 1).trans rfl, (blk_cell h.blk 2).trans rfl⟩
theorem IsWr.drewN {B : Nat} {w : World} {g : Nat} {v : Value} {bs : List Int} {m : Int} (h : IsWr B w g v bs m) (n : Nat) : IsWr B (w.drewN n) g v bs m := ⟨h.ge, h.blk, Kd.R_drewN h.row n⟩
theorem IsWr.ne {B : Nat} {w : World} {g : Nat} {v : Value} {bs : List Int} {m : Int} (h : IsWr B w g v bs m) : some g ≠ v.ownBlock := Kd.R_ne h.row h.blk (by decide)
theorem WrStep.refl (B : Nat) (w : World) (g : Nat) (v : Value) : WrStep B w w g v v := ⟨Below.refl _ _, KeepBut.refl _ _ _, .inl rfl⟩
theorem WrStep.trans {B : Nat} {w w1 w2 : World} {g : Nat} {v v1 v2 : Value} (h : WrStep B w w1 g v v1) (k : WrStep B w1 w2 g v1 v2) : WrStep B w w2 g v v2 := by
  have hs := h.keep.1
  refine ⟨h.below.trans k.below, h.keep.trans k.keep h.row, ?_⟩
  rcases k.row with e | ⟨b, e, hb⟩
  · rw [e]; exact h.row
  · exact .inr ⟨b, e, by omega⟩
theorem WrPost.trans {B : Nat} {w w1 w2 : World} {g : Nat} {v v1 : Value} {bs : List Int} {m : Int} (h : WrStep B w w1 g v v1) (k : WrPost B w1 g v1 bs m w2) : WrPost B w g v bs m w2 := by
  obtain ⟨v2, h2, s2⟩ := k
  exact ⟨v2, h2, h.trans s2⟩

theorem wr_put {B : Nat} {wr w3 : World} {g : Nat} {vr v1 : Value} {cur cur1 : List Int} {m : Int} (h : IsWr B wr g vr cur m) (hb : w3.heap[g]? = some (.cells #[vr, .int .i64 m, .bool true] 98 (0, 0))) (hr : Kd.R (Kd.int .u8) 5 w3 B (fun _ => True) v1 cur1) : IsWr B (w3.setCell ⟨g, 0, none⟩ v1) g v1 cur1 m :=
  ⟨h.ge, blk_set hb 0 v1, Kd.R_set hr hb (by decide) 0 v1⟩
theorem wr_step {B : Nat} {w wr w3 : World} {g : Nat} {v vr v1 : Value} {cur : List Int} {m : Int} (hs : WrStep B w wr g v vr) (h : IsWr B wr g vr cur m) (hb : Below B w w3) {k : Nat} (hg : (wr.drewN k).grownBy w3 vr.ownBlock) (ho : v1.ownBlock = vr.ownBlock ∨ ∃ b, v1.ownBlock = some b ∧ (wr.drewN k).heap.size ≤ b) (u : Value) : WrStep B w (w3.setCell ⟨g, 0, none⟩ u) g v v1 := by
  have hk : KeepBut wr w3 g vr.ownBlock := ⟨hg.size, fun i hi _ hr => hg.block i hi hr⟩
  refine ⟨hb.setCell (p := ⟨g, 0, none⟩) h.ge u, (hs.keep.trans hk hs.row).set_ 0 u, ?_⟩
  rcases ho with e | ⟨b, e, hbb⟩
  · rw [e]; exact hs.row
  · exact .inr ⟨b, e, Nat.le_trans hs.keep.1 hbb⟩
theorem IsWr.below {B : Nat} {w w1 : World} {g : Nat} {v : Value} {bs : List Int} {m : Int} (h : IsWr B w g v bs m) (hb : Below w.heap.size w w1) : IsWr B w1 g v bs m := ⟨h.ge, (hb.block g h.lt).trans h.blk, Kd.R_below h.row hb⟩
theorem IsWr.base_le {B : Nat} {w : World} {g : Nat} {v : Value} {bs : List Int} {m : Int} (h : IsWr B w g v bs m) : B ≤ w.heap.size := Nat.le_trans h.ge (Nat.le_of_lt h.lt)
theorem IsWr.own_lt {B : Nat} {w : World} {g : Nat} {v : Value} {bs : List Int} {m : Int} (h : IsWr B w g v bs m) (k : Nat) (hk : v.ownBlock = some k) : k < w.heap.size := by
  obtain ⟨inner, ho⟩ := Kd.R_own h.row
  exact Go.Proofs.YtglnhkgodgjepaaDoorW.PrintWords.own_lt ho k hk
/-- A block that a writer does not touch. -/
structure WrFar (w : World) (g : Nat) (v : Value) (k : Nat) : Prop where
  lt : k < w.heap.size
  ne : k ≠ g
  row : some k ≠ v.ownBlock
theorem WrStep.far {B : Nat} {w w1 : World} {g k : Nat} {v v1 : Value} (h : WrStep B w w1 g v v1) (f : WrFar w g v k) : WrFar w1 g v1 k := by
  refine ⟨Nat.lt_of_lt_of_le f.lt h.keep.1, f.ne, fun e => ?_⟩
  rcases h.row with q | ⟨b, q, hb⟩
  · rw [q] at e; exact f.row e
  · rw [q] at e; injection e with e; have := f.lt; omega
theorem WrStep.blk {B : Nat} {w w1 : World} {g k : Nat} {v v1 : Value} {o : Obj} (h : WrStep B w w1 g v v1) (f : WrFar w g v k) (hb : w.heap[k]? = some o) : w1.heap[k]? = some o := (h.keep.2 k f.lt f.ne f.row).trans hb
/-- What was made behind the writer's world is far. -/
theorem IsWr.far_new {B : Nat} {w w1 : World} {g k : Nat} {v : Value} {bs : List Int} {m : Int} (h : IsWr B w g v bs m) (hk : w.heap.size ≤ k) (hl : k < w1.heap.size) : WrFar w1 g v k :=
  ⟨hl, fun e => by have := h.lt; omega, fun e => by have := h.own_lt k e.symm; omega⟩
theorem WrFar.below {w w1 : World} {g k : Nat} {v : Value} (f : WrFar w g v k) (hs : w.heap.size ≤ w1.heap.size) : WrFar w1 g v k := ⟨Nat.lt_of_lt_of_le f.lt hs, f.ne, f.row⟩
/-- A row whose blocks are all far stays. -/
theorem WrStep.R {α : Type} {d : Kd α} {e : Nat} {B base : Nat} {w w1 : World} {g : Nat} {v v1 u : Value} {ok : Nat → Prop} {xs : List α} (h : WrStep B w w1 g v v1) (hr : d.R e w base ok u xs) (hf : ∀ k, base ≤ k → k < w.heap.size → WrFar w g v k) : d.R e w1 base ok u xs :=
  Kd.R_mono (Kd.R_step (Kd.R_bound hr) (fun k hk hl => by have f := hf k hk.2.1 hl; exact h.keep.2 k f.lt f.ne f.row)) (fun k hk => hk.1)

theorem none_no (g : Nat) (w : World) (h : w.cell? ⟨g, 2, none⟩ = some (.bool true)) : Calls Tryd.prog 49 #[.pointer (some ⟨g, 0, none⟩)] w fun e w' => e = .returned (.bool false) ∧ w = w' := by
  go_enter Tryd.func49, Tryd.ntmps49
  go_wp2
  go_ret
  exact ⟨rfl, rfl⟩
set_option maxHeartbeats 4000000 in
set_option maxRecDepth 100000 in
theorem put_u64.calls (B g : Nat) (v : Value) (bs : List Int) (m x : Int) (n : Nat) (w : World) (hI : IsWr B w g v bs m) (h1 : 1 ≤ n) (h8 : n ≤ 8) (hx : 0 ≤ x) (hroom : (bs.length : Int) + n ≤ m) (hm : m ≤ 1048576) :
    Calls Tryd.prog 45 #[.pointer (some ⟨g, 0, none⟩), .int .i64 n, .int .u64 x, .bool true] w fun e w' => e = .returned (.int .i64 0) ∧ WrPost B w g v (bs ++ beN n x) m w' := by
  obtain ⟨c0, c1, c2⟩ := hI.cell
  obtain ⟨A, c, rfl⟩ := Kd.R_slice hI.row
  have t1 : decide ((n : Int) < 1) = false := decide_eq_false (by omega)
  have t2 : decide ((8 : Int) < (n : Int)) = false := decide_eq_false (by omega)
  have t3 : decide (m - (bs.length : Int) < (n : Int)) = false := decide_eq_false (by omega)
  have HI := Aside0.mk hI
  clear hI
  go_enter Tryd.func45, Tryd.ntmps45
  go_wp2_with (go_at_call 49; refine (none_no g _ c2).mono ?_; rintro e w' ⟨rfl, rfl⟩)
  go_quiet (fail)
  go_wp2
  go_loopw [1] (fun vi wr => ∃ (j : Nat) (cur : List Int) (vr : Value), vi = .int .i64 ((j : Int) - 1) ∧ Aside0 (j ≤ n) ∧ Aside0 (cur ++ beN j x = bs ++ beN n x) ∧ Aside0 (IsWr B wr g vr cur m) ∧ Aside0 (WrStep B w wr g (.slice A bs.length c) vr)) (fun vi _ => (intOf vi + 1).toNat)
  case atStart => exact ⟨n, bs, _, rfl, ⟨Nat.le_refl _⟩, ⟨rfl⟩, ⟨HI.out.drewN _⟩, ⟨⟨pw_below_drewN (Below.refl _ _) _, ⟨Nat.le_refl _, fun _ _ _ _ => rfl⟩, .inl rfl⟩⟩⟩
  case round =>
    obtain ⟨j, cur, vr, rfl, HJ, HC, HR0, HS⟩ := hrel
    cases j with
    | zero =>
      have hz : decide ((0 : Int) ≤ ((0 : Nat) : Int) - 1) = false := by decide
      go_wp2
      go_ret
      exact ⟨rfl, _, by have h := HC.out; simp only [beN, List.append_nil] at h; rw [← h]; exact HR0.out, HS.out⟩
    | succ i =>
      have HI := HR0
      have HR := Aside0.mk HR0.out.row
      have HB := Aside0.mk HS.out.below
      have hi : i < 8 := by have := HJ.out; omega
      have hii : ((i + 1 : Nat) : Int) - 1 = (i : Int) := by omega
      rw [hii]
      clear hii
      have hge : decide ((0 : Int) ≤ (i : Int)) = true := decide_eq_true (by omega)
      have hw8 : wrap64 (8 * (i : Int)) = 8 * (i : Int) := by unfold wrap64; omega
      have hw0 : 0 ≤ 8 * (i : Int) := by omega
      have hw64 : 8 * (i : Int) ≤ 64 := by omega
      have hc0 : wr.cell? ⟨g, 0, none⟩ = some vr := HI.out.cell.1
      have HNE := Aside0.mk HI.out.ne
      have HL : Aside0 (cur.length ≤ 1048576) := ⟨by have h := congrArg List.length HC.out; simp [beN_length] at h; omega⟩
      go_wp2
      refine start_ (n := 15) (S := fun w' => w'.cell? ⟨g, 0, none⟩ = some vr) (ds := [14]) #[false, false, false, false, false, false, false, false, false, false, false, false, false, false, false] (by kernel_rfl) rfl rfl (hc0) (fun hHeld => ?_)
      refine pure_ (i := 0) (N := some 38) (v := ?_) (a' := ?_) #[true, false, false, false, false, false, false, false, false, false, false, false, false, false, false] rfl rfl (by kernel_rfl) (fun _ _ _ h => h) (Or.inl ⟨by rfl, ?_⟩) ?_ ?_
      rotate_left
      · intro w'
        go_simp
        with_reducible rfl
      rotate_left
      · simp only [Act.put, List.setIfInBounds_toArray, List.set_cons_zero, List.set_cons_succ, i64_w, i32_w]
        rfl
      refine pure_ (i := 1) (N := some 39) (v := ?_) (a' := ?_) #[true, true, false, false, false, false, false, false, false, false, false, false, false, false, false] rfl rfl (by kernel_rfl) (fun _ _ _ h => h) (Or.inl ⟨by rfl, ?_⟩) ?_ ?_
      rotate_left
      · intro w'
        go_simp
        with_reducible rfl
      rotate_left
      · simp only [Act.put, List.setIfInBounds_toArray, List.set_cons_zero, List.set_cons_succ, i64_w, i32_w]
        rfl
      refine pure_ (i := 2) (N := some 40) (v := ?_) (a' := ?_) #[true, true, true, false, false, false, false, false, false, false, false, false, false, false, false] rfl rfl (by kernel_rfl) (fun _ _ _ h => h) (Or.inl ⟨by rfl, ?_⟩) ?_ ?_
      rotate_left
      · intro w'
        go_simp
        with_reducible rfl
      rotate_left
      · simp only [Act.put, List.setIfInBounds_toArray, List.set_cons_zero, List.set_cons_succ, i64_w, i32_w]
        rfl
      refine pure_ (i := 3) (N := some 41) (v := ?_) (a' := ?_) #[true, true, true, true, false, false, false, false, false, false, false, false, false, false, false] rfl rfl (by kernel_rfl) (fun _ _ _ h => h) (Or.inl ⟨by rfl, ?_⟩) ?_ ?_
      rotate_left
      · intro w'
        go_simp
        with_reducible rfl
      rotate_left
      · simp only [Act.put, List.setIfInBounds_toArray, List.set_cons_zero, List.set_cons_succ, i64_w, i32_w]
        rfl
      refine pure_ (i := 5) (N := some 43) (v := ?_) (a' := ?_) #[true, true, true, true, false, true, false, false, false, false, false, false, false, false, false] rfl rfl (by kernel_rfl) (fun _ _ _ h => h) (Or.inl ⟨by rfl, ?_⟩) ?_ ?_
      rotate_left
      · intro w'
        go_simp
        with_reducible rfl
      rotate_left
      · simp only [Act.put, List.setIfInBounds_toArray, List.set_cons_zero, List.set_cons_succ, i64_w, i32_w]
        rfl
      refine pure_ (i := 6) (N := some 44) (v := ?_) (a' := ?_) #[true, true, true, true, false, true, true, false, false, false, false, false, false, false, false] rfl rfl (by kernel_rfl) (fun _ _ _ h => h) (Or.inl ⟨by rfl, ?_⟩) ?_ ?_
      rotate_left
      · intro w'
        go_simp
        with_reducible rfl
      rotate_left
      · simp only [Act.put, List.setIfInBounds_toArray, List.set_cons_zero, List.set_cons_succ, i64_w, i32_w]
        rfl
      refine pure_ (i := 7) (N := some 45) (v := ?_) (a' := ?_) #[true, true, true, true, false, true, true, true, false, false, false, false, false, false, false] rfl rfl (by kernel_rfl) (fun _ _ _ h => h) (Or.inl ⟨by rfl, ?_⟩) ?_ ?_
      rotate_left
      · intro w'
        go_simp
        with_reducible rfl
      rotate_left
      · simp only [Act.put, List.setIfInBounds_toArray, List.set_cons_zero, List.set_cons_succ, i64_w, i32_w]
        rfl
      refine pure_ (i := 8) (N := some 46) (v := ?_) (a' := ?_) #[true, true, true, true, false, true, true, true, true, false, false, false, false, false, false] rfl rfl (by kernel_rfl) (fun _ _ _ h => h) (Or.inl ⟨by rfl, ?_⟩) ?_ ?_
      rotate_left
      · intro w'
        go_simp
        with_reducible rfl
      rotate_left
      · simp only [Act.put, List.setIfInBounds_toArray, List.set_cons_zero, List.set_cons_succ, i64_w, i32_w]
        rfl
      refine pure_ (i := 9) (N := some 47) (v := ?_) (a' := ?_) #[true, true, true, true, false, true, true, true, true, true, false, false, false, false, false] rfl rfl (by kernel_rfl) (fun _ _ _ h => h) (Or.inl ⟨by rfl, ?_⟩) ?_ ?_
      rotate_left
      · intro w'
        go_simp
        with_reducible rfl
      rotate_left
      · simp only [Act.put, List.setIfInBounds_toArray, List.set_cons_zero, List.set_cons_succ, i64_w, i32_w]
        rfl
      refine take_ (i := 4) (N := some 42) (v := ?_) (a' := ?_) #[true, true, true, true, true, true, true, true, true, true, false, false, false, false, false] rfl rfl (by kernel_rfl) (fun _ _ _ h => h) (Or.inl ⟨by rfl, ?_⟩) hHeld ?_ ?_
      rotate_left
      · intro w' s0
        go_simp
        with_reducible rfl
      rotate_left
      · simp only [Act.put, List.setIfInBounds_toArray, List.set_cons_zero, List.set_cons_succ, i64_w, i32_w]
        rfl
      refine one_ (i := 10) (N := some 48) #[true, true, true, true, true, true, true, true, true, true, true, false, false, false, false] rfl rfl (by kernel_rfl) (by decide) (fun K hK => ?_)
      refine value_ (w1 := ?_) (v := ?_) (by rfl) rfl ?_ ?_
      rotate_left 2
      · go_simp
        constructor
        · rfl
        · rfl
      refine hK.out _ _ ((by first | exact pw_cell_below ((Below.refl _ _).alloc (Nat.le_refl _) _) hHeld)) (fun hHeld => ?_)
      clear hK K
      refine norm_ (a' := ?_) ?_ ?_
      rotate_left
      · show Act.put _ (some 48) _ = _
        simp only [Act.put, List.setIfInBounds_toArray, List.set_cons_zero, List.set_cons_succ, i64_w, i32_w]
        rfl
      refine one_ (i := 11) (N := some 49) #[true, true, true, true, true, true, true, true, true, true, true, true, false, false, false] rfl rfl (by kernel_rfl) (by decide) (fun K hK => ?_)
      refine Kd.R_append_step (Kd.int .u8) (w0 := w) B (by rfl) (.tmp 42) (.tmp 48) 34 5 (.int .u8 0) 1 (by rfl) Tryd.underlying34 info5 rfl (by decide) (by decide) vr cur (x / 2 ^ (8 * i) % 256) [.int .u8 (x / 2 ^ (8 * i) % 256)] (fun _ => True) (fun _ => False) (by rfl) (by rfl) rfl (fun _ h => h.elim) (fun _ _ => trivial) (Kd.R_drewN HR.out 1) (pw_below_drewN HB.out 1) (by have := HB.out.size; have := HI.out.ge; have := HI.out.lt; show B ≤ wr.heap.size; omega) (by have := HL.out; omega) ?_
      intro v1 w3 hR3 hB3 hg3 ho3
      have HR3 := Aside0.mk hR3
      have HB3 := Aside0.mk hB3
      have HG3 := Aside0.mk hg3
      have HO3 := Aside0.mk ho3
      have hbk3 := blk_grown (w := wr.drew) (show wr.drew.heap[g]? = some (.cells #[vr, .int .i64 m, .bool true] 98 (0, 0)) from HI.out.blk) hg3 HNE.out
      have hc3 : w3.cell? ⟨g, 0, none⟩ = some vr := (blk_cell hbk3 0).trans rfl
      have hf3 := blk_frozen hbk3 0
      have HBK3 := Aside0.mk hbk3
      obtain ⟨A1, cp1, hv1⟩ := Kd.R_slice hR3
      simp only [List.length_append, List.length_singleton] at hv1
      subst hv1
      clear hR3 hB3 hg3 ho3 hbk3
      refine hK.out _ _ (hc3) (fun hHeld => ?_)
      clear hK K
      refine norm_ (a' := ?_) ?_ ?_
      rotate_left
      · show Act.put _ (some 49) _ = _
        simp only [Act.put, List.setIfInBounds_toArray, List.set_cons_zero, List.set_cons_succ, i64_w, i32_w]
        rfl
      refine pure_ (i := 12) (N := some 50) (v := ?_) (a' := ?_) #[true, true, true, true, true, true, true, true, true, true, true, true, true, false, false] rfl rfl (by kernel_rfl) (fun _ _ _ h => h) (Or.inl ⟨by rfl, ?_⟩) ?_ ?_
      rotate_left
      · intro w'
        go_simp
        with_reducible rfl
      rotate_left
      · simp only [Act.put, List.setIfInBounds_toArray, List.set_cons_zero, List.set_cons_succ, i64_w, i32_w]
        rfl
      refine pure_ (i := 13) (N := some 51) (v := ?_) (a' := ?_) #[true, true, true, true, true, true, true, true, true, true, true, true, true, true, false] rfl rfl (by kernel_rfl) (fun _ _ _ h => h) (Or.inl ⟨by rfl, ?_⟩) ?_ ?_
      rotate_left
      · intro w'
        go_simp
        with_reducible rfl
      rotate_left
      · simp only [Act.put, List.setIfInBounds_toArray, List.set_cons_zero, List.set_cons_succ, i64_w, i32_w]
        rfl
      refine last_ (i := 14) (N := none) #[true, true, true, true, true, true, true, true, true, true, true, true, true, true, true] rfl rfl (by kernel_rfl) (by decide) (fun K hK => ?_)
      refine skip_ (w1 := ?_) (by rfl) rfl ?_ ?_
      rotate_left
      · go_simp
        rfl
      refine hK.out _ _ ?_
      clear hK K
      refine done_ (by kernel_rfl) ?_
      go_wp2
      go_roundw
      case measure => simp [intOf]
      case rel => exact ⟨i, cur ++ [x / 2 ^ (8 * i) % 256], _, rfl, ⟨by have := HJ.out; omega⟩, ⟨by rw [← HC.out, List.append_assoc]; rfl⟩, ⟨wr_put HI.out HBK3.out HR3.out⟩, ⟨wr_step (k := 1) HS.out HI.out HB3.out HG3.out HO3.out _⟩⟩
set_option maxHeartbeats 4000000 in
set_option maxRecDepth 100000 in
theorem put_i64.calls (B g : Nat) (v : Value) (bs : List Int) (m x : Int) (n : Nat) (w : World) (hI : IsWr B w g v bs m) (h1 : 1 ≤ n) (h8 : n ≤ 8) (hroom : (bs.length : Int) + n ≤ m) (hm : m ≤ 1048576) :
    Calls Tryd.prog 50 #[.pointer (some ⟨g, 0, none⟩), .int .i64 n, .int .i64 x, .bool true] w fun e w' => e = .returned (.int .i64 0) ∧ WrPost B w g v (bs ++ beN n x) m w' := by
  obtain ⟨c0, c1, c2⟩ := hI.cell
  obtain ⟨A, c, rfl⟩ := Kd.R_slice hI.row
  have t1 : decide ((n : Int) < 1) = false := decide_eq_false (by omega)
  have t2 : decide ((8 : Int) < (n : Int)) = false := decide_eq_false (by omega)
  have t3 : decide (m - (bs.length : Int) < (n : Int)) = false := decide_eq_false (by omega)
  have HI := Aside0.mk hI
  clear hI
  go_enter Tryd.func50, Tryd.ntmps50
  go_wp2_with (go_at_call 49; refine (none_no g _ c2).mono ?_; rintro e w' ⟨rfl, rfl⟩)
  go_quiet (fail)
  go_wp2
  go_loopw [1] (fun vi wr => ∃ (j : Nat) (cur : List Int) (vr : Value), vi = .int .i64 ((j : Int) - 1) ∧ Aside0 (j ≤ n) ∧ Aside0 (cur ++ beN j x = bs ++ beN n x) ∧ Aside0 (IsWr B wr g vr cur m) ∧ Aside0 (WrStep B w wr g (.slice A bs.length c) vr)) (fun vi _ => (intOf vi + 1).toNat)
  case atStart => exact ⟨n, bs, _, rfl, ⟨Nat.le_refl _⟩, ⟨rfl⟩, ⟨HI.out.drewN _⟩, ⟨⟨pw_below_drewN (Below.refl _ _) _, ⟨Nat.le_refl _, fun _ _ _ _ => rfl⟩, .inl rfl⟩⟩⟩
  case round =>
    obtain ⟨j, cur, vr, rfl, HJ, HC, HR0, HS⟩ := hrel
    cases j with
    | zero =>
      have hz : decide ((0 : Int) ≤ ((0 : Nat) : Int) - 1) = false := by decide
      go_wp2
      go_ret
      exact ⟨rfl, _, by have h := HC.out; simp only [beN, List.append_nil] at h; rw [← h]; exact HR0.out, HS.out⟩
    | succ i =>
      have HI := HR0
      have HR := Aside0.mk HR0.out.row
      have HB := Aside0.mk HS.out.below
      have hi : i < 8 := by have := HJ.out; omega
      have hii : ((i + 1 : Nat) : Int) - 1 = (i : Int) := by omega
      rw [hii]
      clear hii
      have hge : decide ((0 : Int) ≤ (i : Int)) = true := decide_eq_true (by omega)
      have hw8 : wrap64 (8 * (i : Int)) = 8 * (i : Int) := by unfold wrap64; omega
      have hw0 : 0 ≤ 8 * (i : Int) := by omega
      have hw64 : 8 * (i : Int) ≤ 64 := by omega
      have hc0 : wr.cell? ⟨g, 0, none⟩ = some vr := HI.out.cell.1
      have HNE := Aside0.mk HI.out.ne
      have HL : Aside0 (cur.length ≤ 1048576) := ⟨by have h := congrArg List.length HC.out; simp [beN_length] at h; omega⟩
      go_wp2
      refine start_ (n := 15) (S := fun w' => w'.cell? ⟨g, 0, none⟩ = some vr) (ds := [14]) #[false, false, false, false, false, false, false, false, false, false, false, false, false, false, false] (by kernel_rfl) rfl rfl (hc0) (fun hHeld => ?_)
      refine pure_ (i := 0) (N := some 38) (v := ?_) (a' := ?_) #[true, false, false, false, false, false, false, false, false, false, false, false, false, false, false] rfl rfl (by kernel_rfl) (fun _ _ _ h => h) (Or.inl ⟨by rfl, ?_⟩) ?_ ?_
      rotate_left
      · intro w'
        go_simp
        with_reducible rfl
      rotate_left
      · simp only [Act.put, List.setIfInBounds_toArray, List.set_cons_zero, List.set_cons_succ, i64_w, i32_w]
        rfl
      refine pure_ (i := 1) (N := some 39) (v := ?_) (a' := ?_) #[true, true, false, false, false, false, false, false, false, false, false, false, false, false, false] rfl rfl (by kernel_rfl) (fun _ _ _ h => h) (Or.inl ⟨by rfl, ?_⟩) ?_ ?_
      rotate_left
      · intro w'
        go_simp
        with_reducible rfl
      rotate_left
      · simp only [Act.put, List.setIfInBounds_toArray, List.set_cons_zero, List.set_cons_succ, i64_w, i32_w]
        rfl
      refine pure_ (i := 2) (N := some 40) (v := ?_) (a' := ?_) #[true, true, true, false, false, false, false, false, false, false, false, false, false, false, false] rfl rfl (by kernel_rfl) (fun _ _ _ h => h) (Or.inl ⟨by rfl, ?_⟩) ?_ ?_
      rotate_left
      · intro w'
        go_simp
        with_reducible rfl
      rotate_left
      · simp only [Act.put, List.setIfInBounds_toArray, List.set_cons_zero, List.set_cons_succ, i64_w, i32_w]
        rfl
      refine pure_ (i := 3) (N := some 41) (v := ?_) (a' := ?_) #[true, true, true, true, false, false, false, false, false, false, false, false, false, false, false] rfl rfl (by kernel_rfl) (fun _ _ _ h => h) (Or.inl ⟨by rfl, ?_⟩) ?_ ?_
      rotate_left
      · intro w'
        go_simp
        with_reducible rfl
      rotate_left
      · simp only [Act.put, List.setIfInBounds_toArray, List.set_cons_zero, List.set_cons_succ, i64_w, i32_w]
        rfl
      refine pure_ (i := 5) (N := some 43) (v := ?_) (a' := ?_) #[true, true, true, true, false, true, false, false, false, false, false, false, false, false, false] rfl rfl (by kernel_rfl) (fun _ _ _ h => h) (Or.inl ⟨by rfl, ?_⟩) ?_ ?_
      rotate_left
      · intro w'
        go_simp
        with_reducible rfl
      rotate_left
      · simp only [Act.put, List.setIfInBounds_toArray, List.set_cons_zero, List.set_cons_succ, i64_w, i32_w]
        rfl
      refine pure_ (i := 6) (N := some 44) (v := ?_) (a' := ?_) #[true, true, true, true, false, true, true, false, false, false, false, false, false, false, false] rfl rfl (by kernel_rfl) (fun _ _ _ h => h) (Or.inl ⟨by rfl, ?_⟩) ?_ ?_
      rotate_left
      · intro w'
        go_simp
        with_reducible rfl
      rotate_left
      · simp only [Act.put, List.setIfInBounds_toArray, List.set_cons_zero, List.set_cons_succ, i64_w, i32_w]
        rfl
      refine pure_ (i := 7) (N := some 45) (v := ?_) (a' := ?_) #[true, true, true, true, false, true, true, true, false, false, false, false, false, false, false] rfl rfl (by kernel_rfl) (fun _ _ _ h => h) (Or.inl ⟨by rfl, ?_⟩) ?_ ?_
      rotate_left
      · intro w'
        go_simp
        with_reducible rfl
      rotate_left
      · simp only [Act.put, List.setIfInBounds_toArray, List.set_cons_zero, List.set_cons_succ, i64_w, i32_w]
        rfl
      refine pure_ (i := 8) (N := some 46) (v := ?_) (a' := ?_) #[true, true, true, true, false, true, true, true, true, false, false, false, false, false, false] rfl rfl (by kernel_rfl) (fun _ _ _ h => h) (Or.inl ⟨by rfl, ?_⟩) ?_ ?_
      rotate_left
      · intro w'
        go_simp
        with_reducible rfl
      rotate_left
      · simp only [Act.put, List.setIfInBounds_toArray, List.set_cons_zero, List.set_cons_succ, i64_w, i32_w]
        rfl
      refine pure_ (i := 9) (N := some 47) (v := ?_) (a' := ?_) #[true, true, true, true, false, true, true, true, true, true, false, false, false, false, false] rfl rfl (by kernel_rfl) (fun _ _ _ h => h) (Or.inl ⟨by rfl, ?_⟩) ?_ ?_
      rotate_left
      · intro w'
        go_simp
        with_reducible rfl
      rotate_left
      · simp only [Act.put, List.setIfInBounds_toArray, List.set_cons_zero, List.set_cons_succ, i64_w, i32_w]
        rfl
      refine take_ (i := 4) (N := some 42) (v := ?_) (a' := ?_) #[true, true, true, true, true, true, true, true, true, true, false, false, false, false, false] rfl rfl (by kernel_rfl) (fun _ _ _ h => h) (Or.inl ⟨by rfl, ?_⟩) hHeld ?_ ?_
      rotate_left
      · intro w' s0
        go_simp
        with_reducible rfl
      rotate_left
      · simp only [Act.put, List.setIfInBounds_toArray, List.set_cons_zero, List.set_cons_succ, i64_w, i32_w]
        rfl
      refine one_ (i := 10) (N := some 48) #[true, true, true, true, true, true, true, true, true, true, true, false, false, false, false] rfl rfl (by kernel_rfl) (by decide) (fun K hK => ?_)
      refine value_ (w1 := ?_) (v := ?_) (by rfl) rfl ?_ ?_
      rotate_left 2
      · go_simp
        constructor
        · rfl
        · rfl
      refine hK.out _ _ ((by first | exact pw_cell_below ((Below.refl _ _).alloc (Nat.le_refl _) _) hHeld)) (fun hHeld => ?_)
      clear hK K
      refine norm_ (a' := ?_) ?_ ?_
      rotate_left
      · show Act.put _ (some 48) _ = _
        simp only [Act.put, List.setIfInBounds_toArray, List.set_cons_zero, List.set_cons_succ, i64_w, i32_w]
        rfl
      refine one_ (i := 11) (N := some 49) #[true, true, true, true, true, true, true, true, true, true, true, true, false, false, false] rfl rfl (by kernel_rfl) (by decide) (fun K hK => ?_)
      refine Kd.R_append_step (Kd.int .u8) (w0 := w) B (by rfl) (.tmp 42) (.tmp 48) 34 5 (.int .u8 0) 1 (by rfl) Tryd.underlying34 info5 rfl (by decide) (by decide) vr cur (x / 2 ^ (8 * i) % 256) [.int .u8 (x / 2 ^ (8 * i) % 256)] (fun _ => True) (fun _ => False) (by rfl) (by rfl) rfl (fun _ h => h.elim) (fun _ _ => trivial) (Kd.R_drewN HR.out 1) (pw_below_drewN HB.out 1) (by have := HB.out.size; have := HI.out.ge; have := HI.out.lt; show B ≤ wr.heap.size; omega) (by have := HL.out; omega) ?_
      intro v1 w3 hR3 hB3 hg3 ho3
      have HR3 := Aside0.mk hR3
      have HB3 := Aside0.mk hB3
      have HG3 := Aside0.mk hg3
      have HO3 := Aside0.mk ho3
      have hbk3 := blk_grown (w := wr.drew) (show wr.drew.heap[g]? = some (.cells #[vr, .int .i64 m, .bool true] 98 (0, 0)) from HI.out.blk) hg3 HNE.out
      have hc3 : w3.cell? ⟨g, 0, none⟩ = some vr := (blk_cell hbk3 0).trans rfl
      have hf3 := blk_frozen hbk3 0
      have HBK3 := Aside0.mk hbk3
      obtain ⟨A1, cp1, hv1⟩ := Kd.R_slice hR3
      simp only [List.length_append, List.length_singleton] at hv1
      subst hv1
      clear hR3 hB3 hg3 ho3 hbk3
      refine hK.out _ _ (hc3) (fun hHeld => ?_)
      clear hK K
      refine norm_ (a' := ?_) ?_ ?_
      rotate_left
      · show Act.put _ (some 49) _ = _
        simp only [Act.put, List.setIfInBounds_toArray, List.set_cons_zero, List.set_cons_succ, i64_w, i32_w]
        rfl
      refine pure_ (i := 12) (N := some 50) (v := ?_) (a' := ?_) #[true, true, true, true, true, true, true, true, true, true, true, true, true, false, false] rfl rfl (by kernel_rfl) (fun _ _ _ h => h) (Or.inl ⟨by rfl, ?_⟩) ?_ ?_
      rotate_left
      · intro w'
        go_simp
        with_reducible rfl
      rotate_left
      · simp only [Act.put, List.setIfInBounds_toArray, List.set_cons_zero, List.set_cons_succ, i64_w, i32_w]
        rfl
      refine pure_ (i := 13) (N := some 51) (v := ?_) (a' := ?_) #[true, true, true, true, true, true, true, true, true, true, true, true, true, true, false] rfl rfl (by kernel_rfl) (fun _ _ _ h => h) (Or.inl ⟨by rfl, ?_⟩) ?_ ?_
      rotate_left
      · intro w'
        go_simp
        with_reducible rfl
      rotate_left
      · simp only [Act.put, List.setIfInBounds_toArray, List.set_cons_zero, List.set_cons_succ, i64_w, i32_w]
        rfl
      refine last_ (i := 14) (N := none) #[true, true, true, true, true, true, true, true, true, true, true, true, true, true, true] rfl rfl (by kernel_rfl) (by decide) (fun K hK => ?_)
      refine skip_ (w1 := ?_) (by rfl) rfl ?_ ?_
      rotate_left
      · go_simp
        rfl
      refine hK.out _ _ ?_
      clear hK K
      refine done_ (by kernel_rfl) ?_
      go_wp2
      go_roundw
      case measure => simp [intOf]
      case rel => exact ⟨i, cur ++ [x / 2 ^ (8 * i) % 256], _, rfl, ⟨by have := HJ.out; omega⟩, ⟨by rw [← HC.out, List.append_assoc]; rfl⟩, ⟨wr_put HI.out HBK3.out HR3.out⟩, ⟨wr_step (k := 1) HS.out HI.out HB3.out HG3.out HO3.out _⟩⟩
theorem shr_zero {x : Int} {n : Nat} (h0 : 0 ≤ x) (h : x < 2 ^ (8 * n)) : x / 2 ^ (8 * n) = 0 := Int.ediv_eq_zero_of_lt h0 h
set_option maxHeartbeats 4000000 in
set_option maxRecDepth 100000 in
theorem wr_Uint.calls (B g : Nat) (v : Value) (bs : List Int) (m x : Int) (n : Nat) (w : World) (hI : IsWr B w g v bs m) (h1 : 1 ≤ n) (h8 : n ≤ 8) (hx : 0 ≤ x) (hx2 : x < 2 ^ (8 * n)) (hroom : (bs.length : Int) + n ≤ m) (hm : m ≤ 1048576) :
    Calls Tryd.prog 24 #[.pointer (some ⟨g, 0, none⟩), .int .i64 n, .int .u64 x] w fun e w' => e = .returned (.int .i64 0) ∧ WrPost B w g v (bs ++ beN n x) m w' := by
  have t1 : decide ((n : Int) < 1) = false := decide_eq_false (by omega)
  have HC := Aside0.mk (put_u64.calls B g v bs m x n w hI h1 h8 hx hroom hm)
  by_cases h7 : n = 8
  · have t2 : decide ((7 : Int) < (n : Int)) = true := decide_eq_true (by omega)
    clear hx2 hI h7
    go_enter Tryd.func24, Tryd.ntmps24
    go_wp2_with fail
    with_reducible refine HC.out.mono ?_
    rintro e w' ⟨rfl, hp⟩
    have HP := Aside0.mk hp
    clear hp
    go_wp2
    go_ret
    exact ⟨rfl, HP.out⟩
  · have t2 : decide ((7 : Int) < (n : Int)) = false := decide_eq_false (by omega)
    have hw8 : wrap64 (8 * (n : Int)) = 8 * (n : Int) := by unfold wrap64; omega
    have hw0 : 0 ≤ 8 * (n : Int) := by omega
    have hw64 : 8 * (n : Int) ≤ 64 := by omega
    have hz : (x / 2 ^ (8 * n) == 0) = true := beq_iff_eq.mpr (shr_zero hx hx2)
    clear hx2 hI h7
    go_enter Tryd.func24, Tryd.ntmps24
    go_wp2_with fail
    with_reducible refine HC.out.mono ?_
    rintro e w' ⟨rfl, hp⟩
    have HP := Aside0.mk hp
    clear hp
    go_wp2
    go_ret
    exact ⟨rfl, HP.out⟩
set_option maxHeartbeats 4000000 in
set_option maxRecDepth 100000 in
theorem wr_Int.calls (B g : Nat) (v : Value) (bs : List Int) (m x : Int) (n : Nat) (w : World) (hI : IsWr B w g v bs m) (h1 : 1 ≤ n) (h8 : n ≤ 8) (hx : n ≤ 7 → x / 2 ^ (8 * n - 1) = 0 ∨ x / 2 ^ (8 * n - 1) = -1) (hroom : (bs.length : Int) + n ≤ m) (hm : m ≤ 1048576) :
    Calls Tryd.prog 27 #[.pointer (some ⟨g, 0, none⟩), .int .i64 n, .int .i64 x] w fun e w' => e = .returned (.int .i64 0) ∧ WrPost B w g v (bs ++ beN n x) m w' := by
  have t1 : decide ((1 : Int) ≤ (n : Int)) = true := decide_eq_true (by omega)
  have HC := Aside0.mk (put_i64.calls B g v bs m x n w hI h1 h8 hroom hm)
  by_cases h7 : n = 8
  · have t2 : decide ((n : Int) ≤ 7) = false := decide_eq_false (by omega)
    clear hx hI h7
    go_enter Tryd.func27, Tryd.ntmps27
    go_wp2_with fail
    with_reducible refine HC.out.mono ?_
    rintro e w' ⟨rfl, hp⟩
    have HP := Aside0.mk hp
    clear hp
    go_wp2
    go_ret
    exact ⟨rfl, HP.out⟩
  · have t2 : decide ((n : Int) ≤ 7) = true := decide_eq_true (by omega)
    have hw8 : wrap64 (8 * (n : Int)) = 8 * (n : Int) := by unfold wrap64; omega
    have hw9 : wrap64 (8 * (n : Int) - 1) = 8 * (n : Int) - 1 := by unfold wrap64; omega
    have hw0 : 0 ≤ 8 * (n : Int) - 1 := by omega
    have hw1 : 1 ≤ 8 * (n : Int) := by omega
    have hw64 : 8 * (n : Int) - 1 ≤ 64 := by omega
    have hx' := hx (by omega)
    obtain ⟨y, hy⟩ : ∃ y, y = x / 2 ^ (8 * n - 1) := ⟨_, rfl⟩
    rw [← hy] at hx'
    have hy' : x / 2 ^ (8 * n - 1) = y := hy.symm
    clear hx hI h7 hy
    rcases hx' with h0 | h0
    · have e1 : (y == 0) = true := beq_iff_eq.mpr h0
      clear h0
      go_enter Tryd.func27, Tryd.ntmps27
      go_wp2_with fail
      with_reducible refine HC.out.mono ?_
      rintro e w' ⟨rfl, hp⟩
      have HP := Aside0.mk hp
      clear hp
      go_wp2
      go_ret
      exact ⟨rfl, HP.out⟩
    · have e1 : (y == 0) = false := beq_eq_false_iff_ne.mpr (by omega)
      have e2 : (y == -1) = true := beq_iff_eq.mpr h0
      clear h0
      go_enter Tryd.func27, Tryd.ntmps27
      go_wp2_with fail
      with_reducible refine HC.out.mono ?_
      rintro e w' ⟨rfl, hp⟩
      have HP := Aside0.mk hp
      clear hp
      go_wp2
      go_ret
      exact ⟨rfl, HP.out⟩
set_option maxHeartbeats 4000000 in
set_option maxRecDepth 100000 in
theorem wr_Bytes.calls (B g : Nat) (v : Value) (bs ys : List Int) (m : Int) (A : Option Addr) (c : Nat) (w : World) (hI : IsWr B w g v bs m) (hy : (Kd.int .u8).C w A ys.length ys) (hroom : (bs.length : Int) + ys.length ≤ m) (hm : m ≤ 1048576) :
    Calls Tryd.prog 26 #[.pointer (some ⟨g, 0, none⟩), .slice A ys.length c] w fun e w' => e = .returned (.int .i64 0) ∧ WrPost B w g v (bs ++ ys) m w' := by
  obtain ⟨c0, c1, c2⟩ := hI.cell
  obtain ⟨A0, cp0, rfl⟩ := Kd.R_slice hI.row
  have t3 : decide (m - (bs.length : Int) < (ys.length : Int)) = false := decide_eq_false (by omega)
  have HI := Aside0.mk hI
  have HY := Aside0.mk hy
  have HL : Aside0 (bs.length + ys.length ≤ 1048576) := ⟨by omega⟩
  have HNE := Aside0.mk hI.ne
  clear hI hy
  go_enter Tryd.func26, Tryd.ntmps26
  go_wp2_with (go_at_call 49; refine (none_no g _ c2).mono ?_; rintro e w' ⟨rfl, rfl⟩)
  go_quiet (fail)
  go_wp2_with (at_builtin; refine Kd.R_append_row (Value.int .u8) (0 : Int) (w0 := w) B rfl _ _ 34 5 (.int .u8 0) 1 rfl Tryd.underlying34 info5 rfl (by decide) _ bs ys A ys.length c (fun _ => True) rfl rfl (fun _ _ => trivial) (HI.out.drewN _).row (Kd.C_below HY.out (pw_below_drewN (Below.refl _ _) _)) (pw_below_drewN (Below.refl _ _) _) ?c5 ?c6 ?_)
  case c5 => have := HI.out.ge; have := HI.out.lt; show B ≤ w.heap.size; omega
  case c6 => have := HL.out; omega
  intro v1 w3 hR3 hB3 hg3 ho3
  have HR3 := Aside0.mk hR3
  have HB3 := Aside0.mk hB3
  have HG3 := Aside0.mk hg3
  have HO3 := Aside0.mk ho3
  have hbk3 := blk_grown (w := w.drewN nq) (show (w.drewN nq).heap[g]? = some (.cells #[_, .int .i64 m, .bool true] 98 (0, 0)) from HI.out.blk) hg3 HNE.out
  have hc3 := (blk_cell hbk3 0).trans rfl
  have hf3 := blk_frozen hbk3 0
  have HBK3 := Aside0.mk hbk3
  obtain ⟨A1, cp1, hv1⟩ := Kd.R_slice hR3
  simp only [List.length_append] at hv1
  subst hv1
  clear hR3 hB3 hg3 ho3 hbk3
  go_wp2
  go_ret
  exact ⟨rfl, _, wr_put HI.out HBK3.out HR3.out, wr_step (WrStep.refl B w g _) HI.out HB3.out HG3.out HO3.out _⟩
set_option maxHeartbeats 4000000 in
set_option maxRecDepth 100000 in
theorem wr_Out.calls (B g : Nat) (v : Value) (bs : List Int) (m : Int) (w : World) (hI : IsWr B w g v bs m) (hroom : bs.length ≤ 1048576) :
    Calls Tryd.prog 28 #[.pointer (some ⟨g, 0, none⟩)] w fun e w' => ∃ v0_ : Value, e = .returned v0_ ∧ Kd.R (Kd.int .u8) 5 w' w.heap.size (fun _ => True) v0_ bs ∧ Below w.heap.size w w' := by
  obtain ⟨c0, c1, c2⟩ := hI.cell
  obtain ⟨A0, cp0, rfl, hcp, hC⟩ := Kd.R_reads hI.row
  have HC := Aside0.mk hC
  clear hI hC
  go_enter Tryd.func28, Tryd.ntmps28
  go_wp2_with (first | (go_at_call 49; refine (none_no g _ c2).mono ?_; rintro e w' ⟨rfl, rfl⟩) | (at_builtin; refine Kd.R_append_row (Value.int .u8) (0 : Int) (w0 := w) w.heap.size rfl _ _ 34 5 (.int .u8 0) 1 rfl Tryd.underlying34 info5 rfl (by decide) (.slice none 0 0) [] bs A0 bs.length cp0 (fun _ => True) rfl rfl (fun _ _ => trivial) (Kd.R_nil _ _ _ _ _) HC.out (Below.refl _ _) (Nat.le_refl _) ?c6 ?_))
  case c6 => simp only [List.length_nil]; omega
  intro v1 w3 hR3 hB3 hg3 ho3
  have HR3 := Aside0.mk hR3
  have HB3 := Aside0.mk hB3
  clear hR3 hB3 hg3 ho3
  go_wp2
  go_ret
  exact ⟨_, rfl, HR3.out, HB3.out⟩
set_option maxHeartbeats 4000000 in
set_option maxRecDepth 100000 in
theorem wr_New.calls (m : Int) (w : World) (h0 : 0 ≤ m) (h1 : m ≤ 1048576) :
    Calls Tryd.prog 23 #[.int .i64 m] w fun e w' => e = .returned (.tuple #[.pointer (some ⟨w.heap.size, 0, none⟩), .int .i64 0]) ∧ IsWr w.heap.size w' w.heap.size (.slice none 0 0) [] m ∧ Below w.heap.size w w' := by
  have t1 : decide (m < 0) = false := decide_eq_false (by omega)
  have t2 : decide (1048576 < m) = false := decide_eq_false (by omega)
  go_enter Tryd.func23, Tryd.ntmps23
  go_wp2
  go_ret2
  refine ⟨rfl, ⟨Nat.le_refl _, blk_new _ _, Kd.R_nil _ _ _ _ _⟩, below_alloc (Below.refl _ _) _⟩
end Go.Proofs.YtglnhkgodgjepaaDoor.Px
