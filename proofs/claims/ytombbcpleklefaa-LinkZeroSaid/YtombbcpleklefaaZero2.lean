/- built, Built, Main of a program that nobody made. -/
import Derived.Test.YtombbcpleklefaaZero1
import Derived.Deep.DeepAppendWide
namespace Go.Proofs.Ytombbcpleklefaa.Px
open Go.RowKit Go.Proofs.YtombbcpleklefaaW.PrintWords Go.Proofs.YtombbcpleklefaaW.PrintLast Go.Proofs.YtombbcpleklefaaW.PrintMore
set_option linter.unusedVariables false
set_option linter.unusedSimpArgs false

section
variable {P : Program} {ops : Array Oper} {rest : List Oper} {o : Oper} {a : Act} {Q : Exit → Act → World → Prop}
theorem slice_event {W : World} (hgd : o.guard = none) {N : Tmp} (_hd : o.dst = some N) {cs : Array Value} {t n : Nat}
    (hrun : (execOp a.eval o).run P W = .ok (.value (.slice (some ⟨W.heap.size, 0, none⟩) n n)) (W.alloc (.cells cs t (0, 0))))
    (h : ∀ g, g = W.heap.size → ∀ w1, w1.heap[g]? = some (.cells cs t (0, 0)) → Below W.heap.size W w1 → wpList P ops Q rest (a.put o.dst (.slice (some ⟨g, 0, none⟩) n n)) w1) : wpList P ops Q (o :: rest) a W :=
  Kd.event_run hgd hrun (h _ rfl _ (blk_new W _) (below_alloc (Below.refl _ _) _))
theorem own_below {W W1 : World} {base n e size : Nat} {v : Value} {xs : List Value} (h : W.ownsRow base e size v n xs) (hb : Below W.heap.size W W1) : W1.ownsRow base e size v n xs := by
  refine ⟨h.1, ?_⟩
  rcases h.2 with h1 | ⟨g, cap, cur, rfl, h2, h3, h4⟩
  · exact Or.inl h1
  · exact Or.inr ⟨g, cap, cur, rfl, h2, blk_below h3 hb, h4⟩
theorem info61 : (Try.prog.info? 61).map (fun i => (i.zero, i.size, i.bytes)) = some (some .nilIface, 1, 16) := by kernel_rfl
theorem app_event {ops : Array Oper} {rest : List Oper} {o : Oper} {a : Act} {Q : Exit → Act → World → Prop} {w0 W : World} {base q : Nat} {cq : Array Value} (hgd : o.guard = none) (S X : Tmp) (ho : o.op = .call { callee := .builtin .append, args := #[.tmp S, .tmp X], argTypes := #[83, 83] })
    (v : Value) (n : Nat) (xs : List Value) (hs : a.eval (.tmp S) = v) (hown : W.ownsRow base 61 1 v n xs) (g : Nat) (u : Value) (hx : a.eval (.tmp X) = .slice (some ⟨g, 0, none⟩) 1 1) (hc : W.heap[g]? = some (.cells #[u] 61 (0, 0))) (h1 : u.oneCell' = true) (hn : n ≤ 100) (HB : Below base w0 W) (hbase : base ≤ W.heap.size) (hq : W.heap[q]? = some (.cells cq 67 (0, 0)))
    (h : ∀ v' w' xs', w'.ownsRow base 61 1 v' (n + 1) xs' → Below base w0 w' → w'.heap[q]? = some (.cells cq 67 (0, 0)) → wpList Try.prog ops Q rest (a.put o.dst v') w') : wpList Try.prog ops Q (o :: rest) a W := by
  obtain ⟨i0, hi, hzz⟩ := Option.map_eq_some_iff.1 info61
  simp only [Prod.mk.injEq] at hzz
  obtain ⟨hz, hsz, hby⟩ := hzz
  refine wpList_append_own_wide W hgd (.tmp S) (.tmp X) 83 ho base 61 i0 .nilIface 1 16 Try.underlying83 hi hz hsz hby rfl (by decide) v n xs hs hown ⟨g, 0, none⟩ 1 1 [u] hx rfl ?_ (fun x hx => by simp only [List.mem_singleton] at hx; subst hx; exact h1) (by simp only [maxLen]; omega) (by omega) hbase ?_
  · intro j x hj
    match j, hj with
    | 0, hj =>
      simp only [List.getElem?_cons_zero] at hj
      cases hj
      exact (blk_cell hc 0).trans rfl
    | j + 1, hj => simp at hj
  · intro v' w' h2 h3 h4
    have hlt := hown.lt
    refine h v' w' _ h2 (HB.grown h3 hbase (fun k hk => (hlt k hk).1)) (blk_grown hq h3 ?_)
    intro e
    rcases hown.2 with ⟨rfl, _⟩ | ⟨g', cap, cur, rfl, _, hg', _⟩
    · cases e
    · have : q = g' := by simpa [Value.ownBlock] using e
      subst this
      rw [hq] at hg'
      cases hg'
end

set_option maxHeartbeats 4000000 in
set_option maxRecDepth 100000 in
theorem built_calls (w : World) : Calls Try.prog 27 #[] w fun e w' => ∃ v n xs, e = .returned v ∧ World.ownsRow w' w.heap.size 61 1 v n xs ∧ n ≤ 13 ∧ Below w.heap.size w w' := by
  have HB0 := Aside0.mk (Below.refl w.heap.size w)
  go_enter Try.func27, Try.ntmps27
  go_wp2_with (first | ((with_reducible refine gate_dst (N := 1) rfl ?_); refine box_event ?hg (N := 1) ?hd (cs := #[.string (⟨#[]⟩ : ByteArray), .string (⟨#[]⟩ : ByteArray), .bool false]) (t := 67) ?hr ?_; (case hd => rfl); (case hg => rfl); (case hr => first | (go_simp; done) | (go_simp; rfl)); intro gb hg w1 hbox hb; have BKgb := Aside0.mk hbox; have GEgb := Aside0.mk (show w.heap.size ≤ gb from by rw [hg]; exact HB0.out.size); have HB1 := Aside0.mk (below_step HB0.out hb); have STgb := Aside0.mk hb; have hzgb_0 : w1.cell? ⟨gb, 0, none⟩ = some (.string (⟨#[]⟩ : ByteArray)) := (blk_cell BKgb.out 0).trans rfl; have hfgb_0 := blk_frozen BKgb.out 0; have hzgb_1 : w1.cell? ⟨gb, 1, none⟩ = some (.string (⟨#[]⟩ : ByteArray)) := (blk_cell BKgb.out 1).trans rfl; have hfgb_1 := blk_frozen BKgb.out 1; have hzgb_2 : w1.cell? ⟨gb, 2, none⟩ = some (.bool false) := (blk_cell BKgb.out 2).trans rfl; have hfgb_2 := blk_frozen BKgb.out 2; clear hbox hb hg) | ((with_reducible refine gate_store (t := 67) (p := 1) rfl ?_); refine store_event (t := 67) (p := 1) (v := ?vo_) (w1 := (((w1.setCell ⟨gb, 0, none⟩ (.string (⟨#[60, 105, 110, 105, 116, 62]⟩ : ByteArray))).setCell ⟨gb, 1, none⟩ (.string (⟨#[40, 41, 86]⟩ : ByteArray))).setCell ⟨gb, 2, none⟩ (.bool false))) ?hg ?ho ?hn ?hr ?_; (case ho => rfl); (case hg => rfl); (case hn => rfl); (case hr => first | (go_simp; done) | (go_simp; rfl)); intro w2 hw; have BKgbb := Aside0.mk (show w2.heap[gb]? = some (.cells #[.string (⟨#[60, 105, 110, 105, 116, 62]⟩ : ByteArray), .string (⟨#[40, 41, 86]⟩ : ByteArray), .bool false] 67 (0, 0)) from by rw [hw]; refine blk_put (cs := #[.string (⟨#[60, 105, 110, 105, 116, 62]⟩ : ByteArray), .string (⟨#[40, 41, 86]⟩ : ByteArray), .bool false]) ?_ 2 _ rfl; refine blk_put (cs := #[.string (⟨#[60, 105, 110, 105, 116, 62]⟩ : ByteArray), .string (⟨#[]⟩ : ByteArray), .bool false]) ?_ 1 _ rfl; refine blk_put (cs := #[.string (⟨#[]⟩ : ByteArray), .string (⟨#[]⟩ : ByteArray), .bool false]) ?_ 0 _ rfl; exact BKgb.out); have HB2 := Aside0.mk (show Below w.heap.size w w2 from by rw [hw]; refine below_set ?_ GEgb.out; refine below_set ?_ GEgb.out; refine below_set ?_ GEgb.out; exact HB1.out); clear hw; have hqa_0 : w2.cell? ⟨gb, 0, none⟩ = some (.string (⟨#[60, 105, 110, 105, 116, 62]⟩ : ByteArray)) := (blk_cell BKgbb.out 0).trans rfl; have hqa_1 : w2.cell? ⟨gb, 1, none⟩ = some (.string (⟨#[40, 41, 86]⟩ : ByteArray)) := (blk_cell BKgbb.out 1).trans rfl; have hqa_2 : w2.cell? ⟨gb, 2, none⟩ = some (.bool false) := (blk_cell BKgbb.out 2).trans rfl) | ((with_reducible refine gate_dst (N := 10) rfl ?_); refine slice_event ?hg (N := 10) ?hd (n := 4) (cs := ?cs10) (t := 67) ?hr ?_; (case hd => rfl); (case hg => rfl); (case hr => first | (go_simp; rfl) | (go_simp; done)); intro g10 hg w3 hbox hb; have HB3 := Aside0.mk (below_step HB2.out hb); have BK3 := Aside0.mk (blk_below BKgbb.out hb); have hq10_0 : w3.cell? ⟨gb, 0, none⟩ = some (.string (⟨#[60, 105, 110, 105, 116, 62]⟩ : ByteArray)) := (blk_cell BK3.out 0).trans rfl; have hq10_1 : w3.cell? ⟨gb, 1, none⟩ = some (.string (⟨#[40, 41, 86]⟩ : ByteArray)) := (blk_cell BK3.out 1).trans rfl; have hq10_2 : w3.cell? ⟨gb, 2, none⟩ = some (.bool false) := (blk_cell BK3.out 2).trans rfl; clear hbox hb hg) | ((with_reducible refine gate_dst (N := 14) rfl ?_); refine slice_event ?hg (N := 14) ?hd (n := 1) (cs := ?cs14) (t := 67) ?hr ?_; (case hd => rfl); (case hg => rfl); (case hr => first | (go_simp; rfl) | (go_simp; done)); intro g14 hg w4 hbox hb; have HB4 := Aside0.mk (below_step HB3.out hb); have BK4 := Aside0.mk (blk_below BK3.out hb); have hq14_0 : w4.cell? ⟨gb, 0, none⟩ = some (.string (⟨#[60, 105, 110, 105, 116, 62]⟩ : ByteArray)) := (blk_cell BK4.out 0).trans rfl; have hq14_1 : w4.cell? ⟨gb, 1, none⟩ = some (.string (⟨#[40, 41, 86]⟩ : ByteArray)) := (blk_cell BK4.out 1).trans rfl; have hq14_2 : w4.cell? ⟨gb, 2, none⟩ = some (.bool false) := (blk_cell BK4.out 2).trans rfl; clear hbox hb hg) | ((with_reducible refine gate_dst (N := 21) rfl ?_); refine slice_event ?hg (N := 21) ?hd (n := 4) (cs := ?cs21) (t := 67) ?hr ?_; (case hd => rfl); (case hg => rfl); (case hr => first | (go_simp; rfl) | (go_simp; done)); intro g21 hg w5 hbox hb; have HB5 := Aside0.mk (below_step HB4.out hb); have BK5 := Aside0.mk (blk_below BK4.out hb); have hq21_0 : w5.cell? ⟨gb, 0, none⟩ = some (.string (⟨#[60, 105, 110, 105, 116, 62]⟩ : ByteArray)) := (blk_cell BK5.out 0).trans rfl; have hq21_1 : w5.cell? ⟨gb, 1, none⟩ = some (.string (⟨#[40, 41, 86]⟩ : ByteArray)) := (blk_cell BK5.out 1).trans rfl; have hq21_2 : w5.cell? ⟨gb, 2, none⟩ = some (.bool false) := (blk_cell BK5.out 2).trans rfl; clear hbox hb hg) | ((with_reducible refine gate_dst (N := 27) rfl ?_); refine slice_event ?hg (N := 27) ?hd (n := 3) (cs := ?cs27) (t := 67) ?hr ?_; (case hd => rfl); (case hg => rfl); (case hr => first | (go_simp; rfl) | (go_simp; done)); intro g27 hg w6 hbox hb; have HB6 := Aside0.mk (below_step HB5.out hb); have BK6 := Aside0.mk (blk_below BK5.out hb); have hq27_0 : w6.cell? ⟨gb, 0, none⟩ = some (.string (⟨#[60, 105, 110, 105, 116, 62]⟩ : ByteArray)) := (blk_cell BK6.out 0).trans rfl; have hq27_1 : w6.cell? ⟨gb, 1, none⟩ = some (.string (⟨#[40, 41, 86]⟩ : ByteArray)) := (blk_cell BK6.out 1).trans rfl; have hq27_2 : w6.cell? ⟨gb, 2, none⟩ = some (.bool false) := (blk_cell BK6.out 2).trans rfl; clear hbox hb hg) | ((with_reducible refine gate_dst (N := 30) rfl ?_); refine slice_event ?hg (N := 30) ?hd (n := 4) (cs := ?cs30) (t := 61) ?hr ?_; (case hd => rfl); (case hg => rfl); (case hr => first | (go_simp; rfl) | (go_simp; done)); intro g30 hg w7 hbox hb; have HB7 := Aside0.mk (below_step HB6.out hb); have BK7 := Aside0.mk (blk_below BK6.out hb); have hq30_0 : w7.cell? ⟨gb, 0, none⟩ = some (.string (⟨#[60, 105, 110, 105, 116, 62]⟩ : ByteArray)) := (blk_cell BK7.out 0).trans rfl; have hq30_1 : w7.cell? ⟨gb, 1, none⟩ = some (.string (⟨#[40, 41, 86]⟩ : ByteArray)) := (blk_cell BK7.out 1).trans rfl; have hq30_2 : w7.cell? ⟨gb, 2, none⟩ = some (.bool false) := (blk_cell BK7.out 2).trans rfl; have SR := Aside0.mk hbox; have GE30 := Aside0.mk (show w.heap.size ≤ g30 from by rw [hg]; exact HB6.out.size); clear hbox hb hg))
  go_loopg [2, 32] 10 (fun kq v2 v32 wr => ∃ (i : Int) (n : Nat) (xs : List Value), v32 = .int .i64 i ∧ Aside0 (World.ownsRow wr w.heap.size 61 1 v2 n xs) ∧ Aside0 ((n : Int) = 4 + i) ∧ Aside0 ((kq : Int) + i = 10) ∧ Aside0 (0 ≤ i ∧ i ≤ 9) ∧ Aside0 (wr.heap[gb]? = some (.cells #[.string (⟨#[60, 105, 110, 105, 116, 62]⟩ : ByteArray), .string (⟨#[40, 41, 86]⟩ : ByteArray), .bool false] 67 (0, 0))) ∧ Aside0 (Below w.heap.size w wr))
  case atStart => exact ⟨0, 4, _, rfl, ⟨⟨by rfl, Or.inr ⟨g30, 4, _, rfl, GE30.out, SR.out, Nat.le_refl _, by decide, by rfl, rfl⟩⟩⟩, ⟨rfl⟩, ⟨rfl⟩, ⟨by decide⟩, BK7, HB7⟩
  case round =>
    obtain ⟨i, n, xs, rfl, HO, HN, HK, HI, BKr, HB⟩ := hrel
    clear HB0 HB1 HB2 HB3 HB4 HB5 HB6 HB7 BK3 BK4 BK5 BK6 BK7 SR GE30
    by_cases hi : i < 9
    · cases gk with
      | zero => exact absurd HK.out (by omega)
      | succ k1 =>
      have h9 : i = 0 ∨ i = 1 ∨ i = 2 ∨ i = 3 ∨ i = 4 ∨ i = 5 ∨ i = 6 ∨ i = 7 ∨ i = 8 := by have := HI.out; omega
      clear hi
      have hqr_0 : wr.cell? ⟨gb, 0, none⟩ = some (.string (⟨#[60, 105, 110, 105, 116, 62]⟩ : ByteArray)) := (blk_cell BKr.out 0).trans rfl
      have hqr_1 : wr.cell? ⟨gb, 1, none⟩ = some (.string (⟨#[40, 41, 86]⟩ : ByteArray)) := (blk_cell BKr.out 1).trans rfl
      have hqr_2 : wr.cell? ⟨gb, 2, none⟩ = some (.bool false) := (blk_cell BKr.out 2).trans rfl
      obtain ⟨sn, hix⟩ : ∃ sn : ByteArray, (Instr.index 93 (.agg #[.string ⟨#[78, 117, 108, 108, 69, 114, 114, 111, 114]⟩, .string ⟨#[66, 111, 117, 110, 100, 115, 69, 114, 114, 111, 114]⟩, .string ⟨#[67, 97, 115, 116, 69, 114, 114, 111, 114]⟩, .string ⟨#[68, 105, 118, 69, 114, 114, 111, 114]⟩, .string ⟨#[79, 119, 110, 101, 114, 69, 114, 114, 111, 114]⟩, .string ⟨#[77, 101, 109, 111, 114, 121, 69, 114, 114, 111, 114]⟩, .string ⟨#[68, 101, 112, 116, 104, 69, 114, 114, 111, 114]⟩, .string ⟨#[83, 105, 122, 101, 69, 114, 114, 111, 114]⟩, .string ⟨#[83, 116, 111, 114, 101, 69, 114, 114, 111, 114]⟩]) (.int .i64 i)).run Try.prog wr = .ok (.string sn) wr := by
        rcases h9 with rfl | rfl | rfl | rfl | rfl | rfl | rfl | rfl | rfl
        · exact ⟨⟨#[78, 117, 108, 108, 69, 114, 114, 111, 114]⟩, by kernel_rfl⟩
        · exact ⟨⟨#[66, 111, 117, 110, 100, 115, 69, 114, 114, 111, 114]⟩, by kernel_rfl⟩
        · exact ⟨⟨#[67, 97, 115, 116, 69, 114, 114, 111, 114]⟩, by kernel_rfl⟩
        · exact ⟨⟨#[68, 105, 118, 69, 114, 114, 111, 114]⟩, by kernel_rfl⟩
        · exact ⟨⟨#[79, 119, 110, 101, 114, 69, 114, 114, 111, 114]⟩, by kernel_rfl⟩
        · exact ⟨⟨#[77, 101, 109, 111, 114, 121, 69, 114, 114, 111, 114]⟩, by kernel_rfl⟩
        · exact ⟨⟨#[68, 101, 112, 116, 104, 69, 114, 114, 111, 114]⟩, by kernel_rfl⟩
        · exact ⟨⟨#[83, 105, 122, 101, 69, 114, 114, 111, 114]⟩, by kernel_rfl⟩
        · exact ⟨⟨#[83, 116, 111, 114, 101, 69, 114, 114, 111, 114]⟩, by kernel_rfl⟩
      have hi9 : decide (i < 9) = true := decide_eq_true (by omega)
      have hwi : wrap64 (i + 1) = i + 1 := by unfold wrap64; omega
      have H9 := Aside0.mk h9
      clear h9
      go_wp2_with (first | ((with_reducible refine gate_dst (N := 38) rfl ?_); refine slice_event ?hg (N := 38) ?hd (n := 1) (cs := ?cs38) (t := 67) ?hr ?_; (case hd => rfl); (case hg => rfl); (case hr => first | (go_simp; rfl) | (go_simp; done)); intro g38 hg w7 hbox hb; have HB7 := Aside0.mk (below_step HB.out hb); have BK7 := Aside0.mk (blk_below BKr.out hb); have hq38_0 : w7.cell? ⟨gb, 0, none⟩ = some (.string (⟨#[60, 105, 110, 105, 116, 62]⟩ : ByteArray)) := (blk_cell BK7.out 0).trans rfl; have hq38_1 : w7.cell? ⟨gb, 1, none⟩ = some (.string (⟨#[40, 41, 86]⟩ : ByteArray)) := (blk_cell BK7.out 1).trans rfl; have hq38_2 : w7.cell? ⟨gb, 2, none⟩ = some (.bool false) := (blk_cell BK7.out 2).trans rfl; have HO7 := Aside0.mk (own_below HO.out hb); clear hbox hb hg) | ((with_reducible refine gate_dst (N := 41) rfl ?_); refine slice_event ?hg (N := 41) ?hd (n := 1) (cs := ?cs41) (t := 61) ?hr ?_; (case hd => rfl); (case hg => rfl); (case hr => first | (go_simp; rfl) | (go_simp; done)); intro g41 hg w8 hbox hb; have HB8 := Aside0.mk (below_step HB7.out hb); have BK8 := Aside0.mk (blk_below BK7.out hb); have hq41_0 : w8.cell? ⟨gb, 0, none⟩ = some (.string (⟨#[60, 105, 110, 105, 116, 62]⟩ : ByteArray)) := (blk_cell BK8.out 0).trans rfl; have hq41_1 : w8.cell? ⟨gb, 1, none⟩ = some (.string (⟨#[40, 41, 86]⟩ : ByteArray)) := (blk_cell BK8.out 1).trans rfl; have hq41_2 : w8.cell? ⟨gb, 2, none⟩ = some (.bool false) := (blk_cell BK8.out 2).trans rfl; have HO8 := Aside0.mk (own_below HO7.out hb); have SR8 := Aside0.mk hbox; clear hbox hb hg) | ((with_reducible refine gate_builtin (b := .append) rfl ?_); refine app_event (w0 := w) (base := w.heap.size) (q := gb) ?hg 35 41 ?ho _ n xs ?hs HO8.out g41 _ ?hx SR8.out ?h1 ?hn HB8.out HB8.out.size BK8.out ?_; (case hg => rfl); (case ho => rfl); (case hs => rfl); (case hx => rfl); (case h1 => rfl); (case hn => have := HN.out; have := HI.out; omega); intro v9 w9 xs9 ho9 hb9 hq9; have HO9 := Aside0.mk ho9; have HB9 := Aside0.mk hb9; have BK9 := Aside0.mk hq9; clear ho9 hb9 hq9))
      go_roundg k1
      case measure => omega
      case rel => exact ⟨_, n + 1, _, rfl, HO9, ⟨by have := HN.out; omega⟩, ⟨by have := HK.out; omega⟩, ⟨by have := H9.out; omega⟩, BK9, HB9⟩
    · have h9 : i = 9 := by have := HI.out; omega
      clear hi
      subst h9
      go_wp2
      go_ret
      exact ⟨_, n, xs, rfl, HO.out, by have := HN.out; omega, HB.out⟩
end Go.Proofs.Ytombbcpleklefaa.Px
