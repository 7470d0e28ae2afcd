/- wire.Reader: NewReader, next, Uint, Int, Bytes, At: what they read and where they stand then, as contracts over a reader's block and row. -/
/- text.Decode's inner function: the next unit of the bytes that are left; the walk of it. -/
/- strings.Builder: copyCheck, at a builder that lies where it was made; WriteRune, by the printed contract of utf8.AppendRune. -/
/- text.Decode: what it computes, as a Lean function, and the walk of it. -/
/- pool.constant and its closure: what they compute, as Lean functions, and the walks over wire.Reader's contracts. -/
/- pool.Decode: what it computes, as a Lean function, and the walk over wire.Reader's, pool.constant's and pool.Check's contracts. -/
/- wire.Writer: NewWriter, put, Uint, Int, Bytes, Out: what they leave, as contracts over a writer's block and row. -/
/- pool.Encode: what it computes, as a Lean function, and the walk: pool.Check, text.Encode and wire.Writer by their contracts. -/
import Derived.Test.YtglnhkgodgjepaaDoorM1
import Derived.BigCall
import Derived.Deep.CutBlock
import Derived.Deep.RegionHeld3
import Derived.Lib.Bytes
import Derived.Shelf.Strings.Builder1
import Derived.Lib.Builder
import Derived.Laws.Closers25b
import Derived.Deep.DeepCutAuto
namespace Go.Proofs.YtglnhkgodgjepaaDoor.Px
open Go.RowKit Go.Proofs.YtglnhkgodgjepaaDoorW.PrintWords Go.Proofs.YtglnhkgodgjepaaDoorW.PrintLast Go.Proofs.YtglnhkgodgjepaaDoorW.PrintMore
attribute [local go_sem] max2_int min2_int max_two min_two max_three min_three max_four min_four
set_option linter.unusedVariables false
set_option linter.unusedSimpArgs false
def wire_gather_uint64.l0:Nat→Int→List Int→Int→Int→Option (Int)
 | 0,_,_,_,_ => none
 | k + 1,x1,x7,x8,x9 => if x9 < x8 then (if 0≤x9 then (if x9 < (x7.length:Int) then (wire_gather_uint64.l0 k (Go.bits .or .u64 (IntKind.u64.wrap (x1 * 256)) (IntKind.u64.wrap (rd x7 x9))) x7 x8 (wrap64 (x9 + 1))) else (none)) else (none)) else (some x1)
def wire_gather_uint64.f (k:Nat) (l0:List Int) (a1:Int):Option (Int):=wire_gather_uint64.l0 k a1 l0 (l0.length:Int) 0
theorem wire_gather_uint64.mono_l:∀ k,(∀ y0 y1 y2 y3,LeO (wire_gather_uint64.l0 k y0 y1 y2 y3) (wire_gather_uint64.l0 (k + 1) y0 y1 y2 y3))
 | 0 => fun _ _ _ _ r h => by simp [wire_gather_uint64.l0] at h
 | k + 1 => by
  have ih0:=wire_gather_uint64.mono_l k
  ·intro y0 y1 y2 y3
   unfold wire_gather_uint64.l0
   repeat' first
   | (with_reducible exact ih0 _ _ _ _)
   | (with_reducible exact LeO.refl _)
   | (with_reducible exact LeO.none _)
   | (with_reducible refine LeO.ite ?_ ?_)
   | (with_reducible refine LeO.bind ?_ (fun _ => ?_))
   | exact ih0 _ _ _ _
   | exact LeO.none _
   | refine LeO.ite ?_ ?_
   | refine LeO.bind ?_ (fun _ => ?_)
theorem wire_gather_uint64.mono:∀ a0 a1 k,LeO (wire_gather_uint64.f k a0 a1) (wire_gather_uint64.f (k + 1) a0 a1):=by
 intro a0 a1 k
 have ih0:=wire_gather_uint64.mono_l k
 unfold wire_gather_uint64.f
 repeat' first
   | (with_reducible exact ih0 _ _ _ _)
   | (with_reducible exact LeO.refl _)
   | (with_reducible exact LeO.none _)
   | (with_reducible refine LeO.ite ?_ ?_)
   | (with_reducible refine LeO.bind ?_ (fun _ => ?_))
   | exact ih0 _ _ _ _
   | exact LeO.none _
   | refine LeO.ite ?_ ?_
   | refine LeO.bind ?_ (fun _ => ?_)
set_option maxHeartbeats 80000000 in
set_option maxRecDepth 100000 in
theorem wire_gather_uint64.calls (k:Nat) (A0:Option Addr) (c0:Nat) (l0:List Int) (a1:Int) (r:Int) (w:World) (hr0:Kd.C (Kd.int .u8) w A0 l0.length l0) (hc0:l0.length≤c0) (h:wire_gather_uint64.f k l0 a1=some r) :
  Calls Tryd.prog 54 #[.slice A0 l0.length c0,.int .u64 a1] w fun e w' => e=.returned (.int .u64 r)∧Drawn0 w w':=by
 have HR0:=Aside0.mk hr0
 have HC0:=Aside0.mk hc0
 clear hr0 hc0
 have H:(wire_gather_uint64.l0 k a1 l0 (l0.length:Int) 0)=some r:=h
 clear h
 have H':=Aside0.mk H
 clear H
 go_enter Tryd.func54,Tryd.ntmps54
 go_wp2
 go_loopg [1,9] k (fun kq v1 v9 w' => ∃ (x1_1:Int) (x9_1:Int),v1=.int .u64 x1_1∧v9=.int .i64 x9_1∧Aside0 (wire_gather_uint64.l0 kq x1_1 l0 (l0.length:Int) x9_1=some r)∧Aside0 (kq≤k)∧Drawn0 w w')
 case atStart => exact ⟨(a1),(0),(by first|rfl|(simp;done)|(simp [*];done)),(by first|rfl|(simp;done)|(simp [*];done)),H',⟨Nat.le_refl _⟩,by repeat (first|exact Drawn0.refl _|apply Drawn0.step)⟩
 case round =>
  clear H'
  try clear p2
  obtain ⟨x1_1,x9_1,rfl,rfl,HA,HK1,⟨m1,rfl⟩⟩:=hrel
  cases gk with
  | zero => exact absurd HA.out (by simp [wire_gather_uint64.l0])
  | succ k1 =>
   have H:=HA.out
   clear HA
   simp only [wire_gather_uint64.l0] at H
   by_cases c3:x9_1 < (l0.length:Int)
   ·rw [if_pos c3] at H
    have c3b0:decide (x9_1 < (l0.length:Int))=true:=decide_eq_true c3
    clear c3
    by_cases c4:0≤x9_1
    ·rw [if_pos c4] at H
     have c4b0:decide (0≤x9_1)=true:=decide_eq_true c4
     clear c4
     by_cases c5:x9_1 < (l0.length:Int)
     ·rw [if_pos c5] at H
      have c5b0:decide (x9_1 < (l0.length:Int))=true:=decide_eq_true c5
      clear c5
      have H':=Aside0.mk H
      clear H
      have p133:0≤(x9_1:Int):=of_decide_eq_true (by first|(with_reducible assumption)|assumption)
      have q133:x9_1 < (l0.length:Int):=of_decide_eq_true (by first|(with_reducible assumption)|assumption)
      obtain ⟨ad133,e133,hx133_0⟩:=Kd.at_int HR0.out x9_1 p133 q133
      cases e133
      replace p133:=eq_true p133
      replace q133:=eq_true q133
      go_wp2
      go_roundg k1
      case measure => have:=HK1.out;omega
      case rel => exact ⟨(Go.bits .or .u64 (IntKind.u64.wrap (x1_1 * 256)) (IntKind.u64.wrap (rd l0 x9_1))),(wrap64 (x9_1 + 1)),(by first|rfl|(simp;done)|(simp [*];done)),(by first|rfl|(simp;done)|(simp [*];done)),H',⟨by have:=HK1.out;omega⟩,by repeat (first|exact Drawn0.refl _|apply Drawn0.step)⟩
     ·rw [if_neg c5] at H
      exact absurd H (by simp)
    ·rw [if_neg c4] at H
     exact absurd H (by simp)
   ·rw [if_neg c3] at H
    have c3b0:decide (x9_1 < (l0.length:Int))=false:=decide_eq_false c3
    clear c3
    obtain rfl:=Option.some.inj H
    go_wp2
    go_ret
    exact ⟨by first|rfl|(simp;done)|(simp [*];done),by repeat (first|exact Drawn0.refl _|apply Drawn0.step)⟩
def utf8_appendRuneNonASCII.j0:Nat→List Int→Int→Int→Bool→Option (List Int)
 | 0,_,_,_,_ => none
 | k + 1,x0,x1,x5,x25 => if x25=true then ((some (([Go.bits .or .u8 224 ((x1 / 4096) % 256),(128 + x1 / 64 % 64),(128 + x1 % 64)]:List Int):List Int)).bind fun y140 => (if x0.length + y140.length < 140737488355328 then (some (x0++y140)) else (none))) else (if x5 > 65535 then (if x5≤1114111 then ((some (([Go.bits .or .u8 240 ((x1 / 262144) % 256),(128 + x1 / 4096 % 64),(128 + x1 / 64 % 64),(128 + x1 % 64)]:List Int):List Int)).bind fun y146 => (if x0.length + y146.length < 140737488355328 then (some (x0++y146)) else (none))) else ((some (([239,191,189]:List Int):List Int)).bind fun y152 => (if x0.length + y152.length < 140737488355328 then (some (x0++y152)) else (none)))) else ((some (([239,191,189]:List Int):List Int)).bind fun y158 => (if x0.length + y158.length < 140737488355328 then (some (x0++y158)) else (none))))
def utf8_appendRuneNonASCII.f (k:Nat) (l0:List Int) (a1:Int):Option (List Int):=if ((a1) % 4294967296)≤2047 then ((some (([Go.bits .or .u8 192 ((a1 / 64) % 256),(128 + a1 % 64)]:List Int):List Int)).bind fun y134 => (if l0.length + y134.length < 140737488355328 then (some (l0++y134)) else (none))) else (if ((a1) % 4294967296) < 55296 then (utf8_appendRuneNonASCII.j0 k l0 a1 ((a1) % 4294967296) (decide (((a1) % 4294967296) < 55296))) else (if 57343 < ((a1) % 4294967296) then (utf8_appendRuneNonASCII.j0 k l0 a1 ((a1) % 4294967296) (decide (((a1) % 4294967296)≤65535))) else (utf8_appendRuneNonASCII.j0 k l0 a1 ((a1) % 4294967296) false)))
theorem utf8_appendRuneNonASCII.mono_l:∀ k,(∀ y0 y1 y2 y3,LeO (utf8_appendRuneNonASCII.j0 k y0 y1 y2 y3) (utf8_appendRuneNonASCII.j0 (k + 1) y0 y1 y2 y3))
 | 0 => fun _ _ _ _ r h => by simp [utf8_appendRuneNonASCII.j0] at h
 | k + 1 => by
  have ih0:=utf8_appendRuneNonASCII.mono_l k
  ·intro y0 y1 y2 y3
   unfold utf8_appendRuneNonASCII.j0
   repeat' first
   | (with_reducible exact ih0 _ _ _ _)
   | (with_reducible exact LeO.refl _)
   | (with_reducible exact LeO.none _)
   | (with_reducible refine LeO.ite ?_ ?_)
   | (with_reducible refine LeO.bind ?_ (fun _ => ?_))
   | exact ih0 _ _ _ _
   | exact LeO.none _
   | refine LeO.ite ?_ ?_
   | refine LeO.bind ?_ (fun _ => ?_)
theorem utf8_appendRuneNonASCII.mono:∀ a0 a1 k,LeO (utf8_appendRuneNonASCII.f k a0 a1) (utf8_appendRuneNonASCII.f (k + 1) a0 a1):=by
 intro a0 a1 k
 have ih0:=utf8_appendRuneNonASCII.mono_l k
 unfold utf8_appendRuneNonASCII.f
 repeat' first
   | (with_reducible exact ih0 _ _ _ _)
   | (with_reducible exact LeO.refl _)
   | (with_reducible exact LeO.none _)
   | (with_reducible refine LeO.ite ?_ ?_)
   | (with_reducible refine LeO.bind ?_ (fun _ => ?_))
   | exact ih0 _ _ _ _
   | exact LeO.none _
   | refine LeO.ite ?_ ?_
   | refine LeO.bind ?_ (fun _ => ?_)
set_option maxHeartbeats 80000000 in
set_option maxRecDepth 100000 in
theorem utf8_appendRuneNonASCII.calls (k:Nat) (P0_:Nat→Prop) (u9000_:Value) (l0:List Int) (a1:Int) (r:List Int) (w0 w:World) (hB:Below w0.heap.size w0 w) (ho0:Kd.R (Kd.int .u8) 5 w w0.heap.size P0_ u9000_ l0) (h:utf8_appendRuneNonASCII.f k l0 a1=some r) :
  Calls Tryd.prog 76 #[u9000_,.int .i32 a1] w fun e w' => ∃ v0_:Value,e=.returned (v0_)∧Kd.R (Kd.int .u8) 5 w' w0.heap.size (fun k_ => (P0_ k_ ∨ w.heap.size≤k_)) v0_ r∧Below w0.heap.size w0 w'∧Kept w w' (fun k_ => P0_ k_):=by
 have HO0:=Aside0.mk (show Kd.R (Kd.int .u8) 5 w w0.heap.size (fun k_ => (P0_ k_ ∨ w.heap.size≤k_)) u9000_ l0 from Kd.R_mono ho0 (fun k_ hk => (.inl hk)))
 have HK:=Aside0.mk (Kept.refl w (fun k_ => P0_ k_))
 have HW0:=Aside0.mk hB.size
 have HB:=Aside0.mk hB
 clear hB
 have H:(if ((a1) % 4294967296)≤2047 then ((some (([Go.bits .or .u8 192 ((a1 / 64) % 256),(128 + a1 % 64)]:List Int):List Int)).bind fun y134 => (if l0.length + y134.length < 140737488355328 then (some (l0++y134)) else (none))) else (if ((a1) % 4294967296) < 55296 then (utf8_appendRuneNonASCII.j0 k l0 a1 ((a1) % 4294967296) (decide (((a1) % 4294967296) < 55296))) else (if 57343 < ((a1) % 4294967296) then (utf8_appendRuneNonASCII.j0 k l0 a1 ((a1) % 4294967296) (decide (((a1) % 4294967296)≤65535))) else (utf8_appendRuneNonASCII.j0 k l0 a1 ((a1) % 4294967296) false))))=some r:=h
 clear h
 by_cases c3:((a1) % 4294967296)≤2047
 ·rw [if_pos c3] at H
  have c3b0:decide (((a1) % 4294967296)≤2047)=true:=decide_eq_true c3
  clear c3
  obtain ⟨y134,hy134⟩:∃ y_:List Int,y_=(([Go.bits .or .u8 192 ((a1 / 64) % 256),(128 + a1 % 64)]:List Int)):=⟨_,rfl⟩
  replace H:(if l0.length + y134.length < 140737488355328 then (some (l0++y134)) else (none))=some r:=by first|(rw [hy134];with_reducible exact H)|(have H2_:=(Option.bind_some _ _).symm.trans H;rw [hy134];with_reducible exact H2_)|(have H2_:=(Option.bind_some _ _).symm.trans H;with_reducible exact H2_)|with_reducible exact H|(rw [hy134];exact H)|exact H
  have Ny134:=Aside0.mk hy134
  clear hy134
  by_cases c4:l0.length + y134.length < 140737488355328
  ·rw [if_pos c4] at H
   have LMc4:=Aside0.mk c4
   clear c4
   obtain ⟨y137,hy137⟩:∃ y_:List Int,y_=(l0++y134):=⟨_,rfl⟩
   replace H:(some y137)=some r:=by first|(rw [hy137];with_reducible exact H)|(have H2_:=(Option.bind_some _ _).symm.trans H;rw [hy137];with_reducible exact H2_)|(have H2_:=(Option.bind_some _ _).symm.trans H;with_reducible exact H2_)|with_reducible exact H|(rw [hy137];exact H)|exact H
   have Ny137:=Aside0.mk hy137
   clear hy137
   obtain rfl:=Option.some.inj H
   go_enter Tryd.func76,Tryd.ntmps76
   go_wp2_with (first|((with_reducible refine gate_dst (N:=23) rfl ?_);refine Kd.R_lit (Kd.int .u8) _ 5 ?hg (N:=23) ?hd (xs:=([Go.bits .or .u8 192 ((a1 / 64) % 256),(128 + a1 % 64)]:List Int)) (inner:=[.int .u8 (Go.bits .or .u8 192 ((a1 / 64) % 256)),.int .u8 ((128 + a1 % 64))]) (ok:=fun _ => True) (okp:=fun _ => True) ?hr ?hp (fun _ hk => hk) trivial (Below.refl _ _) (Nat.le_refl _) (by simp) ?_;(case hd => rfl);(case hg => rfl);(case hr => first|(go_simp;done)|(go_simp;rfl));(case hp => exact (Reps.one (show Kd.M (Kd.int .u8) _ _ _ (Go.bits .or .u8 192 ((a1 / 64) % 256)) [.int .u8 (Go.bits .or .u8 192 ((a1 / 64) % 256))] from rfl) (Reps.one (show Kd.M (Kd.int .u8) _ _ _ ((128 + a1 % 64)) [.int .u8 ((128 + a1 % 64))] from rfl) (Reps.none _ _))));intro v135 w5 ho6 hb hg_ hnew_;clear hg_ hnew_;(first|rw [← Ny134.out] at ho6|(simp only [Int.reduceToNat] at ho6;rw [← Ny134.out] at ho6));have n0_:=Aside0.mk (Kd.R_elder' (by (with_reducible repeat (first|apply Kd.R_alloc|apply Kd.R_drewN|apply Kd.R_drew));exact HO0.out) (Kd.R_base ho6) hb);have n1_:=Aside0.mk (Kd.R_lower (Kd.R_new' (Kd.R_newM (M:=fun k_ => (P0_ k_ ∨ w.heap.size≤k_)) ho6 (by first|exact HK.out.1|exact (show Kept w _ (fun k_ => P0_ k_) from by repeat (first|(with_reducible first|exact HK.out|apply Kept.alloc|apply Kept.drewN|apply Kept.drew)|exact HK.out)).1) (fun k_ h_ => .inr h_)) (Kd.R_lt (by (with_reducible repeat (first|apply Kd.R_alloc|apply Kd.R_drewN|apply Kd.R_drew));exact HO0.out))) (below_size (by repeat (first|(with_reducible first|exact HB.out|apply below_alloc|apply pw_below_drewN|apply below_drew1)|exact HB.out))));have n2_:=Aside0.mk (Kept.below (S:=(fun k_ => P0_ k_)) (by repeat (first|(with_reducible first|exact HK.out|apply Kept.alloc|apply Kept.drewN|apply Kept.drew)|exact HK.out)) hb);have n3_:=Aside0.mk (below_step (by repeat (first|(with_reducible first|exact HB.out|apply below_alloc|apply pw_below_drewN|apply below_drew1)|exact HB.out)) hb);clear HO0;clear HK;clear HB;have HO0:=n0_;have HO136:=n1_;have HK:=n2_;have HB:=n3_;clear n0_ n1_ n2_ n3_;clear hb ho6;obtain ⟨Ao8,co8,eo8⟩:=Kd.R_slice HO136.out;subst eo8)|((with_reducible refine gate_builtin (b:=.append) (xs:=#[.tmp 14,.tmp 23]) rfl ?_);at_builtin;refine Kd.R_append_rows (Kd.int .u8) (w0:=w0) w0.heap.size rfl (.tmp 14) (.tmp 23) 34 5 (.int .u8 0) 1 rfl Tryd.underlying34 info5 rfl (by decide) (by omega) u9000_ l0 y134 _ _ _ (fun k_ => (P0_ k_ ∨ w.heap.size≤k_)∧some k_ ≠ (.slice Ao8 y134.length co8:Value).ownBlock) (fun _ => False) rfl rfl ?aO ?aR (fun _ _ h => h) (fun _ h => h.elim) ?aF ?aB ?aS ?aL ?_;(case aR => repeat (first|exact (Kd.R_reads' HO136.out).2.2|(with_reducible refine Kd.C_alloc ?_ _)|(with_reducible refine Kd.C_drewN ?_ _)|(with_reducible refine Kd.C_drew ?_)));(case aB => exact (by repeat (first|(with_reducible first|exact HB.out|apply below_alloc|apply pw_below_drewN|apply below_drew1)|exact HB.out)));(case aF => exact (fun k_ hk => ⟨(.inr (Nat.le_trans (by first|exact HK.out.1|exact (show Kept w _ (fun k_ => P0_ k_) from by repeat (first|(with_reducible first|exact HK.out|apply Kept.alloc|apply Kept.drewN|apply Kept.drew)|exact HK.out)).1) hk)),Kd.fresh' (Kd.R_lt (by (with_reducible repeat (first|apply Kd.R_alloc|apply Kd.R_drewN|apply Kd.R_drew));exact HO136.out)) k_ hk⟩));(case aO => exact (by (with_reducible repeat (first|apply Kd.R_alloc|apply Kd.R_drewN|apply Kd.R_drew));exact HO0.out));(case aS => exact (below_size (by repeat (first|(with_reducible first|exact HB.out|apply below_alloc|apply pw_below_drewN|apply below_drew1)|exact HB.out))));(case aL => have:=LMc4.out;omega);intro v138 w7 ho hb hg hat;rw [← Ny137.out] at ho;have n0_:=Aside0.mk (Kd.R_after (ok:=(fun k_ => (P0_ k_ ∨ w.heap.size≤k_))) (by (with_reducible repeat (first|apply Kd.R_alloc|apply Kd.R_drewN|apply Kd.R_drew));exact Kd.R_mono HO136.out (fun _ hk => ⟨hk.1.1,hk.2⟩)) hg hat);have n1_:=Aside0.mk (hb);have n2_:=Aside0.mk (Kept.of_grown (S:=(fun k_ => P0_ k_)) hg (by repeat (first|(with_reducible first|exact HK.out|apply Kept.alloc|apply Kept.drewN|apply Kept.drew)|exact HK.out)) (fun k_ e_ => (HO0.out.1 k_ e_).1));have n3_:=Aside0.mk (ho);clear HO136;clear HB;clear HK;clear HO0;have HO136:=n0_;have HB:=n1_;have HK:=n2_;have HO139:=n3_;clear n0_ n1_ n2_ n3_;clear ho hb hg hat))
   go_ret
   exact ⟨_,by first|rfl|(simp [errW_none,errW_some] <;> rfl)|(simp [*,errW_none,errW_some] <;> rfl),by (with_reducible repeat (first|apply Kd.R_alloc|apply Kd.R_drewN|apply Kd.R_drew));exact Kd.R_mono HO139.out (fun _ hk => hk.1),by repeat (first|(with_reducible first|exact HB.out|apply below_alloc|apply pw_below_drewN|apply below_drew1)|exact HB.out),by repeat (first|(with_reducible first|exact HK.out|apply Kept.alloc|apply Kept.drewN|apply Kept.drew)|exact HK.out)⟩
  ·rw [if_neg c4] at H
   exact absurd H (by simp)
 ·rw [if_neg c3] at H
  have c3b0:decide (((a1) % 4294967296)≤2047)=false:=decide_eq_false c3
  clear c3
  have HC9:=Aside0.mk H
  clear H
  go_enter Tryd.func76,Tryd.ntmps76
  go_upto_if 25 with (fail)
  go_cut [25] (fun v25 wc => ∃ (kq:Nat) (x25_8:Bool),v25=.bool x25_8∧Aside0 (utf8_appendRuneNonASCII.j0 kq l0 a1 ((a1) % 4294967296) x25_8=some r)∧Aside0 (kq≤k)∧Aside0 (Kd.R (Kd.int .u8) 5 wc w0.heap.size (fun k_ => (P0_ k_ ∨ w.heap.size≤k_)) u9000_ l0)∧Aside0 (Kept w wc (fun k_ => P0_ k_))∧Aside0 (Below w0.heap.size w0 wc))
  case first =>
   have H:=HC9.out
   clear HC9
   by_cases c10:((a1) % 4294967296) < 55296
   ·rw [if_pos c10] at H
    have c10b0:decide (((a1) % 4294967296) < 55296)=true:=decide_eq_true c10
    clear c10
    (first|rw [c10b0]|(simp only [i64_w,i32_w];rw [c10b0])|skip)
    have H':=Aside0.mk H
    clear H
    go_wp2
    go_meet
    case rel => exact ⟨_,(decide (((a1) % 4294967296) < 55296)),(by first|rfl|(simp;done)|(simp [*];done)),H',⟨by first|omega|exact Nat.le_refl _⟩,⟨by (with_reducible repeat (first|apply Kd.R_alloc|apply Kd.R_drewN|apply Kd.R_drew));exact HO0.out⟩,⟨by repeat (first|(with_reducible first|exact HK.out|apply Kept.alloc|apply Kept.drewN|apply Kept.drew)|exact HK.out)⟩,⟨by repeat (first|(with_reducible first|exact HB.out|apply below_alloc|apply pw_below_drewN|apply below_drew1)|exact HB.out)⟩⟩
   ·rw [if_neg c10] at H
    have c10b0:decide (((a1) % 4294967296) < 55296)=false:=decide_eq_false c10
    clear c10
    (first|rw [c10b0]|(simp only [i64_w,i32_w];rw [c10b0])|skip)
    by_cases c11:57343 < ((a1) % 4294967296)
    ·rw [if_pos c11] at H
     have c11b0:decide (57343 < ((a1) % 4294967296))=true:=decide_eq_true c11
     clear c11
     have H':=Aside0.mk H
     clear H
     go_wp2
     go_meet
     case rel => exact ⟨_,(decide (((a1) % 4294967296)≤65535)),(by first|rfl|(simp;done)|(simp [*];done)),H',⟨by first|omega|exact Nat.le_refl _⟩,⟨by (with_reducible repeat (first|apply Kd.R_alloc|apply Kd.R_drewN|apply Kd.R_drew));exact HO0.out⟩,⟨by repeat (first|(with_reducible first|exact HK.out|apply Kept.alloc|apply Kept.drewN|apply Kept.drew)|exact HK.out)⟩,⟨by repeat (first|(with_reducible first|exact HB.out|apply below_alloc|apply pw_below_drewN|apply below_drew1)|exact HB.out)⟩⟩
    ·rw [if_neg c11] at H
     have c11b0:decide (57343 < ((a1) % 4294967296))=false:=decide_eq_false c11
     clear c11
     have H':=Aside0.mk H
     clear H
     go_wp2
     go_meet
     case rel => exact ⟨_,(false),(by first|rfl|(simp;done)|(simp [*];done)),H',⟨by first|omega|exact Nat.le_refl _⟩,⟨by (with_reducible repeat (first|apply Kd.R_alloc|apply Kd.R_drewN|apply Kd.R_drew));exact HO0.out⟩,⟨by repeat (first|(with_reducible first|exact HK.out|apply Kept.alloc|apply Kept.drewN|apply Kept.drew)|exact HK.out)⟩,⟨by repeat (first|(with_reducible first|exact HB.out|apply below_alloc|apply pw_below_drewN|apply below_drew1)|exact HB.out)⟩⟩
  case rest =>
   clear HC9
   try clear c1;try clear p2;try clear c3;try clear c3b0;try clear c4;try clear c7;try clear c10;try clear c10b0;try clear c11;try clear c11b0
   obtain ⟨kq,x25_8,rfl,HA,HJ8,HO_0,HK,HB⟩:=hcut
   cases kq with
   | zero => exact absurd HA.out (by simp [utf8_appendRuneNonASCII.j0])
   | succ kj8 =>
    have H:=HA.out
    clear HA
    simp only [utf8_appendRuneNonASCII.j0] at H
    by_cases c12:x25_8=true
    ·subst c12
     have H1:((some (([Go.bits .or .u8 224 ((a1 / 4096) % 256),(128 + a1 / 64 % 64),(128 + a1 % 64)]:List Int):List Int)).bind fun y140 => (if l0.length + y140.length < 140737488355328 then (some (l0++y140)) else (none)))=some r:=by rw [if_pos rfl] at H;exact H
     clear H
     have H:=H1
     clear H1
     obtain ⟨y140,hy140⟩:∃ y_:List Int,y_=(([Go.bits .or .u8 224 ((a1 / 4096) % 256),(128 + a1 / 64 % 64),(128 + a1 % 64)]:List Int)):=⟨_,rfl⟩
     replace H:(if l0.length + y140.length < 140737488355328 then (some (l0++y140)) else (none))=some r:=by first|(rw [hy140];with_reducible exact H)|(have H2_:=(Option.bind_some _ _).symm.trans H;rw [hy140];with_reducible exact H2_)|(have H2_:=(Option.bind_some _ _).symm.trans H;with_reducible exact H2_)|with_reducible exact H|(rw [hy140];exact H)|exact H
     have Ny140:=Aside0.mk hy140
     clear hy140
     by_cases c13:l0.length + y140.length < 140737488355328
     ·rw [if_pos c13] at H
      have LMc13:=Aside0.mk c13
      clear c13
      obtain ⟨y143,hy143⟩:∃ y_:List Int,y_=(l0++y140):=⟨_,rfl⟩
      replace H:(some y143)=some r:=by first|(rw [hy143];with_reducible exact H)|(have H2_:=(Option.bind_some _ _).symm.trans H;rw [hy143];with_reducible exact H2_)|(have H2_:=(Option.bind_some _ _).symm.trans H;with_reducible exact H2_)|with_reducible exact H|(rw [hy143];exact H)|exact H
      have Ny143:=Aside0.mk hy143
      clear hy143
      obtain rfl:=Option.some.inj H
      go_wp2_with (first|((with_reducible refine gate_dst (N:=48) rfl ?_);refine Kd.R_lit (Kd.int .u8) _ 5 ?hg (N:=48) ?hd (xs:=([Go.bits .or .u8 224 ((a1 / 4096) % 256),(128 + a1 / 64 % 64),(128 + a1 % 64)]:List Int)) (inner:=[.int .u8 (Go.bits .or .u8 224 ((a1 / 4096) % 256)),.int .u8 ((128 + a1 / 64 % 64)),.int .u8 ((128 + a1 % 64))]) (ok:=fun _ => True) (okp:=fun _ => True) ?hr ?hp (fun _ hk => hk) trivial (Below.refl _ _) (Nat.le_refl _) (by simp) ?_;(case hd => rfl);(case hg => rfl);(case hr => first|(go_simp;done)|(go_simp;rfl));(case hp => exact (Reps.one (show Kd.M (Kd.int .u8) _ _ _ (Go.bits .or .u8 224 ((a1 / 4096) % 256)) [.int .u8 (Go.bits .or .u8 224 ((a1 / 4096) % 256))] from rfl) (Reps.one (show Kd.M (Kd.int .u8) _ _ _ ((128 + a1 / 64 % 64)) [.int .u8 ((128 + a1 / 64 % 64))] from rfl) (Reps.one (show Kd.M (Kd.int .u8) _ _ _ ((128 + a1 % 64)) [.int .u8 ((128 + a1 % 64))] from rfl) (Reps.none _ _)))));intro v141 w14 ho15 hb hg_ hnew_;clear hg_ hnew_;(first|rw [← Ny140.out] at ho15|(simp only [Int.reduceToNat] at ho15;rw [← Ny140.out] at ho15));have n0_:=Aside0.mk (Kd.R_elder' (by (with_reducible repeat (first|apply Kd.R_alloc|apply Kd.R_drewN|apply Kd.R_drew));exact HO_0.out) (Kd.R_base ho15) hb);have n1_:=Aside0.mk (Kd.R_lower (Kd.R_new' (Kd.R_newM (M:=fun k_ => (P0_ k_ ∨ w.heap.size≤k_)) ho15 (by first|exact HK.out.1|exact (show Kept w _ (fun k_ => P0_ k_) from by repeat (first|(with_reducible first|exact HK.out|apply Kept.alloc|apply Kept.drewN|apply Kept.drew)|exact HK.out)).1) (fun k_ h_ => .inr h_)) (Kd.R_lt (by (with_reducible repeat (first|apply Kd.R_alloc|apply Kd.R_drewN|apply Kd.R_drew));exact HO_0.out))) (below_size (by repeat (first|(with_reducible first|exact HB.out|apply below_alloc|apply pw_below_drewN|apply below_drew1)|exact HB.out))));have n2_:=Aside0.mk (Kept.below (S:=(fun k_ => P0_ k_)) (by repeat (first|(with_reducible first|exact HK.out|apply Kept.alloc|apply Kept.drewN|apply Kept.drew)|exact HK.out)) hb);have n3_:=Aside0.mk (below_step (by repeat (first|(with_reducible first|exact HB.out|apply below_alloc|apply pw_below_drewN|apply below_drew1)|exact HB.out)) hb);clear HO_0;clear HK;clear HB;have HO_0:=n0_;have HO142:=n1_;have HK:=n2_;have HB:=n3_;clear n0_ n1_ n2_ n3_;clear hb ho15;obtain ⟨Ao17,co17,eo17⟩:=Kd.R_slice HO142.out;subst eo17)|((with_reducible refine gate_builtin (b:=.append) (xs:=#[.tmp 34,.tmp 48]) rfl ?_);at_builtin;refine Kd.R_append_rows (Kd.int .u8) (w0:=w0) w0.heap.size rfl (.tmp 34) (.tmp 48) 34 5 (.int .u8 0) 1 rfl Tryd.underlying34 info5 rfl (by decide) (by omega) u9000_ l0 y140 _ _ _ (fun k_ => (P0_ k_ ∨ w.heap.size≤k_)∧some k_ ≠ (.slice Ao17 y140.length co17:Value).ownBlock) (fun _ => False) rfl rfl ?aO ?aR (fun _ _ h => h) (fun _ h => h.elim) ?aF ?aB ?aS ?aL ?_;(case aR => repeat (first|exact (Kd.R_reads' HO142.out).2.2|(with_reducible refine Kd.C_alloc ?_ _)|(with_reducible refine Kd.C_drewN ?_ _)|(with_reducible refine Kd.C_drew ?_)));(case aB => exact (by repeat (first|(with_reducible first|exact HB.out|apply below_alloc|apply pw_below_drewN|apply below_drew1)|exact HB.out)));(case aF => exact (fun k_ hk => ⟨(.inr (Nat.le_trans (by first|exact HK.out.1|exact (show Kept w _ (fun k_ => P0_ k_) from by repeat (first|(with_reducible first|exact HK.out|apply Kept.alloc|apply Kept.drewN|apply Kept.drew)|exact HK.out)).1) hk)),Kd.fresh' (Kd.R_lt (by (with_reducible repeat (first|apply Kd.R_alloc|apply Kd.R_drewN|apply Kd.R_drew));exact HO142.out)) k_ hk⟩));(case aO => exact (by (with_reducible repeat (first|apply Kd.R_alloc|apply Kd.R_drewN|apply Kd.R_drew));exact HO_0.out));(case aS => exact (below_size (by repeat (first|(with_reducible first|exact HB.out|apply below_alloc|apply pw_below_drewN|apply below_drew1)|exact HB.out))));(case aL => have:=LMc13.out;omega);intro v144 w16 ho hb hg hat;rw [← Ny143.out] at ho;have n0_:=Aside0.mk (Kd.R_after (ok:=(fun k_ => (P0_ k_ ∨ w.heap.size≤k_))) (by (with_reducible repeat (first|apply Kd.R_alloc|apply Kd.R_drewN|apply Kd.R_drew));exact Kd.R_mono HO142.out (fun _ hk => ⟨hk.1.1,hk.2⟩)) hg hat);have n1_:=Aside0.mk (hb);have n2_:=Aside0.mk (Kept.of_grown (S:=(fun k_ => P0_ k_)) hg (by repeat (first|(with_reducible first|exact HK.out|apply Kept.alloc|apply Kept.drewN|apply Kept.drew)|exact HK.out)) (fun k_ e_ => (HO_0.out.1 k_ e_).1));have n3_:=Aside0.mk (ho);clear HO142;clear HB;clear HK;clear HO_0;have HO142:=n0_;have HB:=n1_;have HK:=n2_;have HO145:=n3_;clear n0_ n1_ n2_ n3_;clear ho hb hg hat))
      go_ret
      exact ⟨_,by first|rfl|(simp [errW_none,errW_some] <;> rfl)|(simp [*,errW_none,errW_some] <;> rfl),by (with_reducible repeat (first|apply Kd.R_alloc|apply Kd.R_drewN|apply Kd.R_drew));exact Kd.R_mono HO145.out (fun _ hk => hk.1),by repeat (first|(with_reducible first|exact HB.out|apply below_alloc|apply pw_below_drewN|apply below_drew1)|exact HB.out),by repeat (first|(with_reducible first|exact HK.out|apply Kept.alloc|apply Kept.drewN|apply Kept.drew)|exact HK.out)⟩
     ·rw [if_neg c13] at H
      exact absurd H (by simp)
    ·replace c12:=Bool.eq_false_iff.mpr c12
     subst c12
     have H1:(if ((a1) % 4294967296) > 65535 then (if ((a1) % 4294967296)≤1114111 then ((some (([Go.bits .or .u8 240 ((a1 / 262144) % 256),(128 + a1 / 4096 % 64),(128 + a1 / 64 % 64),(128 + a1 % 64)]:List Int):List Int)).bind fun y146 => (if l0.length + y146.length < 140737488355328 then (some (l0++y146)) else (none))) else ((some (([239,191,189]:List Int):List Int)).bind fun y152 => (if l0.length + y152.length < 140737488355328 then (some (l0++y152)) else (none)))) else ((some (([239,191,189]:List Int):List Int)).bind fun y158 => (if l0.length + y158.length < 140737488355328 then (some (l0++y158)) else (none))))=some r:=by rw [if_neg (show ¬ (false=true) by decide)] at H;exact H
     clear H
     have H:=H1
     clear H1
     by_cases c18:((a1) % 4294967296) > 65535
     ·rw [if_pos c18] at H
      have c18b0:decide (65535 < ((a1) % 4294967296))=true:=decide_eq_true c18
      clear c18
      by_cases c19:((a1) % 4294967296)≤1114111
      ·rw [if_pos c19] at H
       have c19b0:decide (((a1) % 4294967296)≤1114111)=true:=decide_eq_true c19
       clear c19
       obtain ⟨y146,hy146⟩:∃ y_:List Int,y_=(([Go.bits .or .u8 240 ((a1 / 262144) % 256),(128 + a1 / 4096 % 64),(128 + a1 / 64 % 64),(128 + a1 % 64)]:List Int)):=⟨_,rfl⟩
       replace H:(if l0.length + y146.length < 140737488355328 then (some (l0++y146)) else (none))=some r:=by first|(rw [hy146];with_reducible exact H)|(have H2_:=(Option.bind_some _ _).symm.trans H;rw [hy146];with_reducible exact H2_)|(have H2_:=(Option.bind_some _ _).symm.trans H;with_reducible exact H2_)|with_reducible exact H|(rw [hy146];exact H)|exact H
       have Ny146:=Aside0.mk hy146
       clear hy146
       by_cases c20:l0.length + y146.length < 140737488355328
       ·rw [if_pos c20] at H
        have LMc20:=Aside0.mk c20
        clear c20
        obtain ⟨y149,hy149⟩:∃ y_:List Int,y_=(l0++y146):=⟨_,rfl⟩
        replace H:(some y149)=some r:=by first|(rw [hy149];with_reducible exact H)|(have H2_:=(Option.bind_some _ _).symm.trans H;rw [hy149];with_reducible exact H2_)|(have H2_:=(Option.bind_some _ _).symm.trans H;with_reducible exact H2_)|with_reducible exact H|(rw [hy149];exact H)|exact H
        have Ny149:=Aside0.mk hy149
        clear hy149
        obtain rfl:=Option.some.inj H
        go_wp2_with (first|((with_reducible refine gate_dst (N:=76) rfl ?_);refine Kd.R_lit (Kd.int .u8) _ 5 ?hg (N:=76) ?hd (xs:=([Go.bits .or .u8 240 ((a1 / 262144) % 256),(128 + a1 / 4096 % 64),(128 + a1 / 64 % 64),(128 + a1 % 64)]:List Int)) (inner:=[.int .u8 (Go.bits .or .u8 240 ((a1 / 262144) % 256)),.int .u8 ((128 + a1 / 4096 % 64)),.int .u8 ((128 + a1 / 64 % 64)),.int .u8 ((128 + a1 % 64))]) (ok:=fun _ => True) (okp:=fun _ => True) ?hr ?hp (fun _ hk => hk) trivial (Below.refl _ _) (Nat.le_refl _) (by simp) ?_;(case hd => rfl);(case hg => rfl);(case hr => first|(go_simp;done)|(go_simp;rfl));(case hp => exact (Reps.one (show Kd.M (Kd.int .u8) _ _ _ (Go.bits .or .u8 240 ((a1 / 262144) % 256)) [.int .u8 (Go.bits .or .u8 240 ((a1 / 262144) % 256))] from rfl) (Reps.one (show Kd.M (Kd.int .u8) _ _ _ ((128 + a1 / 4096 % 64)) [.int .u8 ((128 + a1 / 4096 % 64))] from rfl) (Reps.one (show Kd.M (Kd.int .u8) _ _ _ ((128 + a1 / 64 % 64)) [.int .u8 ((128 + a1 / 64 % 64))] from rfl) (Reps.one (show Kd.M (Kd.int .u8) _ _ _ ((128 + a1 % 64)) [.int .u8 ((128 + a1 % 64))] from rfl) (Reps.none _ _))))));intro v147 w21 ho22 hb hg_ hnew_;clear hg_ hnew_;(first|rw [← Ny146.out] at ho22|(simp only [Int.reduceToNat] at ho22;rw [← Ny146.out] at ho22));have n0_:=Aside0.mk (Kd.R_elder' (by (with_reducible repeat (first|apply Kd.R_alloc|apply Kd.R_drewN|apply Kd.R_drew));exact HO_0.out) (Kd.R_base ho22) hb);have n1_:=Aside0.mk (Kd.R_lower (Kd.R_new' (Kd.R_newM (M:=fun k_ => (P0_ k_ ∨ w.heap.size≤k_)) ho22 (by first|exact HK.out.1|exact (show Kept w _ (fun k_ => P0_ k_) from by repeat (first|(with_reducible first|exact HK.out|apply Kept.alloc|apply Kept.drewN|apply Kept.drew)|exact HK.out)).1) (fun k_ h_ => .inr h_)) (Kd.R_lt (by (with_reducible repeat (first|apply Kd.R_alloc|apply Kd.R_drewN|apply Kd.R_drew));exact HO_0.out))) (below_size (by repeat (first|(with_reducible first|exact HB.out|apply below_alloc|apply pw_below_drewN|apply below_drew1)|exact HB.out))));have n2_:=Aside0.mk (Kept.below (S:=(fun k_ => P0_ k_)) (by repeat (first|(with_reducible first|exact HK.out|apply Kept.alloc|apply Kept.drewN|apply Kept.drew)|exact HK.out)) hb);have n3_:=Aside0.mk (below_step (by repeat (first|(with_reducible first|exact HB.out|apply below_alloc|apply pw_below_drewN|apply below_drew1)|exact HB.out)) hb);clear HO_0;clear HK;clear HB;have HO_0:=n0_;have HO148:=n1_;have HK:=n2_;have HB:=n3_;clear n0_ n1_ n2_ n3_;clear hb ho22;obtain ⟨Ao24,co24,eo24⟩:=Kd.R_slice HO148.out;subst eo24)|((with_reducible refine gate_builtin (b:=.append) (xs:=#[.tmp 57,.tmp 76]) rfl ?_);at_builtin;refine Kd.R_append_rows (Kd.int .u8) (w0:=w0) w0.heap.size rfl (.tmp 57) (.tmp 76) 34 5 (.int .u8 0) 1 rfl Tryd.underlying34 info5 rfl (by decide) (by omega) u9000_ l0 y146 _ _ _ (fun k_ => (P0_ k_ ∨ w.heap.size≤k_)∧some k_ ≠ (.slice Ao24 y146.length co24:Value).ownBlock) (fun _ => False) rfl rfl ?aO ?aR (fun _ _ h => h) (fun _ h => h.elim) ?aF ?aB ?aS ?aL ?_;(case aR => repeat (first|exact (Kd.R_reads' HO148.out).2.2|(with_reducible refine Kd.C_alloc ?_ _)|(with_reducible refine Kd.C_drewN ?_ _)|(with_reducible refine Kd.C_drew ?_)));(case aB => exact (by repeat (first|(with_reducible first|exact HB.out|apply below_alloc|apply pw_below_drewN|apply below_drew1)|exact HB.out)));(case aF => exact (fun k_ hk => ⟨(.inr (Nat.le_trans (by first|exact HK.out.1|exact (show Kept w _ (fun k_ => P0_ k_) from by repeat (first|(with_reducible first|exact HK.out|apply Kept.alloc|apply Kept.drewN|apply Kept.drew)|exact HK.out)).1) hk)),Kd.fresh' (Kd.R_lt (by (with_reducible repeat (first|apply Kd.R_alloc|apply Kd.R_drewN|apply Kd.R_drew));exact HO148.out)) k_ hk⟩));(case aO => exact (by (with_reducible repeat (first|apply Kd.R_alloc|apply Kd.R_drewN|apply Kd.R_drew));exact HO_0.out));(case aS => exact (below_size (by repeat (first|(with_reducible first|exact HB.out|apply below_alloc|apply pw_below_drewN|apply below_drew1)|exact HB.out))));(case aL => have:=LMc20.out;omega);intro v150 w23 ho hb hg hat;rw [← Ny149.out] at ho;have n0_:=Aside0.mk (Kd.R_after (ok:=(fun k_ => (P0_ k_ ∨ w.heap.size≤k_))) (by (with_reducible repeat (first|apply Kd.R_alloc|apply Kd.R_drewN|apply Kd.R_drew));exact Kd.R_mono HO148.out (fun _ hk => ⟨hk.1.1,hk.2⟩)) hg hat);have n1_:=Aside0.mk (hb);have n2_:=Aside0.mk (Kept.of_grown (S:=(fun k_ => P0_ k_)) hg (by repeat (first|(with_reducible first|exact HK.out|apply Kept.alloc|apply Kept.drewN|apply Kept.drew)|exact HK.out)) (fun k_ e_ => (HO_0.out.1 k_ e_).1));have n3_:=Aside0.mk (ho);clear HO148;clear HB;clear HK;clear HO_0;have HO148:=n0_;have HB:=n1_;have HK:=n2_;have HO151:=n3_;clear n0_ n1_ n2_ n3_;clear ho hb hg hat))
        go_ret
        exact ⟨_,by first|rfl|(simp [errW_none,errW_some] <;> rfl)|(simp [*,errW_none,errW_some] <;> rfl),by (with_reducible repeat (first|apply Kd.R_alloc|apply Kd.R_drewN|apply Kd.R_drew));exact Kd.R_mono HO151.out (fun _ hk => hk.1),by repeat (first|(with_reducible first|exact HB.out|apply below_alloc|apply pw_below_drewN|apply below_drew1)|exact HB.out),by repeat (first|(with_reducible first|exact HK.out|apply Kept.alloc|apply Kept.drewN|apply Kept.drew)|exact HK.out)⟩
       ·rw [if_neg c20] at H
        exact absurd H (by simp)
      ·rw [if_neg c19] at H
       have c19b0:decide (((a1) % 4294967296)≤1114111)=false:=decide_eq_false c19
       clear c19
       obtain ⟨y152,hy152⟩:∃ y_:List Int,y_=(([239,191,189]:List Int)):=⟨_,rfl⟩
       replace H:(if l0.length + y152.length < 140737488355328 then (some (l0++y152)) else (none))=some r:=by first|(rw [hy152];with_reducible exact H)|(have H2_:=(Option.bind_some _ _).symm.trans H;rw [hy152];with_reducible exact H2_)|(have H2_:=(Option.bind_some _ _).symm.trans H;with_reducible exact H2_)|with_reducible exact H|(rw [hy152];exact H)|exact H
       have Ny152:=Aside0.mk hy152
       clear hy152
       by_cases c25:l0.length + y152.length < 140737488355328
       ·rw [if_pos c25] at H
        have LMc25:=Aside0.mk c25
        clear c25
        obtain ⟨y155,hy155⟩:∃ y_:List Int,y_=(l0++y152):=⟨_,rfl⟩
        replace H:(some y155)=some r:=by first|(rw [hy155];with_reducible exact H)|(have H2_:=(Option.bind_some _ _).symm.trans H;rw [hy155];with_reducible exact H2_)|(have H2_:=(Option.bind_some _ _).symm.trans H;with_reducible exact H2_)|with_reducible exact H|(rw [hy155];exact H)|exact H
        have Ny155:=Aside0.mk hy155
        clear hy155
        obtain rfl:=Option.some.inj H
        go_wp2_with (first|((with_reducible refine gate_dst (N:=9) rfl ?_);refine Kd.R_lit (Kd.int .u8) _ 5 ?hg (N:=9) ?hd (xs:=([239,191,189]:List Int)) (inner:=[.int .u8 239,.int .u8 191,.int .u8 189]) (ok:=fun _ => True) (okp:=fun _ => True) ?hr ?hp (fun _ hk => hk) trivial (Below.refl _ _) (Nat.le_refl _) (by simp) ?_;(case hd => rfl);(case hg => rfl);(case hr => first|(go_simp;done)|(go_simp;rfl));(case hp => exact (Reps.one (show Kd.M (Kd.int .u8) _ _ _ 239 [.int .u8 239] from rfl) (Reps.one (show Kd.M (Kd.int .u8) _ _ _ 191 [.int .u8 191] from rfl) (Reps.one (show Kd.M (Kd.int .u8) _ _ _ 189 [.int .u8 189] from rfl) (Reps.none _ _)))));intro v153 w26 ho27 hb hg_ hnew_;clear hg_ hnew_;(first|rw [← Ny152.out] at ho27|(simp only [Int.reduceToNat] at ho27;rw [← Ny152.out] at ho27));have n0_:=Aside0.mk (Kd.R_elder' (by (with_reducible repeat (first|apply Kd.R_alloc|apply Kd.R_drewN|apply Kd.R_drew));exact HO_0.out) (Kd.R_base ho27) hb);have n1_:=Aside0.mk (Kd.R_lower (Kd.R_new' (Kd.R_newM (M:=fun k_ => (P0_ k_ ∨ w.heap.size≤k_)) ho27 (by first|exact HK.out.1|exact (show Kept w _ (fun k_ => P0_ k_) from by repeat (first|(with_reducible first|exact HK.out|apply Kept.alloc|apply Kept.drewN|apply Kept.drew)|exact HK.out)).1) (fun k_ h_ => .inr h_)) (Kd.R_lt (by (with_reducible repeat (first|apply Kd.R_alloc|apply Kd.R_drewN|apply Kd.R_drew));exact HO_0.out))) (below_size (by repeat (first|(with_reducible first|exact HB.out|apply below_alloc|apply pw_below_drewN|apply below_drew1)|exact HB.out))));have n2_:=Aside0.mk (Kept.below (S:=(fun k_ => P0_ k_)) (by repeat (first|(with_reducible first|exact HK.out|apply Kept.alloc|apply Kept.drewN|apply Kept.drew)|exact HK.out)) hb);have n3_:=Aside0.mk (below_step (by repeat (first|(with_reducible first|exact HB.out|apply below_alloc|apply pw_below_drewN|apply below_drew1)|exact HB.out)) hb);clear HO_0;clear HK;clear HB;have HO_0:=n0_;have HO154:=n1_;have HK:=n2_;have HB:=n3_;clear n0_ n1_ n2_ n3_;clear hb ho27;obtain ⟨Ao29,co29,eo29⟩:=Kd.R_slice HO154.out;subst eo29)|((with_reducible refine gate_builtin (b:=.append) (xs:=#[.tmp 8,.tmp 9]) rfl ?_);at_builtin;refine Kd.R_append_rows (Kd.int .u8) (w0:=w0) w0.heap.size rfl (.tmp 8) (.tmp 9) 34 5 (.int .u8 0) 1 rfl Tryd.underlying34 info5 rfl (by decide) (by omega) u9000_ l0 y152 _ _ _ (fun k_ => (P0_ k_ ∨ w.heap.size≤k_)∧some k_ ≠ (.slice Ao29 y152.length co29:Value).ownBlock) (fun _ => False) rfl rfl ?aO ?aR (fun _ _ h => h) (fun _ h => h.elim) ?aF ?aB ?aS ?aL ?_;(case aR => repeat (first|exact (Kd.R_reads' HO154.out).2.2|(with_reducible refine Kd.C_alloc ?_ _)|(with_reducible refine Kd.C_drewN ?_ _)|(with_reducible refine Kd.C_drew ?_)));(case aB => exact (by repeat (first|(with_reducible first|exact HB.out|apply below_alloc|apply pw_below_drewN|apply below_drew1)|exact HB.out)));(case aF => exact (fun k_ hk => ⟨(.inr (Nat.le_trans (by first|exact HK.out.1|exact (show Kept w _ (fun k_ => P0_ k_) from by repeat (first|(with_reducible first|exact HK.out|apply Kept.alloc|apply Kept.drewN|apply Kept.drew)|exact HK.out)).1) hk)),Kd.fresh' (Kd.R_lt (by (with_reducible repeat (first|apply Kd.R_alloc|apply Kd.R_drewN|apply Kd.R_drew));exact HO154.out)) k_ hk⟩));(case aO => exact (by (with_reducible repeat (first|apply Kd.R_alloc|apply Kd.R_drewN|apply Kd.R_drew));exact HO_0.out));(case aS => exact (below_size (by repeat (first|(with_reducible first|exact HB.out|apply below_alloc|apply pw_below_drewN|apply below_drew1)|exact HB.out))));(case aL => have:=LMc25.out;omega);intro v156 w28 ho hb hg hat;rw [← Ny155.out] at ho;have n0_:=Aside0.mk (Kd.R_after (ok:=(fun k_ => (P0_ k_ ∨ w.heap.size≤k_))) (by (with_reducible repeat (first|apply Kd.R_alloc|apply Kd.R_drewN|apply Kd.R_drew));exact Kd.R_mono HO154.out (fun _ hk => ⟨hk.1.1,hk.2⟩)) hg hat);have n1_:=Aside0.mk (hb);have n2_:=Aside0.mk (Kept.of_grown (S:=(fun k_ => P0_ k_)) hg (by repeat (first|(with_reducible first|exact HK.out|apply Kept.alloc|apply Kept.drewN|apply Kept.drew)|exact HK.out)) (fun k_ e_ => (HO_0.out.1 k_ e_).1));have n3_:=Aside0.mk (ho);clear HO154;clear HB;clear HK;clear HO_0;have HO154:=n0_;have HB:=n1_;have HK:=n2_;have HO157:=n3_;clear n0_ n1_ n2_ n3_;clear ho hb hg hat))
        go_ret
        exact ⟨_,by first|rfl|(simp [errW_none,errW_some] <;> rfl)|(simp [*,errW_none,errW_some] <;> rfl),by (with_reducible repeat (first|apply Kd.R_alloc|apply Kd.R_drewN|apply Kd.R_drew));exact Kd.R_mono HO157.out (fun _ hk => hk.1),by repeat (first|(with_reducible first|exact HB.out|apply below_alloc|apply pw_below_drewN|apply below_drew1)|exact HB.out),by repeat (first|(with_reducible first|exact HK.out|apply Kept.alloc|apply Kept.drewN|apply Kept.drew)|exact HK.out)⟩
       ·rw [if_neg c25] at H
        exact absurd H (by simp)
     ·rw [if_neg c18] at H
      have c18b0:decide (65535 < ((a1) % 4294967296))=false:=decide_eq_false c18
      clear c18
      obtain ⟨y158,hy158⟩:∃ y_:List Int,y_=(([239,191,189]:List Int)):=⟨_,rfl⟩
      replace H:(if l0.length + y158.length < 140737488355328 then (some (l0++y158)) else (none))=some r:=by first|(rw [hy158];with_reducible exact H)|(have H2_:=(Option.bind_some _ _).symm.trans H;rw [hy158];with_reducible exact H2_)|(have H2_:=(Option.bind_some _ _).symm.trans H;with_reducible exact H2_)|with_reducible exact H|(rw [hy158];exact H)|exact H
      have Ny158:=Aside0.mk hy158
      clear hy158
      by_cases c30:l0.length + y158.length < 140737488355328
      ·rw [if_pos c30] at H
       have LMc30:=Aside0.mk c30
       clear c30
       obtain ⟨y161,hy161⟩:∃ y_:List Int,y_=(l0++y158):=⟨_,rfl⟩
       replace H:(some y161)=some r:=by first|(rw [hy161];with_reducible exact H)|(have H2_:=(Option.bind_some _ _).symm.trans H;rw [hy161];with_reducible exact H2_)|(have H2_:=(Option.bind_some _ _).symm.trans H;with_reducible exact H2_)|with_reducible exact H|(rw [hy161];exact H)|exact H
       have Ny161:=Aside0.mk hy161
       clear hy161
       obtain rfl:=Option.some.inj H
       go_wp2_with (first|((with_reducible refine gate_dst (N:=9) rfl ?_);refine Kd.R_lit (Kd.int .u8) _ 5 ?hg (N:=9) ?hd (xs:=([239,191,189]:List Int)) (inner:=[.int .u8 239,.int .u8 191,.int .u8 189]) (ok:=fun _ => True) (okp:=fun _ => True) ?hr ?hp (fun _ hk => hk) trivial (Below.refl _ _) (Nat.le_refl _) (by simp) ?_;(case hd => rfl);(case hg => rfl);(case hr => first|(go_simp;done)|(go_simp;rfl));(case hp => exact (Reps.one (show Kd.M (Kd.int .u8) _ _ _ 239 [.int .u8 239] from rfl) (Reps.one (show Kd.M (Kd.int .u8) _ _ _ 191 [.int .u8 191] from rfl) (Reps.one (show Kd.M (Kd.int .u8) _ _ _ 189 [.int .u8 189] from rfl) (Reps.none _ _)))));intro v159 w31 ho32 hb hg_ hnew_;clear hg_ hnew_;(first|rw [← Ny158.out] at ho32|(simp only [Int.reduceToNat] at ho32;rw [← Ny158.out] at ho32));have n0_:=Aside0.mk (Kd.R_elder' (by (with_reducible repeat (first|apply Kd.R_alloc|apply Kd.R_drewN|apply Kd.R_drew));exact HO_0.out) (Kd.R_base ho32) hb);have n1_:=Aside0.mk (Kd.R_lower (Kd.R_new' (Kd.R_newM (M:=fun k_ => (P0_ k_ ∨ w.heap.size≤k_)) ho32 (by first|exact HK.out.1|exact (show Kept w _ (fun k_ => P0_ k_) from by repeat (first|(with_reducible first|exact HK.out|apply Kept.alloc|apply Kept.drewN|apply Kept.drew)|exact HK.out)).1) (fun k_ h_ => .inr h_)) (Kd.R_lt (by (with_reducible repeat (first|apply Kd.R_alloc|apply Kd.R_drewN|apply Kd.R_drew));exact HO_0.out))) (below_size (by repeat (first|(with_reducible first|exact HB.out|apply below_alloc|apply pw_below_drewN|apply below_drew1)|exact HB.out))));have n2_:=Aside0.mk (Kept.below (S:=(fun k_ => P0_ k_)) (by repeat (first|(with_reducible first|exact HK.out|apply Kept.alloc|apply Kept.drewN|apply Kept.drew)|exact HK.out)) hb);have n3_:=Aside0.mk (below_step (by repeat (first|(with_reducible first|exact HB.out|apply below_alloc|apply pw_below_drewN|apply below_drew1)|exact HB.out)) hb);clear HO_0;clear HK;clear HB;have HO_0:=n0_;have HO160:=n1_;have HK:=n2_;have HB:=n3_;clear n0_ n1_ n2_ n3_;clear hb ho32;obtain ⟨Ao34,co34,eo34⟩:=Kd.R_slice HO160.out;subst eo34)|((with_reducible refine gate_builtin (b:=.append) (xs:=#[.tmp 8,.tmp 9]) rfl ?_);at_builtin;refine Kd.R_append_rows (Kd.int .u8) (w0:=w0) w0.heap.size rfl (.tmp 8) (.tmp 9) 34 5 (.int .u8 0) 1 rfl Tryd.underlying34 info5 rfl (by decide) (by omega) u9000_ l0 y158 _ _ _ (fun k_ => (P0_ k_ ∨ w.heap.size≤k_)∧some k_ ≠ (.slice Ao34 y158.length co34:Value).ownBlock) (fun _ => False) rfl rfl ?aO ?aR (fun _ _ h => h) (fun _ h => h.elim) ?aF ?aB ?aS ?aL ?_;(case aR => repeat (first|exact (Kd.R_reads' HO160.out).2.2|(with_reducible refine Kd.C_alloc ?_ _)|(with_reducible refine Kd.C_drewN ?_ _)|(with_reducible refine Kd.C_drew ?_)));(case aB => exact (by repeat (first|(with_reducible first|exact HB.out|apply below_alloc|apply pw_below_drewN|apply below_drew1)|exact HB.out)));(case aF => exact (fun k_ hk => ⟨(.inr (Nat.le_trans (by first|exact HK.out.1|exact (show Kept w _ (fun k_ => P0_ k_) from by repeat (first|(with_reducible first|exact HK.out|apply Kept.alloc|apply Kept.drewN|apply Kept.drew)|exact HK.out)).1) hk)),Kd.fresh' (Kd.R_lt (by (with_reducible repeat (first|apply Kd.R_alloc|apply Kd.R_drewN|apply Kd.R_drew));exact HO160.out)) k_ hk⟩));(case aO => exact (by (with_reducible repeat (first|apply Kd.R_alloc|apply Kd.R_drewN|apply Kd.R_drew));exact HO_0.out));(case aS => exact (below_size (by repeat (first|(with_reducible first|exact HB.out|apply below_alloc|apply pw_below_drewN|apply below_drew1)|exact HB.out))));(case aL => have:=LMc30.out;omega);intro v162 w33 ho hb hg hat;rw [← Ny161.out] at ho;have n0_:=Aside0.mk (Kd.R_after (ok:=(fun k_ => (P0_ k_ ∨ w.heap.size≤k_))) (by (with_reducible repeat (first|apply Kd.R_alloc|apply Kd.R_drewN|apply Kd.R_drew));exact Kd.R_mono HO160.out (fun _ hk => ⟨hk.1.1,hk.2⟩)) hg hat);have n1_:=Aside0.mk (hb);have n2_:=Aside0.mk (Kept.of_grown (S:=(fun k_ => P0_ k_)) hg (by repeat (first|(with_reducible first|exact HK.out|apply Kept.alloc|apply Kept.drewN|apply Kept.drew)|exact HK.out)) (fun k_ e_ => (HO_0.out.1 k_ e_).1));have n3_:=Aside0.mk (ho);clear HO160;clear HB;clear HK;clear HO_0;have HO160:=n0_;have HB:=n1_;have HK:=n2_;have HO163:=n3_;clear n0_ n1_ n2_ n3_;clear ho hb hg hat))
       go_ret
       exact ⟨_,by first|rfl|(simp [errW_none,errW_some] <;> rfl)|(simp [*,errW_none,errW_some] <;> rfl),by (with_reducible repeat (first|apply Kd.R_alloc|apply Kd.R_drewN|apply Kd.R_drew));exact Kd.R_mono HO163.out (fun _ hk => hk.1),by repeat (first|(with_reducible first|exact HB.out|apply below_alloc|apply pw_below_drewN|apply below_drew1)|exact HB.out),by repeat (first|(with_reducible first|exact HK.out|apply Kept.alloc|apply Kept.drewN|apply Kept.drew)|exact HK.out)⟩
      ·rw [if_neg c30] at H
       exact absurd H (by simp)
def utf8_AppendRune.f (k:Nat) (l0:List Int) (a1:Int):Option (List Int):=if ((a1) % 4294967296)≤127 then (if l0.length < 140737488355328 then (some (l0++[(a1) % 256])) else (none)) else ((utf8_appendRuneNonASCII.f k l0 a1).bind fun t167 => (some t167))
theorem utf8_AppendRune.mono:∀ a0 a1 k,LeO (utf8_AppendRune.f k a0 a1) (utf8_AppendRune.f (k + 1) a0 a1):=by
 intro a0 a1 k
 unfold utf8_AppendRune.f
 repeat' first
   | (with_reducible exact utf8_appendRuneNonASCII.mono _ _ _)
   | (with_reducible exact LeO.refl _)
   | (with_reducible exact LeO.none _)
   | (with_reducible refine LeO.ite ?_ ?_)
   | (with_reducible refine LeO.bind ?_ (fun _ => ?_))
   | exact utf8_appendRuneNonASCII.mono _ _ _
   | exact LeO.none _
   | refine LeO.ite ?_ ?_
   | refine LeO.bind ?_ (fun _ => ?_)
set_option maxHeartbeats 80000000 in
set_option maxRecDepth 100000 in
theorem utf8_AppendRune.calls (k:Nat) (P0_:Nat→Prop) (u9000_:Value) (l0:List Int) (a1:Int) (r:List Int) (w0 w:World) (hB:Below w0.heap.size w0 w) (ho0:Kd.R (Kd.int .u8) 5 w w0.heap.size P0_ u9000_ l0) (h:utf8_AppendRune.f k l0 a1=some r) :
  Calls Tryd.prog 74 #[u9000_,.int .i32 a1] w fun e w' => ∃ v0_:Value,e=.returned (v0_)∧Kd.R (Kd.int .u8) 5 w' w0.heap.size (fun k_ => (P0_ k_ ∨ w.heap.size≤k_)) v0_ r∧Below w0.heap.size w0 w'∧Kept w w' (fun k_ => P0_ k_):=by
 have HO0:=Aside0.mk (show Kd.R (Kd.int .u8) 5 w w0.heap.size (fun k_ => (P0_ k_ ∨ w.heap.size≤k_)) u9000_ l0 from Kd.R_mono ho0 (fun k_ hk => (.inl hk)))
 have HK:=Aside0.mk (Kept.refl w (fun k_ => P0_ k_))
 have HW0:=Aside0.mk hB.size
 have HB:=Aside0.mk hB
 clear hB
 have H:(if ((a1) % 4294967296)≤127 then (if l0.length < 140737488355328 then (some (l0++[(a1) % 256])) else (none)) else ((utf8_appendRuneNonASCII.f k l0 a1).bind fun t167 => (some t167)))=some r:=h
 clear h
 by_cases c3:((a1) % 4294967296)≤127
 ·rw [if_pos c3] at H
  have c3b0:decide (((a1) % 4294967296)≤127)=true:=decide_eq_true c3
  clear c3
  by_cases c4:l0.length < 140737488355328
  ·rw [if_pos c4] at H
   have LMc4:=Aside0.mk c4
   clear c4
   obtain ⟨y164,hy164⟩:∃ y_:List Int,y_=(l0++[(a1) % 256]):=⟨_,rfl⟩
   replace H:(some y164)=some r:=by first|(rw [hy164];with_reducible exact H)|(have H2_:=(Option.bind_some _ _).symm.trans H;rw [hy164];with_reducible exact H2_)|(have H2_:=(Option.bind_some _ _).symm.trans H;with_reducible exact H2_)|with_reducible exact H|(rw [hy164];exact H)|exact H
   have Ny164:=Aside0.mk hy164
   clear hy164
   obtain rfl:=Option.some.inj H
   go_enter Tryd.func74,Tryd.ntmps74
   go_wp2_with (first|((with_reducible refine gate_builtin (b:=.append) (xs:=#[.tmp 8,.tmp 11]) rfl ?_);at_builtin;refine Kd.R_append (Kd.int .u8) (w0:=w0) w0.heap.size rfl (.tmp 8) (.tmp 11) 34 5 (.int .u8 0) 1 rfl Tryd.underlying34 info5 rfl (by decide) (by omega) u9000_ l0 ((a1) % 256) [.int .u8 ((a1) % 256)] (fun k_ => (P0_ k_ ∨ w.heap.size≤k_)) (fun _ => False) rfl rfl ?aP (fun _ hk => hk.elim) ?aF ?aO ?aB ?aS ?aL ?_;(case aP => exact rfl);(case aB => exact (by repeat (first|(with_reducible first|exact HB.out|apply below_alloc|apply pw_below_drewN|apply below_drew1)|exact HB.out)));(case aF => exact (fun k_ hk => (.inr (Nat.le_trans (by first|exact HK.out.1|exact (show Kept w _ (fun k_ => P0_ k_) from by repeat (first|(with_reducible first|exact HK.out|apply Kept.alloc|apply Kept.drewN|apply Kept.drew)|exact HK.out)).1) hk))));(case aO => exact (by (with_reducible repeat (first|apply Kd.R_alloc|apply Kd.R_drewN|apply Kd.R_drew));exact HO0.out));(case aS => exact (below_size (by repeat (first|(with_reducible first|exact HB.out|apply below_alloc|apply pw_below_drewN|apply below_drew1)|exact HB.out))));(case aL => have:=LMc4.out;omega);intro v165 w5 ho hb hg hat;rw [← Ny164.out] at ho;have n0_:=Aside0.mk (hb);have n1_:=Aside0.mk (Kept.of_grown (S:=(fun k_ => P0_ k_)) hg (by repeat (first|(with_reducible first|exact HK.out|apply Kept.alloc|apply Kept.drewN|apply Kept.drew)|exact HK.out)) (fun k_ e_ => (HO0.out.1 k_ e_)));have n2_:=Aside0.mk (ho);clear HB;clear HK;clear HO0;have HB:=n0_;have HK:=n1_;have HO166:=n2_;clear n0_ n1_ n2_;clear ho hb hg hat))
   go_ret
   exact ⟨_,by first|rfl|(simp [errW_none,errW_some] <;> rfl)|(simp [*,errW_none,errW_some] <;> rfl),by (with_reducible repeat (first|apply Kd.R_alloc|apply Kd.R_drewN|apply Kd.R_drew));exact HO166.out,by repeat (first|(with_reducible first|exact HB.out|apply below_alloc|apply pw_below_drewN|apply below_drew1)|exact HB.out),by repeat (first|(with_reducible first|exact HK.out|apply Kept.alloc|apply Kept.drewN|apply Kept.drew)|exact HK.out)⟩
  ·rw [if_neg c4] at H
   exact absurd H (by simp)
 ·rw [if_neg c3] at H
  have c3b0:decide (((a1) % 4294967296)≤127)=false:=decide_eq_false c3
  clear c3
  replace H:=Option.bind_eq_some_iff.mp H
  obtain ⟨t167,A60,H⟩:=H
  replace H:(some t167)=some r:=H
  have A6:=Aside0.mk A60
  clear A60
  obtain rfl:=Option.some.inj H
  obtain ⟨Ao7,co7,eo7⟩:=Kd.R_slice HO0.out
  subst eo7
  go_enter Tryd.func74,Tryd.ntmps74
  go_wp2_with (first|((with_reducible refine gate_callee (f:=76) rfl ?_);refine goesL_ (some 15) rfl rfl Tryd.func76 (by kernel_rfl) rfl #[.slice Ao7 l0.length co7,.int .i32 a1] rfl (by (try simp only [List.map_toArray,List.map_cons,List.map_nil]);first|done|rfl|(simp only [List.length_drop,List.length_take];rfl)) ?_;(with_reducible refine (utf8_appendRuneNonASCII.calls k (fun k_ => some k_=(.slice Ao7 l0.length co7:Value).ownBlock) (.slice Ao7 l0.length co7) l0 a1 t167 w0 _ ?side1 ?side2 A6.out).mono ?_);(case side1 => repeat (first|(with_reducible first|exact HB.out|apply below_alloc|apply pw_below_drewN|apply below_drew1)|exact HB.out));(case side2 => exact Kd.R_tight rfl HO0.out);rintro e w8 ⟨v168,rfl,ho0,hb,hkp⟩;refine ⟨_,rfl,?_⟩;have n0_:=Aside0.mk (Kd.R_mono (ok':=fun k_ => (P0_ k_ ∨ w.heap.size≤k_)) ho0 (fun k_ hk_ => Or.elim hk_ (fun hs_ => (HO0.out.1 k_ (hs_).symm)) (fun hn_ => (.inr (Nat.le_trans (by first|exact HK.out.1|exact (show Kept w _ (fun k_ => P0_ k_) from by repeat (first|(with_reducible first|exact HK.out|apply Kept.alloc|apply Kept.drewN|apply Kept.drew)|exact HK.out)).1) hn_)))));have n1_:=Aside0.mk (Kept.then_ (S:=(fun k_ => P0_ k_)) (by repeat (first|(with_reducible first|exact HK.out|apply Kept.alloc|apply Kept.drewN|apply Kept.drew)|exact HK.out)) hkp (fun k_ hs_ => (fun e_ => (HO0.out.1 k_ e_.symm)) hs_));have n2_:=Aside0.mk (hb);clear HK;clear HB;clear HO0;have HO169:=n0_;have HK:=n1_;have HB:=n2_;clear n0_ n1_ n2_;(try clear hb);(try clear hkp);(try clear ho0)))
  go_ret
  exact ⟨_,by first|rfl|(simp [errW_none,errW_some] <;> rfl)|(simp [*,errW_none,errW_some] <;> rfl),by (with_reducible repeat (first|apply Kd.R_alloc|apply Kd.R_drewN|apply Kd.R_drew));exact HO169.out,by repeat (first|(with_reducible first|exact HB.out|apply below_alloc|apply pw_below_drewN|apply below_drew1)|exact HB.out),by repeat (first|(with_reducible first|exact HK.out|apply Kept.alloc|apply Kept.drewN|apply Kept.drew)|exact HK.out)⟩
end Go.Proofs.YtglnhkgodgjepaaDoor.Px
namespace Go.Proofs.YtglnhkgodgjepaaDoor.Px
open Go.RowKit Go.Proofs.YtglnhkgodgjepaaDoorW.PrintWords Go.Proofs.YtglnhkgodgjepaaDoorW.PrintLast Go.Proofs.YtglnhkgodgjepaaDoorW.PrintMore
attribute [local go_sem] max2_int min2_int max_two min_two max_three min_three max_four min_four
set_option linter.unusedVariables false
set_option linter.unusedSimpArgs false
def wire_gather_int64.l0:Nat→Int→List Int→Int→Int→Option (Int)
 | 0,_,_,_,_ => none
 | k + 1,x1,x7,x8,x9 => if x9 < x8 then (if 0≤x9 then (if x9 < (x7.length:Int) then (wire_gather_int64.l0 k (Go.bits .or .i64 (wrap64 (x1 * 256)) (wrap64 (rd x7 x9))) x7 x8 (wrap64 (x9 + 1))) else (none)) else (none)) else (some x1)
def wire_gather_int64.f (k:Nat) (l0:List Int) (a1:Int):Option (Int):=wire_gather_int64.l0 k a1 l0 (l0.length:Int) 0
theorem wire_gather_int64.mono_l:∀ k,(∀ y0 y1 y2 y3,LeO (wire_gather_int64.l0 k y0 y1 y2 y3) (wire_gather_int64.l0 (k + 1) y0 y1 y2 y3))
 | 0 => fun _ _ _ _ r h => by simp [wire_gather_int64.l0] at h
 | k + 1 => by
  have ih0:=wire_gather_int64.mono_l k
  ·intro y0 y1 y2 y3
   unfold wire_gather_int64.l0
   repeat' first
   | (with_reducible exact ih0 _ _ _ _)
   | (with_reducible exact LeO.refl _)
   | (with_reducible exact LeO.none _)
   | (with_reducible refine LeO.ite ?_ ?_)
   | (with_reducible refine LeO.bind ?_ (fun _ => ?_))
   | exact ih0 _ _ _ _
   | exact LeO.none _
   | refine LeO.ite ?_ ?_
   | refine LeO.bind ?_ (fun _ => ?_)
theorem wire_gather_int64.mono:∀ a0 a1 k,LeO (wire_gather_int64.f k a0 a1) (wire_gather_int64.f (k + 1) a0 a1):=by
 intro a0 a1 k
 have ih0:=wire_gather_int64.mono_l k
 unfold wire_gather_int64.f
 repeat' first
   | (with_reducible exact ih0 _ _ _ _)
   | (with_reducible exact LeO.refl _)
   | (with_reducible exact LeO.none _)
   | (with_reducible refine LeO.ite ?_ ?_)
   | (with_reducible refine LeO.bind ?_ (fun _ => ?_))
   | exact ih0 _ _ _ _
   | exact LeO.none _
   | refine LeO.ite ?_ ?_
   | refine LeO.bind ?_ (fun _ => ?_)
set_option maxHeartbeats 80000000 in
set_option maxRecDepth 100000 in
theorem wire_gather_int64.calls (k:Nat) (A0:Option Addr) (c0:Nat) (l0:List Int) (a1:Int) (r:Int) (w:World) (hr0:Kd.C (Kd.int .u8) w A0 l0.length l0) (hc0:l0.length≤c0) (h:wire_gather_int64.f k l0 a1=some r) :
  Calls Tryd.prog 70 #[.slice A0 l0.length c0,.int .i64 a1] w fun e w' => e=.returned (.int .i64 r)∧Drawn0 w w':=by
 have HR0:=Aside0.mk hr0
 have HC0:=Aside0.mk hc0
 clear hr0 hc0
 have H:(wire_gather_int64.l0 k a1 l0 (l0.length:Int) 0)=some r:=h
 clear h
 have H':=Aside0.mk H
 clear H
 go_enter Tryd.func70,Tryd.ntmps70
 go_wp2
 go_loopg [1,9] k (fun kq v1 v9 w' => ∃ (x1_1:Int) (x9_1:Int),v1=.int .i64 x1_1∧v9=.int .i64 x9_1∧Aside0 (wire_gather_int64.l0 kq x1_1 l0 (l0.length:Int) x9_1=some r)∧Aside0 (kq≤k)∧Drawn0 w w')
 case atStart => exact ⟨(a1),(0),(by first|rfl|(simp;done)|(simp [*];done)),(by first|rfl|(simp;done)|(simp [*];done)),H',⟨Nat.le_refl _⟩,by repeat (first|exact Drawn0.refl _|apply Drawn0.step)⟩
 case round =>
  clear H'
  try clear p2
  obtain ⟨x1_1,x9_1,rfl,rfl,HA,HK1,⟨m1,rfl⟩⟩:=hrel
  cases gk with
  | zero => exact absurd HA.out (by simp [wire_gather_int64.l0])
  | succ k1 =>
   have H:=HA.out
   clear HA
   simp only [wire_gather_int64.l0] at H
   by_cases c3:x9_1 < (l0.length:Int)
   ·rw [if_pos c3] at H
    have c3b0:decide (x9_1 < (l0.length:Int))=true:=decide_eq_true c3
    clear c3
    by_cases c4:0≤x9_1
    ·rw [if_pos c4] at H
     have c4b0:decide (0≤x9_1)=true:=decide_eq_true c4
     clear c4
     by_cases c5:x9_1 < (l0.length:Int)
     ·rw [if_pos c5] at H
      have c5b0:decide (x9_1 < (l0.length:Int))=true:=decide_eq_true c5
      clear c5
      have H':=Aside0.mk H
      clear H
      have p170:0≤(x9_1:Int):=of_decide_eq_true (by first|(with_reducible assumption)|assumption)
      have q170:x9_1 < (l0.length:Int):=of_decide_eq_true (by first|(with_reducible assumption)|assumption)
      obtain ⟨ad170,e170,hx170_0⟩:=Kd.at_int HR0.out x9_1 p170 q170
      cases e170
      replace p170:=eq_true p170
      replace q170:=eq_true q170
      go_wp2
      go_roundg k1
      case measure => have:=HK1.out;omega
      case rel => exact ⟨(Go.bits .or .i64 (wrap64 (x1_1 * 256)) (wrap64 (rd l0 x9_1))),(wrap64 (x9_1 + 1)),(by first|rfl|(simp;done)|(simp [*];done)),(by first|rfl|(simp;done)|(simp [*];done)),H',⟨by have:=HK1.out;omega⟩,by repeat (first|exact Drawn0.refl _|apply Drawn0.step)⟩
     ·rw [if_neg c5] at H
      exact absurd H (by simp)
    ·rw [if_neg c4] at H
     exact absurd H (by simp)
   ·rw [if_neg c3] at H
    have c3b0:decide (x9_1 < (l0.length:Int))=false:=decide_eq_false c3
    clear c3
    obtain rfl:=Option.some.inj H
    go_wp2
    go_ret
    exact ⟨by first|rfl|(simp;done)|(simp [*];done),by repeat (first|exact Drawn0.refl _|apply Drawn0.step)⟩
end Go.Proofs.YtglnhkgodgjepaaDoor.Px
namespace Go.Proofs.YtglnhkgodgjepaaDoor.Px
open Go.RowKit Go.Proofs.YtglnhkgodgjepaaDoorW.PrintWords Go.Proofs.YtglnhkgodgjepaaDoorW.PrintLast Go.Proofs.YtglnhkgodgjepaaDoorW.PrintMore
set_option linter.unusedVariables false
set_option linter.unusedSimpArgs false
structure IsRd (B:Nat) (w:World) (g:Nat) (bs:List Int) (p:Nat):Prop where
 ge:B≤g
 blk:∃ v,w.heap[g]?=some (.cells #[v,.int .i64 (p:Int),.bool true] 108 (0,0))∧Kd.R (Kd.int .u8) 5 w B (fun _ => True) v bs
 hi:p≤bs.length
structure RdStep (B:Nat) (w w':World) (g:Nat):Prop where
 below:Below B w w'
 keep:KeepBut w w' g none
def rdL (bs:List Int) (p n:Nat):List Int:=if p + n≤bs.length then (bs.take (p + n)).drop p else []
def rdE (bs:List Int) (p n:Nat):Int:=if p + n≤bs.length then 0 else 3
def rdP (bs:List Int) (p n:Nat):Nat:=if p + n≤bs.length then p + n else p
theorem IsRd.lt {B:Nat} {w:World} {g:Nat} {bs:List Int} {p:Nat} (h:IsRd B w g bs p):g < w.heap.size:=by obtain ⟨v,hb,_⟩:=h.blk;exact blk_lt hb
theorem IsRd.base_le {B:Nat} {w:World} {g:Nat} {bs:List Int} {p:Nat} (h:IsRd B w g bs p):B≤w.heap.size:=Nat.le_trans h.ge (Nat.le_of_lt h.lt)
theorem IsRd.below {B:Nat} {w w1:World} {g:Nat} {bs:List Int} {p:Nat} (h:IsRd B w g bs p) (hb:Below w.heap.size w w1):IsRd B w1 g bs p:=by
 obtain ⟨v,hk,hr⟩:=h.blk
 exact ⟨h.ge,⟨v,(hb.block g h.lt).trans hk,Kd.R_below hr hb⟩,h.hi⟩
theorem IsRd.drewN {B:Nat} {w:World} {g:Nat} {bs:List Int} {p:Nat} (h:IsRd B w g bs p) (n:Nat):IsRd B (w.drewN n) g bs p:=h.below (pw_below_drewN (Below.refl _ _) n)
theorem IsRd.far {B:Nat} {w:World} {g k t:Nat} {bs:List Int} {p:Nat} {cs:Array Value} (h:IsRd B w g bs p) (hb:w.heap[k]?=some (.cells cs t (0,0))) (ht:t ≠ 108) (ht2:5 ≠ t) (j:Nat) (u:Value):IsRd B (w.setCell ⟨k,j,none⟩ u) g bs p:=by
 obtain ⟨v,hk,hr⟩:=h.blk
 exact ⟨h.ge,⟨v,blk_far hk (blk_ne hk hb (fun e => ht e.symm)) u,Kd.R_set hr hb (by intro q hq;rcases List.mem_cons.1 hq with rfl|hq;exact ht2;cases hq) j u⟩,h.hi⟩
theorem RdStep.refl (B:Nat) (w:World) (g:Nat):RdStep B w w g:=⟨Below.refl _ _,KeepBut.refl _ _ _⟩
theorem RdStep.drewN (B:Nat) (w:World) (g n:Nat):RdStep B w (w.drewN n) g:=⟨pw_below_drewN (Below.refl _ _) n,⟨Nat.le_refl _,fun _ _ _ _ => rfl⟩⟩
theorem RdStep.trans {B:Nat} {w w1 w2:World} {g:Nat} (h:RdStep B w w1 g) (k:RdStep B w1 w2 g):RdStep B w w2 g:=⟨h.below.trans k.below,h.keep.trans k.keep (.inl rfl)⟩
theorem RdStep.blk {B:Nat} {w w1:World} {g k:Nat} {o:Obj} (h:RdStep B w w1 g) (hk:k ≠ g) (hb:w.heap[k]?=some o):w1.heap[k]?=some o:=(h.keep.2 k (blk_lt hb) hk (by simp)).trans hb
theorem RdStep.R {α:Type} {d:Kd α} {e:Nat} {B base:Nat} {w w1:World} {g:Nat} {u:Value} {ok:Nat→Prop} {xs:List α} (h:RdStep B w w1 g) (hr:d.R e w base ok u xs) (hg:g < base):d.R e w1 base ok u xs :=
 Kd.R_mono (Kd.R_step (Kd.R_bound hr) (fun k hk hl => h.keep.2 k hl (by have:=hk.2.1;omega) (by simp))) (fun k hk => hk.1)
def RdPost (B:Nat) (w:World) (g:Nat) (bs:List Int) (p:Nat) (w':World):Prop:=IsRd B w' g bs p∧RdStep B w w' g
def NextPost (B:Nat) (w:World) (g:Nat) (bs:List Int) (p n:Nat) (e:Ending) (w':World):Prop :=
 ∃ A c,e=.returned (.tuple #[.slice A (rdL bs p n).length c,.int .i64 (rdE bs p n)])∧(rdL bs p n).length≤c∧(Kd.int .u8).C w' A (rdL bs p n).length (rdL bs p n)∧RdPost B w g bs (rdP bs p n) w'
theorem rd_none (g:Nat) (w:World) (h:w.cell? ⟨g,2,none⟩=some (.bool true)):Calls Tryd.prog 59 #[.pointer (some ⟨g,0,none⟩)] w fun e w' => e=.returned (.bool false)∧w=w':=by
 go_enter Tryd.func59,Tryd.ntmps59
 go_wp2
 go_ret
 exact ⟨rfl,rfl⟩
theorem rd_moved {B:Nat} {w w1:World} {g:Nat} {bs:List Int} {p n m:Nat} (hw:w1=(w.drewN m).setCell ⟨g,1,none⟩ (.int .i64 ((p:Int) + (n:Int)))) (h:IsRd B w g bs p) (hi:p + n≤bs.length):IsRd B w1 g bs (p + n):=by
 obtain ⟨v,hb,hr⟩:=h.blk
 rw [hw]
 exact ⟨h.ge,⟨v,blk_set (w:=w.drewN m) hb 1 _,Kd.R_set (w:=w.drewN m) (Kd.R_drewN hr m) hb (by decide) 1 _⟩,hi⟩
theorem rd_movedS {B:Nat} {w w1:World} {g:Nat} {bs:List Int} {p m:Nat} {u:Value} (hw:w1=(w.drewN m).setCell ⟨g,1,none⟩ u) (h:IsRd B w g bs p):RdStep B w w1 g:=by
 rw [hw]
 exact ⟨(pw_below_drewN (Below.refl B w) m).setCell (p:=⟨g,1,none⟩) h.ge u,(show KeepBut w (w.drewN m) g none from ⟨Nat.le_refl _,fun _ _ _ _ => rfl⟩).set_ 1 u⟩
theorem rd_movedC {w w1:World} {g m B n c:Nat} {A:Option Addr} {u:Value} {cs:Array Value} {bs:List Int} (hw:w1=(w.drewN m).setCell ⟨g,1,none⟩ u) (hb:w.heap[g]?=some (.cells cs 108 (0,0))) (hr:Kd.R (Kd.int .u8) 5 w B (fun _ => True) (.slice A n c) bs):(Kd.int .u8).C w1 A bs.length bs:=by
 rw [hw]
 exact row_C (Kd.R_set (w:=w.drewN m) (Kd.R_drewN hr m) hb (by decide) 1 u)
theorem C_nil (w:World):(Kd.int .u8).C w none ([]:List Int).length []:=Kd.C_of_reads (d:=(0:Int)) ⟨rfl,by simp,fun h => absurd h (by simp)⟩
set_option maxHeartbeats 4000000 in
set_option maxRecDepth 100000 in
theorem rd_next.calls (B g:Nat) (bs:List Int) (p n:Nat) (lo hi:Int) (w:World) (hI:IsRd B w g bs p) (h1:lo≤n) (h2:n≤hi) (hl:bs.length≤140737488355328) (hn:n≤4611686018427387904) :
  Calls Tryd.prog 53 #[.pointer (some ⟨g,0,none⟩),.int .i64 n,.int .i64 lo,.int .i64 hi] w fun e w' => NextPost B w g bs p n e w':=by
 obtain ⟨v,hb,hr⟩:=hI.blk
 obtain ⟨A0,c0,rfl,hc0,hC⟩:=Kd.R_reads hr
 have c0':w.cell? ⟨g,0,none⟩=some (.slice A0 bs.length c0):=(blk_cell hb 0).trans rfl
 have c1':w.cell? ⟨g,1,none⟩=some (.int .i64 (p:Int)):=(blk_cell hb 1).trans rfl
 have c2':w.cell? ⟨g,2,none⟩=some (.bool true):=(blk_cell hb 2).trans rfl
 have f1':w.frozen? ⟨g,1,none⟩=false:=blk_frozen hb 1
 have t1:decide ((n:Int) < lo)=false:=decide_eq_false (by omega)
 have t2:decide (hi < (n:Int))=false:=decide_eq_false (by omega)
 have hp:=hI.hi
 have HI:=Aside0.mk hI
 have HBK:=Aside0.mk hb
 have HR:=Aside0.mk hr
 have HC:=Aside0.mk hC
 have HC0:=Aside0.mk hc0
 clear hI hb hr hC hc0
 by_cases hs:p + n≤bs.length
 ·have t3:decide ((bs.length:Int) - (p:Int) < (n:Int))=false:=decide_eq_false (by omega)
  have hw1:wrap64 ((p:Int) + (n:Int))=(p:Int) + (n:Int):=by unfold wrap64;omega
  have hw2:wrap64 ((p:Int) + (n:Int) - (n:Int))=(p:Int):=by unfold wrap64;omega
  have hw3:wrap64 ((bs.length:Int) - (p:Int))=(bs.length:Int) - (p:Int):=by unfold wrap64;omega
  obtain ⟨i0,hi0,_,hsz,_⟩:=info_parts info5
  obtain ⟨A',hsl,hrd,hcc⟩:=print_mid_of (P:=Tryd.prog) (Value.int .u8) (0:Int) 34 5 .i64 .i64 Tryd.underlying34 hi0 hsz A0 c0 bs (p:Int) ((p:Int) + (n:Int)) (by omega) (by omega) (by omega) HC0.out
  have HS:=Aside0.mk hs
  clear hs
  go_enter Tryd.func53,Tryd.ntmps53
  go_wp2_with (go_at_call 59;refine (rd_none g _ c2').mono ?_;rintro e w' ⟨rfl,rfl⟩)
  go_quiet (fail)
  go_wp2
  obtain ⟨w1,hw1⟩:∃ w1,w1=(w.drewN nq).setCell ⟨g,1,none⟩ (.int .i64 ((p:Int) + (n:Int))):=⟨_,rfl⟩
  rw [← hw1]
  have HI1:=Aside0.mk (rd_moved hw1 HI.out HS.out)
  have HST:=Aside0.mk (rd_movedS hw1 HI.out)
  have HC1:=Aside0.mk (show (Kd.int .u8).C w1 A0 bs.length bs from rd_movedC hw1 HBK.out HR.out)
  have k0:w1.cell? ⟨g,0,none⟩=some (.slice A0 bs.length c0):=by rw [hw1];exact (blk_cell (blk_set (w:=w.drewN nq) HBK.out 1 _) 0).trans rfl
  have k1:w1.cell? ⟨g,1,none⟩=some (.int .i64 ((p:Int) + (n:Int))):=by rw [hw1];exact (blk_cell (blk_set (w:=w.drewN nq) HBK.out 1 _) 1).trans rfl
  have HRD:=Aside0.mk hrd
  have HCC:=Aside0.mk hcc
  have hlen:((bs.take ((p:Int) + (n:Int)).toNat).drop (p:Int).toNat)=rdL bs p n:=by unfold rdL;rw [if_pos HS.out,show ((p:Int) + (n:Int)).toNat=p + n by omega,Int.toNat_natCast]
  rw [hlen] at hsl
  have HLN:=Aside0.mk hlen
  clear hw1 c0' c1' c2' f1' hrd hcc hlen
  go_quiet (fail)
  go_wp2
  go_ret2
  have e2:rdE bs p n=0:=if_pos HS.out
  have e3:rdP bs p n=p + n:=if_pos HS.out
  have h1:=HCC.out
  have h2:=HRD.out w1 (Kd.reads_of_C (d:=(0:Int)) HC1.out)
  rw [HLN.out] at h1 h2
  unfold NextPost RdPost
  rw [e2,e3]
  exact ⟨A',_,rfl,h1,Kd.C_below (Kd.C_of_reads h2) (pw_below_drewN (Below.refl _ _) _),HI1.out.drewN _,HST.out.trans (RdStep.drewN _ _ _ _)⟩
 ·have t3:decide ((bs.length:Int) - (p:Int) < (n:Int))=true:=decide_eq_true (by omega)
  have hw3:wrap64 ((bs.length:Int) - (p:Int))=(bs.length:Int) - (p:Int):=by unfold wrap64;omega
  have e1:rdL bs p n=[]:=if_neg hs
  have e2:rdE bs p n=3:=if_neg hs
  have e3:rdP bs p n=p:=if_neg hs
  have HE:=Aside0.mk e1
  have HE2:=Aside0.mk e2
  have HE3:=Aside0.mk e3
  clear hs e1 e2 e3
  go_enter Tryd.func53,Tryd.ntmps53
  go_wp2_with (go_at_call 59;refine (rd_none g _ c2').mono ?_;rintro e w' ⟨rfl,rfl⟩)
  go_quiet (fail)
  go_wp2
  go_ret2
  unfold NextPost RdPost
  rw [HE.out,HE2.out,HE3.out]
  exact ⟨none,0,rfl,Nat.le_refl _,C_nil _,HI.out.drewN _,RdStep.drewN _ _ _ _⟩
theorem RdPost.drewN {B:Nat} {w:World} {g:Nat} {bs:List Int} {p:Nat} {w1:World} (h:RdPost B w g bs p w1) (n:Nat):RdPost B w g bs p (w1.drewN n):=⟨h.1.drewN n,h.2.trans (RdStep.drewN _ _ _ _)⟩
def rd_Uint.f (k:Nat) (bs:List Int) (p n:Nat):Option (Int × Int × Nat):=(wire_gather_uint64.f k (rdL bs p n) 0).bind fun x => some (x,rdE bs p n,rdP bs p n)
theorem rd_Uint.mono (bs:List Int) (p n k:Nat):LeO (rd_Uint.f k bs p n) (rd_Uint.f (k + 1) bs p n):=LeO.bind (wire_gather_uint64.mono _ _ _) (fun _ => LeO.refl _)
set_option maxHeartbeats 4000000 in
set_option maxRecDepth 100000 in
theorem rd_Uint.calls (k B g:Nat) (bs:List Int) (p n:Nat) (r1 r2:Int) (r3:Nat) (w:World) (hI:IsRd B w g bs p) (h1:1≤n) (h8:n≤8) (hl:bs.length≤140737488355328) (h:rd_Uint.f k bs p n=some (r1,r2,r3)) :
  Calls Tryd.prog 32 #[.pointer (some ⟨g,0,none⟩),.int .i64 n] w fun e w' => e=.returned (.tuple #[.int .u64 r1,.int .i64 r2])∧RdPost B w g bs r3 w':=by
 obtain ⟨x,hx,h⟩:=Option.bind_eq_some_iff.mp h
 simp only [Option.some.injEq,Prod.mk.injEq] at h
 obtain ⟨rfl,rfl,rfl⟩:=h
 have HN:=Aside0.mk (rd_next.calls B g bs p n 1 8 w hI (by omega) (by omega) hl (by omega))
 have HX:=Aside0.mk hx
 clear hI h1 h8 hl hx
 go_enter Tryd.func32,Tryd.ntmps32
 go_wp2_with fail
 with_reducible refine HN.out.mono ?_
 rintro e w1 ⟨A,c,rfl,hc,hC,hP⟩
 have HC:=Aside0.mk hC
 have HCc:=Aside0.mk hc
 have HP:=Aside0.mk hP
 clear hC hc hP HN
 go_wp2_with fail
 refine (wire_gather_uint64.calls k A c (rdL bs p n) 0 x w1 HC.out HCc.out HX.out).mono ?_
 rintro e w2 ⟨rfl,⟨⟨nd,rfl⟩⟩⟩
 go_wp2
 go_ret2
 exact ⟨rfl,HP.out.drewN _⟩
set_option maxHeartbeats 4000000 in
set_option maxRecDepth 100000 in
theorem rd_Bytes.calls (B g:Nat) (bs:List Int) (p n:Nat) (w:World) (hI:IsRd B w g bs p) (hl:bs.length≤140737488355328) (hn:n≤4611686018427387904) :
  Calls Tryd.prog 56 #[.pointer (some ⟨g,0,none⟩),.int .i64 n] w fun e w' => ∃ v0_:Value,e=.returned (.tuple #[v0_,.int .i64 (rdE bs p n)])∧Kd.R (Kd.int .u8) 5 w' w.heap.size (fun _ => True) v0_ (rdL bs p n)∧RdPost B w g bs (rdP bs p n) w':=by
 have hll:(rdL bs p n).length≤140737488355328:=by
  unfold rdL
  split
  ·rw [List.length_drop,List.length_take];omega
  ·simp
 have HLL:=Aside0.mk hll
 have HN:=Aside0.mk (rd_next.calls B g bs p n 0 4611686018427387904 w hI (by omega) (by omega) hl hn)
 have HBw:=Aside0.mk hI.base_le
 clear hI hl hn hll
 go_enter Tryd.func56,Tryd.ntmps56
 go_wp2_with fail
 with_reducible refine HN.out.mono ?_
 rintro e w1 ⟨A,c,rfl,hc,hC,hP⟩
 have HC:=Aside0.mk hC
 have HP:=Aside0.mk hP
 clear hC hc hP HN
 go_wp2_with (at_builtin;refine Kd.R_append_row (Value.int .u8) (0:Int) (w0:=w1) w1.heap.size rfl _ _ 34 5 (.int .u8 0) 1 rfl Tryd.underlying34 info5 rfl (by decide) (.slice none 0 0) [] (rdL bs p n) A _ c (fun _ => True) rfl rfl (fun _ _ => trivial) (Kd.R_nil _ _ _ _ _) HC.out (Below.refl _ _) (Nat.le_refl _) ?c6 ?_)
 case c6 => have:=HLL.out;simp only [List.length_nil];omega
 intro v1 w3 hR3 hB3 hg3 ho3
 have HR3:=Aside0.mk hR3
 have HB3:=Aside0.mk hB3
 clear hR3 hB3 hg3 ho3
 go_wp2
 go_ret2
 exact ⟨_,rfl,Kd.R_lower HR3.out HP.out.2.keep.1,HP.out.1.below HB3.out,HP.out.2.trans ⟨HB3.out.mono (Nat.le_trans HBw.out HP.out.2.keep.1),KeepBut.of_below HB3.out _ _⟩⟩
set_option maxHeartbeats 4000000 in
set_option maxRecDepth 100000 in
theorem rd_At.calls (B g:Nat) (bs:List Int) (p:Nat) (w:World) (hI:IsRd B w g bs p) :
  Calls Tryd.prog 34 #[.pointer (some ⟨g,0,none⟩)] w fun e w' => e=.returned (.int .i64 (p:Int))∧w=w':=by
 obtain ⟨v,hb,hr⟩:=hI.blk
 have c1':w.cell? ⟨g,1,none⟩=some (.int .i64 (p:Int)):=(blk_cell hb 1).trans rfl
 have c2':w.cell? ⟨g,2,none⟩=some (.bool true):=(blk_cell hb 2).trans rfl
 clear hI hb hr
 go_enter Tryd.func34,Tryd.ntmps34
 go_wp2_with (go_at_call 59;refine (rd_none g _ c2').mono ?_;rintro e w' ⟨rfl,rfl⟩)
 go_ret
 exact ⟨rfl,rfl⟩
set_option maxHeartbeats 4000000 in
set_option maxRecDepth 100000 in
theorem rd_New.calls (A:Option Addr) (c:Nat) (bs:List Int) (w:World) (hC:(Kd.int .u8).C w A bs.length bs) (hl:bs.length≤140737488355328) :
  Calls Tryd.prog 31 #[.slice A bs.length c] w fun e w' => ∃ g,e=.returned (.pointer (some ⟨g,0,none⟩))∧w.heap.size≤g∧IsRd w.heap.size w' g bs 0∧Below w.heap.size w w':=by
 have HC:=Aside0.mk hC
 have HL:=Aside0.mk hl
 clear hC hl
 go_enter Tryd.func31,Tryd.ntmps31
 go_wp2_with (at_builtin;refine Kd.R_append_row (Value.int .u8) (0:Int) (w0:=w) w.heap.size rfl _ _ 34 5 (.int .u8 0) 1 rfl Tryd.underlying34 info5 rfl (by decide) (.slice none 0 0) [] bs A bs.length c (fun _ => True) rfl rfl (fun _ _ => trivial) (Kd.R_nil _ _ _ _ _) HC.out (Below.refl _ _) (Nat.le_refl _) ?c6 ?_)
 case c6 => have:=HL.out;simp only [List.length_nil];omega
 intro v1 w3 hR3 hB3 hg3 ho3
 obtain ⟨A1,c1,hv⟩:=Kd.R_slice hR3
 subst hv
 have HR3:=Aside0.mk hR3
 have HB3:=Aside0.mk hB3
 clear hR3 hB3 hg3 ho3
 go_wp2
 go_ret
 exact ⟨_,rfl,HB3.out.size,⟨HB3.out.size,⟨_,blk_new _ _,Kd.R_below HR3.out (below_alloc (Below.refl _ _) _)⟩,Nat.zero_le _⟩,below_alloc HB3.out _⟩
def sx8 (b:Int):Int:=wrap64 (IntKind.i8.wrap b)
theorem sx8_eq {b:Int} (h0:0≤b) (h1:b < 256):sx8 b=if b < 128 then b else b - 256:=by
 have e:IntKind.i8.wrap b=if b < 128 then b else b - 256:=by
  have hm:b % 256=b:=by omega
  by_cases h:b < 128
  ·simp [IntKind.wrap,IntKind.bits,IntKind.signed,hm,h] <;> omega
  ·simp [IntKind.wrap,IntKind.bits,IntKind.signed,hm,h] <;> omega
 unfold sx8
 rw [e]
 unfold wrap64
 split <;> omega
theorem gath_i64 (k:Nat) (A:Option Addr) (c:Nat) (l:List Int) (a r:Int) (w:World) (hC:(Kd.int .u8).C w A (l.drop 1).length (l.drop 1)) (hc:(l.drop 1).length≤c) (h:wire_gather_int64.f k (l.drop 1) a=some r) :
  Calls Tryd.prog 70 #[.slice A (l.length - 1) c,.int .i64 a] w fun e w' => e=.returned (.int .i64 r)∧Drawn0 w w':=by
 have h:=wire_gather_int64.calls k A c (l.drop 1) a r w hC hc h
 rw [List.length_drop] at h
 exact h
def rd_Int.f (k:Nat) (bs:List Int) (p n:Nat):Option (Int × Int × Nat) :=
 if p + n≤bs.length then (if 0≤rd (rdL bs p n) 0∧rd (rdL bs p n) 0 < 256 then (wire_gather_int64.f k ((rdL bs p n).drop 1) (sx8 (rd (rdL bs p n) 0))).bind fun x => some (x,0,p + n) else none) else some (0,3,p)
theorem rd_Int.mono (bs:List Int) (p n k:Nat):LeO (rd_Int.f k bs p n) (rd_Int.f (k + 1) bs p n):=LeO.ite (LeO.ite (LeO.bind (wire_gather_int64.mono _ _ _) (fun _ => LeO.refl _)) (LeO.refl _)) (LeO.refl _)
theorem rdL_len {bs:List Int} {p n:Nat} (h:p + n≤bs.length):(rdL bs p n).length=n:=by unfold rdL;rw [if_pos h,List.length_drop,List.length_take];omega
set_option maxHeartbeats 4000000 in
set_option maxRecDepth 100000 in
theorem rd_Int.calls (k B g:Nat) (bs:List Int) (p n:Nat) (r1 r2:Int) (r3:Nat) (w:World) (hI:IsRd B w g bs p) (h1:1≤n) (h8:n≤8) (hl:bs.length≤140737488355328) (h:rd_Int.f k bs p n=some (r1,r2,r3)) :
  Calls Tryd.prog 58 #[.pointer (some ⟨g,0,none⟩),.int .i64 n] w fun e w' => e=.returned (.tuple #[.int .i64 r1,.int .i64 r2])∧RdPost B w g bs r3 w':=by
 have HN:=Aside0.mk (rd_next.calls B g bs p n 1 8 w hI (by omega) (by omega) hl (by omega))
 unfold rd_Int.f at h
 by_cases hs:p + n≤bs.length
 ·rw [if_pos hs] at h
  by_cases hb:0≤rd (rdL bs p n) 0∧rd (rdL bs p n) 0 < 256
  ·rw [if_pos hb] at h
   obtain ⟨x,hx,h⟩:=Option.bind_eq_some_iff.mp h
   simp only [Option.some.injEq,Prod.mk.injEq] at h
   obtain ⟨rfl,rfl,rfl⟩:=h
   have e2:rdE bs p n=0:=if_pos hs
   have e3:rdP bs p n=p + n:=if_pos hs
   have hlen:=rdL_len hs
   have HE3:=Aside0.mk e3
   have HE2:=Aside0.mk e2
   have HX:=Aside0.mk hx
   have HL1:=Aside0.mk (show 1≤(rdL bs p n).length by omega)
   have hb0:=hb.1
   have hb1:=hb.2
   clear hI h8 hl hs e2 e3 hlen hx hb h1
   go_enter Tryd.func58,Tryd.ntmps58
   go_wp2_with fail
   with_reducible refine HN.out.mono ?_
   rintro e w1 ⟨A,c,rfl,hc,hC,hP⟩
   rw [HE3.out] at hP
   rw [HE2.out]
   clear HN HE2 HE3
   obtain ⟨l,hll⟩:∃ l,l=rdL bs p n:=⟨_,rfl⟩
   rw [← hll] at hc hC hb0 hb1 HX HL1 ⊢
   clear hll
   obtain ⟨i0,hi0,_,hsz,_⟩:=info_parts info5
   obtain ⟨ad,eA,h0⟩:=(readsInt_of.mpr (Kd.reads_of_C (d:=(0:Int)) hC)).at_ 0 (by omega) (by have:=HL1.out;omega)
   subst eA
   simp only [show ((0:Int)).toNat=0 from rfl,Addr.add_zero'] at h0
   have hs1:=cut_from (P:=Tryd.prog) 34 5 .i64 Tryd.underlying34 hi0 1 hsz (some ad) l.length c 1 (by decide) (by have:=HL1.out;omega)
   obtain ⟨A1,hA1⟩:∃ A1,A1=(if c=(1:Int).toNat then some ad else (some ad).map (·.add ((1:Int).toNat * 1))):=⟨_,rfl⟩
   rw [← hA1] at hs1
   have HC1:=Aside0.mk (show (Kd.int .u8).C w1 A1 (l.drop 1).length (l.drop 1) from by rw [hA1];exact Kd.C_drop (m:=1) (c:=c) hC HL1.out hc)
   have HC1c:Aside0 ((l.drop 1).length≤c - 1):=⟨by rw [List.length_drop];omega⟩
   have hdl:l.length - (1:Int).toNat=(l.drop 1).length:=by rw [List.length_drop];rfl
   rw [hdl] at hs1
   have HP:=Aside0.mk hP
   have hlt:decide ((0:Int) < (l.length:Int))=true:=decide_eq_true (by have:=HL1.out;omega)
   have hltn:decide (0 < l.length)=true:=decide_eq_true HL1.out
   have hltt:(0 < l.length)=True:=eq_true HL1.out
   clear hA1 hP hC hc hdl
   go_wp2
   refine start_ (n:=10) (S:=fun w' => w'.cell? ad=some (.int .u8 (rd l 0))) (ds:=[]) #[false,false,false,false,false,false,false,false,false,false] (by kernel_rfl) rfl rfl (h0) (fun hHeld => ?_)
   refine pure_ (i:=0) (N:=some 17) (v:=?_) (a':=?_) #[true,false,false,false,false,false,false,false,false,false] rfl rfl (by kernel_rfl) (fun _ _ _ h => h) (Or.inl ⟨by rfl,?_⟩) ?_ ?_
   rotate_left
   ·intro w'
    go_simp
    with_reducible rfl
   rotate_left
   ·simp only [Act.put,List.setIfInBounds_toArray,List.set_cons_zero,List.set_cons_succ,i64_w,i32_w]
    rfl
   refine pure_ (i:=1) (N:=some 18) (v:=?_) (a':=?_) #[true,true,false,false,false,false,false,false,false,false] rfl rfl (by kernel_rfl) (fun _ _ _ h => h) (Or.inl ⟨by rfl,?_⟩) ?_ ?_
   rotate_left
   ·intro w'
    go_simp
    with_reducible rfl
   rotate_left
   ·simp only [Act.put,List.setIfInBounds_toArray,List.set_cons_zero,List.set_cons_succ,i64_w,i32_w]
    rfl
   refine pure_ (i:=2) (N:=some 19) (v:=?_) (a':=?_) #[true,true,true,false,false,false,false,false,false,false] rfl rfl (by kernel_rfl) (fun _ _ _ h => h) (Or.inl ⟨by rfl,?_⟩) ?_ ?_
   rotate_left
   ·intro w'
    go_simp
    with_reducible rfl
   rotate_left
   ·simp only [Act.put,List.setIfInBounds_toArray,List.set_cons_zero,List.set_cons_succ,i64_w,i32_w]
    rfl
   refine pure_ (i:=3) (N:=some 20) (v:=?_) (a':=?_) #[true,true,true,true,false,false,false,false,false,false] rfl rfl (by kernel_rfl) (fun _ _ _ h => h) (Or.inl ⟨by rfl,?_⟩) ?_ ?_
   rotate_left
   ·intro w'
    go_simp
    with_reducible rfl
   rotate_left
   ·simp only [Act.put,List.setIfInBounds_toArray,List.set_cons_zero,List.set_cons_succ,i64_w,i32_w]
    rfl
   refine take_ (i:=4) (N:=some 21) (v:=?_) (a':=?_) #[true,true,true,true,true,false,false,false,false,false] rfl rfl (by kernel_rfl) (fun _ _ _ h => h) (Or.inl ⟨by rfl,?_⟩) hHeld ?_ ?_
   rotate_left
   ·intro w' s0
    go_simp
    with_reducible rfl
   rotate_left
   ·simp only [Act.put,List.setIfInBounds_toArray,List.set_cons_zero,List.set_cons_succ,i64_w,i32_w]
    rfl
   refine pure_ (i:=5) (N:=some 22) (v:=?_) (a':=?_) #[true,true,true,true,true,true,false,false,false,false] rfl rfl (by kernel_rfl) (fun _ _ _ h => h) (Or.inl ⟨by rfl,?_⟩) ?_ ?_
   rotate_left
   ·intro w'
    go_simp
    with_reducible rfl
   rotate_left
   ·simp only [Act.put,List.setIfInBounds_toArray,List.set_cons_zero,List.set_cons_succ,i64_w,i32_w]
    rfl
   refine pure_ (i:=6) (N:=some 23) (v:=?_) (a':=?_) #[true,true,true,true,true,true,true,false,false,false] rfl rfl (by kernel_rfl) (fun _ _ _ h => h) (Or.inl ⟨by rfl,?_⟩) ?_ ?_
   rotate_left
   ·intro w'
    go_simp
    with_reducible rfl
   rotate_left
   ·simp only [Act.put,List.setIfInBounds_toArray,List.set_cons_zero,List.set_cons_succ,i64_w,i32_w]
    rfl
   refine one_ (i:=7) (N:=some 24) #[true,true,true,true,true,true,true,true,false,false] rfl rfl (by kernel_rfl) (by decide) (fun K hK => ?_)
   refine goes_ Tryd.func70 (by kernel_rfl) rfl #[.slice A1 (l.length - 1) (c - 1),.int .i64 (sx8 (rd l 0))] (by rfl) rfl rfl (by simp only [List.map_toArray,List.map_cons,List.map_nil];rfl) ?_
   with_reducible refine (gath_i64 k A1 (c - 1) l (sx8 (rd l 0)) x _ (Kd.C_below HC1.out (below_drew (Below.refl _ _))) HC1c.out HX.out).mono ?_
   rintro e w3 ⟨rfl,⟨⟨nd,rfl⟩⟩⟩
   refine ⟨_,rfl,?_⟩
   refine hK.out _ _ ((by exact hHeld)) (fun hHeld => ?_)
   clear hK K
   refine norm_ (a':=?_) ?_ ?_
   rotate_left
   ·show Act.put _ (some 24) _=_
    simp only [Act.put,List.setIfInBounds_toArray,List.set_cons_zero,List.set_cons_succ,i64_w,i32_w]
    rfl
   refine pure_ (i:=8) (N:=some 4) (v:=?_) (a':=?_) #[true,true,true,true,true,true,true,true,true,false] rfl rfl (by kernel_rfl) (fun _ _ _ h => h) (Or.inl ⟨by rfl,?_⟩) ?_ ?_
   rotate_left
   ·intro w'
    go_simp
    with_reducible rfl
   rotate_left
   ·simp only [Act.put,List.setIfInBounds_toArray,List.set_cons_zero,List.set_cons_succ,i64_w,i32_w]
    rfl
   refine pure_ (i:=9) (N:=some 5) (v:=?_) (a':=?_) #[true,true,true,true,true,true,true,true,true,true] rfl rfl (by kernel_rfl) (fun _ _ _ h => h) (Or.inl ⟨by rfl,?_⟩) ?_ ?_
   rotate_left
   ·intro w'
    go_simp
    with_reducible rfl
   rotate_left
   ·simp only [Act.put,List.setIfInBounds_toArray,List.set_cons_zero,List.set_cons_succ,i64_w,i32_w]
    rfl
   refine done_ (by kernel_rfl) ?_
   go_wp2
   go_ret2
   exact ⟨rfl,(HP.out.drewN 1).drewN _⟩
  ·rw [if_neg hb] at h
   cases h
 ·rw [if_neg hs] at h
  simp only [Option.some.injEq,Prod.mk.injEq] at h
  obtain ⟨rfl,rfl,rfl⟩:=h
  have HE:=Aside0.mk (show rdE bs p n=3 from if_neg hs)
  have HE3:=Aside0.mk (show rdP bs p n=p from if_neg hs)
  clear hI h1 h8 hl hs
  go_enter Tryd.func58,Tryd.ntmps58
  go_wp2_with fail
  with_reducible refine HN.out.mono ?_
  rintro e w1 ⟨A,c,rfl,hc,hC,hP⟩
  rw [HE3.out] at hP
  rw [HE.out]
  have HP:=Aside0.mk hP
  clear hC hc hP HN HE HE3
  go_wp2
  go_ret2
  exact ⟨rfl,HP.out⟩
end Go.Proofs.YtglnhkgodgjepaaDoor.Px
namespace Go.Proofs.YtglnhkgodgjepaaDoor.Px
open Go.RowKit Go.Proofs.YtglnhkgodgjepaaDoorW.PrintWords Go.Proofs.YtglnhkgodgjepaaDoorW.PrintLast Go.Proofs.YtglnhkgodgjepaaDoorW.PrintMore
set_option linter.unusedVariables false
set_option linter.unusedSimpArgs false
def nxN (c:Int):Int:=if 224≤c then (if c < 240 then 3 else 1) else if 192≤c then 2 else 1
theorem nxN_cases (c:Int):nxN c=1 ∨ nxN c=2 ∨ nxN c=3:=by
 unfold nxN
 split
 ·split
  ·exact .inr (.inr rfl)
  ·exact .inl rfl
 ·split
  ·exact .inr (.inl rfl)
  ·exact .inl rfl
def u0V (L:List Int):Int:=if nxN (rd L 0)=1 then wrap32 (rd L 0) else if nxN (rd L 0)=2 then Go.bits .and .i32 (wrap32 (rd L 0)) 31 else Go.bits .and .i32 (wrap32 (rd L 0)) 15
theorem fits_add' (a:Addr) (x j:Nat):(a.add x).add j=a.add (x + j):=by
 unfold Addr.add
 by_cases h1:x=0 <;> by_cases h2:j=0 <;> simp [h1,h2,Nat.add_assoc]
def U2 (L:List Int):Int:=Go.bits .or .i32 (wrap32 (u0V L * 64)) (wrap32 (Go.bits .and .u8 (rd L 1) 63))
def U3 (L:List Int):Int:=Go.bits .or .i32 (wrap32 (U2 L * 64)) (wrap32 (Go.bits .and .u8 (rd L 2) 63))
def uniV (L:List Int):Option Int :=
 if (L.length:Int) < nxN (rd L 0) then none
 else if nxN (rd L 0)=1 then some (u0V L)
 else if rd L 1 / 64=2 then (if nxN (rd L 0)=2 then some (U2 L) else if rd L 2 / 64=2 then some (U3 L) else none) else none
def text_next.f (k:Nat) (L:List Int):Option (Int × Bool × Nat) :=
 match uniV L with
 | none => some (0,false,0)
 | some u => (text_unit.f k [] u).bind fun b => some (u,(strOfNums b).toList==(strOfNums (L.take (nxN (rd L 0)).toNat)).toList,(nxN (rd L 0)).toNat)
set_option maxHeartbeats 8000000 in
set_option maxRecDepth 100000 in
theorem next.calls (k:Nat) (w0 w:World) (gb:Nat) (A:Option Addr) (c:Nat) (L:List Int) (hB:Below w0.heap.size w0 w) (hg:w0.heap.size≤gb) (hb:w.heap[gb]?=some (.cells #[.slice A L.length c] 34 (0,0)))
  (hC:Kd.C (Kd.int .u8) w0 A L.length L) (hc:L.length≤c) (hne:0 < L.length) (r1:Int) (r2:Bool) (r3:Nat) (h:text_next.f k L=some (r1,r2,r3)) :
  Calls Tryd.prog 67 #[.pointer (some ⟨gb,0,none⟩)] w fun e w' => e=.returned (.tuple #[.int .i32 r1,.bool r2])∧(∃ A' c',w'.heap[gb]?=some (.cells #[.slice A' (L.drop r3).length c'] 34 (0,0))∧Kd.C (Kd.int .u8) w0 A' (L.drop r3).length (L.drop r3)∧(L.drop r3).length≤c')∧Below w0.heap.size w0 w'∧Kept w w' (fun j => j=gb):=by
 have HH:=Aside0.mk h
 clear h
 have HC:=Aside0.mk hC
 have HB:=Aside0.mk hB
 have HG:=Aside0.mk hg
 have HBK:=Aside0.mk hb
 have hcell:w.cell? ⟨gb,0,none⟩=some (.slice A L.length c):=(blk_cell hb 0).trans rfl
 have hCw:=Kd.C_below hC hB
 obtain ⟨ad,rfl,hx0⟩:=Kd.at_int hCw 0 (by omega) (by omega)
 rw [show ((0:Int)).toNat=0 from rfl,Addr.add_zero'] at hx0
 have qi:(0 < L.length)=True:=eq_true hne
 have u22:=Tryd.underlying34
 clear hC hB hg hb hCw
 go_enter Tryd.func67,Tryd.ntmps67
 go_upto_block 0 with (fail)
 go_cut [3] (fun v3 wc => v3=.int .i64 (nxN (rd L 0))∧wc=w)
 case first =>
  by_cases h1:224≤rd L 0
  ·have h1b:decide (224≤rd L 0)=true:=decide_eq_true h1
   by_cases h2:rd L 0 < 240
   ·have h2b:decide (rd L 0 < 240)=true:=decide_eq_true h2
    have hn:=Aside0.mk (show nxN (rd L 0)=3 by unfold nxN;rw [if_pos h1,if_pos h2])
    clear h1 h2
    go_wp2
    go_meet
    case rel => exact ⟨by rw [hn.out],rfl⟩
   ·have h2b:decide (rd L 0 < 240)=false:=decide_eq_false h2
    have h3b:decide (192≤rd L 0)=true:=decide_eq_true (by omega)
    have h4b:decide (rd L 0 < 224)=false:=decide_eq_false (by omega)
    have hn:=Aside0.mk (show nxN (rd L 0)=1 by unfold nxN;rw [if_pos h1,if_neg h2])
    clear h1 h2
    go_wp2
    go_meet
    case rel => exact ⟨by rw [hn.out],rfl⟩
  ·have h1b:decide (224≤rd L 0)=false:=decide_eq_false h1
   by_cases h2:192≤rd L 0
   ·have h2b:decide (192≤rd L 0)=true:=decide_eq_true h2
    have h4b:decide (rd L 0 < 224)=true:=decide_eq_true (by omega)
    have hn:=Aside0.mk (show nxN (rd L 0)=2 by unfold nxN;rw [if_neg h1,if_pos h2])
    clear h1 h2
    go_wp2
    go_meet
    case rel => exact ⟨by rw [hn.out],rfl⟩
   ·have h2b:decide (192≤rd L 0)=false:=decide_eq_false h2
    have hn:=Aside0.mk (show nxN (rd L 0)=1 by unfold nxN;rw [if_neg h1,if_neg h2])
    clear h1 h2
    go_wp2
    go_meet
    case rel => exact ⟨by rw [hn.out],rfl⟩
 case rest =>
  obtain ⟨rfl,hww⟩:=hcut
  replace hww:=hww.symm
  subst hww
  by_cases hl:(L.length:Int) < nxN (rd L 0)
  ·have hlb:decide ((L.length:Int) < nxN (rd L 0))=true:=decide_eq_true hl
   have hU:uniV L=none:=if_pos hl
   have hH:=HH.out
   unfold text_next.f at hH
   rw [hU] at hH
   simp only [Option.some.injEq,Prod.mk.injEq] at hH
   obtain ⟨rfl,rfl,rfl⟩:=hH
   have HCC:=Aside0.mk hc
   clear hl hU
   go_wp2
   go_ret2
   exact ⟨rfl,⟨some ad,c,HBK.out,HC.out,HCC.out⟩,HB.out,Kept.refl _ _⟩
  have hlb:decide ((L.length:Int) < nxN (rd L 0))=false:=decide_eq_false hl
  have HL:=Aside0.mk hl
  clear hl
  go_upto_if 35 with (fail)
  go_cut [3,5] (fun v3 v5 wc => v3=.int .i64 (nxN (rd L 0))∧v5=.int .i32 (u0V L)∧wc=w)
  case first =>
   rcases nxN_cases (rd L 0) with hn|hn|hn
   ·rw [hn]
    have hN:=Aside0.mk hn
    clear hn
    go_wp2
    go_meet
    case rel => exact ⟨by rw [hN.out],by unfold u0V;rw [hN.out];rfl,rfl⟩
   ·rw [hn]
    have hN:=Aside0.mk hn
    clear hn
    go_wp2
    go_meet
    case rel => exact ⟨by rw [hN.out],by unfold u0V;rw [hN.out];rfl,rfl⟩
   ·rw [hn]
    have hN:=Aside0.mk hn
    clear hn
    go_wp2
    go_meet
    case rel => exact ⟨by rw [hN.out],by unfold u0V;rw [hN.out];rfl,rfl⟩
  case rest =>
  obtain ⟨rfl,rfl,hww⟩:=hcut
  replace hww:=hww.symm
  subst hww
  obtain ⟨i0,hi0,_,hsz,_⟩:=info_parts info5
  have hn1:1≤nxN (rd L 0):=by rcases nxN_cases (rd L 0) with hn|hn|hn <;> omega
  have hs1:=cut_mid (P:=Tryd.prog) 34 5 .i64 .i64 Tryd.underlying34 hi0 1 hsz (some ad) L.length c 1 (nxN (rd L 0)) (by decide) hn1 (by have:=HL.out;omega) hc
  obtain ⟨A1,hA1⟩:∃ A1,A1=(if c=(1:Int).toNat then some ad else (some ad).map (·.add ((1:Int).toNat * 1))):=⟨_,rfl⟩
  rw [← hA1] at hs1
  have HA1:=Aside0.mk hA1
  clear hA1 hn1 hlb
  go_upto_block 1 with (fail)
  have hr1:2≤nxN (rd L 0)→(∃ a1,A1=some a1∧w.cell? a1=some (.int .u8 (rd L 1))∧(3≤nxN (rd L 0)→w.cell? (a1.add 1)=some (.int .u8 (rd L 2)))):=by
   intro h2
   have hl:=HL.out
   have hCw:=Kd.C_below HC.out HB.out
   have hA:=HA1.out
   rw [if_neg (by rw [show ((1:Int)).toNat=1 from rfl];omega)] at hA
   obtain ⟨a',ea,hx⟩:=Kd.at_int hCw 1 (by omega) (by omega)
   cases ea
   refine ⟨ad.add 1,hA,hx,fun h3 => ?_⟩
   obtain ⟨a',ea,hx⟩:=Kd.at_int hCw 2 (by omega) (by omega)
   cases ea
   rw [fits_add']
   exact hx
  go_cut [3,5,42,43,44] (fun v3 v5 v42 v43 v44 wc => v3=.int .i64 (nxN (rd L 0))∧(∃ u,v5=.int .i32 u∧uniV L=some u)∧wc=w)
  case first =>
   rcases nxN_cases (rd L 0) with hn|hn|hn
   ·have hN:=Aside0.mk hn
    rw [hn]
    clear hn
    simp only [Int.reduceToNat,Nat.sub_self]
    go_wp2
    refine wp_loop_rounds 1 ?_
    rw [rounds_succ]
    go_wp2
    go_meet
    case rel => exact ⟨by rw [hN.out],⟨_,rfl,by unfold uniV;rw [if_neg (by have:=HL.out;omega),hN.out,if_pos rfl]⟩,rfl⟩
   ·have hN:=Aside0.mk hn
    obtain ⟨a1,rfl,hx1,_⟩:=hr1 (by omega)
    rw [hn]
    clear hn
    simp only [Int.reduceToNat,Nat.reduceSub]
    by_cases hb:rd L 1 / 64=2
    ·have hbb:(rd L 1 / 64 != 2)=false:=bne_eq_false_iff_eq.mpr hb
     have HBB:=Aside0.mk hb
     clear hb
     go_wp2
     refine wp_loop_rounds 2 ?_
     rw [rounds_succ]
     go_wp2
     rw [rounds_succ]
     go_wp2
     go_meet
     case rel => exact ⟨by rw [hN.out],⟨_,rfl,by unfold uniV;rw [if_neg (by have:=HL.out;omega),hN.out,if_neg (by decide),if_pos HBB.out,if_pos rfl];rfl⟩,rfl⟩
    ·have hU:uniV L=none:=by unfold uniV;rw [if_neg (by have:=HL.out;omega),hN.out,if_neg (by decide),if_neg hb]
     have hH:=HH.out
     unfold text_next.f at hH
     rw [hU] at hH
     simp only [Option.some.injEq,Prod.mk.injEq] at hH
     obtain ⟨rfl,rfl,rfl⟩:=hH
     have hbb:(rd L 1 / 64 != 2)=true:=bne_iff_ne.mpr hb
     have HCC:=Aside0.mk hc
     clear hb hU
     go_wp2
     refine wp_loop_rounds 1 ?_
     rw [rounds_succ]
     go_wp2
     go_ret2
     exact ⟨rfl,⟨some ad,c,HBK.out,HC.out,HCC.out⟩,HB.out,Kept.refl _ _⟩
   ·have hN:=Aside0.mk hn
    obtain ⟨a1,rfl,hx1,hx2⟩:=hr1 (by omega)
    have hx2:w.cell? ⟨a1.block,a1.off + 1,none⟩=some (.int .u8 (rd L 2)):=hx2 (by omega)
    rw [hn]
    clear hn
    simp only [Int.reduceToNat,Nat.reduceSub]
    by_cases hb:rd L 1 / 64=2
    ·have hbb:(rd L 1 / 64 != 2)=false:=bne_eq_false_iff_eq.mpr hb
     have HBB:=Aside0.mk hb
     clear hb
     by_cases hb:rd L 2 / 64=2
     ·have hbb:(rd L 2 / 64 != 2)=false:=bne_eq_false_iff_eq.mpr hb
      have HBB2:=Aside0.mk hb
      clear hb
      go_wp2
      refine wp_loop_rounds 3 ?_
      rw [rounds_succ]
      go_wp2
      rw [rounds_succ]
      go_wp2
      rw [rounds_succ]
      go_wp2
      go_meet
      case rel => exact ⟨by rw [hN.out],⟨_,rfl,by unfold uniV;rw [if_neg (by have:=HL.out;omega),hN.out,if_neg (by decide),if_pos HBB.out,if_neg (by decide),if_pos HBB2.out];rfl⟩,rfl⟩
     ·have hU:uniV L=none:=by unfold uniV;rw [if_neg (by have:=HL.out;omega),hN.out,if_neg (by decide),if_pos HBB.out,if_neg (by decide),if_neg hb]
      have hH:=HH.out
      unfold text_next.f at hH
      rw [hU] at hH
      simp only [Option.some.injEq,Prod.mk.injEq] at hH
      obtain ⟨rfl,rfl,rfl⟩:=hH
      have hbb:(rd L 2 / 64 != 2)=true:=bne_iff_ne.mpr hb
      have HCC:=Aside0.mk hc
      clear hb hU
      go_wp2
      refine wp_loop_rounds 2 ?_
      rw [rounds_succ]
      go_wp2
      rw [rounds_succ]
      go_wp2
      go_ret2
      exact ⟨rfl,⟨some ad,c,HBK.out,HC.out,HCC.out⟩,HB.out,Kept.refl _ _⟩
    ·have hU:uniV L=none:=by unfold uniV;rw [if_neg (by have:=HL.out;omega),hN.out,if_neg (by decide),if_neg hb]
     have hH:=HH.out
     unfold text_next.f at hH
     rw [hU] at hH
     simp only [Option.some.injEq,Prod.mk.injEq] at hH
     obtain ⟨rfl,rfl,rfl⟩:=hH
     have hbb:(rd L 1 / 64 != 2)=true:=bne_iff_ne.mpr hb
     have HCC:=Aside0.mk hc
     clear hb hU
     go_wp2
     refine wp_loop_rounds 1 ?_
     rw [rounds_succ]
     go_wp2
     go_ret2
     exact ⟨rfl,⟨some ad,c,HBK.out,HC.out,HCC.out⟩,HB.out,Kept.refl _ _⟩
  case rest =>
  obtain ⟨rfl,⟨u,rfl,hU⟩,hww⟩:=hcut
  replace hww:=hww.symm
  subst hww
  have hH:=HH.out
  unfold text_next.f at hH
  rw [hU] at hH
  obtain ⟨b,hb,hH⟩:=Option.bind_eq_some_iff.mp hH
  simp only [Option.some.injEq,Prod.mk.injEq] at hH
  obtain ⟨rfl,rfl,rfl⟩:=hH
  have HU:=Aside0.mk hU
  have HA:=Aside0.mk hb
  clear hb hU
  have hn1:1≤nxN (rd L 0):=by rcases nxN_cases (rd L 0) with hn|hn|hn <;> omega
  have hs2:=cut_to (P:=Tryd.prog) 34 5 .i64 Tryd.underlying34 hi0 (some ad) L.length c (nxN (rd L 0)) (by omega) (by have:=HL.out;omega) hc
  have hs3:=cut_from (P:=Tryd.prog) 34 5 .i64 Tryd.underlying34 hi0 1 hsz (some ad) L.length c (nxN (rd L 0)) (by omega) (by have:=HL.out;omega)
  obtain ⟨A2,hA2⟩:∃ A2,A2=(if c=(nxN (rd L 0)).toNat then some ad else (some ad).map (·.add ((nxN (rd L 0)).toNat * 1))):=⟨_,rfl⟩
  rw [← hA2] at hs3
  have HA2:=Aside0.mk hA2
  have HN1:=Aside0.mk hn1
  have hT:∀ W,Below w0.heap.size w0 W→(convert 34 9 (.slice (some ad) (nxN (rd L 0)).toNat c)).run Tryd.prog W=.ok (.string (strOfNums (L.take (nxN (rd L 0)).toNat))) W:=by
   intro W hW
   have hC1:=Kd.C_take (m:=(nxN (rd L 0)).toNat) (Kd.C_below HC.out hW) (by have:=HL.out;omega)
   rw [List.length_take,Nat.min_eq_left (by have:=HL.out;omega)] at hC1
   exact Kd.C_string Tryd.underlying34 Tryd.underlying5 Tryd.underlying9 hC1
  have HT:=Aside0.mk hT
  have hT1:∀ nq,(convert 34 9 (.slice (some ad) (nxN (rd L 0)).toNat c)).run Tryd.prog (w.drewN nq)=.ok (.string (strOfNums (L.take (nxN (rd L 0)).toNat))) (w.drewN nq):=fun nq => hT _ (pw_below_drewN HB.out nq)
  have hT3:(convert 34 9 (.slice (some ad) (nxN (rd L 0)).toNat c)).run Tryd.prog w.drew=.ok (.string (strOfNums (L.take (nxN (rd L 0)).toNat))) w.drew:=hT _ (below_drew1 HB.out)
  have hCC:=Aside0.mk hc
  clear hT hA2 hs1 HA1 hn1 hx0 hr1
  go_wp2_with (fail)
  go_region_with (first|(go_at_call 48;refine (text_unit.calls k (fun _ => False) _ [] u b w0 _ (by first|exact HB.out|exact pw_below_drewN HB.out _) (Kd.R_nil _ _ _ _ _) HA.out).mono ?_;rintro e w2 ⟨v2,rfl,hR2,hB2,hK2⟩;obtain ⟨A3,c3,hv3⟩:=Kd.R_slice hR2;subst hv3;have hC3:=(Kd.R_reads' hR2).2.2;have hcv:=Kd.C_string (P:=Tryd.prog) (src:=34) (dst:=9) (c:=c3) Tryd.underlying34 Tryd.underlying5 Tryd.underlying9 hC3;have hHB2:=(hK2.2 gb (by first|exact blk_lt HBK.out) (fun h => h)).trans (by first|exact HBK.out|exact blk_drewN HBK.out _);have hcell2:w2.cell? ⟨gb,0,none⟩=some (.slice (some ad) L.length c):=(blk_cell hHB2 0).trans rfl;have hfz2:=blk_frozen hHB2 0;have hT2:=HT.out w2 hB2;have HB2:=Aside0.mk hB2;have HHB2:=Aside0.mk hHB2;have HK2:=Aside0.mk hK2;clear hR2 hB2 hC3 hHB2 hK2))
  all_goals go_wp2
  all_goals go_ret2
  all_goals (
   refine ⟨rfl,⟨A2,c - (nxN (rd L 0)).toNat,by rw [List.length_drop];simpa using blk_set HHB2.out 0 (.slice A2 (L.length - (nxN (rd L 0)).toNat) (c - (nxN (rd L 0)).toNat)),?_,by rw [List.length_drop];have:=hCC.out;omega⟩,below_set HB2.out HG.out,?_⟩
   ·rw [HA2.out]
    exact Kd.C_drop (m:=(nxN (rd L 0)).toNat) (c:=c) HC.out (by have:=HL.out;omega) hCC.out
   ·exact Kept.setCell ((show Kept w w2 (fun _ => False) from HK2.out).mono (S':=fun j => j=gb) (fun _ h => h.elim)) (p:=⟨gb,0,none⟩) (.inl rfl) _)
end Go.Proofs.YtglnhkgodgjepaaDoor.Px
namespace Go.Proofs.YtglnhkgodgjepaaDoor.Px
open Go.RowKit Go.Proofs.YtglnhkgodgjepaaDoorW.PrintWords Go.Proofs.YtglnhkgodgjepaaDoorW.PrintLast Go.Proofs.YtglnhkgodgjepaaDoorW.PrintMore
set_option linter.unusedVariables false
set_option linter.unusedSimpArgs false
def IsB (ok:Nat→Prop) (w0 w:World) (g:Nat) (l:List Int):Prop :=
 ∃ p v,w.heap[g]?=some (.cells #[p,v] 142 (0,0))∧(p=.pointer none ∨ p=.pointer (some ⟨g,0,none⟩))∧Kd.R (Kd.int .u8) 5 w w0.heap.size ok v l
theorem B_size:(Tryd.prog.info? 142).map (·.size)=some 2:=by kernel_rfl
theorem B_lies:liesAt Tryd.prog Tryd.prog.depth 142 (2 / Tryd.prog.cellsOf 142) 0 142 1=true:=by kernel_rfl
set_option maxRecDepth 100000 in
theorem copyCheck_used (b:Nat) (w:World) (h0:w.cell? ⟨b,0,none⟩=some (.pointer (some ⟨b,0,none⟩))) :
  Calls Tryd.prog 73 #[.pointer (some ⟨b,0,none⟩)] w fun e w' => e=.returned (.tuple #[])∧w'=w:=by
 obtain ⟨j,hj,_⟩:=Option.map_eq_some_iff.1 B_size
 have u1:=Tryd.underlying140
 go_enter Tryd.func73,Tryd.ntmps73
 go_wp2
 rw [Lib.run_neq_ptr_same w _ Tryd.underlying140 hj]
 go_wp2
 go_end0
 exact ⟨rfl,rfl⟩
set_option maxRecDepth 100000 in
theorem copyCheck_fresh (b:Nat) (w:World) (h0:w.cell? ⟨b,0,none⟩=some (.pointer none)) (hsh:w.shape? b=some (142,2)) (hfz:w.frozen? ⟨b,0,none⟩=false) :
  Calls Tryd.prog 73 #[.pointer (some ⟨b,0,none⟩)] w fun e w' => e=.returned (.tuple #[])∧w'=w.setCell ⟨b,0,none⟩ (.pointer (some ⟨b,0,none⟩)):=by
 obtain ⟨j,hj,hjs⟩:=Option.map_eq_some_iff.1 B_size
 have u1:=Tryd.underlying140
 have u2:=Tryd.underlying82
 go_enter Tryd.func73,Tryd.ntmps73
 go_wp2
 rw [Lib.run_to_unsafe w ⟨b,0,none⟩ Tryd.underlying140 Tryd.underlying82 hj (by rw [hjs];decide) hsh (Nat.zero_lt_succ 1)]
 simp only [Result.andThen]
 rw [Oper.upon_value]
 go_wp2
 rw [run_callFunc_extern Tryd.func75 (by kernel_rfl) (by kernel_rfl) (by kernel_rfl) (e:=Extern.AbiNoEscape.same) (by kernel_rfl)]
 rw [Lib.run_noEscape]
 simp only [Result.andThen]
 rw [Oper.upon_value]
 go_wp2
 rw [Lib.run_from_unsafe w ⟨b,0,none⟩ Tryd.underlying82 Tryd.underlying140 hj hsh B_lies]
 simp only [Result.andThen]
 rw [Oper.upon_value]
 go_wp2
 go_end0
 exact ⟨rfl,rfl⟩
theorem copyCheck.calls (w0 w:World) (g:Nat) (p v:Value) (hB:Below w0.heap.size w0 w) (hg0:w0.heap.size≤g) (hb:w.heap[g]?=some (.cells #[p,v] 142 (0,0))) (hp:p=.pointer none ∨ p=.pointer (some ⟨g,0,none⟩)) :
  Calls Tryd.prog 73 #[.pointer (some ⟨g,0,none⟩)] w fun e w' => e=.returned (.tuple #[])∧w'.heap[g]?=some (.cells #[.pointer (some ⟨g,0,none⟩),v] 142 (0,0))∧Below w0.heap.size w0 w'∧Kept w w' (fun j => j=g)∧w'.heap.size=w.heap.size:=by
 have h0:w.cell? ⟨g,0,none⟩=some p:=(blk_cell hb 0).trans rfl
 rcases hp with rfl|rfl
 ·refine (copyCheck_fresh g w h0 (by simp [World.shape?,hb]) (blk_frozen hb 0)).mono ?_
  rintro e w' ⟨rfl,rfl⟩
  exact ⟨rfl,by simpa using blk_set hb 0 (.pointer (some ⟨g,0,none⟩)),below_set hB hg0,Kept.setCell (Kept.refl w (fun j => j=g)) (p:=⟨g,0,none⟩) (.inl rfl) _,by simp [World.setCell]⟩
 ·refine (copyCheck_used g w h0).mono ?_
  rintro e w' ⟨rfl,rfl⟩
  exact ⟨rfl,hb,hB,Kept.refl _ _,rfl⟩
set_option maxHeartbeats 8000000 in
set_option maxRecDepth 100000 in
theorem writeRune.calls (k:Nat) (ok:Nat→Prop) (w0 w:World) (g:Nat) (l r:List Int) (u:Int) (hB:Below w0.heap.size w0 w) (hg0:w0.heap.size≤g) (hI:IsB ok w0 w g l) (hok:∀ j,ok j→j ≠ g) (h:utf8_AppendRune.f k l u=some r) :
  Calls Tryd.prog 68 #[.pointer (some ⟨g,0,none⟩),.int .i32 u] w fun e w' => (∃ n:Int,e=.returned (.tuple #[.int .i64 n,.nilIface]))∧IsB (fun j => ok j ∨ w.heap.size≤j) w0 w' g r∧Below w0.heap.size w0 w'∧Kept w w' (fun j => ok j ∨ j=g):=by
 obtain ⟨p,v,hb,hp,hR⟩:=hI
 obtain ⟨Ao,co,rfl⟩:=Kd.R_slice hR
 have HCC:=Aside0.mk (copyCheck.calls w0 w g p _ hB hg0 hb hp)
 have HR:=Aside0.mk hR
 have HA:=Aside0.mk h
 have hlt:=blk_lt hb
 have HLT:=Aside0.mk hlt
 have HG:=Aside0.mk hg0
 have HOK:=Aside0.mk hok
 clear hb hp hR h hlt hB hok hg0
 have u1:=Tryd.underlying140
 have u2:=Tryd.underlying34
 go_enter Tryd.func68,Tryd.ntmps68
 go_wp2_with (first
  | (go_at_call 73;refine HCC.out.mono ?_;rintro e w1 ⟨rfl,hb1,hB1,hK1,hz1⟩;have HB1:=Aside0.mk hb1;have HW1:=Aside0.mk hB1;have HK1:=Aside0.mk hK1;have HZ1:=Aside0.mk hz1;have HR1:=Aside0.mk (Kd.R_step HR.out (fun j hj hl => HK1.out.2 j hl (HOK.out j hj)));have hc0:w1.cell? ⟨g,0,none⟩=some (.pointer (some ⟨g,0,none⟩)):=(blk_cell HB1.out 0).trans rfl;have hc1:w1.cell? ⟨g,1,none⟩=some (.slice Ao l.length co):=(blk_cell HB1.out 1).trans rfl;clear hb1 hB1 hK1 hz1)
  | (go_at_call 74;refine (utf8_AppendRune.calls k ok _ l u r w0 _ HW1.out HR1.out HA.out).mono ?_;rintro e w2 ⟨v2,rfl,hR2,hB2,hK2⟩;have HB2:=Aside0.mk ((hK2.2 g (blk_lt HB1.out) (fun h => HOK.out g h rfl)).trans HB1.out);have HR2:=Aside0.mk hR2;have HW2:=Aside0.mk hB2;have HK2:=Aside0.mk hK2;have hd0:w2.cell? ⟨g,0,none⟩=some (.pointer (some ⟨g,0,none⟩)):=(blk_cell HB2.out 0).trans rfl;have hd1:w2.cell? ⟨g,1,none⟩=some (.slice Ao l.length co):=(blk_cell HB2.out 1).trans rfl;have hf1:=blk_frozen HB2.out 1;obtain ⟨Ap,cp,hv2⟩:=Kd.R_slice hR2;subst hv2;clear hR2 hB2 hK2))
 go_ret2
 refine ⟨⟨_,rfl⟩,⟨.pointer (some ⟨g,0,none⟩),.slice Ap r.length cp,by simpa using blk_set HB2.out 1 (.slice Ap r.length cp),.inr rfl,?_⟩,below_set HW2.out HG.out,?_⟩
 ·have h1:Kd.R (Kd.int .u8) 5 (w2.setCell ⟨g,1,none⟩ (.slice Ap r.length cp)) w0.heap.size (fun j => ok j ∨ w1.heap.size≤j) (.slice Ap r.length cp) r:=by
   refine Kd.R_step HR2.out (fun j hj _ => Below.heap_setCell w2 ⟨g,1,none⟩ _ j ?_)
   intro e
   have e1:j=g:=e
   rcases hj with hj|hj
   ·exact HOK.out _ hj e1
   ·have h2:=HLT.out
    have h3:=HZ1.out
    omega
  rw [HZ1.out] at h1
  exact h1
 ·exact Kept.setCell ((HK1.out.mono (S':=fun j => ok j ∨ j=g) (fun j h => .inr h)).then_ (S2:=ok) HK2.out (fun j h => .inl (.inl h))) (p:=⟨g,1,none⟩) (.inl (.inr rfl)) _
end Go.Proofs.YtglnhkgodgjepaaDoor.Px
namespace Go.Proofs.YtglnhkgodgjepaaDoor.Px
open Go.RowKit Go.Proofs.YtglnhkgodgjepaaDoorW.PrintWords Go.Proofs.YtglnhkgodgjepaaDoorW.PrintLast Go.Proofs.YtglnhkgodgjepaaDoorW.PrintMore
set_option linter.unusedVariables false
set_option linter.unusedSimpArgs false
def pairV (a u:Int):Int:=wrap32 (wrap32 (wrap32 (65536 + wrap32 (wrap32 (a - 55296) * 1024)) + u) - 56320)
def text_Decode.l0:Nat→List Int→Int→List Int→Option (ByteArray × Int)
 | 0,_,_,_ => none
 | k + 1,L,a,o =>
  if 0 < L.length then (text_next.f k L).bind fun t =>
   if t.2.1=true then
    (if ((decide (56320≤t.1) && decide (t.1 < 57344)) != (a != 0))=true then some ((⟨#[]⟩:ByteArray),20)
    else if (a != 0)=true then (utf8_AppendRune.f k o (pairV a t.1)).bind fun o1 => text_Decode.l0 k (L.drop t.2.2) 0 o1
    else if (decide (55296≤t.1) && decide (t.1 < 56320))=true then text_Decode.l0 k (L.drop t.2.2) t.1 o
    else (utf8_AppendRune.f k o t.1).bind fun o1 => text_Decode.l0 k (L.drop t.2.2) a o1)
   else some ((⟨#[]⟩:ByteArray),20)
  else if (a != 0)=true then some ((⟨#[]⟩:ByteArray),20) else some (strOfNums o,0)
def text_Decode.f (k:Nat) (l0:List Int):Option (ByteArray × Int):=text_Decode.l0 k l0 0 []
theorem text_next.mono (k:Nat) (L:List Int):LeO (text_next.f k L) (text_next.f (k + 1) L):=by
 unfold text_next.f
 split
 ·exact LeO.refl _
 ·exact LeO.bind (text_unit.mono _ _ _) (fun _ => LeO.refl _)
theorem text_Decode.mono_l:∀ k L a o,LeO (text_Decode.l0 k L a o) (text_Decode.l0 (k + 1) L a o)
 | 0 => fun _ _ _ r h => by simp [text_Decode.l0] at h
 | k + 1 => fun L a o => by
  unfold text_Decode.l0
  refine LeO.ite (LeO.bind (text_next.mono _ _) (fun t => LeO.ite (LeO.ite (LeO.refl _) (LeO.ite (LeO.bind (utf8_AppendRune.mono _ _ _) (fun _ => text_Decode.mono_l k _ _ _)) (LeO.ite (text_Decode.mono_l k _ _ _) (LeO.bind (utf8_AppendRune.mono _ _ _) (fun _ => text_Decode.mono_l k _ _ _))))) (LeO.refl _))) (LeO.refl _)
theorem text_Decode.mono:∀ l0 k,LeO (text_Decode.f k l0) (text_Decode.f (k + 1) l0):=fun l0 k => text_Decode.mono_l k l0 0 []
def IsL (w0 w:World) (gb:Nat) (L:List Int):Prop :=
 ∃ A c,w.heap[gb]?=some (.cells #[.slice A L.length c] 34 (0,0))∧Kd.C (Kd.int .u8) w0 A L.length L∧L.length≤c
def Ok2 (g gb j:Nat):Prop:=j ≠ g∧j ≠ gb
theorem IsB.keep {ok:Nat→Prop} {w0 w w':World} {g gb:Nat} {l:List Int} (h:IsB ok w0 w g l) (hk:Kept w w' (fun j => j=gb)) (hok:∀ j,ok j→j ≠ gb) (hne:g ≠ gb):IsB ok w0 w' g l:=by
 obtain ⟨p,v,hb,hp,hR⟩:=h
 exact ⟨p,v,(hk.2 g (blk_lt hb) hne).trans hb,hp,Kd.R_step hR (fun j hj hl => hk.2 j hl (hok j hj))⟩
theorem IsB.mono {ok ok':Nat→Prop} {w0 w:World} {g:Nat} {l:List Int} (h:IsB ok w0 w g l) (hok:∀ j,ok j→ok' j):IsB ok' w0 w g l:=by
 obtain ⟨p,v,hb,hp,hR⟩:=h
 exact ⟨p,v,hb,hp,Kd.R_mono hR hok⟩
theorem IsL.keep {w0 w w':World} {gb:Nat} {L:List Int} {S:Nat→Prop} (h:IsL w0 w gb L) (hk:Kept w w' S) (hn:¬ S gb):IsL w0 w' gb L:=by
 obtain ⟨A,c,hb,hC,hc⟩:=h
 exact ⟨A,c,(hk.2 gb (blk_lt hb) hn).trans hb,hC,hc⟩
def IsBytes (l:List Int):Prop:=∀ x ∈ l,0≤x∧x < 256
theorem bits_byte (op:BinOp) (a b:Int):0≤Go.bits op .u8 a b∧Go.bits op .u8 a b < 256:=by
 have h1:=Go.bits_lo_u8 op a b
 have h2:=Go.bits_hi_u8 op a b
 exact ⟨h1,by omega⟩
theorem IsBytes.app {a b:List Int} (ha:IsBytes a) (hb:IsBytes b):IsBytes (a++b):=fun x hx => (List.mem_append.1 hx).elim (ha x) (hb x)
theorem IsBytes.cons {x:Int} {l:List Int} (hx:0≤x∧x < 256) (hl:IsBytes l):IsBytes (x :: l):=fun y hy => (List.mem_cons.1 hy).elim (fun e => e ▸ hx) (hl y)
theorem IsBytes.nil:IsBytes []:=fun x hx => by cases hx
theorem utf8_appendRuneNonASCII.bytes_j0 (k:Nat) (o:List Int) (x y:Int) (b:Bool) (r:List Int) (ho:IsBytes o) (h:utf8_appendRuneNonASCII.j0 k o x y b=some r):IsBytes r:=by
 cases k with
 | zero => cases h
 | succ k =>
  simp only [utf8_appendRuneNonASCII.j0] at h
  repeat' split at h
  all_goals simp only [Option.bind_some,Option.ite_none_right_eq_some,Option.some.injEq,reduceCtorEq] at h
  all_goals first
   | (obtain ⟨_,rfl⟩:=h;refine ho.app ?_;repeat (first|exact IsBytes.nil|refine IsBytes.cons (by first|exact bits_byte _ _ _|omega) ?_))
   | (cases h)
theorem utf8_AppendRune.bytes (k:Nat) (o:List Int) (x:Int) (r:List Int) (ho:IsBytes o) (h:utf8_AppendRune.f k o x=some r):IsBytes r:=by
 unfold utf8_AppendRune.f at h
 split at h
 ·split at h
  ·cases h
   exact ho.app (IsBytes.cons (by omega) IsBytes.nil)
  ·cases h
 ·obtain ⟨q,hq,h⟩:=Option.bind_eq_some_iff.mp h
  cases h
  unfold utf8_appendRuneNonASCII.f at hq
  repeat' split at hq
  all_goals first
   | (exact utf8_appendRuneNonASCII.bytes_j0 _ _ _ _ _ _ ho hq)
   | (simp only [Option.bind_some,Option.ite_none_right_eq_some,Option.some.injEq] at hq;obtain ⟨_,rfl⟩:=hq;refine ho.app ?_;repeat (first|exact IsBytes.nil|refine IsBytes.cons (by first|exact bits_byte _ _ _|omega) ?_))
theorem reps_nums {l:List Int} {inner:List Value} (h:Reps (fun x cs => cs=[Value.int .u8 x]) 1 l inner):inner=nums .u8 l:=by
 apply List.ext_getElem?
 intro j
 have hl:inner.length=l.length:=by have:=h.1;omega
 rcases Nat.lt_or_ge j l.length with hj|hj
 ·have h1:=h.2 j _ (List.getElem?_eq_getElem hj)
  rw [Nat.mul_one,List.drop_eq_getElem_cons (by omega)] at h1
  simp only [List.take_succ_cons,List.take_zero,List.cons.injEq,and_true] at h1
  rw [List.getElem?_eq_getElem (by omega),h1]
  unfold nums
  rw [List.getElem?_map,List.getElem?_eq_getElem hj]
  rfl
 ·rw [List.getElem?_eq_none (by omega),List.getElem?_eq_none (by rw [nums_length];omega)]
theorem byteCells_nums {l:List Int} (h:IsBytes l):Lib.byteCells (l.map fun n => UInt8.ofNat n.toNat)=nums .u8 l:=by
 unfold Lib.byteCells nums
 rw [List.map_map]
 refine List.map_congr_left fun x hx => ?_
 have:=h x hx
 simp only [Function.comp,UInt8.toNat_ofNat']
 rw [Nat.mod_eq_of_lt (by omega),Int.toNat_of_nonneg this.1]
theorem IsB.string {ok:Nat→Prop} {w0 w:World} {g:Nat} {l:List Int} (h:IsB ok w0 w g l) (hl:IsBytes l) (hg:w0.heap.size≤g) (hz:w0.heap.size≤w.heap.size) :
  Calls Tryd.prog 69 #[.pointer (some ⟨g,0,none⟩)] w fun e w' => e=.returned (.string (strOfNums l))∧Below w0.heap.size w w':=by
 obtain ⟨p,v,hb,hp,hR⟩:=h
 have hne:=Kd.R_ne hR hb (by decide)
 obtain ⟨_,inner,ho,hr⟩:=hR
 have hr:=reps_nums hr
 subst hr
 have hbb:Lib.BuilderAt 142 5 w0.heap.size g p (Lib.byteCells (l.map fun n => UInt8.ofNat n.toNat)) w:=by
  rw [byteCells_nums hl]
  exact ⟨hg,v,hb,by rw [nums_length];exact ho,hne.symm⟩
 refine (Tryd.Builder_String_any w0.heap.size g (l.map fun n => UInt8.ofNat n.toNat) w ?_ hz).mono ?_
 ·rcases hp with rfl|rfl
  ·exact .inl hbb
  ·exact .inr hbb
 ·rintro e w' ⟨rfl,hB⟩
  exact ⟨rfl,hB⟩
set_option maxHeartbeats 80000000 in
set_option maxRecDepth 100000 in
theorem text_Decode.calls (k:Nat) (A0:Option Addr) (c0:Nat) (l0:List Int) (r1:ByteArray) (r2:Int) (w:World) (hr0:Kd.C (Kd.int .u8) w A0 l0.length l0) (hc0:l0.length≤c0) (h:text_Decode.f k l0=some (r1,r2)) :
  Calls Tryd.prog 57 #[.slice A0 l0.length c0] w fun e w' => e=.returned (.tuple #[.string r1,.int .i64 r2])∧Below w.heap.size w w':=by
 have HR:=Aside0.mk hr0
 have HC:=Aside0.mk hc0
 have H0:=Aside0.mk h
 clear hr0 hc0 h
 have u22:=Tryd.underlying34
 have uB:=Tryd.underlying142
 go_enter Tryd.func57,Tryd.ntmps57
 go_wp2_with (first
  | ((with_reducible refine gate_dst (N:=1) rfl ?_);refine box_event ?hg (N:=1) ?hd (cs:=#[.slice A0 l0.length c0]) (t:=34) ?hr ?_;(case hd => rfl);(case hg => rfl);(case hr => first|(go_simp;done)|(go_simp;rfl));intro gb hg w1 hbox hb;have HB1:=Aside0.mk (below_step (Below.refl w.heap.size w) hb);have BK1:=Aside0.mk hbox;have GE1:=Aside0.mk (Nat.le_of_eq hg.symm);clear hb hbox hg)
  | ((with_reducible refine gate_dst (N:=4) rfl ?_);refine box_event ?hg (N:=4) ?hd (cs:=#[.pointer none,.slice none 0 0]) (t:=142) ?hr ?_;(case hd => rfl);(case hg => rfl);(case hr => first|(go_simp;done)|(go_simp;rfl));intro g hg w2 hbox hb;have HB2:=Aside0.mk (below_step HB1.out hb);have BK2:=Aside0.mk hbox;have BK1':=Aside0.mk (blk_below BK1.out hb);have GE2:=Aside0.mk (show w.heap.size≤g from by rw [hg];exact HB1.out.size);have NE:=Aside0.mk (show gb ≠ g from by rw [hg];exact Nat.ne_of_lt (blk_lt BK1.out));clear hb hbox hg))
 have HZ:=Aside0.mk HB2.out.size
 go_loopg [5] k (fun kq v5 wr => ∃ (L:List Int) (a:Int) (o:List Int),v5=.int .i32 a∧Aside0 (text_Decode.l0 kq L a o=some (r1,r2))∧Aside0 (kq≤k)∧Aside0 (IsL w wr gb L)∧Aside0 (IsB (Ok2 g gb) w wr g o)∧Aside0 (IsBytes o)∧Aside0 (Below w.heap.size w wr))
 case atStart => exact ⟨l0,0,[],rfl,H0,⟨Nat.le_refl _⟩,⟨A0,c0,BK1'.out,HR.out,HC.out⟩,⟨.pointer none,.slice none 0 0,BK2.out,.inl rfl,Kd.R_nil _ _ _ _ _⟩,⟨fun x hx => by cases hx⟩,HB2⟩
 case round =>
  obtain ⟨L,a,o,rfl,HA,HK,HL,HI,HW,HB⟩:=hrel
  cases gk with
  | zero => exact absurd HA.out (by simp [text_Decode.l0])
  | succ k1 =>
  have H:=HA.out
  clear HA
  simp only [text_Decode.l0] at H
  obtain ⟨A,c,hbk,hC,hc⟩:=HL.out
  have HBK:=Aside0.mk hbk
  have HCC:=Aside0.mk hC
  have Hc:=Aside0.mk hc
  have hcell:wr.cell? ⟨gb,0,none⟩=some (.slice A L.length c):=(blk_cell hbk 0).trans rfl
  clear hbk hC hc
  have hlt:g < wr.heap.size:=by obtain ⟨p,v,hp,_⟩:=HI.out;exact blk_lt hp
  have HLT:=Aside0.mk hlt
  have HLB:=Aside0.mk (blk_lt HBK.out)
  clear hlt
  by_cases hp:0 < L.length
  ·rw [if_pos hp] at H
   obtain ⟨⟨u,t,m⟩,hn,H⟩:=Option.bind_eq_some_iff.mp H
   have HN:=Aside0.mk (next.calls k1 w wr gb A c L HB.out GE1.out HBK.out HCC.out Hc.out hp u t m hn)
   have hpb:decide (0 < L.length)=true:=decide_eq_true hp
   have hpi:decide ((0:Int) < (L.length:Int))=true:=decide_eq_true (by omega)
   clear hp hn
   cases t with
   | false =>
    rw [if_neg (by simp)] at H
    simp only [Option.some.injEq,Prod.mk.injEq] at H
    obtain ⟨rfl,rfl⟩:=H
    go_wp2_with (first|(go_at_call 67;refine HN.out.mono ?_;rintro e w3 ⟨rfl,hL3,hB3,hK3⟩;have HL3:=Aside0.mk hL3;have HB3:=Aside0.mk hB3;have HI3:=Aside0.mk (IsB.keep HI.out hK3 (fun j hj => hj.2) (Ne.symm NE.out));have HS3:=Aside0.mk hK3.1;clear hL3 hB3 hK3))
    go_ret2
    exact ⟨rfl,HB3.out⟩
   | true =>
    rw [if_pos rfl] at H
    by_cases h1:56320≤u
    ·have h1b:decide (56320≤u)=true:=decide_eq_true h1
     by_cases h2:u < 57344
     ·have h2b:decide (u < 57344)=true:=decide_eq_true h2
      clear h1 h2
      by_cases ha:(a != 0)=true
      ·rw [if_neg (by simp [h1b,h2b,ha]),if_pos ha] at H
       obtain ⟨o1,ho1,H⟩:=Option.bind_eq_some_iff.mp H
       have H2:=Aside0.mk ho1
       have H':=Aside0.mk H
       clear ho1 H
       go_wp2_with (first|(go_at_call 67;refine HN.out.mono ?_;rintro e w3 ⟨rfl,hL3,hB3,hK3⟩;have HL3:=Aside0.mk hL3;have HB3:=Aside0.mk hB3;have HI3:=Aside0.mk (IsB.keep HI.out hK3 (fun j hj => hj.2) (Ne.symm NE.out));have HS3:=Aside0.mk hK3.1;clear hL3 hB3 hK3)|(go_at_call 68;refine (writeRune.calls k1 (Ok2 g gb) w w3 g o o1 (pairV a u) HB3.out GE2.out HI3.out (fun j hj => hj.1) H2.out).mono ?_;rintro e w4 ⟨⟨nn,rfl⟩,hI4,hB4,hK4⟩;have HI4:=Aside0.mk (IsB.mono hI4 (fun j hj => by rcases hj with hj|hj;exact hj;exact ⟨by have:=HLT.out;have:=HS3.out;omega,by have:=HLB.out;have:=HS3.out;omega⟩));have HB4:=Aside0.mk hB4;have HL4:=Aside0.mk (IsL.keep HL3.out hK4 (by rintro (h|h);exact h.2 rfl;exact NE.out h));clear hI4 hB4 hK4))
       go_roundg k1
       case measure => have:=HK.out;omega
       case rel => exact ⟨_,0,o1,by first|rfl|simp [*],H',⟨by have:=HK.out;omega⟩,HL4,HI4,⟨utf8_AppendRune.bytes _ _ _ _ HW.out H2.out⟩,HB4⟩
      ·have ha':(a != 0)=false:=by simpa using ha
       clear ha
       rw [if_pos (by simp [h1b,h2b,ha'])] at H
       simp only [Option.some.injEq,Prod.mk.injEq] at H
       obtain ⟨rfl,rfl⟩:=H
       go_wp2_with (first|(go_at_call 67;refine HN.out.mono ?_;rintro e w3 ⟨rfl,hL3,hB3,hK3⟩;have HL3:=Aside0.mk hL3;have HB3:=Aside0.mk hB3;have HI3:=Aside0.mk (IsB.keep HI.out hK3 (fun j hj => hj.2) (Ne.symm NE.out));have HS3:=Aside0.mk hK3.1;clear hL3 hB3 hK3))
       go_ret2
       exact ⟨rfl,HB3.out⟩
     ·have h2b:decide (u < 57344)=false:=decide_eq_false h2
      clear h1 h2
      by_cases ha:(a != 0)=true
      ·rw [if_pos (by simp [h1b,h2b,ha])] at H
       simp only [Option.some.injEq,Prod.mk.injEq] at H
       obtain ⟨rfl,rfl⟩:=H
       go_wp2_with (first|(go_at_call 67;refine HN.out.mono ?_;rintro e w3 ⟨rfl,hL3,hB3,hK3⟩;have HL3:=Aside0.mk hL3;have HB3:=Aside0.mk hB3;have HI3:=Aside0.mk (IsB.keep HI.out hK3 (fun j hj => hj.2) (Ne.symm NE.out));have HS3:=Aside0.mk hK3.1;clear hL3 hB3 hK3))
       go_ret2
       exact ⟨rfl,HB3.out⟩
      ·have ha':(a != 0)=false:=by simpa using ha
       clear ha
       rw [if_neg (by simp [h1b,h2b,ha']),if_neg (by simp [ha'])] at H
       by_cases h3:55296≤u
       ·have h3b:decide (55296≤u)=true:=decide_eq_true h3
        by_cases h4:u < 56320
        ·have h4b:decide (u < 56320)=true:=decide_eq_true h4
         rw [if_pos (by rw [h3b,h4b];rfl)] at H
         clear h3 h4
         have H':=Aside0.mk H
         clear H
         go_wp2_with (first|(go_at_call 67;refine HN.out.mono ?_;rintro e w3 ⟨rfl,hL3,hB3,hK3⟩;have HL3:=Aside0.mk hL3;have HB3:=Aside0.mk hB3;have HI3:=Aside0.mk (IsB.keep HI.out hK3 (fun j hj => hj.2) (Ne.symm NE.out));have HS3:=Aside0.mk hK3.1;clear hL3 hB3 hK3))
         go_roundg k1
         case measure => have:=HK.out;omega
         case rel => exact ⟨_,u,o,rfl,H',⟨by have:=HK.out;omega⟩,HL3,HI3,HW,HB3⟩
        ·have h4b:decide (u < 56320)=false:=decide_eq_false h4
         rw [if_neg (by rw [h3b,h4b];decide)] at H
         clear h3 h4
         obtain ⟨o1,ho1,H⟩:=Option.bind_eq_some_iff.mp H
         have H2:=Aside0.mk ho1
         have H':=Aside0.mk H
         clear ho1 H
         go_wp2_with (first|(go_at_call 67;refine HN.out.mono ?_;rintro e w3 ⟨rfl,hL3,hB3,hK3⟩;have HL3:=Aside0.mk hL3;have HB3:=Aside0.mk hB3;have HI3:=Aside0.mk (IsB.keep HI.out hK3 (fun j hj => hj.2) (Ne.symm NE.out));have HS3:=Aside0.mk hK3.1;clear hL3 hB3 hK3)|(go_at_call 68;refine (writeRune.calls k1 (Ok2 g gb) w w3 g o o1 u HB3.out GE2.out HI3.out (fun j hj => hj.1) H2.out).mono ?_;rintro e w4 ⟨⟨nn,rfl⟩,hI4,hB4,hK4⟩;have HI4:=Aside0.mk (IsB.mono hI4 (fun j hj => by rcases hj with hj|hj;exact hj;exact ⟨by have:=HLT.out;have:=HS3.out;omega,by have:=HLB.out;have:=HS3.out;omega⟩));have HB4:=Aside0.mk hB4;have HL4:=Aside0.mk (IsL.keep HL3.out hK4 (by rintro (h|h);exact h.2 rfl;exact NE.out h));clear hI4 hB4 hK4))
         go_roundg k1
         case measure => have:=HK.out;omega
         case rel => exact ⟨_,a,o1,by first|rfl|simp [*],H',⟨by have:=HK.out;omega⟩,HL4,HI4,⟨utf8_AppendRune.bytes _ _ _ _ HW.out H2.out⟩,HB4⟩
       ·have h3b:decide (55296≤u)=false:=decide_eq_false h3
        rw [if_neg (by rw [h3b];simp)] at H
        clear h3
        obtain ⟨o1,ho1,H⟩:=Option.bind_eq_some_iff.mp H
        have H2:=Aside0.mk ho1
        have H':=Aside0.mk H
        clear ho1 H
        go_wp2_with (first|(go_at_call 67;refine HN.out.mono ?_;rintro e w3 ⟨rfl,hL3,hB3,hK3⟩;have HL3:=Aside0.mk hL3;have HB3:=Aside0.mk hB3;have HI3:=Aside0.mk (IsB.keep HI.out hK3 (fun j hj => hj.2) (Ne.symm NE.out));have HS3:=Aside0.mk hK3.1;clear hL3 hB3 hK3)|(go_at_call 68;refine (writeRune.calls k1 (Ok2 g gb) w w3 g o o1 u HB3.out GE2.out HI3.out (fun j hj => hj.1) H2.out).mono ?_;rintro e w4 ⟨⟨nn,rfl⟩,hI4,hB4,hK4⟩;have HI4:=Aside0.mk (IsB.mono hI4 (fun j hj => by rcases hj with hj|hj;exact hj;exact ⟨by have:=HLT.out;have:=HS3.out;omega,by have:=HLB.out;have:=HS3.out;omega⟩));have HB4:=Aside0.mk hB4;have HL4:=Aside0.mk (IsL.keep HL3.out hK4 (by rintro (h|h);exact h.2 rfl;exact NE.out h));clear hI4 hB4 hK4))
        go_roundg k1
        case measure => have:=HK.out;omega
        case rel => exact ⟨_,a,o1,by first|rfl|simp [*],H',⟨by have:=HK.out;omega⟩,HL4,HI4,⟨utf8_AppendRune.bytes _ _ _ _ HW.out H2.out⟩,HB4⟩
    ·have h1b:decide (56320≤u)=false:=decide_eq_false h1
     clear h1
     by_cases ha:(a != 0)=true
     ·rw [if_pos (by simp [h1b,ha])] at H
      simp only [Option.some.injEq,Prod.mk.injEq] at H
      obtain ⟨rfl,rfl⟩:=H
      go_wp2_with (first|(go_at_call 67;refine HN.out.mono ?_;rintro e w3 ⟨rfl,hL3,hB3,hK3⟩;have HL3:=Aside0.mk hL3;have HB3:=Aside0.mk hB3;have HI3:=Aside0.mk (IsB.keep HI.out hK3 (fun j hj => hj.2) (Ne.symm NE.out));have HS3:=Aside0.mk hK3.1;clear hL3 hB3 hK3))
      go_ret2
      exact ⟨rfl,HB3.out⟩
     ·have ha':(a != 0)=false:=by simpa using ha
      clear ha
      rw [if_neg (by simp [h1b,ha']),if_neg (by simp [ha'])] at H
      by_cases h3:55296≤u
      ·have h3b:decide (55296≤u)=true:=decide_eq_true h3
       by_cases h4:u < 56320
       ·have h4b:decide (u < 56320)=true:=decide_eq_true h4
        rw [if_pos (by rw [h3b,h4b];rfl)] at H
        clear h3 h4
        have H':=Aside0.mk H
        clear H
        go_wp2_with (first|(go_at_call 67;refine HN.out.mono ?_;rintro e w3 ⟨rfl,hL3,hB3,hK3⟩;have HL3:=Aside0.mk hL3;have HB3:=Aside0.mk hB3;have HI3:=Aside0.mk (IsB.keep HI.out hK3 (fun j hj => hj.2) (Ne.symm NE.out));have HS3:=Aside0.mk hK3.1;clear hL3 hB3 hK3))
        go_roundg k1
        case measure => have:=HK.out;omega
        case rel => exact ⟨_,u,o,rfl,H',⟨by have:=HK.out;omega⟩,HL3,HI3,HW,HB3⟩
       ·have h4b:decide (u < 56320)=false:=decide_eq_false h4
        rw [if_neg (by rw [h3b,h4b];decide)] at H
        clear h3 h4
        obtain ⟨o1,ho1,H⟩:=Option.bind_eq_some_iff.mp H
        have H2:=Aside0.mk ho1
        have H':=Aside0.mk H
        clear ho1 H
        go_wp2_with (first|(go_at_call 67;refine HN.out.mono ?_;rintro e w3 ⟨rfl,hL3,hB3,hK3⟩;have HL3:=Aside0.mk hL3;have HB3:=Aside0.mk hB3;have HI3:=Aside0.mk (IsB.keep HI.out hK3 (fun j hj => hj.2) (Ne.symm NE.out));have HS3:=Aside0.mk hK3.1;clear hL3 hB3 hK3)|(go_at_call 68;refine (writeRune.calls k1 (Ok2 g gb) w w3 g o o1 u HB3.out GE2.out HI3.out (fun j hj => hj.1) H2.out).mono ?_;rintro e w4 ⟨⟨nn,rfl⟩,hI4,hB4,hK4⟩;have HI4:=Aside0.mk (IsB.mono hI4 (fun j hj => by rcases hj with hj|hj;exact hj;exact ⟨by have:=HLT.out;have:=HS3.out;omega,by have:=HLB.out;have:=HS3.out;omega⟩));have HB4:=Aside0.mk hB4;have HL4:=Aside0.mk (IsL.keep HL3.out hK4 (by rintro (h|h);exact h.2 rfl;exact NE.out h));clear hI4 hB4 hK4))
        go_roundg k1
        case measure => have:=HK.out;omega
        case rel => exact ⟨_,a,o1,by first|rfl|simp [*],H',⟨by have:=HK.out;omega⟩,HL4,HI4,⟨utf8_AppendRune.bytes _ _ _ _ HW.out H2.out⟩,HB4⟩
      ·have h3b:decide (55296≤u)=false:=decide_eq_false h3
       rw [if_neg (by rw [h3b];simp)] at H
       clear h3
       obtain ⟨o1,ho1,H⟩:=Option.bind_eq_some_iff.mp H
       have H2:=Aside0.mk ho1
       have H':=Aside0.mk H
       clear ho1 H
       go_wp2_with (first|(go_at_call 67;refine HN.out.mono ?_;rintro e w3 ⟨rfl,hL3,hB3,hK3⟩;have HL3:=Aside0.mk hL3;have HB3:=Aside0.mk hB3;have HI3:=Aside0.mk (IsB.keep HI.out hK3 (fun j hj => hj.2) (Ne.symm NE.out));have HS3:=Aside0.mk hK3.1;clear hL3 hB3 hK3)|(go_at_call 68;refine (writeRune.calls k1 (Ok2 g gb) w w3 g o o1 u HB3.out GE2.out HI3.out (fun j hj => hj.1) H2.out).mono ?_;rintro e w4 ⟨⟨nn,rfl⟩,hI4,hB4,hK4⟩;have HI4:=Aside0.mk (IsB.mono hI4 (fun j hj => by rcases hj with hj|hj;exact hj;exact ⟨by have:=HLT.out;have:=HS3.out;omega,by have:=HLB.out;have:=HS3.out;omega⟩));have HB4:=Aside0.mk hB4;have HL4:=Aside0.mk (IsL.keep HL3.out hK4 (by rintro (h|h);exact h.2 rfl;exact NE.out h));clear hI4 hB4 hK4))
       go_roundg k1
       case measure => have:=HK.out;omega
       case rel => exact ⟨_,a,o1,by first|rfl|simp [*],H',⟨by have:=HK.out;omega⟩,HL4,HI4,⟨utf8_AppendRune.bytes _ _ _ _ HW.out H2.out⟩,HB4⟩
  ·rw [if_neg hp] at H
   have hpi:decide ((0:Int) < (L.length:Int))=false:=decide_eq_false (by omega)
   have hpb:decide (0 < L.length)=false:=decide_eq_false hp
   have hpe:(0 < L.length)=False:=eq_false hp
   clear hp
   by_cases ha:(a != 0)=true
   ·rw [if_pos ha] at H
    simp only [Option.some.injEq,Prod.mk.injEq] at H
    obtain ⟨rfl,rfl⟩:=H
    go_wp2
    go_ret2
    exact ⟨rfl,HB.out⟩
   ·have ha':(a != 0)=false:=by simpa using ha
    rw [if_neg ha] at H
    simp only [Option.some.injEq,Prod.mk.injEq] at H
    obtain ⟨rfl,rfl⟩:=H
    clear ha
    have hS:=IsB.string HI.out HW.out GE2.out HB.out.size
    go_wp2_with (go_at_call 69;refine hS.mono ?_;rintro e w3 ⟨rfl,hB3⟩;have HB3:=Aside0.mk hB3;clear hB3)
    go_ret2
    exact ⟨rfl,HB.out.trans HB3.out⟩
end Go.Proofs.YtglnhkgodgjepaaDoor.Px
namespace Go.Proofs.YtglnhkgodgjepaaDoor.Px
open Go.RowKit Go.Proofs.YtglnhkgodgjepaaDoorW.PrintWords Go.Proofs.YtglnhkgodgjepaaDoorW.PrintLast Go.Proofs.YtglnhkgodgjepaaDoorW.PrintMore
set_option linter.unusedVariables false
set_option linter.unusedSimpArgs false
theorem RdStep.set {B:Nat} {w W:World} {g k:Nat} (h:RdStep B w W g) (hk:w.heap.size≤k) (hB:B≤k) (j:Nat) (u:Value):RdStep B w (W.setCell ⟨k,j,none⟩ u) g :=
 ⟨h.below.setCell (p:=⟨k,j,none⟩) hB u,⟨by rw [show (W.setCell ⟨k,j,none⟩ u).heap.size=W.heap.size from by simp];exact h.keep.1,fun i hi hg hr => (Below.heap_setCell W ⟨k,j,none⟩ u i (by show i ≠ k;omega)).trans (h.keep.2 i hi hg hr)⟩⟩
theorem RdStep.alloc {B:Nat} {w W:World} {g:Nat} (h:RdStep B w W g) (hB:B≤W.heap.size) (o:Obj):RdStep B w (W.alloc o) g :=
 ⟨h.below.alloc hB o,h.keep.trans (KeepBut.of_below (below_alloc (Below.refl _ _) o) g none) (.inl rfl)⟩
def pool_two.f (k:Nat) (bs:List Int) (p:Nat) (e:Int):Option (Int × Int × Nat) :=
 if e=0 then (rd_Uint.f k bs p 2).bind fun r => if 0≤r.1∧r.1 < 65536 then some r else none else some (0,e,p)
theorem two_range {k:Nat} {bs:List Int} {p:Nat} {e x e':Int} {p':Nat} (h:pool_two.f k bs p e=some (x,e',p')):0≤x∧x < 65536:=by
 unfold pool_two.f at h
 split at h
 ·obtain ⟨r,_,h⟩:=Option.bind_eq_some_iff.mp h
  split at h
  ·rename_i hh;obtain rfl:=Option.some.inj h;exact hh
  ·cases h
 ·simp only [Option.some.injEq,Prod.mk.injEq] at h;omega
theorem pool_two.mono (bs:List Int) (p:Nat) (e:Int) (k:Nat):LeO (pool_two.f k bs p e) (pool_two.f (k + 1) bs p e):=LeO.ite (LeO.bind (rd_Uint.mono _ _ _ _) (fun _ => LeO.refl _)) (LeO.refl _)
def TwoPost (B:Nat) (w:World) (g ge:Nat) (bs:List Int) (e':Int) (p':Nat) (w':World):Prop :=
 IsRd B w' g bs p'∧w'.heap[ge]?=some (.cells #[.int .i64 e'] 23 (0,0))∧Below B w w'∧∀ k,k < w.heap.size→k ≠ g→k ≠ ge→w'.heap[k]?=w.heap[k]?
set_option maxHeartbeats 4000000 in
set_option maxRecDepth 100000 in
theorem pool_two.calls (k B g ge g1:Nat) (bs:List Int) (p:Nat) (e x e':Int) (p':Nat) (w:World) (hI:IsRd B w g bs p) (hl:bs.length≤140737488355328) (hBe:B≤ge) (hbe:w.heap[ge]?=some (.cells #[.int .i64 e] 23 (0,0))) (hb1:w.heap[g1]?=some (.cells #[.pointer (some ⟨g,0,none⟩)] 68 (0,0))) (h:pool_two.f k bs p e=some (x,e',p')) :
  Calls Tryd.prog 55 #[.pointer (some ⟨ge,0,none⟩),.pointer (some ⟨g1,0,none⟩)] w fun r w' => r=.returned (.int .i64 x)∧TwoPost B w g ge bs e' p' w':=by
 have ce:w.cell? ⟨ge,0,none⟩=some (.int .i64 e):=(blk_cell hbe 0).trans rfl
 have c1:w.cell? ⟨g1,0,none⟩=some (.pointer (some ⟨g,0,none⟩)):=(blk_cell hb1 0).trans rfl
 unfold pool_two.f at h
 by_cases he:e=0
 ·rw [if_pos he] at h
  obtain ⟨⟨y,e2,p2⟩,hU,h⟩:=Option.bind_eq_some_iff.mp h
  by_cases hb:0≤y∧y < 65536
  ·rw [if_pos hb] at h
   simp only [Option.some.injEq,Prod.mk.injEq] at h
   obtain ⟨rfl,rfl,rfl⟩:=h
   have HU:=Aside0.mk (rd_Uint.calls k B g bs p 2 y e2 p2 w hI (by decide) (by decide) hl hU)
   obtain ⟨y0,y1⟩:=hb
   have heb:(e != 0)=false:=bne_eq_false_iff_eq.mpr he
   have HBE:=Aside0.mk hbe
   have HBG:=Aside0.mk hBe
   have HNE:Aside0 (ge ≠ g):=⟨fun hh => by obtain ⟨v,hv,_⟩:=hI.blk;rw [hh] at hbe;rw [hbe] at hv;injection hv with hv;injection hv with _ ht;cases ht⟩
   clear hI hl hBe hbe hb1 hU he
   go_enter Tryd.func55,Tryd.ntmps55
   go_wp2_with fail
   refine HU.out.mono ?_
   rintro r w1 ⟨rfl,hP⟩
   have HP:=Aside0.mk hP
   have hbe1:=hP.2.blk HNE.out HBE.out
   have ce1:w1.cell? ⟨ge,0,none⟩=some (.int .i64 e):=(blk_cell hbe1 0).trans rfl
   have fe1:=blk_frozen hbe1 0
   have HBE1:=Aside0.mk hbe1
   clear hP hbe1 ce c1 HU
   go_wp2
   go_ret
   refine ⟨rfl,HP.out.1.far HBE1.out (by decide) (by decide) 0 _,blk_set HBE1.out 0 _,HP.out.2.below.setCell (p:=⟨ge,0,none⟩) HBG.out _,fun j hj hg he => ?_⟩
   exact (Below.heap_setCell w1 ⟨ge,0,none⟩ _ j he).trans (HP.out.2.keep.2 j hj hg (by simp))
  ·rw [if_neg hb] at h
   cases h
 ·rw [if_neg he] at h
  simp only [Option.some.injEq,Prod.mk.injEq] at h
  obtain ⟨rfl,rfl,rfl⟩:=h
  have heb:(e != 0)=true:=bne_iff_ne.mpr he
  have HI:=Aside0.mk hI
  have HBE:=Aside0.mk hbe
  clear hI hbe hb1 he hl hBe
  go_enter Tryd.func55,Tryd.ntmps55
  go_wp2
  go_ret
  exact ⟨rfl,HI.out,HBE.out,Below.refl _ _,fun _ _ _ _ => rfl⟩
abbrev Cst2:=S33
def set5 (W:World) (k:Nat) (cc:Cst2):World:=(((((W.setCell ⟨k,0,none⟩ (.int .i64 cc.f0)).setCell ⟨k,1,none⟩ (.string cc.f1)).setCell ⟨k,2,none⟩ (.int .i64 cc.f2)).setCell ⟨k,3,none⟩ (.int .i64 cc.f3)).setCell ⟨k,4,none⟩ (.int .i64 cc.f4))
theorem set5_far {W:World} {k j:Nat} {cc:Cst2} {t:TypeId} {cs:Array Value} (h:W.heap[j]?=some (.cells cs t (0,0))) (hne:j ≠ k):(set5 W k cc).heap[j]?=some (.cells cs t (0,0)) :=
 blk_far (blk_far (blk_far (blk_far (blk_far h hne _) hne _) hne _) hne _) hne _
def constCells (cc:Cst2):Array Value:=#[.int .i64 cc.f0,.string cc.f1,.int .i64 cc.f2,.int .i64 cc.f3,.int .i64 cc.f4]
theorem set5_at {W:World} {k:Nat} {cc:Cst2} (h:W.heap[k]?=some (.cells #[.int .i64 0,.string (⟨#[]⟩:ByteArray),.int .i64 0,.int .i64 0,.int .i64 0] 33 (0,0))):(set5 W k cc).heap[k]?=some (.cells (constCells cc) 33 (0,0)):=by
 unfold set5 constCells
 refine blk_put (cs:=#[.int .i64 cc.f0,.string cc.f1,.int .i64 cc.f2,.int .i64 cc.f3,.int .i64 0]) ?_ 4 _ rfl
 refine blk_put (cs:=#[.int .i64 cc.f0,.string cc.f1,.int .i64 cc.f2,.int .i64 0,.int .i64 0]) ?_ 3 _ rfl
 refine blk_put (cs:=#[.int .i64 cc.f0,.string cc.f1,.int .i64 0,.int .i64 0,.int .i64 0]) ?_ 2 _ rfl
 refine blk_put (cs:=#[.int .i64 cc.f0,.string (⟨#[]⟩:ByteArray),.int .i64 0,.int .i64 0,.int .i64 0]) ?_ 1 _ rfl
 refine blk_put (cs:=#[.int .i64 0,.string (⟨#[]⟩:ByteArray),.int .i64 0,.int .i64 0,.int .i64 0]) ?_ 0 _ rfl
 exact h
theorem set5_cells {W:World} {k j:Nat} {cc c2:Cst2} (h:W.heap[j]?=some (.cells (constCells c2) 33 (0,0))) (hne:j ≠ k):(set5 W k cc).drew.cell? ⟨j,0,none⟩=some (.int .i64 c2.f0)∧(set5 W k cc).drew.cell? ⟨j,1,none⟩=some (.string c2.f1)∧(set5 W k cc).drew.cell? ⟨j,2,none⟩=some (.int .i64 c2.f2)∧(set5 W k cc).drew.cell? ⟨j,3,none⟩=some (.int .i64 c2.f3)∧(set5 W k cc).drew.cell? ⟨j,4,none⟩=some (.int .i64 c2.f4):=by
 have hb:(set5 W k cc).drew.heap[j]?=some (.cells (constCells c2) 33 (0,0)):=blk_drew (set5_far (cc:=cc) h hne)
 exact ⟨(blk_cell hb 0).trans rfl,(blk_cell hb 1).trans rfl,(blk_cell hb 2).trans rfl,(blk_cell hb 3).trans rfl,(blk_cell hb 4).trans rfl⟩
theorem set5_cell1 {W:World} {k j:Nat} {cc:Cst2} {e:Int} (h:W.heap[j]?=some (.cells #[.int .i64 e] 23 (0,0))) (hne:j ≠ k):(set5 W k cc).drew.cell? ⟨j,0,none⟩=some (.int .i64 e):=by
 have hb:(set5 W k cc).drew.heap[j]?=some (.cells #[.int .i64 e] 23 (0,0)):=blk_drew (set5_far (cc:=cc) h hne)
 exact (blk_cell hb 0).trans rfl
def pool_constant.f (k:Nat) (bs:List Int) (p:Nat):Option (Cst2 × Int × Nat) :=
 (rd_Uint.f k bs p 1).bind fun t =>
  if 0≤t.1∧t.1 < 256 then
   (if t.2.1=0 then
    (if t.1=1 then (pool_two.f k bs t.2.2 0).bind fun n =>
      if n.2.1=0 then
       (if n.1 > 256 then some (⟨t.1,⟨#[]⟩,0,0,0⟩,20,n.2.2)
        else if rdE bs n.2.2 n.1.toNat=0 then (text_Decode.f k (rdL bs n.2.2 n.1.toNat)).bind fun s => some (⟨t.1,s.1,0,0,0⟩,s.2,rdP bs n.2.2 n.1.toNat)
          else some (⟨t.1,⟨#[]⟩,0,0,0⟩,rdE bs n.2.2 n.1.toNat,rdP bs n.2.2 n.1.toNat))
      else some (⟨t.1,⟨#[]⟩,0,0,0⟩,n.2.1,n.2.2)
     else if t.1=3 then (rd_Int.f k bs t.2.2 4).bind fun n => some (⟨t.1,⟨#[]⟩,n.1,0,0⟩,n.2.1,n.2.2)
     else if t.1=5 then (rd_Int.f k bs t.2.2 8).bind fun n => some (⟨t.1,⟨#[]⟩,n.1,0,0⟩,n.2.1,n.2.2)
     else if t.1=7 then (pool_two.f k bs t.2.2 0).bind fun n => some (⟨t.1,⟨#[]⟩,0,n.1,0⟩,n.2.1,n.2.2)
     else if t.1=9 ∨ t.1=10 ∨ t.1=12 then (pool_two.f k bs t.2.2 0).bind fun n => (pool_two.f k bs n.2.2 n.2.1).bind fun m => some (⟨t.1,⟨#[]⟩,0,n.1,m.1⟩,m.2.1,m.2.2)
     else some (⟨t.1,⟨#[]⟩,0,0,0⟩,40,t.2.2))
    else some (⟨t.1,⟨#[]⟩,0,0,0⟩,t.2.1,t.2.2))
  else none
theorem pool_constant.mono (bs:List Int) (p k:Nat):LeO (pool_constant.f k bs p) (pool_constant.f (k + 1) bs p):=by
 unfold pool_constant.f
 refine LeO.bind (rd_Uint.mono _ _ _ _) (fun t => LeO.ite (LeO.ite (LeO.ite (LeO.bind (pool_two.mono _ _ _ _) (fun n => LeO.ite (LeO.ite (LeO.refl _) (LeO.ite (LeO.bind (text_Decode.mono _ _) (fun _ => LeO.refl _)) (LeO.refl _))) (LeO.refl _))) (LeO.ite (LeO.bind (rd_Int.mono _ _ _ _) (fun _ => LeO.refl _)) (LeO.ite (LeO.bind (rd_Int.mono _ _ _ _) (fun _ => LeO.refl _)) (LeO.ite (LeO.bind (pool_two.mono _ _ _ _) (fun _ => LeO.refl _)) (LeO.ite (LeO.bind (pool_two.mono _ _ _ _) (fun n => LeO.bind (pool_two.mono _ _ _ _) (fun _ => LeO.refl _))) (LeO.refl _)))))) (LeO.refl _)) (LeO.refl _))
theorem set5_Rd {B:Nat} {W:World} {g k:Nat} {bs:List Int} {p:Nat} {cc:Cst2} {cs:Array Value} (h:IsRd B W g bs p) (hb:W.heap[k]?=some (.cells cs 33 (0,0))):IsRd B (set5 W k cc) g bs p:=by
 obtain ⟨v,hk,hr⟩:=h.blk
 have hne:g ≠ k:=blk_ne hk hb (by decide)
 have h1:=Kd.R_set hr hb (by decide) 0 (.int .i64 cc.f0)
 have b1:=blk_set hb 0 (.int .i64 cc.f0)
 have h2:=Kd.R_set h1 b1 (by decide) 1 (.string cc.f1)
 have b2:=blk_set b1 1 (.string cc.f1)
 have h3:=Kd.R_set h2 b2 (by decide) 2 (.int .i64 cc.f2)
 have b3:=blk_set b2 2 (.int .i64 cc.f2)
 have h4:=Kd.R_set h3 b3 (by decide) 3 (.int .i64 cc.f3)
 have b4:=blk_set b3 3 (.int .i64 cc.f3)
 exact ⟨h.ge,⟨v,set5_far hk hne,Kd.R_set h4 b4 (by decide) 4 (.int .i64 cc.f4)⟩,h.hi⟩
theorem set5_St {B:Nat} {w W:World} {g k:Nat} {cc:Cst2} (h:RdStep B w W g) (hk:w.heap.size≤k) (hB:B≤k):RdStep B w (set5 W k cc) g:=((((h.set hk hB 0 _).set hk hB 1 _).set hk hB 2 _).set hk hB 3 _).set hk hB 4 _
def ConstPost (B:Nat) (w:World) (g:Nat) (bs:List Int) (cc:Cst2) (ee:Int) (p':Nat) (r:Ending) (w':World):Prop :=
 r=.returned (.tuple #[.agg (constCells cc),.int .i64 ee])∧RdPost B w g bs p' w'
structure ConstMid (B:Nat) (w:World) (g g1 g2 ge gc:Nat) (bs:List Int) (cc:Cst2) (ee:Int) (p':Nat) (W:World):Prop where
 I:IsRd B W g bs p'
 S:RdStep B w W g
 b1:W.heap[g1]?=some (.cells #[.pointer (some ⟨g,0,none⟩)] 68 (0,0))
 b2:W.heap[g2]?=some (.cells #[.int .i64 0,.string (⟨#[]⟩:ByteArray),.int .i64 0,.int .i64 0,.int .i64 0] 33 (0,0))
 be:W.heap[ge]?=some (.cells #[.int .i64 ee] 23 (0,0))
 bc:W.heap[gc]?=some (.cells (constCells cc) 33 (0,0))
 lB:B≤g
 lg:g < w.heap.size
 l1:w.heap.size≤g1
 l2:g1 < g2
 le:g2 < ge
 lc:ge < gc
section
variable {B:Nat} {w:World} {g g1 g2 ge gc:Nat} {bs:List Int} {cc:Cst2} {ee e':Int} {p p':Nat} {W W':World}
theorem ConstMid.two (h:ConstMid B w g g1 g2 ge gc bs cc ee p W) (k:TwoPost B W g ge bs e' p' W'):ConstMid B w g g1 g2 ge gc bs cc e' p' W':=by
 obtain ⟨k1,k2,k3,k4⟩:=k
 obtain ⟨hI,hS,h1,h2,he,hc,lB,lg,l1,l2,le,lc⟩:=h
 refine ⟨k1,⟨hS.below.trans k3,⟨Nat.le_trans hS.keep.1 k3.size,fun i hi hg hr => ?_⟩⟩,(k4 g1 (blk_lt h1) (by omega) (by omega)).trans h1,(k4 g2 (blk_lt h2) (by omega) (by omega)).trans h2,k2,(k4 gc (blk_lt hc) (by omega) (by omega)).trans hc,lB,lg,l1,l2,le,lc⟩
 exact (k4 i (Nat.lt_of_lt_of_le hi hS.keep.1) hg (by omega)).trans (hS.keep.2 i hi hg hr)
theorem ConstMid.rd (h:ConstMid B w g g1 g2 ge gc bs cc ee p W) (k:RdPost B W g bs p' W'):ConstMid B w g g1 g2 ge gc bs cc ee p' W':=by
 obtain ⟨hI,hS,h1,h2,he,hc,lB,lg,l1,l2,le,lc⟩:=h
 exact ⟨k.1,hS.trans k.2,k.2.blk (by omega) h1,k.2.blk (by omega) h2,k.2.blk (by omega) he,k.2.blk (by omega) hc,lB,lg,l1,l2,le,lc⟩
theorem ConstMid.below (h:ConstMid B w g g1 g2 ge gc bs cc ee p W) (k:Below W.heap.size W W'):ConstMid B w g g1 g2 ge gc bs cc ee p W':=h.rd ⟨h.I.below k,⟨k.mono h.I.base_le,KeepBut.of_below k _ _⟩⟩
theorem ConstMid.setE (h:ConstMid B w g g1 g2 ge gc bs cc ee p W) (e':Int):ConstMid B w g g1 g2 ge gc bs cc e' p (W.setCell ⟨ge,0,none⟩ (.int .i64 e')):=by
 obtain ⟨hI,hS,h1,h2,he,hc,lB,lg,l1,l2,le,lc⟩:=h
 exact ⟨hI.far he (by decide) (by decide) 0 _,hS.set (by omega) (by omega) 0 _,blk_far h1 (show g1 ≠ ge by omega) _,blk_far h2 (show g2 ≠ ge by omega) _,blk_set he 0 _,blk_far hc (show gc ≠ ge by omega) _,lB,lg,l1,l2,le,lc⟩
theorem ConstMid.setC (h:ConstMid B w g g1 g2 ge gc bs cc ee p W) (j:Nat) (u:Value) (c2:Cst2) (hj:(constCells cc).setIfInBounds j u=constCells c2):ConstMid B w g g1 g2 ge gc bs c2 ee p (W.setCell ⟨gc,j,none⟩ u):=by
 obtain ⟨hI,hS,h1,h2,he,hc,lB,lg,l1,l2,le,lc⟩:=h
 exact ⟨hI.far hc (by decide) (by decide) j u,hS.set (by omega) (by omega) j u,blk_far h1 (show g1 ≠ gc by omega) _,blk_far h2 (show g2 ≠ gc by omega) _,blk_far he (show ge ≠ gc by omega) _,(blk_set hc j u).trans (by rw [hj]),lB,lg,l1,l2,le,lc⟩
end
theorem const_start {B:Nat} {w wA:World} {g:Nat} {bs:List Int} {p:Nat} (hI:IsRd B w g bs p) (hw:wA=(w.alloc (.cells #[.pointer (some ⟨g,0,none⟩)] 68 (0,0))).alloc (.cells #[.int .i64 0,.string (⟨#[]⟩:ByteArray),.int .i64 0,.int .i64 0,.int .i64 0] 33 (0,0))) :
  IsRd B wA g bs p∧RdStep B w wA g∧wA.heap[w.heap.size]?=some (.cells #[.pointer (some ⟨g,0,none⟩)] 68 (0,0))∧wA.heap[w.heap.size + 1]?=some (.cells #[.int .i64 0,.string (⟨#[]⟩:ByteArray),.int .i64 0,.int .i64 0,.int .i64 0] 33 (0,0))∧wA.heap.size=w.heap.size + 2:=by
 have hb:Below w.heap.size w wA:=by rw [hw];exact below_alloc (below_alloc (Below.refl _ _) _) _
 refine ⟨hI.below hb,⟨hb.mono hI.base_le,KeepBut.of_below hb _ _⟩,?_,?_,by rw [hw];simp⟩
 ·rw [hw,heap_alloc_old _ _ (by simp)]
  exact heap_alloc_new w _
 ·rw [hw]
  simpa using heap_alloc_new (w.alloc (.cells #[.pointer (some ⟨g,0,none⟩)] 68 (0,0))) (.cells #[.int .i64 0,.string (⟨#[]⟩:ByteArray),.int .i64 0,.int .i64 0,.int .i64 0] 33 (0,0))
theorem const_mid {B:Nat} {w w1 wM:World} {g g1 g2:Nat} {bs:List Int} {p:Nat} {e t:Int} (lB:B≤g) (lg:g < w.heap.size) (l1:w.heap.size≤g1) (l2:g1 < g2) (hI:IsRd B w1 g bs p) (hS:RdStep B w w1 g) (h1:w1.heap[g1]?=some (.cells #[.pointer (some ⟨g,0,none⟩)] 68 (0,0))) (h2:w1.heap[g2]?=some (.cells #[.int .i64 0,.string (⟨#[]⟩:ByteArray),.int .i64 0,.int .i64 0,.int .i64 0] 33 (0,0)))
  (hw:wM=(w1.alloc (.cells #[.int .i64 e] 23 (0,0))).alloc (.cells #[.int .i64 t,.string (⟨#[]⟩:ByteArray),.int .i64 0,.int .i64 0,.int .i64 0] 33 (0,0))) :
  ConstMid B w g g1 g2 w1.heap.size (w1.heap.size + 1) bs ⟨t,⟨#[]⟩,0,0,0⟩ e p wM:=by
 have hb:Below w1.heap.size w1 wM:=by rw [hw];exact below_alloc (below_alloc (Below.refl _ _) _) _
 refine ⟨hI.below hb,hS.trans ⟨hb.mono hI.base_le,KeepBut.of_below hb _ _⟩,(hb.block _ (blk_lt h1)).trans h1,(hb.block _ (blk_lt h2)).trans h2,?_,?_,lB,lg,l1,l2,blk_lt h2,Nat.lt_succ_self _⟩
 ·rw [hw,heap_alloc_old _ _ (by simp)]
  exact heap_alloc_new w1 _
 ·rw [hw]
  simpa [constCells] using heap_alloc_new (w1.alloc (.cells #[.int .i64 e] 23 (0,0))) (.cells #[.int .i64 t,.string (⟨#[]⟩:ByteArray),.int .i64 0,.int .i64 0,.int .i64 0] 33 (0,0))
set_option maxHeartbeats 40000000 in
set_option maxRecDepth 100000 in
theorem pool_constant.calls (k B g:Nat) (bs:List Int) (p:Nat) (cc:Cst2) (ee:Int) (p':Nat) (w:World) (hI:IsRd B w g bs p) (hl:bs.length≤140737488355328) (h:pool_constant.f k bs p=some (cc,ee,p')) :
  Calls Tryd.prog 33 #[.pointer (some ⟨g,0,none⟩)] w fun r w' => ConstPost B w g bs cc ee p' r w':=by
 unfold pool_constant.f at h
 obtain ⟨⟨t,e1,p1⟩,hU,h⟩:=Option.bind_eq_some_iff.mp h
 by_cases hb:0≤t∧t < 256
 ·rw [if_pos hb] at h
  obtain ⟨t0,t1⟩:=hb
  have HI0:=Aside0.mk hI
  have HLL:=Aside0.mk hl
  have HU:=Aside0.mk hU
  clear hI hl hU
  simp only at h
  go_enter Tryd.func33,Tryd.ntmps33
  go_wp2_with fail
  obtain ⟨wA,hwA⟩:∃ wA,wA=(w.alloc (.cells #[.pointer (some ⟨g,0,none⟩)] 68 (0,0))).alloc (.cells #[.int .i64 0,.string (⟨#[]⟩:ByteArray),.int .i64 0,.int .i64 0,.int .i64 0] 33 (0,0)):=⟨_,rfl⟩
  obtain ⟨hIA,hSA,hk1,hk2,hszA⟩:=const_start HI0.out hwA
  rw [← hwA]
  clear hwA
  obtain ⟨g1,hg1⟩:∃ g1,g1=w.heap.size:=⟨_,rfl⟩
  obtain ⟨g2,hg2⟩:∃ g2,g2=g1 + 1:=⟨_,rfl⟩
  rw [← hg1,← hg2] at hk2
  rw [← hg1] at hk1
  rw [← hg1,← hg2]
  have HG1:=Aside0.mk hg1
  have HG2:=Aside0.mk hg2
  have HSZ:=Aside0.mk hszA
  have BK1:=Aside0.mk hk1
  have BK2:=Aside0.mk hk2
  have HSA:=Aside0.mk hSA
  have HUC:=Aside0.mk (rd_Uint.calls k B g bs p 1 t e1 p1 wA hIA (by decide) (by decide) HLL.out HU.out)
  clear hg1 hg2 hszA hk1 hk2 hSA hIA
  refine HUC.out.mono ?_
  rintro r w1 ⟨rfl,hP⟩
  have HI1:=Aside0.mk hP.1
  have HS1:=Aside0.mk (HSA.out.trans hP.2)
  have NE1:Aside0 (g1 ≠ g):=⟨by have:=HI0.out.lt;rw [HG1.out];omega⟩
  have NE2:Aside0 (g2 ≠ g):=⟨by have:=HI0.out.lt;rw [HG2.out,HG1.out];omega⟩
  have BK1':=Aside0.mk (hP.2.blk NE1.out BK1.out)
  have BK2':=Aside0.mk (hP.2.blk NE2.out BK2.out)
  have HS2:Aside0 (g2 < w1.heap.size):=⟨blk_lt BK2'.out⟩
  clear hP BK1 BK2 HUC HSA
  by_cases he:e1=0
  ·rw [if_pos he] at h
   have heb:(e1 != 0)=false:=bne_eq_false_iff_eq.mpr he
   subst he
   go_upto_block 0 with (fail)
   obtain ⟨wM,hwM⟩:∃ wM,wM=(w1.alloc (.cells #[.int .i64 0] 23 (0,0))).alloc (.cells #[.int .i64 t,.string (⟨#[]⟩:ByteArray),.int .i64 0,.int .i64 0,.int .i64 0] 33 (0,0)):=⟨_,rfl⟩
   have hM:=const_mid HI0.out.ge HI0.out.lt (Nat.le_of_eq HG1.out.symm) (by rw [HG2.out];exact Nat.lt_succ_self _) HI1.out HS1.out BK1'.out BK2'.out hwM
   rw [← hwM]
   clear hwM
   obtain ⟨ge,hge⟩:∃ ge,ge=w1.heap.size:=⟨_,rfl⟩
   obtain ⟨gc,hgc⟩:∃ gc,gc=ge + 1:=⟨_,rfl⟩
   rw [← hge,← hgc] at hM
   rw [← hge]
   (try rw [← hgc])
   have HM:=Aside0.mk hM
   clear hM hge hgc BK1' BK2' HS2
   go_cut [] (fun wc => Aside0 (ConstMid B w g g1 g2 ge gc bs cc ee p' wc))
   case first =>
    have two:=fun (W:World) (pp:Nat) (e0 x e2:Int) (p2:Nat) (c2:Cst2) (hm:ConstMid B w g g1 g2 ge gc bs c2 e0 pp W) (hh:pool_two.f k bs pp e0=some (x,e2,p2)) => pool_two.calls k B g ge g1 bs pp e0 x e2 p2 W hm.I HLL.out (by have:=hm.lB;have:=hm.lg;have:=hm.l1;have:=hm.l2;have:=hm.le;omega) hm.be hm.b1 hh
    have TWO:=Aside0.mk two
    clear two
    have ce:wM.cell? ⟨ge,0,none⟩=some (.int .i64 0):=(blk_cell HM.out.be 0).trans rfl
    have c1:wM.cell? ⟨g1,0,none⟩=some (.pointer (some ⟨g,0,none⟩)):=(blk_cell HM.out.b1 0).trans rfl
    by_cases q1:t=1
    ·rw [if_pos q1] at h
     obtain ⟨⟨x,e2,p2⟩,hT,h⟩:=Option.bind_eq_some_iff.mp h
     have k1:(t==1)=true:=beq_iff_eq.mpr q1
     have HT:=Aside0.mk hT
     clear hT q1
     simp only at h
     have hx:=two_range HT.out
     obtain ⟨x0,x1⟩:=hx
     go_wp2_with fail
     refine (TWO.out _ _ _ _ _ _ _ HM.out HT.out).mono ?_
     rintro r w2 ⟨rfl,hP⟩
     have HM2:=Aside0.mk (HM.out.two hP)
     have ce2:w2.cell? ⟨ge,0,none⟩=some (.int .i64 e2):=(blk_cell HM2.out.be 0).trans rfl
     have fe2:w2.frozen? ⟨ge,0,none⟩=false:=blk_frozen HM2.out.be 0
     have c12:w2.cell? ⟨g1,0,none⟩=some (.pointer (some ⟨g,0,none⟩)):=(blk_cell HM2.out.b1 0).trans rfl
     clear hP HM ce c1
     by_cases q2:e2=0
     ·rw [if_pos q2] at h
      have k2:(e2==0)=true:=beq_iff_eq.mpr q2
      have k2n:(e2 != 0)=false:=bne_eq_false_iff_eq.mpr q2
      by_cases q3:x > 256
      ·rw [if_pos q3] at h
       have k3:decide (256 < x)=true:=decide_eq_true q3
       simp only [Option.some.injEq,Prod.mk.injEq] at h
       obtain ⟨hcc,hee,hpp⟩:=h
       obtain rfl:p'=p2:=hpp.symm
       have HM:=Aside0.mk (HM2.out.setE 20)
       have HCE:=Aside0.mk hcc
       have HEE:=Aside0.mk hee
       clear q2 q3 HM2 hcc hee
       go_upto_region 13 with (fail)
       obtain ⟨wT,hwT⟩:∃ wT,wT=w2.setCell ⟨ge,0,none⟩ (.int .i64 20):=⟨_,rfl⟩
       rw [← hwT] at HM ⊢
       rw [HCE.out,HEE.out] at HM
       clear hwT ce2 fe2 c12 HCE HEE
       have BKc:=Aside0.mk HM.out.bc
       have BKe:=Aside0.mk HM.out.be
       have BK2:=Aside0.mk HM.out.b2
       have NE2c:Aside0 (g2 ≠ gc):=⟨by have:=HM.out.le;have:=HM.out.lc;omega⟩
       have NE2e:Aside0 (g2 ≠ ge):=⟨by have:=HM.out.le;omega⟩
       have G2LE:Aside0 (w.heap.size≤g2):=⟨by have:=HM.out.l1;have:=HM.out.l2;omega⟩
       have G2B:Aside0 (B≤g2):=⟨by have:=HM.out.lB;have:=HM.out.lg;have:=G2LE.out;omega⟩
       have hz0:wT.cell? ⟨g2,0,none⟩=some (.int .i64 0):=(blk_cell BK2.out 0).trans rfl
       have hz1:wT.cell? ⟨g2,1,none⟩=some (.string (⟨#[]⟩:ByteArray)):=(blk_cell BK2.out 1).trans rfl
       have hz2:wT.cell? ⟨g2,2,none⟩=some (.int .i64 0):=(blk_cell BK2.out 2).trans rfl
       have hz3:wT.cell? ⟨g2,3,none⟩=some (.int .i64 0):=(blk_cell BK2.out 3).trans rfl
       have hz4:wT.cell? ⟨g2,4,none⟩=some (.int .i64 0):=(blk_cell BK2.out 4).trans rfl
       have hfz0:wT.frozen? ⟨g2,0,none⟩=false:=blk_frozen BK2.out 0
       have hfz1:wT.frozen? ⟨g2,1,none⟩=false:=blk_frozen BK2.out 1
       have hfz2:wT.frozen? ⟨g2,2,none⟩=false:=blk_frozen BK2.out 2
       have hfz3:wT.frozen? ⟨g2,3,none⟩=false:=blk_frozen BK2.out 3
       have hfz4:wT.frozen? ⟨g2,4,none⟩=false:=blk_frozen BK2.out 4
       obtain ⟨hqc0,hqc1,hqc2,hqc3,hqc4⟩:=set5_cells (cc:=cc) BKc.out NE2c.out.symm
       have hqe:=set5_cell1 (cc:=cc) BKe.out NE2e.out.symm
       refine start_ (n:=4) (S:=fun w' => w'.cell? ⟨gc,0,none⟩=some (.int .i64 cc.f0)∧w'.cell? ⟨gc,1,none⟩=some (.string cc.f1)∧w'.cell? ⟨gc,2,none⟩=some (.int .i64 cc.f2)∧w'.cell? ⟨gc,3,none⟩=some (.int .i64 cc.f3)∧w'.cell? ⟨gc,4,none⟩=some (.int .i64 cc.f4)∧w'.cell? ⟨ge,0,none⟩=some (.int .i64 ee)) (ds:=[]) #[false,false,false,false] (by kernel_rfl) rfl rfl ⟨(blk_cell BKc.out 0).trans rfl,(blk_cell BKc.out 1).trans rfl,(blk_cell BKc.out 2).trans rfl,(blk_cell BKc.out 3).trans rfl,(blk_cell BKc.out 4).trans rfl,(blk_cell BKe.out 0).trans rfl⟩ (fun hHeld => ?_)
       refine take_ (i:=0) (N:=some 37) (v:=?_) (a':=?_) #[true,false,false,false] rfl rfl (by kernel_rfl) (fun _ _ _ h => h) (Or.inl ⟨by rfl,?_⟩) hHeld ?_ ?_
       rotate_left
       ·rintro w' ⟨s0,s1,s2,s3,s4,s5⟩
        go_simp
        with_reducible rfl
       rotate_left
       ·simp only [Act.put,List.setIfInBounds_toArray,List.set_cons_zero,List.set_cons_succ,i64_w,i32_w]
        rfl
       refine take_ (i:=1) (N:=some 38) (v:=?_) (a':=?_) #[true,true,false,false] rfl rfl (by kernel_rfl) (fun _ _ _ h => h) (Or.inl ⟨by rfl,?_⟩) hHeld ?_ ?_
       rotate_left
       ·rintro w' ⟨s0,s1,s2,s3,s4,s5⟩
        go_simp
        with_reducible rfl
       rotate_left
       ·simp only [Act.put,List.setIfInBounds_toArray,List.set_cons_zero,List.set_cons_succ,i64_w,i32_w]
        rfl
       refine one_ (i:=2) (N:=none) #[true,true,true,false] rfl rfl (by kernel_rfl) (by decide) (fun K hK => ?_)
       refine skip_ (w1:=(set5 wT g2 cc).drew) (by rfl) rfl ?_ ?_
       ·go_simp
        rfl
       refine hK.out _ _ ⟨hqc0,hqc1,hqc2,hqc3,hqc4,hqe⟩ (fun hHeld => ?_)
       clear hK K
       refine pure_ (i:=3) (N:=some 3) (v:=?_) (a':=?_) #[true,true,true,true] rfl rfl (by kernel_rfl) (fun _ _ _ h => h) (Or.inl ⟨by rfl,?_⟩) ?_ ?_
       rotate_left
       ·intro w'
        go_simp
        with_reducible rfl
       rotate_left
       ·simp only [Act.put,List.setIfInBounds_toArray,List.set_cons_zero,List.set_cons_succ,i64_w,i32_w]
        rfl
       refine done_ (by kernel_rfl) ?_
       go_wp2
       refine bodyPost_ret (results_ct rfl _ _ g2 33 (constCells cc) (0,0) _ rfl (blk_drew (set5_at (W:=wT) (cc:=cc) BK2.out)) Tryd.underlying33 rfl (by kernel_rfl)) rfl ?_
       exact ⟨rfl,(set5_Rd HM.out.I BK2.out).drewN 1,(set5_St HM.out.S G2LE.out G2B.out).trans (RdStep.drewN _ _ _ 1)⟩
      ·rw [if_neg q3] at h
       have k3:decide (256 < x)=false:=decide_eq_false q3
       have hxn:x=(x.toNat:Int):=by omega
       have HB:=Aside0.mk (rd_Bytes.calls B g bs p2 x.toNat w2 HM2.out.I HLL.out (by omega))
       rw [← hxn] at HB
       clear hxn
       go_wp2_with fail
       refine HB.out.mono ?_
       rintro r w3 ⟨v3,rfl,hR,hP⟩
       obtain ⟨A3,c3,rfl,hc3,hC3⟩:=Kd.R_reads hR
       have HC3:=Aside0.mk hC3
       have HCC3:=Aside0.mk hc3
       have HM3:=Aside0.mk (HM2.out.rd hP)
       have ce3:w3.cell? ⟨ge,0,none⟩=some (.int .i64 e2):=(blk_cell HM3.out.be 0).trans rfl
       have fe3:w3.frozen? ⟨ge,0,none⟩=false:=blk_frozen HM3.out.be 0
       have HR3:=Aside0.mk hR
       clear hR hP hC3 hc3 HB HM2 ce2 fe2 c12 q3
       obtain ⟨L,hL⟩:∃ L,L=rdL bs p2 x.toNat:=⟨_,rfl⟩
       obtain ⟨E,hE⟩:∃ E,E=rdE bs p2 x.toNat:=⟨_,rfl⟩
       obtain ⟨P3,hP3⟩:∃ P3,P3=rdP bs p2 x.toNat:=⟨_,rfl⟩
       rw [← hL] at HC3 HCC3 HR3 h ⊢
       rw [← hE] at h ⊢
       rw [← hP3] at HM3 h
       clear hL hE hP3
       by_cases q4:E=0
       ·rw [if_pos q4] at h
        obtain ⟨⟨s1,s2⟩,hD,h⟩:=Option.bind_eq_some_iff.mp h
        have k4:(E==0)=true:=beq_iff_eq.mpr q4
        simp only [Option.some.injEq,Prod.mk.injEq] at h
        obtain ⟨hcc,hee,hpp⟩:=h
        obtain rfl:p'=P3:=hpp.symm
        have HD:=Aside0.mk hD
        have HCE:=Aside0.mk hcc
        have HEE:=Aside0.mk hee
        have HC4:=Aside0.mk (row_C (Kd.R_set HR3.out HM3.out.be (by decide) 0 (.int .i64 E)))
        have HM4:=Aside0.mk (HM3.out.setE E)
        clear q4 hD hcc hee q2
        go_wp2_with fail
        refine (text_Decode.calls k A3 c3 L s1 s2 _ HC4.out HCC3.out HD.out).mono ?_
        rintro r w4 ⟨rfl,hb4⟩
        have HM5:=Aside0.mk (HM4.out.below hb4)
        have ce4:w4.cell? ⟨ge,0,none⟩=some (.int .i64 E):=(blk_cell HM5.out.be 0).trans rfl
        have fe4:w4.frozen? ⟨ge,0,none⟩=false:=blk_frozen HM5.out.be 0
        have cc4:w4.cell? ⟨gc,1,none⟩=some (.string (⟨#[]⟩:ByteArray)):=(blk_cell HM5.out.bc 1).trans rfl
        have fc4:w4.frozen? ⟨gc,1,none⟩=false:=blk_frozen HM5.out.bc 1
        have hne:(ge=gc)=False:=eq_false (by have:=HM5.out.lc;omega)
        have hne2:(gc=ge)=False:=eq_false (by have:=HM5.out.lc;omega)
        clear hb4 ce3 fe3
        go_wp2_with fail
        go_meet
        have hm:=((HM5.out.setC 1 (.string s1) ⟨t,s1,0,0,0⟩ rfl).setE s2)
        rw [HCE.out,HEE.out] at hm
        rw [HEE.out]
        exact ⟨hm⟩
       ·rw [if_neg q4] at h
        have k4:(E==0)=false:=beq_eq_false_iff_ne.mpr q4
        simp only [Option.some.injEq,Prod.mk.injEq] at h
        obtain ⟨hcc,hee,hpp⟩:=h
        obtain rfl:ee=E:=hee.symm
        obtain rfl:p'=P3:=hpp.symm
        have HCE:=Aside0.mk hcc
        clear q4 hcc q2
        go_wp2_with fail
        go_meet
        exact ⟨HCE.out ▸ HM3.out.setE ee⟩
     ·rw [if_neg q2] at h
      have k2:(e2==0)=false:=beq_eq_false_iff_ne.mpr q2
      have k2n:(e2 != 0)=true:=bne_iff_ne.mpr q2
      simp only [Option.some.injEq,Prod.mk.injEq] at h
      obtain ⟨hcc,hee,hpp⟩:=h
      obtain rfl:ee=e2:=hee.symm
      obtain rfl:p'=p2:=hpp.symm
      have HM:=Aside0.mk (hcc ▸ HM2.out)
      clear q2 hcc HM2
      go_upto_region 13 with (fail)
      clear ce2 fe2 c12
      have BKc:=Aside0.mk HM.out.bc
      have BKe:=Aside0.mk HM.out.be
      have BK2:=Aside0.mk HM.out.b2
      have NE2c:Aside0 (g2 ≠ gc):=⟨by have:=HM.out.le;have:=HM.out.lc;omega⟩
      have NE2e:Aside0 (g2 ≠ ge):=⟨by have:=HM.out.le;omega⟩
      have G2LE:Aside0 (w.heap.size≤g2):=⟨by have:=HM.out.l1;have:=HM.out.l2;omega⟩
      have G2B:Aside0 (B≤g2):=⟨by have:=HM.out.lB;have:=HM.out.lg;have:=G2LE.out;omega⟩
      have hz0:w2.cell? ⟨g2,0,none⟩=some (.int .i64 0):=(blk_cell BK2.out 0).trans rfl
      have hz1:w2.cell? ⟨g2,1,none⟩=some (.string (⟨#[]⟩:ByteArray)):=(blk_cell BK2.out 1).trans rfl
      have hz2:w2.cell? ⟨g2,2,none⟩=some (.int .i64 0):=(blk_cell BK2.out 2).trans rfl
      have hz3:w2.cell? ⟨g2,3,none⟩=some (.int .i64 0):=(blk_cell BK2.out 3).trans rfl
      have hz4:w2.cell? ⟨g2,4,none⟩=some (.int .i64 0):=(blk_cell BK2.out 4).trans rfl
      have hfz0:w2.frozen? ⟨g2,0,none⟩=false:=blk_frozen BK2.out 0
      have hfz1:w2.frozen? ⟨g2,1,none⟩=false:=blk_frozen BK2.out 1
      have hfz2:w2.frozen? ⟨g2,2,none⟩=false:=blk_frozen BK2.out 2
      have hfz3:w2.frozen? ⟨g2,3,none⟩=false:=blk_frozen BK2.out 3
      have hfz4:w2.frozen? ⟨g2,4,none⟩=false:=blk_frozen BK2.out 4
      obtain ⟨hqc0,hqc1,hqc2,hqc3,hqc4⟩:=set5_cells (cc:=cc) BKc.out NE2c.out.symm
      have hqe:=set5_cell1 (cc:=cc) BKe.out NE2e.out.symm
      refine start_ (n:=4) (S:=fun w' => w'.cell? ⟨gc,0,none⟩=some (.int .i64 cc.f0)∧w'.cell? ⟨gc,1,none⟩=some (.string cc.f1)∧w'.cell? ⟨gc,2,none⟩=some (.int .i64 cc.f2)∧w'.cell? ⟨gc,3,none⟩=some (.int .i64 cc.f3)∧w'.cell? ⟨gc,4,none⟩=some (.int .i64 cc.f4)∧w'.cell? ⟨ge,0,none⟩=some (.int .i64 ee)) (ds:=[]) #[false,false,false,false] (by kernel_rfl) rfl rfl ⟨(blk_cell BKc.out 0).trans rfl,(blk_cell BKc.out 1).trans rfl,(blk_cell BKc.out 2).trans rfl,(blk_cell BKc.out 3).trans rfl,(blk_cell BKc.out 4).trans rfl,(blk_cell BKe.out 0).trans rfl⟩ (fun hHeld => ?_)
      refine take_ (i:=0) (N:=some 37) (v:=?_) (a':=?_) #[true,false,false,false] rfl rfl (by kernel_rfl) (fun _ _ _ h => h) (Or.inl ⟨by rfl,?_⟩) hHeld ?_ ?_
      rotate_left
      ·rintro w' ⟨s0,s1,s2,s3,s4,s5⟩
       go_simp
       with_reducible rfl
      rotate_left
      ·simp only [Act.put,List.setIfInBounds_toArray,List.set_cons_zero,List.set_cons_succ,i64_w,i32_w]
       rfl
      refine take_ (i:=1) (N:=some 38) (v:=?_) (a':=?_) #[true,true,false,false] rfl rfl (by kernel_rfl) (fun _ _ _ h => h) (Or.inl ⟨by rfl,?_⟩) hHeld ?_ ?_
      rotate_left
      ·rintro w' ⟨s0,s1,s2,s3,s4,s5⟩
       go_simp
       with_reducible rfl
      rotate_left
      ·simp only [Act.put,List.setIfInBounds_toArray,List.set_cons_zero,List.set_cons_succ,i64_w,i32_w]
       rfl
      refine one_ (i:=2) (N:=none) #[true,true,true,false] rfl rfl (by kernel_rfl) (by decide) (fun K hK => ?_)
      refine skip_ (w1:=(set5 w2 g2 cc).drew) (by rfl) rfl ?_ ?_
      ·go_simp
       rfl
      refine hK.out _ _ ⟨hqc0,hqc1,hqc2,hqc3,hqc4,hqe⟩ (fun hHeld => ?_)
      clear hK K
      refine pure_ (i:=3) (N:=some 3) (v:=?_) (a':=?_) #[true,true,true,true] rfl rfl (by kernel_rfl) (fun _ _ _ h => h) (Or.inl ⟨by rfl,?_⟩) ?_ ?_
      rotate_left
      ·intro w'
       go_simp
       with_reducible rfl
      rotate_left
      ·simp only [Act.put,List.setIfInBounds_toArray,List.set_cons_zero,List.set_cons_succ,i64_w,i32_w]
       rfl
      refine done_ (by kernel_rfl) ?_
      go_wp2
      refine bodyPost_ret (results_ct rfl _ _ g2 33 (constCells cc) (0,0) _ rfl (blk_drew (set5_at (W:=w2) (cc:=cc) BK2.out)) Tryd.underlying33 rfl (by kernel_rfl)) rfl ?_
      exact ⟨rfl,(set5_Rd HM.out.I BK2.out).drewN 1,(set5_St HM.out.S G2LE.out G2B.out).trans (RdStep.drewN _ _ _ 1)⟩
    ·rw [if_neg q1] at h
     have k1:(t==1)=false:=beq_eq_false_iff_ne.mpr q1
     by_cases q3:t=3
     ·rw [if_pos q3] at h
      have k3:(t==3)=true:=beq_iff_eq.mpr q3
      obtain ⟨⟨x,e2,p2⟩,hN,h⟩:=Option.bind_eq_some_iff.mp h
      simp only [Option.some.injEq,Prod.mk.injEq] at h
      obtain ⟨hcc,hee,hpp⟩:=h
      obtain rfl:ee=e2:=hee.symm
      obtain rfl:p'=p2:=hpp.symm
      have HCE:=Aside0.mk hcc
      have HN:=Aside0.mk (rd_Int.calls k B g bs p1 4 x ee p' wM HM.out.I (by decide) (by decide) HLL.out hN)
      clear hN hcc q3
      go_wp2_with fail
      refine HN.out.mono ?_
      rintro r w2 ⟨rfl,hP⟩
      have HM2:=Aside0.mk (HM.out.rd hP)
      have ce4:w2.cell? ⟨ge,0,none⟩=some (.int .i64 0):=(blk_cell HM2.out.be 0).trans rfl
      have fe4:w2.frozen? ⟨ge,0,none⟩=false:=blk_frozen HM2.out.be 0
      have cc4:w2.cell? ⟨gc,2,none⟩=some (.int .i64 0):=(blk_cell HM2.out.bc 2).trans rfl
      have fc4:w2.frozen? ⟨gc,2,none⟩=false:=blk_frozen HM2.out.bc 2
      have hne:(ge=gc)=False:=eq_false (by have:=HM2.out.lc;omega)
      have hne2:(gc=ge)=False:=eq_false (by have:=HM2.out.lc;omega)
      clear hP HM HN ce c1
      go_wp2_with fail
      go_meet
      exact ⟨HCE.out ▸ (HM2.out.setC 2 (.int .i64 x) ⟨t,⟨#[]⟩,x,0,0⟩ rfl).setE ee⟩
     rw [if_neg q3] at h
     have k3:(t==3)=false:=beq_eq_false_iff_ne.mpr q3
     by_cases q5:t=5
     ·rw [if_pos q5] at h
      have k5:(t==5)=true:=beq_iff_eq.mpr q5
      obtain ⟨⟨x,e2,p2⟩,hN,h⟩:=Option.bind_eq_some_iff.mp h
      simp only [Option.some.injEq,Prod.mk.injEq] at h
      obtain ⟨hcc,hee,hpp⟩:=h
      obtain rfl:ee=e2:=hee.symm
      obtain rfl:p'=p2:=hpp.symm
      have HCE:=Aside0.mk hcc
      have HN:=Aside0.mk (rd_Int.calls k B g bs p1 8 x ee p' wM HM.out.I (by decide) (by decide) HLL.out hN)
      clear hN hcc q5
      go_wp2_with fail
      refine HN.out.mono ?_
      rintro r w2 ⟨rfl,hP⟩
      have HM2:=Aside0.mk (HM.out.rd hP)
      have ce4:w2.cell? ⟨ge,0,none⟩=some (.int .i64 0):=(blk_cell HM2.out.be 0).trans rfl
      have fe4:w2.frozen? ⟨ge,0,none⟩=false:=blk_frozen HM2.out.be 0
      have cc4:w2.cell? ⟨gc,2,none⟩=some (.int .i64 0):=(blk_cell HM2.out.bc 2).trans rfl
      have fc4:w2.frozen? ⟨gc,2,none⟩=false:=blk_frozen HM2.out.bc 2
      have hne:(ge=gc)=False:=eq_false (by have:=HM2.out.lc;omega)
      have hne2:(gc=ge)=False:=eq_false (by have:=HM2.out.lc;omega)
      clear hP HM HN ce c1
      go_wp2_with fail
      go_meet
      exact ⟨HCE.out ▸ (HM2.out.setC 2 (.int .i64 x) ⟨t,⟨#[]⟩,x,0,0⟩ rfl).setE ee⟩
     rw [if_neg q5] at h
     have k5:(t==5)=false:=beq_eq_false_iff_ne.mpr q5
     by_cases q7:t=7
     ·rw [if_pos q7] at h
      have k7:(t==7)=true:=beq_iff_eq.mpr q7
      obtain ⟨⟨x,e2,p2⟩,hT,h⟩:=Option.bind_eq_some_iff.mp h
      simp only [Option.some.injEq,Prod.mk.injEq] at h
      obtain ⟨hcc,hee,hpp⟩:=h
      obtain rfl:ee=e2:=hee.symm
      obtain rfl:p'=p2:=hpp.symm
      have HCE:=Aside0.mk hcc
      have HT:=Aside0.mk hT
      clear hT hcc q7 q1 q3 q5
      go_wp2_with fail
      refine (TWO.out _ _ _ _ _ _ _ HM.out HT.out).mono ?_
      rintro r w2 ⟨rfl,hP⟩
      have HM2:=Aside0.mk (HM.out.two hP)
      have cc4:w2.cell? ⟨gc,3,none⟩=some (.int .i64 0):=(blk_cell HM2.out.bc 3).trans rfl
      have fc4:w2.frozen? ⟨gc,3,none⟩=false:=blk_frozen HM2.out.bc 3
      clear hP HM ce c1
      go_wp2_with fail
      go_meet
      exact ⟨HCE.out ▸ HM2.out.setC 3 (.int .i64 x) ⟨t,⟨#[]⟩,0,x,0⟩ rfl⟩
     rw [if_neg q7] at h
     have k7:(t==7)=false:=beq_eq_false_iff_ne.mpr q7
     by_cases q9:t=9 ∨ t=10 ∨ t=12
     ·rw [if_pos q9] at h
      obtain ⟨⟨x,e2,p2⟩,hT,h⟩:=Option.bind_eq_some_iff.mp h
      obtain ⟨⟨y,e3,p3⟩,hT2,h⟩:=Option.bind_eq_some_iff.mp h
      simp only [Option.some.injEq,Prod.mk.injEq] at h
      obtain ⟨hcc,hee,hpp⟩:=h
      obtain rfl:ee=e3:=hee.symm
      obtain rfl:p'=p3:=hpp.symm
      have HCE:=Aside0.mk hcc
      have HT:=Aside0.mk hT
      have HT2:=Aside0.mk hT2
      clear hT hT2 hcc
      have walk:∀ (k9 k10 k12:Bool),(t==9)=k9→(t==10)=k10→(t==12)=k12→(k9 || k10 || k12)=true→True:=fun _ _ _ _ _ _ _ => trivial
      have key:(t==9)=true ∨ ((t==9)=false∧(t==10)=true) ∨ ((t==9)=false∧(t==10)=false∧(t==12)=true):=by
       rcases q9 with q|q|q
       ·exact .inl (beq_iff_eq.mpr q)
       ·exact .inr (.inl ⟨beq_eq_false_iff_ne.mpr (by omega),beq_iff_eq.mpr q⟩)
       ·exact .inr (.inr ⟨beq_eq_false_iff_ne.mpr (by omega),beq_eq_false_iff_ne.mpr (by omega),beq_iff_eq.mpr q⟩)
      clear walk q9 q7 q1 q3 q5
      rcases key with j9|⟨j9,j10⟩|⟨j9,j10,j12⟩
      all_goals
       go_wp2_with fail
       refine (TWO.out _ _ _ _ _ _ _ HM.out HT.out).mono ?_
       rintro r w2 ⟨rfl,hP⟩
       have HM2:=Aside0.mk (HM.out.two hP)
       clear hP HM ce c1
       go_wp2_with fail
       refine (TWO.out _ _ _ _ _ _ _ HM2.out HT2.out).mono ?_
       rintro r w3 ⟨rfl,hP⟩
       have HM3:=Aside0.mk (HM2.out.two hP)
       have cc3:w3.cell? ⟨gc,3,none⟩=some (.int .i64 0):=(blk_cell HM3.out.bc 3).trans rfl
       have fc3:w3.frozen? ⟨gc,3,none⟩=false:=blk_frozen HM3.out.bc 3
       have cc4:w3.cell? ⟨gc,4,none⟩=some (.int .i64 0):=(blk_cell HM3.out.bc 4).trans rfl
       have fc4:w3.frozen? ⟨gc,4,none⟩=false:=blk_frozen HM3.out.bc 4
       clear hP HM2
       go_wp2_with fail
       go_meet
       exact ⟨HCE.out ▸ (HM3.out.setC 3 (.int .i64 x) ⟨t,⟨#[]⟩,0,x,0⟩ rfl).setC 4 (.int .i64 y) ⟨t,⟨#[]⟩,0,x,y⟩ rfl⟩
     ·rw [if_neg q9] at h
      have j9:(t==9)=false:=beq_eq_false_iff_ne.mpr (by omega)
      have j10:(t==10)=false:=beq_eq_false_iff_ne.mpr (by omega)
      have j12:(t==12)=false:=beq_eq_false_iff_ne.mpr (by omega)
      simp only [Option.some.injEq,Prod.mk.injEq] at h
      obtain ⟨hcc,hee,hpp⟩:=h
      obtain rfl:p'=p1:=hpp.symm
      have HCE:=Aside0.mk hcc
      have HEE:=Aside0.mk hee
      have fe4:wM.frozen? ⟨ge,0,none⟩=false:=blk_frozen HM.out.be 0
      clear hcc hee q9 q7 q1 q3 q5
      go_wp2_with fail
      go_meet
      have hm:=HM.out.setE 40
      rw [HCE.out,HEE.out] at hm
      rw [HEE.out]
      exact ⟨hm⟩
   case rest =>
    have HM':=hcut
    clear HM
    have HM:=HM'
    clear HM'
    go_wp2
    have BKc:=Aside0.mk HM.out.bc
    have BKe:=Aside0.mk HM.out.be
    have BK2:=Aside0.mk HM.out.b2
    have NE2c:Aside0 (g2 ≠ gc):=⟨by have:=HM.out.le;have:=HM.out.lc;omega⟩
    have NE2e:Aside0 (g2 ≠ ge):=⟨by have:=HM.out.le;omega⟩
    have G2LE:Aside0 (w.heap.size≤g2):=⟨by have:=HM.out.l1;have:=HM.out.l2;omega⟩
    have G2B:Aside0 (B≤g2):=⟨by have:=HM.out.lB;have:=HM.out.lg;have:=G2LE.out;omega⟩
    have hz0:wc.cell? ⟨g2,0,none⟩=some (.int .i64 0):=(blk_cell BK2.out 0).trans rfl
    have hz1:wc.cell? ⟨g2,1,none⟩=some (.string (⟨#[]⟩:ByteArray)):=(blk_cell BK2.out 1).trans rfl
    have hz2:wc.cell? ⟨g2,2,none⟩=some (.int .i64 0):=(blk_cell BK2.out 2).trans rfl
    have hz3:wc.cell? ⟨g2,3,none⟩=some (.int .i64 0):=(blk_cell BK2.out 3).trans rfl
    have hz4:wc.cell? ⟨g2,4,none⟩=some (.int .i64 0):=(blk_cell BK2.out 4).trans rfl
    have hfz0:wc.frozen? ⟨g2,0,none⟩=false:=blk_frozen BK2.out 0
    have hfz1:wc.frozen? ⟨g2,1,none⟩=false:=blk_frozen BK2.out 1
    have hfz2:wc.frozen? ⟨g2,2,none⟩=false:=blk_frozen BK2.out 2
    have hfz3:wc.frozen? ⟨g2,3,none⟩=false:=blk_frozen BK2.out 3
    have hfz4:wc.frozen? ⟨g2,4,none⟩=false:=blk_frozen BK2.out 4
    obtain ⟨hqc0,hqc1,hqc2,hqc3,hqc4⟩:=set5_cells (cc:=cc) BKc.out NE2c.out.symm
    have hqe:=set5_cell1 (cc:=cc) BKe.out NE2e.out.symm
    refine start_ (n:=4) (S:=fun w' => w'.cell? ⟨gc,0,none⟩=some (.int .i64 cc.f0)∧w'.cell? ⟨gc,1,none⟩=some (.string cc.f1)∧w'.cell? ⟨gc,2,none⟩=some (.int .i64 cc.f2)∧w'.cell? ⟨gc,3,none⟩=some (.int .i64 cc.f3)∧w'.cell? ⟨gc,4,none⟩=some (.int .i64 cc.f4)∧w'.cell? ⟨ge,0,none⟩=some (.int .i64 ee)) (ds:=[]) #[false,false,false,false] (by kernel_rfl) rfl rfl ⟨(blk_cell BKc.out 0).trans rfl,(blk_cell BKc.out 1).trans rfl,(blk_cell BKc.out 2).trans rfl,(blk_cell BKc.out 3).trans rfl,(blk_cell BKc.out 4).trans rfl,(blk_cell BKe.out 0).trans rfl⟩ (fun hHeld => ?_)
    refine take_ (i:=0) (N:=some 84) (v:=?_) (a':=?_) #[true,false,false,false] rfl rfl (by kernel_rfl) (fun _ _ _ h => h) (Or.inl ⟨by rfl,?_⟩) hHeld ?_ ?_
    rotate_left
    ·rintro w' ⟨s0,s1,s2,s3,s4,s5⟩
     go_simp
     with_reducible rfl
    rotate_left
    ·simp only [Act.put,List.setIfInBounds_toArray,List.set_cons_zero,List.set_cons_succ,i64_w,i32_w]
     rfl
    refine take_ (i:=1) (N:=some 85) (v:=?_) (a':=?_) #[true,true,false,false] rfl rfl (by kernel_rfl) (fun _ _ _ h => h) (Or.inl ⟨by rfl,?_⟩) hHeld ?_ ?_
    rotate_left
    ·rintro w' ⟨s0,s1,s2,s3,s4,s5⟩
     go_simp
     with_reducible rfl
    rotate_left
    ·simp only [Act.put,List.setIfInBounds_toArray,List.set_cons_zero,List.set_cons_succ,i64_w,i32_w]
     rfl
    refine one_ (i:=2) (N:=none) #[true,true,true,false] rfl rfl (by kernel_rfl) (by decide) (fun K hK => ?_)
    refine skip_ (w1:=(set5 wc g2 cc).drew) (by rfl) rfl ?_ ?_
    ·go_simp
     rfl
    refine hK.out _ _ ⟨hqc0,hqc1,hqc2,hqc3,hqc4,hqe⟩ (fun hHeld => ?_)
    clear hK K
    refine pure_ (i:=3) (N:=some 3) (v:=?_) (a':=?_) #[true,true,true,true] rfl rfl (by kernel_rfl) (fun _ _ _ h => h) (Or.inl ⟨by rfl,?_⟩) ?_ ?_
    rotate_left
    ·intro w'
     go_simp
     with_reducible rfl
    rotate_left
    ·simp only [Act.put,List.setIfInBounds_toArray,List.set_cons_zero,List.set_cons_succ,i64_w,i32_w]
     rfl
    refine done_ (by kernel_rfl) ?_
    go_wp2
    refine bodyPost_ret (results_ct rfl _ _ g2 33 (constCells cc) (0,0) _ rfl (blk_drew (set5_at (W:=wc) (cc:=cc) BK2.out)) Tryd.underlying33 rfl (by kernel_rfl)) rfl ?_
    exact ⟨rfl,(set5_Rd HM.out.I BK2.out).drewN 1,(set5_St HM.out.S G2LE.out G2B.out).trans (RdStep.drewN _ _ _ 1)⟩
  ·rw [if_neg he] at h
   have heb:(e1 != 0)=true:=bne_iff_ne.mpr he
   clear he
   simp only [Option.some.injEq,Prod.mk.injEq] at h
   obtain ⟨hcc,hee,hpp⟩:=h
   obtain rfl:ee=e1:=hee.symm
   obtain rfl:p'=p1:=hpp.symm
   go_upto_region 5 with (fail)
   obtain ⟨wM,hwM⟩:∃ wM,wM=(w1.alloc (.cells #[.int .i64 ee] 23 (0,0))).alloc (.cells #[.int .i64 t,.string (⟨#[]⟩:ByteArray),.int .i64 0,.int .i64 0,.int .i64 0] 33 (0,0)):=⟨_,rfl⟩
   have hM:=const_mid HI0.out.ge HI0.out.lt (Nat.le_of_eq HG1.out.symm) (by rw [HG2.out];exact Nat.lt_succ_self _) HI1.out HS1.out BK1'.out BK2'.out hwM
   rw [← hwM]
   clear hwM
   obtain ⟨ge,hge⟩:∃ ge,ge=w1.heap.size:=⟨_,rfl⟩
   obtain ⟨gc,hgc⟩:∃ gc,gc=ge + 1:=⟨_,rfl⟩
   rw [← hge,← hgc] at hM
   rw [← hge]
   (try rw [← hgc])
   have HM:=Aside0.mk hM
   clear hM hge hgc BK1' BK2' HS2
   replace HM:=Aside0.mk (hcc ▸ HM.out)
   clear hcc
   have BKc:=Aside0.mk HM.out.bc
   have BKe:=Aside0.mk HM.out.be
   have BK2:=Aside0.mk HM.out.b2
   have NE2c:Aside0 (g2 ≠ gc):=⟨by have:=HM.out.le;have:=HM.out.lc;omega⟩
   have NE2e:Aside0 (g2 ≠ ge):=⟨by have:=HM.out.le;omega⟩
   have G2LE:Aside0 (w.heap.size≤g2):=⟨by have:=HM.out.l1;have:=HM.out.l2;omega⟩
   have G2B:Aside0 (B≤g2):=⟨by have:=HM.out.lB;have:=HM.out.lg;have:=G2LE.out;omega⟩
   have hz0:wM.cell? ⟨g2,0,none⟩=some (.int .i64 0):=(blk_cell BK2.out 0).trans rfl
   have hz1:wM.cell? ⟨g2,1,none⟩=some (.string (⟨#[]⟩:ByteArray)):=(blk_cell BK2.out 1).trans rfl
   have hz2:wM.cell? ⟨g2,2,none⟩=some (.int .i64 0):=(blk_cell BK2.out 2).trans rfl
   have hz3:wM.cell? ⟨g2,3,none⟩=some (.int .i64 0):=(blk_cell BK2.out 3).trans rfl
   have hz4:wM.cell? ⟨g2,4,none⟩=some (.int .i64 0):=(blk_cell BK2.out 4).trans rfl
   have hfz0:wM.frozen? ⟨g2,0,none⟩=false:=blk_frozen BK2.out 0
   have hfz1:wM.frozen? ⟨g2,1,none⟩=false:=blk_frozen BK2.out 1
   have hfz2:wM.frozen? ⟨g2,2,none⟩=false:=blk_frozen BK2.out 2
   have hfz3:wM.frozen? ⟨g2,3,none⟩=false:=blk_frozen BK2.out 3
   have hfz4:wM.frozen? ⟨g2,4,none⟩=false:=blk_frozen BK2.out 4
   obtain ⟨hqc0,hqc1,hqc2,hqc3,hqc4⟩:=set5_cells (cc:=cc) BKc.out NE2c.out.symm
   have hqe:=set5_cell1 (cc:=cc) BKe.out NE2e.out.symm
   refine start_ (n:=4) (S:=fun w' => w'.cell? ⟨gc,0,none⟩=some (.int .i64 cc.f0)∧w'.cell? ⟨gc,1,none⟩=some (.string cc.f1)∧w'.cell? ⟨gc,2,none⟩=some (.int .i64 cc.f2)∧w'.cell? ⟨gc,3,none⟩=some (.int .i64 cc.f3)∧w'.cell? ⟨gc,4,none⟩=some (.int .i64 cc.f4)∧w'.cell? ⟨ge,0,none⟩=some (.int .i64 ee)) (ds:=[]) #[false,false,false,false] (by kernel_rfl) rfl rfl ⟨(blk_cell BKc.out 0).trans rfl,(blk_cell BKc.out 1).trans rfl,(blk_cell BKc.out 2).trans rfl,(blk_cell BKc.out 3).trans rfl,(blk_cell BKc.out 4).trans rfl,(blk_cell BKe.out 0).trans rfl⟩ (fun hHeld => ?_)
   refine take_ (i:=0) (N:=some 21) (v:=?_) (a':=?_) #[true,false,false,false] rfl rfl (by kernel_rfl) (fun _ _ _ h => h) (Or.inl ⟨by rfl,?_⟩) hHeld ?_ ?_
   rotate_left
   ·rintro w' ⟨s0,s1,s2,s3,s4,s5⟩
    go_simp
    with_reducible rfl
   rotate_left
   ·simp only [Act.put,List.setIfInBounds_toArray,List.set_cons_zero,List.set_cons_succ,i64_w,i32_w]
    rfl
   refine take_ (i:=1) (N:=some 22) (v:=?_) (a':=?_) #[true,true,false,false] rfl rfl (by kernel_rfl) (fun _ _ _ h => h) (Or.inl ⟨by rfl,?_⟩) hHeld ?_ ?_
   rotate_left
   ·rintro w' ⟨s0,s1,s2,s3,s4,s5⟩
    go_simp
    with_reducible rfl
   rotate_left
   ·simp only [Act.put,List.setIfInBounds_toArray,List.set_cons_zero,List.set_cons_succ,i64_w,i32_w]
    rfl
   refine one_ (i:=2) (N:=none) #[true,true,true,false] rfl rfl (by kernel_rfl) (by decide) (fun K hK => ?_)
   refine skip_ (w1:=(set5 wM g2 cc).drew) (by rfl) rfl ?_ ?_
   ·go_simp
    rfl
   refine hK.out _ _ ⟨hqc0,hqc1,hqc2,hqc3,hqc4,hqe⟩ (fun hHeld => ?_)
   clear hK K
   refine pure_ (i:=3) (N:=some 3) (v:=?_) (a':=?_) #[true,true,true,true] rfl rfl (by kernel_rfl) (fun _ _ _ h => h) (Or.inl ⟨by rfl,?_⟩) ?_ ?_
   rotate_left
   ·intro w'
    go_simp
    with_reducible rfl
   rotate_left
   ·simp only [Act.put,List.setIfInBounds_toArray,List.set_cons_zero,List.set_cons_succ,i64_w,i32_w]
    rfl
   refine done_ (by kernel_rfl) ?_
   go_wp2
   refine bodyPost_ret (results_ct rfl _ _ g2 33 (constCells cc) (0,0) _ rfl (blk_drew (set5_at (W:=wM) (cc:=cc) BK2.out)) Tryd.underlying33 rfl (by kernel_rfl)) rfl ?_
   exact ⟨rfl,(set5_Rd HM.out.I BK2.out).drewN 1,(set5_St HM.out.S G2LE.out G2B.out).trans (RdStep.drewN _ _ _ 1)⟩
 ·rw [if_neg hb] at h
  cases h
end Go.Proofs.YtglnhkgodgjepaaDoor.Px
namespace Go.Proofs.YtglnhkgodgjepaaDoor.Px
open Go.RowKit Go.Proofs.YtglnhkgodgjepaaDoorW.PrintWords Go.Proofs.YtglnhkgodgjepaaDoorW.PrintLast Go.Proofs.YtglnhkgodgjepaaDoorW.PrintMore
set_option linter.unusedVariables false
set_option linter.unusedSimpArgs false
def pool_Decode.l0:Nat→List Int→Int→List Cst→Nat→Option (List Cst × Int × Int)
 | 0,_,_,_,_ => none
 | k + 1,bs,n,ps,p =>
  if (ps.length:Int) < n then (pool_constant.f k bs p).bind fun c => if c.2.1=0 then (if ps.length≤65536 then pool_Decode.l0 k bs n (ps++[c.1]) c.2.2 else none) else some ([],0,c.2.1)
  else (pool_Check.f k ps).bind fun e => if e=0 then some (ps,(p:Int),0) else some ([],0,e)
def pool_Decode.f (k:Nat) (bs:List Int):Option (List Cst × Int × Int) :=
 if bs.length≤140737488355328 then (rd_Uint.f k bs 0 2).bind fun n =>
  if 0≤n.1∧n.1 < 65536 then
   (if n.2.1=0 then (if n.1 > 1024 then some ([],0,2) else if n.1=0 then some ([],0,40) else pool_Decode.l0 k bs n.1 [z33] n.2.2) else some ([],0,n.2.1))
  else none
 else none
theorem pool_Decode.mono_l:∀ k bs n ps p,LeO (pool_Decode.l0 k bs n ps p) (pool_Decode.l0 (k + 1) bs n ps p)
 | 0 => fun _ _ _ _ r h => by simp [pool_Decode.l0] at h
 | k + 1 => fun bs n ps p => by
  unfold pool_Decode.l0
  exact LeO.ite (LeO.bind (pool_constant.mono _ _ _) (fun _ => LeO.ite (LeO.ite (pool_Decode.mono_l k _ _ _ _) (LeO.refl _)) (LeO.refl _))) (LeO.bind (pool_Check.mono _ _) (fun _ => LeO.refl _))
theorem pool_Decode.mono:∀ a0 k,LeO (pool_Decode.f k a0) (pool_Decode.f (k + 1) a0):=by
 intro a0 k
 unfold pool_Decode.f
 exact LeO.ite (LeO.bind (rd_Uint.mono _ _ _ _) (fun _ => LeO.ite (LeO.ite (LeO.ite (LeO.refl _) (LeO.ite (LeO.refl _) (pool_Decode.mono_l _ _ _ _ _))) (LeO.refl _)) (LeO.refl _))) (LeO.refl _)
def zeroCells:Array Value:=#[.int .i64 0,.string (⟨#[]⟩:ByteArray),.int .i64 0,.int .i64 0,.int .i64 0]
theorem take_made (m:Nat) (h:1≤m):(madeCells zeroCells (m * 5)).toList.take 5=zeroCells.toList:=by
 apply List.ext_getElem?
 intro j
 by_cases hj:j < 5
 ·have h5:j < m * 5:=by omega
  have hm:j % 5=j:=Nat.mod_eq_of_lt hj
  have hz:zeroCells.size=5:=rfl
  rw [List.getElem?_take,if_pos hj]
  have hjz:j < zeroCells.size:=by omega
  simp [madeCells,h5,hz,hm]
  rw [Array.getElem?_eq_getElem hjz,getElem!_pos zeroCells j hjz]
 ·rw [List.getElem?_eq_none (by rw [List.length_take];omega),List.getElem?_eq_none (by show zeroCells.size≤j;have:zeroCells.size=5:=rfl;omega)]
theorem R_make1 (W:World) (m:Nat) (h:1≤m) (hm:m≤65536):Kd.R k33 33 (W.alloc (.cells (madeCells zeroCells (m * 5)) 33 (0,0))) W.heap.size (fun _ => True) (.slice (some ⟨W.heap.size,0,none⟩) 1 m) [z33]:=by
 refine ⟨fun _ _ => trivial,zeroCells.toList,⟨rfl,.inr ⟨W.heap.size,m,_,rfl,Nat.le_refl _,blk_new _ _,h,by simp only [maxLen];omega,by simp [madeCells];rfl,take_made m h⟩⟩,?_⟩
 exact (Reps.none _ 5).snoc (k33_mkM _ _ _ z33) rfl
theorem IsRd.grown_row {B B':Nat} {W W1:World} {g:Nat} {bs:List Int} {p:Nat} {ok:Nat→Prop} {v:Value} {ps:List Cst} (h:IsRd B W g bs p) (hr:Kd.R k33 33 W B' ok v ps) (hg:W.grownBy W1 v.ownBlock):IsRd B W1 g bs p:=by
 obtain ⟨u,hk,hu⟩:=h.blk
 obtain ⟨inner,ho⟩:=Kd.R_own hr
 refine ⟨h.ge,⟨u,blk_grown hk hg (Kd.R_ne hr hk (by decide)),?_⟩,h.hi⟩
 refine Kd.R_mono (Kd.R_grown (Kd.R_bound hu) hg (fun k hk2 e => ?_)) (fun k hk2 => hk2.1)
 obtain ⟨_,_,_,q,hq,cells,hc⟩:=hk2
 obtain ⟨c2,hc2⟩:=own_typed ho k e.symm
 rw [hc] at hc2
 injection hc2 with hc2
 injection hc2 with _ ht
 rcases List.mem_cons.1 hq with rfl|hq
 ·cases ht
 ·cases hq
theorem R_step_rd {B B':Nat} {W W1:World} {g:Nat} {bs:List Int} {p:Nat} {v:Value} {ps:List Cst} (h:IsRd B W g bs p) (hr:Kd.R k33 33 W B' (fun _ => True) v ps) (hs:RdStep B W W1 g):Kd.R k33 33 W1 B' (fun _ => True) v ps:=by
 obtain ⟨u,hk,hu⟩:=h.blk
 exact Kd.R_mono (Kd.R_keep (Kd.R_types hr hk (by intro q hq;rcases List.mem_cons.1 hq with rfl|hq;decide;cases hq)) hs.keep (fun k hk => hk.2)) (fun _ _ => trivial)
set_option maxHeartbeats 40000000 in
set_option maxRecDepth 100000 in
theorem pool_Decode.calls (k:Nat) (A0:Option Addr) (c0:Nat) (bs:List Int) (r1:List Cst) (r2 r3:Int) (w:World) (hG:Aside0 (GG w)) (hr0:Kd.C (Kd.int .u8) w A0 bs.length bs) (hc0:bs.length≤c0) (h:pool_Decode.f k bs=some (r1,r2,r3)) :
  Calls Tryd.prog 16 #[.slice A0 bs.length c0] w fun e w' => ∃ v0_:Value,e=.returned (.tuple #[v0_,.int .i64 r2,.int .i64 r3])∧Kd.R k33 33 w' w.heap.size (fun _ => True) v0_ r1∧Below w.heap.size w w':=by
 unfold pool_Decode.f at h
 by_cases hl:bs.length≤140737488355328
 ·rw [if_pos hl] at h
  obtain ⟨⟨n,e1,p1⟩,hU,h⟩:=Option.bind_eq_some_iff.mp h
  by_cases hb:0≤n∧n < 65536
  ·rw [if_pos hb] at h
   obtain ⟨n0,n1⟩:=hb
   have HU:=Aside0.mk hU
   have HLL:=Aside0.mk hl
   have HNew:=Aside0.mk (rd_New.calls A0 c0 bs w hr0 hl)
   clear hU hl hr0 hc0
   simp only at h
   go_enter Tryd.func16,Tryd.ntmps16
   go_wp2_with fail
   refine HNew.out.mono ?_
   rintro e w1 ⟨g,rfl,hgg,hI,hb1⟩
   have HU2:=Aside0.mk (rd_Uint.calls k _ g bs 0 2 n e1 p1 w1 hI (by decide) (by decide) HLL.out HU.out)
   have HB1:=Aside0.mk hb1
   have HGE:=Aside0.mk hgg
   clear hgg hI hb1 HNew HU
   go_wp2_with fail
   refine HU2.out.mono ?_
   rintro e w2 ⟨rfl,hP⟩
   have HI2:=Aside0.mk hP.1
   have HB2:=Aside0.mk (HB1.out.trans hP.2.below)
   clear hP HB1 HU2
   by_cases he:e1=0
   ·rw [if_pos he] at h
    have k1:(e1 != 0)=false:=bne_eq_false_iff_eq.mpr he
    clear he
    by_cases hn:n > 1024
    ·rw [if_pos hn] at h
     have k2:decide (1024 < n)=true:=decide_eq_true hn
     simp only [Option.some.injEq,Prod.mk.injEq] at h
     obtain ⟨rfl,rfl,rfl⟩:=h
     clear hn
     go_wp2
     go_ret3
     exact ⟨_,rfl,Kd.R_nil _ _ _ _ _,HB2.out⟩
    rw [if_neg hn] at h
    have k2:decide (1024 < n)=false:=decide_eq_false hn
    by_cases hz:n=0
    ·rw [if_pos hz] at h
     have k3:(n==0)=true:=beq_iff_eq.mpr hz
     simp only [Option.some.injEq,Prod.mk.injEq] at h
     obtain ⟨rfl,rfl,rfl⟩:=h
     clear hn hz
     go_wp2
     go_ret3
     exact ⟨_,rfl,Kd.R_nil _ _ _ _ _,HB2.out⟩
    rw [if_neg hz] at h
    have k3:(n==0)=false:=beq_eq_false_iff_ne.mpr hz
    obtain ⟨m,rfl⟩:=Int.eq_ofNat_of_zero_le n0
    obtain ⟨i0,hi0,hzz,hsz,hby⟩:=info_parts info33
    have hmk:∀ W:World,(Instr.makeSlice 22 (.int .i64 1) (.int .u64 (m:Int))).run Tryd.prog W=.ok (.slice (some ⟨W.heap.size,0,none⟩) 1 m) (W.alloc (.cells (madeCells zeroCells (m * 5)) 33 (0,0))):=by
     intro W
     have hr:=run_make (P:=Tryd.prog) W 22 33 i0 _ Tryd.underlying22 hi0 hzz .i64 .u64 1 (m:Int) (by omega) (by omega) (by rw [hby];omega) (by omega)
     rw [hsz] at hr
     exact hr
    have HM1:Aside0 (1≤m∧m≤1024):=⟨by omega⟩
    have H0:=Aside0.mk h
    clear hn hz hi0 hzz hsz hby h
    go_wp2
    have HRm:=Aside0.mk (Kd.R_lower (R_make1 w2 m HM1.out.1 (by have:=HM1.out.2;omega)) HB2.out.size)
    have HIm:=Aside0.mk (HI2.out.below (below_alloc (Below.refl _ _) (.cells (madeCells zeroCells (m * 5)) 33 (0,0))))
    have HBm:=Aside0.mk (below_alloc HB2.out (.cells (madeCells zeroCells (m * 5)) 33 (0,0)))
    clear HI2 HB2 hmk k1 k2 k3
    go_loopg [8] k (fun kq v8 wr => ∃ (A:Option Addr) (ps:List Cst) (c:Nat) (pos:Nat),v8=.slice A ps.length c∧Aside0 (pool_Decode.l0 kq bs (m:Int) ps pos=some (r1,r2,r3))∧Aside0 (kq≤k)∧Aside0 (Kd.R k33 33 wr w.heap.size (fun _ => True) (.slice A ps.length c) ps)∧Aside0 (IsRd w.heap.size wr g bs pos)∧Aside0 (Below w.heap.size w wr))
    case atStart => exact ⟨_,[z33],m,p1,rfl,H0,⟨Nat.le_refl _⟩,HRm,HIm,HBm⟩
    case round =>
     obtain ⟨A,ps,c,pos,rfl,HA,HK,HR,HI,HB⟩:=hrel
     cases gk with
     | zero => exact absurd HA.out (by simp [pool_Decode.l0])
     | succ k1 =>
     have H:=HA.out
     clear HA
     simp only [pool_Decode.l0] at H
     by_cases hlt:(ps.length:Int) < (m:Int)
     ·rw [if_pos hlt] at H
      have hpi:decide ((ps.length:Int) < (m:Int))=true:=decide_eq_true hlt
      have hpn:decide (ps.length < m)=true:=decide_eq_true (by omega)
      obtain ⟨⟨cc,ee,p2⟩,hC,H⟩:=Option.bind_eq_some_iff.mp H
      have HC:=Aside0.mk (pool_constant.calls k1 w.heap.size g bs pos cc ee p2 wr HI.out HLL.out hC)
      clear hC hlt
      simp only at H
      go_wp2_with fail
      refine HC.out.mono ?_
      rintro e w3 ⟨rfl,hP⟩
      unfold constCells
      have HR3:=Aside0.mk (R_step_rd HI.out HR.out hP.2)
      have HI3:=Aside0.mk hP.1
      have HB3:=Aside0.mk (HB.out.trans hP.2.below)
      clear hP HC HR HI HB
      by_cases hee:ee=0
      ·rw [if_pos hee] at H
       have j1:(ee != 0)=false:=bne_eq_false_iff_eq.mpr hee
       by_cases hps:ps.length≤65536
       ·rw [if_pos hps] at H
        have HN:=Aside0.mk H
        have HPS:=Aside0.mk hps
        clear H hps hee
        obtain ⟨wb,hwb⟩:∃ wb,wb=w3.alloc (.cells #[.int .i64 cc.f0,.string cc.f1,.int .i64 cc.f2,.int .i64 cc.f3,.int .i64 cc.f4] 33 (0,0)):=⟨_,rfl⟩
        have hbw:Below w3.heap.size w3 wb:=by rw [hwb];exact below_alloc (Below.refl _ _) _
        have HRb:=Aside0.mk (Kd.R_below HR3.out hbw)
        have HIb:=Aside0.mk (HI3.out.below hbw)
        have HBb:=Aside0.mk (below_step HB3.out hbw)
        have HWB:=Aside0.mk hwb
        clear hwb hbw
        go_upto_region 14 with (fail)
        rw [← HWB.out]
        have hbx:wb.heap[w3.heap.size]?=some (.cells #[.int .i64 cc.f0,.string cc.f1,.int .i64 cc.f2,.int .i64 cc.f3,.int .i64 cc.f4] 33 (0,0)):=by rw [HWB.out];exact blk_new _ _
        have bx0:wb.cell? ⟨w3.heap.size,0,none⟩=some (.int .i64 cc.f0):=(blk_cell hbx 0).trans rfl
        have bx1:wb.cell? ⟨w3.heap.size,1,none⟩=some (.string cc.f1):=(blk_cell hbx 1).trans rfl
        have bx2:wb.cell? ⟨w3.heap.size,2,none⟩=some (.int .i64 cc.f2):=(blk_cell hbx 2).trans rfl
        have bx3:wb.cell? ⟨w3.heap.size,3,none⟩=some (.int .i64 cc.f3):=(blk_cell hbx 3).trans rfl
        have bx4:wb.cell? ⟨w3.heap.size,4,none⟩=some (.int .i64 cc.f4):=(blk_cell hbx 4).trans rfl
        clear hbx HWB HR3 HI3 HB3
        go_wp2_with (at_builtin;refine Kd.R_append k33 (w0:=w) (W:=wb) w.heap.size rfl (.tmp 44) (.tmp 46) 22 33 (.agg #[(.int .i64 0),(.string ⟨#[]⟩),(.int .i64 0),(.int .i64 0),(.int .i64 0)]) 48 rfl Tryd.underlying22 info33 rfl (by decide) (by omega) (.slice A ps.length c) ps cc [.int .i64 cc.f0,.string cc.f1,.int .i64 cc.f2,.int .i64 cc.f3,.int .i64 cc.f4] (fun _ => True) (fun _ => False) rfl rfl (k33_mkM _ _ _ cc) (fun _ hk => hk.elim) (fun _ _ => trivial) HRb.out HBb.out HBb.out.size ?aL ?_)
        case aL => have:=HPS.out;omega
        intro v1 w5 hR5 hB5 hg5 ho5
        obtain ⟨A5,c5,hv5⟩:=Kd.R_slice hR5
        subst hv5
        have HR5:=Aside0.mk hR5
        have HB5:=Aside0.mk hB5
        have HI5:=Aside0.mk (HIb.out.grown_row HRb.out hg5)
        clear hR5 hB5 hg5 ho5 bx0 bx1 bx2 bx3 bx4 HRb HIb HBb
        go_wp2
        go_roundg k1
        case measure => have:=HK.out;omega
        case rel => exact ⟨A5,ps++[cc],c5,p2,rfl,HN,⟨by have:=HK.out;omega⟩,HR5,HI5,HB5⟩
       ·rw [if_neg hps] at H
        cases H
      ·rw [if_neg hee] at H
       have j1:(ee != 0)=true:=bne_iff_ne.mpr hee
       simp only [Option.some.injEq,Prod.mk.injEq] at H
       obtain ⟨rfl,rfl,rfl⟩:=H
       clear hee
       go_wp2
       go_ret3
       exact ⟨_,rfl,Kd.R_nil _ _ _ _ _,below_alloc HB3.out _⟩
     ·rw [if_neg hlt] at H
      have hpi:decide ((ps.length:Int) < (m:Int))=false:=decide_eq_false hlt
      have hpn:decide (ps.length < m)=false:=decide_eq_false (by omega)
      obtain ⟨e9,hE,H⟩:=Option.bind_eq_some_iff.mp H
      have hcc:=(Kd.R_reads HR.out)
      obtain ⟨A',c',hv,hc',hC'⟩:=hcc
      injection hv with hv1 hv2 hv3
      subst hv1
      subst hv3
      have HCk:=Aside0.mk (pool_Check.calls k1 A c ps e9 wr ⟨GG.below hG.out HB.out⟩ hC' hc' hE)
      clear hE hlt hc' hC' hv2
      go_wp2_with fail
      refine HCk.out.mono ?_
      rintro e w3 ⟨rfl,hb3⟩
      have HR3:=Aside0.mk (Kd.R_below HR.out hb3)
      have HI3:=Aside0.mk (HI.out.below hb3)
      have HB3:=Aside0.mk (below_step HB.out hb3)
      clear hb3 HCk HR HI HB
      by_cases hee:e9=0
      ·rw [if_pos hee] at H
       have j1:(e9 != 0)=false:=bne_eq_false_iff_eq.mpr hee
       simp only [Option.some.injEq,Prod.mk.injEq] at H
       obtain ⟨rfl,rfl,rfl⟩:=H
       clear hee
       go_wp2_with fail
       refine (rd_At.calls _ g bs pos w3 HI3.out).mono ?_
       rintro e w4 ⟨rfl,rfl⟩
       go_wp2
       go_ret3
       exact ⟨_,rfl,HR3.out,HB3.out⟩
      ·rw [if_neg hee] at H
       have j1:(e9 != 0)=true:=bne_iff_ne.mpr hee
       simp only [Option.some.injEq,Prod.mk.injEq] at H
       obtain ⟨rfl,rfl,rfl⟩:=H
       clear hee
       go_wp2
       go_ret3
       exact ⟨_,rfl,Kd.R_nil _ _ _ _ _,HB3.out⟩
   ·rw [if_neg he] at h
    have k1:(e1 != 0)=true:=bne_iff_ne.mpr he
    simp only [Option.some.injEq,Prod.mk.injEq] at h
    obtain ⟨rfl,rfl,rfl⟩:=h
    clear he
    go_wp2
    go_ret3
    exact ⟨_,rfl,Kd.R_nil _ _ _ _ _,HB2.out⟩
  ·rw [if_neg hb] at h
   cases h
 ·rw [if_neg hl] at h
  cases h
end Go.Proofs.YtglnhkgodgjepaaDoor.Px
namespace Go.Proofs.YtglnhkgodgjepaaDoor.Px
open Go.RowKit Go.Proofs.YtglnhkgodgjepaaDoorW.PrintWords Go.Proofs.YtglnhkgodgjepaaDoorW.PrintLast Go.Proofs.YtglnhkgodgjepaaDoorW.PrintMore
set_option linter.unusedVariables false
set_option linter.unusedSimpArgs false
def beN:Nat→Int→List Int
 | 0,_ => []
 | n + 1,x => (x / 2 ^ (8 * n) % 256) :: beN n x
theorem beN_length:∀ n x,(beN n x).length=n
 | 0,_ => rfl
 | n + 1,x => by simp [beN,beN_length n x]
structure IsWr (B:Nat) (w:World) (g:Nat) (v:Value) (bs:List Int) (m:Int):Prop where
 ge:B≤g
 blk:w.heap[g]?=some (.cells #[v,.int .i64 m,.bool true] 98 (0,0))
 row:Kd.R (Kd.int .u8) 5 w B (fun _ => True) v bs
structure WrStep (B:Nat) (w w':World) (g:Nat) (v v':Value):Prop where
 below:Below B w w'
 keep:KeepBut w w' g v.ownBlock
 row:v'.ownBlock=v.ownBlock ∨ ∃ b,v'.ownBlock=some b∧w.heap.size≤b
def WrPost (B:Nat) (w:World) (g:Nat) (v:Value) (bs:List Int) (m:Int) (w':World):Prop:=∃ v',IsWr B w' g v' bs m∧WrStep B w w' g v v'
theorem IsWr.lt {B:Nat} {w:World} {g:Nat} {v:Value} {bs:List Int} {m:Int} (h:IsWr B w g v bs m):g < w.heap.size:=blk_lt h.blk
theorem IsWr.cell {B:Nat} {w:World} {g:Nat} {v:Value} {bs:List Int} {m:Int} (h:IsWr B w g v bs m):w.cell? ⟨g,0,none⟩=some v∧w.cell? ⟨g,1,none⟩=some (.int .i64 m)∧w.cell? ⟨g,2,none⟩=some (.bool true) :=
 ⟨(blk_cell h.blk 0).trans rfl,(blk_cell h.blk 1).trans rfl,(blk_cell h.blk 2).trans rfl⟩
theorem IsWr.drewN {B:Nat} {w:World} {g:Nat} {v:Value} {bs:List Int} {m:Int} (h:IsWr B w g v bs m) (n:Nat):IsWr B (w.drewN n) g v bs m:=⟨h.ge,h.blk,Kd.R_drewN h.row n⟩
theorem IsWr.ne {B:Nat} {w:World} {g:Nat} {v:Value} {bs:List Int} {m:Int} (h:IsWr B w g v bs m):some g ≠ v.ownBlock:=Kd.R_ne h.row h.blk (by decide)
theorem WrStep.refl (B:Nat) (w:World) (g:Nat) (v:Value):WrStep B w w g v v:=⟨Below.refl _ _,KeepBut.refl _ _ _,.inl rfl⟩
theorem WrStep.trans {B:Nat} {w w1 w2:World} {g:Nat} {v v1 v2:Value} (h:WrStep B w w1 g v v1) (k:WrStep B w1 w2 g v1 v2):WrStep B w w2 g v v2:=by
 have hs:=h.keep.1
 refine ⟨h.below.trans k.below,h.keep.trans k.keep h.row,?_⟩
 rcases k.row with e|⟨b,e,hb⟩
 ·rw [e];exact h.row
 ·exact .inr ⟨b,e,by omega⟩
theorem WrPost.trans {B:Nat} {w w1 w2:World} {g:Nat} {v v1:Value} {bs:List Int} {m:Int} (h:WrStep B w w1 g v v1) (k:WrPost B w1 g v1 bs m w2):WrPost B w g v bs m w2:=by
 obtain ⟨v2,h2,s2⟩:=k
 exact ⟨v2,h2,h.trans s2⟩
theorem wr_put {B:Nat} {wr w3:World} {g:Nat} {vr v1:Value} {cur cur1:List Int} {m:Int} (h:IsWr B wr g vr cur m) (hb:w3.heap[g]?=some (.cells #[vr,.int .i64 m,.bool true] 98 (0,0))) (hr:Kd.R (Kd.int .u8) 5 w3 B (fun _ => True) v1 cur1):IsWr B (w3.setCell ⟨g,0,none⟩ v1) g v1 cur1 m :=
 ⟨h.ge,blk_set hb 0 v1,Kd.R_set hr hb (by decide) 0 v1⟩
theorem wr_step {B:Nat} {w wr w3:World} {g:Nat} {v vr v1:Value} {cur:List Int} {m:Int} (hs:WrStep B w wr g v vr) (h:IsWr B wr g vr cur m) (hb:Below B w w3) {k:Nat} (hg:(wr.drewN k).grownBy w3 vr.ownBlock) (ho:v1.ownBlock=vr.ownBlock ∨ ∃ b,v1.ownBlock=some b∧(wr.drewN k).heap.size≤b) (u:Value):WrStep B w (w3.setCell ⟨g,0,none⟩ u) g v v1:=by
 have hk:KeepBut wr w3 g vr.ownBlock:=⟨hg.size,fun i hi _ hr => hg.block i hi hr⟩
 refine ⟨hb.setCell (p:=⟨g,0,none⟩) h.ge u,(hs.keep.trans hk hs.row).set_ 0 u,?_⟩
 rcases ho with e|⟨b,e,hbb⟩
 ·rw [e];exact hs.row
 ·exact .inr ⟨b,e,Nat.le_trans hs.keep.1 hbb⟩
theorem IsWr.below {B:Nat} {w w1:World} {g:Nat} {v:Value} {bs:List Int} {m:Int} (h:IsWr B w g v bs m) (hb:Below w.heap.size w w1):IsWr B w1 g v bs m:=⟨h.ge,(hb.block g h.lt).trans h.blk,Kd.R_below h.row hb⟩
theorem IsWr.base_le {B:Nat} {w:World} {g:Nat} {v:Value} {bs:List Int} {m:Int} (h:IsWr B w g v bs m):B≤w.heap.size:=Nat.le_trans h.ge (Nat.le_of_lt h.lt)
theorem IsWr.own_lt {B:Nat} {w:World} {g:Nat} {v:Value} {bs:List Int} {m:Int} (h:IsWr B w g v bs m) (k:Nat) (hk:v.ownBlock=some k):k < w.heap.size:=by
 obtain ⟨inner,ho⟩:=Kd.R_own h.row
 exact Go.Proofs.YtglnhkgodgjepaaDoorW.PrintWords.own_lt ho k hk
structure WrFar (w:World) (g:Nat) (v:Value) (k:Nat):Prop where
 lt:k < w.heap.size
 ne:k ≠ g
 row:some k ≠ v.ownBlock
theorem WrStep.far {B:Nat} {w w1:World} {g k:Nat} {v v1:Value} (h:WrStep B w w1 g v v1) (f:WrFar w g v k):WrFar w1 g v1 k:=by
 refine ⟨Nat.lt_of_lt_of_le f.lt h.keep.1,f.ne,fun e => ?_⟩
 rcases h.row with q|⟨b,q,hb⟩
 ·rw [q] at e;exact f.row e
 ·rw [q] at e;injection e with e;have:=f.lt;omega
theorem WrStep.blk {B:Nat} {w w1:World} {g k:Nat} {v v1:Value} {o:Obj} (h:WrStep B w w1 g v v1) (f:WrFar w g v k) (hb:w.heap[k]?=some o):w1.heap[k]?=some o:=(h.keep.2 k f.lt f.ne f.row).trans hb
theorem IsWr.far_new {B:Nat} {w w1:World} {g k:Nat} {v:Value} {bs:List Int} {m:Int} (h:IsWr B w g v bs m) (hk:w.heap.size≤k) (hl:k < w1.heap.size):WrFar w1 g v k :=
 ⟨hl,fun e => by have:=h.lt;omega,fun e => by have:=h.own_lt k e.symm;omega⟩
theorem WrFar.below {w w1:World} {g k:Nat} {v:Value} (f:WrFar w g v k) (hs:w.heap.size≤w1.heap.size):WrFar w1 g v k:=⟨Nat.lt_of_lt_of_le f.lt hs,f.ne,f.row⟩
theorem WrStep.R {α:Type} {d:Kd α} {e:Nat} {B base:Nat} {w w1:World} {g:Nat} {v v1 u:Value} {ok:Nat→Prop} {xs:List α} (h:WrStep B w w1 g v v1) (hr:d.R e w base ok u xs) (hf:∀ k,base≤k→k < w.heap.size→WrFar w g v k):d.R e w1 base ok u xs :=
 Kd.R_mono (Kd.R_step (Kd.R_bound hr) (fun k hk hl => by have f:=hf k hk.2.1 hl;exact h.keep.2 k f.lt f.ne f.row)) (fun k hk => hk.1)
theorem none_no (g:Nat) (w:World) (h:w.cell? ⟨g,2,none⟩=some (.bool true)):Calls Tryd.prog 49 #[.pointer (some ⟨g,0,none⟩)] w fun e w' => e=.returned (.bool false)∧w=w':=by
 go_enter Tryd.func49,Tryd.ntmps49
 go_wp2
 go_ret
 exact ⟨rfl,rfl⟩
set_option maxHeartbeats 4000000 in
set_option maxRecDepth 100000 in
theorem put_u64.calls (B g:Nat) (v:Value) (bs:List Int) (m x:Int) (n:Nat) (w:World) (hI:IsWr B w g v bs m) (h1:1≤n) (h8:n≤8) (hx:0≤x) (hroom:(bs.length:Int) + n≤m) (hm:m≤1048576) :
  Calls Tryd.prog 45 #[.pointer (some ⟨g,0,none⟩),.int .i64 n,.int .u64 x,.bool true] w fun e w' => e=.returned (.int .i64 0)∧WrPost B w g v (bs++beN n x) m w':=by
 obtain ⟨c0,c1,c2⟩:=hI.cell
 obtain ⟨A,c,rfl⟩:=Kd.R_slice hI.row
 have t1:decide ((n:Int) < 1)=false:=decide_eq_false (by omega)
 have t2:decide ((8:Int) < (n:Int))=false:=decide_eq_false (by omega)
 have t3:decide (m - (bs.length:Int) < (n:Int))=false:=decide_eq_false (by omega)
 have HI:=Aside0.mk hI
 clear hI
 go_enter Tryd.func45,Tryd.ntmps45
 go_wp2_with (go_at_call 49;refine (none_no g _ c2).mono ?_;rintro e w' ⟨rfl,rfl⟩)
 go_quiet (fail)
 go_wp2
 go_loopw [1] (fun vi wr => ∃ (j:Nat) (cur:List Int) (vr:Value),vi=.int .i64 ((j:Int) - 1)∧Aside0 (j≤n)∧Aside0 (cur++beN j x=bs++beN n x)∧Aside0 (IsWr B wr g vr cur m)∧Aside0 (WrStep B w wr g (.slice A bs.length c) vr)) (fun vi _ => (intOf vi + 1).toNat)
 case atStart => exact ⟨n,bs,_,rfl,⟨Nat.le_refl _⟩,⟨rfl⟩,⟨HI.out.drewN _⟩,⟨⟨pw_below_drewN (Below.refl _ _) _,⟨Nat.le_refl _,fun _ _ _ _ => rfl⟩,.inl rfl⟩⟩⟩
 case round =>
  obtain ⟨j,cur,vr,rfl,HJ,HC,HR0,HS⟩:=hrel
  cases j with
  | zero =>
   have hz:decide ((0:Int)≤((0:Nat):Int) - 1)=false:=by decide
   go_wp2
   go_ret
   exact ⟨rfl,_,by have h:=HC.out;simp only [beN,List.append_nil] at h;rw [← h];exact HR0.out,HS.out⟩
  | succ i =>
   have HI:=HR0
   have HR:=Aside0.mk HR0.out.row
   have HB:=Aside0.mk HS.out.below
   have hi:i < 8:=by have:=HJ.out;omega
   have hii:((i + 1:Nat):Int) - 1=(i:Int):=by omega
   rw [hii]
   clear hii
   have hge:decide ((0:Int)≤(i:Int))=true:=decide_eq_true (by omega)
   have hw8:wrap64 (8 * (i:Int))=8 * (i:Int):=by unfold wrap64;omega
   have hw0:0≤8 * (i:Int):=by omega
   have hw64:8 * (i:Int)≤64:=by omega
   have hc0:wr.cell? ⟨g,0,none⟩=some vr:=HI.out.cell.1
   have HNE:=Aside0.mk HI.out.ne
   have HL:Aside0 (cur.length≤1048576):=⟨by have h:=congrArg List.length HC.out;simp [beN_length] at h;omega⟩
   go_wp2
   refine start_ (n:=15) (S:=fun w' => w'.cell? ⟨g,0,none⟩=some vr) (ds:=[14]) #[false,false,false,false,false,false,false,false,false,false,false,false,false,false,false] (by kernel_rfl) rfl rfl (hc0) (fun hHeld => ?_)
   refine pure_ (i:=0) (N:=some 38) (v:=?_) (a':=?_) #[true,false,false,false,false,false,false,false,false,false,false,false,false,false,false] rfl rfl (by kernel_rfl) (fun _ _ _ h => h) (Or.inl ⟨by rfl,?_⟩) ?_ ?_
   rotate_left
   ·intro w'
    go_simp
    with_reducible rfl
   rotate_left
   ·simp only [Act.put,List.setIfInBounds_toArray,List.set_cons_zero,List.set_cons_succ,i64_w,i32_w]
    rfl
   refine pure_ (i:=1) (N:=some 39) (v:=?_) (a':=?_) #[true,true,false,false,false,false,false,false,false,false,false,false,false,false,false] rfl rfl (by kernel_rfl) (fun _ _ _ h => h) (Or.inl ⟨by rfl,?_⟩) ?_ ?_
   rotate_left
   ·intro w'
    go_simp
    with_reducible rfl
   rotate_left
   ·simp only [Act.put,List.setIfInBounds_toArray,List.set_cons_zero,List.set_cons_succ,i64_w,i32_w]
    rfl
   refine pure_ (i:=2) (N:=some 40) (v:=?_) (a':=?_) #[true,true,true,false,false,false,false,false,false,false,false,false,false,false,false] rfl rfl (by kernel_rfl) (fun _ _ _ h => h) (Or.inl ⟨by rfl,?_⟩) ?_ ?_
   rotate_left
   ·intro w'
    go_simp
    with_reducible rfl
   rotate_left
   ·simp only [Act.put,List.setIfInBounds_toArray,List.set_cons_zero,List.set_cons_succ,i64_w,i32_w]
    rfl
   refine pure_ (i:=3) (N:=some 41) (v:=?_) (a':=?_) #[true,true,true,true,false,false,false,false,false,false,false,false,false,false,false] rfl rfl (by kernel_rfl) (fun _ _ _ h => h) (Or.inl ⟨by rfl,?_⟩) ?_ ?_
   rotate_left
   ·intro w'
    go_simp
    with_reducible rfl
   rotate_left
   ·simp only [Act.put,List.setIfInBounds_toArray,List.set_cons_zero,List.set_cons_succ,i64_w,i32_w]
    rfl
   refine pure_ (i:=5) (N:=some 43) (v:=?_) (a':=?_) #[true,true,true,true,false,true,false,false,false,false,false,false,false,false,false] rfl rfl (by kernel_rfl) (fun _ _ _ h => h) (Or.inl ⟨by rfl,?_⟩) ?_ ?_
   rotate_left
   ·intro w'
    go_simp
    with_reducible rfl
   rotate_left
   ·simp only [Act.put,List.setIfInBounds_toArray,List.set_cons_zero,List.set_cons_succ,i64_w,i32_w]
    rfl
   refine pure_ (i:=6) (N:=some 44) (v:=?_) (a':=?_) #[true,true,true,true,false,true,true,false,false,false,false,false,false,false,false] rfl rfl (by kernel_rfl) (fun _ _ _ h => h) (Or.inl ⟨by rfl,?_⟩) ?_ ?_
   rotate_left
   ·intro w'
    go_simp
    with_reducible rfl
   rotate_left
   ·simp only [Act.put,List.setIfInBounds_toArray,List.set_cons_zero,List.set_cons_succ,i64_w,i32_w]
    rfl
   refine pure_ (i:=7) (N:=some 45) (v:=?_) (a':=?_) #[true,true,true,true,false,true,true,true,false,false,false,false,false,false,false] rfl rfl (by kernel_rfl) (fun _ _ _ h => h) (Or.inl ⟨by rfl,?_⟩) ?_ ?_
   rotate_left
   ·intro w'
    go_simp
    with_reducible rfl
   rotate_left
   ·simp only [Act.put,List.setIfInBounds_toArray,List.set_cons_zero,List.set_cons_succ,i64_w,i32_w]
    rfl
   refine pure_ (i:=8) (N:=some 46) (v:=?_) (a':=?_) #[true,true,true,true,false,true,true,true,true,false,false,false,false,false,false] rfl rfl (by kernel_rfl) (fun _ _ _ h => h) (Or.inl ⟨by rfl,?_⟩) ?_ ?_
   rotate_left
   ·intro w'
    go_simp
    with_reducible rfl
   rotate_left
   ·simp only [Act.put,List.setIfInBounds_toArray,List.set_cons_zero,List.set_cons_succ,i64_w,i32_w]
    rfl
   refine pure_ (i:=9) (N:=some 47) (v:=?_) (a':=?_) #[true,true,true,true,false,true,true,true,true,true,false,false,false,false,false] rfl rfl (by kernel_rfl) (fun _ _ _ h => h) (Or.inl ⟨by rfl,?_⟩) ?_ ?_
   rotate_left
   ·intro w'
    go_simp
    with_reducible rfl
   rotate_left
   ·simp only [Act.put,List.setIfInBounds_toArray,List.set_cons_zero,List.set_cons_succ,i64_w,i32_w]
    rfl
   refine take_ (i:=4) (N:=some 42) (v:=?_) (a':=?_) #[true,true,true,true,true,true,true,true,true,true,false,false,false,false,false] rfl rfl (by kernel_rfl) (fun _ _ _ h => h) (Or.inl ⟨by rfl,?_⟩) hHeld ?_ ?_
   rotate_left
   ·intro w' s0
    go_simp
    with_reducible rfl
   rotate_left
   ·simp only [Act.put,List.setIfInBounds_toArray,List.set_cons_zero,List.set_cons_succ,i64_w,i32_w]
    rfl
   refine one_ (i:=10) (N:=some 48) #[true,true,true,true,true,true,true,true,true,true,true,false,false,false,false] rfl rfl (by kernel_rfl) (by decide) (fun K hK => ?_)
   refine value_ (w1:=?_) (v:=?_) (by rfl) rfl ?_ ?_
   rotate_left 2
   ·go_simp
    constructor
    ·rfl
    ·rfl
   refine hK.out _ _ ((by first|exact pw_cell_below ((Below.refl _ _).alloc (Nat.le_refl _) _) hHeld)) (fun hHeld => ?_)
   clear hK K
   refine norm_ (a':=?_) ?_ ?_
   rotate_left
   ·show Act.put _ (some 48) _=_
    simp only [Act.put,List.setIfInBounds_toArray,List.set_cons_zero,List.set_cons_succ,i64_w,i32_w]
    rfl
   refine one_ (i:=11) (N:=some 49) #[true,true,true,true,true,true,true,true,true,true,true,true,false,false,false] rfl rfl (by kernel_rfl) (by decide) (fun K hK => ?_)
   refine Kd.R_append_step (Kd.int .u8) (w0:=w) B (by rfl) (.tmp 42) (.tmp 48) 34 5 (.int .u8 0) 1 (by rfl) Tryd.underlying34 info5 rfl (by decide) (by decide) vr cur (x / 2 ^ (8 * i) % 256) [.int .u8 (x / 2 ^ (8 * i) % 256)] (fun _ => True) (fun _ => False) (by rfl) (by rfl) rfl (fun _ h => h.elim) (fun _ _ => trivial) (Kd.R_drewN HR.out 1) (pw_below_drewN HB.out 1) (by have:=HB.out.size;have:=HI.out.ge;have:=HI.out.lt;show B≤wr.heap.size;omega) (by have:=HL.out;omega) ?_
   intro v1 w3 hR3 hB3 hg3 ho3
   have HR3:=Aside0.mk hR3
   have HB3:=Aside0.mk hB3
   have HG3:=Aside0.mk hg3
   have HO3:=Aside0.mk ho3
   have hbk3:=blk_grown (w:=wr.drew) (show wr.drew.heap[g]?=some (.cells #[vr,.int .i64 m,.bool true] 98 (0,0)) from HI.out.blk) hg3 HNE.out
   have hc3:w3.cell? ⟨g,0,none⟩=some vr:=(blk_cell hbk3 0).trans rfl
   have hf3:=blk_frozen hbk3 0
   have HBK3:=Aside0.mk hbk3
   obtain ⟨A1,cp1,hv1⟩:=Kd.R_slice hR3
   simp only [List.length_append,List.length_singleton] at hv1
   subst hv1
   clear hR3 hB3 hg3 ho3 hbk3
   refine hK.out _ _ (hc3) (fun hHeld => ?_)
   clear hK K
   refine norm_ (a':=?_) ?_ ?_
   rotate_left
   ·show Act.put _ (some 49) _=_
    simp only [Act.put,List.setIfInBounds_toArray,List.set_cons_zero,List.set_cons_succ,i64_w,i32_w]
    rfl
   refine pure_ (i:=12) (N:=some 50) (v:=?_) (a':=?_) #[true,true,true,true,true,true,true,true,true,true,true,true,true,false,false] rfl rfl (by kernel_rfl) (fun _ _ _ h => h) (Or.inl ⟨by rfl,?_⟩) ?_ ?_
   rotate_left
   ·intro w'
    go_simp
    with_reducible rfl
   rotate_left
   ·simp only [Act.put,List.setIfInBounds_toArray,List.set_cons_zero,List.set_cons_succ,i64_w,i32_w]
    rfl
   refine pure_ (i:=13) (N:=some 51) (v:=?_) (a':=?_) #[true,true,true,true,true,true,true,true,true,true,true,true,true,true,false] rfl rfl (by kernel_rfl) (fun _ _ _ h => h) (Or.inl ⟨by rfl,?_⟩) ?_ ?_
   rotate_left
   ·intro w'
    go_simp
    with_reducible rfl
   rotate_left
   ·simp only [Act.put,List.setIfInBounds_toArray,List.set_cons_zero,List.set_cons_succ,i64_w,i32_w]
    rfl
   refine last_ (i:=14) (N:=none) #[true,true,true,true,true,true,true,true,true,true,true,true,true,true,true] rfl rfl (by kernel_rfl) (by decide) (fun K hK => ?_)
   refine skip_ (w1:=?_) (by rfl) rfl ?_ ?_
   rotate_left
   ·go_simp
    rfl
   refine hK.out _ _ ?_
   clear hK K
   refine done_ (by kernel_rfl) ?_
   go_wp2
   go_roundw
   case measure => simp [intOf]
   case rel => exact ⟨i,cur++[x / 2 ^ (8 * i) % 256],_,rfl,⟨by have:=HJ.out;omega⟩,⟨by rw [← HC.out,List.append_assoc];rfl⟩,⟨wr_put HI.out HBK3.out HR3.out⟩,⟨wr_step (k:=1) HS.out HI.out HB3.out HG3.out HO3.out _⟩⟩
set_option maxHeartbeats 4000000 in
set_option maxRecDepth 100000 in
theorem put_i64.calls (B g:Nat) (v:Value) (bs:List Int) (m x:Int) (n:Nat) (w:World) (hI:IsWr B w g v bs m) (h1:1≤n) (h8:n≤8) (hroom:(bs.length:Int) + n≤m) (hm:m≤1048576) :
  Calls Tryd.prog 50 #[.pointer (some ⟨g,0,none⟩),.int .i64 n,.int .i64 x,.bool true] w fun e w' => e=.returned (.int .i64 0)∧WrPost B w g v (bs++beN n x) m w':=by
 obtain ⟨c0,c1,c2⟩:=hI.cell
 obtain ⟨A,c,rfl⟩:=Kd.R_slice hI.row
 have t1:decide ((n:Int) < 1)=false:=decide_eq_false (by omega)
 have t2:decide ((8:Int) < (n:Int))=false:=decide_eq_false (by omega)
 have t3:decide (m - (bs.length:Int) < (n:Int))=false:=decide_eq_false (by omega)
 have HI:=Aside0.mk hI
 clear hI
 go_enter Tryd.func50,Tryd.ntmps50
 go_wp2_with (go_at_call 49;refine (none_no g _ c2).mono ?_;rintro e w' ⟨rfl,rfl⟩)
 go_quiet (fail)
 go_wp2
 go_loopw [1] (fun vi wr => ∃ (j:Nat) (cur:List Int) (vr:Value),vi=.int .i64 ((j:Int) - 1)∧Aside0 (j≤n)∧Aside0 (cur++beN j x=bs++beN n x)∧Aside0 (IsWr B wr g vr cur m)∧Aside0 (WrStep B w wr g (.slice A bs.length c) vr)) (fun vi _ => (intOf vi + 1).toNat)
 case atStart => exact ⟨n,bs,_,rfl,⟨Nat.le_refl _⟩,⟨rfl⟩,⟨HI.out.drewN _⟩,⟨⟨pw_below_drewN (Below.refl _ _) _,⟨Nat.le_refl _,fun _ _ _ _ => rfl⟩,.inl rfl⟩⟩⟩
 case round =>
  obtain ⟨j,cur,vr,rfl,HJ,HC,HR0,HS⟩:=hrel
  cases j with
  | zero =>
   have hz:decide ((0:Int)≤((0:Nat):Int) - 1)=false:=by decide
   go_wp2
   go_ret
   exact ⟨rfl,_,by have h:=HC.out;simp only [beN,List.append_nil] at h;rw [← h];exact HR0.out,HS.out⟩
  | succ i =>
   have HI:=HR0
   have HR:=Aside0.mk HR0.out.row
   have HB:=Aside0.mk HS.out.below
   have hi:i < 8:=by have:=HJ.out;omega
   have hii:((i + 1:Nat):Int) - 1=(i:Int):=by omega
   rw [hii]
   clear hii
   have hge:decide ((0:Int)≤(i:Int))=true:=decide_eq_true (by omega)
   have hw8:wrap64 (8 * (i:Int))=8 * (i:Int):=by unfold wrap64;omega
   have hw0:0≤8 * (i:Int):=by omega
   have hw64:8 * (i:Int)≤64:=by omega
   have hc0:wr.cell? ⟨g,0,none⟩=some vr:=HI.out.cell.1
   have HNE:=Aside0.mk HI.out.ne
   have HL:Aside0 (cur.length≤1048576):=⟨by have h:=congrArg List.length HC.out;simp [beN_length] at h;omega⟩
   go_wp2
   refine start_ (n:=15) (S:=fun w' => w'.cell? ⟨g,0,none⟩=some vr) (ds:=[14]) #[false,false,false,false,false,false,false,false,false,false,false,false,false,false,false] (by kernel_rfl) rfl rfl (hc0) (fun hHeld => ?_)
   refine pure_ (i:=0) (N:=some 38) (v:=?_) (a':=?_) #[true,false,false,false,false,false,false,false,false,false,false,false,false,false,false] rfl rfl (by kernel_rfl) (fun _ _ _ h => h) (Or.inl ⟨by rfl,?_⟩) ?_ ?_
   rotate_left
   ·intro w'
    go_simp
    with_reducible rfl
   rotate_left
   ·simp only [Act.put,List.setIfInBounds_toArray,List.set_cons_zero,List.set_cons_succ,i64_w,i32_w]
    rfl
   refine pure_ (i:=1) (N:=some 39) (v:=?_) (a':=?_) #[true,true,false,false,false,false,false,false,false,false,false,false,false,false,false] rfl rfl (by kernel_rfl) (fun _ _ _ h => h) (Or.inl ⟨by rfl,?_⟩) ?_ ?_
   rotate_left
   ·intro w'
    go_simp
    with_reducible rfl
   rotate_left
   ·simp only [Act.put,List.setIfInBounds_toArray,List.set_cons_zero,List.set_cons_succ,i64_w,i32_w]
    rfl
   refine pure_ (i:=2) (N:=some 40) (v:=?_) (a':=?_) #[true,true,true,false,false,false,false,false,false,false,false,false,false,false,false] rfl rfl (by kernel_rfl) (fun _ _ _ h => h) (Or.inl ⟨by rfl,?_⟩) ?_ ?_
   rotate_left
   ·intro w'
    go_simp
    with_reducible rfl
   rotate_left
   ·simp only [Act.put,List.setIfInBounds_toArray,List.set_cons_zero,List.set_cons_succ,i64_w,i32_w]
    rfl
   refine pure_ (i:=3) (N:=some 41) (v:=?_) (a':=?_) #[true,true,true,true,false,false,false,false,false,false,false,false,false,false,false] rfl rfl (by kernel_rfl) (fun _ _ _ h => h) (Or.inl ⟨by rfl,?_⟩) ?_ ?_
   rotate_left
   ·intro w'
    go_simp
    with_reducible rfl
   rotate_left
   ·simp only [Act.put,List.setIfInBounds_toArray,List.set_cons_zero,List.set_cons_succ,i64_w,i32_w]
    rfl
   refine pure_ (i:=5) (N:=some 43) (v:=?_) (a':=?_) #[true,true,true,true,false,true,false,false,false,false,false,false,false,false,false] rfl rfl (by kernel_rfl) (fun _ _ _ h => h) (Or.inl ⟨by rfl,?_⟩) ?_ ?_
   rotate_left
   ·intro w'
    go_simp
    with_reducible rfl
   rotate_left
   ·simp only [Act.put,List.setIfInBounds_toArray,List.set_cons_zero,List.set_cons_succ,i64_w,i32_w]
    rfl
   refine pure_ (i:=6) (N:=some 44) (v:=?_) (a':=?_) #[true,true,true,true,false,true,true,false,false,false,false,false,false,false,false] rfl rfl (by kernel_rfl) (fun _ _ _ h => h) (Or.inl ⟨by rfl,?_⟩) ?_ ?_
   rotate_left
   ·intro w'
    go_simp
    with_reducible rfl
   rotate_left
   ·simp only [Act.put,List.setIfInBounds_toArray,List.set_cons_zero,List.set_cons_succ,i64_w,i32_w]
    rfl
   refine pure_ (i:=7) (N:=some 45) (v:=?_) (a':=?_) #[true,true,true,true,false,true,true,true,false,false,false,false,false,false,false] rfl rfl (by kernel_rfl) (fun _ _ _ h => h) (Or.inl ⟨by rfl,?_⟩) ?_ ?_
   rotate_left
   ·intro w'
    go_simp
    with_reducible rfl
   rotate_left
   ·simp only [Act.put,List.setIfInBounds_toArray,List.set_cons_zero,List.set_cons_succ,i64_w,i32_w]
    rfl
   refine pure_ (i:=8) (N:=some 46) (v:=?_) (a':=?_) #[true,true,true,true,false,true,true,true,true,false,false,false,false,false,false] rfl rfl (by kernel_rfl) (fun _ _ _ h => h) (Or.inl ⟨by rfl,?_⟩) ?_ ?_
   rotate_left
   ·intro w'
    go_simp
    with_reducible rfl
   rotate_left
   ·simp only [Act.put,List.setIfInBounds_toArray,List.set_cons_zero,List.set_cons_succ,i64_w,i32_w]
    rfl
   refine pure_ (i:=9) (N:=some 47) (v:=?_) (a':=?_) #[true,true,true,true,false,true,true,true,true,true,false,false,false,false,false] rfl rfl (by kernel_rfl) (fun _ _ _ h => h) (Or.inl ⟨by rfl,?_⟩) ?_ ?_
   rotate_left
   ·intro w'
    go_simp
    with_reducible rfl
   rotate_left
   ·simp only [Act.put,List.setIfInBounds_toArray,List.set_cons_zero,List.set_cons_succ,i64_w,i32_w]
    rfl
   refine take_ (i:=4) (N:=some 42) (v:=?_) (a':=?_) #[true,true,true,true,true,true,true,true,true,true,false,false,false,false,false] rfl rfl (by kernel_rfl) (fun _ _ _ h => h) (Or.inl ⟨by rfl,?_⟩) hHeld ?_ ?_
   rotate_left
   ·intro w' s0
    go_simp
    with_reducible rfl
   rotate_left
   ·simp only [Act.put,List.setIfInBounds_toArray,List.set_cons_zero,List.set_cons_succ,i64_w,i32_w]
    rfl
   refine one_ (i:=10) (N:=some 48) #[true,true,true,true,true,true,true,true,true,true,true,false,false,false,false] rfl rfl (by kernel_rfl) (by decide) (fun K hK => ?_)
   refine value_ (w1:=?_) (v:=?_) (by rfl) rfl ?_ ?_
   rotate_left 2
   ·go_simp
    constructor
    ·rfl
    ·rfl
   refine hK.out _ _ ((by first|exact pw_cell_below ((Below.refl _ _).alloc (Nat.le_refl _) _) hHeld)) (fun hHeld => ?_)
   clear hK K
   refine norm_ (a':=?_) ?_ ?_
   rotate_left
   ·show Act.put _ (some 48) _=_
    simp only [Act.put,List.setIfInBounds_toArray,List.set_cons_zero,List.set_cons_succ,i64_w,i32_w]
    rfl
   refine one_ (i:=11) (N:=some 49) #[true,true,true,true,true,true,true,true,true,true,true,true,false,false,false] rfl rfl (by kernel_rfl) (by decide) (fun K hK => ?_)
   refine Kd.R_append_step (Kd.int .u8) (w0:=w) B (by rfl) (.tmp 42) (.tmp 48) 34 5 (.int .u8 0) 1 (by rfl) Tryd.underlying34 info5 rfl (by decide) (by decide) vr cur (x / 2 ^ (8 * i) % 256) [.int .u8 (x / 2 ^ (8 * i) % 256)] (fun _ => True) (fun _ => False) (by rfl) (by rfl) rfl (fun _ h => h.elim) (fun _ _ => trivial) (Kd.R_drewN HR.out 1) (pw_below_drewN HB.out 1) (by have:=HB.out.size;have:=HI.out.ge;have:=HI.out.lt;show B≤wr.heap.size;omega) (by have:=HL.out;omega) ?_
   intro v1 w3 hR3 hB3 hg3 ho3
   have HR3:=Aside0.mk hR3
   have HB3:=Aside0.mk hB3
   have HG3:=Aside0.mk hg3
   have HO3:=Aside0.mk ho3
   have hbk3:=blk_grown (w:=wr.drew) (show wr.drew.heap[g]?=some (.cells #[vr,.int .i64 m,.bool true] 98 (0,0)) from HI.out.blk) hg3 HNE.out
   have hc3:w3.cell? ⟨g,0,none⟩=some vr:=(blk_cell hbk3 0).trans rfl
   have hf3:=blk_frozen hbk3 0
   have HBK3:=Aside0.mk hbk3
   obtain ⟨A1,cp1,hv1⟩:=Kd.R_slice hR3
   simp only [List.length_append,List.length_singleton] at hv1
   subst hv1
   clear hR3 hB3 hg3 ho3 hbk3
   refine hK.out _ _ (hc3) (fun hHeld => ?_)
   clear hK K
   refine norm_ (a':=?_) ?_ ?_
   rotate_left
   ·show Act.put _ (some 49) _=_
    simp only [Act.put,List.setIfInBounds_toArray,List.set_cons_zero,List.set_cons_succ,i64_w,i32_w]
    rfl
   refine pure_ (i:=12) (N:=some 50) (v:=?_) (a':=?_) #[true,true,true,true,true,true,true,true,true,true,true,true,true,false,false] rfl rfl (by kernel_rfl) (fun _ _ _ h => h) (Or.inl ⟨by rfl,?_⟩) ?_ ?_
   rotate_left
   ·intro w'
    go_simp
    with_reducible rfl
   rotate_left
   ·simp only [Act.put,List.setIfInBounds_toArray,List.set_cons_zero,List.set_cons_succ,i64_w,i32_w]
    rfl
   refine pure_ (i:=13) (N:=some 51) (v:=?_) (a':=?_) #[true,true,true,true,true,true,true,true,true,true,true,true,true,true,false] rfl rfl (by kernel_rfl) (fun _ _ _ h => h) (Or.inl ⟨by rfl,?_⟩) ?_ ?_
   rotate_left
   ·intro w'
    go_simp
    with_reducible rfl
   rotate_left
   ·simp only [Act.put,List.setIfInBounds_toArray,List.set_cons_zero,List.set_cons_succ,i64_w,i32_w]
    rfl
   refine last_ (i:=14) (N:=none) #[true,true,true,true,true,true,true,true,true,true,true,true,true,true,true] rfl rfl (by kernel_rfl) (by decide) (fun K hK => ?_)
   refine skip_ (w1:=?_) (by rfl) rfl ?_ ?_
   rotate_left
   ·go_simp
    rfl
   refine hK.out _ _ ?_
   clear hK K
   refine done_ (by kernel_rfl) ?_
   go_wp2
   go_roundw
   case measure => simp [intOf]
   case rel => exact ⟨i,cur++[x / 2 ^ (8 * i) % 256],_,rfl,⟨by have:=HJ.out;omega⟩,⟨by rw [← HC.out,List.append_assoc];rfl⟩,⟨wr_put HI.out HBK3.out HR3.out⟩,⟨wr_step (k:=1) HS.out HI.out HB3.out HG3.out HO3.out _⟩⟩
theorem shr_zero {x:Int} {n:Nat} (h0:0≤x) (h:x < 2 ^ (8 * n)):x / 2 ^ (8 * n)=0:=Int.ediv_eq_zero_of_lt h0 h
set_option maxHeartbeats 4000000 in
set_option maxRecDepth 100000 in
theorem wr_Uint.calls (B g:Nat) (v:Value) (bs:List Int) (m x:Int) (n:Nat) (w:World) (hI:IsWr B w g v bs m) (h1:1≤n) (h8:n≤8) (hx:0≤x) (hx2:x < 2 ^ (8 * n)) (hroom:(bs.length:Int) + n≤m) (hm:m≤1048576) :
  Calls Tryd.prog 24 #[.pointer (some ⟨g,0,none⟩),.int .i64 n,.int .u64 x] w fun e w' => e=.returned (.int .i64 0)∧WrPost B w g v (bs++beN n x) m w':=by
 have t1:decide ((n:Int) < 1)=false:=decide_eq_false (by omega)
 have HC:=Aside0.mk (put_u64.calls B g v bs m x n w hI h1 h8 hx hroom hm)
 by_cases h7:n=8
 ·have t2:decide ((7:Int) < (n:Int))=true:=decide_eq_true (by omega)
  clear hx2 hI h7
  go_enter Tryd.func24,Tryd.ntmps24
  go_wp2_with fail
  with_reducible refine HC.out.mono ?_
  rintro e w' ⟨rfl,hp⟩
  have HP:=Aside0.mk hp
  clear hp
  go_wp2
  go_ret
  exact ⟨rfl,HP.out⟩
 ·have t2:decide ((7:Int) < (n:Int))=false:=decide_eq_false (by omega)
  have hw8:wrap64 (8 * (n:Int))=8 * (n:Int):=by unfold wrap64;omega
  have hw0:0≤8 * (n:Int):=by omega
  have hw64:8 * (n:Int)≤64:=by omega
  have hz:(x / 2 ^ (8 * n)==0)=true:=beq_iff_eq.mpr (shr_zero hx hx2)
  clear hx2 hI h7
  go_enter Tryd.func24,Tryd.ntmps24
  go_wp2_with fail
  with_reducible refine HC.out.mono ?_
  rintro e w' ⟨rfl,hp⟩
  have HP:=Aside0.mk hp
  clear hp
  go_wp2
  go_ret
  exact ⟨rfl,HP.out⟩
set_option maxHeartbeats 4000000 in
set_option maxRecDepth 100000 in
theorem wr_Int.calls (B g:Nat) (v:Value) (bs:List Int) (m x:Int) (n:Nat) (w:World) (hI:IsWr B w g v bs m) (h1:1≤n) (h8:n≤8) (hx:n≤7→x / 2 ^ (8 * n - 1)=0 ∨ x / 2 ^ (8 * n - 1)=-1) (hroom:(bs.length:Int) + n≤m) (hm:m≤1048576) :
  Calls Tryd.prog 27 #[.pointer (some ⟨g,0,none⟩),.int .i64 n,.int .i64 x] w fun e w' => e=.returned (.int .i64 0)∧WrPost B w g v (bs++beN n x) m w':=by
 have t1:decide ((1:Int)≤(n:Int))=true:=decide_eq_true (by omega)
 have HC:=Aside0.mk (put_i64.calls B g v bs m x n w hI h1 h8 hroom hm)
 by_cases h7:n=8
 ·have t2:decide ((n:Int)≤7)=false:=decide_eq_false (by omega)
  clear hx hI h7
  go_enter Tryd.func27,Tryd.ntmps27
  go_wp2_with fail
  with_reducible refine HC.out.mono ?_
  rintro e w' ⟨rfl,hp⟩
  have HP:=Aside0.mk hp
  clear hp
  go_wp2
  go_ret
  exact ⟨rfl,HP.out⟩
 ·have t2:decide ((n:Int)≤7)=true:=decide_eq_true (by omega)
  have hw8:wrap64 (8 * (n:Int))=8 * (n:Int):=by unfold wrap64;omega
  have hw9:wrap64 (8 * (n:Int) - 1)=8 * (n:Int) - 1:=by unfold wrap64;omega
  have hw0:0≤8 * (n:Int) - 1:=by omega
  have hw1:1≤8 * (n:Int):=by omega
  have hw64:8 * (n:Int) - 1≤64:=by omega
  have hx':=hx (by omega)
  obtain ⟨y,hy⟩:∃ y,y=x / 2 ^ (8 * n - 1):=⟨_,rfl⟩
  rw [← hy] at hx'
  have hy':x / 2 ^ (8 * n - 1)=y:=hy.symm
  clear hx hI h7 hy
  rcases hx' with h0|h0
  ·have e1:(y==0)=true:=beq_iff_eq.mpr h0
   clear h0
   go_enter Tryd.func27,Tryd.ntmps27
   go_wp2_with fail
   with_reducible refine HC.out.mono ?_
   rintro e w' ⟨rfl,hp⟩
   have HP:=Aside0.mk hp
   clear hp
   go_wp2
   go_ret
   exact ⟨rfl,HP.out⟩
  ·have e1:(y==0)=false:=beq_eq_false_iff_ne.mpr (by omega)
   have e2:(y==-1)=true:=beq_iff_eq.mpr h0
   clear h0
   go_enter Tryd.func27,Tryd.ntmps27
   go_wp2_with fail
   with_reducible refine HC.out.mono ?_
   rintro e w' ⟨rfl,hp⟩
   have HP:=Aside0.mk hp
   clear hp
   go_wp2
   go_ret
   exact ⟨rfl,HP.out⟩
set_option maxHeartbeats 4000000 in
set_option maxRecDepth 100000 in
theorem wr_Bytes.calls (B g:Nat) (v:Value) (bs ys:List Int) (m:Int) (A:Option Addr) (c:Nat) (w:World) (hI:IsWr B w g v bs m) (hy:(Kd.int .u8).C w A ys.length ys) (hroom:(bs.length:Int) + ys.length≤m) (hm:m≤1048576) :
  Calls Tryd.prog 26 #[.pointer (some ⟨g,0,none⟩),.slice A ys.length c] w fun e w' => e=.returned (.int .i64 0)∧WrPost B w g v (bs++ys) m w':=by
 obtain ⟨c0,c1,c2⟩:=hI.cell
 obtain ⟨A0,cp0,rfl⟩:=Kd.R_slice hI.row
 have t3:decide (m - (bs.length:Int) < (ys.length:Int))=false:=decide_eq_false (by omega)
 have HI:=Aside0.mk hI
 have HY:=Aside0.mk hy
 have HL:Aside0 (bs.length + ys.length≤1048576):=⟨by omega⟩
 have HNE:=Aside0.mk hI.ne
 clear hI hy
 go_enter Tryd.func26,Tryd.ntmps26
 go_wp2_with (go_at_call 49;refine (none_no g _ c2).mono ?_;rintro e w' ⟨rfl,rfl⟩)
 go_quiet (fail)
 go_wp2_with (at_builtin;refine Kd.R_append_row (Value.int .u8) (0:Int) (w0:=w) B rfl _ _ 34 5 (.int .u8 0) 1 rfl Tryd.underlying34 info5 rfl (by decide) _ bs ys A ys.length c (fun _ => True) rfl rfl (fun _ _ => trivial) (HI.out.drewN _).row (Kd.C_below HY.out (pw_below_drewN (Below.refl _ _) _)) (pw_below_drewN (Below.refl _ _) _) ?c5 ?c6 ?_)
 case c5 => have:=HI.out.ge;have:=HI.out.lt;show B≤w.heap.size;omega
 case c6 => have:=HL.out;omega
 intro v1 w3 hR3 hB3 hg3 ho3
 have HR3:=Aside0.mk hR3
 have HB3:=Aside0.mk hB3
 have HG3:=Aside0.mk hg3
 have HO3:=Aside0.mk ho3
 have hbk3:=blk_grown (w:=w.drewN nq) (show (w.drewN nq).heap[g]?=some (.cells #[_,.int .i64 m,.bool true] 98 (0,0)) from HI.out.blk) hg3 HNE.out
 have hc3:=(blk_cell hbk3 0).trans rfl
 have hf3:=blk_frozen hbk3 0
 have HBK3:=Aside0.mk hbk3
 obtain ⟨A1,cp1,hv1⟩:=Kd.R_slice hR3
 simp only [List.length_append] at hv1
 subst hv1
 clear hR3 hB3 hg3 ho3 hbk3
 go_wp2
 go_ret
 exact ⟨rfl,_,wr_put HI.out HBK3.out HR3.out,wr_step (WrStep.refl B w g _) HI.out HB3.out HG3.out HO3.out _⟩
set_option maxHeartbeats 4000000 in
set_option maxRecDepth 100000 in
theorem wr_Out.calls (B g:Nat) (v:Value) (bs:List Int) (m:Int) (w:World) (hI:IsWr B w g v bs m) (hroom:bs.length≤1048576) :
  Calls Tryd.prog 28 #[.pointer (some ⟨g,0,none⟩)] w fun e w' => ∃ v0_:Value,e=.returned v0_∧Kd.R (Kd.int .u8) 5 w' w.heap.size (fun _ => True) v0_ bs∧Below w.heap.size w w':=by
 obtain ⟨c0,c1,c2⟩:=hI.cell
 obtain ⟨A0,cp0,rfl,hcp,hC⟩:=Kd.R_reads hI.row
 have HC:=Aside0.mk hC
 clear hI hC
 go_enter Tryd.func28,Tryd.ntmps28
 go_wp2_with (first|(go_at_call 49;refine (none_no g _ c2).mono ?_;rintro e w' ⟨rfl,rfl⟩)|(at_builtin;refine Kd.R_append_row (Value.int .u8) (0:Int) (w0:=w) w.heap.size rfl _ _ 34 5 (.int .u8 0) 1 rfl Tryd.underlying34 info5 rfl (by decide) (.slice none 0 0) [] bs A0 bs.length cp0 (fun _ => True) rfl rfl (fun _ _ => trivial) (Kd.R_nil _ _ _ _ _) HC.out (Below.refl _ _) (Nat.le_refl _) ?c6 ?_))
 case c6 => simp only [List.length_nil];omega
 intro v1 w3 hR3 hB3 hg3 ho3
 have HR3:=Aside0.mk hR3
 have HB3:=Aside0.mk hB3
 clear hR3 hB3 hg3 ho3
 go_wp2
 go_ret
 exact ⟨_,rfl,HR3.out,HB3.out⟩
set_option maxHeartbeats 4000000 in
set_option maxRecDepth 100000 in
theorem wr_New.calls (m:Int) (w:World) (h0:0≤m) (h1:m≤1048576) :
  Calls Tryd.prog 23 #[.int .i64 m] w fun e w' => e=.returned (.tuple #[.pointer (some ⟨w.heap.size,0,none⟩),.int .i64 0])∧IsWr w.heap.size w' w.heap.size (.slice none 0 0) [] m∧Below w.heap.size w w':=by
 have t1:decide (m < 0)=false:=decide_eq_false (by omega)
 have t2:decide (1048576 < m)=false:=decide_eq_false (by omega)
 go_enter Tryd.func23,Tryd.ntmps23
 go_wp2
 go_ret2
 refine ⟨rfl,⟨Nat.le_refl _,blk_new _ _,Kd.R_nil _ _ _ _ _⟩,below_alloc (Below.refl _ _) _⟩
end Go.Proofs.YtglnhkgodgjepaaDoor.Px
namespace Go.Proofs.YtglnhkgodgjepaaDoor.Px
open Go.RowKit Go.Proofs.YtglnhkgodgjepaaDoorW.PrintWords Go.Proofs.YtglnhkgodgjepaaDoorW.PrintLast Go.Proofs.YtglnhkgodgjepaaDoorW.PrintMore
set_option linter.unusedVariables false
set_option linter.unusedSimpArgs false
def wU (n:Nat) (x:Int) (bs:List Int):Option (List Int):=if bs.length + n≤1048576∧0≤x∧x < 2 ^ (8 * n) then some (bs++beN n x) else none
def wI (n:Nat) (x:Int) (bs:List Int):Option (List Int):=if bs.length + n≤1048576∧(n≤7→x / 2 ^ (8 * n - 1)=0 ∨ x / 2 ^ (8 * n - 1)=-1) then some (bs++beN n x) else none
def wB (ys bs:List Int):Option (List Int):=if bs.length + ys.length≤1048576 then some (bs++ys) else none
theorem wU_some {n:Nat} {x:Int} {bs r:List Int} (h:wU n x bs=some r):(bs.length + n≤1048576∧0≤x∧x < 2 ^ (8 * n))∧bs++beN n x=r:=by
 unfold wU at h
 split at h
 ·rename_i hc;exact ⟨hc,Option.some.inj h⟩
 ·cases h
theorem wI_some {n:Nat} {x:Int} {bs r:List Int} (h:wI n x bs=some r):(bs.length + n≤1048576∧(n≤7→x / 2 ^ (8 * n - 1)=0 ∨ x / 2 ^ (8 * n - 1)=-1))∧bs++beN n x=r:=by
 unfold wI at h
 split at h
 ·rename_i hc;exact ⟨hc,Option.some.inj h⟩
 ·cases h
theorem wB_some {ys bs r:List Int} (h:wB ys bs=some r):bs.length + ys.length≤1048576∧bs++ys=r:=by
 unfold wB at h
 split at h
 ·rename_i hc;exact ⟨hc,Option.some.inj h⟩
 ·cases h
theorem wr_U {B g:Nat} {v:Value} {bs r:List Int} {x:Int} {n:Nat} {w:World} (hI:IsWr B w g v bs 1048576) (h1:1≤n) (h8:n≤8) (h:wU n x bs=some r) :
  Calls Tryd.prog 24 #[.pointer (some ⟨g,0,none⟩),.int .i64 n,.int .u64 x] w fun e w' => e=.returned (.int .i64 0)∧WrPost B w g v r 1048576 w':=by
 obtain ⟨⟨a,b,c⟩,rfl⟩:=wU_some h
 exact wr_Uint.calls B g v bs 1048576 x n w hI h1 h8 b c (by omega) (by omega)
theorem wr_I {B g:Nat} {v:Value} {bs r:List Int} {x:Int} {n:Nat} {w:World} (hI:IsWr B w g v bs 1048576) (h1:1≤n) (h8:n≤8) (h:wI n x bs=some r) :
  Calls Tryd.prog 27 #[.pointer (some ⟨g,0,none⟩),.int .i64 n,.int .i64 x] w fun e w' => e=.returned (.int .i64 0)∧WrPost B w g v r 1048576 w':=by
 obtain ⟨⟨a,b⟩,rfl⟩:=wI_some h
 exact wr_Int.calls B g v bs 1048576 x n w hI h1 h8 b (by omega) (by omega)
theorem wr_B {B g:Nat} {v:Value} {bs ys r:List Int} {A:Option Addr} {c:Nat} {w:World} (hI:IsWr B w g v bs 1048576) (hy:(Kd.int .u8).C w A ys.length ys) (h:wB ys bs=some r) :
  Calls Tryd.prog 26 #[.pointer (some ⟨g,0,none⟩),.slice A ys.length c] w fun e w' => e=.returned (.int .i64 0)∧WrPost B w g v r 1048576 w':=by
 obtain ⟨a,rfl⟩:=wB_some h
 exact wr_Bytes.calls B g v bs ys 1048576 A c w hI hy (by omega) (by omega)
def pool_Encode.one (k:Nat) (c:Cst) (bs:List Int):Option (List Int) :=
 (wU 1 c.f0 bs).bind fun b1 =>
  if c.f0=1 then (text_Encode.f k c.f1).bind fun t => (wU 2 (t.1.length:Int) b1).bind fun b2 => wB t.1 b2
  else if c.f0=3 then wI 4 c.f2 b1
  else if c.f0=5 then wI 8 c.f2 b1
  else (wU 2 c.f3 b1).bind fun b2 => if c.f0=7 then some b2 else wU 2 c.f4 b2
def pool_Encode.l0:Nat→List Cst→Nat→List Int→Option (List Int)
 | 0,_,_,_ => none
 | k + 1,p,i,bs => if i + 1 < p.length then (pool_Encode.one k (rd_T33 p (i + 1)) bs).bind fun b => pool_Encode.l0 k p (i + 1) b else if bs.length≤1048576 then some bs else none
def pool_Encode.f (k:Nat) (p:List Cst):Option (List Int × Int) :=
 (pool_Check.f k p).bind fun e => if e=0 then (if 0 < p.length∧p.length≤1024 then (wU 2 (p.length:Int) []).bind fun b0 => (pool_Encode.l0 k p 0 b0).bind fun b => some (b,0) else none) else some ([],e)
theorem pool_Encode.mono_one (k:Nat) (c:Cst) (bs:List Int):LeO (pool_Encode.one k c bs) (pool_Encode.one (k + 1) c bs):=by
 unfold pool_Encode.one
 refine LeO.bind (LeO.refl _) (fun _ => LeO.ite (LeO.bind (text_Encode.mono _ _) (fun _ => LeO.refl _)) (LeO.refl _))
theorem pool_Encode.mono_l:∀ k p i bs,LeO (pool_Encode.l0 k p i bs) (pool_Encode.l0 (k + 1) p i bs)
 | 0 => fun _ _ _ r h => by simp [pool_Encode.l0] at h
 | k + 1 => fun p i bs => by
  unfold pool_Encode.l0
  exact LeO.ite (LeO.bind (pool_Encode.mono_one _ _ _) (fun _ => pool_Encode.mono_l k _ _ _)) (LeO.refl _)
theorem pool_Encode.mono:∀ a0 k,LeO (pool_Encode.f k a0) (pool_Encode.f (k + 1) a0):=by
 intro a0 k
 unfold pool_Encode.f
 exact LeO.bind (pool_Check.mono _ _) (fun _ => LeO.ite (LeO.ite (LeO.bind (LeO.refl _) (fun _ => LeO.bind (pool_Encode.mono_l _ _ _ _) (fun _ => LeO.refl _))) (LeO.refl _)) (LeO.refl _))
set_option maxHeartbeats 80000000 in
set_option maxRecDepth 100000 in
theorem pool_Encode.calls (k:Nat) (A0:Option Addr) (c0:Nat) (p:List Cst) (r1:List Int) (r2:Int) (w:World) (hG:Aside0 (GG w)) (hr0:Kd.C k33 w A0 p.length p) (hc0:p.length≤c0) (h:pool_Encode.f k p=some (r1,r2)) :
  Calls Tryd.prog 14 #[.slice A0 p.length c0] w fun e w' => ∃ v0_:Value,e=.returned (.tuple #[v0_,.int .i64 r2])∧Kd.R (Kd.int .u8) 5 w' w.heap.size (fun _ => True) v0_ r1∧Below w.heap.size w w':=by
 unfold pool_Encode.f at h
 obtain ⟨e0,hE,h⟩:=Option.bind_eq_some_iff.mp h
 have HCk:=Aside0.mk (pool_Check.calls k A0 c0 p e0 w hG hr0 hc0 hE)
 have HR:=Aside0.mk hr0
 have HC:=Aside0.mk hc0
 clear hr0 hc0 hE
 by_cases he:e0=0
 ·rw [if_pos he] at h
  have heb:(e0 != 0)=false:=bne_eq_false_iff_eq.mpr he
  clear he
  by_cases hp:0 < p.length∧p.length≤1024
  ·rw [if_pos hp] at h
   obtain ⟨b0,hU,h⟩:=Option.bind_eq_some_iff.mp h
   obtain ⟨b,hL,h⟩:=Option.bind_eq_some_iff.mp h
   have H:=Option.some.inj h
   injection H with H1 H2
   subst H1
   subst H2
   have HU:=Aside0.mk hU
   have HL:=Aside0.mk hL
   have HP:=Aside0.mk hp
   obtain ⟨ad,ea,_⟩:=at_T33 HR.out 0 (by omega) (by omega)
   subst ea
   obtain ⟨i0,hi0,_,hsz,_⟩:=info_parts info33
   have hs1:=cut_from (P:=Tryd.prog) 22 33 .i64 Tryd.underlying22 hi0 5 hsz (some ad) p.length c0 1 (by decide) (by have:=HP.out;omega)
   obtain ⟨A1,hA1⟩:∃ A1,A1=(if c0=(1:Int).toNat then some ad else (some ad).map (·.add ((1:Int).toNat * 5))):=⟨_,rfl⟩
   rw [← hA1] at hs1
   have HD:=Aside0.mk (show Kd.C k33 w A1 (p.drop 1).length (p.drop 1) from by rw [hA1];exact Kd.C_drop (m:=1) (c:=c0) HR.out HP.out.1 HC.out)
   have hlp:(p.length:Int)≤1024:=by omega
   clear hA1 hU hL h hp
   go_enter Tryd.func14,Tryd.ntmps14
   go_wp2_with fail
   with_reducible refine HCk.out.mono ?_
   rintro e w1 ⟨rfl,hb1⟩
   have HB1:=Aside0.mk hb1
   clear hb1 HCk
   go_wp2_with fail
   refine (wr_New.calls 1048576 w1 (by decide) (by decide)).mono ?_
   rintro e w2 ⟨rfl,hI2,hb2⟩
   have HI2:=Aside0.mk hI2
   obtain ⟨g,hg⟩:∃ g,g=w1.heap.size:=⟨_,rfl⟩
   rw [← hg] at hI2 hb2 HI2
   rw [← hg]
   have HGG:=Aside0.mk hg
   have HB2:=Aside0.mk (show Below w1.heap.size w1 w2 from by rw [← hg];exact hb2)
   have HB2':=Aside0.mk (below_step HB1.out HB2.out)
   clear hg hI2 hb2
   go_wp2_with fail
   refine (wr_U (n:=2) HI2.out (by decide) (by decide) HU.out).mono ?_
   rintro e w3 ⟨rfl,v3,hI3,hS3⟩
   have HI3:=Aside0.mk hI3
   have HS3:=Aside0.mk hS3
   have HB3:=Aside0.mk (show Below w.heap.size w w3 from HB2'.out.trans (hS3.below.mono (by rw [HGG.out];exact HB1.out.size)))
   have HG1:=Aside0.mk (show w.heap.size≤g from by rw [HGG.out];exact HB1.out.size)
   clear hI3 hS3 HU
   go_wp2
   go_loopg [28] k (fun kq v28 w' => ∃ (i:Nat) (cur:List Int) (v:Value),v28=.int .i64 (i:Int)∧Aside0 (pool_Encode.l0 kq p i cur=some b)∧Aside0 (kq≤k)∧Aside0 (i + 1≤p.length)∧Aside0 (IsWr g w' g v cur 1048576)∧Aside0 (Below w.heap.size w w'))
   case atStart => exact ⟨0,_,_,rfl,HL,⟨Nat.le_refl _⟩,⟨HP.out.1⟩,HI3,HB3⟩
   case round =>
    obtain ⟨i,cur,vr,rfl,HA,HK,HI1,HI,HB⟩:=hrel
    cases gk with
    | zero => exact absurd HA.out (by simp [pool_Encode.l0])
    | succ k1 =>
    have H:=HA.out
    clear HA
    simp only [pool_Encode.l0] at H
    have hlen:(p.drop 1).length=p.length - 1:=List.length_drop
    by_cases hp:i + 1 < p.length
    ·rw [if_pos hp] at H
     have hpi:decide ((i:Int) < ((p.length - 1:Nat):Int))=true:=decide_eq_true (by omega)
     have hpn:decide (i < p.length - 1)=true:=decide_eq_true (by omega)
     have hpt:(i < p.length - 1)=True:=eq_true (by omega)
     have hge:(0≤(i:Int))=True:=eq_true (by omega)
     have hrd:rd_T33 p ((i:Int) + 1)=rd_T33 (p.drop 1) (i:Int):=by
      unfold rd_T33
      rw [Int.toNat_natCast,show ((i:Int) + 1).toNat=i + 1 by omega,List.getD_eq_getElem?_getD,List.getD_eq_getElem?_getD,List.getElem?_drop,Nat.add_comm]
     rw [hrd] at H
     obtain ⟨a1,ea,hx0,hx1,hx2,hx3,hx4⟩:=at_T33 (Kd.C_below HD.out HB.out) (i:Int) (by omega) (by omega)
     subst ea
     simp only [Int.toNat_natCast] at hx0 hx1 hx2 hx3 hx4
     obtain ⟨cc,hcc⟩:∃ cc,cc=rd_T33 (p.drop 1) (i:Int):=⟨_,rfl⟩
     rw [← hcc] at H hx0 hx1 hx2 hx3 hx4
     have HPI:=Aside0.mk (show i < 1024 from by omega)
     have hwi:wrap64 ((i:Int) + 1)=(i:Int) + 1:=by have:=HPI.out;unfold wrap64;omega
     clear hp hcc hrd
     obtain ⟨bn,hO,H⟩:=Option.bind_eq_some_iff.mp H
     have HN:=Aside0.mk H
     clear H
     unfold pool_Encode.one at hO
     obtain ⟨b1,hU1,hO⟩:=Option.bind_eq_some_iff.mp hO
     have HU1:=Aside0.mk hU1
     have hlo:=(wU_some hU1).1.2.1
     have hhi:cc.f0 < 256:=(wU_some hU1).1.2.2
     clear hU1
     have HBb:=Aside0.mk (below_alloc (Below.refl wr.heap.size wr) (.cells #[.int .i64 cc.f0,.string cc.f1,.int .i64 cc.f2,.int .i64 cc.f3,.int .i64 cc.f4] 33 (0,0)))
     have BK2:=Aside0.mk (blk_new wr (.cells #[.int .i64 cc.f0,.string cc.f1,.int .i64 cc.f2,.int .i64 cc.f3,.int .i64 cc.f4] 33 (0,0)))
     have HIa:=Aside0.mk (HI.out.below HBb.out)
     have HBa':=Aside0.mk (HB.out.trans (HBb.out.mono HB.out.size))
     have FRa:=Aside0.mk (HI.out.far_new (Nat.le_refl _) (blk_lt BK2.out))
     have BKa:=BK2
     have HBa:=HBa'
     clear BK2 HBb HBa'
     go_wp2_with fail
     refine (wr_U (n:=1) HIa.out (by decide) (by decide) HU1.out).mono ?_
     rintro e wb ⟨rfl,vb,hIb,hSb⟩
     have HIb:=Aside0.mk hIb
     have HBb:=Aside0.mk (HBa.out.trans (hSb.below.mono HG1.out))
     have BKb:=Aside0.mk (hSb.blk FRa.out BKa.out)
     have FRb:=Aside0.mk (hSb.far FRa.out)
     clear hIb hSb
     have hc0_b:wb.cell? ⟨wr.heap.size,0,none⟩=some (.int .i64 cc.f0):=(blk_cell BKb.out 0).trans rfl
     have hc1_b:wb.cell? ⟨wr.heap.size,1,none⟩=some (.string cc.f1):=(blk_cell BKb.out 1).trans rfl
     have hc2_b:wb.cell? ⟨wr.heap.size,2,none⟩=some (.int .i64 cc.f2):=(blk_cell BKb.out 2).trans rfl
     have hc3_b:wb.cell? ⟨wr.heap.size,3,none⟩=some (.int .i64 cc.f3):=(blk_cell BKb.out 3).trans rfl
     have hc4_b:wb.cell? ⟨wr.heap.size,4,none⟩=some (.int .i64 cc.f4):=(blk_cell BKb.out 4).trans rfl
     by_cases t1:cc.f0=1
     ·rw [if_pos t1] at hO
      obtain ⟨⟨tb,te⟩,hT,hO⟩:=Option.bind_eq_some_iff.mp hO
      obtain ⟨b2,hU2,hO⟩:=Option.bind_eq_some_iff.mp hO
      have q1:(cc.f0==1)=true:=beq_iff_eq.mpr t1
      have HT:=Aside0.mk hT
      have HU2:=Aside0.mk hU2
      have HW:=Aside0.mk hO
      have htl:(tb.length:Int) < 65536:=(wU_some hU2).1.2.2
      clear t1 hT hU2 hO
      go_wp2_with fail
      refine (text_Encode.calls k1 cc.f1 tb te _ ⟨GG.below hG.out HBb.out⟩ HT.out).mono ?_
      rintro e wt ⟨vt,rfl,hRt,hbt⟩
      obtain ⟨At,ct,hvt,hct,_⟩:=Kd.R_reads hRt
      subst hvt
      have HRt:=Aside0.mk hRt
      have HIt:=Aside0.mk (HIb.out.below hbt)
      have HBt:=Aside0.mk (below_step HBb.out hbt)
      have HF:=Aside0.mk (show ∀ k,wb.heap.size≤k→k < wt.heap.size→WrFar wt g vb k from fun k h1 h2 => HIb.out.far_new h1 h2)
      clear hRt hbt hc0_b hc1_b hc2_b hc3_b hc4_b
      go_wp2_with fail
      refine (wr_U (n:=2) HIt.out (by decide) (by decide) HU2.out).mono ?_
      rintro e wc ⟨rfl,vc,hIc,hSc⟩
      have HIc:=Aside0.mk hIc
      have HBc:=Aside0.mk (HBt.out.trans (hSc.below.mono HG1.out))
      have HRc:=Aside0.mk (hSc.R HRt.out HF.out)
      clear hIc hSc
      go_wp2_with fail
      refine (wr_B HIc.out (row_C HRc.out) HW.out).mono ?_
      rintro e wd ⟨rfl,vd,hId,hSd⟩
      have HId:=Aside0.mk hId
      have HBd:=Aside0.mk (HBc.out.trans (hSd.below.mono HG1.out))
      clear hId hSd
      go_wp2
      go_roundg k1
      case measure => have:=HK.out;omega
      case rel => exact ⟨i + 1,_,_,congrArg (Value.int .i64) (by omega),HN,⟨by have:=HK.out;omega⟩,⟨by have:=of_decide_eq_true hpn;omega⟩,HId,HBd⟩
     rw [if_neg t1] at hO
     have q1:(cc.f0==1)=false:=beq_eq_false_iff_ne.mpr t1
     by_cases t3:cc.f0=3
     ·rw [if_pos t3] at hO
      have q3:(cc.f0==3)=true:=beq_iff_eq.mpr t3
      have HW:=Aside0.mk hO
      clear t1 t3 hO
      go_wp2_with fail
      refine (wr_I (n:=4) HIb.out (by decide) (by decide) HW.out).mono ?_
      rintro e wc ⟨rfl,vc,hIc,hSc⟩
      have HIc:=Aside0.mk hIc
      have HBc:=Aside0.mk (HBb.out.trans (hSc.below.mono HG1.out))
      clear hIc hSc hc0_b hc1_b hc2_b hc3_b hc4_b
      go_wp2
      go_roundg k1
      case measure => have:=HK.out;omega
      case rel => exact ⟨i + 1,_,_,congrArg (Value.int .i64) (by omega),HN,⟨by have:=HK.out;omega⟩,⟨by have:=of_decide_eq_true hpn;omega⟩,HIc,HBc⟩
     rw [if_neg t3] at hO
     have q3:(cc.f0==3)=false:=beq_eq_false_iff_ne.mpr t3
     by_cases t5:cc.f0=5
     ·rw [if_pos t5] at hO
      have q5:(cc.f0==5)=true:=beq_iff_eq.mpr t5
      have HW:=Aside0.mk hO
      clear t1 t3 t5 hO
      go_wp2_with fail
      refine (wr_I (n:=8) HIb.out (by decide) (by decide) HW.out).mono ?_
      rintro e wc ⟨rfl,vc,hIc,hSc⟩
      have HIc:=Aside0.mk hIc
      have HBc:=Aside0.mk (HBb.out.trans (hSc.below.mono HG1.out))
      clear hIc hSc hc0_b hc1_b hc2_b hc3_b hc4_b
      go_wp2
      go_roundg k1
      case measure => have:=HK.out;omega
      case rel => exact ⟨i + 1,_,_,congrArg (Value.int .i64) (by omega),HN,⟨by have:=HK.out;omega⟩,⟨by have:=of_decide_eq_true hpn;omega⟩,HIc,HBc⟩
     rw [if_neg t5] at hO
     have q5:(cc.f0==5)=false:=beq_eq_false_iff_ne.mpr t5
     obtain ⟨b2,hU2,hO⟩:=Option.bind_eq_some_iff.mp hO
     have HU2:=Aside0.mk hU2
     have h20:=(wU_some hU2).1.2.1
     have h21:cc.f3 < 65536:=(wU_some hU2).1.2.2
     by_cases t7:cc.f0=7
     ·rw [if_pos t7] at hO
      obtain rfl:=Option.some.inj hO
      have q7:(cc.f0 != 7)=false:=bne_eq_false_iff_eq.mpr t7
      clear t1 t3 t5 t7 hO hU2
      go_wp2_with fail
      refine (wr_U (n:=2) HIb.out (by decide) (by decide) HU2.out).mono ?_
      rintro e wc ⟨rfl,vc,hIc,hSc⟩
      have HIc:=Aside0.mk hIc
      have HBc:=Aside0.mk (HBb.out.trans (hSc.below.mono HG1.out))
      have BKc:=Aside0.mk (hSc.blk FRb.out BKb.out)
      have FRc:=Aside0.mk (hSc.far FRb.out)
      clear hIc hSc hc0_b hc1_b hc2_b hc3_b hc4_b
      have hc0_c:wc.cell? ⟨wr.heap.size,0,none⟩=some (.int .i64 cc.f0):=(blk_cell BKc.out 0).trans rfl
      have hc1_c:wc.cell? ⟨wr.heap.size,1,none⟩=some (.string cc.f1):=(blk_cell BKc.out 1).trans rfl
      have hc2_c:wc.cell? ⟨wr.heap.size,2,none⟩=some (.int .i64 cc.f2):=(blk_cell BKc.out 2).trans rfl
      have hc3_c:wc.cell? ⟨wr.heap.size,3,none⟩=some (.int .i64 cc.f3):=(blk_cell BKc.out 3).trans rfl
      have hc4_c:wc.cell? ⟨wr.heap.size,4,none⟩=some (.int .i64 cc.f4):=(blk_cell BKc.out 4).trans rfl
      go_wp2
      go_roundg k1
      case measure => have:=HK.out;omega
      case rel => exact ⟨i + 1,_,_,congrArg (Value.int .i64) (by omega),HN,⟨by have:=HK.out;omega⟩,⟨by have:=of_decide_eq_true hpn;omega⟩,HIc,HBc⟩
     rw [if_neg t7] at hO
     have q7:(cc.f0 != 7)=true:=bne_iff_ne.mpr t7
     have HW:=Aside0.mk hO
     have h30:=(wU_some hO).1.2.1
     have h31:cc.f4 < 65536:=(wU_some hO).1.2.2
     clear t1 t3 t5 t7 hO hU2
     go_wp2_with fail
     refine (wr_U (n:=2) HIb.out (by decide) (by decide) HU2.out).mono ?_
     rintro e wc ⟨rfl,vc,hIc,hSc⟩
     have HIc:=Aside0.mk hIc
     have HBc:=Aside0.mk (HBb.out.trans (hSc.below.mono HG1.out))
     have BKc:=Aside0.mk (hSc.blk FRb.out BKb.out)
     have FRc:=Aside0.mk (hSc.far FRb.out)
     clear hIc hSc hc0_b hc1_b hc2_b hc3_b hc4_b
     have hc0_c:wc.cell? ⟨wr.heap.size,0,none⟩=some (.int .i64 cc.f0):=(blk_cell BKc.out 0).trans rfl
     have hc1_c:wc.cell? ⟨wr.heap.size,1,none⟩=some (.string cc.f1):=(blk_cell BKc.out 1).trans rfl
     have hc2_c:wc.cell? ⟨wr.heap.size,2,none⟩=some (.int .i64 cc.f2):=(blk_cell BKc.out 2).trans rfl
     have hc3_c:wc.cell? ⟨wr.heap.size,3,none⟩=some (.int .i64 cc.f3):=(blk_cell BKc.out 3).trans rfl
     have hc4_c:wc.cell? ⟨wr.heap.size,4,none⟩=some (.int .i64 cc.f4):=(blk_cell BKc.out 4).trans rfl
     go_wp2_with fail
     refine (wr_U (n:=2) HIc.out (by decide) (by decide) HW.out).mono ?_
     rintro e wd ⟨rfl,vd,hId,hSd⟩
     have HId:=Aside0.mk hId
     have HBd:=Aside0.mk (HBc.out.trans (hSd.below.mono HG1.out))
     clear hId hSd hc0_c hc1_c hc2_c hc3_c hc4_c
     go_wp2
     go_roundg k1
     case measure => have:=HK.out;omega
     case rel => exact ⟨i + 1,_,_,congrArg (Value.int .i64) (by omega),HN,⟨by have:=HK.out;omega⟩,⟨by have:=of_decide_eq_true hpn;omega⟩,HId,HBd⟩
    ·rw [if_neg hp] at H
     have hpi:decide ((i:Int) < ((p.length - 1:Nat):Int))=false:=decide_eq_false (by omega)
     have hpn:decide (i < p.length - 1)=false:=decide_eq_false (by omega)
     by_cases hl:cur.length≤1048576
     ·rw [if_pos hl] at H
      obtain rfl:=Option.some.inj H
      have HLn:=Aside0.mk hl
      clear hp H hl
      go_wp2_with fail
      refine (wr_Out.calls g g vr cur 1048576 _ HI.out HLn.out).mono ?_
      rintro e wo ⟨vo,rfl,hRo,hbo⟩
      have HRo:=Aside0.mk hRo
      have HBo:=Aside0.mk (below_step HB.out hbo)
      clear hRo hbo
      go_wp2
      go_ret2
      exact ⟨_,rfl,Kd.R_lower HRo.out HB.out.size,HBo.out⟩
     ·rw [if_neg hl] at H
      cases H
  ·rw [if_neg hp] at h
   cases h
 ·rw [if_neg he] at h
  have heb:(e0 != 0)=true:=bne_iff_ne.mpr he
  have H:=Option.some.inj h
  injection H with H1 H2
  subst H1
  subst H2
  clear he h
  go_enter Tryd.func14,Tryd.ntmps14
  go_wp2_with fail
  with_reducible refine HCk.out.mono ?_
  rintro e w1 ⟨rfl,hb1⟩
  have HB1:=Aside0.mk hb1
  clear hb1 HCk
  go_wp2
  go_ret2
  exact ⟨_,rfl,Kd.R_nil _ _ _ _ _,HB1.out⟩
end Go.Proofs.YtglnhkgodgjepaaDoor.Px
