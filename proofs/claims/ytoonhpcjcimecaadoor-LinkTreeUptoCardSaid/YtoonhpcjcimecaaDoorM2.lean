/- text.Encode: what the Go function computes, as a Lean function, and the walk of it; utf8.ValidString by the shelf's contract, text.split and text.unit by the printed contracts. -/
/- pool.check, pool.Check: what they compute, as Lean functions, and the walks; errors.As by the worked example's contracts. -/
/- Arithmetic of modified UTF-8: a unit's bytes. -/
/- Plain law of modified UTF-8: what a text's bytes are ('encL'), and that the program's Encode comes to them. -/
/- Plain law of a pool's places: does a place lead to a tag, and to which text. -/
/- Plain law of pool.Check: what the program's check comes to. -/
/- Words for wire's readers and writers. -/
/- The words of a class: its members, the names of its attributes (in place of class.Encode's text, where that is not reached). -/
import Derived.Test.YtoonhpcjcimecaaDoorM1
import Derived.Lib.OthersKept
import Derived.BigCall
import Derived.Shelf.Unicode.ValidAny
import Derived.Deep.CutBlock
import Derived.Deep.RegionHeld3
import Derived.Laws.BitsLemmas
import Derived.WalkKit
import Derived.Lib.ValidLaws
import Derived.Lib.DecodeN
import Derived.Lib.MapLaws
import Derived.Lib.Strings
namespace Go.Proofs.YtoonhpcjcimecaaDoor.Px
open Go.RowKit Go.Proofs.YtoonhpcjcimecaaDoorW.PrintWords Go.Proofs.YtoonhpcjcimecaaDoorW.PrintLast Go.Proofs.YtoonhpcjcimecaaDoorW.PrintMore
attribute [local go_sem] max2_int min2_int max_two min_two max_three min_three max_four min_four
set_option linter.unusedVariables false
set_option linter.unusedSimpArgs false
mutual
def pool_fields.j0:Nat→Int→Bool→Int→ByteArray→Int→Int→Int→Int→ByteArray→Int→Int→Int→Option (Int × ByteArray × Int × Int × Int)
 | 0,_,_,_,_,_,_,_,_,_,_,_,_ => none
 | k + 1,x8,x11,x148000,x148001,x148002,x148003,x148004,x150000,x150001,x150002,x150003,x150004 => if x11=true then (some (x150000,x150001,x148002,x150003,x150004)) else (if x8=9 then (pool_fields.j1 k x8 (x8==9) x148000 x148001 x148002 x148003 x148004 x150000 x150001 x150002 x150003 x150004) else (if x8=10 then (pool_fields.j1 k x8 (x8==10) x148000 x148001 x148002 x148003 x148004 x150000 x150001 x150002 x150003 x150004) else (pool_fields.j1 k x8 (x8==12) x148000 x148001 x148002 x148003 x148004 x150000 x150001 x150002 x150003 x150004)))
def pool_fields.j1:Nat→Int→Bool→Int→ByteArray→Int→Int→Int→Int→ByteArray→Int→Int→Int→Option (Int × ByteArray × Int × Int × Int)
 | 0,_,_,_,_,_,_,_,_,_,_,_,_ => none
 | k + 1,x8,x14,x148000,x148001,x148002,x148003,x148004,x150000,x150001,x150002,x150003,x150004 => if x14=true then (some (x150000,x150001,x150002,x148003,x148004)) else (if x8=7 then (some (x150000,x150001,x150002,x148003,x150004)) else (some (x150000,x150001,x150002,x150003,x150004)))
end
def pool_fields.f (k:Nat) (a0_0:Int) (a0_1:ByteArray) (a0_2:Int) (a0_3:Int) (a0_4:Int):Option (Int × ByteArray × Int × Int × Int):=if a0_0=1 then (some (a0_0,a0_1,0,0,0)) else (if a0_0=3 then (pool_fields.j0 k a0_0 (a0_0==3) a0_0 a0_1 a0_2 a0_3 a0_4 a0_0 (⟨#[]⟩:ByteArray) 0 0 0) else (pool_fields.j0 k a0_0 (a0_0==5) a0_0 a0_1 a0_2 a0_3 a0_4 a0_0 (⟨#[]⟩:ByteArray) 0 0 0))
theorem pool_fields.mono_l:∀ k,(∀ y0 y1 y2 y3 y4 y5 y6 y7 y8 y9 y10 y11,LeO (pool_fields.j0 k y0 y1 y2 y3 y4 y5 y6 y7 y8 y9 y10 y11) (pool_fields.j0 (k + 1) y0 y1 y2 y3 y4 y5 y6 y7 y8 y9 y10 y11))∧(∀ y0 y1 y2 y3 y4 y5 y6 y7 y8 y9 y10 y11,LeO (pool_fields.j1 k y0 y1 y2 y3 y4 y5 y6 y7 y8 y9 y10 y11) (pool_fields.j1 (k + 1) y0 y1 y2 y3 y4 y5 y6 y7 y8 y9 y10 y11))
 | 0 => ⟨fun _ _ _ _ _ _ _ _ _ _ _ _ r h => by simp [pool_fields.j0] at h,fun _ _ _ _ _ _ _ _ _ _ _ _ r h => by simp [pool_fields.j1] at h⟩
 | k + 1 => by
  obtain ⟨ih0,ih1⟩:=pool_fields.mono_l k
  refine ⟨?_,?_⟩
  ·intro y0 y1 y2 y3 y4 y5 y6 y7 y8 y9 y10 y11
   unfold pool_fields.j0
   repeat' first
   | (with_reducible exact ih0 _ _ _ _ _ _ _ _ _ _ _ _)
   | (with_reducible exact ih1 _ _ _ _ _ _ _ _ _ _ _ _)
   | (with_reducible exact LeO.refl _)
   | (with_reducible exact LeO.none _)
   | (with_reducible refine LeO.ite ?_ ?_)
   | (with_reducible refine LeO.bind ?_ (fun _ => ?_))
   | exact ih0 _ _ _ _ _ _ _ _ _ _ _ _
   | exact ih1 _ _ _ _ _ _ _ _ _ _ _ _
   | exact LeO.none _
   | refine LeO.ite ?_ ?_
   | refine LeO.bind ?_ (fun _ => ?_)
  ·intro y0 y1 y2 y3 y4 y5 y6 y7 y8 y9 y10 y11
   unfold pool_fields.j1
   repeat' first
   | (with_reducible exact ih0 _ _ _ _ _ _ _ _ _ _ _ _)
   | (with_reducible exact ih1 _ _ _ _ _ _ _ _ _ _ _ _)
   | (with_reducible exact LeO.refl _)
   | (with_reducible exact LeO.none _)
   | (with_reducible refine LeO.ite ?_ ?_)
   | (with_reducible refine LeO.bind ?_ (fun _ => ?_))
   | exact ih0 _ _ _ _ _ _ _ _ _ _ _ _
   | exact ih1 _ _ _ _ _ _ _ _ _ _ _ _
   | exact LeO.none _
   | refine LeO.ite ?_ ?_
   | refine LeO.bind ?_ (fun _ => ?_)
theorem pool_fields.mono:∀ a0 a1 a2 a3 a4 k,LeO (pool_fields.f k a0 a1 a2 a3 a4) (pool_fields.f (k + 1) a0 a1 a2 a3 a4):=by
 intro a0 a1 a2 a3 a4 k
 obtain ⟨ih0,ih1⟩:=pool_fields.mono_l k
 unfold pool_fields.f
 repeat' first
   | (with_reducible exact ih0 _ _ _ _ _ _ _ _ _ _ _ _)
   | (with_reducible exact ih1 _ _ _ _ _ _ _ _ _ _ _ _)
   | (with_reducible exact LeO.refl _)
   | (with_reducible exact LeO.none _)
   | (with_reducible refine LeO.ite ?_ ?_)
   | (with_reducible refine LeO.bind ?_ (fun _ => ?_))
   | exact ih0 _ _ _ _ _ _ _ _ _ _ _ _
   | exact ih1 _ _ _ _ _ _ _ _ _ _ _ _
   | exact LeO.none _
   | refine LeO.ite ?_ ?_
   | refine LeO.bind ?_ (fun _ => ?_)
set_option maxHeartbeats 80000000 in
set_option maxRecDepth 100000 in
theorem pool_fields.calls (k:Nat) (a0_0:Int) (a0_1:ByteArray) (a0_2:Int) (a0_3:Int) (a0_4:Int) (r1:Int) (r2:ByteArray) (r3:Int) (r4:Int) (r5:Int) (w:World) (h:pool_fields.f k a0_0 a0_1 a0_2 a0_3 a0_4=some (r1,r2,r3,r4,r5)) :
  Calls Tryd.prog 58 #[.agg #[.int .i64 a0_0,.string a0_1,.int .i64 a0_2,.int .i64 a0_3,.int .i64 a0_4]] w fun e w' => e=.returned (.agg #[.int .i64 r1,.string r2,.int .i64 r3,.int .i64 r4,.int .i64 r5])∧Below w.heap.size w w':=by
 have hu108:=Tryd.underlying108
 have HB:=Aside0.mk (Below.refl w.heap.size w)
 have H:(if a0_0=1 then (some (a0_0,a0_1,0,0,0)) else (if a0_0=3 then (pool_fields.j0 k a0_0 (a0_0==3) a0_0 a0_1 a0_2 a0_3 a0_4 a0_0 (⟨#[]⟩:ByteArray) 0 0 0) else (pool_fields.j0 k a0_0 (a0_0==5) a0_0 a0_1 a0_2 a0_3 a0_4 a0_0 (⟨#[]⟩:ByteArray) 0 0 0)))=some (r1,r2,r3,r4,r5):=h
 clear h
 by_cases c2:a0_0=1
 ·rw [if_pos c2] at H
  have c2b0:(a0_0==1)=true:=beq_iff_eq.mpr c2
  have c2b1:(a0_0 != 1)=false:=bne_eq_false_iff_eq.mpr c2
  clear c2
  simp only [Option.some.injEq,Prod.mk.injEq] at H
  obtain ⟨rfl,rfl,rfl,rfl,rfl⟩:=H
  go_enter Tryd.func58,Tryd.ntmps58
  go_wp2_with (first|((with_reducible refine gate_dst (N:=1) rfl ?_);refine box_event ?hg (N:=1) ?hd (cs:=#[.int .i64 a0_0,.string a0_1,.int .i64 a0_2,.int .i64 a0_3,.int .i64 a0_4]) (t:=108) ?hr ?_;(case hd => rfl);(case hg => rfl);(case hr => first|(go_simp;done)|(go_simp;rfl));intro gb147 hg w3 hbox hb;have n0_:=Aside0.mk (below_step bl_ hb);have n1_:=Aside0.mk (hbox);have n2_:=Aside0.mk ((by rw [hg];exact (below_size bl_):w.heap.size≤gb147));have n3_:=Aside0.mk ((by rw [hg];exact (below_size bl_):w.heap.size≤gb147));clear HB;have HB:=n0_;have BK147:=n1_;have GW147:=n2_;have GE147:=n3_;clear n0_ n1_ n2_ n3_;clear hb hbox hg)|((with_reducible refine gate_dst (N:=2) rfl ?_);refine box_event ?hg (N:=2) ?hd (cs:=#[.int .i64 0,.string (⟨#[]⟩:ByteArray),.int .i64 0,.int .i64 0,.int .i64 0]) (t:=108) ?hr ?_;(case hd => rfl);(case hg => rfl);(case hr => first|(go_simp;done)|(go_simp;rfl));intro gb148 hg w4 hbox hb;have n0_:=Aside0.mk (blk_below (g:=gb147) (o:=.cells #[.int .i64 a0_0,.string a0_1,.int .i64 a0_2,.int .i64 a0_3,.int .i64 a0_4] 108 (0,0)) bk_ hb);have n1_:=Aside0.mk (below_step bl_ hb);have n2_:=Aside0.mk (hbox);have n3_:=Aside0.mk ((by rw [hg];exact (below_size bl_):w.heap.size≤gb148));have n4_:=Aside0.mk ((by rw [hg];exact (below_size bl_):w.heap.size≤gb148));have n5_:=Aside0.mk ((by rw [hg];exact Nat.ne_of_lt (blk_lt (g:=gb147) (o:=.cells #[.int .i64 a0_0,.string a0_1,.int .i64 a0_2,.int .i64 a0_3,.int .i64 a0_4] 108 (0,0)) bk_):gb147 ≠ gb148));have n6_:=Aside0.mk ((by rw [hg];exact Nat.ne_of_gt (blk_lt (g:=gb147) (o:=.cells #[.int .i64 a0_0,.string a0_1,.int .i64 a0_2,.int .i64 a0_3,.int .i64 a0_4] 108 (0,0)) bk_):gb148 ≠ gb147));clear BK147;clear HB;have BK147:=n0_;have HB:=n1_;have BK148:=n2_;have GW148:=n3_;have GE148:=n4_;have NB147_148:=n5_;have NB148_147:=n6_;clear n0_ n1_ n2_ n3_ n4_ n5_ n6_;clear hb hbox hg;have hnb5:=NB147_148.out;have hnc5:=NB148_147.out;obtain ⟨hcz6_0,hcz6_1,hcz6_2,hcz6_3,hcz6_4,hfz6_0,hfz6_1,hfz6_2,hfz6_3,hfz6_4⟩:=blk5_ BK147.out)|((with_reducible refine gate_dst (N:=3) rfl ?_);refine box_event ?hg (N:=3) ?hd (cs:=#[.int .i64 0,.string (⟨#[]⟩:ByteArray),.int .i64 0,.int .i64 0,.int .i64 0]) (t:=108) ?hr ?_;(case hd => rfl);(case hg => rfl);(case hr => first|(go_simp;done)|(go_simp;rfl));intro gb149 hg w7 hbox hb;have n0_:=Aside0.mk (blk_below (g:=gb147) (o:=.cells #[.int .i64 a0_0,.string a0_1,.int .i64 a0_2,.int .i64 a0_3,.int .i64 a0_4] 108 (0,0)) bk_ hb);have n1_:=Aside0.mk (blk_below (g:=gb148) (o:=.cells #[.int .i64 0,.string (⟨#[]⟩:ByteArray),.int .i64 0,.int .i64 0,.int .i64 0] 108 (0,0)) bk_ hb);have n2_:=Aside0.mk (below_step bl_ hb);have n3_:=Aside0.mk (hbox);have n4_:=Aside0.mk ((by rw [hg];exact (below_size bl_):w.heap.size≤gb149));have n5_:=Aside0.mk ((by rw [hg];exact (below_size bl_):w.heap.size≤gb149));have n6_:=Aside0.mk ((by rw [hg];exact Nat.ne_of_lt (blk_lt (g:=gb147) (o:=.cells #[.int .i64 a0_0,.string a0_1,.int .i64 a0_2,.int .i64 a0_3,.int .i64 a0_4] 108 (0,0)) bk_):gb147 ≠ gb149));have n7_:=Aside0.mk ((by rw [hg];exact Nat.ne_of_gt (blk_lt (g:=gb147) (o:=.cells #[.int .i64 a0_0,.string a0_1,.int .i64 a0_2,.int .i64 a0_3,.int .i64 a0_4] 108 (0,0)) bk_):gb149 ≠ gb147));have n8_:=Aside0.mk ((by rw [hg];exact Nat.ne_of_lt (blk_lt (g:=gb148) (o:=.cells #[.int .i64 0,.string (⟨#[]⟩:ByteArray),.int .i64 0,.int .i64 0,.int .i64 0] 108 (0,0)) bk_):gb148 ≠ gb149));have n9_:=Aside0.mk ((by rw [hg];exact Nat.ne_of_gt (blk_lt (g:=gb148) (o:=.cells #[.int .i64 0,.string (⟨#[]⟩:ByteArray),.int .i64 0,.int .i64 0,.int .i64 0] 108 (0,0)) bk_):gb149 ≠ gb148));clear BK147;clear BK148;clear HB;have BK147:=n0_;have BK148:=n1_;have HB:=n2_;have BK149:=n3_;have GW149:=n4_;have GE149:=n5_;have NB147_149:=n6_;have NB149_147:=n7_;have NB148_149:=n8_;have NB149_148:=n9_;clear n0_ n1_ n2_ n3_ n4_ n5_ n6_ n7_ n8_ n9_;clear hb hbox hg;have hnb8:=NB149_147.out;have hnc8:=NB147_149.out;have hnb9:=NB149_148.out;have hnc9:=NB148_149.out;obtain ⟨hcz10_0,hcz10_1,hcz10_2,hcz10_3,hcz10_4,hfz10_0,hfz10_1,hfz10_2,hfz10_3,hfz10_4⟩:=blk5_ BK149.out)|((with_reducible refine gate_store (t:=108) (p:=3) rfl ?_);refine store_event (t:=108) (p:=3) (v:=?vo_w11) (w1:=(((((w7.setCell ⟨gb149,0,none⟩ (.int .i64 a0_0)).setCell ⟨gb149,1,none⟩ (.string (⟨#[]⟩:ByteArray))).setCell ⟨gb149,2,none⟩ (.int .i64 0)).setCell ⟨gb149,3,none⟩ (.int .i64 0)).setCell ⟨gb149,4,none⟩ (.int .i64 0))) ?hg ?ho ?hn ?hr ?_;(case ho => rfl);(case hg => rfl);(case hn => rfl);(case hr => first|(go_simp;done)|(go_simp;rfl));intro w11 hw;have n0_:Aside0 (w11.heap[gb147]?=some (.cells #[.int .i64 a0_0,.string a0_1,.int .i64 a0_2,.int .i64 a0_3,.int .i64 a0_4] 108 (0,0))):=⟨(by rw [hw];exact bk_)⟩;have n1_:Aside0 (w11.heap[gb148]?=some (.cells #[.int .i64 0,.string (⟨#[]⟩:ByteArray),.int .i64 0,.int .i64 0,.int .i64 0] 108 (0,0))):=⟨(by rw [hw];exact bk_)⟩;have n2_:Aside0 (w11.heap[gb149]?=some (.cells #[.int .i64 a0_0,.string (⟨#[]⟩:ByteArray),.int .i64 0,.int .i64 0,.int .i64 0] 108 (0,0))):=⟨(by rw [hw];exact (st5_ BK149.out))⟩;have n3_:Aside0 (Below w.heap.size w w11):=⟨(by rw [hw];exact bl_)⟩;clear hw;clear BK147;clear BK148;clear BK149;clear HB;have BK147:=n0_;have BK148:=n1_;have BK149:=n2_;have HB:=n3_;clear n0_ n1_ n2_ n3_;obtain ⟨hcz12_0,hcz12_1,hcz12_2,hcz12_3,hcz12_4,hfz12_0,hfz12_1,hfz12_2,hfz12_3,hfz12_4⟩:=blk5_ BK147.out;obtain ⟨hcz13_0,hcz13_1,hcz13_2,hcz13_3,hcz13_4,hfz13_0,hfz13_1,hfz13_2,hfz13_3,hfz13_4⟩:=blk5_ BK149.out;obtain ⟨hcz14_0,hcz14_1,hcz14_2,hcz14_3,hcz14_4,hfz14_0,hfz14_1,hfz14_2,hfz14_3,hfz14_4⟩:=blk5_ BK148.out)|((with_reducible refine gate_store (t:=108) (p:=2) rfl ?_);refine store_event (t:=108) (p:=2) (v:=?vo_w15) (w1:=((((((w11.setCell ⟨gb149,1,none⟩ (.string a0_1)).setCell ⟨gb148,0,none⟩ (.int .i64 a0_0)).setCell ⟨gb148,1,none⟩ (.string a0_1)).setCell ⟨gb148,2,none⟩ (.int .i64 0)).setCell ⟨gb148,3,none⟩ (.int .i64 0)).setCell ⟨gb148,4,none⟩ (.int .i64 0))) ?hg ?ho ?hn ?hr ?_;(case ho => rfl);(case hg => rfl);(case hn => rfl);(case hr => first|(go_simp;done)|(go_simp;rfl));intro w15 hw;have n0_:Aside0 (w15.heap[gb147]?=some (.cells #[.int .i64 a0_0,.string a0_1,.int .i64 a0_2,.int .i64 a0_3,.int .i64 a0_4] 108 (0,0))):=⟨(by rw [hw];exact bk_)⟩;have n1_:Aside0 (w15.heap[gb148]?=some (.cells #[.int .i64 a0_0,.string a0_1,.int .i64 0,.int .i64 0,.int .i64 0] 108 (0,0))):=⟨(by rw [hw];exact (by (with_reducible repeat (first|refine blk_drewN ?_ _|refine blk_drew ?_|refine blk_alloc ?_ _));refine blk_put (cs:=#[.int .i64 a0_0,.string a0_1,.int .i64 0,.int .i64 0,.int .i64 0]) ?_ 4 _ rfl;(with_reducible repeat (first|refine blk_drewN ?_ _|refine blk_drew ?_|refine blk_alloc ?_ _));refine blk_put (cs:=#[.int .i64 a0_0,.string a0_1,.int .i64 0,.int .i64 0,.int .i64 0]) ?_ 3 _ rfl;(with_reducible repeat (first|refine blk_drewN ?_ _|refine blk_drew ?_|refine blk_alloc ?_ _));refine blk_put (cs:=#[.int .i64 a0_0,.string a0_1,.int .i64 0,.int .i64 0,.int .i64 0]) ?_ 2 _ rfl;(with_reducible repeat (first|refine blk_drewN ?_ _|refine blk_drew ?_|refine blk_alloc ?_ _));refine blk_put (cs:=#[.int .i64 a0_0,.string (⟨#[]⟩:ByteArray),.int .i64 0,.int .i64 0,.int .i64 0]) ?_ 1 _ rfl;(with_reducible repeat (first|refine blk_drewN ?_ _|refine blk_drew ?_|refine blk_alloc ?_ _));refine blk_put (cs:=#[.int .i64 0,.string (⟨#[]⟩:ByteArray),.int .i64 0,.int .i64 0,.int .i64 0]) ?_ 0 _ rfl;(with_reducible repeat (first|refine blk_drewN ?_ _|refine blk_drew ?_|refine blk_alloc ?_ _));refine blk_far ?_ NB148_149.out _;(with_reducible repeat (first|refine blk_drewN ?_ _|refine blk_drew ?_|refine blk_alloc ?_ _));exact BK148.out))⟩;have n2_:Aside0 (w15.heap[gb149]?=some (.cells #[.int .i64 a0_0,.string a0_1,.int .i64 0,.int .i64 0,.int .i64 0] 108 (0,0))):=⟨(by rw [hw];exact (by (with_reducible repeat (first|refine blk_drewN ?_ _|refine blk_drew ?_|refine blk_alloc ?_ _));refine blk_far ?_ NB149_148.out _;(with_reducible repeat (first|refine blk_drewN ?_ _|refine blk_drew ?_|refine blk_alloc ?_ _));refine blk_far ?_ NB149_148.out _;(with_reducible repeat (first|refine blk_drewN ?_ _|refine blk_drew ?_|refine blk_alloc ?_ _));refine blk_far ?_ NB149_148.out _;(with_reducible repeat (first|refine blk_drewN ?_ _|refine blk_drew ?_|refine blk_alloc ?_ _));refine blk_far ?_ NB149_148.out _;(with_reducible repeat (first|refine blk_drewN ?_ _|refine blk_drew ?_|refine blk_alloc ?_ _));refine blk_far ?_ NB149_148.out _;(with_reducible repeat (first|refine blk_drewN ?_ _|refine blk_drew ?_|refine blk_alloc ?_ _));refine blk_put (cs:=#[.int .i64 a0_0,.string (⟨#[]⟩:ByteArray),.int .i64 0,.int .i64 0,.int .i64 0]) ?_ 1 _ rfl;(with_reducible repeat (first|refine blk_drewN ?_ _|refine blk_drew ?_|refine blk_alloc ?_ _));exact BK149.out))⟩;have n3_:Aside0 (Below w.heap.size w w15):=⟨(by rw [hw];exact bl_)⟩;clear hw;clear BK147;clear BK148;clear BK149;clear HB;have BK147:=n0_;have BK148:=n1_;have BK149:=n2_;have HB:=n3_;clear n0_ n1_ n2_ n3_))
  refine bodyPost_ret (results_cell_row rfl _ _ gb148 108 #[.int .i64 a0_0,.string a0_1,.int .i64 0,.int .i64 0,.int .i64 0] (0,0) _ rfl bk_ Tryd.underlying108 rfl (by kernel_rfl)) rfl ?_
  exact ⟨ew_,bl_⟩
 ·rw [if_neg c2] at H
  have c2b0:(a0_0==1)=false:=beq_eq_false_iff_ne.mpr c2
  have c2b1:(a0_0 != 1)=true:=bne_iff_ne.mpr c2
  have HC16:=Aside0.mk H
  clear H
  go_enter Tryd.func58,Tryd.ntmps58
  go_upto_if 11 with (first|((with_reducible refine gate_dst (N:=1) rfl ?_);refine box_event ?hg (N:=1) ?hd (cs:=#[.int .i64 a0_0,.string a0_1,.int .i64 a0_2,.int .i64 a0_3,.int .i64 a0_4]) (t:=108) ?hr ?_;(case hd => rfl);(case hg => rfl);(case hr => first|(go_simp;done)|(go_simp;rfl));intro gb147 hg w17 hbox hb;have n0_:=Aside0.mk (below_step bl_ hb);have n1_:=Aside0.mk (hbox);have n2_:=Aside0.mk ((by rw [hg];exact (below_size bl_):w.heap.size≤gb147));have n3_:=Aside0.mk ((by rw [hg];exact (below_size bl_):w.heap.size≤gb147));clear HB;have HB:=n0_;have BK147:=n1_;have GW147:=n2_;have GE147:=n3_;clear n0_ n1_ n2_ n3_;clear hb hbox hg)|((with_reducible refine gate_dst (N:=2) rfl ?_);refine box_event ?hg (N:=2) ?hd (cs:=#[.int .i64 0,.string (⟨#[]⟩:ByteArray),.int .i64 0,.int .i64 0,.int .i64 0]) (t:=108) ?hr ?_;(case hd => rfl);(case hg => rfl);(case hr => first|(go_simp;done)|(go_simp;rfl));intro gb148 hg w18 hbox hb;have n0_:=Aside0.mk (blk_below (g:=gb147) (o:=.cells #[.int .i64 a0_0,.string a0_1,.int .i64 a0_2,.int .i64 a0_3,.int .i64 a0_4] 108 (0,0)) bk_ hb);have n1_:=Aside0.mk (below_step bl_ hb);have n2_:=Aside0.mk (hbox);have n3_:=Aside0.mk ((by rw [hg];exact (below_size bl_):w.heap.size≤gb148));have n4_:=Aside0.mk ((by rw [hg];exact (below_size bl_):w.heap.size≤gb148));have n5_:=Aside0.mk ((by rw [hg];exact Nat.ne_of_lt (blk_lt (g:=gb147) (o:=.cells #[.int .i64 a0_0,.string a0_1,.int .i64 a0_2,.int .i64 a0_3,.int .i64 a0_4] 108 (0,0)) bk_):gb147 ≠ gb148));have n6_:=Aside0.mk ((by rw [hg];exact Nat.ne_of_gt (blk_lt (g:=gb147) (o:=.cells #[.int .i64 a0_0,.string a0_1,.int .i64 a0_2,.int .i64 a0_3,.int .i64 a0_4] 108 (0,0)) bk_):gb148 ≠ gb147));clear BK147;clear HB;have BK147:=n0_;have HB:=n1_;have BK148:=n2_;have GW148:=n3_;have GE148:=n4_;have NB147_148:=n5_;have NB148_147:=n6_;clear n0_ n1_ n2_ n3_ n4_ n5_ n6_;clear hb hbox hg;have hnb19:=NB147_148.out;have hnc19:=NB148_147.out;obtain ⟨hcz20_0,hcz20_1,hcz20_2,hcz20_3,hcz20_4,hfz20_0,hfz20_1,hfz20_2,hfz20_3,hfz20_4⟩:=blk5_ BK147.out)|((with_reducible refine gate_dst (N:=3) rfl ?_);refine box_event ?hg (N:=3) ?hd (cs:=#[.int .i64 0,.string (⟨#[]⟩:ByteArray),.int .i64 0,.int .i64 0,.int .i64 0]) (t:=108) ?hr ?_;(case hd => rfl);(case hg => rfl);(case hr => first|(go_simp;done)|(go_simp;rfl));intro gb149 hg w21 hbox hb;have n0_:=Aside0.mk (blk_below (g:=gb147) (o:=.cells #[.int .i64 a0_0,.string a0_1,.int .i64 a0_2,.int .i64 a0_3,.int .i64 a0_4] 108 (0,0)) bk_ hb);have n1_:=Aside0.mk (blk_below (g:=gb148) (o:=.cells #[.int .i64 0,.string (⟨#[]⟩:ByteArray),.int .i64 0,.int .i64 0,.int .i64 0] 108 (0,0)) bk_ hb);have n2_:=Aside0.mk (below_step bl_ hb);have n3_:=Aside0.mk (hbox);have n4_:=Aside0.mk ((by rw [hg];exact (below_size bl_):w.heap.size≤gb149));have n5_:=Aside0.mk ((by rw [hg];exact (below_size bl_):w.heap.size≤gb149));have n6_:=Aside0.mk ((by rw [hg];exact Nat.ne_of_lt (blk_lt (g:=gb147) (o:=.cells #[.int .i64 a0_0,.string a0_1,.int .i64 a0_2,.int .i64 a0_3,.int .i64 a0_4] 108 (0,0)) bk_):gb147 ≠ gb149));have n7_:=Aside0.mk ((by rw [hg];exact Nat.ne_of_gt (blk_lt (g:=gb147) (o:=.cells #[.int .i64 a0_0,.string a0_1,.int .i64 a0_2,.int .i64 a0_3,.int .i64 a0_4] 108 (0,0)) bk_):gb149 ≠ gb147));have n8_:=Aside0.mk ((by rw [hg];exact Nat.ne_of_lt (blk_lt (g:=gb148) (o:=.cells #[.int .i64 0,.string (⟨#[]⟩:ByteArray),.int .i64 0,.int .i64 0,.int .i64 0] 108 (0,0)) bk_):gb148 ≠ gb149));have n9_:=Aside0.mk ((by rw [hg];exact Nat.ne_of_gt (blk_lt (g:=gb148) (o:=.cells #[.int .i64 0,.string (⟨#[]⟩:ByteArray),.int .i64 0,.int .i64 0,.int .i64 0] 108 (0,0)) bk_):gb149 ≠ gb148));clear BK147;clear BK148;clear HB;have BK147:=n0_;have BK148:=n1_;have HB:=n2_;have BK149:=n3_;have GW149:=n4_;have GE149:=n5_;have NB147_149:=n6_;have NB149_147:=n7_;have NB148_149:=n8_;have NB149_148:=n9_;clear n0_ n1_ n2_ n3_ n4_ n5_ n6_ n7_ n8_ n9_;clear hb hbox hg;have hnb22:=NB149_147.out;have hnc22:=NB147_149.out;have hnb23:=NB149_148.out;have hnc23:=NB148_149.out;obtain ⟨hcz24_0,hcz24_1,hcz24_2,hcz24_3,hcz24_4,hfz24_0,hfz24_1,hfz24_2,hfz24_3,hfz24_4⟩:=blk5_ BK149.out)|((with_reducible refine gate_store (t:=108) (p:=3) rfl ?_);refine store_event (t:=108) (p:=3) (v:=?vo_w25) (w1:=(((((w21.setCell ⟨gb149,0,none⟩ (.int .i64 a0_0)).setCell ⟨gb149,1,none⟩ (.string (⟨#[]⟩:ByteArray))).setCell ⟨gb149,2,none⟩ (.int .i64 0)).setCell ⟨gb149,3,none⟩ (.int .i64 0)).setCell ⟨gb149,4,none⟩ (.int .i64 0))) ?hg ?ho ?hn ?hr ?_;(case ho => rfl);(case hg => rfl);(case hn => rfl);(case hr => first|(go_simp;done)|(go_simp;rfl));intro w25 hw;have n0_:Aside0 (w25.heap[gb147]?=some (.cells #[.int .i64 a0_0,.string a0_1,.int .i64 a0_2,.int .i64 a0_3,.int .i64 a0_4] 108 (0,0))):=⟨(by rw [hw];exact bk_)⟩;have n1_:Aside0 (w25.heap[gb148]?=some (.cells #[.int .i64 0,.string (⟨#[]⟩:ByteArray),.int .i64 0,.int .i64 0,.int .i64 0] 108 (0,0))):=⟨(by rw [hw];exact bk_)⟩;have n2_:Aside0 (w25.heap[gb149]?=some (.cells #[.int .i64 a0_0,.string (⟨#[]⟩:ByteArray),.int .i64 0,.int .i64 0,.int .i64 0] 108 (0,0))):=⟨(by rw [hw];exact (st5_ BK149.out))⟩;have n3_:Aside0 (Below w.heap.size w w25):=⟨(by rw [hw];exact bl_)⟩;clear hw;clear BK147;clear BK148;clear BK149;clear HB;have BK147:=n0_;have BK148:=n1_;have BK149:=n2_;have HB:=n3_;clear n0_ n1_ n2_ n3_;obtain ⟨hcz26_0,hcz26_1,hcz26_2,hcz26_3,hcz26_4,hfz26_0,hfz26_1,hfz26_2,hfz26_3,hfz26_4⟩:=blk5_ BK147.out))
  (try simp only [Act.put,List.setIfInBounds_toArray,List.set_cons_zero,List.set_cons_succ])
  go_cut [11] (fun v11 wc => ∃ (kq:Nat) (x11_15:Bool),v11=.bool x11_15∧Aside0 (pool_fields.j0 kq a0_0 x11_15 a0_0 a0_1 a0_2 a0_3 a0_4 a0_0 (⟨#[]⟩:ByteArray) 0 0 0=some (r1,r2,r3,r4,r5))∧Aside0 (kq≤k)∧Aside0 (wc.heap[gb147]?=some (.cells #[.int .i64 a0_0,.string a0_1,.int .i64 a0_2,.int .i64 a0_3,.int .i64 a0_4] 108 (0,0)))∧Aside0 (wc.heap[gb148]?=some (.cells #[.int .i64 0,.string (⟨#[]⟩:ByteArray),.int .i64 0,.int .i64 0,.int .i64 0] 108 (0,0)))∧Aside0 (wc.heap[gb149]?=some (.cells #[.int .i64 a0_0,.string (⟨#[]⟩:ByteArray),.int .i64 0,.int .i64 0,.int .i64 0] 108 (0,0)))∧Aside0 (Below w.heap.size w wc))
  case first =>
   have H:=HC16.out
   clear HC16
   by_cases c27:a0_0=3
   ·rw [if_pos c27] at H
    have c27b0:(a0_0==3)=true:=beq_iff_eq.mpr c27
    have c27b1:(a0_0 != 3)=false:=bne_eq_false_iff_eq.mpr c27
    clear c27
    (first|rw [c27b0]|(simp only [i64_w,i32_w];rw [c27b0])|skip)
    have H':=Aside0.mk H
    clear H
    go_wp2
    go_meet
    case rel => exact ⟨_,((a0_0==3)),r3_,H',⟨by first|omega|exact Nat.le_refl _⟩,⟨bk_⟩,⟨bk_⟩,⟨bk_⟩,⟨bl_⟩⟩
   ·rw [if_neg c27] at H
    have c27b0:(a0_0==3)=false:=beq_eq_false_iff_ne.mpr c27
    have c27b1:(a0_0 != 3)=true:=bne_iff_ne.mpr c27
    (first|rw [c27b0]|(simp only [i64_w,i32_w];rw [c27b0])|skip)
    have H':=Aside0.mk H
    clear H
    go_wp2
    go_meet
    case rel => exact ⟨_,((a0_0==5)),r3_,H',⟨by first|omega|exact Nat.le_refl _⟩,⟨bk_⟩,⟨bk_⟩,⟨bk_⟩,⟨bl_⟩⟩
  case rest =>
   clear HC16
   try clear c2;try clear c2b0;try clear c2b1;try clear hcz20_0;try clear hcz20_1;try clear hcz20_2;try clear hcz20_3;try clear hcz20_4;try clear hcz24_0;try clear hcz24_1;try clear hcz24_2;try clear hcz24_3;try clear hcz24_4;try clear hcz26_0;try clear hcz26_1;try clear hcz26_2;try clear hcz26_3;try clear hcz26_4;try clear hfz20_0;try clear hfz20_1;try clear hfz20_2;try clear hfz20_3;try clear hfz20_4;try clear hfz24_0;try clear hfz24_1;try clear hfz24_2;try clear hfz24_3;try clear hfz24_4;try clear hfz26_0;try clear hfz26_1;try clear hfz26_2;try clear hfz26_3;try clear hfz26_4
   obtain ⟨kq,x11_15,rfl,HA,HJ15,BK147,BK148,BK149,HB⟩:=hcut
   cases kq with
   | zero => exact absurd HA.out (by simp [pool_fields.j0])
   | succ kj15 =>
    have H:=HA.out
    clear HA
    simp only [pool_fields.j0] at H
    by_cases c28:x11_15=true
    ·subst c28
     rw [if_pos rfl] at H
     simp only [Option.some.injEq,Prod.mk.injEq] at H
     obtain ⟨rfl,rfl,rfl,rfl,rfl⟩:=H
     have hnb29:=NB147_148.out
     have hnc29:=NB148_147.out
     have hnb30:=NB147_149.out
     have hnc30:=NB149_147.out
     obtain ⟨hcz31_0,hcz31_1,hcz31_2,hcz31_3,hcz31_4,hfz31_0,hfz31_1,hfz31_2,hfz31_3,hfz31_4⟩:=blk5_ BK147.out
     have hnb32:=NB149_148.out
     have hnc32:=NB148_149.out
     obtain ⟨hcz33_0,hcz33_1,hcz33_2,hcz33_3,hcz33_4,hfz33_0,hfz33_1,hfz33_2,hfz33_3,hfz33_4⟩:=blk5_ BK149.out
     obtain ⟨hcz34_0,hcz34_1,hcz34_2,hcz34_3,hcz34_4,hfz34_0,hfz34_1,hfz34_2,hfz34_3,hfz34_4⟩:=blk5_ BK148.out
     go_wp2_with (first|((with_reducible refine gate_store (t:=108) (p:=2) rfl ?_);refine store_event (t:=108) (p:=2) (v:=?vo_w35) (w1:=((((((wc.setCell ⟨gb149,2,none⟩ (.int .i64 a0_2)).setCell ⟨gb148,0,none⟩ (.int .i64 a0_0)).setCell ⟨gb148,1,none⟩ (.string (⟨#[]⟩:ByteArray))).setCell ⟨gb148,2,none⟩ (.int .i64 a0_2)).setCell ⟨gb148,3,none⟩ (.int .i64 0)).setCell ⟨gb148,4,none⟩ (.int .i64 0))) ?hg ?ho ?hn ?hr ?_;(case ho => rfl);(case hg => rfl);(case hn => rfl);(case hr => first|(go_simp;done)|(go_simp;rfl));intro w35 hw;have n0_:Aside0 (w35.heap[gb147]?=some (.cells #[.int .i64 a0_0,.string a0_1,.int .i64 a0_2,.int .i64 a0_3,.int .i64 a0_4] 108 (0,0))):=⟨(by rw [hw];exact bk_)⟩;have n1_:Aside0 (w35.heap[gb148]?=some (.cells #[.int .i64 a0_0,.string (⟨#[]⟩:ByteArray),.int .i64 a0_2,.int .i64 0,.int .i64 0] 108 (0,0))):=⟨(by rw [hw];exact (by (with_reducible repeat (first|refine blk_drewN ?_ _|refine blk_drew ?_|refine blk_alloc ?_ _));refine blk_put (cs:=#[.int .i64 a0_0,.string (⟨#[]⟩:ByteArray),.int .i64 a0_2,.int .i64 0,.int .i64 0]) ?_ 4 _ rfl;(with_reducible repeat (first|refine blk_drewN ?_ _|refine blk_drew ?_|refine blk_alloc ?_ _));refine blk_put (cs:=#[.int .i64 a0_0,.string (⟨#[]⟩:ByteArray),.int .i64 a0_2,.int .i64 0,.int .i64 0]) ?_ 3 _ rfl;(with_reducible repeat (first|refine blk_drewN ?_ _|refine blk_drew ?_|refine blk_alloc ?_ _));refine blk_put (cs:=#[.int .i64 a0_0,.string (⟨#[]⟩:ByteArray),.int .i64 0,.int .i64 0,.int .i64 0]) ?_ 2 _ rfl;(with_reducible repeat (first|refine blk_drewN ?_ _|refine blk_drew ?_|refine blk_alloc ?_ _));refine blk_put (cs:=#[.int .i64 a0_0,.string (⟨#[]⟩:ByteArray),.int .i64 0,.int .i64 0,.int .i64 0]) ?_ 1 _ rfl;(with_reducible repeat (first|refine blk_drewN ?_ _|refine blk_drew ?_|refine blk_alloc ?_ _));refine blk_put (cs:=#[.int .i64 0,.string (⟨#[]⟩:ByteArray),.int .i64 0,.int .i64 0,.int .i64 0]) ?_ 0 _ rfl;(with_reducible repeat (first|refine blk_drewN ?_ _|refine blk_drew ?_|refine blk_alloc ?_ _));refine blk_far ?_ NB148_149.out _;(with_reducible repeat (first|refine blk_drewN ?_ _|refine blk_drew ?_|refine blk_alloc ?_ _));exact BK148.out))⟩;have n2_:Aside0 (w35.heap[gb149]?=some (.cells #[.int .i64 a0_0,.string (⟨#[]⟩:ByteArray),.int .i64 a0_2,.int .i64 0,.int .i64 0] 108 (0,0))):=⟨(by rw [hw];exact (by (with_reducible repeat (first|refine blk_drewN ?_ _|refine blk_drew ?_|refine blk_alloc ?_ _));refine blk_far ?_ NB149_148.out _;(with_reducible repeat (first|refine blk_drewN ?_ _|refine blk_drew ?_|refine blk_alloc ?_ _));refine blk_far ?_ NB149_148.out _;(with_reducible repeat (first|refine blk_drewN ?_ _|refine blk_drew ?_|refine blk_alloc ?_ _));refine blk_far ?_ NB149_148.out _;(with_reducible repeat (first|refine blk_drewN ?_ _|refine blk_drew ?_|refine blk_alloc ?_ _));refine blk_far ?_ NB149_148.out _;(with_reducible repeat (first|refine blk_drewN ?_ _|refine blk_drew ?_|refine blk_alloc ?_ _));refine blk_far ?_ NB149_148.out _;(with_reducible repeat (first|refine blk_drewN ?_ _|refine blk_drew ?_|refine blk_alloc ?_ _));refine blk_put (cs:=#[.int .i64 a0_0,.string (⟨#[]⟩:ByteArray),.int .i64 0,.int .i64 0,.int .i64 0]) ?_ 2 _ rfl;(with_reducible repeat (first|refine blk_drewN ?_ _|refine blk_drew ?_|refine blk_alloc ?_ _));exact BK149.out))⟩;have n3_:Aside0 (Below w.heap.size w w35):=⟨(by rw [hw];exact bl_)⟩;clear hw;clear BK147;clear BK148;clear BK149;clear HB;have BK147:=n0_;have BK148:=n1_;have BK149:=n2_;have HB:=n3_;clear n0_ n1_ n2_ n3_))
     refine bodyPost_ret (results_cell_row rfl _ _ gb148 108 #[.int .i64 a0_0,.string (⟨#[]⟩:ByteArray),.int .i64 a0_2,.int .i64 0,.int .i64 0] (0,0) _ rfl bk_ Tryd.underlying108 rfl (by kernel_rfl)) rfl ?_
     exact ⟨ew_,bl_⟩
    ·replace c28:=Bool.eq_false_iff.mpr c28
     subst c28
     rw [if_neg (show ¬ (false=true) by decide)] at H
     have HC36:=Aside0.mk H
     clear H
     go_upto_if 14 with (fail)
     go_cut [14] (fun v14 wc => ∃ (kq:Nat) (x14_35:Bool),v14=.bool x14_35∧Aside0 (pool_fields.j1 kq a0_0 x14_35 a0_0 a0_1 a0_2 a0_3 a0_4 a0_0 (⟨#[]⟩:ByteArray) 0 0 0=some (r1,r2,r3,r4,r5))∧Aside0 (kq≤kj15)∧Aside0 (wc.heap[gb147]?=some (.cells #[.int .i64 a0_0,.string a0_1,.int .i64 a0_2,.int .i64 a0_3,.int .i64 a0_4] 108 (0,0)))∧Aside0 (wc.heap[gb148]?=some (.cells #[.int .i64 0,.string (⟨#[]⟩:ByteArray),.int .i64 0,.int .i64 0,.int .i64 0] 108 (0,0)))∧Aside0 (wc.heap[gb149]?=some (.cells #[.int .i64 a0_0,.string (⟨#[]⟩:ByteArray),.int .i64 0,.int .i64 0,.int .i64 0] 108 (0,0)))∧Aside0 (Below w.heap.size w wc))
     case first =>
      have H:=HC36.out
      clear HC36
      by_cases c37:a0_0=9
      ·rw [if_pos c37] at H
       have c37b0:(a0_0==9)=true:=beq_iff_eq.mpr c37
       have c37b1:(a0_0 != 9)=false:=bne_eq_false_iff_eq.mpr c37
       clear c37
       (first|rw [c37b0]|(simp only [i64_w,i32_w];rw [c37b0])|skip)
       have H':=Aside0.mk H
       clear H
       go_wp2
       go_meet
       case rel => exact ⟨_,((a0_0==9)),r3_,H',⟨by have:=HJ15.out;first|omega|exact Nat.le_refl _⟩,⟨bk_⟩,⟨bk_⟩,⟨bk_⟩,⟨bl_⟩⟩
      ·rw [if_neg c37] at H
       have c37b0:(a0_0==9)=false:=beq_eq_false_iff_ne.mpr c37
       have c37b1:(a0_0 != 9)=true:=bne_iff_ne.mpr c37
       (first|rw [c37b0]|(simp only [i64_w,i32_w];rw [c37b0])|skip)
       by_cases c38:a0_0=10
       ·rw [if_pos c38] at H
        have c38b0:(a0_0==10)=true:=beq_iff_eq.mpr c38
        have c38b1:(a0_0 != 10)=false:=bne_eq_false_iff_eq.mpr c38
        clear c38
        have H':=Aside0.mk H
        clear H
        go_wp2
        go_meet
        case rel => exact ⟨_,((a0_0==10)),r3_,H',⟨by have:=HJ15.out;first|omega|exact Nat.le_refl _⟩,⟨bk_⟩,⟨bk_⟩,⟨bk_⟩,⟨bl_⟩⟩
       ·rw [if_neg c38] at H
        have c38b0:(a0_0==10)=false:=beq_eq_false_iff_ne.mpr c38
        have c38b1:(a0_0 != 10)=true:=bne_iff_ne.mpr c38
        have H':=Aside0.mk H
        clear H
        go_wp2
        go_meet
        case rel => exact ⟨_,((a0_0==12)),r3_,H',⟨by have:=HJ15.out;first|omega|exact Nat.le_refl _⟩,⟨bk_⟩,⟨bk_⟩,⟨bk_⟩,⟨bl_⟩⟩
     case rest =>
      clear HC36
      try clear c28
      obtain ⟨kq,x14_35,rfl,HA,HJ35,BK147,BK148,BK149,HB⟩:=hcut
      cases kq with
      | zero => exact absurd HA.out (by simp [pool_fields.j1])
      | succ kj35 =>
       have H:=HA.out
       clear HA
       simp only [pool_fields.j1] at H
       by_cases c39:x14_35=true
       ·subst c39
        rw [if_pos rfl] at H
        simp only [Option.some.injEq,Prod.mk.injEq] at H
        obtain ⟨rfl,rfl,rfl,rfl,rfl⟩:=H
        have hnb40:=NB147_148.out
        have hnc40:=NB148_147.out
        have hnb41:=NB147_149.out
        have hnc41:=NB149_147.out
        obtain ⟨hcz42_0,hcz42_1,hcz42_2,hcz42_3,hcz42_4,hfz42_0,hfz42_1,hfz42_2,hfz42_3,hfz42_4⟩:=blk5_ BK147.out
        have hnb43:=NB149_148.out
        have hnc43:=NB148_149.out
        obtain ⟨hcz44_0,hcz44_1,hcz44_2,hcz44_3,hcz44_4,hfz44_0,hfz44_1,hfz44_2,hfz44_3,hfz44_4⟩:=blk5_ BK149.out
        obtain ⟨hcz45_0,hcz45_1,hcz45_2,hcz45_3,hcz45_4,hfz45_0,hfz45_1,hfz45_2,hfz45_3,hfz45_4⟩:=blk5_ BK148.out
        go_wp2_with (first|((with_reducible refine gate_store (t:=108) (p:=2) rfl ?_);refine store_event (t:=108) (p:=2) (v:=?vo_w46) (w1:=(((((((wc.setCell ⟨gb149,4,none⟩ (.int .i64 a0_4)).setCell ⟨gb149,3,none⟩ (.int .i64 a0_3)).setCell ⟨gb148,0,none⟩ (.int .i64 a0_0)).setCell ⟨gb148,1,none⟩ (.string (⟨#[]⟩:ByteArray))).setCell ⟨gb148,2,none⟩ (.int .i64 0)).setCell ⟨gb148,3,none⟩ (.int .i64 a0_3)).setCell ⟨gb148,4,none⟩ (.int .i64 a0_4))) ?hg ?ho ?hn ?hr ?_;(case ho => rfl);(case hg => rfl);(case hn => rfl);(case hr => first|(go_simp;done)|(go_simp;rfl));intro w46 hw;have n0_:Aside0 (w46.heap[gb147]?=some (.cells #[.int .i64 a0_0,.string a0_1,.int .i64 a0_2,.int .i64 a0_3,.int .i64 a0_4] 108 (0,0))):=⟨(by rw [hw];exact bk_)⟩;have n1_:Aside0 (w46.heap[gb148]?=some (.cells #[.int .i64 a0_0,.string (⟨#[]⟩:ByteArray),.int .i64 0,.int .i64 a0_3,.int .i64 a0_4] 108 (0,0))):=⟨(by rw [hw];exact (by (with_reducible repeat (first|refine blk_drewN ?_ _|refine blk_drew ?_|refine blk_alloc ?_ _));refine blk_put (cs:=#[.int .i64 a0_0,.string (⟨#[]⟩:ByteArray),.int .i64 0,.int .i64 a0_3,.int .i64 0]) ?_ 4 _ rfl;(with_reducible repeat (first|refine blk_drewN ?_ _|refine blk_drew ?_|refine blk_alloc ?_ _));refine blk_put (cs:=#[.int .i64 a0_0,.string (⟨#[]⟩:ByteArray),.int .i64 0,.int .i64 0,.int .i64 0]) ?_ 3 _ rfl;(with_reducible repeat (first|refine blk_drewN ?_ _|refine blk_drew ?_|refine blk_alloc ?_ _));refine blk_put (cs:=#[.int .i64 a0_0,.string (⟨#[]⟩:ByteArray),.int .i64 0,.int .i64 0,.int .i64 0]) ?_ 2 _ rfl;(with_reducible repeat (first|refine blk_drewN ?_ _|refine blk_drew ?_|refine blk_alloc ?_ _));refine blk_put (cs:=#[.int .i64 a0_0,.string (⟨#[]⟩:ByteArray),.int .i64 0,.int .i64 0,.int .i64 0]) ?_ 1 _ rfl;(with_reducible repeat (first|refine blk_drewN ?_ _|refine blk_drew ?_|refine blk_alloc ?_ _));refine blk_put (cs:=#[.int .i64 0,.string (⟨#[]⟩:ByteArray),.int .i64 0,.int .i64 0,.int .i64 0]) ?_ 0 _ rfl;(with_reducible repeat (first|refine blk_drewN ?_ _|refine blk_drew ?_|refine blk_alloc ?_ _));refine blk_far ?_ NB148_149.out _;(with_reducible repeat (first|refine blk_drewN ?_ _|refine blk_drew ?_|refine blk_alloc ?_ _));refine blk_far ?_ NB148_149.out _;(with_reducible repeat (first|refine blk_drewN ?_ _|refine blk_drew ?_|refine blk_alloc ?_ _));exact BK148.out))⟩;have n2_:Aside0 (w46.heap[gb149]?=some (.cells #[.int .i64 a0_0,.string (⟨#[]⟩:ByteArray),.int .i64 0,.int .i64 a0_3,.int .i64 a0_4] 108 (0,0))):=⟨(by rw [hw];exact (by (with_reducible repeat (first|refine blk_drewN ?_ _|refine blk_drew ?_|refine blk_alloc ?_ _));refine blk_far ?_ NB149_148.out _;(with_reducible repeat (first|refine blk_drewN ?_ _|refine blk_drew ?_|refine blk_alloc ?_ _));refine blk_far ?_ NB149_148.out _;(with_reducible repeat (first|refine blk_drewN ?_ _|refine blk_drew ?_|refine blk_alloc ?_ _));refine blk_far ?_ NB149_148.out _;(with_reducible repeat (first|refine blk_drewN ?_ _|refine blk_drew ?_|refine blk_alloc ?_ _));refine blk_far ?_ NB149_148.out _;(with_reducible repeat (first|refine blk_drewN ?_ _|refine blk_drew ?_|refine blk_alloc ?_ _));refine blk_far ?_ NB149_148.out _;(with_reducible repeat (first|refine blk_drewN ?_ _|refine blk_drew ?_|refine blk_alloc ?_ _));refine blk_put (cs:=#[.int .i64 a0_0,.string (⟨#[]⟩:ByteArray),.int .i64 0,.int .i64 0,.int .i64 a0_4]) ?_ 3 _ rfl;(with_reducible repeat (first|refine blk_drewN ?_ _|refine blk_drew ?_|refine blk_alloc ?_ _));refine blk_put (cs:=#[.int .i64 a0_0,.string (⟨#[]⟩:ByteArray),.int .i64 0,.int .i64 0,.int .i64 0]) ?_ 4 _ rfl;(with_reducible repeat (first|refine blk_drewN ?_ _|refine blk_drew ?_|refine blk_alloc ?_ _));exact BK149.out))⟩;have n3_:Aside0 (Below w.heap.size w w46):=⟨(by rw [hw];exact bl_)⟩;clear hw;clear BK147;clear BK148;clear BK149;clear HB;have BK147:=n0_;have BK148:=n1_;have BK149:=n2_;have HB:=n3_;clear n0_ n1_ n2_ n3_))
        refine bodyPost_ret (results_cell_row rfl _ _ gb148 108 #[.int .i64 a0_0,.string (⟨#[]⟩:ByteArray),.int .i64 0,.int .i64 a0_3,.int .i64 a0_4] (0,0) _ rfl bk_ Tryd.underlying108 rfl (by kernel_rfl)) rfl ?_
        exact ⟨ew_,bl_⟩
       ·replace c39:=Bool.eq_false_iff.mpr c39
        subst c39
        rw [if_neg (show ¬ (false=true) by decide)] at H
        by_cases c47:a0_0=7
        ·rw [if_pos c47] at H
         have c47b0:(a0_0==7)=true:=beq_iff_eq.mpr c47
         have c47b1:(a0_0 != 7)=false:=bne_eq_false_iff_eq.mpr c47
         clear c47
         simp only [Option.some.injEq,Prod.mk.injEq] at H
         obtain ⟨rfl,rfl,rfl,rfl,rfl⟩:=H
         have hnb48:=NB147_148.out
         have hnc48:=NB148_147.out
         have hnb49:=NB147_149.out
         have hnc49:=NB149_147.out
         obtain ⟨hcz50_0,hcz50_1,hcz50_2,hcz50_3,hcz50_4,hfz50_0,hfz50_1,hfz50_2,hfz50_3,hfz50_4⟩:=blk5_ BK147.out
         have hnb51:=NB149_148.out
         have hnc51:=NB148_149.out
         obtain ⟨hcz52_0,hcz52_1,hcz52_2,hcz52_3,hcz52_4,hfz52_0,hfz52_1,hfz52_2,hfz52_3,hfz52_4⟩:=blk5_ BK149.out
         obtain ⟨hcz53_0,hcz53_1,hcz53_2,hcz53_3,hcz53_4,hfz53_0,hfz53_1,hfz53_2,hfz53_3,hfz53_4⟩:=blk5_ BK148.out
         go_wp2_with (first|((with_reducible refine gate_store (t:=108) (p:=2) rfl ?_);refine store_event (t:=108) (p:=2) (v:=?vo_w54) (w1:=((((((wc.setCell ⟨gb149,3,none⟩ (.int .i64 a0_3)).setCell ⟨gb148,0,none⟩ (.int .i64 a0_0)).setCell ⟨gb148,1,none⟩ (.string (⟨#[]⟩:ByteArray))).setCell ⟨gb148,2,none⟩ (.int .i64 0)).setCell ⟨gb148,3,none⟩ (.int .i64 a0_3)).setCell ⟨gb148,4,none⟩ (.int .i64 0))) ?hg ?ho ?hn ?hr ?_;(case ho => rfl);(case hg => rfl);(case hn => rfl);(case hr => first|(go_simp;done)|(go_simp;rfl));intro w54 hw;have n0_:Aside0 (w54.heap[gb147]?=some (.cells #[.int .i64 a0_0,.string a0_1,.int .i64 a0_2,.int .i64 a0_3,.int .i64 a0_4] 108 (0,0))):=⟨(by rw [hw];exact bk_)⟩;have n1_:Aside0 (w54.heap[gb148]?=some (.cells #[.int .i64 a0_0,.string (⟨#[]⟩:ByteArray),.int .i64 0,.int .i64 a0_3,.int .i64 0] 108 (0,0))):=⟨(by rw [hw];exact (by (with_reducible repeat (first|refine blk_drewN ?_ _|refine blk_drew ?_|refine blk_alloc ?_ _));refine blk_put (cs:=#[.int .i64 a0_0,.string (⟨#[]⟩:ByteArray),.int .i64 0,.int .i64 a0_3,.int .i64 0]) ?_ 4 _ rfl;(with_reducible repeat (first|refine blk_drewN ?_ _|refine blk_drew ?_|refine blk_alloc ?_ _));refine blk_put (cs:=#[.int .i64 a0_0,.string (⟨#[]⟩:ByteArray),.int .i64 0,.int .i64 0,.int .i64 0]) ?_ 3 _ rfl;(with_reducible repeat (first|refine blk_drewN ?_ _|refine blk_drew ?_|refine blk_alloc ?_ _));refine blk_put (cs:=#[.int .i64 a0_0,.string (⟨#[]⟩:ByteArray),.int .i64 0,.int .i64 0,.int .i64 0]) ?_ 2 _ rfl;(with_reducible repeat (first|refine blk_drewN ?_ _|refine blk_drew ?_|refine blk_alloc ?_ _));refine blk_put (cs:=#[.int .i64 a0_0,.string (⟨#[]⟩:ByteArray),.int .i64 0,.int .i64 0,.int .i64 0]) ?_ 1 _ rfl;(with_reducible repeat (first|refine blk_drewN ?_ _|refine blk_drew ?_|refine blk_alloc ?_ _));refine blk_put (cs:=#[.int .i64 0,.string (⟨#[]⟩:ByteArray),.int .i64 0,.int .i64 0,.int .i64 0]) ?_ 0 _ rfl;(with_reducible repeat (first|refine blk_drewN ?_ _|refine blk_drew ?_|refine blk_alloc ?_ _));refine blk_far ?_ NB148_149.out _;(with_reducible repeat (first|refine blk_drewN ?_ _|refine blk_drew ?_|refine blk_alloc ?_ _));exact BK148.out))⟩;have n2_:Aside0 (w54.heap[gb149]?=some (.cells #[.int .i64 a0_0,.string (⟨#[]⟩:ByteArray),.int .i64 0,.int .i64 a0_3,.int .i64 0] 108 (0,0))):=⟨(by rw [hw];exact (by (with_reducible repeat (first|refine blk_drewN ?_ _|refine blk_drew ?_|refine blk_alloc ?_ _));refine blk_far ?_ NB149_148.out _;(with_reducible repeat (first|refine blk_drewN ?_ _|refine blk_drew ?_|refine blk_alloc ?_ _));refine blk_far ?_ NB149_148.out _;(with_reducible repeat (first|refine blk_drewN ?_ _|refine blk_drew ?_|refine blk_alloc ?_ _));refine blk_far ?_ NB149_148.out _;(with_reducible repeat (first|refine blk_drewN ?_ _|refine blk_drew ?_|refine blk_alloc ?_ _));refine blk_far ?_ NB149_148.out _;(with_reducible repeat (first|refine blk_drewN ?_ _|refine blk_drew ?_|refine blk_alloc ?_ _));refine blk_far ?_ NB149_148.out _;(with_reducible repeat (first|refine blk_drewN ?_ _|refine blk_drew ?_|refine blk_alloc ?_ _));refine blk_put (cs:=#[.int .i64 a0_0,.string (⟨#[]⟩:ByteArray),.int .i64 0,.int .i64 0,.int .i64 0]) ?_ 3 _ rfl;(with_reducible repeat (first|refine blk_drewN ?_ _|refine blk_drew ?_|refine blk_alloc ?_ _));exact BK149.out))⟩;have n3_:Aside0 (Below w.heap.size w w54):=⟨(by rw [hw];exact bl_)⟩;clear hw;clear BK147;clear BK148;clear BK149;clear HB;have BK147:=n0_;have BK148:=n1_;have BK149:=n2_;have HB:=n3_;clear n0_ n1_ n2_ n3_))
         refine bodyPost_ret (results_cell_row rfl _ _ gb148 108 #[.int .i64 a0_0,.string (⟨#[]⟩:ByteArray),.int .i64 0,.int .i64 a0_3,.int .i64 0] (0,0) _ rfl bk_ Tryd.underlying108 rfl (by kernel_rfl)) rfl ?_
         exact ⟨ew_,bl_⟩
        ·rw [if_neg c47] at H
         have c47b0:(a0_0==7)=false:=beq_eq_false_iff_ne.mpr c47
         have c47b1:(a0_0 != 7)=true:=bne_iff_ne.mpr c47
         simp only [Option.some.injEq,Prod.mk.injEq] at H
         obtain ⟨rfl,rfl,rfl,rfl,rfl⟩:=H
         have hnb55:=NB149_147.out
         have hnc55:=NB147_149.out
         have hnb56:=NB149_148.out
         have hnc56:=NB148_149.out
         obtain ⟨hcz57_0,hcz57_1,hcz57_2,hcz57_3,hcz57_4,hfz57_0,hfz57_1,hfz57_2,hfz57_3,hfz57_4⟩:=blk5_ BK149.out
         have hnb58:=NB148_147.out
         have hnc58:=NB147_148.out
         obtain ⟨hcz59_0,hcz59_1,hcz59_2,hcz59_3,hcz59_4,hfz59_0,hfz59_1,hfz59_2,hfz59_3,hfz59_4⟩:=blk5_ BK148.out
         go_wp2_with (first|((with_reducible refine gate_store (t:=108) (p:=2) rfl ?_);refine store_event (t:=108) (p:=2) (v:=?vo_w60) (w1:=(((((wc.setCell ⟨gb148,0,none⟩ (.int .i64 a0_0)).setCell ⟨gb148,1,none⟩ (.string (⟨#[]⟩:ByteArray))).setCell ⟨gb148,2,none⟩ (.int .i64 0)).setCell ⟨gb148,3,none⟩ (.int .i64 0)).setCell ⟨gb148,4,none⟩ (.int .i64 0))) ?hg ?ho ?hn ?hr ?_;(case ho => rfl);(case hg => rfl);(case hn => rfl);(case hr => first|(go_simp;done)|(go_simp;rfl));intro w60 hw;have n0_:Aside0 (w60.heap[gb147]?=some (.cells #[.int .i64 a0_0,.string a0_1,.int .i64 a0_2,.int .i64 a0_3,.int .i64 a0_4] 108 (0,0))):=⟨(by rw [hw];exact bk_)⟩;have n1_:Aside0 (w60.heap[gb148]?=some (.cells #[.int .i64 a0_0,.string (⟨#[]⟩:ByteArray),.int .i64 0,.int .i64 0,.int .i64 0] 108 (0,0))):=⟨(by rw [hw];exact (st5_ BK148.out))⟩;have n2_:Aside0 (w60.heap[gb149]?=some (.cells #[.int .i64 a0_0,.string (⟨#[]⟩:ByteArray),.int .i64 0,.int .i64 0,.int .i64 0] 108 (0,0))):=⟨(by rw [hw];exact bk_)⟩;have n3_:Aside0 (Below w.heap.size w w60):=⟨(by rw [hw];exact bl_)⟩;clear hw;clear BK147;clear BK148;clear BK149;clear HB;have BK147:=n0_;have BK148:=n1_;have BK149:=n2_;have HB:=n3_;clear n0_ n1_ n2_ n3_))
         refine bodyPost_ret (results_cell_row rfl _ _ gb148 108 #[.int .i64 a0_0,.string (⟨#[]⟩:ByteArray),.int .i64 0,.int .i64 0,.int .i64 0] (0,0) _ rfl bk_ Tryd.underlying108 rfl (by kernel_rfl)) rfl ?_
         exact ⟨ew_,bl_⟩
def pool_is.f (l0:List (S108)) (a1:Int) (a2:Int):Option (Bool):=if a1 > 0 then (if a1 < (l0.length:Int) then (if 0≤a1 then (some (((rd_T108 l0 a1).f0)==a2)) else (none)) else (some false)) else (some false)
set_option maxHeartbeats 80000000 in
set_option maxRecDepth 100000 in
theorem pool_is.calls (A0:Option Addr) (c0:Nat) (l0:List (S108)) (a1:Int) (a2:Int) (r:Bool) (w:World) (hr0:Kd.C k108 w A0 l0.length l0) (hc0:l0.length≤c0) (h:pool_is.f l0 a1 a2=some r) :
  Calls Tryd.prog 43 #[.slice A0 l0.length c0,.int .i64 a1,.int .i64 a2] w fun e w' => e=.returned (.bool r)∧Drawn0 w w':=by
 have HR0:=Aside0.mk hr0
 have HC0:=Aside0.mk hc0
 clear hr0 hc0
 have H:(if a1 > 0 then (if a1 < (l0.length:Int) then (if 0≤a1 then (some (((rd_T108 l0 a1).f0)==a2)) else (none)) else (some false)) else (some false))=some r:=h
 clear h
 by_cases c4:a1 > 0
 ·rw [if_pos c4] at H
  have c4b0:decide (0 < a1)=true:=decide_eq_true c4
  clear c4
  by_cases c5:a1 < (l0.length:Int)
  ·rw [if_pos c5] at H
   have c5b0:decide (a1 < (l0.length:Int))=true:=decide_eq_true c5
   clear c5
   by_cases c6:0≤a1
   ·rw [if_pos c6] at H
    have c6b0:decide (0≤a1)=true:=decide_eq_true c6
    clear c6
    obtain rfl:=Option.some.inj H
    have p150:0≤(a1:Int):=od_
    have q150:a1 < (l0.length:Int):=od_
    obtain ⟨ad150,e150,hx150_0,hx150_1,hx150_2,hx150_3,hx150_4⟩:=at_T108 HR0.out a1 p150 q150
    cases e150
    replace p150:=eq_true p150
    replace q150:=eq_true q150
    go_enter Tryd.func43,Tryd.ntmps43
    go_wp2
    go_ret
    exact ⟨by first|rfl|(simp;done)|(simp [*];done),by repeat (first|exact Drawn0.refl _|apply Drawn0.step)⟩
   ·rw [if_neg c6] at H
    exact absurd H (by simp)
  ·rw [if_neg c5] at H
   have c5b0:decide (a1 < (l0.length:Int))=false:=decide_eq_false c5
   clear c5
   obtain rfl:=Option.some.inj H
   go_enter Tryd.func43,Tryd.ntmps43
   go_wp2
   go_ret
   exact ⟨by first|rfl|(simp;done)|(simp [*];done),by repeat (first|exact Drawn0.refl _|apply Drawn0.step)⟩
 ·rw [if_neg c4] at H
  have c4b0:decide (0 < a1)=false:=decide_eq_false c4
  clear c4
  obtain rfl:=Option.some.inj H
  go_enter Tryd.func43,Tryd.ntmps43
  go_wp2
  go_ret
  exact ⟨by first|rfl|(simp;done)|(simp [*];done),by repeat (first|exact Drawn0.refl _|apply Drawn0.step)⟩
end Go.Proofs.YtoonhpcjcimecaaDoor.Px
namespace Go.Proofs.YtoonhpcjcimecaaDoor.Px
open Go.RowKit Go.Proofs.YtoonhpcjcimecaaDoorW.PrintWords Go.Proofs.YtoonhpcjcimecaaDoorW.PrintLast Go.Proofs.YtoonhpcjcimecaaDoorW.PrintMore
attribute [local go_sem] max2_int min2_int max_two min_two max_three min_three max_four min_four
set_option linter.unusedVariables false
set_option linter.unusedSimpArgs false
mutual
def pool_leads.j0:Nat→List (S108)→Int→Bool→Int→ByteArray→Int→Int→Int→Option (Bool)
 | 0,_,_,_,_,_,_,_,_ => none
 | k + 1,x0,x6,x7,x152000,x152001,x152002,x152003,x152004 => if x7=true then (some true) else (if x6=3 then (some ((wrap64 (wrap32 (x152002)))==x152002)) else (if x6=7 then ((pool_is.f x0 x152003 1).bind fun t152 => (some t152)) else (if x6=12 then ((pool_is.f x0 x152003 1).bind fun t153 => (if t153=true then ((pool_is.f x0 x152004 1).bind fun t154 => (some t154)) else (some false))) else (if x6=9 then (pool_leads.j1 k x0 (x6==9) x152000 x152001 x152002 x152003 x152004) else (pool_leads.j1 k x0 (x6==10) x152000 x152001 x152002 x152003 x152004)))))
def pool_leads.j1:Nat→List (S108)→Bool→Int→ByteArray→Int→Int→Int→Option (Bool)
 | 0,_,_,_,_,_,_,_ => none
 | k + 1,x0,x37,x152000,x152001,x152002,x152003,x152004 => if x37=true then ((pool_is.f x0 x152003 7).bind fun t155 => (if t155=true then ((pool_is.f x0 x152004 12).bind fun t156 => (some t156)) else (some false))) else (some false)
end
def pool_leads.f (k:Nat) (l0:List (S108)) (a1_0:Int) (a1_1:ByteArray) (a1_2:Int) (a1_3:Int) (a1_4:Int):Option (Bool):=if a1_0=1 then (pool_leads.j0 k l0 a1_0 (a1_0==1) a1_0 a1_1 a1_2 a1_3 a1_4) else (pool_leads.j0 k l0 a1_0 (a1_0==5) a1_0 a1_1 a1_2 a1_3 a1_4)
theorem pool_leads.mono_l:∀ k,(∀ y0 y1 y2 y3 y4 y5 y6 y7,LeO (pool_leads.j0 k y0 y1 y2 y3 y4 y5 y6 y7) (pool_leads.j0 (k + 1) y0 y1 y2 y3 y4 y5 y6 y7))∧(∀ y0 y1 y2 y3 y4 y5 y6,LeO (pool_leads.j1 k y0 y1 y2 y3 y4 y5 y6) (pool_leads.j1 (k + 1) y0 y1 y2 y3 y4 y5 y6))
 | 0 => ⟨fun _ _ _ _ _ _ _ _ r h => by simp [pool_leads.j0] at h,fun _ _ _ _ _ _ _ r h => by simp [pool_leads.j1] at h⟩
 | k + 1 => by
  obtain ⟨ih0,ih1⟩:=pool_leads.mono_l k
  refine ⟨?_,?_⟩
  ·intro y0 y1 y2 y3 y4 y5 y6 y7
   unfold pool_leads.j0
   repeat' first
   | (with_reducible exact ih0 _ _ _ _ _ _ _ _)
   | (with_reducible exact ih1 _ _ _ _ _ _ _)
   | (with_reducible exact LeO.refl _)
   | (with_reducible exact LeO.none _)
   | (with_reducible refine LeO.ite ?_ ?_)
   | (with_reducible refine LeO.bind ?_ (fun _ => ?_))
   | exact ih0 _ _ _ _ _ _ _ _
   | exact ih1 _ _ _ _ _ _ _
   | exact LeO.none _
   | refine LeO.ite ?_ ?_
   | refine LeO.bind ?_ (fun _ => ?_)
  ·intro y0 y1 y2 y3 y4 y5 y6
   unfold pool_leads.j1
   repeat' first
   | (with_reducible exact ih0 _ _ _ _ _ _ _ _)
   | (with_reducible exact ih1 _ _ _ _ _ _ _)
   | (with_reducible exact LeO.refl _)
   | (with_reducible exact LeO.none _)
   | (with_reducible refine LeO.ite ?_ ?_)
   | (with_reducible refine LeO.bind ?_ (fun _ => ?_))
   | exact ih0 _ _ _ _ _ _ _ _
   | exact ih1 _ _ _ _ _ _ _
   | exact LeO.none _
   | refine LeO.ite ?_ ?_
   | refine LeO.bind ?_ (fun _ => ?_)
theorem pool_leads.mono:∀ a0 a1 a2 a3 a4 a5 k,LeO (pool_leads.f k a0 a1 a2 a3 a4 a5) (pool_leads.f (k + 1) a0 a1 a2 a3 a4 a5):=by
 intro a0 a1 a2 a3 a4 a5 k
 obtain ⟨ih0,ih1⟩:=pool_leads.mono_l k
 unfold pool_leads.f
 repeat' first
   | (with_reducible exact ih0 _ _ _ _ _ _ _ _)
   | (with_reducible exact ih1 _ _ _ _ _ _ _)
   | (with_reducible exact LeO.refl _)
   | (with_reducible exact LeO.none _)
   | (with_reducible refine LeO.ite ?_ ?_)
   | (with_reducible refine LeO.bind ?_ (fun _ => ?_))
   | exact ih0 _ _ _ _ _ _ _ _
   | exact ih1 _ _ _ _ _ _ _
   | exact LeO.none _
   | refine LeO.ite ?_ ?_
   | refine LeO.bind ?_ (fun _ => ?_)
set_option maxHeartbeats 80000000 in
set_option maxRecDepth 100000 in
theorem pool_leads.calls (k:Nat) (A0:Option Addr) (c0:Nat) (l0:List (S108)) (a1_0:Int) (a1_1:ByteArray) (a1_2:Int) (a1_3:Int) (a1_4:Int) (r:Bool) (w:World) (hr0:Kd.C k108 w A0 l0.length l0) (hc0:l0.length≤c0) (h:pool_leads.f k l0 a1_0 a1_1 a1_2 a1_3 a1_4=some r) :
  Calls Tryd.prog 59 #[.slice A0 l0.length c0,.agg #[.int .i64 a1_0,.string a1_1,.int .i64 a1_2,.int .i64 a1_3,.int .i64 a1_4]] w fun e w' => e=.returned (.bool r)∧Below w.heap.size w w':=by
 have hu108:=Tryd.underlying108
 have HR0:=Aside0.mk hr0
 have HC0:=Aside0.mk hc0
 clear hr0 hc0
 have HB:=Aside0.mk (Below.refl w.heap.size w)
 have H:(if a1_0=1 then (pool_leads.j0 k l0 a1_0 (a1_0==1) a1_0 a1_1 a1_2 a1_3 a1_4) else (pool_leads.j0 k l0 a1_0 (a1_0==5) a1_0 a1_1 a1_2 a1_3 a1_4))=some r:=h
 clear h
 have HC3:=Aside0.mk H
 clear H
 go_enter Tryd.func59,Tryd.ntmps59
 go_upto_if 7 with (first|((with_reducible refine gate_dst (N:=3) rfl ?_);refine box_event ?hg (N:=3) ?hd (cs:=#[.int .i64 a1_0,.string a1_1,.int .i64 a1_2,.int .i64 a1_3,.int .i64 a1_4]) (t:=108) ?hr ?_;(case hd => rfl);(case hg => rfl);(case hr => first|(go_simp;done)|(go_simp;rfl));intro gb151 hg w4 hbox hb;have n0_:=Aside0.mk (below_step bl_ hb);have n1_:=Aside0.mk (hbox);have n2_:=Aside0.mk ((by rw [hg];exact (below_size bl_):w.heap.size≤gb151));have n3_:=Aside0.mk ((by rw [hg];exact (below_size bl_):w.heap.size≤gb151));clear HB;have HB:=n0_;have BK151:=n1_;have GW151:=n2_;have GE151:=n3_;clear n0_ n1_ n2_ n3_;clear hb hbox hg;obtain ⟨hcz5_0,hcz5_1,hcz5_2,hcz5_3,hcz5_4,hfz5_0,hfz5_1,hfz5_2,hfz5_3,hfz5_4⟩:=blk5_ BK151.out))
 (try simp only [Act.put,List.setIfInBounds_toArray,List.set_cons_zero,List.set_cons_succ])
 go_cut [7] (fun v7 wc => ∃ (kq:Nat) (x7_2:Bool),v7=.bool x7_2∧Aside0 (pool_leads.j0 kq l0 a1_0 x7_2 a1_0 a1_1 a1_2 a1_3 a1_4=some r)∧Aside0 (kq≤k)∧Aside0 (wc.heap[gb151]?=some (.cells #[.int .i64 a1_0,.string a1_1,.int .i64 a1_2,.int .i64 a1_3,.int .i64 a1_4] 108 (0,0)))∧Aside0 (Below w.heap.size w wc))
 case first =>
  have H:=HC3.out
  clear HC3
  by_cases c6:a1_0=1
  ·rw [if_pos c6] at H
   have c6b0:(a1_0==1)=true:=beq_iff_eq.mpr c6
   have c6b1:(a1_0 != 1)=false:=bne_eq_false_iff_eq.mpr c6
   clear c6
   (first|rw [c6b0]|(simp only [i64_w,i32_w];rw [c6b0])|skip)
   have H':=Aside0.mk H
   clear H
   go_wp2
   go_meet
   case rel => exact ⟨_,((a1_0==1)),r3_,H',⟨by first|omega|exact Nat.le_refl _⟩,⟨bk_⟩,⟨bl_⟩⟩
  ·rw [if_neg c6] at H
   have c6b0:(a1_0==1)=false:=beq_eq_false_iff_ne.mpr c6
   have c6b1:(a1_0 != 1)=true:=bne_iff_ne.mpr c6
   (first|rw [c6b0]|(simp only [i64_w,i32_w];rw [c6b0])|skip)
   have H':=Aside0.mk H
   clear H
   go_wp2
   go_meet
   case rel => exact ⟨_,((a1_0==5)),r3_,H',⟨by first|omega|exact Nat.le_refl _⟩,⟨bk_⟩,⟨bl_⟩⟩
 case rest =>
  clear HC3
  try clear hcz5_0;try clear hcz5_1;try clear hcz5_2;try clear hcz5_3;try clear hcz5_4;try clear hfz5_0;try clear hfz5_1;try clear hfz5_2;try clear hfz5_3;try clear hfz5_4
  obtain ⟨kq,x7_2,rfl,HA,HJ2,BK151,HB⟩:=hcut
  cases kq with
  | zero => exact absurd HA.out (by simp [pool_leads.j0])
  | succ kj2 =>
   have H:=HA.out
   clear HA
   simp only [pool_leads.j0] at H
   by_cases c7:x7_2=true
   ·subst c7
    rw [if_pos rfl] at H
    obtain rfl:=Option.some.inj H
    go_wp2
    go_ret
    exact ⟨ew_,bl_⟩
   ·replace c7:=Bool.eq_false_iff.mpr c7
    subst c7
    rw [if_neg (show ¬ (false=true) by decide)] at H
    by_cases c8:a1_0=3
    ·rw [if_pos c8] at H
     have c8b0:(a1_0==3)=true:=beq_iff_eq.mpr c8
     have c8b1:(a1_0 != 3)=false:=bne_eq_false_iff_eq.mpr c8
     clear c8
     obtain rfl:=Option.some.inj H
     obtain ⟨hcz9_0,hcz9_1,hcz9_2,hcz9_3,hcz9_4,hfz9_0,hfz9_1,hfz9_2,hfz9_3,hfz9_4⟩:=blk5_ BK151.out
     go_wp2
     go_ret
     exact ⟨ew_,bl_⟩
    ·rw [if_neg c8] at H
     have c8b0:(a1_0==3)=false:=beq_eq_false_iff_ne.mpr c8
     have c8b1:(a1_0 != 3)=true:=bne_iff_ne.mpr c8
     by_cases c10:a1_0=7
     ·rw [if_pos c10] at H
      have c10b0:(a1_0==7)=true:=beq_iff_eq.mpr c10
      have c10b1:(a1_0 != 7)=false:=bne_eq_false_iff_eq.mpr c10
      clear c10
      replace H:=Option.bind_eq_some_iff.mp H
      obtain ⟨t152,A110,H⟩:=H
      try dsimp only at H
      have A11:=Aside0.mk A110
      clear A110
      obtain rfl:=Option.some.inj H
      obtain ⟨hcz12_0,hcz12_1,hcz12_2,hcz12_3,hcz12_4,hfz12_0,hfz12_1,hfz12_2,hfz12_3,hfz12_4⟩:=blk5_ BK151.out
      go_wp2_with (first|(refine callA_ (f:=43) (some 24) Tryd.func43 #[.slice A0 l0.length c0,.int .i64 a1_3,.int .i64 1] ?_;(with_reducible refine (pool_is.calls _ _ l0 a1_3 1 t152 _ ?side1 ?side2 A11.out).mono ?_);(case side1 => exact kc_ (Kd.C_below HR0.out HB.out));(case side2 => exact HC0.out);rintro e w' ⟨rfl,⟨nd,rfl⟩⟩;refine ⟨_,rfl,?_⟩))
      go_ret
      exact ⟨ew_,bl_⟩
     ·rw [if_neg c10] at H
      have c10b0:(a1_0==7)=false:=beq_eq_false_iff_ne.mpr c10
      have c10b1:(a1_0 != 7)=true:=bne_iff_ne.mpr c10
      by_cases c13:a1_0=12
      ·rw [if_pos c13] at H
       have c13b0:(a1_0==12)=true:=beq_iff_eq.mpr c13
       have c13b1:(a1_0 != 12)=false:=bne_eq_false_iff_eq.mpr c13
       clear c13
       replace H:=Option.bind_eq_some_iff.mp H
       obtain ⟨t153,A140,H⟩:=H
       try dsimp only at H
       have A14:=Aside0.mk A140
       clear A140
       by_cases c15:t153=true
       ·subst c15
        rw [if_pos rfl] at H
        replace H:=Option.bind_eq_some_iff.mp H
        obtain ⟨t154,A160,H⟩:=H
        try dsimp only at H
        have A16:=Aside0.mk A160
        clear A160
        obtain rfl:=Option.some.inj H
        obtain ⟨hcz17_0,hcz17_1,hcz17_2,hcz17_3,hcz17_4,hfz17_0,hfz17_1,hfz17_2,hfz17_3,hfz17_4⟩:=blk5_ BK151.out
        go_wp2_with (first|(refine callA_ (f:=43) (some 30) Tryd.func43 #[.slice A0 l0.length c0,.int .i64 a1_3,.int .i64 1] ?_;(with_reducible refine (pool_is.calls _ _ l0 a1_3 1 true _ ?side1 ?side2 A14.out).mono ?_);(case side1 => exact kc_ (Kd.C_below HR0.out HB.out));(case side2 => exact HC0.out);rintro e w' ⟨rfl,⟨nd,rfl⟩⟩;refine ⟨_,rfl,?_⟩)|(go_at_call 43;(with_reducible refine (pool_is.calls _ _ l0 a1_4 1 t154 _ ?side1 ?side2 A16.out).mono ?_);(case side1 => exact kc_ (Kd.C_below HR0.out bl_));(case side2 => exact HC0.out);rintro e w' ⟨rfl,⟨nd,rfl⟩⟩))
        go_ret
        exact ⟨ew_,bl_⟩
       ·replace c15:=Bool.eq_false_iff.mpr c15
        subst c15
        rw [if_neg (show ¬ (false=true) by decide)] at H
        obtain rfl:=Option.some.inj H
        obtain ⟨hcz18_0,hcz18_1,hcz18_2,hcz18_3,hcz18_4,hfz18_0,hfz18_1,hfz18_2,hfz18_3,hfz18_4⟩:=blk5_ BK151.out
        go_wp2_with (first|(refine callA_ (f:=43) (some 30) Tryd.func43 #[.slice A0 l0.length c0,.int .i64 a1_3,.int .i64 1] ?_;(with_reducible refine (pool_is.calls _ _ l0 a1_3 1 false _ ?side1 ?side2 A14.out).mono ?_);(case side1 => exact kc_ (Kd.C_below HR0.out HB.out));(case side2 => exact HC0.out);rintro e w' ⟨rfl,⟨nd,rfl⟩⟩;refine ⟨_,rfl,?_⟩))
        go_ret
        exact ⟨ew_,bl_⟩
      ·rw [if_neg c13] at H
       have c13b0:(a1_0==12)=false:=beq_eq_false_iff_ne.mpr c13
       have c13b1:(a1_0 != 12)=true:=bne_iff_ne.mpr c13
       have HC19:=Aside0.mk H
       clear H
       go_upto_if 37 with (fail)
       go_cut [37] (fun v37 wc => ∃ (kq:Nat) (x37_18:Bool),v37=.bool x37_18∧Aside0 (pool_leads.j1 kq l0 x37_18 a1_0 a1_1 a1_2 a1_3 a1_4=some r)∧Aside0 (kq≤kj2)∧Aside0 (wc.heap[gb151]?=some (.cells #[.int .i64 a1_0,.string a1_1,.int .i64 a1_2,.int .i64 a1_3,.int .i64 a1_4] 108 (0,0)))∧Aside0 (Below w.heap.size w wc))
       case first =>
        have H:=HC19.out
        clear HC19
        by_cases c20:a1_0=9
        ·rw [if_pos c20] at H
         have c20b0:(a1_0==9)=true:=beq_iff_eq.mpr c20
         have c20b1:(a1_0 != 9)=false:=bne_eq_false_iff_eq.mpr c20
         clear c20
         (first|rw [c20b0]|(simp only [i64_w,i32_w];rw [c20b0])|skip)
         have H':=Aside0.mk H
         clear H
         go_wp2
         go_meet
         case rel => exact ⟨_,((a1_0==9)),r3_,H',⟨by have:=HJ2.out;first|omega|exact Nat.le_refl _⟩,⟨bk_⟩,⟨bl_⟩⟩
        ·rw [if_neg c20] at H
         have c20b0:(a1_0==9)=false:=beq_eq_false_iff_ne.mpr c20
         have c20b1:(a1_0 != 9)=true:=bne_iff_ne.mpr c20
         (first|rw [c20b0]|(simp only [i64_w,i32_w];rw [c20b0])|skip)
         have H':=Aside0.mk H
         clear H
         go_wp2
         go_meet
         case rel => exact ⟨_,((a1_0==10)),r3_,H',⟨by have:=HJ2.out;first|omega|exact Nat.le_refl _⟩,⟨bk_⟩,⟨bl_⟩⟩
       case rest =>
        clear HC19
        try clear c7;try clear c8;try clear c8b0;try clear c8b1;try clear c10;try clear c10b0;try clear c10b1;try clear c13;try clear c13b0;try clear c13b1
        obtain ⟨kq,x37_18,rfl,HA,HJ18,BK151,HB⟩:=hcut
        cases kq with
        | zero => exact absurd HA.out (by simp [pool_leads.j1])
        | succ kj18 =>
         have H:=HA.out
         clear HA
         simp only [pool_leads.j1] at H
         by_cases c21:x37_18=true
         ·subst c21
          rw [if_pos rfl] at H
          replace H:=Option.bind_eq_some_iff.mp H
          obtain ⟨t155,A220,H⟩:=H
          try dsimp only at H
          have A22:=Aside0.mk A220
          clear A220
          by_cases c23:t155=true
          ·subst c23
           rw [if_pos rfl] at H
           replace H:=Option.bind_eq_some_iff.mp H
           obtain ⟨t156,A240,H⟩:=H
           try dsimp only at H
           have A24:=Aside0.mk A240
           clear A240
           obtain rfl:=Option.some.inj H
           obtain ⟨hcz25_0,hcz25_1,hcz25_2,hcz25_3,hcz25_4,hfz25_0,hfz25_1,hfz25_2,hfz25_3,hfz25_4⟩:=blk5_ BK151.out
           go_wp2_with (first|(refine callA_ (f:=43) (some 43) Tryd.func43 #[.slice A0 l0.length c0,.int .i64 a1_3,.int .i64 7] ?_;(with_reducible refine (pool_is.calls _ _ l0 a1_3 7 true _ ?side1 ?side2 A22.out).mono ?_);(case side1 => exact kc_ (Kd.C_below HR0.out HB.out));(case side2 => exact HC0.out);rintro e w' ⟨rfl,⟨nd,rfl⟩⟩;refine ⟨_,rfl,?_⟩)|(go_at_call 43;(with_reducible refine (pool_is.calls _ _ l0 a1_4 12 t156 _ ?side1 ?side2 A24.out).mono ?_);(case side1 => exact kc_ (Kd.C_below HR0.out bl_));(case side2 => exact HC0.out);rintro e w' ⟨rfl,⟨nd,rfl⟩⟩))
           go_ret
           exact ⟨ew_,bl_⟩
          ·replace c23:=Bool.eq_false_iff.mpr c23
           subst c23
           rw [if_neg (show ¬ (false=true) by decide)] at H
           obtain rfl:=Option.some.inj H
           obtain ⟨hcz26_0,hcz26_1,hcz26_2,hcz26_3,hcz26_4,hfz26_0,hfz26_1,hfz26_2,hfz26_3,hfz26_4⟩:=blk5_ BK151.out
           go_wp2_with (first|(refine callA_ (f:=43) (some 43) Tryd.func43 #[.slice A0 l0.length c0,.int .i64 a1_3,.int .i64 7] ?_;(with_reducible refine (pool_is.calls _ _ l0 a1_3 7 false _ ?side1 ?side2 A22.out).mono ?_);(case side1 => exact kc_ (Kd.C_below HR0.out HB.out));(case side2 => exact HC0.out);rintro e w' ⟨rfl,⟨nd,rfl⟩⟩;refine ⟨_,rfl,?_⟩))
           go_ret
           exact ⟨ew_,bl_⟩
         ·replace c21:=Bool.eq_false_iff.mpr c21
          subst c21
          rw [if_neg (show ¬ (false=true) by decide)] at H
          obtain rfl:=Option.some.inj H
          go_wp2
          go_ret
          exact ⟨ew_,bl_⟩
def text_split.f (a0:Int):Option (Int × Int):=if a0 < 65536 then (some (0,a0)) else (some (wrap32 (55296 + ((wrap32 (a0 - 65536)) / 1024)),wrap32 (56320 + (Go.bits .and .i32 (wrap32 (a0 - 65536)) 1023))))
set_option maxHeartbeats 80000000 in
set_option maxRecDepth 100000 in
theorem text_split.calls (a0:Int) (r1:Int) (r2:Int) (w:World) (h:text_split.f a0=some (r1,r2)) :
  Calls Tryd.prog 68 #[.int .i32 a0] w fun e w' => e=.returned (.tuple #[.int .i32 r1,.int .i32 r2])∧Drawn0 w w':=by
 have H:(if a0 < 65536 then (some (0,a0)) else (some (wrap32 (55296 + ((wrap32 (a0 - 65536)) / 1024)),wrap32 (56320 + (Go.bits .and .i32 (wrap32 (a0 - 65536)) 1023)))))=some (r1,r2):=h
 clear h
 by_cases c2:a0 < 65536
 ·rw [if_pos c2] at H
  have c2b0:decide (a0 < 65536)=true:=decide_eq_true c2
  clear c2
  simp only [Option.some.injEq,Prod.mk.injEq] at H
  obtain ⟨rfl,rfl⟩:=H
  go_enter Tryd.func68,Tryd.ntmps68
  go_wp2
  go_ret2
  exact ⟨by first|rfl|(simp;done)|(simp [*];done),by repeat (first|exact Drawn0.refl _|apply Drawn0.step)⟩
 ·rw [if_neg c2] at H
  have c2b0:decide (a0 < 65536)=false:=decide_eq_false c2
  clear c2
  simp only [Option.some.injEq,Prod.mk.injEq] at H
  obtain ⟨rfl,rfl⟩:=H
  go_enter Tryd.func68,Tryd.ntmps68
  go_wp2
  go_ret2
  exact ⟨by first|rfl|(simp;done)|(simp [*];done),by repeat (first|exact Drawn0.refl _|apply Drawn0.step)⟩
def text_unit.j0:Nat→List Int→Int→Bool→Option (List Int)
 | 0,_,_,_ => none
 | k + 1,x0,x1,x5 => if x5=true then (if x0.length < 140737488355328 then (some (x0++[(x1) % 256])) else (none)) else (if x1 < 2048 then ((some (([Go.bits .or .u8 192 ((x1 / 64) % 256),Go.bits .or .u8 128 ((Go.bits .and .i32 x1 63) % 256)]:List Int):List Int)).bind fun y160 => (if x0.length + y160.length < 140737488355328 then (some (x0++y160)) else (none))) else ((some (([Go.bits .or .u8 224 ((x1 / 4096) % 256),Go.bits .or .u8 128 ((Go.bits .and .i32 (x1 / 64) 63) % 256),Go.bits .or .u8 128 ((Go.bits .and .i32 x1 63) % 256)]:List Int):List Int)).bind fun y166 => (if x0.length + y166.length < 140737488355328 then (some (x0++y166)) else (none))))
def text_unit.f (k:Nat) (l0:List Int) (a1:Int):Option (List Int):=if a1 > 0 then (text_unit.j0 k l0 a1 (decide (a1 < 128))) else (text_unit.j0 k l0 a1 false)
set_option maxHeartbeats 80000000 in
set_option maxRecDepth 100000 in
theorem text_unit.calls (k:Nat) (P0_:Nat→Prop) (u9000_:Value) (l0:List Int) (a1:Int) (r:List Int) (w0 w:World) (hB:Below w0.heap.size w0 w) (ho0:Kd.R (Kd.int .u8) 5 w w0.heap.size P0_ u9000_ l0) (h:text_unit.f k l0 a1=some r) :
  Calls Tryd.prog 69 #[u9000_,.int .i32 a1] w fun e w' => ∃ v0_:Value,e=.returned (v0_)∧Kd.R (Kd.int .u8) 5 w' w0.heap.size (fun k_ => (P0_ k_ ∨ w.heap.size≤k_)) v0_ r∧Below w0.heap.size w0 w'∧Kept w w' (fun k_ => P0_ k_):=by
 have HO0:=Aside0.mk (show Kd.R (Kd.int .u8) 5 w w0.heap.size (fun k_ => (P0_ k_ ∨ w.heap.size≤k_)) u9000_ l0 from Kd.R_mono ho0 (fun k_ hk => (.inl hk)))
 have HK:=Aside0.mk (Kept.refl w (fun k_ => P0_ k_))
 have HW0:=Aside0.mk hB.size
 have HB:=Aside0.mk hB
 clear hB
 have H:(if a1 > 0 then (text_unit.j0 k l0 a1 (decide (a1 < 128))) else (text_unit.j0 k l0 a1 false))=some r:=h
 clear h
 have HC3:=Aside0.mk H
 clear H
 go_enter Tryd.func69,Tryd.ntmps69
 go_upto_region 1 with (fail)
 go_cut [5] (fun v5 wc => ∃ (kq:Nat) (x5_2:Bool),v5=.bool x5_2∧Aside0 (text_unit.j0 kq l0 a1 x5_2=some r)∧Aside0 (kq≤k)∧Aside0 (Kd.R (Kd.int .u8) 5 wc w0.heap.size (fun k_ => (P0_ k_ ∨ w.heap.size≤k_)) u9000_ l0)∧Aside0 (Kept w wc (fun k_ => P0_ k_))∧Aside0 (Below w0.heap.size w0 wc))
 case first =>
  have H:=HC3.out
  clear HC3
  by_cases c4:a1 > 0
  ·rw [if_pos c4] at H
   have c4b0:decide (0 < a1)=true:=decide_eq_true c4
   clear c4
   (first|rw [c4b0]|(simp only [i64_w,i32_w];rw [c4b0])|skip)
   have H':=Aside0.mk H
   clear H
   go_wp2
   go_meet
   case rel => exact ⟨_,(decide (a1 < 128)),r3_,H',⟨by first|omega|exact Nat.le_refl _⟩,⟨kr_ HO0.out⟩,⟨by repeat (first|(with_reducible first|exact HK.out|apply Kept.alloc|apply Kept.drewN|apply Kept.drew)|exact HK.out)⟩,⟨bl_⟩⟩
  ·rw [if_neg c4] at H
   have c4b0:decide (0 < a1)=false:=decide_eq_false c4
   clear c4
   (first|rw [c4b0]|(simp only [i64_w,i32_w];rw [c4b0])|skip)
   have H':=Aside0.mk H
   clear H
   go_wp2
   go_meet
   case rel => exact ⟨_,(false),r3_,H',⟨by first|omega|exact Nat.le_refl _⟩,⟨kr_ HO0.out⟩,⟨by repeat (first|(with_reducible first|exact HK.out|apply Kept.alloc|apply Kept.drewN|apply Kept.drew)|exact HK.out)⟩,⟨bl_⟩⟩
 case rest =>
  clear HC3
  obtain ⟨kq,x5_2,rfl,HA,HJ2,HO_0,HK,HB⟩:=hcut
  cases kq with
  | zero => exact absurd HA.out (by simp [text_unit.j0])
  | succ kj2 =>
   have H:=HA.out
   clear HA
   simp only [text_unit.j0] at H
   by_cases c5:x5_2=true
   ·subst c5
    rw [if_pos rfl] at H
    by_cases c6:l0.length < 140737488355328
    ·rw [if_pos c6] at H
     have LMc6:=Aside0.mk c6
     clear c6
     obtain ⟨y157,hy157⟩:∃ y_:List Int,y_=(l0++[(a1) % 256]):=⟨_,rfl⟩
     replace H:(some y157)=some r:=by first|(rw [hy157];with_reducible exact H)|(have H2_:=(Option.bind_some _ _).symm.trans H;rw [hy157];with_reducible exact H2_)|(have H2_:=(Option.bind_some _ _).symm.trans H;with_reducible exact H2_)|with_reducible exact H|(rw [hy157];exact H)|exact H
     have Ny157:=Aside0.mk hy157
     clear hy157
     obtain rfl:=Option.some.inj H
     go_wp2_with (first|((with_reducible refine gate_builtin (b:=.append) (xs:=#[.tmp 12,.tmp 15]) rfl ?_);at_builtin;refine Kd.R_append (Kd.int .u8) (w0:=w0) w0.heap.size rfl (.tmp 12) (.tmp 15) 94 5 (.int .u8 0) 1 rfl Tryd.underlying94 info5 rfl (by decide) (by omega) u9000_ l0 ((a1) % 256) [.int .u8 ((a1) % 256)] (fun k_ => (P0_ k_ ∨ w.heap.size≤k_)) (fun _ => False) rfl rfl ?aP (fun _ hk => hk.elim) ?aF ?aO ?aB ?aS ?aL ?_;(case aP => exact rfl);(case aB => exact bl_);(case aF => exact (fun k_ hk => (.inr (Nat.le_trans (by first|exact HK.out.1|exact (show Kept w _ (fun k_ => P0_ k_) from by repeat (first|(with_reducible first|exact HK.out|apply Kept.alloc|apply Kept.drewN|apply Kept.drew)|exact HK.out)).1) hk))));(case aO => exact (kr_ HO_0.out));(case aS => exact (below_size bl_));(case aL => have:=LMc6.out;omega);intro v158 w7 ho hb hg hat;rw [← Ny157.out] at ho;have n0_:=Aside0.mk (hb);have n1_:=Aside0.mk (Kept.of_grown (S:=(fun k_ => P0_ k_)) hg (by repeat (first|(with_reducible first|exact HK.out|apply Kept.alloc|apply Kept.drewN|apply Kept.drew)|exact HK.out)) (fun k_ e_ => (HO_0.out.1 k_ e_)));have n2_:=Aside0.mk (ho);clear HB;clear HK;clear HO_0;have HB:=n0_;have HK:=n1_;have HO159:=n2_;clear n0_ n1_ n2_;clear ho hb hg hat))
     go_ret
     exact ⟨_,ew_,kr_ HO159.out,bl_,by repeat (first|(with_reducible first|exact HK.out|apply Kept.alloc|apply Kept.drewN|apply Kept.drew)|exact HK.out)⟩
    ·rw [if_neg c6] at H
     exact absurd H (by simp)
   ·replace c5:=Bool.eq_false_iff.mpr c5
    subst c5
    rw [if_neg (show ¬ (false=true) by decide)] at H
    by_cases c8:a1 < 2048
    ·rw [if_pos c8] at H
     have c8b0:decide (a1 < 2048)=true:=decide_eq_true c8
     clear c8
     obtain ⟨y160,hy160⟩:∃ y_:List Int,y_=(([Go.bits .or .u8 192 ((a1 / 64) % 256),Go.bits .or .u8 128 ((Go.bits .and .i32 a1 63) % 256)]:List Int)):=⟨_,rfl⟩
     replace H:(if l0.length + y160.length < 140737488355328 then (some (l0++y160)) else (none))=some r:=by first|(rw [hy160];with_reducible exact H)|(have H2_:=(Option.bind_some _ _).symm.trans H;rw [hy160];with_reducible exact H2_)|(have H2_:=(Option.bind_some _ _).symm.trans H;with_reducible exact H2_)|with_reducible exact H|(rw [hy160];exact H)|exact H
     have Ny160:=Aside0.mk hy160
     clear hy160
     by_cases c9:l0.length + y160.length < 140737488355328
     ·rw [if_pos c9] at H
      have LMc9:=Aside0.mk c9
      clear c9
      obtain ⟨y163,hy163⟩:∃ y_:List Int,y_=(l0++y160):=⟨_,rfl⟩
      replace H:(some y163)=some r:=by first|(rw [hy163];with_reducible exact H)|(have H2_:=(Option.bind_some _ _).symm.trans H;rw [hy163];with_reducible exact H2_)|(have H2_:=(Option.bind_some _ _).symm.trans H;with_reducible exact H2_)|with_reducible exact H|(rw [hy163];exact H)|exact H
      have Ny163:=Aside0.mk hy163
      clear hy163
      obtain rfl:=Option.some.inj H
      go_wp2_with (first|((with_reducible refine gate_dst (N:=29) rfl ?_);refine Kd.R_lit (Kd.int .u8) _ 5 ?hg (N:=29) ?hd (xs:=([Go.bits .or .u8 192 ((a1 / 64) % 256),Go.bits .or .u8 128 ((Go.bits .and .i32 a1 63) % 256)]:List Int)) (inner:=[.int .u8 (Go.bits .or .u8 192 ((a1 / 64) % 256)),.int .u8 (Go.bits .or .u8 128 ((Go.bits .and .i32 a1 63) % 256))]) (ok:=fun _ => True) (okp:=fun _ => True) ?hr ?hp (fun _ hk => hk) trivial (Below.refl _ _) (Nat.le_refl _) (by simp) ?_;(case hd => rfl);(case hg => rfl);(case hr => first|(go_simp;done)|(go_simp;rfl));(case hp => exact (Reps.one (show Kd.M (Kd.int .u8) _ _ _ (Go.bits .or .u8 192 ((a1 / 64) % 256)) [.int .u8 (Go.bits .or .u8 192 ((a1 / 64) % 256))] from rfl) (Reps.one (show Kd.M (Kd.int .u8) _ _ _ (Go.bits .or .u8 128 ((Go.bits .and .i32 a1 63) % 256)) [.int .u8 (Go.bits .or .u8 128 ((Go.bits .and .i32 a1 63) % 256))] from rfl) (Reps.none _ _))));intro v161 w10 ho11 hb hg_ hnew_;clear hg_ hnew_;(first|rw [← Ny160.out] at ho11|(simp only [Int.reduceToNat] at ho11;rw [← Ny160.out] at ho11));have n0_:=Aside0.mk (Kd.R_elder' (kr_ HO_0.out) (Kd.R_base ho11) hb);have n1_:=Aside0.mk (Kd.R_lower (Kd.R_new' (Kd.R_newM (M:=fun k_ => (P0_ k_ ∨ w.heap.size≤k_)) ho11 (by first|exact HK.out.1|exact (show Kept w _ (fun k_ => P0_ k_) from by repeat (first|(with_reducible first|exact HK.out|apply Kept.alloc|apply Kept.drewN|apply Kept.drew)|exact HK.out)).1) (fun k_ h_ => .inr h_)) (Kd.R_lt (kr_ HO_0.out))) (below_size bl_));have n2_:=Aside0.mk (Kept.below (S:=(fun k_ => P0_ k_)) (by repeat (first|(with_reducible first|exact HK.out|apply Kept.alloc|apply Kept.drewN|apply Kept.drew)|exact HK.out)) hb);have n3_:=Aside0.mk (below_step bl_ hb);clear HO_0;clear HK;clear HB;have HO_0:=n0_;have HO162:=n1_;have HK:=n2_;have HB:=n3_;clear n0_ n1_ n2_ n3_;clear hb ho11;obtain ⟨Ao13,co13,eo13⟩:=Kd.R_slice HO162.out;subst eo13)|((with_reducible refine gate_builtin (b:=.append) (xs:=#[.tmp 20,.tmp 29]) rfl ?_);at_builtin;refine Kd.R_append_rows (Kd.int .u8) (w0:=w0) w0.heap.size rfl (.tmp 20) (.tmp 29) 94 5 (.int .u8 0) 1 rfl Tryd.underlying94 info5 rfl (by decide) (by omega) u9000_ l0 y160 _ _ _ (fun k_ => (P0_ k_ ∨ w.heap.size≤k_)∧some k_ ≠ (.slice Ao13 y160.length co13:Value).ownBlock) (fun _ => False) rfl rfl ?aO ?aR (fun _ _ h => h) (fun _ h => h.elim) ?aF ?aB ?aS ?aL ?_;(case aR => exact kc_ (Kd.R_reads' HO162.out).2.2);(case aB => exact bl_);(case aF => exact (fun k_ hk => ⟨(.inr (Nat.le_trans (by first|exact HK.out.1|exact (show Kept w _ (fun k_ => P0_ k_) from by repeat (first|(with_reducible first|exact HK.out|apply Kept.alloc|apply Kept.drewN|apply Kept.drew)|exact HK.out)).1) hk)),Kd.fresh' (Kd.R_lt (kr_ HO162.out)) k_ hk⟩));(case aO => exact (kr_ HO_0.out));(case aS => exact (below_size bl_));(case aL => have:=LMc9.out;omega);intro v164 w12 ho hb hg hat;rw [← Ny163.out] at ho;have n0_:=Aside0.mk (Kd.R_after (ok:=(fun k_ => (P0_ k_ ∨ w.heap.size≤k_))) (by (with_reducible repeat (first|apply Kd.R_alloc|apply Kd.R_drewN|apply Kd.R_drew));exact Kd.R_mono HO162.out (fun _ hk => ⟨hk.1.1,hk.2⟩)) hg hat);have n1_:=Aside0.mk (hb);have n2_:=Aside0.mk (Kept.of_grown (S:=(fun k_ => P0_ k_)) hg (by repeat (first|(with_reducible first|exact HK.out|apply Kept.alloc|apply Kept.drewN|apply Kept.drew)|exact HK.out)) (fun k_ e_ => (HO_0.out.1 k_ e_).1));have n3_:=Aside0.mk (ho);clear HO162;clear HB;clear HK;clear HO_0;have HO162:=n0_;have HB:=n1_;have HK:=n2_;have HO165:=n3_;clear n0_ n1_ n2_ n3_;clear ho hb hg hat))
      go_ret
      exact ⟨_,ew_,by (with_reducible repeat (first|apply Kd.R_alloc|apply Kd.R_drewN|apply Kd.R_drew));exact Kd.R_mono HO165.out (fun _ hk => hk.1),bl_,by repeat (first|(with_reducible first|exact HK.out|apply Kept.alloc|apply Kept.drewN|apply Kept.drew)|exact HK.out)⟩
     ·rw [if_neg c9] at H
      exact absurd H (by simp)
    ·rw [if_neg c8] at H
     have c8b0:decide (a1 < 2048)=false:=decide_eq_false c8
     clear c8
     obtain ⟨y166,hy166⟩:∃ y_:List Int,y_=(([Go.bits .or .u8 224 ((a1 / 4096) % 256),Go.bits .or .u8 128 ((Go.bits .and .i32 (a1 / 64) 63) % 256),Go.bits .or .u8 128 ((Go.bits .and .i32 a1 63) % 256)]:List Int)):=⟨_,rfl⟩
     replace H:(if l0.length + y166.length < 140737488355328 then (some (l0++y166)) else (none))=some r:=by first|(rw [hy166];with_reducible exact H)|(have H2_:=(Option.bind_some _ _).symm.trans H;rw [hy166];with_reducible exact H2_)|(have H2_:=(Option.bind_some _ _).symm.trans H;with_reducible exact H2_)|with_reducible exact H|(rw [hy166];exact H)|exact H
     have Ny166:=Aside0.mk hy166
     clear hy166
     by_cases c14:l0.length + y166.length < 140737488355328
     ·rw [if_pos c14] at H
      have LMc14:=Aside0.mk c14
      clear c14
      obtain ⟨y169,hy169⟩:∃ y_:List Int,y_=(l0++y166):=⟨_,rfl⟩
      replace H:(some y169)=some r:=by first|(rw [hy169];with_reducible exact H)|(have H2_:=(Option.bind_some _ _).symm.trans H;rw [hy169];with_reducible exact H2_)|(have H2_:=(Option.bind_some _ _).symm.trans H;with_reducible exact H2_)|with_reducible exact H|(rw [hy169];exact H)|exact H
      have Ny169:=Aside0.mk hy169
      clear hy169
      obtain rfl:=Option.some.inj H
      go_wp2_with (first|((with_reducible refine gate_dst (N:=45) rfl ?_);refine Kd.R_lit (Kd.int .u8) _ 5 ?hg (N:=45) ?hd (xs:=([Go.bits .or .u8 224 ((a1 / 4096) % 256),Go.bits .or .u8 128 ((Go.bits .and .i32 (a1 / 64) 63) % 256),Go.bits .or .u8 128 ((Go.bits .and .i32 a1 63) % 256)]:List Int)) (inner:=[.int .u8 (Go.bits .or .u8 224 ((a1 / 4096) % 256)),.int .u8 (Go.bits .or .u8 128 ((Go.bits .and .i32 (a1 / 64) 63) % 256)),.int .u8 (Go.bits .or .u8 128 ((Go.bits .and .i32 a1 63) % 256))]) (ok:=fun _ => True) (okp:=fun _ => True) ?hr ?hp (fun _ hk => hk) trivial (Below.refl _ _) (Nat.le_refl _) (by simp) ?_;(case hd => rfl);(case hg => rfl);(case hr => first|(go_simp;done)|(go_simp;rfl));(case hp => exact (Reps.one (show Kd.M (Kd.int .u8) _ _ _ (Go.bits .or .u8 224 ((a1 / 4096) % 256)) [.int .u8 (Go.bits .or .u8 224 ((a1 / 4096) % 256))] from rfl) (Reps.one (show Kd.M (Kd.int .u8) _ _ _ (Go.bits .or .u8 128 ((Go.bits .and .i32 (a1 / 64) 63) % 256)) [.int .u8 (Go.bits .or .u8 128 ((Go.bits .and .i32 (a1 / 64) 63) % 256))] from rfl) (Reps.one (show Kd.M (Kd.int .u8) _ _ _ (Go.bits .or .u8 128 ((Go.bits .and .i32 a1 63) % 256)) [.int .u8 (Go.bits .or .u8 128 ((Go.bits .and .i32 a1 63) % 256))] from rfl) (Reps.none _ _)))));intro v167 w15 ho16 hb hg_ hnew_;clear hg_ hnew_;(first|rw [← Ny166.out] at ho16|(simp only [Int.reduceToNat] at ho16;rw [← Ny166.out] at ho16));have n0_:=Aside0.mk (Kd.R_elder' (kr_ HO_0.out) (Kd.R_base ho16) hb);have n1_:=Aside0.mk (Kd.R_lower (Kd.R_new' (Kd.R_newM (M:=fun k_ => (P0_ k_ ∨ w.heap.size≤k_)) ho16 (by first|exact HK.out.1|exact (show Kept w _ (fun k_ => P0_ k_) from by repeat (first|(with_reducible first|exact HK.out|apply Kept.alloc|apply Kept.drewN|apply Kept.drew)|exact HK.out)).1) (fun k_ h_ => .inr h_)) (Kd.R_lt (kr_ HO_0.out))) (below_size bl_));have n2_:=Aside0.mk (Kept.below (S:=(fun k_ => P0_ k_)) (by repeat (first|(with_reducible first|exact HK.out|apply Kept.alloc|apply Kept.drewN|apply Kept.drew)|exact HK.out)) hb);have n3_:=Aside0.mk (below_step bl_ hb);clear HO_0;clear HK;clear HB;have HO_0:=n0_;have HO168:=n1_;have HK:=n2_;have HB:=n3_;clear n0_ n1_ n2_ n3_;clear hb ho16;obtain ⟨Ao18,co18,eo18⟩:=Kd.R_slice HO168.out;subst eo18)|((with_reducible refine gate_builtin (b:=.append) (xs:=#[.tmp 31,.tmp 45]) rfl ?_);at_builtin;refine Kd.R_append_rows (Kd.int .u8) (w0:=w0) w0.heap.size rfl (.tmp 31) (.tmp 45) 94 5 (.int .u8 0) 1 rfl Tryd.underlying94 info5 rfl (by decide) (by omega) u9000_ l0 y166 _ _ _ (fun k_ => (P0_ k_ ∨ w.heap.size≤k_)∧some k_ ≠ (.slice Ao18 y166.length co18:Value).ownBlock) (fun _ => False) rfl rfl ?aO ?aR (fun _ _ h => h) (fun _ h => h.elim) ?aF ?aB ?aS ?aL ?_;(case aR => exact kc_ (Kd.R_reads' HO168.out).2.2);(case aB => exact bl_);(case aF => exact (fun k_ hk => ⟨(.inr (Nat.le_trans (by first|exact HK.out.1|exact (show Kept w _ (fun k_ => P0_ k_) from by repeat (first|(with_reducible first|exact HK.out|apply Kept.alloc|apply Kept.drewN|apply Kept.drew)|exact HK.out)).1) hk)),Kd.fresh' (Kd.R_lt (kr_ HO168.out)) k_ hk⟩));(case aO => exact (kr_ HO_0.out));(case aS => exact (below_size bl_));(case aL => have:=LMc14.out;omega);intro v170 w17 ho hb hg hat;rw [← Ny169.out] at ho;have n0_:=Aside0.mk (Kd.R_after (ok:=(fun k_ => (P0_ k_ ∨ w.heap.size≤k_))) (by (with_reducible repeat (first|apply Kd.R_alloc|apply Kd.R_drewN|apply Kd.R_drew));exact Kd.R_mono HO168.out (fun _ hk => ⟨hk.1.1,hk.2⟩)) hg hat);have n1_:=Aside0.mk (hb);have n2_:=Aside0.mk (Kept.of_grown (S:=(fun k_ => P0_ k_)) hg (by repeat (first|(with_reducible first|exact HK.out|apply Kept.alloc|apply Kept.drewN|apply Kept.drew)|exact HK.out)) (fun k_ e_ => (HO_0.out.1 k_ e_).1));have n3_:=Aside0.mk (ho);clear HO168;clear HB;clear HK;clear HO_0;have HO168:=n0_;have HB:=n1_;have HK:=n2_;have HO171:=n3_;clear n0_ n1_ n2_ n3_;clear ho hb hg hat))
      go_ret
      exact ⟨_,ew_,by (with_reducible repeat (first|apply Kd.R_alloc|apply Kd.R_drewN|apply Kd.R_drew));exact Kd.R_mono HO171.out (fun _ hk => hk.1),bl_,by repeat (first|(with_reducible first|exact HK.out|apply Kept.alloc|apply Kept.drewN|apply Kept.drew)|exact HK.out)⟩
     ·rw [if_neg c14] at H
      exact absurd H (by simp)
end Go.Proofs.YtoonhpcjcimecaaDoor.Px
namespace Go.Proofs.YtoonhpcjcimecaaDoor.Px
open Go.RowKit Go.Proofs.YtoonhpcjcimecaaDoorW.PrintWords Go.Proofs.YtoonhpcjcimecaaDoorW.PrintLast Go.Proofs.YtoonhpcjcimecaaDoorW.PrintMore
set_option linter.unusedVariables false
set_option linter.unusedSimpArgs false
def text_Encode.one (k:Nat) (b:List Int) (c:Int):Option (List Int) :=
 (text_split.f c).bind fun t => if t.1=0 then text_unit.f k b t.2 else (text_unit.f k b t.1).bind fun b1 => text_unit.f k b1 t.2
def text_Encode.l0:Nat→ByteArray→Nat→List Int→Option (List Int × Int)
 | 0,_,_,_ => none
 | k + 1,s,p,b => if p < s.size then (text_Encode.one k b ((Utf8.decode s p).1:Int)).bind fun b1 => text_Encode.l0 k s (p + (Utf8.decode s p).2) b1 else some (b,0)
def text_Encode.f (k:Nat) (a0:ByteArray):Option (List Int × Int) :=
 if a0.size≤9223372036854775807 then (if Lib.validD a0.data.toList=true then text_Encode.l0 k a0 0 [] else some ([],20)) else none
theorem text_Encode.width (s:ByteArray) (pos:Nat) (h:pos < s.size):1≤(Utf8.decode s pos).2:=by
 by_cases ha:(s[pos]'h).toNat < 128
 ·rw [decode_ascii s pos h ha];exact Nat.le_refl _
 ·exact (decode_high s pos h (by omega)).2
theorem R_iterAt {w:World} {base:Nat} {v:Value} {xs:List Int} {k:Nat} {s:ByteArray} {p:Nat} (h:Kd.R (Kd.int .u8) 5 w base (fun _ => True) v xs) (hk:w.heap[k]?=some (.stringIter s p)) (p':Nat) :
  Kd.R (Kd.int .u8) 5 (w.iterAt k s p') base (fun _ => True) v xs:=by
 refine Kd.R_step (Kd.R_mono (Kd.R_bound h) (fun _ hk => hk.2)) (fun j hj _ => ?_) |> fun z => Kd.R_mono z (fun _ _ => trivial)
 obtain ⟨_,_,q,_,cells,hc⟩:=hj
 refine Lib.iterAt_other w k j s p' ?_
 rintro rfl
 rw [hk] at hc
 cases hc
theorem R_noIter {w:World} {base:Nat} {ok:Nat→Prop} {v:Value} {xs:List Int} {it:Nat} {s:ByteArray} {p:Nat} (h:Kd.R (Kd.int .u8) 5 w base ok v xs) (hk:w.heap[it]?=some (.stringIter s p)) :
  Kd.R (Kd.int .u8) 5 w base (fun k => k ≠ it) v xs:=by
 refine Kd.R_mono (Kd.R_bound h) (fun j hj => ?_)
 obtain ⟨_,_,_,q,_,cells,hc⟩:=hj
 rintro rfl
 rw [hk] at hc
 cases hc
theorem valid_calls (s:ByteArray) (w:World) (hs:s.size≤9223372036854775807) (hG:GG w) :
  Calls Tryd.prog 67 #[.string s] w fun e w' => e=.returned (.bool (Lib.validD s.data.toList))∧Below w.heap.size w w' :=
 Any.utf8_ValidString Tryd.laysValid s w hs hG.tabs
theorem R_mk (w w1:World) (h:w.heap.size≤w1.heap.size) (s:ByteArray):Kd.R (Kd.int .u8) 5 ((w1.alloc (.cells #[] 5)).iter s 0) w.heap.size (fun _ => True) (.slice (some ⟨w1.heap.size,0,none⟩) 0 0) []:=by
 have h1:=World.ownsRow_lit (base:=w.heap.size) (e:=5) (size:=1) w1 #[] 0 h (by simp [maxLen]) (by simp)
 have h2:Kd.R (Kd.int .u8) 5 (w1.alloc (.cells #[] 5)) w.heap.size (fun _ => True) (.slice (some ⟨w1.heap.size,0,none⟩) 0 0) [] :=
  ⟨fun _ _ => trivial,[],by simp only [List.length_nil];exact (by simpa using h1:World.ownsRow _ _ _ 1 _ 0 []),Reps.none _ _⟩
 exact Kd.R_below h2 (((Below.refl _ _).alloc (Nat.le_refl _) _))
set_option maxHeartbeats 4000000 in
set_option maxRecDepth 100000 in
theorem text_Encode.calls (k:Nat) (a0:ByteArray) (r1:List Int) (r2:Int) (w:World) (hG:Aside0 (GG w)) (h:text_Encode.f k a0=some (r1,r2)) :
  Calls Tryd.prog 60 #[.string a0] w fun e w' => ∃ v0_:Value,e=.returned (.tuple #[v0_,.int .i64 r2])∧Kd.R (Kd.int .u8) 5 w' w.heap.size (fun _ => True) v0_ r1∧Below w.heap.size w w':=by
 unfold text_Encode.f at h
 by_cases hs:a0.size≤9223372036854775807
 ·rw [if_pos hs] at h
  have cV:=valid_calls a0 w hs hG.out
  by_cases hv:Lib.validD a0.data.toList=true
  ·rw [if_pos hv] at h
   rw [hv] at cV
   have H0:=Aside0.mk h
   clear h hv hs
   go_enter Tryd.func60,Tryd.ntmps60
   go_wp2_with (go_at_call 67;refine cV.mono ?_;rintro e w1 ⟨rfl,hb1⟩)
   have hz1:w.heap.size≤w1.heap.size:=hb1.size
   go_loopg [4] k (fun kq v wr => ∃ (pos:Nat) (b:List Int),Aside0 (text_Encode.l0 kq a0 pos b=some (r1,r2))∧Aside0 (kq≤k)∧Aside0 (Kd.R (Kd.int .u8) 5 wr w.heap.size (fun _ => True) v b)∧Aside0 (wr.heap[w1.heap.size + 1]?=some (.stringIter a0 pos))∧Aside0 (Below w.heap.size w wr))
   case atStart =>
    refine ⟨0,[],H0,⟨Nat.le_refl _⟩,⟨R_mk w w1 hz1 a0⟩,⟨?_⟩,⟨below_then hb1 hz1 (((Below.refl _ w1).alloc (Nat.le_refl _) _).alloc (by simp) _)⟩⟩
    have:=World.iter_heap (w1.alloc (.cells #[] 5)) a0 0
    simpa using this
   case round =>
    obtain ⟨pos,b,HA,HK,HR,HI,HB⟩:=hrel
    cases gk with
    | zero => exact absurd HA.out (by simp [text_Encode.l0])
    | succ k1 =>
    have hlt:w1.heap.size + 1 < wr.heap.size:=(Array.getElem?_eq_some_iff.1 HI.out).1
    have H:=HA.out
    clear HA
    simp only [text_Encode.l0] at H
    by_cases hp:pos < a0.size
    ·rw [if_pos hp] at H
     replace H:=Option.bind_eq_some_iff.mp H
     obtain ⟨b1,h1,H⟩:=H
     have H':=Aside0.mk H
     clear H
     unfold text_Encode.one at h1
     replace h1:=Option.bind_eq_some_iff.mp h1
     obtain ⟨⟨t1,t2⟩,hsp,h1⟩:=h1
     have HS:=Aside0.mk hsp
     clear hsp
     have hnx:∀ ty,(Instr.next (.pointer (some ⟨w1.heap.size + 1,0,none⟩)) true ty).run Tryd.prog wr=_:=fun ty => Lib.run_next_any_at wr (w1.heap.size + 1) a0 pos ty HI.out hp
     have hz:w.heap.size≤wr.heap.size:=HB.out.size
     by_cases hc:t1=0
     ·rw [if_pos hc] at h1
      have hc0:(t1 != 0)=false:=bne_eq_false_iff_eq.mpr hc
      clear hc
      have H1:=Aside0.mk h1
      clear h1
      go_wp2_with fail
      refine (text_split.calls _ t1 t2 _ HS.out).mono ?_
      rintro e w' ⟨rfl,⟨⟨nd,rfl⟩⟩⟩
      go_wp2_with fail
      refine (text_unit.calls k1 (fun j => j ≠ w1.heap.size + 1) _ b t2 b1 w _ ?side1 ?side2 H1.out).mono ?_
      case side1 => exact pw_below_drewN (Lib.below_iterAt HB.out (by omega) _ _) _
      case side2 => exact R_noIter (Kd.R_drewN (R_iterAt HR.out HI.out _) _) (Lib.iterAt_heap _ _ _ _ _ HI.out)
      rintro e w2 ⟨v1,rfl,ho,hb2,hk2⟩
      have hi2:w2.heap[w1.heap.size + 1]?=some (.stringIter a0 (pos + (Utf8.decode a0 pos).2)):=(hk2.2 _ (by simpa [Lib.iterAt_size] using hlt) (by simp)).trans (Lib.iterAt_heap _ _ _ _ _ HI.out)
      go_wp2
      go_roundg k1
      case measure => have:=HK.out;omega
      case rel => exact ⟨_,b1,H',⟨by have:=HK.out;omega⟩,⟨Kd.R_mono ho (fun _ _ => trivial)⟩,⟨hi2⟩,⟨hb2⟩⟩
     ·rw [if_neg hc] at h1
      replace h1:=Option.bind_eq_some_iff.mp h1
      obtain ⟨b2,h2,h1⟩:=h1
      have hc0:(t1 != 0)=true:=bne_iff_ne.mpr hc
      clear hc
      have H1:=Aside0.mk h1
      have H2:=Aside0.mk h2
      clear h1 h2
      go_wp2_with fail
      refine (text_split.calls _ t1 t2 _ HS.out).mono ?_
      rintro e w' ⟨rfl,⟨⟨nd,rfl⟩⟩⟩
      go_wp2_with fail
      refine (text_unit.calls k1 (fun j => j ≠ w1.heap.size + 1) _ b t1 b2 w _ ?side1 ?side2 H2.out).mono ?_
      case side1 => exact pw_below_drewN (Lib.below_iterAt HB.out (by omega) _ _) _
      case side2 => exact R_noIter (Kd.R_drewN (R_iterAt HR.out HI.out _) _) (Lib.iterAt_heap _ _ _ _ _ HI.out)
      rintro e w2 ⟨v1,rfl,ho,hb2,hk2⟩
      have hi2:=Aside0.mk (show w2.heap[w1.heap.size + 1]?=some (.stringIter a0 (pos + (Utf8.decode a0 pos).2)) from (hk2.2 _ (by simpa [Lib.iterAt_size] using hlt) (by simp)).trans (Lib.iterAt_heap _ _ _ _ _ HI.out))
      have ho2:=Aside0.mk ho
      clear hk2 ho
      go_wp2_with fail
      refine (text_unit.calls k1 (fun j => j ≠ w1.heap.size + 1) _ b2 t2 b1 w _ ?side1 ?side2 H1.out).mono ?_
      case side1 => exact hb2
      case side2 => exact R_noIter ho2.out hi2.out
      rintro e w3 ⟨v2,rfl,ho,hb3,hk3⟩
      have hi3:=(hk3.2 _ (Array.getElem?_eq_some_iff.1 hi2.out).1 (by simp)).trans hi2.out
      go_wp2
      go_roundg k1
      case measure => have:=HK.out;omega
      case rel => exact ⟨_,b1,H',⟨by have:=HK.out;omega⟩,⟨Kd.R_mono ho (fun _ _ => trivial)⟩,⟨hi3⟩,⟨hb3⟩⟩
    ·rw [if_neg hp] at H
     simp only [Option.some.injEq,Prod.mk.injEq] at H
     obtain ⟨rfl,rfl⟩:=H
     have hnx:∀ ty,(Instr.next (.pointer (some ⟨w1.heap.size + 1,0,none⟩)) true ty).run Tryd.prog wr=_:=fun ty => Lib.run_next_end_at wr (w1.heap.size + 1) a0 pos ty HI.out hp
     go_wp2
     go_ret2
     exact ⟨_,rfl,HR.out,HB.out⟩
  ·rw [if_neg hv] at h
   have hv':Lib.validD a0.data.toList=false:=by simpa using hv
   rw [hv'] at cV
   simp only [Option.some.injEq,Prod.mk.injEq] at h
   obtain ⟨rfl,rfl⟩:=h
   clear hv hv' hs
   go_enter Tryd.func60,Tryd.ntmps60
   go_wp2_with (go_at_call 67;refine cV.mono ?_;rintro e w1 ⟨rfl,hb1⟩)
   go_ret2
   exact ⟨_,rfl,Kd.R_nil _ _ _ _ _,hb1⟩
 ·rw [if_neg hs] at h
  exact absurd h (by simp)
end Go.Proofs.YtoonhpcjcimecaaDoor.Px
namespace Go.Proofs.YtoonhpcjcimecaaDoor.Px
open Go.RowKit Go.Proofs.YtoonhpcjcimecaaDoorW.PrintWords Go.Proofs.YtoonhpcjcimecaaDoorW.PrintLast Go.Proofs.YtoonhpcjcimecaaDoorW.PrintMore
set_option linter.unusedVariables false
set_option linter.unusedSimpArgs false
abbrev Cst:=S108
def sameC (c:Cst) (x:Int × ByteArray × Int × Int × Int):Bool:=c.f0==x.1 && (c.f1.toList==x.2.1.toList && (c.f2==x.2.2.1 && (c.f3==x.2.2.2.1 && c.f4==x.2.2.2.2)))
def pool_check.l0:Nat→List Cst→Nat→Option (Option (Int × Int))
 | 0,_,_ => none
 | k + 1,p,i =>
  if i + 1 < p.length then
   (pool_fields.f k (rd_T108 p (i + 1)).f0 (rd_T108 p (i + 1)).f1 (rd_T108 p (i + 1)).f2 (rd_T108 p (i + 1)).f3 (rd_T108 p (i + 1)).f4).bind fun x =>
   if sameC (rd_T108 p (i + 1)) x=true then
    (pool_leads.f k p (rd_T108 p (i + 1)).f0 (rd_T108 p (i + 1)).f1 (rd_T108 p (i + 1)).f2 (rd_T108 p (i + 1)).f3 (rd_T108 p (i + 1)).f4).bind fun t =>
    if t=true then
     (text_Encode.f k (rd_T108 p (i + 1)).f1).bind fun b =>
     if b.2=0 then (if (b.1.length:Int) > 256 then some (some ((i:Int) + 1,20)) else pool_check.l0 k p (i + 1)) else some (some ((i:Int) + 1,20))
    else some (some ((i:Int) + 1,40))
   else some (some ((i:Int) + 1,40))
  else some none
def pool_check.f (k:Nat) (p:List Cst):Option (Option (Int × Int)) :=
 if p.length > 1024 then some (some (0,2)) else if p.length=0 then some (some (0,40)) else if sameC (rd_T108 p 0) (0,⟨#[]⟩,0,0,0)=true then pool_check.l0 k p 0 else some (some (0,40))
def pool_Check.f (k:Nat) (p:List Cst):Option Int:=(pool_check.f k p).bind fun r => some (match r with|none => 0|some (_,y) => y)
def IsWrong (w':World) (r:Option (Int × Int)) (e:Ending):Prop :=
 match r with
 | none => e=.returned .nilIface
 | some q => ∃ g,e=.returned (.iface 110 (.pointer (some ⟨g,0,none⟩)))∧w'.heap[g]?=some (.cells #[.int .i64 q.1,.int .i64 q.2] 117 (0,0))
theorem eqC0 (d:Nat) (w:World) (x0 y0:Int) (x1 y1:ByteArray) (x2 y2:Int) (x3 y3:Int) (x4 y4:Int) :
  (Op.equalIn (d + 2) 108 (.agg #[.int .i64 x0,.string x1,.int .i64 x2,.int .i64 x3,.int .i64 x4]) (.agg #[.int .i64 y0,.string y1,.int .i64 y2,.int .i64 y3,.int .i64 y4])).run Tryd.prog w=.ok (x0==y0 && (x1.toList==y1.toList && (x2==y2 && (x3==y3 && (x4==y4))))) w:=by
 refine eqA_of Tryd.underlying108 (by kernel_rfl) ?_
 refine eqf_cons (by rfl) (by go_simp;rfl) (by go_simp;rfl) (by go_simp) ?_
 refine eqf_cons (by rfl) (by go_simp;rfl) (by go_simp;rfl) (by go_simp) ?_
 refine eqf_cons (by rfl) (by go_simp;rfl) (by go_simp;rfl) (by go_simp) ?_
 refine eqf_cons (by rfl) (by go_simp;rfl) (by go_simp;rfl) (by go_simp) ?_
 exact eqf_last (by rfl) (by go_simp;rfl) (by go_simp;rfl) (by go_simp)
theorem eqC (d:Nat) (W:World) (c:Cst) (x1:Int) (x2:ByteArray) (x3 x4 x5:Int) :
  (Op.equalIn (d + 2) 108 (.agg #[.int .i64 c.f0,.string c.f1,.int .i64 c.f2,.int .i64 c.f3,.int .i64 c.f4]) (.agg #[.int .i64 x1,.string x2,.int .i64 x3,.int .i64 x4,.int .i64 x5])).run Tryd.prog W=.ok (sameC c (x1,x2,x3,x4,x5)) W :=
 eqC0 d W _ _ _ _ _ _ _ _ _ _
attribute [local go_sem high] eqC
set_option maxHeartbeats 80000000 in
set_option maxRecDepth 100000 in
theorem pool_check.calls (k:Nat) (A0:Option Addr) (c0:Nat) (p:List Cst) (r:Option (Int × Int)) (w:World) (hG:Aside0 (GG w)) (hr0:Kd.C k108 w A0 p.length p) (hc0:p.length≤c0) (h:pool_check.f k p=some r) :
  Calls Tryd.prog 47 #[.slice A0 p.length c0] w fun e w' => IsWrong w' r e∧Below w.heap.size w w':=by
 have hu1:=Tryd.underlying108
 have hu2:=Tryd.underlying117
 have HR:=Aside0.mk hr0
 have HC:=Aside0.mk hc0
 have HB0:=Aside0.mk (Below.refl w.heap.size w)
 clear hr0 hc0
 unfold pool_check.f at h
 by_cases c1:p.length > 1024
 ·rw [if_pos c1] at h
  obtain rfl:=Option.some.inj h
  have c1b:decide (1024 < p.length)=true:=decide_eq_true c1
  have c1i:decide ((1024:Int) < (p.length:Int))=true:=decide_eq_true (by omega)
  clear c1 h
  go_enter Tryd.func47,Tryd.ntmps47
  go_wp2_with ((with_reducible refine gate_dst (N:=12) rfl ?_);refine box_event ?hg (N:=12) ?hd (cs:=#[.int .i64 0,.int .i64 2]) (t:=117) ?hr ?_;(case hd => rfl);(case hg => rfl);(case hr => first|(go_simp;done)|(go_simp;rfl));intro gb hg w1 hbox hb;have BK:=Aside0.mk hbox;have HB:=Aside0.mk (below_step HB0.out hb);clear hbox hb hg)
  go_ret
  exact ⟨⟨gb,rfl,BK.out⟩,HB.out⟩
 rw [if_neg c1] at h
 have c1b:decide (1024 < p.length)=false:=decide_eq_false c1
 have c1i:decide ((1024:Int) < (p.length:Int))=false:=decide_eq_false (by omega)
 clear c1
 by_cases c2:p.length=0
 ·rw [if_pos c2] at h
  obtain rfl:=Option.some.inj h
  have c2i:((p.length:Int)==0)=true:=beq_iff_eq.mpr (by omega)
  have c2n:(p.length==0)=true:=beq_iff_eq.mpr c2
  clear c2 h
  go_enter Tryd.func47,Tryd.ntmps47
  go_wp2_with ((with_reducible refine gate_dst (N:=26) rfl ?_);refine box_event ?hg (N:=26) ?hd (cs:=#[.int .i64 0,.int .i64 40]) (t:=117) ?hr ?_;(case hd => rfl);(case hg => rfl);(case hr => first|(go_simp;done)|(go_simp;rfl));intro gb hg w1 hbox hb;have BK:=Aside0.mk hbox;have HB:=Aside0.mk (below_step HB0.out hb);clear hbox hb hg)
  go_ret
  exact ⟨⟨gb,rfl,BK.out⟩,HB.out⟩
 rw [if_neg c2] at h
 have c2i:((p.length:Int)==0)=false:=beq_eq_false_iff_ne.mpr (by omega)
 have HL:=Aside0.mk (show 0 < p.length by omega)
 clear c2
 obtain ⟨ad,ea,hx0,hx1,hx2,hx3,hx4⟩:=at_T108 HR.out 0 (by omega) (by have:=HL.out;omega)
 subst ea
 have qi:(0 < p.length)=True:=eq_true HL.out
 simp only [show ((0:Int)).toNat=0 from rfl,Nat.zero_mul,Addr.add_zero'] at hx0 hx1 hx2 hx3 hx4
 by_cases c3:sameC (rd_T108 p 0) (0,⟨#[]⟩,0,0,0)=true
 ·rw [if_pos c3] at h
  have hEq:sameC (rd_T108 p 0) (0,⟨#[]⟩,0,0,0)=true:=c3
  have HH:=Aside0.mk h
  clear c3 h
  obtain ⟨i0,hi0,_,hsz,_⟩:=info_parts info108
  have hs1:=cut_from (P:=Tryd.prog) 39 108 .i64 Tryd.underlying39 hi0 5 hsz (some ad) p.length c0 1 (by decide) (by have:=HL.out;omega)
  obtain ⟨A1,hA1⟩:∃ A1,A1=(if c0=(1:Int).toNat then some ad else (some ad).map (·.add ((1:Int).toNat * 5))):=⟨_,rfl⟩
  rw [← hA1] at hs1
  have HD:=Aside0.mk (show Kd.C k108 w A1 (p.drop 1).length (p.drop 1) from by rw [hA1];exact Kd.C_drop (m:=1) (c:=c0) HR.out HL.out HC.out)
  clear hA1
  go_enter Tryd.func47,Tryd.ntmps47
  go_wp2
  clear hx0 hx1 hx2 hx3 hx4
  go_loopg [31] k (fun kq v31 w' => ∃ i:Nat,v31=.int .i64 (i:Int)∧Aside0 (pool_check.l0 kq p i=some r)∧Aside0 (kq≤k)∧Aside0 (i + 1≤p.length)∧Aside0 (Below w.heap.size w w'))
  case atStart => exact ⟨0,rfl,HH,⟨Nat.le_refl _⟩,⟨HL.out⟩,HB0⟩
  case round =>
   obtain ⟨i,rfl,HA,HK,HI,HB⟩:=hrel
   cases gk with
   | zero => exact absurd HA.out (by simp [pool_check.l0])
   | succ k1 =>
   have H:=HA.out
   clear HA
   simp only [pool_check.l0] at H
   have hlen:(p.drop 1).length=p.length - 1:=List.length_drop
   by_cases hp:i + 1 < p.length
   ·rw [if_pos hp] at H
    have hpi:decide ((i:Int) < ((p.length - 1:Nat):Int))=true:=decide_eq_true (by omega)
    have hpn:decide (i < p.length - 1)=true:=decide_eq_true (by omega)
    have hpt:(i < p.length - 1)=True:=eq_true (by omega)
    have hge:(0≤(i:Int))=True:=eq_true (by omega)
    have hrd:rd_T108 p ((i:Int) + 1)=rd_T108 (p.drop 1) (i:Int):=by
     unfold rd_T108
     rw [Int.toNat_natCast,show ((i:Int) + 1).toNat=i + 1 by omega,List.getD_eq_getElem?_getD,List.getD_eq_getElem?_getD,List.getElem?_drop,Nat.add_comm]
    rw [hrd] at H
    obtain ⟨a1,ea,hx0,hx1,hx2,hx3,hx4⟩:=at_T108 (Kd.C_below HD.out HB.out) (i:Int) (by omega) (by omega)
    subst ea
    simp only [Int.toNat_natCast] at hx0 hx1 hx2 hx3 hx4
    obtain ⟨cc,hcc⟩:∃ cc,cc=rd_T108 (p.drop 1) (i:Int):=⟨_,rfl⟩
    rw [← hcc] at H hx0 hx1 hx2 hx3 hx4
    have hcap:p.length≤1024:=by simpa using c1b
    have HPI:=Aside0.mk (show i < 1024 from by omega)
    clear hp hcc hrd
    obtain ⟨⟨x1,x2,x3,x4,x5⟩,hf,H⟩:=Option.bind_eq_some_iff.mp H
    have HF:=Aside0.mk hf
    clear hf
    go_wp2_with (first|((with_reducible refine gate_dst (N:=4) rfl ?_);refine box_event ?hg (N:=4) ?hd (cs:=#[.int .i64 0,.string (⟨#[]⟩:ByteArray),.int .i64 0,.int .i64 0,.int .i64 0]) (t:=108) ?hr ?_;(case hd => rfl);(case hg => rfl);(case hr => first|(go_simp;done)|(go_simp;rfl));intro gb hg w1 hbox hb;have BK:=Aside0.mk hbox;have GE:=Aside0.mk (show w.heap.size≤gb from by rw [hg];exact HB.out.size);have HB1:=Aside0.mk (below_step HB.out hb);have hz0:w1.cell? ⟨gb,0,none⟩=some (.int .i64 0):=(blk_cell BK.out 0).trans rfl;have hz1:w1.cell? ⟨gb,1,none⟩=some (.string (⟨#[]⟩:ByteArray)):=(blk_cell BK.out 1).trans rfl;have hz2:w1.cell? ⟨gb,2,none⟩=some (.int .i64 0):=(blk_cell BK.out 2).trans rfl;have hz3:w1.cell? ⟨gb,3,none⟩=some (.int .i64 0):=(blk_cell BK.out 3).trans rfl;have hz4:w1.cell? ⟨gb,4,none⟩=some (.int .i64 0):=(blk_cell BK.out 4).trans rfl;have hf0:=blk_frozen BK.out 0;have hf1:=blk_frozen BK.out 1;have hf2:=blk_frozen BK.out 2;have hf3:=blk_frozen BK.out 3;have hf4:=blk_frozen BK.out 4;clear hbox hb hg)|((with_reducible refine gate_store (t:=108) (p:=4) rfl ?_);refine store_event (t:=108) (p:=4) (v:=?vo_) (w1:=(((((w1.setCell ⟨gb,0,none⟩ (.int .i64 cc.f0)).setCell ⟨gb,1,none⟩ (.string cc.f1)).setCell ⟨gb,2,none⟩ (.int .i64 cc.f2)).setCell ⟨gb,3,none⟩ (.int .i64 cc.f3)).setCell ⟨gb,4,none⟩ (.int .i64 cc.f4))) ?hg ?ho ?hn ?hr ?_;(case ho => rfl);(case hg => rfl);(case hn => rfl);(case hr => first|(go_simp;done)|(go_simp;rfl));intro w2 hw;have BK2:=Aside0.mk (show w2.heap[gb]?=some (.cells #[.int .i64 cc.f0,.string cc.f1,.int .i64 cc.f2,.int .i64 cc.f3,.int .i64 cc.f4] 108 (0,0)) from by rw [hw];refine blk_put (cs:=#[.int .i64 cc.f0,.string cc.f1,.int .i64 cc.f2,.int .i64 cc.f3,.int .i64 0]) ?_ 4 _ rfl;refine blk_put (cs:=#[.int .i64 cc.f0,.string cc.f1,.int .i64 cc.f2,.int .i64 0,.int .i64 0]) ?_ 3 _ rfl;refine blk_put (cs:=#[.int .i64 cc.f0,.string cc.f1,.int .i64 0,.int .i64 0,.int .i64 0]) ?_ 2 _ rfl;refine blk_put (cs:=#[.int .i64 cc.f0,.string (⟨#[]⟩:ByteArray),.int .i64 0,.int .i64 0,.int .i64 0]) ?_ 1 _ rfl;refine blk_put (cs:=#[.int .i64 0,.string (⟨#[]⟩:ByteArray),.int .i64 0,.int .i64 0,.int .i64 0]) ?_ 0 _ rfl;exact BK.out);have HB2:=Aside0.mk (show Below w.heap.size w w2 from by rw [hw];refine below_set ?_ GE.out;refine below_set ?_ GE.out;refine below_set ?_ GE.out;refine below_set ?_ GE.out;refine below_set ?_ GE.out;exact HB1.out);have hc0:w2.cell? ⟨gb,0,none⟩=some (.int .i64 cc.f0):=(blk_cell BK2.out 0).trans rfl;have hc1:w2.cell? ⟨gb,1,none⟩=some (.string cc.f1):=(blk_cell BK2.out 1).trans rfl;have hc2:w2.cell? ⟨gb,2,none⟩=some (.int .i64 cc.f2):=(blk_cell BK2.out 2).trans rfl;have hc3:w2.cell? ⟨gb,3,none⟩=some (.int .i64 cc.f3):=(blk_cell BK2.out 3).trans rfl;have hc4:w2.cell? ⟨gb,4,none⟩=some (.int .i64 cc.f4):=(blk_cell BK2.out 4).trans rfl;clear hw))
    by_cases hs:sameC cc (x1,x2,x3,x4,x5)=true
    ·rw [if_pos hs] at H
     have hEqc:sameC cc (x1,x2,x3,x4,x5)=true:=hs
     have hwi:wrap64 ((i:Int) + 1)=(i:Int) + 1:=by have:=HPI.out;unfold wrap64;omega
     clear hs
     obtain ⟨t,hld,H⟩:=Option.bind_eq_some_iff.mp H
     have HLD:=Aside0.mk hld
     clear hld
     cases t with
     | false =>
      rw [if_neg (by simp)] at H
      obtain rfl:=Option.some.inj H
      clear H
      refine start_ (n:=10) (S:=fun w' => w'.cell? ⟨gb,0,none⟩=some (.int .i64 cc.f0)∧w'.cell? ⟨gb,1,none⟩=some (.string cc.f1)∧w'.cell? ⟨gb,2,none⟩=some (.int .i64 cc.f2)∧w'.cell? ⟨gb,3,none⟩=some (.int .i64 cc.f3)∧w'.cell? ⟨gb,4,none⟩=some (.int .i64 cc.f4)) (ds:=[]) #[false,false,false,false,false,false,false,false,false,false] (by kernel_rfl) rfl rfl ⟨hc0,hc1,hc2,hc3,hc4⟩ (fun hHeld => ?_)
      refine take_ (i:=0) (N:=some 36) (v:=?_) (a':=?_) #[true,false,false,false,false,false,false,false,false,false] rfl rfl (by kernel_rfl) (fun _ _ _ h => h) (Or.inl ⟨by rfl,?_⟩) hHeld ?_ ?_
      rotate_left
      ·rintro w' ⟨s0,s1,s2,s3,s4⟩
       go_simp
       with_reducible rfl
      rotate_left
      ·simp only [Act.put,List.setIfInBounds_toArray,List.set_cons_zero,List.set_cons_succ,i64_w,i32_w]
       rfl
      refine take_ (i:=1) (N:=some 37) (v:=?_) (a':=?_) #[true,true,false,false,false,false,false,false,false,false] rfl rfl (by kernel_rfl) (fun _ _ _ h => h) (Or.inl ⟨by rfl,?_⟩) hHeld ?_ ?_
      rotate_left
      ·rintro w' ⟨s0,s1,s2,s3,s4⟩
       go_simp
       with_reducible rfl
      rotate_left
      ·simp only [Act.put,List.setIfInBounds_toArray,List.set_cons_zero,List.set_cons_succ,i64_w,i32_w]
       rfl
      refine one_ (i:=2) (N:=some 38) #[true,true,true,false,false,false,false,false,false,false] rfl rfl (by kernel_rfl) (by decide) (fun K hK => ?_)
      refine goes_ Tryd.func58 (by kernel_rfl) rfl #[.agg #[.int .i64 cc.f0,.string cc.f1,.int .i64 cc.f2,.int .i64 cc.f3,.int .i64 cc.f4]] (by rfl) rfl rfl (by simp only [List.map_toArray,List.map_cons,List.map_nil];rfl) ?_
      with_reducible refine (pool_fields.calls k1 cc.f0 cc.f1 cc.f2 cc.f3 cc.f4 x1 x2 x3 x4 x5 _ HF.out).mono ?_
      rintro e w3 ⟨rfl,hb3⟩
      refine ⟨_,rfl,?_⟩
      have BK3:=Aside0.mk (blk_below (by first|exact BK2.out|exact blk_drewN BK2.out _|exact blk_drew BK2.out) hb3)
      have HB3:=Aside0.mk (below_step (by first|exact HB2.out|exact pw_below_drewN HB2.out _|exact below_drew1 HB2.out) hb3)
      clear hb3
      refine hK.out _ _ ⟨(blk_cell BK3.out 0).trans rfl,(blk_cell BK3.out 1).trans rfl,(blk_cell BK3.out 2).trans rfl,(blk_cell BK3.out 3).trans rfl,(blk_cell BK3.out 4).trans rfl⟩ (fun hHeld => ?_)
      clear hK K
      refine norm_ (a':=?_) ?_ ?_
      rotate_left
      ·show Act.put _ (some 38) _=_
       simp only [Act.put,List.setIfInBounds_toArray,List.set_cons_zero,List.set_cons_succ,i64_w,i32_w]
       rfl
      refine pure_ (i:=3) (N:=some 39) (v:=?_) (a':=?_) #[true,true,true,true,false,false,false,false,false,false] rfl rfl (by kernel_rfl) (fun _ _ _ h => h) (Or.inl ⟨by rfl,?_⟩) ?_ ?_
      rotate_left
      ·intro w'
       go_simp
       with_reducible rfl
      rotate_left
      ·simp only [Act.put,List.setIfInBounds_toArray,List.set_cons_zero,List.set_cons_succ,i64_w,i32_w]
       rfl
      refine pure_ (i:=4) (N:=some 40) (v:=?_) (a':=?_) #[true,true,true,true,true,false,false,false,false,false] rfl rfl (by kernel_rfl) (fun _ _ _ h => h) (Or.inl ⟨by rfl,?_⟩) ?_ ?_
      rotate_left
      ·intro w'
       go_simp
       with_reducible rfl
      rotate_left
      ·simp only [Act.put,List.setIfInBounds_toArray,List.set_cons_zero,List.set_cons_succ,i64_w,i32_w]
       rfl
      refine pure_ (i:=5) (N:=some 41) (v:=?_) (a':=?_) #[true,true,true,true,true,true,false,false,false,false] rfl rfl (by kernel_rfl) (fun _ _ _ h => h) (Or.inl ⟨by rfl,?_⟩) ?_ ?_
      rotate_left
      ·intro w'
       go_simp
       with_reducible rfl
      rotate_left
      ·simp only [Act.put,List.setIfInBounds_toArray,List.set_cons_zero,List.set_cons_succ,i64_w,i32_w]
       rfl
      refine take_ (i:=6) (N:=some 42) (v:=?_) (a':=?_) #[true,true,true,true,true,true,true,false,false,false] rfl rfl (by kernel_rfl) (fun _ _ _ h => h) (Or.inl ⟨by rfl,?_⟩) hHeld ?_ ?_
      rotate_left
      ·rintro w' ⟨s0,s1,s2,s3,s4⟩
       go_simp
       with_reducible rfl
      rotate_left
      ·simp only [Act.put,List.setIfInBounds_toArray,List.set_cons_zero,List.set_cons_succ,i64_w,i32_w]
       rfl
      refine one_ (i:=7) (N:=some 43) #[true,true,true,true,true,true,true,true,false,false] rfl rfl (by kernel_rfl) (by decide) (fun K hK => ?_)
      refine goes_ Tryd.func59 (by kernel_rfl) rfl #[.slice (some ad) p.length c0,.agg #[.int .i64 cc.f0,.string cc.f1,.int .i64 cc.f2,.int .i64 cc.f3,.int .i64 cc.f4]] (by rfl) rfl rfl (by simp only [List.map_toArray,List.map_cons,List.map_nil];rfl) ?_
      with_reducible refine (pool_leads.calls k1 (some ad) c0 p cc.f0 cc.f1 cc.f2 cc.f3 cc.f4 false _ (Kd.C_below (Kd.C_below HR.out HB3.out) (by first|exact Below.refl _ _|exact pw_below_drewN (Below.refl _ _) _)) HC.out HLD.out).mono ?_
      rintro e w5 ⟨rfl,hb5⟩
      refine ⟨_,rfl,?_⟩
      have BK5:=Aside0.mk (blk_below (by first|exact BK3.out|exact blk_drewN BK3.out _|exact blk_drew BK3.out) hb5)
      have HB5:=Aside0.mk (below_step (by first|exact HB3.out|exact pw_below_drewN HB3.out _|exact below_drew1 HB3.out) hb5)
      clear hb5
      refine hK.out _ _ ⟨(blk_cell BK5.out 0).trans rfl,(blk_cell BK5.out 1).trans rfl,(blk_cell BK5.out 2).trans rfl,(blk_cell BK5.out 3).trans rfl,(blk_cell BK5.out 4).trans rfl⟩ (fun hHeld => ?_)
      clear hK K
      refine norm_ (a':=?_) ?_ ?_
      rotate_left
      ·show Act.put _ (some 43) _=_
       simp only [Act.put,List.setIfInBounds_toArray,List.set_cons_zero,List.set_cons_succ,i64_w,i32_w]
       rfl
      refine pure_ (i:=8) (N:=some 44) (v:=?_) (a':=?_) #[true,true,true,true,true,true,true,true,true,false] rfl rfl (by kernel_rfl) (fun _ _ _ h => h) (Or.inl ⟨by rfl,?_⟩) ?_ ?_
      rotate_left
      ·intro w'
       go_simp
       with_reducible rfl
      rotate_left
      ·simp only [Act.put,List.setIfInBounds_toArray,List.set_cons_zero,List.set_cons_succ,i64_w,i32_w]
       rfl
      refine pure_ (i:=9) (N:=some 45) (v:=?_) (a':=?_) #[true,true,true,true,true,true,true,true,true,true] rfl rfl (by kernel_rfl) (fun _ _ _ h => h) (Or.inl ⟨by rfl,?_⟩) ?_ ?_
      rotate_left
      ·intro w'
       go_simp
       with_reducible rfl
      rotate_left
      ·simp only [Act.put,List.setIfInBounds_toArray,List.set_cons_zero,List.set_cons_succ,i64_w,i32_w]
       rfl
      refine done_ (by kernel_rfl) ?_
      go_wp2_with ((with_reducible refine gate_dst (N:=49) rfl ?_);refine box_event ?hg (N:=49) ?hd (cs:=#[.int .i64 ((i:Int) + 1),.int .i64 40]) (t:=117) ?hr ?_;(case hd => rfl);(case hg => rfl);(case hr => first|(go_simp;done)|(go_simp;rfl));intro gw hgw w6 hbox hb;have BK6:=Aside0.mk hbox;have HB6:=Aside0.mk (below_step HB5.out hb);clear hbox hb hgw)
      go_ret
      exact ⟨⟨gw,rfl,BK6.out⟩,HB6.out⟩
     | true =>
      rw [if_pos rfl] at H
      obtain ⟨⟨b1,b2⟩,hE,H⟩:=Option.bind_eq_some_iff.mp H
      have HE:=Aside0.mk hE
      have H9:=Aside0.mk H
      clear hE H
      refine start_ (n:=10) (S:=fun w' => w'.cell? ⟨gb,0,none⟩=some (.int .i64 cc.f0)∧w'.cell? ⟨gb,1,none⟩=some (.string cc.f1)∧w'.cell? ⟨gb,2,none⟩=some (.int .i64 cc.f2)∧w'.cell? ⟨gb,3,none⟩=some (.int .i64 cc.f3)∧w'.cell? ⟨gb,4,none⟩=some (.int .i64 cc.f4)) (ds:=[]) #[false,false,false,false,false,false,false,false,false,false] (by kernel_rfl) rfl rfl ⟨hc0,hc1,hc2,hc3,hc4⟩ (fun hHeld => ?_)
      refine take_ (i:=0) (N:=some 36) (v:=?_) (a':=?_) #[true,false,false,false,false,false,false,false,false,false] rfl rfl (by kernel_rfl) (fun _ _ _ h => h) (Or.inl ⟨by rfl,?_⟩) hHeld ?_ ?_
      rotate_left
      ·rintro w' ⟨s0,s1,s2,s3,s4⟩
       go_simp
       with_reducible rfl
      rotate_left
      ·simp only [Act.put,List.setIfInBounds_toArray,List.set_cons_zero,List.set_cons_succ,i64_w,i32_w]
       rfl
      refine take_ (i:=1) (N:=some 37) (v:=?_) (a':=?_) #[true,true,false,false,false,false,false,false,false,false] rfl rfl (by kernel_rfl) (fun _ _ _ h => h) (Or.inl ⟨by rfl,?_⟩) hHeld ?_ ?_
      rotate_left
      ·rintro w' ⟨s0,s1,s2,s3,s4⟩
       go_simp
       with_reducible rfl
      rotate_left
      ·simp only [Act.put,List.setIfInBounds_toArray,List.set_cons_zero,List.set_cons_succ,i64_w,i32_w]
       rfl
      refine one_ (i:=2) (N:=some 38) #[true,true,true,false,false,false,false,false,false,false] rfl rfl (by kernel_rfl) (by decide) (fun K hK => ?_)
      refine goes_ Tryd.func58 (by kernel_rfl) rfl #[.agg #[.int .i64 cc.f0,.string cc.f1,.int .i64 cc.f2,.int .i64 cc.f3,.int .i64 cc.f4]] (by rfl) rfl rfl (by simp only [List.map_toArray,List.map_cons,List.map_nil];rfl) ?_
      with_reducible refine (pool_fields.calls k1 cc.f0 cc.f1 cc.f2 cc.f3 cc.f4 x1 x2 x3 x4 x5 _ HF.out).mono ?_
      rintro e w3 ⟨rfl,hb3⟩
      refine ⟨_,rfl,?_⟩
      have BK3:=Aside0.mk (blk_below (by first|exact BK2.out|exact blk_drewN BK2.out _|exact blk_drew BK2.out) hb3)
      have HB3:=Aside0.mk (below_step (by first|exact HB2.out|exact pw_below_drewN HB2.out _|exact below_drew1 HB2.out) hb3)
      clear hb3
      refine hK.out _ _ ⟨(blk_cell BK3.out 0).trans rfl,(blk_cell BK3.out 1).trans rfl,(blk_cell BK3.out 2).trans rfl,(blk_cell BK3.out 3).trans rfl,(blk_cell BK3.out 4).trans rfl⟩ (fun hHeld => ?_)
      clear hK K
      refine norm_ (a':=?_) ?_ ?_
      rotate_left
      ·show Act.put _ (some 38) _=_
       simp only [Act.put,List.setIfInBounds_toArray,List.set_cons_zero,List.set_cons_succ,i64_w,i32_w]
       rfl
      refine pure_ (i:=3) (N:=some 39) (v:=?_) (a':=?_) #[true,true,true,true,false,false,false,false,false,false] rfl rfl (by kernel_rfl) (fun _ _ _ h => h) (Or.inl ⟨by rfl,?_⟩) ?_ ?_
      rotate_left
      ·intro w'
       go_simp
       with_reducible rfl
      rotate_left
      ·simp only [Act.put,List.setIfInBounds_toArray,List.set_cons_zero,List.set_cons_succ,i64_w,i32_w]
       rfl
      refine pure_ (i:=4) (N:=some 40) (v:=?_) (a':=?_) #[true,true,true,true,true,false,false,false,false,false] rfl rfl (by kernel_rfl) (fun _ _ _ h => h) (Or.inl ⟨by rfl,?_⟩) ?_ ?_
      rotate_left
      ·intro w'
       go_simp
       with_reducible rfl
      rotate_left
      ·simp only [Act.put,List.setIfInBounds_toArray,List.set_cons_zero,List.set_cons_succ,i64_w,i32_w]
       rfl
      refine pure_ (i:=5) (N:=some 41) (v:=?_) (a':=?_) #[true,true,true,true,true,true,false,false,false,false] rfl rfl (by kernel_rfl) (fun _ _ _ h => h) (Or.inl ⟨by rfl,?_⟩) ?_ ?_
      rotate_left
      ·intro w'
       go_simp
       with_reducible rfl
      rotate_left
      ·simp only [Act.put,List.setIfInBounds_toArray,List.set_cons_zero,List.set_cons_succ,i64_w,i32_w]
       rfl
      refine take_ (i:=6) (N:=some 42) (v:=?_) (a':=?_) #[true,true,true,true,true,true,true,false,false,false] rfl rfl (by kernel_rfl) (fun _ _ _ h => h) (Or.inl ⟨by rfl,?_⟩) hHeld ?_ ?_
      rotate_left
      ·rintro w' ⟨s0,s1,s2,s3,s4⟩
       go_simp
       with_reducible rfl
      rotate_left
      ·simp only [Act.put,List.setIfInBounds_toArray,List.set_cons_zero,List.set_cons_succ,i64_w,i32_w]
       rfl
      refine one_ (i:=7) (N:=some 43) #[true,true,true,true,true,true,true,true,false,false] rfl rfl (by kernel_rfl) (by decide) (fun K hK => ?_)
      refine goes_ Tryd.func59 (by kernel_rfl) rfl #[.slice (some ad) p.length c0,.agg #[.int .i64 cc.f0,.string cc.f1,.int .i64 cc.f2,.int .i64 cc.f3,.int .i64 cc.f4]] (by rfl) rfl rfl (by simp only [List.map_toArray,List.map_cons,List.map_nil];rfl) ?_
      with_reducible refine (pool_leads.calls k1 (some ad) c0 p cc.f0 cc.f1 cc.f2 cc.f3 cc.f4 true _ (Kd.C_below (Kd.C_below HR.out HB3.out) (by first|exact Below.refl _ _|exact pw_below_drewN (Below.refl _ _) _)) HC.out HLD.out).mono ?_
      rintro e w5 ⟨rfl,hb5⟩
      refine ⟨_,rfl,?_⟩
      have BK5:=Aside0.mk (blk_below (by first|exact BK3.out|exact blk_drewN BK3.out _|exact blk_drew BK3.out) hb5)
      have HB5:=Aside0.mk (below_step (by first|exact HB3.out|exact pw_below_drewN HB3.out _|exact below_drew1 HB3.out) hb5)
      clear hb5
      refine hK.out _ _ ⟨(blk_cell BK5.out 0).trans rfl,(blk_cell BK5.out 1).trans rfl,(blk_cell BK5.out 2).trans rfl,(blk_cell BK5.out 3).trans rfl,(blk_cell BK5.out 4).trans rfl⟩ (fun hHeld => ?_)
      clear hK K
      refine norm_ (a':=?_) ?_ ?_
      rotate_left
      ·show Act.put _ (some 43) _=_
       simp only [Act.put,List.setIfInBounds_toArray,List.set_cons_zero,List.set_cons_succ,i64_w,i32_w]
       rfl
      refine pure_ (i:=8) (N:=some 44) (v:=?_) (a':=?_) #[true,true,true,true,true,true,true,true,true,false] rfl rfl (by kernel_rfl) (fun _ _ _ h => h) (Or.inl ⟨by rfl,?_⟩) ?_ ?_
      rotate_left
      ·intro w'
       go_simp
       with_reducible rfl
      rotate_left
      ·simp only [Act.put,List.setIfInBounds_toArray,List.set_cons_zero,List.set_cons_succ,i64_w,i32_w]
       rfl
      refine pure_ (i:=9) (N:=some 45) (v:=?_) (a':=?_) #[true,true,true,true,true,true,true,true,true,true] rfl rfl (by kernel_rfl) (fun _ _ _ h => h) (Or.inl ⟨by rfl,?_⟩) ?_ ?_
      rotate_left
      ·intro w'
       go_simp
       with_reducible rfl
      rotate_left
      ·simp only [Act.put,List.setIfInBounds_toArray,List.set_cons_zero,List.set_cons_succ,i64_w,i32_w]
       rfl
      refine done_ (by kernel_rfl) ?_
      have hs1:w5.cell? ⟨gb,1,none⟩=some (.string cc.f1):=(blk_cell BK5.out 1).trans rfl
      have H:=H9.out
      clear H9
      simp only at H
      by_cases he:b2=0
      ·rw [if_pos he] at H
       have heb:(b2 != 0)=false:=bne_eq_false_iff_eq.mpr he
       by_cases hl:(b1.length:Int) > 256
       ·rw [if_pos hl] at H
        obtain rfl:=Option.some.inj H
        have hlb:decide ((256:Int) < (b1.length:Int))=true:=decide_eq_true hl
        have hln:decide (256 < b1.length)=true:=decide_eq_true (by omega)
        clear he hl H
        go_wp2_with fail
        refine (text_Encode.calls k1 cc.f1 b1 b2 _ ⟨GG.below hG.out (by first|exact HB5.out|exact pw_below_drewN HB5.out _|exact below_drew1 HB5.out)⟩ HE.out).mono ?_
        rintro e w6 ⟨v6,rfl,hR6,hb6⟩
        obtain ⟨A6,c6,hv6⟩:=Kd.R_slice hR6
        subst hv6
        have HB6:=Aside0.mk (below_step (by first|exact HB5.out|exact pw_below_drewN HB5.out _|exact below_drew1 HB5.out) hb6)
        clear hR6 hb6
        go_wp2_with ((with_reducible refine gate_dst (N:=67) rfl ?_);refine box_event ?hg (N:=67) ?hd (cs:=#[.int .i64 ((i:Int) + 1),.int .i64 20]) (t:=117) ?hr ?_;(case hd => rfl);(case hg => rfl);(case hr => first|(go_simp;done)|(go_simp;rfl));intro gw hgw w7 hbox hb;have BK9:=Aside0.mk hbox;have HB7:=Aside0.mk (below_step HB6.out hb);clear hbox hb hgw)
        go_ret
        exact ⟨⟨gw,rfl,BK9.out⟩,HB7.out⟩
       ·rw [if_neg hl] at H
        have hlb:decide ((256:Int) < (b1.length:Int))=false:=decide_eq_false hl
        have hln:decide (256 < b1.length)=false:=decide_eq_false (by omega)
        have H':=Aside0.mk H
        clear he hl H
        go_wp2_with fail
        refine (text_Encode.calls k1 cc.f1 b1 b2 _ ⟨GG.below hG.out (by first|exact HB5.out|exact pw_below_drewN HB5.out _|exact below_drew1 HB5.out)⟩ HE.out).mono ?_
        rintro e w6 ⟨v6,rfl,hR6,hb6⟩
        obtain ⟨A6,c6,hv6⟩:=Kd.R_slice hR6
        subst hv6
        have HB6:=Aside0.mk (below_step (by first|exact HB5.out|exact pw_below_drewN HB5.out _|exact below_drew1 HB5.out) hb6)
        clear hR6 hb6
        go_wp2
        go_roundg k1
        case measure => have:=HK.out;omega
        case rel => exact ⟨i + 1,congrArg (Value.int .i64) (by omega),H',⟨by have:=HK.out;omega⟩,⟨by have:=of_decide_eq_true hpn;omega⟩,HB6⟩
      ·rw [if_neg he] at H
       obtain rfl:=Option.some.inj H
       have heb:(b2 != 0)=true:=bne_iff_ne.mpr he
       clear he H
       go_wp2_with fail
       refine (text_Encode.calls k1 cc.f1 b1 b2 _ ⟨GG.below hG.out (by first|exact HB5.out|exact pw_below_drewN HB5.out _|exact below_drew1 HB5.out)⟩ HE.out).mono ?_
       rintro e w6 ⟨v6,rfl,hR6,hb6⟩
       obtain ⟨A6,c6,hv6⟩:=Kd.R_slice hR6
       subst hv6
       have HB6:=Aside0.mk (below_step (by first|exact HB5.out|exact pw_below_drewN HB5.out _|exact below_drew1 HB5.out) hb6)
       clear hR6 hb6
       go_wp2_with ((with_reducible refine gate_dst (N:=67) rfl ?_);refine box_event ?hg (N:=67) ?hd (cs:=#[.int .i64 ((i:Int) + 1),.int .i64 20]) (t:=117) ?hr ?_;(case hd => rfl);(case hg => rfl);(case hr => first|(go_simp;done)|(go_simp;rfl));intro gw hgw w7 hbox hb;have BK9:=Aside0.mk hbox;have HB7:=Aside0.mk (below_step HB6.out hb);clear hbox hb hgw)
       go_ret
       exact ⟨⟨gw,rfl,BK9.out⟩,HB7.out⟩
    ·rw [if_neg hs] at H
     obtain rfl:=Option.some.inj H
     have hEqc:sameC cc (x1,x2,x3,x4,x5)=false:=by simpa using hs
     clear hs H
     refine start_ (n:=10) (S:=fun w' => w'.cell? ⟨gb,0,none⟩=some (.int .i64 cc.f0)∧w'.cell? ⟨gb,1,none⟩=some (.string cc.f1)∧w'.cell? ⟨gb,2,none⟩=some (.int .i64 cc.f2)∧w'.cell? ⟨gb,3,none⟩=some (.int .i64 cc.f3)∧w'.cell? ⟨gb,4,none⟩=some (.int .i64 cc.f4)) (ds:=[]) #[false,false,false,false,false,false,false,false,false,false] (by kernel_rfl) rfl rfl ⟨hc0,hc1,hc2,hc3,hc4⟩ (fun hHeld => ?_)
     refine take_ (i:=0) (N:=some 36) (v:=?_) (a':=?_) #[true,false,false,false,false,false,false,false,false,false] rfl rfl (by kernel_rfl) (fun _ _ _ h => h) (Or.inl ⟨by rfl,?_⟩) hHeld ?_ ?_
     rotate_left
     ·rintro w' ⟨s0,s1,s2,s3,s4⟩
      go_simp
      with_reducible rfl
     rotate_left
     ·simp only [Act.put,List.setIfInBounds_toArray,List.set_cons_zero,List.set_cons_succ,i64_w,i32_w]
      rfl
     refine take_ (i:=1) (N:=some 37) (v:=?_) (a':=?_) #[true,true,false,false,false,false,false,false,false,false] rfl rfl (by kernel_rfl) (fun _ _ _ h => h) (Or.inl ⟨by rfl,?_⟩) hHeld ?_ ?_
     rotate_left
     ·rintro w' ⟨s0,s1,s2,s3,s4⟩
      go_simp
      with_reducible rfl
     rotate_left
     ·simp only [Act.put,List.setIfInBounds_toArray,List.set_cons_zero,List.set_cons_succ,i64_w,i32_w]
      rfl
     refine one_ (i:=2) (N:=some 38) #[true,true,true,false,false,false,false,false,false,false] rfl rfl (by kernel_rfl) (by decide) (fun K hK => ?_)
     refine goes_ Tryd.func58 (by kernel_rfl) rfl #[.agg #[.int .i64 cc.f0,.string cc.f1,.int .i64 cc.f2,.int .i64 cc.f3,.int .i64 cc.f4]] (by rfl) rfl rfl (by simp only [List.map_toArray,List.map_cons,List.map_nil];rfl) ?_
     with_reducible refine (pool_fields.calls k1 cc.f0 cc.f1 cc.f2 cc.f3 cc.f4 x1 x2 x3 x4 x5 _ HF.out).mono ?_
     rintro e w3 ⟨rfl,hb3⟩
     refine ⟨_,rfl,?_⟩
     have BK3:=Aside0.mk (blk_below (by first|exact BK2.out|exact blk_drewN BK2.out _|exact blk_drew BK2.out) hb3)
     have HB3:=Aside0.mk (below_step (by first|exact HB2.out|exact pw_below_drewN HB2.out _|exact below_drew1 HB2.out) hb3)
     clear hb3
     refine hK.out _ _ ⟨(blk_cell BK3.out 0).trans rfl,(blk_cell BK3.out 1).trans rfl,(blk_cell BK3.out 2).trans rfl,(blk_cell BK3.out 3).trans rfl,(blk_cell BK3.out 4).trans rfl⟩ (fun hHeld => ?_)
     clear hK K
     refine norm_ (a':=?_) ?_ ?_
     rotate_left
     ·show Act.put _ (some 38) _=_
      simp only [Act.put,List.setIfInBounds_toArray,List.set_cons_zero,List.set_cons_succ,i64_w,i32_w]
      rfl
     refine pure_ (i:=3) (N:=some 39) (v:=?_) (a':=?_) #[true,true,true,true,false,false,false,false,false,false] rfl rfl (by kernel_rfl) (fun _ _ _ h => h) (Or.inl ⟨by rfl,?_⟩) ?_ ?_
     rotate_left
     ·intro w'
      go_simp
      with_reducible rfl
     rotate_left
     ·simp only [Act.put,List.setIfInBounds_toArray,List.set_cons_zero,List.set_cons_succ,i64_w,i32_w]
      rfl
     refine pure_ (i:=4) (N:=some 40) (v:=?_) (a':=?_) #[true,true,true,true,true,false,false,false,false,false] rfl rfl (by kernel_rfl) (fun _ _ _ h => h) (Or.inl ⟨by rfl,?_⟩) ?_ ?_
     rotate_left
     ·intro w'
      go_simp
      with_reducible rfl
     rotate_left
     ·simp only [Act.put,List.setIfInBounds_toArray,List.set_cons_zero,List.set_cons_succ,i64_w,i32_w]
      rfl
     refine pure_ (i:=5) (N:=some 41) (v:=undef) (a':=?_) #[true,true,true,true,true,true,false,false,false,false] rfl rfl (by kernel_rfl) (fun _ _ _ h => h) (Or.inr ⟨by rfl,rfl⟩) ?_ ?_
     rotate_left
     ·simp only [Act.put,List.setIfInBounds_toArray,List.set_cons_zero,List.set_cons_succ,i64_w,i32_w]
      rfl
     refine pure_ (i:=6) (N:=some 42) (v:=undef) (a':=?_) #[true,true,true,true,true,true,true,false,false,false] rfl rfl (by kernel_rfl) (fun _ _ _ h => h) (Or.inr ⟨by rfl,rfl⟩) ?_ ?_
     rotate_left
     ·simp only [Act.put,List.setIfInBounds_toArray,List.set_cons_zero,List.set_cons_succ,i64_w,i32_w]
      rfl
     refine pure_ (i:=7) (N:=some 43) (v:=undef) (a':=?_) #[true,true,true,true,true,true,true,true,false,false] rfl rfl (by kernel_rfl) (fun _ _ _ h => h) (Or.inr ⟨by rfl,rfl⟩) ?_ ?_
     rotate_left
     ·simp only [Act.put,List.setIfInBounds_toArray,List.set_cons_zero,List.set_cons_succ,i64_w,i32_w]
      rfl
     refine pure_ (i:=8) (N:=some 44) (v:=undef) (a':=?_) #[true,true,true,true,true,true,true,true,true,false] rfl rfl (by kernel_rfl) (fun _ _ _ h => h) (Or.inr ⟨by rfl,rfl⟩) ?_ ?_
     rotate_left
     ·simp only [Act.put,List.setIfInBounds_toArray,List.set_cons_zero,List.set_cons_succ,i64_w,i32_w]
      rfl
     refine pure_ (i:=9) (N:=some 45) (v:=?_) (a':=?_) #[true,true,true,true,true,true,true,true,true,true] rfl rfl (by kernel_rfl) (fun _ _ _ h => h) (Or.inl ⟨by rfl,?_⟩) ?_ ?_
     rotate_left
     ·intro w'
      go_simp
      with_reducible rfl
     rotate_left
     ·simp only [Act.put,List.setIfInBounds_toArray,List.set_cons_zero,List.set_cons_succ,i64_w,i32_w]
      rfl
     refine done_ (by kernel_rfl) ?_
     have hwi:wrap64 ((i:Int) + 1)=(i:Int) + 1:=by have:=HPI.out;unfold wrap64;omega
     go_wp2_with ((with_reducible refine gate_dst (N:=49) rfl ?_);refine box_event ?hg (N:=49) ?hd (cs:=#[.int .i64 ((i:Int) + 1),.int .i64 40]) (t:=117) ?hr ?_;(case hd => rfl);(case hg => rfl);(case hr => first|(go_simp;done)|(go_simp;rfl));intro gw hgw w4 hbox hb;have BK4:=Aside0.mk hbox;have HB4:=Aside0.mk (below_step HB3.out hb);clear hbox hb hgw)
     go_ret
     exact ⟨⟨gw,rfl,BK4.out⟩,HB4.out⟩
   ·rw [if_neg hp] at H
    obtain rfl:=Option.some.inj H
    have hpi:decide ((i:Int) < ((p.length - 1:Nat):Int))=false:=decide_eq_false (by omega)
    have hpn:decide (i < p.length - 1)=false:=decide_eq_false (by omega)
    clear hp H
    go_wp2
    go_ret
    exact ⟨rfl,HB.out⟩
 ·rw [if_neg c3] at h
  obtain rfl:=Option.some.inj h
  have c3b:sameC (rd_T108 p 0) (0,⟨#[]⟩,0,0,0)=false:=by simpa using c3
  have hEq:=c3b
  clear c3 h c3b
  go_enter Tryd.func47,Tryd.ntmps47
  go_wp2_with ((with_reducible refine gate_dst (N:=26) rfl ?_);refine box_event ?hg (N:=26) ?hd (cs:=#[.int .i64 0,.int .i64 40]) (t:=117) ?hr ?_;(case hd => rfl);(case hg => rfl);(case hr => first|(go_simp;done)|(go_simp;rfl));intro gb hg w1 hbox hb;have BK:=Aside0.mk hbox;have HB:=Aside0.mk (below_step HB0.out hb);clear hbox hb hg)
  go_ret
  exact ⟨⟨gb,rfl,BK.out⟩,HB.out⟩
theorem as_at (B:Nat) (w0 w:World) (g gb:Nat) (x y:Int) (hB:Below B w0 w) (hgb:B≤gb) (hbk:w.heap[gb]?=some (.cells #[.pointer none] 110 (0,0))) (hbg:w.heap[g]?=some (.cells #[.int .i64 x,.int .i64 y] 117 (0,0))) (hG:GG w) (hBs:B≤w.heap.size) :
  Calls Tryd.prog 46 #[.iface 110 (.pointer (some ⟨g,0,none⟩)),.iface 115 (.pointer (some ⟨gb,0,none⟩))] w fun ev w' => ev=.returned (.bool true)∧w'.cell? ⟨gb,0,none⟩=some (.pointer (some ⟨g,0,none⟩))∧w'.cell? ⟨g,1,none⟩=some (.int .i64 y)∧Below B w0 w':=by
 have hne:gb ≠ g:=by
  rintro rfl
  rw [hbk] at hbg
  cases hbg
 have hl1:=blk_lt hbk
 have hl2:=blk_lt hbg
 refine (as_hit ⟨g,0,none⟩ ⟨gb,0,none⟩ (.pointer none) w hG.et ((blk_cell hbk 0).trans rfl) (blk_frozen hbk 0)).mono ?_
 rintro ev w' ⟨rfl,rfl⟩
 refine ⟨rfl,?_,?_,?_⟩
 ·refine World.cell?_setCell_same (u:=.pointer none) _ _ _ ?_
  rw [World.cell?_alloc_lt _ _ ⟨gb,0,none⟩ (by simp <;> omega),World.cell?_alloc_lt _ _ ⟨gb,0,none⟩ (by simp <;> omega),World.cell?_alloc_lt _ _ ⟨gb,0,none⟩ (by simp <;> omega),World.cell?_alloc_lt _ _ ⟨gb,0,none⟩ hl1]
  exact (blk_cell hbk 0).trans rfl
 ·rw [World.cell?_setCell_far _ _ _ _ hne]
  rw [World.cell?_alloc_lt _ _ ⟨g,1,none⟩ (by simp <;> omega),World.cell?_alloc_lt _ _ ⟨g,1,none⟩ (by simp <;> omega),World.cell?_alloc_lt _ _ ⟨g,1,none⟩ (by simp <;> omega),World.cell?_alloc_lt _ _ ⟨g,1,none⟩ hl2]
  exact (blk_cell hbg 1).trans rfl
 ·exact ((((hB.alloc hBs _).alloc (by simp <;> omega) _).alloc (by simp <;> omega) _).alloc (by simp <;> omega) _).setCell hgb _
set_option maxHeartbeats 4000000 in
set_option maxRecDepth 100000 in
theorem pool_Check.calls (k:Nat) (A0:Option Addr) (c0:Nat) (p:List Cst) (r1:Int) (w:World) (hG:Aside0 (GG w)) (hr0:Kd.C k108 w A0 p.length p) (hc0:p.length≤c0) (h:pool_Check.f k p=some r1) :
  Calls Tryd.prog 32 #[.slice A0 p.length c0] w fun e w' => e=.returned (.int .i64 r1)∧Below w.heap.size w w':=by
 have HR:=Aside0.mk hr0
 have HC:=Aside0.mk hc0
 have HB0:=Aside0.mk (Below.refl w.heap.size w)
 clear hr0 hc0
 unfold pool_Check.f at h
 obtain ⟨r,hr,h⟩:=Option.bind_eq_some_iff.mp h
 have HF:=Aside0.mk hr
 clear hr
 go_enter Tryd.func32,Tryd.ntmps32
 go_wp2_with ((with_reducible refine gate_dst (N:=3) rfl ?_);refine box_event ?hg (N:=3) ?hd (cs:=#[.pointer none]) (t:=110) ?hr ?_;(case hd => rfl);(case hg => rfl);(case hr => first|(go_simp;done)|(go_simp;rfl));intro gb hg w1 hbox hb;have BK:=Aside0.mk hbox;have GE:=Aside0.mk (show w.heap.size≤gb from by rw [hg];exact Nat.le_refl _);have HB1:=Aside0.mk (below_step HB0.out hb);clear hbox hb hg)
 refine (pool_check.calls k A0 c0 p r _ ⟨GG.below hG.out HB1.out⟩ (Kd.C_below HR.out HB1.out) HC.out HF.out).mono ?_
 rintro e w2 ⟨hw,hb2⟩
 have HB2:=Aside0.mk (below_step HB1.out hb2)
 have BK2:=Aside0.mk (blk_below BK.out hb2)
 clear hb2
 cases r with
 | none =>
  obtain rfl:=Option.some.inj h
  obtain rfl:e=.returned .nilIface:=hw
  clear h
  go_wp2_with fail
  refine (as_nil _ _).mono ?_
  rintro e w3 ⟨rfl,rfl⟩
  go_wp2
  go_ret
  exact ⟨rfl,HB2.out⟩
 | some q =>
  obtain ⟨x,y⟩:=q
  obtain rfl:=Option.some.inj h
  obtain ⟨g,rfl,hbg⟩:=hw
  have HBG:=Aside0.mk hbg
  clear h hbg
  go_wp2_with fail
  refine (as_at w.heap.size w _ g gb x y HB2.out GE.out BK2.out HBG.out (GG.below hG.out HB2.out) HB2.out.size).mono ?_
  rintro e w3 ⟨rfl,hc1,hc2,hb3⟩
  have HB3:=Aside0.mk hb3
  clear hb3
  go_wp2
  go_ret
  exact ⟨rfl,HB3.out⟩
end Go.Proofs.YtoonhpcjcimecaaDoor.Px
namespace Go.Proofs.YtoonhpcjcimecaaDoor.Px
open Go.RowKit Go.Proofs.YtoonhpcjcimecaaDoorW.PrintWords Go.Proofs.YtoonhpcjcimecaaDoorW.PrintLast Go.Proofs.YtoonhpcjcimecaaDoorW.PrintMore
set_option linter.unusedVariables false
set_option linter.unusedSimpArgs false
theorem w64 {x:Int} (h0:-9223372036854775808≤x) (h1:x≤9223372036854775807):wrap64 x=x:=by unfold wrap64;omega
theorem w32 {x:Int} (h0:-2147483648≤x) (h1:x≤2147483647):wrap32 x=x:=by unfold wrap32;omega
def unitL (u:Int):List Int:=if 1≤u∧u≤127 then [u] else if u≤2047 then [192 + u / 64,128 + u % 64] else [224 + u / 4096,128 + u / 64 % 64,128 + u % 64]
theorem unitL_len (u:Int):(unitL u).length≤3:=by unfold unitL;split <;> (try split) <;> simp
def cuL (c:Int):List Int:=if c < 65536 then unitL c else unitL (55296 + (c - 65536) / 1024)++unitL (56320 + (c - 65536) % 1024)
theorem cuL_len (c:Int):(cuL c).length≤6:=by
 unfold cuL
 have h1:=unitL_len c
 have h2:=unitL_len (55296 + (c - 65536) / 1024)
 have h3:=unitL_len (56320 + (c - 65536) % 1024)
 split
 ·omega
 ·rw [List.length_append];omega
theorem text_unit.ev (b:List Int) (u:Int) (h0:0≤u) (h1:u < 65536) (hb:b.length + 3 < 140737488355328):Ev (fun k => text_unit.f k b u) (b++unitL u):=by
 refine ⟨1,fun k hk => ?_⟩
 obtain ⟨k,rfl⟩:∃ m,k=m + 1:=⟨k - 1,by omega⟩
 have m63:∀ x:Int,0≤x→x < 2147483648→bits .and .i32 x 63=x % 64:=fun x a b => bits_mask .i32 31 (by decide) wraps_i32 6 (by decide) x a b
 show text_unit.f (k + 1) b u=_
 unfold text_unit.f unitL
 by_cases c1:1≤u∧u≤127
 ·rw [if_pos c1,if_pos (by omega),decide_eq_true (by omega)]
  simp only [text_unit.j0]
  rw [if_pos trivial,if_pos (by omega),show u % 256=u from by omega]
 ·rw [if_neg c1]
  have key:text_unit.j0 (k + 1) b u false=some (b++if u≤2047 then [192 + u / 64,128 + u % 64] else [224 + u / 4096,128 + u / 64 % 64,128 + u % 64]):=by
   simp only [text_unit.j0]
   rw [if_neg (by simp),m63 u h0 (by omega),m63 (u / 64) (by omega) (by omega)]
   by_cases c2:u≤2047
   ·rw [if_pos (by omega),if_pos c2,Option.bind_some,show u / 64 % 256=u / 64 from by omega,show u % 64 % 256=u % 64 from by omega,u8_or192 _ (by omega) (by omega),u8_or128 _ (by omega) (by omega)]
    rw [if_pos (by simp;omega)]
   ·rw [if_neg (by omega),if_neg c2,Option.bind_some,show u / 4096 % 256=u / 4096 from by omega,show u % 64 % 256=u % 64 from by omega,show u / 64 % 64 % 256=u / 64 % 64 from by omega,u8_or224 _ (by omega) (by omega),u8_or128 _ (by omega) (by omega),u8_or128 _ (by omega) (by omega)]
    rw [if_pos (by simp;omega)]
  by_cases c3:u > 0
  ·rw [if_pos c3,decide_eq_false (by omega),key]
  ·rw [if_neg c3,key]
end Go.Proofs.YtoonhpcjcimecaaDoor.Px
namespace Go.Proofs.YtoonhpcjcimecaaDoor.Px
open Go.RowKit Go.Proofs.YtoonhpcjcimecaaDoorW.PrintWords Go.Proofs.YtoonhpcjcimecaaDoorW.PrintLast Go.Proofs.YtoonhpcjcimecaaDoorW.PrintMore
set_option linter.unusedVariables false
set_option linter.unusedSimpArgs false
theorem text_Encode.ev_one (b:List Int) (c:Int) (h0:0≤c) (h1:c≤1114111) (hb:b.length + 6 < 140737488355328):Ev (fun k => text_Encode.one k b c) (b++cuL c):=by
 unfold text_Encode.one text_split.f cuL
 by_cases hc:c < 65536
 ·refine Ev.congr (f:=fun k => text_unit.f k b c) (fun k => ?_) (by rw [if_pos hc];exact text_unit.ev b c h0 hc (by omega))
  simp only [if_pos hc,Option.bind_some,if_true]
 ·have e1:wrap32 (c - 65536)=c - 65536:=w32 (by omega) (by omega)
  have e2:bits .and .i32 (c - 65536) 1023=(c - 65536) % 1024:=bits_mask .i32 31 (by decide) wraps_i32 10 (by decide) _ (by omega) (by omega)
  have e3:wrap32 (55296 + (c - 65536) / 1024)=55296 + (c - 65536) / 1024:=w32 (by omega) (by omega)
  have e4:wrap32 (56320 + (c - 65536) % 1024)=56320 + (c - 65536) % 1024:=w32 (by omega) (by omega)
  have hl:=unitL_len (55296 + (c - 65536) / 1024)
  refine Ev.congr (f:=fun k => (text_unit.f k b (55296 + (c - 65536) / 1024)).bind fun b1 => text_unit.f k b1 (56320 + (c - 65536) % 1024)) (fun k => ?_) ?_
  ·simp only [if_neg hc,Option.bind_some,e1,e2,e3,e4]
   rw [if_neg (by omega)]
  rw [if_neg hc,← List.append_assoc]
  exact Ev.bind (text_unit.ev b _ (by omega) (by omega) (by omega)) (text_unit.ev _ _ (by omega) (by omega) (by rw [List.length_append];omega))
def encGo:Nat→List UInt8→List Int
 | 0,_ => []
 | f + 1,l => if l=[] then [] else cuL ((Lib.decodeL l).1:Int)++encGo f (l.drop (Lib.decodeL l).2)
def encL (l:List UInt8):List Int:=encGo l.length l
theorem encGo_fuel:∀ n m (l:List UInt8),l.length≤n→l.length≤m→encGo n l=encGo m l
 | 0,m,l,hn,_ => by
  have:l=[]:=List.length_eq_zero_iff.1 (by omega)
  subst this
  cases m <;> simp [encGo]
 | n + 1,0,l,_,hm => by
  have:l=[]:=List.length_eq_zero_iff.1 (by omega)
  subst this
  simp [encGo]
 | n + 1,m + 1,l,hn,hm => by
  unfold encGo
  by_cases hne:l=[]
  ·simp [hne]
  ·have hw:=Lib.decodeL_width l
   have hl:0 < l.length:=List.length_pos_iff.2 hne
   rw [if_neg hne,if_neg hne,encGo_fuel n m (l.drop (Lib.decodeL l).2) (by rw [List.length_drop];omega) (by rw [List.length_drop];omega)]
theorem encL_nil:encL []=[]:=rfl
theorem encL_step (l:List UInt8) (hne:l ≠ []):encL l=cuL ((Lib.decodeL l).1:Int)++encL (l.drop (Lib.decodeL l).2):=by
 have hl:0 < l.length:=List.length_pos_iff.2 hne
 have hw:=Lib.decodeL_width l
 obtain ⟨n,hn⟩:∃ n,l.length=n + 1:=⟨l.length - 1,by omega⟩
 unfold encL
 rw [hn]
 show (if l=[] then [] else _)=_
 rw [if_neg hne,encGo_fuel n (l.drop (Lib.decodeL l).2).length _ (by rw [List.length_drop];omega) (Nat.le_refl _)]
theorem text_Encode.ev_l (s:ByteArray) (hs:s.size≤1099511627776):∀ n p b,s.size - p≤n→b.length≤6 * p→Ev (fun k => text_Encode.l0 k s p b) (b++encL (s.data.toList.drop p),0)
 | 0,p,b,hn,hb => by
  refine Ev.step (f:=fun _ => some (b,0)) (fun k => ?_) ?_
  ·simp only [text_Encode.l0];rw [if_neg (by omega)]
  ·have:s.data.toList.drop p=[]:=List.drop_eq_nil_of_le (by rw [← Lib.size_eq];omega)
   rw [this,encL_nil,List.append_nil]
   exact Ev.now _
 | n + 1,p,b,hn,hb => by
  by_cases hp:p < s.size
  ·have hw:=text_Encode.width s p hp
   have hd:Lib.decodeL (s.data.toList.drop p)=Utf8.decode s p:=Lib.decodeL_drop s p
   have hr:=Lib.decodeL_rune (s.data.toList.drop p)
   have hne:s.data.toList.drop p ≠ []:=by
    intro e
    have:=congrArg List.length e
    rw [List.length_drop,← Lib.size_eq] at this
    simp at this
    omega
   rw [hd] at hr
   have h6:=cuL_len ((Utf8.decode s p).1:Int)
   have hwl:=decode_le s p
   refine Ev.step (f:=fun k => (text_Encode.one k b ((Utf8.decode s p).1:Int)).bind fun b1 => text_Encode.l0 k s (p + (Utf8.decode s p).2) b1) (fun k => ?_) ?_
   ·simp only [text_Encode.l0];rw [if_pos hp]
   ·rw [encL_step _ hne,hd,List.drop_drop,← List.append_assoc]
    exact Ev.bind (text_Encode.ev_one b _ (by omega) (by omega) (by omega)) (text_Encode.ev_l s hs n _ _ (by omega) (by rw [List.length_append];omega))
  ·refine Ev.step (f:=fun _ => some (b,0)) (fun k => ?_) ?_
   ·simp only [text_Encode.l0];rw [if_neg hp]
   ·have:s.data.toList.drop p=[]:=List.drop_eq_nil_of_le (by rw [← Lib.size_eq];omega)
    rw [this,encL_nil,List.append_nil]
    exact Ev.now _
def encV (s:ByteArray):List Int × Int:=if Lib.validD s.data.toList=true then (encL s.data.toList,0) else ([],20)
theorem text_Encode.ev (s:ByteArray) (hs:s.size≤1099511627776):Ev (fun k => text_Encode.f k s) (encV s):=by
 unfold text_Encode.f encV
 by_cases hv:Lib.validD s.data.toList=true
 ·refine Ev.congr (f:=fun k => text_Encode.l0 k s 0 []) (fun k => by rw [if_pos (by omega),if_pos hv]) ?_
  rw [if_pos hv]
  have:=text_Encode.ev_l s hs s.size 0 [] (by omega) (by simp)
  simpa using this
 ·refine Ev.congr (f:=fun k => some ([],20)) (fun k => by rw [if_pos (by omega),if_neg hv]) ?_
  rw [if_neg hv]
  exact Ev.now _
end Go.Proofs.YtoonhpcjcimecaaDoor.Px
namespace Go.Proofs.YtoonhpcjcimecaaDoor.Px
open Go.RowKit Go.Proofs.YtoonhpcjcimecaaDoorW.PrintWords Go.Proofs.YtoonhpcjcimecaaDoorW.PrintLast Go.Proofs.YtoonhpcjcimecaaDoorW.PrintMore
attribute [local go_sem] max2_int min2_int max_two min_two max_three min_three max_four min_four
set_option linter.unusedVariables false
set_option linter.unusedSimpArgs false
def pool_Text.f (l0:List (S108)) (a1:Int):Option (ByteArray × Bool):=(pool_is.f l0 a1 1).bind fun t172 => (if t172=true then (if 0≤a1 then (if a1 < (l0.length:Int) then (some ((rd_T108 l0 a1).f1,true)) else (none)) else (none)) else (some ((⟨#[]⟩:ByteArray),false)))
set_option maxHeartbeats 80000000 in
set_option maxRecDepth 100000 in
theorem pool_Text.calls (A0:Option Addr) (c0:Nat) (l0:List (S108)) (a1:Int) (r1:ByteArray) (r2:Bool) (w:World) (hr0:Kd.C k108 w A0 l0.length l0) (hc0:l0.length≤c0) (h:pool_Text.f l0 a1=some (r1,r2)) :
  Calls Tryd.prog 44 #[.slice A0 l0.length c0,.int .i64 a1] w fun e w' => e=.returned (.tuple #[.string r1,.bool r2])∧Drawn0 w w':=by
 have HR0:=Aside0.mk hr0
 have HC0:=Aside0.mk hc0
 clear hr0 hc0
 have H:((pool_is.f l0 a1 1).bind fun t172 => (if t172=true then (if 0≤a1 then (if a1 < (l0.length:Int) then (some ((rd_T108 l0 a1).f1,true)) else (none)) else (none)) else (some ((⟨#[]⟩:ByteArray),false))))=some (r1,r2):=h
 clear h
 replace H:=Option.bind_eq_some_iff.mp H
 obtain ⟨t172,A30,H⟩:=H
 try dsimp only at H
 have A3:=Aside0.mk A30
 clear A30
 by_cases c4:t172=true
 ·subst c4
  rw [if_pos rfl] at H
  by_cases c5:0≤a1
  ·rw [if_pos c5] at H
   have c5b0:decide (0≤a1)=true:=decide_eq_true c5
   clear c5
   by_cases c6:a1 < (l0.length:Int)
   ·rw [if_pos c6] at H
    have c6b0:decide (a1 < (l0.length:Int))=true:=decide_eq_true c6
    clear c6
    simp only [Option.some.injEq,Prod.mk.injEq] at H
    obtain ⟨rfl,rfl⟩:=H
    go_enter Tryd.func44,Tryd.ntmps44
    go_wp2_with (first|(refine callA_ (f:=43) (some 8) Tryd.func43 #[.slice A0 l0.length c0,.int .i64 a1,.int .i64 1] ?_;(with_reducible refine (pool_is.calls _ _ l0 a1 1 true _ ?side1 ?side2 A3.out).mono ?_);(case side1 => exact kc_ HR0.out);(case side2 => exact HC0.out);rintro e w' ⟨rfl,⟨nd,rfl⟩⟩;refine ⟨_,rfl,?_⟩;have p173:0≤(a1:Int):=od_;have q173:a1 < (l0.length:Int):=od_;obtain ⟨ad173,e173,hx173_0,hx173_1,hx173_2,hx173_3,hx173_4⟩:=at_T108 HR0.out a1 p173 q173;cases e173;replace p173:=eq_true p173;replace q173:=eq_true q173))
    go_ret2
    exact ⟨by first|rfl|(simp;done)|(simp [*];done),by repeat (first|exact Drawn0.refl _|apply Drawn0.step)⟩
   ·rw [if_neg c6] at H
    exact absurd H (by simp)
  ·rw [if_neg c5] at H
   exact absurd H (by simp)
 ·replace c4:=Bool.eq_false_iff.mpr c4
  subst c4
  rw [if_neg (show ¬ (false=true) by decide)] at H
  simp only [Option.some.injEq,Prod.mk.injEq] at H
  obtain ⟨rfl,rfl⟩:=H
  go_enter Tryd.func44,Tryd.ntmps44
  go_wp2_with (first|(refine callA_ (f:=43) (some 8) Tryd.func43 #[.slice A0 l0.length c0,.int .i64 a1,.int .i64 1] ?_;(with_reducible refine (pool_is.calls _ _ l0 a1 1 false _ ?side1 ?side2 A3.out).mono ?_);(case side1 => exact kc_ HR0.out);(case side2 => exact HC0.out);rintro e w' ⟨rfl,⟨nd,rfl⟩⟩;refine ⟨_,rfl,?_⟩))
  go_ret2
  exact ⟨by first|rfl|(simp;done)|(simp [*];done),by repeat (first|exact Drawn0.refl _|apply Drawn0.step)⟩
def pool_Class.f (l0:List (S108)) (a1:Int):Option (ByteArray × Bool):=(pool_is.f l0 a1 7).bind fun t174 => (if t174=true then (if 0≤a1 then (if a1 < (l0.length:Int) then ((pool_Text.f l0 ((rd_T108 l0 a1).f3)).bind fun bt176 => (some (bt176.1,bt176.2))) else (none)) else (none)) else (some ((⟨#[]⟩:ByteArray),false)))
set_option maxHeartbeats 80000000 in
set_option maxRecDepth 100000 in
theorem pool_Class.calls (A0:Option Addr) (c0:Nat) (l0:List (S108)) (a1:Int) (r1:ByteArray) (r2:Bool) (w:World) (hr0:Kd.C k108 w A0 l0.length l0) (hc0:l0.length≤c0) (h:pool_Class.f l0 a1=some (r1,r2)) :
  Calls Tryd.prog 30 #[.slice A0 l0.length c0,.int .i64 a1] w fun e w' => e=.returned (.tuple #[.string r1,.bool r2])∧Drawn0 w w':=by
 have HR0:=Aside0.mk hr0
 have HC0:=Aside0.mk hc0
 clear hr0 hc0
 have H:((pool_is.f l0 a1 7).bind fun t174 => (if t174=true then (if 0≤a1 then (if a1 < (l0.length:Int) then ((pool_Text.f l0 ((rd_T108 l0 a1).f3)).bind fun bt176 => (some (bt176.1,bt176.2))) else (none)) else (none)) else (some ((⟨#[]⟩:ByteArray),false))))=some (r1,r2):=h
 clear h
 replace H:=Option.bind_eq_some_iff.mp H
 obtain ⟨t174,A30,H⟩:=H
 try dsimp only at H
 have A3:=Aside0.mk A30
 clear A30
 by_cases c4:t174=true
 ·subst c4
  rw [if_pos rfl] at H
  by_cases c5:0≤a1
  ·rw [if_pos c5] at H
   have c5b0:decide (0≤a1)=true:=decide_eq_true c5
   clear c5
   by_cases c6:a1 < (l0.length:Int)
   ·rw [if_pos c6] at H
    have c6b0:decide (a1 < (l0.length:Int))=true:=decide_eq_true c6
    clear c6
    replace H:=Option.bind_eq_some_iff.mp H
    obtain ⟨⟨t176,t177⟩,A70,H⟩:=H
    try dsimp only at H
    have A7:=Aside0.mk A70
    clear A70
    simp only [Option.some.injEq,Prod.mk.injEq] at H
    obtain ⟨rfl,rfl⟩:=H
    go_enter Tryd.func30,Tryd.ntmps30
    go_wp2_with (first|(refine callA_ (f:=43) (some 8) Tryd.func43 #[.slice A0 l0.length c0,.int .i64 a1,.int .i64 7] ?_;(with_reducible refine (pool_is.calls _ _ l0 a1 7 true _ ?side1 ?side2 A3.out).mono ?_);(case side1 => exact kc_ HR0.out);(case side2 => exact HC0.out);rintro e w' ⟨rfl,⟨nd,rfl⟩⟩;refine ⟨_,rfl,?_⟩;have p175:0≤(a1:Int):=od_;have q175:a1 < (l0.length:Int):=od_;obtain ⟨ad175,e175,hx175_0,hx175_1,hx175_2,hx175_3,hx175_4⟩:=at_T108 HR0.out a1 p175 q175;cases e175;replace p175:=eq_true p175;replace q175:=eq_true q175)|(refine callA_ (f:=44) (some 16) Tryd.func44 #[.slice (some ad175) l0.length c0,.int .i64 ((rd_T108 l0 a1).f3)] ?_;(with_reducible refine (pool_Text.calls _ _ l0 ((rd_T108 l0 a1).f3) t176 t177 _ ?side1 ?side2 A7.out).mono ?_);(case side1 => exact kc_ HR0.out);(case side2 => exact HC0.out);rintro e w' ⟨rfl,⟨nd,rfl⟩⟩;refine ⟨_,rfl,?_⟩))
    go_ret2
    exact ⟨by first|rfl|(simp;done)|(simp [*];done),by repeat (first|exact Drawn0.refl _|apply Drawn0.step)⟩
   ·rw [if_neg c6] at H
    exact absurd H (by simp)
  ·rw [if_neg c5] at H
   exact absurd H (by simp)
 ·replace c4:=Bool.eq_false_iff.mpr c4
  subst c4
  rw [if_neg (show ¬ (false=true) by decide)] at H
  simp only [Option.some.injEq,Prod.mk.injEq] at H
  obtain ⟨rfl,rfl⟩:=H
  go_enter Tryd.func30,Tryd.ntmps30
  go_wp2_with (first|(refine callA_ (f:=43) (some 8) Tryd.func43 #[.slice A0 l0.length c0,.int .i64 a1,.int .i64 7] ?_;(with_reducible refine (pool_is.calls _ _ l0 a1 7 false _ ?side1 ?side2 A3.out).mono ?_);(case side1 => exact kc_ HR0.out);(case side2 => exact HC0.out);rintro e w' ⟨rfl,⟨nd,rfl⟩⟩;refine ⟨_,rfl,?_⟩))
  go_ret2
  exact ⟨by first|rfl|(simp;done)|(simp [*];done),by repeat (first|exact Drawn0.refl _|apply Drawn0.step)⟩
def class_rules_class.l0:Nat→List Int→Int→Int→List (S108)→Option (Bool)
 | 0,_,_,_,_ => none
 | k + 1,x9,x10,x11,x179000 => if x11 < x10 then (if 0≤x11 then (if x11 < (x9.length:Int) then ((pool_Class.f x179000 (rd x9 x11)).bind fun bt180 => (if bt180.2=true then (class_rules_class.l0 k x9 x10 (wrap64 (x11 + 1)) x179000) else (some false))) else (none)) else (none)) else (some true)
def class_rules_class.f (k:Nat) (l0_0:List (S108)) (l1:List Int):Option (Bool):=class_rules_class.l0 k l1 (l1.length:Int) 0 l0_0
set_option maxHeartbeats 80000000 in
set_option maxRecDepth 100000 in
theorem class_rules_class.calls (k:Nat) (A0_0:Option Addr) (c0_0:Nat) (l0_0:List (S108)) (A1:Option Addr) (c1:Nat) (l1:List Int) (r:Bool) (w:World) (hr0_0:Kd.C k108 w A0_0 l0_0.length l0_0) (hc0_0:l0_0.length≤c0_0) (hr1:Kd.C (Kd.int .i64) w A1 l1.length l1) (hc1:l1.length≤c1) (h:class_rules_class.f k l0_0 l1=some r) :
  Calls Tryd.prog 33 #[.agg #[.slice A0_0 l0_0.length c0_0],.slice A1 l1.length c1] w fun e w' => e=.returned (.bool r)∧Below w.heap.size w w':=by
 have hu99:=Tryd.underlying99
 have HR0_0:=Aside0.mk hr0_0
 have HC0_0:=Aside0.mk hc0_0
 clear hr0_0 hc0_0
 have HR1:=Aside0.mk hr1
 have HC1:=Aside0.mk hc1
 clear hr1 hc1
 have HB:=Aside0.mk (Below.refl w.heap.size w)
 have H:(class_rules_class.l0 k l1 (l1.length:Int) 0 l0_0)=some r:=h
 clear h
 have H':=Aside0.mk H
 clear H
 go_enter Tryd.func33,Tryd.ntmps33
 go_wp2_with (first|((with_reducible refine gate_dst (N:=2) rfl ?_);refine box_event ?hg (N:=2) ?hd (cs:=#[.slice A0_0 l0_0.length c0_0]) (t:=99) ?hr ?_;(case hd => rfl);(case hg => rfl);(case hr => first|(go_simp;done)|(go_simp;rfl));intro gb178 hg w3 hbox hb;have n0_:=Aside0.mk (below_step bl_ hb);have n1_:=Aside0.mk (hbox);have n2_:=Aside0.mk ((by rw [hg];exact (below_size bl_):w.heap.size≤gb178));have n3_:=Aside0.mk ((by rw [hg];exact (below_size bl_):w.heap.size≤gb178));clear HB;have HB:=n0_;have BK178:=n1_;have GW178:=n2_;have GE178:=n3_;clear n0_ n1_ n2_ n3_;clear hb hbox hg))
 go_loopg [11] k (fun kq v11 w' => ∃ (x11_1:Int),v11=.int .i64 x11_1∧Aside0 (class_rules_class.l0 kq l1 (l1.length:Int) x11_1 l0_0=some r)∧Aside0 (kq≤k)∧Aside0 (w'.heap[gb178]?=some (.cells #[(.slice A0_0 l0_0.length c0_0)] 99 (0,0)))∧Aside0 (Below w.heap.size w w'))
 case atStart => exact ⟨(0),r3_,H',⟨Nat.le_refl _⟩,⟨bk_⟩,⟨bl_⟩⟩
 case round =>
  clear H'
  try clear c1
  obtain ⟨x11_1,rfl,HA,HK1,BK178,HB⟩:=hrel
  cases gk with
  | zero => exact absurd HA.out (by simp [class_rules_class.l0])
  | succ k1 =>
   have H:=HA.out
   clear HA
   simp only [class_rules_class.l0] at H
   by_cases c4:x11_1 < (l1.length:Int)
   ·rw [if_pos c4] at H
    have c4b0:decide (x11_1 < (l1.length:Int))=true:=decide_eq_true c4
    clear c4
    by_cases c5:0≤x11_1
    ·rw [if_pos c5] at H
     have c5b0:decide (0≤x11_1)=true:=decide_eq_true c5
     clear c5
     by_cases c6:x11_1 < (l1.length:Int)
     ·rw [if_pos c6] at H
      have c6b0:decide (x11_1 < (l1.length:Int))=true:=decide_eq_true c6
      clear c6
      replace H:=Option.bind_eq_some_iff.mp H
      obtain ⟨⟨t180,t181⟩,A70,H⟩:=H
      try dsimp only at H
      have A7:=Aside0.mk A70
      clear A70
      by_cases c8:t181=true
      ·subst c8
       rw [if_pos rfl] at H
       have H':=Aside0.mk H
       clear H
       have p179:0≤(x11_1:Int):=od_
       have q179:x11_1 < (l1.length:Int):=od_
       obtain ⟨ad179,e179,hx179_0⟩:=Kd.at_int HR1.out x11_1 p179 q179
       cases e179
       replace hx179_0:=hb_ HB hx179_0
       replace p179:=eq_true p179
       replace q179:=eq_true q179
       have hcz9_0:wr.cell? ⟨gb178,0,none⟩=some (.slice A0_0 l0_0.length c0_0):=(blk_cell BK178.out 0).trans rfl
       have hfz9_0:=blk_frozen BK178.out 0
       go_wp2_with (first|(refine callA_ (f:=30) (some 19) Tryd.func30 #[.slice A0_0 l0_0.length c0_0,.int .i64 (rd l1 x11_1)] ?_;(with_reducible refine (pool_Class.calls _ _ l0_0 (rd l1 x11_1) t180 true _ ?side1 ?side2 A7.out).mono ?_);(case side1 => exact kc_ (Kd.C_below HR0_0.out HB.out));(case side2 => exact HC0_0.out);rintro e w' ⟨rfl,⟨nd,rfl⟩⟩;refine ⟨_,rfl,?_⟩))
       go_roundg k1
       case measure => have:=HK1.out;omega
       case rel => exact ⟨(wrap64 (x11_1 + 1)),r3_,H',⟨by have:=HK1.out;omega⟩,⟨bk_⟩,⟨bl_⟩⟩
      ·replace c8:=Bool.eq_false_iff.mpr c8
       subst c8
       rw [if_neg (show ¬ (false=true) by decide)] at H
       obtain rfl:=Option.some.inj H
       have p179:0≤(x11_1:Int):=od_
       have q179:x11_1 < (l1.length:Int):=od_
       obtain ⟨ad179,e179,hx179_0⟩:=Kd.at_int HR1.out x11_1 p179 q179
       cases e179
       replace hx179_0:=hb_ HB hx179_0
       replace p179:=eq_true p179
       replace q179:=eq_true q179
       have hcz10_0:wr.cell? ⟨gb178,0,none⟩=some (.slice A0_0 l0_0.length c0_0):=(blk_cell BK178.out 0).trans rfl
       have hfz10_0:=blk_frozen BK178.out 0
       go_wp2_with (first|(refine callA_ (f:=30) (some 19) Tryd.func30 #[.slice A0_0 l0_0.length c0_0,.int .i64 (rd l1 x11_1)] ?_;(with_reducible refine (pool_Class.calls _ _ l0_0 (rd l1 x11_1) t180 false _ ?side1 ?side2 A7.out).mono ?_);(case side1 => exact kc_ (Kd.C_below HR0_0.out HB.out));(case side2 => exact HC0_0.out);rintro e w' ⟨rfl,⟨nd,rfl⟩⟩;refine ⟨_,rfl,?_⟩))
       go_ret
       exact ⟨ew_,bl_⟩
     ·rw [if_neg c6] at H
      exact absurd H (by simp)
    ·rw [if_neg c5] at H
     exact absurd H (by simp)
   ·rw [if_neg c4] at H
    have c4b0:decide (x11_1 < (l1.length:Int))=false:=decide_eq_false c4
    clear c4
    obtain rfl:=Option.some.inj H
    go_wp2
    go_ret
    exact ⟨ew_,bl_⟩
def class_flags.f (a0:Int):Option (Bool):=some ((Go.bits .andNot .i64 a0 8)==0)
set_option maxHeartbeats 80000000 in
set_option maxRecDepth 100000 in
theorem class_flags.calls (a0:Int) (r:Bool) (w:World) (h:class_flags.f a0=some r) :
  Calls Tryd.prog 34 #[.int .i64 a0] w fun e w' => e=.returned (.bool r)∧Drawn0 w w':=by
 have H:(some ((Go.bits .andNot .i64 a0 8)==0))=some r:=h
 clear h
 obtain rfl:=Option.some.inj H
 go_enter Tryd.func34,Tryd.ntmps34
 go_wp2
 go_ret
 exact ⟨by first|rfl|(simp;done)|(simp [*];done),by repeat (first|exact Drawn0.refl _|apply Drawn0.step)⟩
def class_rules_text.l0:Nat→List Int→Int→Int→List (S108)→Option (Bool)
 | 0,_,_,_,_ => none
 | k + 1,x9,x10,x11,x183000 => if x11 < x10 then (if 0≤x11 then (if x11 < (x9.length:Int) then ((pool_Text.f x183000 (rd x9 x11)).bind fun bt184 => (if bt184.2=true then (class_rules_text.l0 k x9 x10 (wrap64 (x11 + 1)) x183000) else (some false))) else (none)) else (none)) else (some true)
def class_rules_text.f (k:Nat) (l0_0:List (S108)) (l1:List Int):Option (Bool):=class_rules_text.l0 k l1 (l1.length:Int) 0 l0_0
set_option maxHeartbeats 80000000 in
set_option maxRecDepth 100000 in
theorem class_rules_text.calls (k:Nat) (A0_0:Option Addr) (c0_0:Nat) (l0_0:List (S108)) (A1:Option Addr) (c1:Nat) (l1:List Int) (r:Bool) (w:World) (hr0_0:Kd.C k108 w A0_0 l0_0.length l0_0) (hc0_0:l0_0.length≤c0_0) (hr1:Kd.C (Kd.int .i64) w A1 l1.length l1) (hc1:l1.length≤c1) (h:class_rules_text.f k l0_0 l1=some r) :
  Calls Tryd.prog 35 #[.agg #[.slice A0_0 l0_0.length c0_0],.slice A1 l1.length c1] w fun e w' => e=.returned (.bool r)∧Below w.heap.size w w':=by
 have hu99:=Tryd.underlying99
 have HR0_0:=Aside0.mk hr0_0
 have HC0_0:=Aside0.mk hc0_0
 clear hr0_0 hc0_0
 have HR1:=Aside0.mk hr1
 have HC1:=Aside0.mk hc1
 clear hr1 hc1
 have HB:=Aside0.mk (Below.refl w.heap.size w)
 have H:(class_rules_text.l0 k l1 (l1.length:Int) 0 l0_0)=some r:=h
 clear h
 have H':=Aside0.mk H
 clear H
 go_enter Tryd.func35,Tryd.ntmps35
 go_wp2_with (first|((with_reducible refine gate_dst (N:=2) rfl ?_);refine box_event ?hg (N:=2) ?hd (cs:=#[.slice A0_0 l0_0.length c0_0]) (t:=99) ?hr ?_;(case hd => rfl);(case hg => rfl);(case hr => first|(go_simp;done)|(go_simp;rfl));intro gb182 hg w3 hbox hb;have n0_:=Aside0.mk (below_step bl_ hb);have n1_:=Aside0.mk (hbox);have n2_:=Aside0.mk ((by rw [hg];exact (below_size bl_):w.heap.size≤gb182));have n3_:=Aside0.mk ((by rw [hg];exact (below_size bl_):w.heap.size≤gb182));clear HB;have HB:=n0_;have BK182:=n1_;have GW182:=n2_;have GE182:=n3_;clear n0_ n1_ n2_ n3_;clear hb hbox hg))
 go_loopg [11] k (fun kq v11 w' => ∃ (x11_1:Int),v11=.int .i64 x11_1∧Aside0 (class_rules_text.l0 kq l1 (l1.length:Int) x11_1 l0_0=some r)∧Aside0 (kq≤k)∧Aside0 (w'.heap[gb182]?=some (.cells #[(.slice A0_0 l0_0.length c0_0)] 99 (0,0)))∧Aside0 (Below w.heap.size w w'))
 case atStart => exact ⟨(0),r3_,H',⟨Nat.le_refl _⟩,⟨bk_⟩,⟨bl_⟩⟩
 case round =>
  clear H'
  try clear c1
  obtain ⟨x11_1,rfl,HA,HK1,BK182,HB⟩:=hrel
  cases gk with
  | zero => exact absurd HA.out (by simp [class_rules_text.l0])
  | succ k1 =>
   have H:=HA.out
   clear HA
   simp only [class_rules_text.l0] at H
   by_cases c4:x11_1 < (l1.length:Int)
   ·rw [if_pos c4] at H
    have c4b0:decide (x11_1 < (l1.length:Int))=true:=decide_eq_true c4
    clear c4
    by_cases c5:0≤x11_1
    ·rw [if_pos c5] at H
     have c5b0:decide (0≤x11_1)=true:=decide_eq_true c5
     clear c5
     by_cases c6:x11_1 < (l1.length:Int)
     ·rw [if_pos c6] at H
      have c6b0:decide (x11_1 < (l1.length:Int))=true:=decide_eq_true c6
      clear c6
      replace H:=Option.bind_eq_some_iff.mp H
      obtain ⟨⟨t184,t185⟩,A70,H⟩:=H
      try dsimp only at H
      have A7:=Aside0.mk A70
      clear A70
      by_cases c8:t185=true
      ·subst c8
       rw [if_pos rfl] at H
       have H':=Aside0.mk H
       clear H
       have p183:0≤(x11_1:Int):=od_
       have q183:x11_1 < (l1.length:Int):=od_
       obtain ⟨ad183,e183,hx183_0⟩:=Kd.at_int HR1.out x11_1 p183 q183
       cases e183
       replace hx183_0:=hb_ HB hx183_0
       replace p183:=eq_true p183
       replace q183:=eq_true q183
       have hcz9_0:wr.cell? ⟨gb182,0,none⟩=some (.slice A0_0 l0_0.length c0_0):=(blk_cell BK182.out 0).trans rfl
       have hfz9_0:=blk_frozen BK182.out 0
       go_wp2_with (first|(refine callA_ (f:=44) (some 19) Tryd.func44 #[.slice A0_0 l0_0.length c0_0,.int .i64 (rd l1 x11_1)] ?_;(with_reducible refine (pool_Text.calls _ _ l0_0 (rd l1 x11_1) t184 true _ ?side1 ?side2 A7.out).mono ?_);(case side1 => exact kc_ (Kd.C_below HR0_0.out HB.out));(case side2 => exact HC0_0.out);rintro e w' ⟨rfl,⟨nd,rfl⟩⟩;refine ⟨_,rfl,?_⟩))
       go_roundg k1
       case measure => have:=HK1.out;omega
       case rel => exact ⟨(wrap64 (x11_1 + 1)),r3_,H',⟨by have:=HK1.out;omega⟩,⟨bk_⟩,⟨bl_⟩⟩
      ·replace c8:=Bool.eq_false_iff.mpr c8
       subst c8
       rw [if_neg (show ¬ (false=true) by decide)] at H
       obtain rfl:=Option.some.inj H
       have p183:0≤(x11_1:Int):=od_
       have q183:x11_1 < (l1.length:Int):=od_
       obtain ⟨ad183,e183,hx183_0⟩:=Kd.at_int HR1.out x11_1 p183 q183
       cases e183
       replace hx183_0:=hb_ HB hx183_0
       replace p183:=eq_true p183
       replace q183:=eq_true q183
       have hcz10_0:wr.cell? ⟨gb182,0,none⟩=some (.slice A0_0 l0_0.length c0_0):=(blk_cell BK182.out 0).trans rfl
       have hfz10_0:=blk_frozen BK182.out 0
       go_wp2_with (first|(refine callA_ (f:=44) (some 19) Tryd.func44 #[.slice A0_0 l0_0.length c0_0,.int .i64 (rd l1 x11_1)] ?_;(with_reducible refine (pool_Text.calls _ _ l0_0 (rd l1 x11_1) t184 false _ ?side1 ?side2 A7.out).mono ?_);(case side1 => exact kc_ (Kd.C_below HR0_0.out HB.out));(case side2 => exact HC0_0.out);rintro e w' ⟨rfl,⟨nd,rfl⟩⟩;refine ⟨_,rfl,?_⟩))
       go_ret
       exact ⟨ew_,bl_⟩
     ·rw [if_neg c6] at H
      exact absurd H (by simp)
    ·rw [if_neg c5] at H
     exact absurd H (by simp)
   ·rw [if_neg c4] at H
    have c4b0:decide (x11_1 < (l1.length:Int))=false:=decide_eq_false c4
    clear c4
    obtain rfl:=Option.some.inj H
    go_wp2
    go_ret
    exact ⟨ew_,bl_⟩
def class_within.f (a0:Int) (a1:Int):Option (Bool):=if a0 ≥ 0 then (some (decide (a0≤a1))) else (some false)
set_option maxHeartbeats 80000000 in
set_option maxRecDepth 100000 in
theorem class_within.calls (a0:Int) (a1:Int) (r:Bool) (w:World) (h:class_within.f a0 a1=some r) :
  Calls Tryd.prog 48 #[.int .i64 a0,.int .i64 a1] w fun e w' => e=.returned (.bool r)∧Drawn0 w w':=by
 have H:(if a0 ≥ 0 then (some (decide (a0≤a1))) else (some false))=some r:=h
 clear h
 by_cases c3:a0 ≥ 0
 ·rw [if_pos c3] at H
  have c3b0:decide (0≤a0)=true:=decide_eq_true c3
  clear c3
  obtain rfl:=Option.some.inj H
  go_enter Tryd.func48,Tryd.ntmps48
  go_wp2
  go_ret
  exact ⟨by first|rfl|(simp;done)|(simp [*];done),by repeat (first|exact Drawn0.refl _|apply Drawn0.step)⟩
 ·rw [if_neg c3] at H
  have c3b0:decide (0≤a0)=false:=decide_eq_false c3
  clear c3
  obtain rfl:=Option.some.inj H
  go_enter Tryd.func48,Tryd.ntmps48
  go_wp2
  go_ret
  exact ⟨by first|rfl|(simp;done)|(simp [*];done),by repeat (first|exact Drawn0.refl _|apply Drawn0.step)⟩
def class_place.l0:Nat→List (S108)→ByteArray→Int→Int→Option (Int)
 | 0,_,_,_,_ => none
 | k + 1,x0,x1,x9,x10 => if x10 < x9 then ((pool_Text.f x0 x10).bind fun bt186 => (if bt186.2=true then (if bt186.1.toList=x1.toList then (some x10) else (class_place.l0 k x0 x1 x9 (wrap64 (x10 + 1)))) else (class_place.l0 k x0 x1 x9 (wrap64 (x10 + 1))))) else (some 0)
def class_place.f (k:Nat) (l0:List (S108)) (a1:ByteArray):Option (Int):=class_place.l0 k l0 a1 (l0.length:Int) 0
set_option maxHeartbeats 80000000 in
set_option maxRecDepth 100000 in
theorem class_place.calls (k:Nat) (A0:Option Addr) (c0:Nat) (l0:List (S108)) (a1:ByteArray) (r:Int) (w:World) (hr0:Kd.C k108 w A0 l0.length l0) (hc0:l0.length≤c0) (h:class_place.f k l0 a1=some r) :
  Calls Tryd.prog 49 #[.slice A0 l0.length c0,.string a1] w fun e w' => e=.returned (.int .i64 r)∧Drawn0 w w':=by
 have HR0:=Aside0.mk hr0
 have HC0:=Aside0.mk hc0
 clear hr0 hc0
 have H:(class_place.l0 k l0 a1 (l0.length:Int) 0)=some r:=h
 clear h
 have H':=Aside0.mk H
 clear H
 go_enter Tryd.func49,Tryd.ntmps49
 go_wp2
 go_loopg [10] k (fun kq v10 w' => ∃ (x10_1:Int),v10=.int .i64 x10_1∧Aside0 (class_place.l0 kq l0 a1 (l0.length:Int) x10_1=some r)∧Aside0 (kq≤k)∧Drawn0 w w')
 case atStart => exact ⟨(0),r3_,H',⟨Nat.le_refl _⟩,by repeat (first|exact Drawn0.refl _|apply Drawn0.step)⟩
 case round =>
  clear H'
  obtain ⟨x10_1,rfl,HA,HK1,⟨m1,rfl⟩⟩:=hrel
  cases gk with
  | zero => exact absurd HA.out (by simp [class_place.l0])
  | succ k1 =>
   have H:=HA.out
   clear HA
   simp only [class_place.l0] at H
   by_cases c3:x10_1 < (l0.length:Int)
   ·rw [if_pos c3] at H
    have c3b0:decide (x10_1 < (l0.length:Int))=true:=decide_eq_true c3
    clear c3
    replace H:=Option.bind_eq_some_iff.mp H
    obtain ⟨⟨t186,t187⟩,A40,H⟩:=H
    try dsimp only at H
    have A4:=Aside0.mk A40
    clear A40
    by_cases c5:t187=true
    ·subst c5
     rw [if_pos rfl] at H
     by_cases c6:t186.toList=a1.toList
     ·rw [if_pos c6] at H
      have c6b0:(t186.toList==a1.toList)=true:=beq_iff_eq.mpr c6
      have c6b1:(t186.toList != a1.toList)=false:=bne_eq_false_iff_eq.mpr c6
      clear c6
      obtain rfl:=Option.some.inj H
      go_wp2_with (first|(refine callA_ (f:=44) (some 16) Tryd.func44 #[.slice A0 l0.length c0,.int .i64 x10_1] ?_;(with_reducible refine (pool_Text.calls _ _ l0 x10_1 t186 true _ ?side1 ?side2 A4.out).mono ?_);(case side1 => exact kc_ HR0.out);(case side2 => exact HC0.out);rintro e w' ⟨rfl,⟨nd,rfl⟩⟩;refine ⟨_,rfl,?_⟩))
      go_ret
      exact ⟨by first|rfl|(simp;done)|(simp [*];done),by repeat (first|exact Drawn0.refl _|apply Drawn0.step)⟩
     ·rw [if_neg c6] at H
      have c6b0:(t186.toList==a1.toList)=false:=beq_eq_false_iff_ne.mpr c6
      have c6b1:(t186.toList != a1.toList)=true:=bne_iff_ne.mpr c6
      have H':=Aside0.mk H
      clear H
      go_wp2_with (first|(refine callA_ (f:=44) (some 16) Tryd.func44 #[.slice A0 l0.length c0,.int .i64 x10_1] ?_;(with_reducible refine (pool_Text.calls _ _ l0 x10_1 t186 true _ ?side1 ?side2 A4.out).mono ?_);(case side1 => exact kc_ HR0.out);(case side2 => exact HC0.out);rintro e w' ⟨rfl,⟨nd,rfl⟩⟩;refine ⟨_,rfl,?_⟩))
      go_roundg k1
      case measure => have:=HK1.out;omega
      case rel => exact ⟨(wrap64 (x10_1 + 1)),r3_,H',⟨by have:=HK1.out;omega⟩,by repeat (first|exact Drawn0.refl _|apply Drawn0.step)⟩
    ·replace c5:=Bool.eq_false_iff.mpr c5
     subst c5
     rw [if_neg (show ¬ (false=true) by decide)] at H
     have H':=Aside0.mk H
     clear H
     go_wp2_with (first|(refine callA_ (f:=44) (some 16) Tryd.func44 #[.slice A0 l0.length c0,.int .i64 x10_1] ?_;(with_reducible refine (pool_Text.calls _ _ l0 x10_1 t186 false _ ?side1 ?side2 A4.out).mono ?_);(case side1 => exact kc_ HR0.out);(case side2 => exact HC0.out);rintro e w' ⟨rfl,⟨nd,rfl⟩⟩;refine ⟨_,rfl,?_⟩))
     go_roundg k1
     case measure => have:=HK1.out;omega
     case rel => exact ⟨(wrap64 (x10_1 + 1)),r3_,H',⟨by have:=HK1.out;omega⟩,by repeat (first|exact Drawn0.refl _|apply Drawn0.step)⟩
   ·rw [if_neg c3] at H
    have c3b0:decide (x10_1 < (l0.length:Int))=false:=decide_eq_false c3
    clear c3
    obtain rfl:=Option.some.inj H
    go_wp2
    go_ret
    exact ⟨by first|rfl|(simp;done)|(simp [*];done),by repeat (first|exact Drawn0.refl _|apply Drawn0.step)⟩
end Go.Proofs.YtoonhpcjcimecaaDoor.Px
namespace Go.Proofs.YtoonhpcjcimecaaDoor.Px
open Go.RowKit Go.Proofs.YtoonhpcjcimecaaDoorW.PrintWords Go.Proofs.YtoonhpcjcimecaaDoorW.PrintLast Go.Proofs.YtoonhpcjcimecaaDoorW.PrintMore
set_option linter.unusedVariables false
set_option linter.unusedSimpArgs false
def isV (l:List S108) (i tag:Int):Bool:=decide (0 < i∧i < (l.length:Int)∧(rd_T108 l i).f0=tag)
def noText:ByteArray:=⟨#[]⟩
def textV (l:List S108) (i:Int):ByteArray × Bool:=if isV l i 1=true then ((rd_T108 l i).f1,true) else (noText,false)
theorem isV_pos {l:List S108} {i tag:Int} (h:isV l i tag=true):0 < i∧i < (l.length:Int)∧(rd_T108 l i).f0=tag:=of_decide_eq_true h
theorem pool_is.eq (l:List S108) (i tag:Int):pool_is.f l i tag=some (isV l i tag):=by
 unfold pool_is.f isV
 by_cases h1:i > 0
 ·rw [if_pos h1]
  by_cases h2:i < (l.length:Int)
  ·rw [if_pos h2,if_pos (by omega)]
   congr 1
   rw [Bool.eq_iff_iff]
   simp only [beq_iff_eq,decide_eq_true_eq]
   exact ⟨fun h => ⟨h1,h2,h⟩,fun h => h.2.2⟩
  ·rw [if_neg h2,decide_eq_false (by omega)]
 ·rw [if_neg h1,decide_eq_false (by omega)]
theorem pool_Text.eq (l:List S108) (i:Int):pool_Text.f l i=some (textV l i):=by
 unfold pool_Text.f textV
 rw [pool_is.eq,Option.bind_some]
 by_cases h:isV l i 1=true
 ·have:=isV_pos h
  rw [if_pos h,if_pos h,if_pos (by omega),if_pos this.2.1]
 ·rw [if_neg h,if_neg h];rfl
end Go.Proofs.YtoonhpcjcimecaaDoor.Px
namespace Go.Proofs.YtoonhpcjcimecaaDoor.Px
open Go.RowKit Go.Proofs.YtoonhpcjcimecaaDoorW.PrintWords Go.Proofs.YtoonhpcjcimecaaDoorW.PrintLast Go.Proofs.YtoonhpcjcimecaaDoorW.PrintMore
set_option linter.unusedVariables false
set_option linter.unusedSimpArgs false
def fieldsV (c:Cst):Int × ByteArray × Int × Int × Int :=
 if c.f0=1 then (c.f0,c.f1,0,0,0) else if c.f0=3 ∨ c.f0=5 then (c.f0,⟨#[]⟩,c.f2,0,0) else if c.f0=9 ∨ c.f0=10 ∨ c.f0=12 then (c.f0,⟨#[]⟩,0,c.f3,c.f4) else if c.f0=7 then (c.f0,⟨#[]⟩,0,c.f3,0) else (c.f0,⟨#[]⟩,0,0,0)
def leadsV (p:List Cst) (c:Cst):Bool :=
 if c.f0=1 ∨ c.f0=5 then true else if c.f0=3 then decide (-2147483648≤c.f2∧c.f2≤2147483647) else if c.f0=7 then isV p c.f3 1 else if c.f0=12 then isV p c.f3 1 && isV p c.f4 1 else if c.f0=9 ∨ c.f0=10 then isV p c.f3 7 && isV p c.f4 12 else false
def bareV (c:Cst):Bool :=
 if c.f0=1 then decide (c.f2=0∧c.f3=0∧c.f4=0) else if c.f0=3 ∨ c.f0=5 then decide (c.f1.toList=[]∧c.f3=0∧c.f4=0) else if c.f0=7 then decide (c.f1.toList=[]∧c.f2=0∧c.f4=0) else decide (c.f1.toList=[]∧c.f2=0)
def oneV (p:List Cst) (c:Cst):Int :=
 if bareV c=true∧leadsV p c=true then (if c.f0=1∧¬ ((encV c.f1).2=0∧(encV c.f1).1.length≤256) then 20 else 0) else 40
def chkV:Nat→List Cst→Nat→Int
 | 0,_,_ => 0
 | n + 1,p,i => if i < p.length then (if oneV p (rd_T108 p (i:Int))=0 then chkV n p (i + 1) else oneV p (rd_T108 p (i:Int))) else 0
def zeroV (c:Cst):Bool:=decide (c.f0=0∧c.f1.toList=[]∧c.f2=0∧c.f3=0∧c.f4=0)
def checkV (p:List Cst):Int:=if p.length > 1024 then 2 else if p.length=0 then 40 else if zeroV (rd_T108 p 0)=true then chkV p.length p 1 else 40
theorem noBytes:(⟨#[]⟩:ByteArray).toList=[]:=by rw [Lib.toList_data]
theorem pool_fields.at2 (c:Cst):pool_fields.f 2 c.f0 c.f1 c.f2 c.f3 c.f4=some (fieldsV c):=by
 unfold fieldsV pool_fields.f
 simp only [pool_fields.j0,pool_fields.j1,beq_iff_eq]
 repeat' split
 all_goals first|rfl|(exfalso;omega)
theorem pool_fields.ev (c:Cst):Ev (fun k => pool_fields.f k c.f0 c.f1 c.f2 c.f3 c.f4) (fieldsV c):=Ev.of (fun k => pool_fields.mono _ _ _ _ _ k) (pool_fields.at2 c)
theorem wraps (x:Int) (h:(Lit.int .i64 x).wf=true):(wrap64 (wrap32 x)==x)=decide (-2147483648≤x∧x≤2147483647):=by
 simp [Lit.wf,IntKind.min,IntKind.max,IntKind.bits,IntKind.signed] at h
 rw [Bool.eq_iff_iff,beq_iff_eq,decide_eq_true_eq]
 unfold wrap64 wrap32
 omega
theorem pool_leads.at2 (p:List Cst) (c:Cst) (hw:(Lit.int .i64 c.f2).wf=true):pool_leads.f 2 p c.f0 c.f1 c.f2 c.f3 c.f4=some (leadsV p c):=by
 unfold leadsV pool_leads.f
 simp only [pool_leads.j0,pool_leads.j1,beq_iff_eq,pool_is.eq,Option.bind_some,wraps _ hw]
 by_cases h1:c.f0=1
 ·rw [if_pos h1,if_pos h1,if_pos (by omega)]
 rw [if_neg h1]
 by_cases h5:c.f0=5
 ·rw [if_pos h5,if_pos (by omega)]
 rw [if_neg h5,if_neg (show ¬ (c.f0=1 ∨ c.f0=5) by omega)]
 by_cases h3:c.f0=3
 ·rw [if_pos h3,if_pos h3]
 rw [if_neg h3,if_neg h3]
 by_cases h7:c.f0=7
 ·rw [if_pos h7,if_pos h7]
 rw [if_neg h7,if_neg h7]
 by_cases h12:c.f0=12
 ·rw [if_pos h12,if_pos h12]
  cases isV p c.f3 1 <;> simp
 rw [if_neg h12,if_neg h12]
 by_cases h9:c.f0=9
 ·rw [if_pos h9,if_pos h9,if_pos (show c.f0=9 ∨ c.f0=10 by omega)]
  cases isV p c.f3 7 <;> simp
 rw [if_neg h9]
 by_cases h10:c.f0=10
 ·rw [if_pos h10,if_pos (show c.f0=9 ∨ c.f0=10 by omega)]
  cases isV p c.f3 7 <;> simp
 rw [if_neg h10,if_neg (by omega)]
theorem pool_leads.ev (p:List Cst) (c:Cst) (hw:(Lit.int .i64 c.f2).wf=true):Ev (fun k => pool_leads.f k p c.f0 c.f1 c.f2 c.f3 c.f4) (leadsV p c):=Ev.of (fun k => pool_leads.mono _ _ _ _ _ _ k) (pool_leads.at2 p c hw)
theorem sameC_iff (c:Cst) (x:Int × ByteArray × Int × Int × Int):sameC c x=true ↔ c.f0=x.1∧c.f1.toList=x.2.1.toList∧c.f2=x.2.2.1∧c.f3=x.2.2.2.1∧c.f4=x.2.2.2.2:=by
 unfold sameC
 simp only [Bool.and_eq_true,beq_iff_eq]
theorem same_bare (p:List Cst) (c:Cst) (h:leadsV p c=true):sameC c (fieldsV c)=true ↔ bareV c=true:=by
 rw [sameC_iff]
 unfold fieldsV bareV
 unfold leadsV at h
 by_cases h1:c.f0=1
 ·simp [h1]
 ·by_cases h35:c.f0=3 ∨ c.f0=5
  ·rw [if_neg h1,if_neg h1,if_pos h35,if_pos h35]
   simp [noBytes]
  ·by_cases h9:c.f0=9 ∨ c.f0=10 ∨ c.f0=12
   ·rw [if_neg h1,if_neg h1,if_neg h35,if_neg h35,if_pos h9,if_neg (by omega)]
    simp [noBytes]
   ·by_cases h7:c.f0=7
    ·rw [if_neg h1,if_neg h1,if_neg h35,if_neg h35,if_neg h9,if_pos h7,if_pos h7]
     simp [noBytes]
    ·rw [if_neg (by omega),if_neg (by omega),if_neg (by omega),if_neg (by omega),if_neg (by omega)] at h
     cases h
theorem bare_text (c:Cst) (h:bareV c=true) (h1:c.f0 ≠ 1):encV c.f1=([],0):=by
 have ht:c.f1.toList=[]:=by
  unfold bareV at h
  rw [if_neg h1] at h
  split at h
  ·exact (of_decide_eq_true h).1
  ·split at h
   ·exact (of_decide_eq_true h).1
   ·exact (of_decide_eq_true h).1
 rw [Lib.toList_data] at ht
 unfold encV
 rw [ht]
 rfl
def codeOf (r:Option (Int × Int)):Int:=match r with|none => 0|some (_,y) => y
def FitC (c:Cst):Prop:=c.f1.size≤1099511627776∧(Lit.int .i64 c.f2).wf=true
theorem fit_zero:FitC z108:=⟨by decide,by decide⟩
theorem fit_rd {p:List Cst} (h:∀ c ∈ p,FitC c) (i:Int):FitC (rd_T108 p i):=by
 unfold rd_T108
 rw [List.getD_eq_getElem?_getD]
 cases e:p[i.toNat]? with
 | none => exact fit_zero
 | some x => exact h x (List.mem_of_getElem? e)
theorem pool_check.ev_l (p:List Cst) (hp:∀ c ∈ p,FitC c):∀ n i,p.length≤i + 1 + n→∃ r,Ev (fun k => pool_check.l0 k p i) r∧codeOf r=chkV n p (i + 1):=by
 have stop:∀ i,¬ i + 1 < p.length→Ev (fun k => pool_check.l0 k p i) none:=fun i hi => Ev.step (f:=fun _ => some none) (fun k => by simp only [pool_check.l0];rw [if_neg hi]) (Ev.now _)
 intro n
 induction n with
 | zero => intro i h;exact ⟨none,stop i (by omega),rfl⟩
 | succ n ih =>
  intro i h
  by_cases hi:i + 1 < p.length
  ·obtain ⟨c,hc⟩:∃ c,c=rd_T108 p ((i:Int) + 1):=⟨_,rfl⟩
   have hfit:FitC c:=hc ▸ fit_rd hp _
   have hV:chkV (n + 1) p (i + 1)=if oneV p c=0 then chkV n p (i + 2) else oneV p c:=by
    rw [hc]
    show (if i + 1 < p.length then _ else _)=_
    rw [if_pos hi]
    rfl
   rw [hV]
   have step:∀ r,Ev (fun k => (pool_fields.f k c.f0 c.f1 c.f2 c.f3 c.f4).bind fun x => if sameC c x=true then (pool_leads.f k p c.f0 c.f1 c.f2 c.f3 c.f4).bind fun t => if t=true then (text_Encode.f k c.f1).bind fun b => if b.2=0 then (if (b.1.length:Int) > 256 then some (some ((i:Int) + 1,20)) else pool_check.l0 k p (i + 1)) else some (some ((i:Int) + 1,20)) else some (some ((i:Int) + 1,40)) else some (some ((i:Int) + 1,40))) r→Ev (fun k => pool_check.l0 k p i) r:=fun r hr => Ev.step (fun k => by simp only [pool_check.l0];rw [if_pos hi,← hc]) hr
   by_cases hs:sameC c (fieldsV c)=true
   ·by_cases hl:leadsV p c=true
    ·have hb:=(same_bare p c hl).1 hs
     by_cases he:(encV c.f1).2=0∧(encV c.f1).1.length≤256
     ·obtain ⟨r,hr,hrc⟩:=ih (i + 1) (by omega)
      have h1:oneV p c=0:=by unfold oneV;rw [if_pos ⟨hb,hl⟩,if_neg (fun h => h.2 he)]
      rw [if_pos h1]
      refine ⟨r,step r (Ev.bind (pool_fields.ev c) (Ev.congr (fun k => if_pos hs) (Ev.bind (pool_leads.ev p c hfit.2) (Ev.congr (fun k => if_pos hl) (Ev.bind (text_Encode.ev c.f1 hfit.1) (Ev.congr (fun k => (if_pos he.1).trans (if_neg (by omega))) hr)))))),hrc⟩
     ·have hf1:c.f0=1:=by
       apply Classical.byContradiction
       intro h
       rw [bare_text c hb h] at he
       exact he ⟨rfl,by simp⟩
      have h1:oneV p c=20:=by unfold oneV;rw [if_pos ⟨hb,hl⟩,if_pos ⟨hf1,he⟩]
      rw [h1,if_neg (by decide)]
      refine ⟨some ((i:Int) + 1,20),step _ (Ev.bind (pool_fields.ev c) (Ev.congr (fun k => if_pos hs) (Ev.bind (pool_leads.ev p c hfit.2) (Ev.congr (fun k => if_pos hl) (Ev.bind (text_Encode.ev c.f1 hfit.1) ?_))))),rfl⟩
      by_cases h0:(encV c.f1).2=0
      ·exact Ev.congr (fun k => (if_pos h0).trans (if_pos (by omega))) (Ev.now _)
      ·exact Ev.congr (fun k => if_neg h0) (Ev.now _)
    ·have h1:oneV p c=40:=by unfold oneV;rw [if_neg (fun h => hl h.2)]
     rw [h1,if_neg (by decide)]
     exact ⟨some ((i:Int) + 1,40),step _ (Ev.bind (pool_fields.ev c) (Ev.congr (fun k => if_pos hs) (Ev.bind (pool_leads.ev p c hfit.2) (Ev.congr (fun k => if_neg hl) (Ev.now _))))),rfl⟩
   ·have h1:oneV p c=40:=by
     unfold oneV
     rw [if_neg (fun h => hs ((same_bare p c h.2).2 h.1))]
    rw [h1,if_neg (by decide)]
    exact ⟨some ((i:Int) + 1,40),step _ (Ev.bind (pool_fields.ev c) (Ev.congr (fun k => if_neg hs) (Ev.now _))),rfl⟩
  ·refine ⟨none,stop i hi,?_⟩
   show (0:Int)=if i + 1 < p.length then _ else 0
   rw [if_neg hi]
theorem zeroV_iff (c:Cst):sameC c (0,⟨#[]⟩,0,0,0)=zeroV c:=by
 rw [Bool.eq_iff_iff,sameC_iff]
 unfold zeroV
 rw [decide_eq_true_eq,noBytes]
theorem pool_Check.ev (p:List Cst) (hp:∀ c ∈ p,FitC c):Ev (fun k => pool_Check.f k p) (checkV p):=by
 have key:∀ r,Ev (fun k => pool_check.f k p) r→Ev (fun k => pool_Check.f k p) (codeOf r):=fun r hr => Ev.bind hr (Ev.now _)
 unfold checkV
 by_cases c1:p.length > 1024
 ·rw [if_pos c1]
  exact key (some (0,2)) (Ev.congr (f:=fun _ => some (some (0,2))) (fun k => by unfold pool_check.f;rw [if_pos c1]) (Ev.now _))
 rw [if_neg c1]
 by_cases c2:p.length=0
 ·rw [if_pos c2]
  exact key (some (0,40)) (Ev.congr (f:=fun _ => some (some (0,40))) (fun k => by unfold pool_check.f;rw [if_neg c1,if_pos c2]) (Ev.now _))
 rw [if_neg c2]
 by_cases c3:zeroV (rd_T108 p 0)=true
 ·rw [if_pos c3]
  obtain ⟨r,hr,hrc⟩:=pool_check.ev_l p hp p.length 0 (by omega)
  have:=key r (Ev.congr (f:=fun k => pool_check.l0 k p 0) (fun k => by unfold pool_check.f;rw [if_neg c1,if_neg c2,zeroV_iff,if_pos c3]) hr)
  rw [hrc] at this
  exact this
 ·rw [if_neg c3]
  exact key (some (0,40)) (Ev.congr (f:=fun _ => some (some (0,40))) (fun k => by unfold pool_check.f;rw [if_neg c1,if_neg c2,zeroV_iff,if_neg c3]) (Ev.now _))
end Go.Proofs.YtoonhpcjcimecaaDoor.Px
namespace Go.Proofs.YtoonhpcjcimecaaDoor.Px
open Go.RowKit Go.Proofs.YtoonhpcjcimecaaDoorW.PrintWords Go.Proofs.YtoonhpcjcimecaaDoorW.PrintLast Go.Proofs.YtoonhpcjcimecaaDoorW.PrintMore
end Go.Proofs.YtoonhpcjcimecaaDoor.Px
namespace Go.Proofs.YtoonhpcjcimecaaDoor.Px
open Go.RowKit Go.Proofs.YtoonhpcjcimecaaDoorW.PrintWords Go.Proofs.YtoonhpcjcimecaaDoorW.PrintLast Go.Proofs.YtoonhpcjcimecaaDoorW.PrintMore
abbrev Mth:=S97
abbrev Trp:=S120
abbrev Fld:=S102
def sMaps:ByteArray:={ data:=#[83,116,97,99,107,77,97,112,84,97,98,108,101] }
def sCode:ByteArray:={ data:=#[67,111,100,101] }
end Go.Proofs.YtoonhpcjcimecaaDoor.Px
namespace Go.Proofs.YtoonhpcjcimecaaDoor.Px
open Go.RowKit Go.Proofs.YtoonhpcjcimecaaDoorW.PrintWords Go.Proofs.YtoonhpcjcimecaaDoorW.PrintLast Go.Proofs.YtoonhpcjcimecaaDoorW.PrintMore
attribute [local go_sem] max2_int min2_int max_two min_two max_three min_three max_four min_four
set_option linter.unusedVariables false
set_option linter.unusedSimpArgs false
mutual
def class_rules_method.l0:Nat→Int→List (S120)→Int→Int→List (S108)→Int→Int→Int→Int→Int→List Int→List (S120)→List Int→Option (Bool)
 | 0,_,_,_,_,_,_,_,_,_,_,_,_,_ => none
 | k + 1,x5,x12,x13,x14,x189000,x190000,x190001,x190002,x190003,x190004,x190005,x190006,x190007 => if x14 < x13 then (if 0≤x14 then (if x14 < (x12.length:Int) then (if ((rd_T120 x12 x14).f0) < 0 then (class_rules_method.j1 k x5 x12 x13 x14 true x189000 x190000 x190001 x190002 x190003 x190004 x190005 x190006 x190007) else (if ((rd_T120 x12 x14).f0) ≥ ((rd_T120 x12 x14).f1) then (class_rules_method.j1 k x5 x12 x13 x14 true x189000 x190000 x190001 x190002 x190003 x190004 x190005 x190006 x190007) else (if ((rd_T120 x12 x14).f1) > x5 then (class_rules_method.j1 k x5 x12 x13 x14 true x189000 x190000 x190001 x190002 x190003 x190004 x190005 x190006 x190007) else ((class_within.f ((rd_T120 x12 x14).f2) (wrap64 (x5 - 1))).bind fun t192 => (if t192=true then (if ((rd_T120 x12 x14).f3)=0 then (class_rules_method.j1 k x5 x12 x13 x14 false x189000 x190000 x190001 x190002 x190003 x190004 x190005 x190006 x190007) else ((class_rules_class.f k x189000 (([(rd_T120 x12 x14).f3]:List Int))).bind fun t196 => (class_rules_method.j1 k x5 x12 x13 x14 (!t196) x189000 x190000 x190001 x190002 x190003 x190004 x190005 x190006 x190007))) else (class_rules_method.j1 k x5 x12 x13 x14 true x189000 x190000 x190001 x190002 x190003 x190004 x190005 x190006 x190007)))))) else (none)) else (none)) else ((class_flags.f x190000).bind fun t197 => (if t197=true then ((class_rules_text.f k x189000 (([x190001,x190002]:List Int))).bind fun t201 => (if t201=true then ((class_within.f x190003 64).bind fun t202 => (if t202=true then ((class_within.f x190004 64).bind fun t203 => (if t203=true then ((class_within.f (wrap64 (x5 - 1)) 4095).bind fun t204 => (if t204=true then (if (x190007.length:Int)≤4096 then ((class_place.f k x189000 (⟨#[67,111,100,101]⟩:ByteArray)).bind fun t205 => (if t205 > 0 then (if (x190007.length:Int)=0 then (some true) else ((class_place.f k x189000 (⟨#[83,116,97,99,107,77,97,112,84,97,98,108,101]⟩:ByteArray)).bind fun t206 => (some (decide (t206 > 0))))) else (some false))) else (some false)) else (some false))) else (some false))) else (some false))) else (some false))) else (some false)))
def class_rules_method.j1:Nat→Int→List (S120)→Int→Int→Bool→List (S108)→Int→Int→Int→Int→Int→List Int→List (S120)→List Int→Option (Bool)
 | 0,_,_,_,_,_,_,_,_,_,_,_,_,_,_ => none
 | k + 1,x5,x12,x13,x14,x54,x189000,x190000,x190001,x190002,x190003,x190004,x190005,x190006,x190007 => if x54=true then (some false) else (class_rules_method.l0 k x5 x12 x13 (wrap64 (x14 + 1)) x189000 x190000 x190001 x190002 x190003 x190004 x190005 x190006 x190007)
end
def class_rules_method.f (k:Nat) (l0_0:List (S108)) (a1_0:Int) (a1_1:Int) (a1_2:Int) (a1_3:Int) (a1_4:Int) (l1_5:List Int) (l1_6:List (S120)) (l1_7:List Int):Option (Bool):=class_rules_method.l0 k (l1_5.length:Int) l1_6 (l1_6.length:Int) 0 l0_0 a1_0 a1_1 a1_2 a1_3 a1_4 l1_5 l1_6 l1_7
set_option maxHeartbeats 80000000 in
set_option maxRecDepth 100000 in
theorem class_rules_method.calls (k:Nat) (A0_0:Option Addr) (c0_0:Nat) (l0_0:List (S108)) (a1_0:Int) (a1_1:Int) (a1_2:Int) (a1_3:Int) (a1_4:Int) (A1_5:Option Addr) (c1_5:Nat) (l1_5:List Int) (A1_6:Option Addr) (c1_6:Nat) (l1_6:List (S120)) (A1_7:Option Addr) (c1_7:Nat) (l1_7:List Int) (r:Bool) (w:World) (hr0_0:Kd.C k108 w A0_0 l0_0.length l0_0) (hc0_0:l0_0.length≤c0_0) (hr1_5:Kd.C (Kd.int .u8) w A1_5 l1_5.length l1_5) (hc1_5:l1_5.length≤c1_5) (hr1_6:Kd.C k120 w A1_6 l1_6.length l1_6) (hc1_6:l1_6.length≤c1_6) (hr1_7:Kd.C (Kd.int .u8) w A1_7 l1_7.length l1_7) (hc1_7:l1_7.length≤c1_7) (h:class_rules_method.f k l0_0 a1_0 a1_1 a1_2 a1_3 a1_4 l1_5 l1_6 l1_7=some r) :
  Calls Tryd.prog 36 #[.agg #[.slice A0_0 l0_0.length c0_0],.agg #[.int .i64 a1_0,.int .i64 a1_1,.int .i64 a1_2,.int .i64 a1_3,.int .i64 a1_4,.slice A1_5 l1_5.length c1_5,.slice A1_6 l1_6.length c1_6,.slice A1_7 l1_7.length c1_7]] w fun e w' => e=.returned (.bool r)∧Below w.heap.size w w':=by
 have hu99:=Tryd.underlying99
 have hu97:=Tryd.underlying97
 have hu120:=Tryd.underlying120
 have HR0_0:=Aside0.mk hr0_0
 have HC0_0:=Aside0.mk hc0_0
 clear hr0_0 hc0_0
 have HR1_5:=Aside0.mk hr1_5
 have HC1_5:=Aside0.mk hc1_5
 clear hr1_5 hc1_5
 have HR1_6:=Aside0.mk hr1_6
 have HC1_6:=Aside0.mk hc1_6
 clear hr1_6 hc1_6
 have HR1_7:=Aside0.mk hr1_7
 have HC1_7:=Aside0.mk hc1_7
 clear hr1_7 hc1_7
 have HB:=Aside0.mk (Below.refl w.heap.size w)
 have H:(class_rules_method.l0 k (l1_5.length:Int) l1_6 (l1_6.length:Int) 0 l0_0 a1_0 a1_1 a1_2 a1_3 a1_4 l1_5 l1_6 l1_7)=some r:=h
 clear h
 have H':=Aside0.mk H
 clear H
 go_enter Tryd.func36,Tryd.ntmps36
 go_wp2_with (first|((with_reducible refine gate_dst (N:=2) rfl ?_);(try (refine gate_guard (by rfl) ?_;dsimp only));refine box_event ?hg (N:=2) ?hd (cs:=#[.slice A0_0 l0_0.length c0_0]) (t:=99) ?hr ?_;(case hd => rfl);(case hg => rfl);(case hr => first|(go_simp;done)|(go_simp;rfl));intro gb188 hg w3 hbox hb;have n0_:=Aside0.mk (below_step bl_ hb);have n1_:=Aside0.mk (hbox);have n2_:=Aside0.mk ((by rw [hg];exact (below_size bl_):w.heap.size≤gb188));have n3_:=Aside0.mk ((by rw [hg];exact (below_size bl_):w.heap.size≤gb188));clear HB;have HB:=n0_;have BK188:=n1_;have GW188:=n2_;have GE188:=n3_;clear n0_ n1_ n2_ n3_;clear hb hbox hg)|((with_reducible refine gate_dst (N:=3) rfl ?_);(try (refine gate_guard (by rfl) ?_;dsimp only));refine box_event ?hg (N:=3) ?hd (cs:=#[.int .i64 a1_0,.int .i64 a1_1,.int .i64 a1_2,.int .i64 a1_3,.int .i64 a1_4,.slice A1_5 l1_5.length c1_5,.slice A1_6 l1_6.length c1_6,.slice A1_7 l1_7.length c1_7]) (t:=97) ?hr ?_;(case hd => rfl);(case hg => rfl);(case hr => first|(go_simp;done)|(go_simp;rfl));intro gb189 hg w4 hbox hb;have n0_:=Aside0.mk (blk_below (g:=gb188) (o:=.cells #[.slice A0_0 l0_0.length c0_0] 99 (0,0)) bk_ hb);have n1_:=Aside0.mk (below_step bl_ hb);have n2_:=Aside0.mk (hbox);have n3_:=Aside0.mk ((by rw [hg];exact (below_size bl_):w.heap.size≤gb189));have n4_:=Aside0.mk ((by rw [hg];exact (below_size bl_):w.heap.size≤gb189));have n5_:=Aside0.mk ((by rw [hg];exact Nat.ne_of_lt (blk_lt (g:=gb188) (o:=.cells #[.slice A0_0 l0_0.length c0_0] 99 (0,0)) bk_):gb188 ≠ gb189));have n6_:=Aside0.mk ((by rw [hg];exact Nat.ne_of_gt (blk_lt (g:=gb188) (o:=.cells #[.slice A0_0 l0_0.length c0_0] 99 (0,0)) bk_):gb189 ≠ gb188));clear BK188;clear HB;have BK188:=n0_;have HB:=n1_;have BK189:=n2_;have GW189:=n3_;have GE189:=n4_;have NB188_189:=n5_;have NB189_188:=n6_;clear n0_ n1_ n2_ n3_ n4_ n5_ n6_;clear hb hbox hg;have hnb5:=NB189_188.out;have hnc5:=NB188_189.out;obtain ⟨hcz6_0,hcz6_1,hcz6_2,hcz6_3,hcz6_4,hcz6_5,hcz6_6,hcz6_7,hfz6_0,hfz6_1,hfz6_2,hfz6_3,hfz6_4,hfz6_5,hfz6_6,hfz6_7⟩:=blk8_ BK189.out))
 go_loopg [14] k (fun kq v14 w' => ∃ (x14_1:Int),v14=.int .i64 x14_1∧Aside0 (class_rules_method.l0 kq (l1_5.length:Int) l1_6 (l1_6.length:Int) x14_1 l0_0 a1_0 a1_1 a1_2 a1_3 a1_4 l1_5 l1_6 l1_7=some r)∧Aside0 (kq≤k)∧Aside0 (w'.heap[gb188]?=some (.cells #[(.slice A0_0 l0_0.length c0_0)] 99 (0,0)))∧Aside0 (w'.heap[gb189]?=some (.cells #[.int .i64 a1_0,.int .i64 a1_1,.int .i64 a1_2,.int .i64 a1_3,.int .i64 a1_4,(.slice A1_5 l1_5.length c1_5),(.slice A1_6 l1_6.length c1_6),(.slice A1_7 l1_7.length c1_7)] 97 (0,0)))∧Aside0 (Below w.heap.size w w'))
 case atStart => exact ⟨(0),r3_,H',⟨Nat.le_refl _⟩,⟨bk_⟩,⟨bk_⟩,⟨bl_⟩⟩
 case round =>
  clear H'
  try clear hcz6_0;try clear hcz6_1;try clear hcz6_2;try clear hcz6_3;try clear hcz6_4;try clear hcz6_5;try clear hcz6_6;try clear hcz6_7;try clear hfz6_0;try clear hfz6_1;try clear hfz6_2;try clear hfz6_3;try clear hfz6_4;try clear hfz6_5;try clear hfz6_6;try clear hfz6_7
  obtain ⟨x14_1,rfl,HA,HK1,BK188,BK189,HB⟩:=hrel
  cases gk with
  | zero => exact absurd HA.out (by simp [class_rules_method.l0])
  | succ k1 =>
   have H:=HA.out
   clear HA
   simp only [class_rules_method.l0] at H
   by_cases c7:x14_1 < (l1_6.length:Int)
   ·rw [if_pos c7] at H
    have c7b0:decide (x14_1 < (l1_6.length:Int))=true:=decide_eq_true c7
    clear c7
    by_cases c8:0≤x14_1
    ·rw [if_pos c8] at H
     have c8b0:decide (0≤x14_1)=true:=decide_eq_true c8
     clear c8
     by_cases c9:x14_1 < (l1_6.length:Int)
     ·rw [if_pos c9] at H
      have c9b0:decide (x14_1 < (l1_6.length:Int))=true:=decide_eq_true c9
      clear c9
      have HC10:=Aside0.mk H
      clear H
      have p190:0≤(x14_1:Int):=od_
      have q190:x14_1 < (l1_6.length:Int):=od_
      obtain ⟨ad190,e190,hx190_0,hx190_1,hx190_2,hx190_3⟩:=at_T120 HR1_6.out x14_1 p190 q190
      cases e190
      replace hx190_0:=hb_ HB hx190_0
      replace hx190_1:=hb_ HB hx190_1
      replace hx190_2:=hb_ HB hx190_2
      replace hx190_3:=hb_ HB hx190_3
      replace p190:=eq_true p190
      replace q190:=eq_true q190
      go_upto_region 5 with (first|((with_reducible refine gate_dst (N:=7) rfl ?_);(try (refine gate_guard (by rfl) ?_;dsimp only));refine box_event ?hg (N:=7) ?hd (cs:=#[.int .i64 0,.int .i64 0,.int .i64 0,.int .i64 0]) (t:=120) ?hr ?_;(case hd => rfl);(case hg => rfl);(case hr => first|(go_simp;done)|(go_simp;rfl));intro gb191 hg w11 hbox hb;have n0_:=Aside0.mk (blk_below (g:=gb188) (o:=.cells #[.slice A0_0 l0_0.length c0_0] 99 (0,0)) bk_ hb);have n1_:=Aside0.mk (blk_below (g:=gb189) (o:=.cells #[.int .i64 a1_0,.int .i64 a1_1,.int .i64 a1_2,.int .i64 a1_3,.int .i64 a1_4,.slice A1_5 l1_5.length c1_5,.slice (some ad190) l1_6.length c1_6,.slice A1_7 l1_7.length c1_7] 97 (0,0)) bk_ hb);have n2_:=Aside0.mk (below_step bl_ hb);have n3_:=Aside0.mk (hbox);have n4_:=Aside0.mk ((by rw [hg];exact (below_size bl_):w.heap.size≤gb191));have n5_:=Aside0.mk ((by rw [hg];exact (below_size bl_):w.heap.size≤gb191));have n6_:=Aside0.mk ((by rw [hg];exact Nat.ne_of_lt (blk_lt (g:=gb188) (o:=.cells #[.slice A0_0 l0_0.length c0_0] 99 (0,0)) bk_):gb188 ≠ gb191));have n7_:=Aside0.mk ((by rw [hg];exact Nat.ne_of_gt (blk_lt (g:=gb188) (o:=.cells #[.slice A0_0 l0_0.length c0_0] 99 (0,0)) bk_):gb191 ≠ gb188));have n8_:=Aside0.mk ((by rw [hg];exact Nat.ne_of_lt (blk_lt (g:=gb189) (o:=.cells #[.int .i64 a1_0,.int .i64 a1_1,.int .i64 a1_2,.int .i64 a1_3,.int .i64 a1_4,.slice A1_5 l1_5.length c1_5,.slice (some ad190) l1_6.length c1_6,.slice A1_7 l1_7.length c1_7] 97 (0,0)) bk_):gb189 ≠ gb191));have n9_:=Aside0.mk ((by rw [hg];exact Nat.ne_of_gt (blk_lt (g:=gb189) (o:=.cells #[.int .i64 a1_0,.int .i64 a1_1,.int .i64 a1_2,.int .i64 a1_3,.int .i64 a1_4,.slice A1_5 l1_5.length c1_5,.slice (some ad190) l1_6.length c1_6,.slice A1_7 l1_7.length c1_7] 97 (0,0)) bk_):gb191 ≠ gb189));clear BK188;clear BK189;clear HB;have BK188:=n0_;have BK189:=n1_;have HB:=n2_;have BK191:=n3_;have GW191:=n4_;have GE191:=n5_;have NB188_191:=n6_;have NB191_188:=n7_;have NB189_191:=n8_;have NB191_189:=n9_;clear n0_ n1_ n2_ n3_ n4_ n5_ n6_ n7_ n8_ n9_;clear hb hbox hg;have hnb12:=NB191_188.out;have hnc12:=NB188_191.out;have hnb13:=NB191_189.out;have hnc13:=NB189_191.out;obtain ⟨hcz14_0,hcz14_1,hcz14_2,hcz14_3,hfz14_0,hfz14_1,hfz14_2,hfz14_3⟩:=blk4_ BK191.out))
      (try simp only [Act.put,List.setIfInBounds_toArray,List.set_cons_zero,List.set_cons_succ])
      go_cut [54] (fun v54 wc => ∃ (kq:Nat) (x54_9:Bool),v54=.bool x54_9∧Aside0 (class_rules_method.j1 kq (l1_5.length:Int) l1_6 (l1_6.length:Int) x14_1 x54_9 l0_0 a1_0 a1_1 a1_2 a1_3 a1_4 l1_5 l1_6 l1_7=some r)∧Aside0 (kq≤k1)∧Aside0 (wc.heap[gb188]?=some (.cells #[(.slice A0_0 l0_0.length c0_0)] 99 (0,0)))∧Aside0 (wc.heap[gb189]?=some (.cells #[.int .i64 a1_0,.int .i64 a1_1,.int .i64 a1_2,.int .i64 a1_3,.int .i64 a1_4,(.slice A1_5 l1_5.length c1_5),(.slice (some ad190) l1_6.length c1_6),(.slice A1_7 l1_7.length c1_7)] 97 (0,0)))∧Aside0 (wc.heap[gb191]?=some (.cells #[.int .i64 ((rd_T120 l1_6 x14_1).f0),.int .i64 ((rd_T120 l1_6 x14_1).f1),.int .i64 ((rd_T120 l1_6 x14_1).f2),.int .i64 ((rd_T120 l1_6 x14_1).f3)] 120 (0,0)))∧Aside0 (Below w.heap.size w wc))
      case first =>
       have H:=HC10.out
       clear HC10
       by_cases c15:((rd_T120 l1_6 x14_1).f0) < 0
       ·rw [if_pos c15] at H
        have c15b0:decide (((rd_T120 l1_6 x14_1).f0) < 0)=true:=decide_eq_true c15
        clear c15
        (first|rw [c15b0]|(simp only [i64_w,i32_w];rw [c15b0])|skip)
        have H':=Aside0.mk H
        clear H
        have hnb16:=NB191_188.out
        have hnc16:=NB188_191.out
        have hnb17:=NB191_189.out
        have hnc17:=NB189_191.out
        obtain ⟨hcz18_0,hcz18_1,hcz18_2,hcz18_3,hfz18_0,hfz18_1,hfz18_2,hfz18_3⟩:=blk4_ BK191.out
        go_wp2
        go_meet
        case rel => exact ⟨_,(true),r3_,H',⟨by have:=HK1.out;first|omega|exact Nat.le_refl _⟩,⟨bk_⟩,⟨bk_⟩,⟨by (with_reducible repeat (first|refine blk_drewN ?_ _|refine blk_drew ?_|refine blk_alloc ?_ _));refine blk_put (cs:=#[.int .i64 ((rd_T120 l1_6 x14_1).f0),.int .i64 ((rd_T120 l1_6 x14_1).f1),.int .i64 ((rd_T120 l1_6 x14_1).f2),.int .i64 0]) ?_ 3 _ rfl;(with_reducible repeat (first|refine blk_drewN ?_ _|refine blk_drew ?_|refine blk_alloc ?_ _));refine blk_put (cs:=#[.int .i64 ((rd_T120 l1_6 x14_1).f0),.int .i64 ((rd_T120 l1_6 x14_1).f1),.int .i64 0,.int .i64 0]) ?_ 2 _ rfl;(with_reducible repeat (first|refine blk_drewN ?_ _|refine blk_drew ?_|refine blk_alloc ?_ _));refine blk_put (cs:=#[.int .i64 ((rd_T120 l1_6 x14_1).f0),.int .i64 0,.int .i64 0,.int .i64 0]) ?_ 1 _ rfl;(with_reducible repeat (first|refine blk_drewN ?_ _|refine blk_drew ?_|refine blk_alloc ?_ _));refine blk_put (cs:=#[.int .i64 0,.int .i64 0,.int .i64 0,.int .i64 0]) ?_ 0 _ rfl;(with_reducible repeat (first|refine blk_drewN ?_ _|refine blk_drew ?_|refine blk_alloc ?_ _));exact BK191.out⟩,⟨bl_⟩⟩
       ·rw [if_neg c15] at H
        have c15b0:decide (((rd_T120 l1_6 x14_1).f0) < 0)=false:=decide_eq_false c15
        clear c15
        (first|rw [c15b0]|(simp only [i64_w,i32_w];rw [c15b0])|skip)
        by_cases c19:((rd_T120 l1_6 x14_1).f0) ≥ ((rd_T120 l1_6 x14_1).f1)
        ·rw [if_pos c19] at H
         have c19b0:decide (((rd_T120 l1_6 x14_1).f1)≤((rd_T120 l1_6 x14_1).f0))=true:=decide_eq_true c19
         clear c19
         have H':=Aside0.mk H
         clear H
         have hnb20:=NB191_188.out
         have hnc20:=NB188_191.out
         have hnb21:=NB191_189.out
         have hnc21:=NB189_191.out
         obtain ⟨hcz22_0,hcz22_1,hcz22_2,hcz22_3,hfz22_0,hfz22_1,hfz22_2,hfz22_3⟩:=blk4_ BK191.out
         go_wp2
         go_meet
         case rel => exact ⟨_,(true),r3_,H',⟨by have:=HK1.out;first|omega|exact Nat.le_refl _⟩,⟨bk_⟩,⟨bk_⟩,⟨by (with_reducible repeat (first|refine blk_drewN ?_ _|refine blk_drew ?_|refine blk_alloc ?_ _));refine blk_put (cs:=#[.int .i64 ((rd_T120 l1_6 x14_1).f0),.int .i64 ((rd_T120 l1_6 x14_1).f1),.int .i64 ((rd_T120 l1_6 x14_1).f2),.int .i64 0]) ?_ 3 _ rfl;(with_reducible repeat (first|refine blk_drewN ?_ _|refine blk_drew ?_|refine blk_alloc ?_ _));refine blk_put (cs:=#[.int .i64 ((rd_T120 l1_6 x14_1).f0),.int .i64 ((rd_T120 l1_6 x14_1).f1),.int .i64 0,.int .i64 0]) ?_ 2 _ rfl;(with_reducible repeat (first|refine blk_drewN ?_ _|refine blk_drew ?_|refine blk_alloc ?_ _));refine blk_put (cs:=#[.int .i64 ((rd_T120 l1_6 x14_1).f0),.int .i64 0,.int .i64 0,.int .i64 0]) ?_ 1 _ rfl;(with_reducible repeat (first|refine blk_drewN ?_ _|refine blk_drew ?_|refine blk_alloc ?_ _));refine blk_put (cs:=#[.int .i64 0,.int .i64 0,.int .i64 0,.int .i64 0]) ?_ 0 _ rfl;(with_reducible repeat (first|refine blk_drewN ?_ _|refine blk_drew ?_|refine blk_alloc ?_ _));exact BK191.out⟩,⟨bl_⟩⟩
        ·rw [if_neg c19] at H
         have c19b0:decide (((rd_T120 l1_6 x14_1).f1)≤((rd_T120 l1_6 x14_1).f0))=false:=decide_eq_false c19
         clear c19
         by_cases c23:((rd_T120 l1_6 x14_1).f1) > (l1_5.length:Int)
         ·rw [if_pos c23] at H
          have c23b0:decide ((l1_5.length:Int) < ((rd_T120 l1_6 x14_1).f1))=true:=decide_eq_true c23
          clear c23
          have H':=Aside0.mk H
          clear H
          have hnb24:=NB191_188.out
          have hnc24:=NB188_191.out
          have hnb25:=NB191_189.out
          have hnc25:=NB189_191.out
          obtain ⟨hcz26_0,hcz26_1,hcz26_2,hcz26_3,hfz26_0,hfz26_1,hfz26_2,hfz26_3⟩:=blk4_ BK191.out
          go_wp2
          go_meet
          case rel => exact ⟨_,(true),r3_,H',⟨by have:=HK1.out;first|omega|exact Nat.le_refl _⟩,⟨bk_⟩,⟨bk_⟩,⟨by (with_reducible repeat (first|refine blk_drewN ?_ _|refine blk_drew ?_|refine blk_alloc ?_ _));refine blk_put (cs:=#[.int .i64 ((rd_T120 l1_6 x14_1).f0),.int .i64 ((rd_T120 l1_6 x14_1).f1),.int .i64 ((rd_T120 l1_6 x14_1).f2),.int .i64 0]) ?_ 3 _ rfl;(with_reducible repeat (first|refine blk_drewN ?_ _|refine blk_drew ?_|refine blk_alloc ?_ _));refine blk_put (cs:=#[.int .i64 ((rd_T120 l1_6 x14_1).f0),.int .i64 ((rd_T120 l1_6 x14_1).f1),.int .i64 0,.int .i64 0]) ?_ 2 _ rfl;(with_reducible repeat (first|refine blk_drewN ?_ _|refine blk_drew ?_|refine blk_alloc ?_ _));refine blk_put (cs:=#[.int .i64 ((rd_T120 l1_6 x14_1).f0),.int .i64 0,.int .i64 0,.int .i64 0]) ?_ 1 _ rfl;(with_reducible repeat (first|refine blk_drewN ?_ _|refine blk_drew ?_|refine blk_alloc ?_ _));refine blk_put (cs:=#[.int .i64 0,.int .i64 0,.int .i64 0,.int .i64 0]) ?_ 0 _ rfl;(with_reducible repeat (first|refine blk_drewN ?_ _|refine blk_drew ?_|refine blk_alloc ?_ _));exact BK191.out⟩,⟨bl_⟩⟩
         ·rw [if_neg c23] at H
          have c23b0:decide ((l1_5.length:Int) < ((rd_T120 l1_6 x14_1).f1))=false:=decide_eq_false c23
          clear c23
          replace H:=Option.bind_eq_some_iff.mp H
          obtain ⟨t192,A270,H⟩:=H
          try dsimp only at H
          have A27:=Aside0.mk A270
          clear A270
          by_cases c28:t192=true
          ·subst c28
           rw [if_pos rfl] at H
           by_cases c29:((rd_T120 l1_6 x14_1).f3)=0
           ·rw [if_pos c29] at H
            have c29b0:(((rd_T120 l1_6 x14_1).f3)==0)=true:=beq_iff_eq.mpr c29
            have c29b1:(((rd_T120 l1_6 x14_1).f3) != 0)=false:=bne_eq_false_iff_eq.mpr c29
            clear c29
            have H':=Aside0.mk H
            clear H
            have hnb30:=NB191_188.out
            have hnc30:=NB188_191.out
            have hnb31:=NB191_189.out
            have hnc31:=NB189_191.out
            obtain ⟨hcz32_0,hcz32_1,hcz32_2,hcz32_3,hfz32_0,hfz32_1,hfz32_2,hfz32_3⟩:=blk4_ BK191.out
            go_wp2_with (first|(go_at_call 48;(with_reducible refine (class_within.calls ((rd_T120 l1_6 x14_1).f2) (wrap64 ((l1_5.length:Int) - 1)) true _ A27.out).mono ?_);rintro e w' ⟨rfl,⟨nd,rfl⟩⟩))
            go_meet
            case rel => exact ⟨_,(false),r3_,H',⟨by have:=HK1.out;first|omega|exact Nat.le_refl _⟩,⟨bk_⟩,⟨bk_⟩,⟨by (with_reducible repeat (first|refine blk_drewN ?_ _|refine blk_drew ?_|refine blk_alloc ?_ _));refine blk_put (cs:=#[.int .i64 ((rd_T120 l1_6 x14_1).f0),.int .i64 ((rd_T120 l1_6 x14_1).f1),.int .i64 ((rd_T120 l1_6 x14_1).f2),.int .i64 0]) ?_ 3 _ rfl;(with_reducible repeat (first|refine blk_drewN ?_ _|refine blk_drew ?_|refine blk_alloc ?_ _));refine blk_put (cs:=#[.int .i64 ((rd_T120 l1_6 x14_1).f0),.int .i64 ((rd_T120 l1_6 x14_1).f1),.int .i64 0,.int .i64 0]) ?_ 2 _ rfl;(with_reducible repeat (first|refine blk_drewN ?_ _|refine blk_drew ?_|refine blk_alloc ?_ _));refine blk_put (cs:=#[.int .i64 ((rd_T120 l1_6 x14_1).f0),.int .i64 0,.int .i64 0,.int .i64 0]) ?_ 1 _ rfl;(with_reducible repeat (first|refine blk_drewN ?_ _|refine blk_drew ?_|refine blk_alloc ?_ _));refine blk_put (cs:=#[.int .i64 0,.int .i64 0,.int .i64 0,.int .i64 0]) ?_ 0 _ rfl;(with_reducible repeat (first|refine blk_drewN ?_ _|refine blk_drew ?_|refine blk_alloc ?_ _));exact BK191.out⟩,⟨bl_⟩⟩
           ·rw [if_neg c29] at H
            have c29b0:(((rd_T120 l1_6 x14_1).f3)==0)=false:=beq_eq_false_iff_ne.mpr c29
            have c29b1:(((rd_T120 l1_6 x14_1).f3) != 0)=true:=bne_iff_ne.mpr c29
            obtain ⟨y193,hy193⟩:∃ y_:List Int,y_=(([(rd_T120 l1_6 x14_1).f3]:List Int)):=⟨_,rfl⟩
            replace H:((class_rules_class.f k1 l0_0 y193).bind fun t196 => (class_rules_method.j1 k1 (l1_5.length:Int) l1_6 (l1_6.length:Int) x14_1 (!t196) l0_0 a1_0 a1_1 a1_2 a1_3 a1_4 l1_5 l1_6 l1_7))=some r:=by first|(rw [hy193];with_reducible exact H)|(have H2_:=(Option.bind_some _ _).symm.trans H;rw [hy193];with_reducible exact H2_)|(have H2_:=(Option.bind_some _ _).symm.trans H;with_reducible exact H2_)|with_reducible exact H|(rw [hy193];exact H)|exact H
            have Ny193:=Aside0.mk hy193
            clear hy193
            replace H:=Option.bind_eq_some_iff.mp H
            obtain ⟨t196,A330,H⟩:=H
            try dsimp only at H
            have A33:=Aside0.mk A330
            clear A330
            have H':=Aside0.mk H
            clear H
            have hnb34:=NB191_188.out
            have hnc34:=NB188_191.out
            have hnb35:=NB191_189.out
            have hnc35:=NB189_191.out
            obtain ⟨hcz36_0,hcz36_1,hcz36_2,hcz36_3,hfz36_0,hfz36_1,hfz36_2,hfz36_3⟩:=blk4_ BK191.out
            go_wp2_with (first|(go_at_call 48;(with_reducible refine (class_within.calls ((rd_T120 l1_6 x14_1).f2) (wrap64 ((l1_5.length:Int) - 1)) true _ A27.out).mono ?_);rintro e w' ⟨rfl,⟨nd,rfl⟩⟩;have hnb37:=NB188_189.out;have hnc37:=NB189_188.out;have hcz38_0:w11.cell? ⟨gb188,0,none⟩=some (.slice A0_0 l0_0.length c0_0):=(blk_cell BK188.out 0).trans rfl;have hfz38_0:=blk_frozen BK188.out 0)|((with_reducible refine gate_dst (N:=50) rfl ?_);(try (refine gate_guard (by rfl) ?_;dsimp only));refine Kd.R_lit (Kd.int .i64) _ 3 ?hg (N:=50) ?hd (xs:=([(rd_T120 l1_6 x14_1).f3]:List Int)) (inner:=[.int .i64 ((rd_T120 l1_6 x14_1).f3)]) (ok:=fun _ => True) (okp:=fun _ => True) ?hr ?hp (fun _ hk => hk) trivial (Below.refl _ _) (Nat.le_refl _) (by simp) ?_;(case hd => rfl);(case hg => rfl);(case hr => first|(go_simp;done)|(go_simp;rfl));(case hp => exact (Reps.one (show Kd.M (Kd.int .i64) _ _ _ ((rd_T120 l1_6 x14_1).f3) [.int .i64 ((rd_T120 l1_6 x14_1).f3)] from rfl) (Reps.none _ _)));intro v194 w39 ho40 hb hg_ hnew_;clear hg_ hnew_;(first|rw [← Ny193.out] at ho40|(simp only [Int.reduceToNat] at ho40;rw [← Ny193.out] at ho40));have n0_:=Aside0.mk (Kd.R_lower ho40 (below_size bl_));have n1_:=Aside0.mk (blk_below (g:=gb188) (o:=.cells #[.slice A0_0 l0_0.length c0_0] 99 (0,0)) bk_ hb);have n2_:=Aside0.mk (blk_below (g:=gb189) (o:=.cells #[.int .i64 a1_0,.int .i64 a1_1,.int .i64 a1_2,.int .i64 a1_3,.int .i64 a1_4,.slice A1_5 l1_5.length c1_5,.slice (some ad190) l1_6.length c1_6,.slice A1_7 l1_7.length c1_7] 97 (0,0)) bk_ hb);have n3_:=Aside0.mk (blk_below (g:=gb191) (o:=.cells #[.int .i64 ((rd_T120 l1_6 x14_1).f0),.int .i64 ((rd_T120 l1_6 x14_1).f1),.int .i64 ((rd_T120 l1_6 x14_1).f2),.int .i64 ((rd_T120 l1_6 x14_1).f3)] 120 (0,0)) (by (with_reducible repeat (first|refine blk_drewN ?_ _|refine blk_drew ?_|refine blk_alloc ?_ _));refine blk_put (cs:=#[.int .i64 ((rd_T120 l1_6 x14_1).f0),.int .i64 ((rd_T120 l1_6 x14_1).f1),.int .i64 ((rd_T120 l1_6 x14_1).f2),.int .i64 0]) ?_ 3 _ rfl;(with_reducible repeat (first|refine blk_drewN ?_ _|refine blk_drew ?_|refine blk_alloc ?_ _));refine blk_put (cs:=#[.int .i64 ((rd_T120 l1_6 x14_1).f0),.int .i64 ((rd_T120 l1_6 x14_1).f1),.int .i64 0,.int .i64 0]) ?_ 2 _ rfl;(with_reducible repeat (first|refine blk_drewN ?_ _|refine blk_drew ?_|refine blk_alloc ?_ _));refine blk_put (cs:=#[.int .i64 ((rd_T120 l1_6 x14_1).f0),.int .i64 0,.int .i64 0,.int .i64 0]) ?_ 1 _ rfl;(with_reducible repeat (first|refine blk_drewN ?_ _|refine blk_drew ?_|refine blk_alloc ?_ _));refine blk_put (cs:=#[.int .i64 0,.int .i64 0,.int .i64 0,.int .i64 0]) ?_ 0 _ rfl;(with_reducible repeat (first|refine blk_drewN ?_ _|refine blk_drew ?_|refine blk_alloc ?_ _));exact BK191.out) hb);have n4_:=Aside0.mk (below_step bl_ hb);clear BK188;clear BK189;clear BK191;clear HB;have HO195:=n0_;have BK188:=n1_;have BK189:=n2_;have BK191:=n3_;have HB:=n4_;clear n0_ n1_ n2_ n3_ n4_;clear hb ho40;obtain ⟨Ao41,co41,eo41⟩:=Kd.R_slice HO195.out;subst eo41)|(go_at_call 33;(with_reducible refine (class_rules_class.calls k1 _ _ l0_0 _ _ y193 t196 _ ?side1 ?side2 ?side3 ?side4 A33.out).mono ?_);(case side1 => exact kc_ (Kd.C_below HR0_0.out HB.out));(case side2 => exact HC0_0.out);(case side3 => exact kc_ (Kd.R_reads' HO195.out).2.2);(case side4 => exact (Kd.R_reads' HO195.out).2.1);rintro e w42 ⟨rfl,hb⟩;have n0_:=Aside0.mk (Kd.R_below (kr_ HO195.out) hb);have n1_:=Aside0.mk (blk_below (g:=gb188) (o:=.cells #[.slice A0_0 l0_0.length c0_0] 99 (0,0)) bk_ hb);have n2_:=Aside0.mk (blk_below (g:=gb189) (o:=.cells #[.int .i64 a1_0,.int .i64 a1_1,.int .i64 a1_2,.int .i64 a1_3,.int .i64 a1_4,.slice A1_5 l1_5.length c1_5,.slice (some ad190) l1_6.length c1_6,.slice A1_7 l1_7.length c1_7] 97 (0,0)) bk_ hb);have n3_:=Aside0.mk (blk_below (g:=gb191) (o:=.cells #[.int .i64 ((rd_T120 l1_6 x14_1).f0),.int .i64 ((rd_T120 l1_6 x14_1).f1),.int .i64 ((rd_T120 l1_6 x14_1).f2),.int .i64 ((rd_T120 l1_6 x14_1).f3)] 120 (0,0)) bk_ hb);have n4_:=Aside0.mk (below_step bl_ hb);clear HO195;clear BK188;clear BK189;clear BK191;clear HB;have HO195:=n0_;have BK188:=n1_;have BK189:=n2_;have BK191:=n3_;have HB:=n4_;clear n0_ n1_ n2_ n3_ n4_;(try clear hb);(try clear hb2);(try clear hk);(try clear hi)))
            go_meet
            case rel => exact ⟨_,(!t196),r3_,H',⟨by have:=HK1.out;first|omega|exact Nat.le_refl _⟩,⟨bk_⟩,⟨bk_⟩,⟨bk_⟩,⟨bl_⟩⟩
          ·replace c28:=Bool.eq_false_iff.mpr c28
           subst c28
           rw [if_neg (show ¬ (false=true) by decide)] at H
           have H':=Aside0.mk H
           clear H
           have hnb43:=NB191_188.out
           have hnc43:=NB188_191.out
           have hnb44:=NB191_189.out
           have hnc44:=NB189_191.out
           obtain ⟨hcz45_0,hcz45_1,hcz45_2,hcz45_3,hfz45_0,hfz45_1,hfz45_2,hfz45_3⟩:=blk4_ BK191.out
           go_wp2_with (first|(go_at_call 48;(with_reducible refine (class_within.calls ((rd_T120 l1_6 x14_1).f2) (wrap64 ((l1_5.length:Int) - 1)) false _ A27.out).mono ?_);rintro e w' ⟨rfl,⟨nd,rfl⟩⟩))
           go_meet
           case rel => exact ⟨_,(true),r3_,H',⟨by have:=HK1.out;first|omega|exact Nat.le_refl _⟩,⟨bk_⟩,⟨bk_⟩,⟨by (with_reducible repeat (first|refine blk_drewN ?_ _|refine blk_drew ?_|refine blk_alloc ?_ _));refine blk_put (cs:=#[.int .i64 ((rd_T120 l1_6 x14_1).f0),.int .i64 ((rd_T120 l1_6 x14_1).f1),.int .i64 ((rd_T120 l1_6 x14_1).f2),.int .i64 0]) ?_ 3 _ rfl;(with_reducible repeat (first|refine blk_drewN ?_ _|refine blk_drew ?_|refine blk_alloc ?_ _));refine blk_put (cs:=#[.int .i64 ((rd_T120 l1_6 x14_1).f0),.int .i64 ((rd_T120 l1_6 x14_1).f1),.int .i64 0,.int .i64 0]) ?_ 2 _ rfl;(with_reducible repeat (first|refine blk_drewN ?_ _|refine blk_drew ?_|refine blk_alloc ?_ _));refine blk_put (cs:=#[.int .i64 ((rd_T120 l1_6 x14_1).f0),.int .i64 0,.int .i64 0,.int .i64 0]) ?_ 1 _ rfl;(with_reducible repeat (first|refine blk_drewN ?_ _|refine blk_drew ?_|refine blk_alloc ?_ _));refine blk_put (cs:=#[.int .i64 0,.int .i64 0,.int .i64 0,.int .i64 0]) ?_ 0 _ rfl;(with_reducible repeat (first|refine blk_drewN ?_ _|refine blk_drew ?_|refine blk_alloc ?_ _));exact BK191.out⟩,⟨bl_⟩⟩
      case rest =>
       clear HC10
       try clear c7;try clear c7b0;try clear c8;try clear c8b0;try clear c9;try clear c9b0;try clear hcz14_0;try clear hcz14_1;try clear hcz14_2;try clear hcz14_3;try clear hfz14_0;try clear hfz14_1;try clear hfz14_2;try clear hfz14_3;try clear hx190_0;try clear hx190_1;try clear hx190_2;try clear hx190_3;try clear p190;try clear q190
       obtain ⟨kq,x54_9,rfl,HA,HJ9,BK188,BK189,BK191,HB⟩:=hcut
       cases kq with
       | zero => exact absurd HA.out (by simp [class_rules_method.j1])
       | succ kj9 =>
        have H:=HA.out
        clear HA
        simp only [class_rules_method.j1] at H
        by_cases c46:x54_9=true
        ·subst c46
         rw [if_pos rfl] at H
         obtain rfl:=Option.some.inj H
         go_wp2
         go_ret
         exact ⟨ew_,bl_⟩
        ·replace c46:=Bool.eq_false_iff.mpr c46
         subst c46
         rw [if_neg (show ¬ (false=true) by decide)] at H
         have H':=Aside0.mk H
         clear H
         go_wp2
         go_roundg kj9
         case measure => have:=HK1.out;have:=HJ9.out;omega
         case rel => exact ⟨(wrap64 (x14_1 + 1)),r3_,H',⟨by have:=HK1.out;have:=HJ9.out;omega⟩,⟨bk_⟩,⟨bk_⟩,⟨bl_⟩⟩
     ·rw [if_neg c9] at H
      exact absurd H (by simp)
    ·rw [if_neg c8] at H
     exact absurd H (by simp)
   ·rw [if_neg c7] at H
    have c7b0:decide (x14_1 < (l1_6.length:Int))=false:=decide_eq_false c7
    clear c7
    replace H:=Option.bind_eq_some_iff.mp H
    obtain ⟨t197,A470,H⟩:=H
    try dsimp only at H
    have A47:=Aside0.mk A470
    clear A470
    by_cases c48:t197=true
    ·subst c48
     rw [if_pos rfl] at H
     obtain ⟨y198,hy198⟩:∃ y_:List Int,y_=(([a1_1,a1_2]:List Int)):=⟨_,rfl⟩
     replace H:((class_rules_text.f k1 l0_0 y198).bind fun t201 => (if t201=true then ((class_within.f a1_3 64).bind fun t202 => (if t202=true then ((class_within.f a1_4 64).bind fun t203 => (if t203=true then ((class_within.f (wrap64 ((l1_5.length:Int) - 1)) 4095).bind fun t204 => (if t204=true then (if (l1_7.length:Int)≤4096 then ((class_place.f k1 l0_0 (⟨#[67,111,100,101]⟩:ByteArray)).bind fun t205 => (if t205 > 0 then (if (l1_7.length:Int)=0 then (some true) else ((class_place.f k1 l0_0 (⟨#[83,116,97,99,107,77,97,112,84,97,98,108,101]⟩:ByteArray)).bind fun t206 => (some (decide (t206 > 0))))) else (some false))) else (some false)) else (some false))) else (some false))) else (some false))) else (some false)))=some r:=by first|(rw [hy198];with_reducible exact H)|(have H2_:=(Option.bind_some _ _).symm.trans H;rw [hy198];with_reducible exact H2_)|(have H2_:=(Option.bind_some _ _).symm.trans H;with_reducible exact H2_)|with_reducible exact H|(rw [hy198];exact H)|exact H
     have Ny198:=Aside0.mk hy198
     clear hy198
     replace H:=Option.bind_eq_some_iff.mp H
     obtain ⟨t201,A490,H⟩:=H
     try dsimp only at H
     have A49:=Aside0.mk A490
     clear A490
     by_cases c50:t201=true
     ·subst c50
      rw [if_pos rfl] at H
      replace H:=Option.bind_eq_some_iff.mp H
      obtain ⟨t202,A510,H⟩:=H
      try dsimp only at H
      have A51:=Aside0.mk A510
      clear A510
      by_cases c52:t202=true
      ·subst c52
       rw [if_pos rfl] at H
       replace H:=Option.bind_eq_some_iff.mp H
       obtain ⟨t203,A530,H⟩:=H
       try dsimp only at H
       have A53:=Aside0.mk A530
       clear A530
       by_cases c54:t203=true
       ·subst c54
        rw [if_pos rfl] at H
        replace H:=Option.bind_eq_some_iff.mp H
        obtain ⟨t204,A550,H⟩:=H
        try dsimp only at H
        have A55:=Aside0.mk A550
        clear A550
        by_cases c56:t204=true
        ·subst c56
         rw [if_pos rfl] at H
         by_cases c57:(l1_7.length:Int)≤4096
         ·rw [if_pos c57] at H
          have c57b0:decide ((l1_7.length:Int)≤4096)=true:=decide_eq_true c57
          have c57b1:decide (l1_7.length≤4096)=true:=decide_eq_true (by omega)
          clear c57
          replace H:=Option.bind_eq_some_iff.mp H
          obtain ⟨t205,A580,H⟩:=H
          try dsimp only at H
          have A58:=Aside0.mk A580
          clear A580
          by_cases c59:t205 > 0
          ·rw [if_pos c59] at H
           have c59b0:decide (0 < t205)=true:=decide_eq_true c59
           clear c59
           by_cases c60:(l1_7.length:Int)=0
           ·rw [if_pos c60] at H
            have c60b0:((l1_7.length:Int)==0)=true:=beq_iff_eq.mpr c60
            have c60b1:((l1_7.length:Int) != 0)=false:=bne_eq_false_iff_eq.mpr c60
            clear c60
            obtain rfl:=Option.some.inj H
            have hnb61:=NB189_188.out
            have hnc61:=NB188_189.out
            obtain ⟨hcz62_0,hcz62_1,hcz62_2,hcz62_3,hcz62_4,hcz62_5,hcz62_6,hcz62_7,hfz62_0,hfz62_1,hfz62_2,hfz62_3,hfz62_4,hfz62_5,hfz62_6,hfz62_7⟩:=blk8_ BK189.out
            go_wp2_with (first|((with_reducible refine gate_callee (f:=34) rfl ?_);refine goesL_ (some 58) rfl rfl Tryd.func34 (by kernel_rfl) rfl #[.int .i64 a1_0] rfl (by (try simp only [List.map_toArray,List.map_cons,List.map_nil]);first|done|rfl|(simp only [List.length_drop,List.length_take];rfl)) ?_;(with_reducible refine (class_flags.calls a1_0 true _ A47.out).mono ?_);rintro e w' ⟨rfl,⟨nd,rfl⟩⟩;refine ⟨_,rfl,?_⟩;have hcz63_0:wr.cell? ⟨gb188,0,none⟩=some (.slice A0_0 l0_0.length c0_0):=(blk_cell BK188.out 0).trans rfl;have hfz63_0:=blk_frozen BK188.out 0)|((with_reducible refine gate_dst (N:=65) rfl ?_);(try (refine gate_guard (by rfl) ?_;dsimp only));refine Kd.R_lit (Kd.int .i64) _ 3 ?hg (N:=65) ?hd (xs:=([a1_1,a1_2]:List Int)) (inner:=[.int .i64 a1_1,.int .i64 a1_2]) (ok:=fun _ => True) (okp:=fun _ => True) ?hr ?hp (fun _ hk => hk) trivial (Below.refl _ _) (Nat.le_refl _) (by simp) ?_;(case hd => rfl);(case hg => rfl);(case hr => first|(go_simp;done)|(go_simp;rfl));(case hp => exact (Reps.one (show Kd.M (Kd.int .i64) _ _ _ a1_1 [.int .i64 a1_1] from rfl) (Reps.one (show Kd.M (Kd.int .i64) _ _ _ a1_2 [.int .i64 a1_2] from rfl) (Reps.none _ _))));intro v199 w64 ho65 hb hg_ hnew_;clear hg_ hnew_;(first|rw [← Ny198.out] at ho65|(simp only [Int.reduceToNat] at ho65;rw [← Ny198.out] at ho65));have n0_:=Aside0.mk (Kd.R_lower ho65 (below_size bl_));have n1_:=Aside0.mk (blk_below (g:=gb188) (o:=.cells #[.slice A0_0 l0_0.length c0_0] 99 (0,0)) bk_ hb);have n2_:=Aside0.mk (blk_below (g:=gb189) (o:=.cells #[.int .i64 a1_0,.int .i64 a1_1,.int .i64 a1_2,.int .i64 a1_3,.int .i64 a1_4,.slice A1_5 l1_5.length c1_5,.slice A1_6 l1_6.length c1_6,.slice A1_7 l1_7.length c1_7] 97 (0,0)) bk_ hb);have n3_:=Aside0.mk (below_step bl_ hb);clear BK188;clear BK189;clear HB;have HO200:=n0_;have BK188:=n1_;have BK189:=n2_;have HB:=n3_;clear n0_ n1_ n2_ n3_;clear hb ho65;obtain ⟨Ao66,co66,eo66⟩:=Kd.R_slice HO200.out;subst eo66)|(go_at_call 35;(with_reducible refine (class_rules_text.calls k1 _ _ l0_0 _ _ y198 true _ ?side1 ?side2 ?side3 ?side4 A49.out).mono ?_);(case side1 => exact kc_ (Kd.C_below HR0_0.out HB.out));(case side2 => exact HC0_0.out);(case side3 => exact kc_ (Kd.R_reads' HO200.out).2.2);(case side4 => exact (Kd.R_reads' HO200.out).2.1);rintro e w67 ⟨rfl,hb⟩;have n0_:=Aside0.mk (Kd.R_below (kr_ HO200.out) hb);have n1_:=Aside0.mk (blk_below (g:=gb188) (o:=.cells #[.slice A0_0 l0_0.length c0_0] 99 (0,0)) bk_ hb);have n2_:=Aside0.mk (blk_below (g:=gb189) (o:=.cells #[.int .i64 a1_0,.int .i64 a1_1,.int .i64 a1_2,.int .i64 a1_3,.int .i64 a1_4,.slice A1_5 l1_5.length c1_5,.slice A1_6 l1_6.length c1_6,.slice A1_7 l1_7.length c1_7] 97 (0,0)) bk_ hb);have n3_:=Aside0.mk (below_step bl_ hb);clear HO200;clear BK188;clear BK189;clear HB;have HO200:=n0_;have BK188:=n1_;have BK189:=n2_;have HB:=n3_;clear n0_ n1_ n2_ n3_;(try clear hb);(try clear hb2);(try clear hk);(try clear hi);obtain ⟨hcz68_0,hcz68_1,hcz68_2,hcz68_3,hcz68_4,hcz68_5,hcz68_6,hcz68_7,hfz68_0,hfz68_1,hfz68_2,hfz68_3,hfz68_4,hfz68_5,hfz68_6,hfz68_7⟩:=blk8_ BK189.out)|(go_at_call 48;(with_reducible refine (class_within.calls a1_3 64 true _ A51.out).mono ?_);rintro e w' ⟨rfl,⟨nd,rfl⟩⟩)|(go_at_call 48;(with_reducible refine (class_within.calls a1_4 64 true _ A53.out).mono ?_);rintro e w' ⟨rfl,⟨nd,rfl⟩⟩)|(go_at_call 48;(with_reducible refine (class_within.calls (wrap64 ((l1_5.length:Int) - 1)) 4095 true _ A55.out).mono ?_);rintro e w' ⟨rfl,⟨nd,rfl⟩⟩;have hcz69_0:w67.cell? ⟨gb188,0,none⟩=some (.slice A0_0 l0_0.length c0_0):=(blk_cell BK188.out 0).trans rfl;have hfz69_0:=blk_frozen BK188.out 0)|(go_at_call 49;(with_reducible refine (class_place.calls k1 _ _ l0_0 (⟨#[67,111,100,101]⟩:ByteArray) t205 _ ?side1 ?side2 A58.out).mono ?_);(case side1 => exact kc_ (Kd.C_below HR0_0.out bl_));(case side2 => exact HC0_0.out);rintro e w' ⟨rfl,⟨nd,rfl⟩⟩))
            go_ret
            exact ⟨ew_,bl_⟩
           ·rw [if_neg c60] at H
            have c60b0:((l1_7.length:Int)==0)=false:=beq_eq_false_iff_ne.mpr c60
            have c60b1:((l1_7.length:Int) != 0)=true:=bne_iff_ne.mpr c60
            have c60b2:¬ (l1_7=[]):=fun h_ => c60 (by rw [h_];rfl)
            replace H:=Option.bind_eq_some_iff.mp H
            obtain ⟨t206,A700,H⟩:=H
            try dsimp only at H
            have A70:=Aside0.mk A700
            clear A700
            obtain rfl:=Option.some.inj H
            have hnb71:=NB189_188.out
            have hnc71:=NB188_189.out
            obtain ⟨hcz72_0,hcz72_1,hcz72_2,hcz72_3,hcz72_4,hcz72_5,hcz72_6,hcz72_7,hfz72_0,hfz72_1,hfz72_2,hfz72_3,hfz72_4,hfz72_5,hfz72_6,hfz72_7⟩:=blk8_ BK189.out
            go_wp2_with (first|((with_reducible refine gate_callee (f:=34) rfl ?_);refine goesL_ (some 58) rfl rfl Tryd.func34 (by kernel_rfl) rfl #[.int .i64 a1_0] rfl (by (try simp only [List.map_toArray,List.map_cons,List.map_nil]);first|done|rfl|(simp only [List.length_drop,List.length_take];rfl)) ?_;(with_reducible refine (class_flags.calls a1_0 true _ A47.out).mono ?_);rintro e w' ⟨rfl,⟨nd,rfl⟩⟩;refine ⟨_,rfl,?_⟩;have hcz73_0:wr.cell? ⟨gb188,0,none⟩=some (.slice A0_0 l0_0.length c0_0):=(blk_cell BK188.out 0).trans rfl;have hfz73_0:=blk_frozen BK188.out 0)|((with_reducible refine gate_dst (N:=65) rfl ?_);(try (refine gate_guard (by rfl) ?_;dsimp only));refine Kd.R_lit (Kd.int .i64) _ 3 ?hg (N:=65) ?hd (xs:=([a1_1,a1_2]:List Int)) (inner:=[.int .i64 a1_1,.int .i64 a1_2]) (ok:=fun _ => True) (okp:=fun _ => True) ?hr ?hp (fun _ hk => hk) trivial (Below.refl _ _) (Nat.le_refl _) (by simp) ?_;(case hd => rfl);(case hg => rfl);(case hr => first|(go_simp;done)|(go_simp;rfl));(case hp => exact (Reps.one (show Kd.M (Kd.int .i64) _ _ _ a1_1 [.int .i64 a1_1] from rfl) (Reps.one (show Kd.M (Kd.int .i64) _ _ _ a1_2 [.int .i64 a1_2] from rfl) (Reps.none _ _))));intro v199 w74 ho75 hb hg_ hnew_;clear hg_ hnew_;(first|rw [← Ny198.out] at ho75|(simp only [Int.reduceToNat] at ho75;rw [← Ny198.out] at ho75));have n0_:=Aside0.mk (Kd.R_lower ho75 (below_size bl_));have n1_:=Aside0.mk (blk_below (g:=gb188) (o:=.cells #[.slice A0_0 l0_0.length c0_0] 99 (0,0)) bk_ hb);have n2_:=Aside0.mk (blk_below (g:=gb189) (o:=.cells #[.int .i64 a1_0,.int .i64 a1_1,.int .i64 a1_2,.int .i64 a1_3,.int .i64 a1_4,.slice A1_5 l1_5.length c1_5,.slice A1_6 l1_6.length c1_6,.slice A1_7 l1_7.length c1_7] 97 (0,0)) bk_ hb);have n3_:=Aside0.mk (below_step bl_ hb);clear BK188;clear BK189;clear HB;have HO200:=n0_;have BK188:=n1_;have BK189:=n2_;have HB:=n3_;clear n0_ n1_ n2_ n3_;clear hb ho75;obtain ⟨Ao76,co76,eo76⟩:=Kd.R_slice HO200.out;subst eo76)|(go_at_call 35;(with_reducible refine (class_rules_text.calls k1 _ _ l0_0 _ _ y198 true _ ?side1 ?side2 ?side3 ?side4 A49.out).mono ?_);(case side1 => exact kc_ (Kd.C_below HR0_0.out HB.out));(case side2 => exact HC0_0.out);(case side3 => exact kc_ (Kd.R_reads' HO200.out).2.2);(case side4 => exact (Kd.R_reads' HO200.out).2.1);rintro e w77 ⟨rfl,hb⟩;have n0_:=Aside0.mk (Kd.R_below (kr_ HO200.out) hb);have n1_:=Aside0.mk (blk_below (g:=gb188) (o:=.cells #[.slice A0_0 l0_0.length c0_0] 99 (0,0)) bk_ hb);have n2_:=Aside0.mk (blk_below (g:=gb189) (o:=.cells #[.int .i64 a1_0,.int .i64 a1_1,.int .i64 a1_2,.int .i64 a1_3,.int .i64 a1_4,.slice A1_5 l1_5.length c1_5,.slice A1_6 l1_6.length c1_6,.slice A1_7 l1_7.length c1_7] 97 (0,0)) bk_ hb);have n3_:=Aside0.mk (below_step bl_ hb);clear HO200;clear BK188;clear BK189;clear HB;have HO200:=n0_;have BK188:=n1_;have BK189:=n2_;have HB:=n3_;clear n0_ n1_ n2_ n3_;(try clear hb);(try clear hb2);(try clear hk);(try clear hi);obtain ⟨hcz78_0,hcz78_1,hcz78_2,hcz78_3,hcz78_4,hcz78_5,hcz78_6,hcz78_7,hfz78_0,hfz78_1,hfz78_2,hfz78_3,hfz78_4,hfz78_5,hfz78_6,hfz78_7⟩:=blk8_ BK189.out)|(go_at_call 48;(with_reducible refine (class_within.calls a1_3 64 true _ A51.out).mono ?_);rintro e w' ⟨rfl,⟨nd,rfl⟩⟩)|(go_at_call 48;(with_reducible refine (class_within.calls a1_4 64 true _ A53.out).mono ?_);rintro e w' ⟨rfl,⟨nd,rfl⟩⟩)|(go_at_call 48;(with_reducible refine (class_within.calls (wrap64 ((l1_5.length:Int) - 1)) 4095 true _ A55.out).mono ?_);rintro e w' ⟨rfl,⟨nd,rfl⟩⟩;have hcz79_0:w77.cell? ⟨gb188,0,none⟩=some (.slice A0_0 l0_0.length c0_0):=(blk_cell BK188.out 0).trans rfl;have hfz79_0:=blk_frozen BK188.out 0)|(go_at_call 49;(with_reducible refine (class_place.calls k1 _ _ l0_0 (⟨#[67,111,100,101]⟩:ByteArray) t205 _ ?side1 ?side2 A58.out).mono ?_);(case side1 => exact kc_ (Kd.C_below HR0_0.out bl_));(case side2 => exact HC0_0.out);rintro e w' ⟨rfl,⟨nd,rfl⟩⟩)|(go_at_call 49;(with_reducible refine (class_place.calls k1 _ _ l0_0 (⟨#[83,116,97,99,107,77,97,112,84,97,98,108,101]⟩:ByteArray) t206 _ ?side1 ?side2 A70.out).mono ?_);(case side1 => exact kc_ (Kd.C_below HR0_0.out bl_));(case side2 => exact HC0_0.out);rintro e w' ⟨rfl,⟨nd,rfl⟩⟩))
            go_ret
            exact ⟨ew_,bl_⟩
          ·rw [if_neg c59] at H
           have c59b0:decide (0 < t205)=false:=decide_eq_false c59
           clear c59
           obtain rfl:=Option.some.inj H
           have hnb80:=NB189_188.out
           have hnc80:=NB188_189.out
           obtain ⟨hcz81_0,hcz81_1,hcz81_2,hcz81_3,hcz81_4,hcz81_5,hcz81_6,hcz81_7,hfz81_0,hfz81_1,hfz81_2,hfz81_3,hfz81_4,hfz81_5,hfz81_6,hfz81_7⟩:=blk8_ BK189.out
           go_wp2_with (first|((with_reducible refine gate_callee (f:=34) rfl ?_);refine goesL_ (some 58) rfl rfl Tryd.func34 (by kernel_rfl) rfl #[.int .i64 a1_0] rfl (by (try simp only [List.map_toArray,List.map_cons,List.map_nil]);first|done|rfl|(simp only [List.length_drop,List.length_take];rfl)) ?_;(with_reducible refine (class_flags.calls a1_0 true _ A47.out).mono ?_);rintro e w' ⟨rfl,⟨nd,rfl⟩⟩;refine ⟨_,rfl,?_⟩;have hcz82_0:wr.cell? ⟨gb188,0,none⟩=some (.slice A0_0 l0_0.length c0_0):=(blk_cell BK188.out 0).trans rfl;have hfz82_0:=blk_frozen BK188.out 0)|((with_reducible refine gate_dst (N:=65) rfl ?_);(try (refine gate_guard (by rfl) ?_;dsimp only));refine Kd.R_lit (Kd.int .i64) _ 3 ?hg (N:=65) ?hd (xs:=([a1_1,a1_2]:List Int)) (inner:=[.int .i64 a1_1,.int .i64 a1_2]) (ok:=fun _ => True) (okp:=fun _ => True) ?hr ?hp (fun _ hk => hk) trivial (Below.refl _ _) (Nat.le_refl _) (by simp) ?_;(case hd => rfl);(case hg => rfl);(case hr => first|(go_simp;done)|(go_simp;rfl));(case hp => exact (Reps.one (show Kd.M (Kd.int .i64) _ _ _ a1_1 [.int .i64 a1_1] from rfl) (Reps.one (show Kd.M (Kd.int .i64) _ _ _ a1_2 [.int .i64 a1_2] from rfl) (Reps.none _ _))));intro v199 w83 ho84 hb hg_ hnew_;clear hg_ hnew_;(first|rw [← Ny198.out] at ho84|(simp only [Int.reduceToNat] at ho84;rw [← Ny198.out] at ho84));have n0_:=Aside0.mk (Kd.R_lower ho84 (below_size bl_));have n1_:=Aside0.mk (blk_below (g:=gb188) (o:=.cells #[.slice A0_0 l0_0.length c0_0] 99 (0,0)) bk_ hb);have n2_:=Aside0.mk (blk_below (g:=gb189) (o:=.cells #[.int .i64 a1_0,.int .i64 a1_1,.int .i64 a1_2,.int .i64 a1_3,.int .i64 a1_4,.slice A1_5 l1_5.length c1_5,.slice A1_6 l1_6.length c1_6,.slice A1_7 l1_7.length c1_7] 97 (0,0)) bk_ hb);have n3_:=Aside0.mk (below_step bl_ hb);clear BK188;clear BK189;clear HB;have HO200:=n0_;have BK188:=n1_;have BK189:=n2_;have HB:=n3_;clear n0_ n1_ n2_ n3_;clear hb ho84;obtain ⟨Ao85,co85,eo85⟩:=Kd.R_slice HO200.out;subst eo85)|(go_at_call 35;(with_reducible refine (class_rules_text.calls k1 _ _ l0_0 _ _ y198 true _ ?side1 ?side2 ?side3 ?side4 A49.out).mono ?_);(case side1 => exact kc_ (Kd.C_below HR0_0.out HB.out));(case side2 => exact HC0_0.out);(case side3 => exact kc_ (Kd.R_reads' HO200.out).2.2);(case side4 => exact (Kd.R_reads' HO200.out).2.1);rintro e w86 ⟨rfl,hb⟩;have n0_:=Aside0.mk (Kd.R_below (kr_ HO200.out) hb);have n1_:=Aside0.mk (blk_below (g:=gb188) (o:=.cells #[.slice A0_0 l0_0.length c0_0] 99 (0,0)) bk_ hb);have n2_:=Aside0.mk (blk_below (g:=gb189) (o:=.cells #[.int .i64 a1_0,.int .i64 a1_1,.int .i64 a1_2,.int .i64 a1_3,.int .i64 a1_4,.slice A1_5 l1_5.length c1_5,.slice A1_6 l1_6.length c1_6,.slice A1_7 l1_7.length c1_7] 97 (0,0)) bk_ hb);have n3_:=Aside0.mk (below_step bl_ hb);clear HO200;clear BK188;clear BK189;clear HB;have HO200:=n0_;have BK188:=n1_;have BK189:=n2_;have HB:=n3_;clear n0_ n1_ n2_ n3_;(try clear hb);(try clear hb2);(try clear hk);(try clear hi);obtain ⟨hcz87_0,hcz87_1,hcz87_2,hcz87_3,hcz87_4,hcz87_5,hcz87_6,hcz87_7,hfz87_0,hfz87_1,hfz87_2,hfz87_3,hfz87_4,hfz87_5,hfz87_6,hfz87_7⟩:=blk8_ BK189.out)|(go_at_call 48;(with_reducible refine (class_within.calls a1_3 64 true _ A51.out).mono ?_);rintro e w' ⟨rfl,⟨nd,rfl⟩⟩)|(go_at_call 48;(with_reducible refine (class_within.calls a1_4 64 true _ A53.out).mono ?_);rintro e w' ⟨rfl,⟨nd,rfl⟩⟩)|(go_at_call 48;(with_reducible refine (class_within.calls (wrap64 ((l1_5.length:Int) - 1)) 4095 true _ A55.out).mono ?_);rintro e w' ⟨rfl,⟨nd,rfl⟩⟩;have hcz88_0:w86.cell? ⟨gb188,0,none⟩=some (.slice A0_0 l0_0.length c0_0):=(blk_cell BK188.out 0).trans rfl;have hfz88_0:=blk_frozen BK188.out 0)|(go_at_call 49;(with_reducible refine (class_place.calls k1 _ _ l0_0 (⟨#[67,111,100,101]⟩:ByteArray) t205 _ ?side1 ?side2 A58.out).mono ?_);(case side1 => exact kc_ (Kd.C_below HR0_0.out bl_));(case side2 => exact HC0_0.out);rintro e w' ⟨rfl,⟨nd,rfl⟩⟩))
           go_ret
           exact ⟨ew_,bl_⟩
         ·rw [if_neg c57] at H
          have c57b0:decide ((l1_7.length:Int)≤4096)=false:=decide_eq_false c57
          have c57b1:decide (l1_7.length≤4096)=false:=decide_eq_false (by omega)
          clear c57
          obtain rfl:=Option.some.inj H
          have hnb89:=NB189_188.out
          have hnc89:=NB188_189.out
          obtain ⟨hcz90_0,hcz90_1,hcz90_2,hcz90_3,hcz90_4,hcz90_5,hcz90_6,hcz90_7,hfz90_0,hfz90_1,hfz90_2,hfz90_3,hfz90_4,hfz90_5,hfz90_6,hfz90_7⟩:=blk8_ BK189.out
          go_wp2_with (first|((with_reducible refine gate_callee (f:=34) rfl ?_);refine goesL_ (some 58) rfl rfl Tryd.func34 (by kernel_rfl) rfl #[.int .i64 a1_0] rfl (by (try simp only [List.map_toArray,List.map_cons,List.map_nil]);first|done|rfl|(simp only [List.length_drop,List.length_take];rfl)) ?_;(with_reducible refine (class_flags.calls a1_0 true _ A47.out).mono ?_);rintro e w' ⟨rfl,⟨nd,rfl⟩⟩;refine ⟨_,rfl,?_⟩;have hcz91_0:wr.cell? ⟨gb188,0,none⟩=some (.slice A0_0 l0_0.length c0_0):=(blk_cell BK188.out 0).trans rfl;have hfz91_0:=blk_frozen BK188.out 0)|((with_reducible refine gate_dst (N:=65) rfl ?_);(try (refine gate_guard (by rfl) ?_;dsimp only));refine Kd.R_lit (Kd.int .i64) _ 3 ?hg (N:=65) ?hd (xs:=([a1_1,a1_2]:List Int)) (inner:=[.int .i64 a1_1,.int .i64 a1_2]) (ok:=fun _ => True) (okp:=fun _ => True) ?hr ?hp (fun _ hk => hk) trivial (Below.refl _ _) (Nat.le_refl _) (by simp) ?_;(case hd => rfl);(case hg => rfl);(case hr => first|(go_simp;done)|(go_simp;rfl));(case hp => exact (Reps.one (show Kd.M (Kd.int .i64) _ _ _ a1_1 [.int .i64 a1_1] from rfl) (Reps.one (show Kd.M (Kd.int .i64) _ _ _ a1_2 [.int .i64 a1_2] from rfl) (Reps.none _ _))));intro v199 w92 ho93 hb hg_ hnew_;clear hg_ hnew_;(first|rw [← Ny198.out] at ho93|(simp only [Int.reduceToNat] at ho93;rw [← Ny198.out] at ho93));have n0_:=Aside0.mk (Kd.R_lower ho93 (below_size bl_));have n1_:=Aside0.mk (blk_below (g:=gb188) (o:=.cells #[.slice A0_0 l0_0.length c0_0] 99 (0,0)) bk_ hb);have n2_:=Aside0.mk (blk_below (g:=gb189) (o:=.cells #[.int .i64 a1_0,.int .i64 a1_1,.int .i64 a1_2,.int .i64 a1_3,.int .i64 a1_4,.slice A1_5 l1_5.length c1_5,.slice A1_6 l1_6.length c1_6,.slice A1_7 l1_7.length c1_7] 97 (0,0)) bk_ hb);have n3_:=Aside0.mk (below_step bl_ hb);clear BK188;clear BK189;clear HB;have HO200:=n0_;have BK188:=n1_;have BK189:=n2_;have HB:=n3_;clear n0_ n1_ n2_ n3_;clear hb ho93;obtain ⟨Ao94,co94,eo94⟩:=Kd.R_slice HO200.out;subst eo94)|(go_at_call 35;(with_reducible refine (class_rules_text.calls k1 _ _ l0_0 _ _ y198 true _ ?side1 ?side2 ?side3 ?side4 A49.out).mono ?_);(case side1 => exact kc_ (Kd.C_below HR0_0.out HB.out));(case side2 => exact HC0_0.out);(case side3 => exact kc_ (Kd.R_reads' HO200.out).2.2);(case side4 => exact (Kd.R_reads' HO200.out).2.1);rintro e w95 ⟨rfl,hb⟩;have n0_:=Aside0.mk (Kd.R_below (kr_ HO200.out) hb);have n1_:=Aside0.mk (blk_below (g:=gb188) (o:=.cells #[.slice A0_0 l0_0.length c0_0] 99 (0,0)) bk_ hb);have n2_:=Aside0.mk (blk_below (g:=gb189) (o:=.cells #[.int .i64 a1_0,.int .i64 a1_1,.int .i64 a1_2,.int .i64 a1_3,.int .i64 a1_4,.slice A1_5 l1_5.length c1_5,.slice A1_6 l1_6.length c1_6,.slice A1_7 l1_7.length c1_7] 97 (0,0)) bk_ hb);have n3_:=Aside0.mk (below_step bl_ hb);clear HO200;clear BK188;clear BK189;clear HB;have HO200:=n0_;have BK188:=n1_;have BK189:=n2_;have HB:=n3_;clear n0_ n1_ n2_ n3_;(try clear hb);(try clear hb2);(try clear hk);(try clear hi);obtain ⟨hcz96_0,hcz96_1,hcz96_2,hcz96_3,hcz96_4,hcz96_5,hcz96_6,hcz96_7,hfz96_0,hfz96_1,hfz96_2,hfz96_3,hfz96_4,hfz96_5,hfz96_6,hfz96_7⟩:=blk8_ BK189.out)|(go_at_call 48;(with_reducible refine (class_within.calls a1_3 64 true _ A51.out).mono ?_);rintro e w' ⟨rfl,⟨nd,rfl⟩⟩)|(go_at_call 48;(with_reducible refine (class_within.calls a1_4 64 true _ A53.out).mono ?_);rintro e w' ⟨rfl,⟨nd,rfl⟩⟩)|(go_at_call 48;(with_reducible refine (class_within.calls (wrap64 ((l1_5.length:Int) - 1)) 4095 true _ A55.out).mono ?_);rintro e w' ⟨rfl,⟨nd,rfl⟩⟩))
          go_ret
          exact ⟨ew_,bl_⟩
        ·replace c56:=Bool.eq_false_iff.mpr c56
         subst c56
         rw [if_neg (show ¬ (false=true) by decide)] at H
         obtain rfl:=Option.some.inj H
         have hnb97:=NB189_188.out
         have hnc97:=NB188_189.out
         obtain ⟨hcz98_0,hcz98_1,hcz98_2,hcz98_3,hcz98_4,hcz98_5,hcz98_6,hcz98_7,hfz98_0,hfz98_1,hfz98_2,hfz98_3,hfz98_4,hfz98_5,hfz98_6,hfz98_7⟩:=blk8_ BK189.out
         go_wp2_with (first|((with_reducible refine gate_callee (f:=34) rfl ?_);refine goesL_ (some 58) rfl rfl Tryd.func34 (by kernel_rfl) rfl #[.int .i64 a1_0] rfl (by (try simp only [List.map_toArray,List.map_cons,List.map_nil]);first|done|rfl|(simp only [List.length_drop,List.length_take];rfl)) ?_;(with_reducible refine (class_flags.calls a1_0 true _ A47.out).mono ?_);rintro e w' ⟨rfl,⟨nd,rfl⟩⟩;refine ⟨_,rfl,?_⟩;have hcz99_0:wr.cell? ⟨gb188,0,none⟩=some (.slice A0_0 l0_0.length c0_0):=(blk_cell BK188.out 0).trans rfl;have hfz99_0:=blk_frozen BK188.out 0)|((with_reducible refine gate_dst (N:=65) rfl ?_);(try (refine gate_guard (by rfl) ?_;dsimp only));refine Kd.R_lit (Kd.int .i64) _ 3 ?hg (N:=65) ?hd (xs:=([a1_1,a1_2]:List Int)) (inner:=[.int .i64 a1_1,.int .i64 a1_2]) (ok:=fun _ => True) (okp:=fun _ => True) ?hr ?hp (fun _ hk => hk) trivial (Below.refl _ _) (Nat.le_refl _) (by simp) ?_;(case hd => rfl);(case hg => rfl);(case hr => first|(go_simp;done)|(go_simp;rfl));(case hp => exact (Reps.one (show Kd.M (Kd.int .i64) _ _ _ a1_1 [.int .i64 a1_1] from rfl) (Reps.one (show Kd.M (Kd.int .i64) _ _ _ a1_2 [.int .i64 a1_2] from rfl) (Reps.none _ _))));intro v199 w100 ho101 hb hg_ hnew_;clear hg_ hnew_;(first|rw [← Ny198.out] at ho101|(simp only [Int.reduceToNat] at ho101;rw [← Ny198.out] at ho101));have n0_:=Aside0.mk (Kd.R_lower ho101 (below_size bl_));have n1_:=Aside0.mk (blk_below (g:=gb188) (o:=.cells #[.slice A0_0 l0_0.length c0_0] 99 (0,0)) bk_ hb);have n2_:=Aside0.mk (blk_below (g:=gb189) (o:=.cells #[.int .i64 a1_0,.int .i64 a1_1,.int .i64 a1_2,.int .i64 a1_3,.int .i64 a1_4,.slice A1_5 l1_5.length c1_5,.slice A1_6 l1_6.length c1_6,.slice A1_7 l1_7.length c1_7] 97 (0,0)) bk_ hb);have n3_:=Aside0.mk (below_step bl_ hb);clear BK188;clear BK189;clear HB;have HO200:=n0_;have BK188:=n1_;have BK189:=n2_;have HB:=n3_;clear n0_ n1_ n2_ n3_;clear hb ho101;obtain ⟨Ao102,co102,eo102⟩:=Kd.R_slice HO200.out;subst eo102)|(go_at_call 35;(with_reducible refine (class_rules_text.calls k1 _ _ l0_0 _ _ y198 true _ ?side1 ?side2 ?side3 ?side4 A49.out).mono ?_);(case side1 => exact kc_ (Kd.C_below HR0_0.out HB.out));(case side2 => exact HC0_0.out);(case side3 => exact kc_ (Kd.R_reads' HO200.out).2.2);(case side4 => exact (Kd.R_reads' HO200.out).2.1);rintro e w103 ⟨rfl,hb⟩;have n0_:=Aside0.mk (Kd.R_below (kr_ HO200.out) hb);have n1_:=Aside0.mk (blk_below (g:=gb188) (o:=.cells #[.slice A0_0 l0_0.length c0_0] 99 (0,0)) bk_ hb);have n2_:=Aside0.mk (blk_below (g:=gb189) (o:=.cells #[.int .i64 a1_0,.int .i64 a1_1,.int .i64 a1_2,.int .i64 a1_3,.int .i64 a1_4,.slice A1_5 l1_5.length c1_5,.slice A1_6 l1_6.length c1_6,.slice A1_7 l1_7.length c1_7] 97 (0,0)) bk_ hb);have n3_:=Aside0.mk (below_step bl_ hb);clear HO200;clear BK188;clear BK189;clear HB;have HO200:=n0_;have BK188:=n1_;have BK189:=n2_;have HB:=n3_;clear n0_ n1_ n2_ n3_;(try clear hb);(try clear hb2);(try clear hk);(try clear hi);obtain ⟨hcz104_0,hcz104_1,hcz104_2,hcz104_3,hcz104_4,hcz104_5,hcz104_6,hcz104_7,hfz104_0,hfz104_1,hfz104_2,hfz104_3,hfz104_4,hfz104_5,hfz104_6,hfz104_7⟩:=blk8_ BK189.out)|(go_at_call 48;(with_reducible refine (class_within.calls a1_3 64 true _ A51.out).mono ?_);rintro e w' ⟨rfl,⟨nd,rfl⟩⟩)|(go_at_call 48;(with_reducible refine (class_within.calls a1_4 64 true _ A53.out).mono ?_);rintro e w' ⟨rfl,⟨nd,rfl⟩⟩)|(go_at_call 48;(with_reducible refine (class_within.calls (wrap64 ((l1_5.length:Int) - 1)) 4095 false _ A55.out).mono ?_);rintro e w' ⟨rfl,⟨nd,rfl⟩⟩))
         go_ret
         exact ⟨ew_,bl_⟩
       ·replace c54:=Bool.eq_false_iff.mpr c54
        subst c54
        rw [if_neg (show ¬ (false=true) by decide)] at H
        obtain rfl:=Option.some.inj H
        have hnb105:=NB189_188.out
        have hnc105:=NB188_189.out
        obtain ⟨hcz106_0,hcz106_1,hcz106_2,hcz106_3,hcz106_4,hcz106_5,hcz106_6,hcz106_7,hfz106_0,hfz106_1,hfz106_2,hfz106_3,hfz106_4,hfz106_5,hfz106_6,hfz106_7⟩:=blk8_ BK189.out
        go_wp2_with (first|((with_reducible refine gate_callee (f:=34) rfl ?_);refine goesL_ (some 58) rfl rfl Tryd.func34 (by kernel_rfl) rfl #[.int .i64 a1_0] rfl (by (try simp only [List.map_toArray,List.map_cons,List.map_nil]);first|done|rfl|(simp only [List.length_drop,List.length_take];rfl)) ?_;(with_reducible refine (class_flags.calls a1_0 true _ A47.out).mono ?_);rintro e w' ⟨rfl,⟨nd,rfl⟩⟩;refine ⟨_,rfl,?_⟩;have hcz107_0:wr.cell? ⟨gb188,0,none⟩=some (.slice A0_0 l0_0.length c0_0):=(blk_cell BK188.out 0).trans rfl;have hfz107_0:=blk_frozen BK188.out 0)|((with_reducible refine gate_dst (N:=65) rfl ?_);(try (refine gate_guard (by rfl) ?_;dsimp only));refine Kd.R_lit (Kd.int .i64) _ 3 ?hg (N:=65) ?hd (xs:=([a1_1,a1_2]:List Int)) (inner:=[.int .i64 a1_1,.int .i64 a1_2]) (ok:=fun _ => True) (okp:=fun _ => True) ?hr ?hp (fun _ hk => hk) trivial (Below.refl _ _) (Nat.le_refl _) (by simp) ?_;(case hd => rfl);(case hg => rfl);(case hr => first|(go_simp;done)|(go_simp;rfl));(case hp => exact (Reps.one (show Kd.M (Kd.int .i64) _ _ _ a1_1 [.int .i64 a1_1] from rfl) (Reps.one (show Kd.M (Kd.int .i64) _ _ _ a1_2 [.int .i64 a1_2] from rfl) (Reps.none _ _))));intro v199 w108 ho109 hb hg_ hnew_;clear hg_ hnew_;(first|rw [← Ny198.out] at ho109|(simp only [Int.reduceToNat] at ho109;rw [← Ny198.out] at ho109));have n0_:=Aside0.mk (Kd.R_lower ho109 (below_size bl_));have n1_:=Aside0.mk (blk_below (g:=gb188) (o:=.cells #[.slice A0_0 l0_0.length c0_0] 99 (0,0)) bk_ hb);have n2_:=Aside0.mk (blk_below (g:=gb189) (o:=.cells #[.int .i64 a1_0,.int .i64 a1_1,.int .i64 a1_2,.int .i64 a1_3,.int .i64 a1_4,.slice A1_5 l1_5.length c1_5,.slice A1_6 l1_6.length c1_6,.slice A1_7 l1_7.length c1_7] 97 (0,0)) bk_ hb);have n3_:=Aside0.mk (below_step bl_ hb);clear BK188;clear BK189;clear HB;have HO200:=n0_;have BK188:=n1_;have BK189:=n2_;have HB:=n3_;clear n0_ n1_ n2_ n3_;clear hb ho109;obtain ⟨Ao110,co110,eo110⟩:=Kd.R_slice HO200.out;subst eo110)|(go_at_call 35;(with_reducible refine (class_rules_text.calls k1 _ _ l0_0 _ _ y198 true _ ?side1 ?side2 ?side3 ?side4 A49.out).mono ?_);(case side1 => exact kc_ (Kd.C_below HR0_0.out HB.out));(case side2 => exact HC0_0.out);(case side3 => exact kc_ (Kd.R_reads' HO200.out).2.2);(case side4 => exact (Kd.R_reads' HO200.out).2.1);rintro e w111 ⟨rfl,hb⟩;have n0_:=Aside0.mk (Kd.R_below (kr_ HO200.out) hb);have n1_:=Aside0.mk (blk_below (g:=gb188) (o:=.cells #[.slice A0_0 l0_0.length c0_0] 99 (0,0)) bk_ hb);have n2_:=Aside0.mk (blk_below (g:=gb189) (o:=.cells #[.int .i64 a1_0,.int .i64 a1_1,.int .i64 a1_2,.int .i64 a1_3,.int .i64 a1_4,.slice A1_5 l1_5.length c1_5,.slice A1_6 l1_6.length c1_6,.slice A1_7 l1_7.length c1_7] 97 (0,0)) bk_ hb);have n3_:=Aside0.mk (below_step bl_ hb);clear HO200;clear BK188;clear BK189;clear HB;have HO200:=n0_;have BK188:=n1_;have BK189:=n2_;have HB:=n3_;clear n0_ n1_ n2_ n3_;(try clear hb);(try clear hb2);(try clear hk);(try clear hi);obtain ⟨hcz112_0,hcz112_1,hcz112_2,hcz112_3,hcz112_4,hcz112_5,hcz112_6,hcz112_7,hfz112_0,hfz112_1,hfz112_2,hfz112_3,hfz112_4,hfz112_5,hfz112_6,hfz112_7⟩:=blk8_ BK189.out)|(go_at_call 48;(with_reducible refine (class_within.calls a1_3 64 true _ A51.out).mono ?_);rintro e w' ⟨rfl,⟨nd,rfl⟩⟩)|(go_at_call 48;(with_reducible refine (class_within.calls a1_4 64 false _ A53.out).mono ?_);rintro e w' ⟨rfl,⟨nd,rfl⟩⟩))
        go_ret
        exact ⟨ew_,bl_⟩
      ·replace c52:=Bool.eq_false_iff.mpr c52
       subst c52
       rw [if_neg (show ¬ (false=true) by decide)] at H
       obtain rfl:=Option.some.inj H
       have hnb113:=NB189_188.out
       have hnc113:=NB188_189.out
       obtain ⟨hcz114_0,hcz114_1,hcz114_2,hcz114_3,hcz114_4,hcz114_5,hcz114_6,hcz114_7,hfz114_0,hfz114_1,hfz114_2,hfz114_3,hfz114_4,hfz114_5,hfz114_6,hfz114_7⟩:=blk8_ BK189.out
       go_wp2_with (first|((with_reducible refine gate_callee (f:=34) rfl ?_);refine goesL_ (some 58) rfl rfl Tryd.func34 (by kernel_rfl) rfl #[.int .i64 a1_0] rfl (by (try simp only [List.map_toArray,List.map_cons,List.map_nil]);first|done|rfl|(simp only [List.length_drop,List.length_take];rfl)) ?_;(with_reducible refine (class_flags.calls a1_0 true _ A47.out).mono ?_);rintro e w' ⟨rfl,⟨nd,rfl⟩⟩;refine ⟨_,rfl,?_⟩;have hcz115_0:wr.cell? ⟨gb188,0,none⟩=some (.slice A0_0 l0_0.length c0_0):=(blk_cell BK188.out 0).trans rfl;have hfz115_0:=blk_frozen BK188.out 0)|((with_reducible refine gate_dst (N:=65) rfl ?_);(try (refine gate_guard (by rfl) ?_;dsimp only));refine Kd.R_lit (Kd.int .i64) _ 3 ?hg (N:=65) ?hd (xs:=([a1_1,a1_2]:List Int)) (inner:=[.int .i64 a1_1,.int .i64 a1_2]) (ok:=fun _ => True) (okp:=fun _ => True) ?hr ?hp (fun _ hk => hk) trivial (Below.refl _ _) (Nat.le_refl _) (by simp) ?_;(case hd => rfl);(case hg => rfl);(case hr => first|(go_simp;done)|(go_simp;rfl));(case hp => exact (Reps.one (show Kd.M (Kd.int .i64) _ _ _ a1_1 [.int .i64 a1_1] from rfl) (Reps.one (show Kd.M (Kd.int .i64) _ _ _ a1_2 [.int .i64 a1_2] from rfl) (Reps.none _ _))));intro v199 w116 ho117 hb hg_ hnew_;clear hg_ hnew_;(first|rw [← Ny198.out] at ho117|(simp only [Int.reduceToNat] at ho117;rw [← Ny198.out] at ho117));have n0_:=Aside0.mk (Kd.R_lower ho117 (below_size bl_));have n1_:=Aside0.mk (blk_below (g:=gb188) (o:=.cells #[.slice A0_0 l0_0.length c0_0] 99 (0,0)) bk_ hb);have n2_:=Aside0.mk (blk_below (g:=gb189) (o:=.cells #[.int .i64 a1_0,.int .i64 a1_1,.int .i64 a1_2,.int .i64 a1_3,.int .i64 a1_4,.slice A1_5 l1_5.length c1_5,.slice A1_6 l1_6.length c1_6,.slice A1_7 l1_7.length c1_7] 97 (0,0)) bk_ hb);have n3_:=Aside0.mk (below_step bl_ hb);clear BK188;clear BK189;clear HB;have HO200:=n0_;have BK188:=n1_;have BK189:=n2_;have HB:=n3_;clear n0_ n1_ n2_ n3_;clear hb ho117;obtain ⟨Ao118,co118,eo118⟩:=Kd.R_slice HO200.out;subst eo118)|(go_at_call 35;(with_reducible refine (class_rules_text.calls k1 _ _ l0_0 _ _ y198 true _ ?side1 ?side2 ?side3 ?side4 A49.out).mono ?_);(case side1 => exact kc_ (Kd.C_below HR0_0.out HB.out));(case side2 => exact HC0_0.out);(case side3 => exact kc_ (Kd.R_reads' HO200.out).2.2);(case side4 => exact (Kd.R_reads' HO200.out).2.1);rintro e w119 ⟨rfl,hb⟩;have n0_:=Aside0.mk (Kd.R_below (kr_ HO200.out) hb);have n1_:=Aside0.mk (blk_below (g:=gb188) (o:=.cells #[.slice A0_0 l0_0.length c0_0] 99 (0,0)) bk_ hb);have n2_:=Aside0.mk (blk_below (g:=gb189) (o:=.cells #[.int .i64 a1_0,.int .i64 a1_1,.int .i64 a1_2,.int .i64 a1_3,.int .i64 a1_4,.slice A1_5 l1_5.length c1_5,.slice A1_6 l1_6.length c1_6,.slice A1_7 l1_7.length c1_7] 97 (0,0)) bk_ hb);have n3_:=Aside0.mk (below_step bl_ hb);clear HO200;clear BK188;clear BK189;clear HB;have HO200:=n0_;have BK188:=n1_;have BK189:=n2_;have HB:=n3_;clear n0_ n1_ n2_ n3_;(try clear hb);(try clear hb2);(try clear hk);(try clear hi);obtain ⟨hcz120_0,hcz120_1,hcz120_2,hcz120_3,hcz120_4,hcz120_5,hcz120_6,hcz120_7,hfz120_0,hfz120_1,hfz120_2,hfz120_3,hfz120_4,hfz120_5,hfz120_6,hfz120_7⟩:=blk8_ BK189.out)|(go_at_call 48;(with_reducible refine (class_within.calls a1_3 64 false _ A51.out).mono ?_);rintro e w' ⟨rfl,⟨nd,rfl⟩⟩))
       go_ret
       exact ⟨ew_,bl_⟩
     ·replace c50:=Bool.eq_false_iff.mpr c50
      subst c50
      rw [if_neg (show ¬ (false=true) by decide)] at H
      obtain rfl:=Option.some.inj H
      have hnb121:=NB189_188.out
      have hnc121:=NB188_189.out
      obtain ⟨hcz122_0,hcz122_1,hcz122_2,hcz122_3,hcz122_4,hcz122_5,hcz122_6,hcz122_7,hfz122_0,hfz122_1,hfz122_2,hfz122_3,hfz122_4,hfz122_5,hfz122_6,hfz122_7⟩:=blk8_ BK189.out
      go_wp2_with (first|((with_reducible refine gate_callee (f:=34) rfl ?_);refine goesL_ (some 58) rfl rfl Tryd.func34 (by kernel_rfl) rfl #[.int .i64 a1_0] rfl (by (try simp only [List.map_toArray,List.map_cons,List.map_nil]);first|done|rfl|(simp only [List.length_drop,List.length_take];rfl)) ?_;(with_reducible refine (class_flags.calls a1_0 true _ A47.out).mono ?_);rintro e w' ⟨rfl,⟨nd,rfl⟩⟩;refine ⟨_,rfl,?_⟩;have hcz123_0:wr.cell? ⟨gb188,0,none⟩=some (.slice A0_0 l0_0.length c0_0):=(blk_cell BK188.out 0).trans rfl;have hfz123_0:=blk_frozen BK188.out 0)|((with_reducible refine gate_dst (N:=65) rfl ?_);(try (refine gate_guard (by rfl) ?_;dsimp only));refine Kd.R_lit (Kd.int .i64) _ 3 ?hg (N:=65) ?hd (xs:=([a1_1,a1_2]:List Int)) (inner:=[.int .i64 a1_1,.int .i64 a1_2]) (ok:=fun _ => True) (okp:=fun _ => True) ?hr ?hp (fun _ hk => hk) trivial (Below.refl _ _) (Nat.le_refl _) (by simp) ?_;(case hd => rfl);(case hg => rfl);(case hr => first|(go_simp;done)|(go_simp;rfl));(case hp => exact (Reps.one (show Kd.M (Kd.int .i64) _ _ _ a1_1 [.int .i64 a1_1] from rfl) (Reps.one (show Kd.M (Kd.int .i64) _ _ _ a1_2 [.int .i64 a1_2] from rfl) (Reps.none _ _))));intro v199 w124 ho125 hb hg_ hnew_;clear hg_ hnew_;(first|rw [← Ny198.out] at ho125|(simp only [Int.reduceToNat] at ho125;rw [← Ny198.out] at ho125));have n0_:=Aside0.mk (Kd.R_lower ho125 (below_size bl_));have n1_:=Aside0.mk (blk_below (g:=gb188) (o:=.cells #[.slice A0_0 l0_0.length c0_0] 99 (0,0)) bk_ hb);have n2_:=Aside0.mk (blk_below (g:=gb189) (o:=.cells #[.int .i64 a1_0,.int .i64 a1_1,.int .i64 a1_2,.int .i64 a1_3,.int .i64 a1_4,.slice A1_5 l1_5.length c1_5,.slice A1_6 l1_6.length c1_6,.slice A1_7 l1_7.length c1_7] 97 (0,0)) bk_ hb);have n3_:=Aside0.mk (below_step bl_ hb);clear BK188;clear BK189;clear HB;have HO200:=n0_;have BK188:=n1_;have BK189:=n2_;have HB:=n3_;clear n0_ n1_ n2_ n3_;clear hb ho125;obtain ⟨Ao126,co126,eo126⟩:=Kd.R_slice HO200.out;subst eo126)|(go_at_call 35;(with_reducible refine (class_rules_text.calls k1 _ _ l0_0 _ _ y198 false _ ?side1 ?side2 ?side3 ?side4 A49.out).mono ?_);(case side1 => exact kc_ (Kd.C_below HR0_0.out HB.out));(case side2 => exact HC0_0.out);(case side3 => exact kc_ (Kd.R_reads' HO200.out).2.2);(case side4 => exact (Kd.R_reads' HO200.out).2.1);rintro e w127 ⟨rfl,hb⟩;have n0_:=Aside0.mk (Kd.R_below (kr_ HO200.out) hb);have n1_:=Aside0.mk (blk_below (g:=gb188) (o:=.cells #[.slice A0_0 l0_0.length c0_0] 99 (0,0)) bk_ hb);have n2_:=Aside0.mk (blk_below (g:=gb189) (o:=.cells #[.int .i64 a1_0,.int .i64 a1_1,.int .i64 a1_2,.int .i64 a1_3,.int .i64 a1_4,.slice A1_5 l1_5.length c1_5,.slice A1_6 l1_6.length c1_6,.slice A1_7 l1_7.length c1_7] 97 (0,0)) bk_ hb);have n3_:=Aside0.mk (below_step bl_ hb);clear HO200;clear BK188;clear BK189;clear HB;have HO200:=n0_;have BK188:=n1_;have BK189:=n2_;have HB:=n3_;clear n0_ n1_ n2_ n3_;(try clear hb);(try clear hb2);(try clear hk);(try clear hi)))
      go_ret
      exact ⟨ew_,bl_⟩
    ·replace c48:=Bool.eq_false_iff.mpr c48
     subst c48
     rw [if_neg (show ¬ (false=true) by decide)] at H
     obtain rfl:=Option.some.inj H
     have hnb128:=NB189_188.out
     have hnc128:=NB188_189.out
     obtain ⟨hcz129_0,hcz129_1,hcz129_2,hcz129_3,hcz129_4,hcz129_5,hcz129_6,hcz129_7,hfz129_0,hfz129_1,hfz129_2,hfz129_3,hfz129_4,hfz129_5,hfz129_6,hfz129_7⟩:=blk8_ BK189.out
     go_wp2_with (first|((with_reducible refine gate_callee (f:=34) rfl ?_);refine goesL_ (some 58) rfl rfl Tryd.func34 (by kernel_rfl) rfl #[.int .i64 a1_0] rfl (by (try simp only [List.map_toArray,List.map_cons,List.map_nil]);first|done|rfl|(simp only [List.length_drop,List.length_take];rfl)) ?_;(with_reducible refine (class_flags.calls a1_0 false _ A47.out).mono ?_);rintro e w' ⟨rfl,⟨nd,rfl⟩⟩;refine ⟨_,rfl,?_⟩))
     go_ret
     exact ⟨ew_,bl_⟩
end Go.Proofs.YtoonhpcjcimecaaDoor.Px
