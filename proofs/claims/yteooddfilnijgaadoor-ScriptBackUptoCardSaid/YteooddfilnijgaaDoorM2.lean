/- The pure statement of ScriptPrints: the line of any act. -/
/- The words of a line: what strings.Split at a blank gives, in plain Lean; there and back. -/
/- What script.Line answers, in plain Lean. -/
/- ScriptBack in plain Lean: an act's line, read, is the act; a line that is an act is printed as it is. -/
import Derived.Test.YteooddfilnijgaaDoorM1
import Derived.Lib.Split
import Derived.Lib.SplitLaws
namespace Go.Proofs.YteooddfilnijgaaDoor.Px
open Go.RowKit Go.Proofs.YteooddfilnijgaaDoorW.PrintWords Go.Proofs.YteooddfilnijgaaDoorW.PrintLast Go.Proofs.YteooddfilnijgaaDoorW.PrintMore
attribute [local go_sem] max2_int min2_int max_two min_two max_three min_three max_four min_four
set_option linter.unusedVariables false
set_option linter.unusedSimpArgs false
def script_act.f (a0:ByteArray) (l1:List Int):Option (Int × Int × Int × Int × Int):=(script_kind.f a0).bind fun t157 => (if (l1.length:Int)=3 then (if 1 < (l1.length:Int) then (if 2 < (l1.length:Int) then (if t157 < 0 then (some (0,0,0,0,4)) else (if 0 < (l1.length:Int) then (some (t157,rd l1 0,rd l1 1,rd l1 2,0)) else (none))) else (none)) else (none)) else (if (l1.length:Int)=2 then (if 1 < (l1.length:Int) then (if t157 < 0 then (some (0,0,0,0,4)) else (if 0 < (l1.length:Int) then (some (t157,rd l1 0,0,rd l1 1,0)) else (none))) else (none)) else (if t157 < 0 then (some (0,0,0,0,4)) else (if 0 < (l1.length:Int) then (some (t157,rd l1 0,0,0,0)) else (none)))))
set_option maxHeartbeats 80000000 in
set_option maxRecDepth 100000 in
theorem script_act.calls (a0:ByteArray) (A1:Option Addr) (c1:Nat) (l1:List Int) (r1:Int) (r2:Int) (r3:Int) (r4:Int) (r5:Int) (w:World) (hr1:Kd.C (Kd.int .i64) w A1 l1.length l1) (hc1:l1.length≤c1) (h:script_act.f a0 l1=some (r1,r2,r3,r4,r5)) :
  Calls Tryd.prog 17 #[.string a0,.slice A1 l1.length c1] w fun e w' => e=.returned (.tuple #[.agg #[.int .i64 r1,.int .i64 r2,.int .i64 r3,.int .i64 r4],.int .i64 r5])∧Below w.heap.size w w':=by
 have hu23:=Tryd.underlying23
 have HR1:=Aside0.mk hr1
 have HC1:=Aside0.mk hc1
 clear hr1 hc1
 have HB:=Aside0.mk (Below.refl w.heap.size w)
 have H:((script_kind.f a0).bind fun t157 => (if (l1.length:Int)=3 then (if 1 < (l1.length:Int) then (if 2 < (l1.length:Int) then (if t157 < 0 then (some (0,0,0,0,4)) else (if 0 < (l1.length:Int) then (some (t157,rd l1 0,rd l1 1,rd l1 2,0)) else (none))) else (none)) else (none)) else (if (l1.length:Int)=2 then (if 1 < (l1.length:Int) then (if t157 < 0 then (some (0,0,0,0,4)) else (if 0 < (l1.length:Int) then (some (t157,rd l1 0,0,rd l1 1,0)) else (none))) else (none)) else (if t157 < 0 then (some (0,0,0,0,4)) else (if 0 < (l1.length:Int) then (some (t157,rd l1 0,0,0,0)) else (none))))))=some (r1,r2,r3,r4,r5):=h
 clear h
 replace H:=Option.bind_eq_some_iff.mp H
 obtain ⟨t157,A30,H⟩:=H
 replace H:(if (l1.length:Int)=3 then (if 1 < (l1.length:Int) then (if 2 < (l1.length:Int) then (if t157 < 0 then (some (0,0,0,0,4)) else (if 0 < (l1.length:Int) then (some (t157,rd l1 0,rd l1 1,rd l1 2,0)) else (none))) else (none)) else (none)) else (if (l1.length:Int)=2 then (if 1 < (l1.length:Int) then (if t157 < 0 then (some (0,0,0,0,4)) else (if 0 < (l1.length:Int) then (some (t157,rd l1 0,0,rd l1 1,0)) else (none))) else (none)) else (if t157 < 0 then (some (0,0,0,0,4)) else (if 0 < (l1.length:Int) then (some (t157,rd l1 0,0,0,0)) else (none)))))=some (r1,r2,r3,r4,r5):=H
 have A3:=Aside0.mk A30
 clear A30
 by_cases c4:(l1.length:Int)=3
 ·rw [if_pos c4] at H
  have c4b0:((l1.length:Int)==3)=true:=beq_iff_eq.mpr c4
  have c4b1:((l1.length:Int) != 3)=false:=bne_eq_false_iff_eq.mpr c4
  clear c4
  by_cases c5:1 < (l1.length:Int)
  ·rw [if_pos c5] at H
   have c5b0:decide (1 < (l1.length:Int))=true:=decide_eq_true c5
   have c5b1:decide (1 < l1.length)=true:=decide_eq_true (by omega)
   clear c5
   by_cases c6:2 < (l1.length:Int)
   ·rw [if_pos c6] at H
    have c6b0:decide (2 < (l1.length:Int))=true:=decide_eq_true c6
    have c6b1:decide (2 < l1.length)=true:=decide_eq_true (by omega)
    clear c6
    by_cases c7:t157 < 0
    ·rw [if_pos c7] at H
     have c7b0:decide (t157 < 0)=true:=decide_eq_true c7
     clear c7
     simp only [Option.some.injEq,Prod.mk.injEq] at H
     obtain ⟨rfl,rfl,rfl,rfl,rfl⟩:=H
     go_enter Tryd.func17,Tryd.ntmps17
     go_wp2_with (first|((with_reducible refine gate_dst (N:=4) rfl ?_);refine box_event ?hg (N:=4) ?hd (cs:=#[.int .i64 0,.int .i64 0,.int .i64 0,.int .i64 0]) (t:=23) ?hr ?_;(case hd => rfl);(case hg => rfl);(case hr => first|(go_simp;done)|(go_simp;rfl));intro gb156 hg w8 hbox hb;have n0_:=Aside0.mk (below_step (by repeat (first|(with_reducible first|exact HB.out|apply below_alloc|apply pw_below_drewN|apply below_drew1)|exact HB.out)) hb);have n1_:=Aside0.mk (hbox);have n2_:=Aside0.mk ((by rw [hg];exact (below_size (by repeat (first|(with_reducible first|exact HB.out|apply below_alloc|apply pw_below_drewN|apply below_drew1)|exact HB.out))):w.heap.size≤gb156));have n3_:=Aside0.mk ((by rw [hg];exact (below_size (by repeat (first|(with_reducible first|exact HB.out|apply below_alloc|apply pw_below_drewN|apply below_drew1)|exact HB.out))):w.heap.size≤gb156));clear HB;have HB:=n0_;have BK156:=n1_;have GW156:=n2_;have GE156:=n3_;clear n0_ n1_ n2_ n3_;clear hb hbox hg)|((with_reducible refine gate_callee (f:=23) rfl ?_);refine goesL_ (some 8) rfl rfl Tryd.func23 (by kernel_rfl) rfl #[.string a0] rfl (by (try simp only [List.map_toArray,List.map_cons,List.map_nil]);first|done|rfl|(simp only [List.length_drop,List.length_take];rfl)) ?_;(with_reducible refine (script_kind.calls a0 t157 _ A3.out).mono ?_);rintro e w9 ⟨rfl,hb⟩;refine ⟨_,rfl,?_⟩;have n0_:=Aside0.mk (blk_below (g:=gb156) (o:=.cells #[.int .i64 0,.int .i64 0,.int .i64 0,.int .i64 0] 23 (0,0)) (by (with_reducible repeat (first|refine blk_drewN ?_ _|refine blk_drew ?_|refine blk_alloc ?_ _));exact BK156.out) hb);have n1_:=Aside0.mk (below_step (by repeat (first|(with_reducible first|exact HB.out|apply below_alloc|apply pw_below_drewN|apply below_drew1|refine below_set ?_ GE156.out)|exact HB.out)) hb);clear BK156;clear HB;have BK156:=n0_;have HB:=n1_;clear n0_ n1_;(try clear hb);(try clear hb2);(try clear hk);(try clear hi))|((with_reducible refine gate_dst (N:=6) rfl ?_);refine box_event ?hg (N:=6) ?hd (cs:=#[.int .i64 0,.int .i64 0,.int .i64 0,.int .i64 0]) (t:=23) ?hr ?_;(case hd => rfl);(case hg => rfl);(case hr => first|(go_simp;done)|(go_simp;rfl));intro gb158 hg w10 hbox hb;have n0_:=Aside0.mk (blk_below (g:=gb156) (o:=.cells #[.int .i64 0,.int .i64 0,.int .i64 0,.int .i64 0] 23 (0,0)) (by (with_reducible repeat (first|refine blk_drewN ?_ _|refine blk_drew ?_|refine blk_alloc ?_ _));exact BK156.out) hb);have n1_:=Aside0.mk (below_step (by repeat (first|(with_reducible first|exact HB.out|apply below_alloc|apply pw_below_drewN|apply below_drew1|refine below_set ?_ GE156.out)|exact HB.out)) hb);have n2_:=Aside0.mk (hbox);have n3_:=Aside0.mk ((by rw [hg];exact (below_size (by repeat (first|(with_reducible first|exact HB.out|apply below_alloc|apply pw_below_drewN|apply below_drew1|refine below_set ?_ GE156.out)|exact HB.out))):w.heap.size≤gb158));have n4_:=Aside0.mk ((by rw [hg];exact (below_size (by repeat (first|(with_reducible first|exact HB.out|apply below_alloc|apply pw_below_drewN|apply below_drew1|refine below_set ?_ GE156.out)|exact HB.out))):w.heap.size≤gb158));have n5_:=Aside0.mk ((by rw [hg];exact Nat.ne_of_lt (blk_lt (g:=gb156) (o:=.cells #[.int .i64 0,.int .i64 0,.int .i64 0,.int .i64 0] 23 (0,0)) (by (with_reducible repeat (first|refine blk_drewN ?_ _|refine blk_drew ?_|refine blk_alloc ?_ _));exact BK156.out)):gb156 ≠ gb158));have n6_:=Aside0.mk ((by rw [hg];exact Nat.ne_of_gt (blk_lt (g:=gb156) (o:=.cells #[.int .i64 0,.int .i64 0,.int .i64 0,.int .i64 0] 23 (0,0)) (by (with_reducible repeat (first|refine blk_drewN ?_ _|refine blk_drew ?_|refine blk_alloc ?_ _));exact BK156.out)):gb158 ≠ gb156));clear BK156;clear HB;have BK156:=n0_;have HB:=n1_;have BK158:=n2_;have GW158:=n3_;have GE158:=n4_;have NB156_158:=n5_;have NB158_156:=n6_;clear n0_ n1_ n2_ n3_ n4_ n5_ n6_;clear hb hbox hg;have hnb11:=NB158_156.out;have hnc11:=NB156_158.out;have hcz12_0:w10.cell? ⟨gb158,0,none⟩=some (.int .i64 0):=(blk_cell BK158.out 0).trans rfl;have hcz12_1:w10.cell? ⟨gb158,1,none⟩=some (.int .i64 0):=(blk_cell BK158.out 1).trans rfl;have hcz12_2:w10.cell? ⟨gb158,2,none⟩=some (.int .i64 0):=(blk_cell BK158.out 2).trans rfl;have hcz12_3:w10.cell? ⟨gb158,3,none⟩=some (.int .i64 0):=(blk_cell BK158.out 3).trans rfl;have hfz12_0:=blk_frozen BK158.out 0;have hfz12_1:=blk_frozen BK158.out 1;have hfz12_2:=blk_frozen BK158.out 2;have hfz12_3:=blk_frozen BK158.out 3;have p159:0≤(1:Int):=(by omega);have q159:1 < (l1.length:Int):=of_decide_eq_true (by first|(with_reducible assumption)|assumption);obtain ⟨ad159,e159,hx159_0⟩:=Kd.at_int HR1.out 1 p159 q159;cases e159;(try simp only [show (1:Int).toNat=1 from rfl,Nat.reduceMul,Nat.reduceEqDiff,Go.Addr.add,↓reduceIte] at hx159_0);have qi159:(1 < l1.length)=True:=eq_true (by omega);(try rw [show ((1:Int)).toNat=1 from rfl] at hx159_0);have hn159_0:ad159.block ≠ gb158:=Nat.ne_of_lt (Nat.lt_of_lt_of_le (by have:=World.block_lt_of_cell? _ _ hx159_0;first|rwa [add_block] at this|exact this) GW158.out);have hn159_1:ad159.block ≠ gb158:=Nat.ne_of_lt (Nat.lt_of_lt_of_le (by have:=World.block_lt_of_cell? _ _ hx159_0;first|rwa [add_block] at this|exact this) GW158.out);have hn159_2:ad159.block ≠ gb158:=Nat.ne_of_lt (Nat.lt_of_lt_of_le (by have:=World.block_lt_of_cell? _ _ hx159_0;first|rwa [add_block] at this|exact this) GW158.out);have hn159_3:ad159.block ≠ gb158:=Nat.ne_of_lt (Nat.lt_of_lt_of_le (by have:=World.block_lt_of_cell? _ _ hx159_0;first|rwa [add_block] at this|exact this) GW158.out);replace hx159_0:=(HB.out.cell (World.block_lt_of_cell? w _ hx159_0)).trans hx159_0;replace hx159_0:=(cell_far (p:=⟨gb158,0,none⟩) (by first|(rw [add_block];exact hn159_0)|(show (Addr.add _ _).block ≠ _;rw [add_block];exact hn159_0)|exact hn159_0) (.int .i64 t157)).trans hx159_0;replace hx159_0:=(cell_far (p:=⟨gb158,1,none⟩) (by first|(rw [add_block];exact hn159_1)|(show (Addr.add _ _).block ≠ _;rw [add_block];exact hn159_1)|exact hn159_1) (.int .i64 0)).trans hx159_0;replace hx159_0:=(cell_far (p:=⟨gb158,2,none⟩) (by first|(rw [add_block];exact hn159_2)|(show (Addr.add _ _).block ≠ _;rw [add_block];exact hn159_2)|exact hn159_2) (.int .i64 0)).trans hx159_0;replace hx159_0:=(cell_far (p:=⟨gb158,3,none⟩) (by first|(rw [add_block];exact hn159_3)|(show (Addr.add _ _).block ≠ _;rw [add_block];exact hn159_3)|exact hn159_3) (.int .i64 0)).trans hx159_0;clear hn159_0;clear hn159_1;clear hn159_2;clear hn159_3;replace p159:=eq_true p159;replace q159:=eq_true q159)|((with_reducible refine gate_store (t:=3) (p:=17) rfl ?_);refine store_event (t:=3) (p:=17) (v:=?vo_w13) (w1:=(((((w10.setCell ⟨gb158,0,none⟩ (.int .i64 t157)).setCell ⟨gb158,1,none⟩ (.int .i64 0)).setCell ⟨gb158,2,none⟩ (.int .i64 0)).setCell ⟨gb158,3,none⟩ (.int .i64 0)).setCell ⟨gb158,2,none⟩ (.int .i64 (rd l1 1)))) ?hg ?ho ?hn ?hr ?_;(case ho => rfl);(case hg => rfl);(case hn => rfl);(case hr => first|(go_simp;done)|(go_simp;rfl));intro w13 hw;have n0_:Aside0 (w13.heap[gb156]?=some (.cells #[.int .i64 0,.int .i64 0,.int .i64 0,.int .i64 0] 23 (0,0))):=⟨(by rw [hw];exact (by (with_reducible repeat (first|refine blk_drewN ?_ _|refine blk_drew ?_|refine blk_alloc ?_ _));refine blk_far ?_ NB156_158.out _;(with_reducible repeat (first|refine blk_drewN ?_ _|refine blk_drew ?_|refine blk_alloc ?_ _));refine blk_far ?_ NB156_158.out _;(with_reducible repeat (first|refine blk_drewN ?_ _|refine blk_drew ?_|refine blk_alloc ?_ _));refine blk_far ?_ NB156_158.out _;(with_reducible repeat (first|refine blk_drewN ?_ _|refine blk_drew ?_|refine blk_alloc ?_ _));refine blk_far ?_ NB156_158.out _;(with_reducible repeat (first|refine blk_drewN ?_ _|refine blk_drew ?_|refine blk_alloc ?_ _));refine blk_far ?_ NB156_158.out _;(with_reducible repeat (first|refine blk_drewN ?_ _|refine blk_drew ?_|refine blk_alloc ?_ _));exact BK156.out))⟩;have n1_:Aside0 (w13.heap[gb158]?=some (.cells #[.int .i64 t157,.int .i64 0,.int .i64 (rd l1 1),.int .i64 0] 23 (0,0))):=⟨(by rw [hw];exact (by (with_reducible repeat (first|refine blk_drewN ?_ _|refine blk_drew ?_|refine blk_alloc ?_ _));refine blk_put (cs:=#[.int .i64 t157,.int .i64 0,.int .i64 0,.int .i64 0]) ?_ 2 _ rfl;(with_reducible repeat (first|refine blk_drewN ?_ _|refine blk_drew ?_|refine blk_alloc ?_ _));refine blk_put (cs:=#[.int .i64 t157,.int .i64 0,.int .i64 0,.int .i64 0]) ?_ 3 _ rfl;(with_reducible repeat (first|refine blk_drewN ?_ _|refine blk_drew ?_|refine blk_alloc ?_ _));refine blk_put (cs:=#[.int .i64 t157,.int .i64 0,.int .i64 0,.int .i64 0]) ?_ 2 _ rfl;(with_reducible repeat (first|refine blk_drewN ?_ _|refine blk_drew ?_|refine blk_alloc ?_ _));refine blk_put (cs:=#[.int .i64 t157,.int .i64 0,.int .i64 0,.int .i64 0]) ?_ 1 _ rfl;(with_reducible repeat (first|refine blk_drewN ?_ _|refine blk_drew ?_|refine blk_alloc ?_ _));refine blk_put (cs:=#[.int .i64 0,.int .i64 0,.int .i64 0,.int .i64 0]) ?_ 0 _ rfl;(with_reducible repeat (first|refine blk_drewN ?_ _|refine blk_drew ?_|refine blk_alloc ?_ _));exact BK158.out))⟩;have n2_:Aside0 (Below w.heap.size w w13):=⟨(by rw [hw];exact (by repeat (first|(with_reducible first|exact HB.out|apply below_alloc|apply pw_below_drewN|apply below_drew1|refine below_set ?_ GE156.out|refine below_set ?_ GE158.out)|exact HB.out)))⟩;clear hw;clear BK156;clear BK158;clear HB;have BK156:=n0_;have BK158:=n1_;have HB:=n2_;clear n0_ n1_ n2_;have p160:0≤(2:Int):=(by omega);have q160:2 < (l1.length:Int):=of_decide_eq_true (by first|(with_reducible assumption)|assumption);obtain ⟨ad160,e160,hx160_0⟩:=Kd.at_int HR1.out 2 p160 q160;obtain rfl:ad159=ad160:=(by injection e160);(try simp only [show (2:Int).toNat=2 from rfl,Nat.reduceMul,Nat.reduceEqDiff,Go.Addr.add,↓reduceIte] at hx160_0);have qi160:(2 < l1.length)=True:=eq_true (by omega);(try rw [show ((2:Int)).toNat=2 from rfl] at hx160_0);replace hx160_0:=(HB.out.cell (World.block_lt_of_cell? w _ hx160_0)).trans hx160_0;replace p160:=eq_true p160;replace q160:=eq_true q160;have hcz14_0:w13.cell? ⟨gb158,0,none⟩=some (.int .i64 t157):=(blk_cell BK158.out 0).trans rfl;have hcz14_1:w13.cell? ⟨gb158,1,none⟩=some (.int .i64 0):=(blk_cell BK158.out 1).trans rfl;have hcz14_2:w13.cell? ⟨gb158,2,none⟩=some (.int .i64 (rd l1 1)):=(blk_cell BK158.out 2).trans rfl;have hcz14_3:w13.cell? ⟨gb158,3,none⟩=some (.int .i64 0):=(blk_cell BK158.out 3).trans rfl;have hfz14_0:=blk_frozen BK158.out 0;have hfz14_1:=blk_frozen BK158.out 1;have hfz14_2:=blk_frozen BK158.out 2;have hfz14_3:=blk_frozen BK158.out 3;have hcz15_0:w13.cell? ⟨gb156,0,none⟩=some (.int .i64 0):=(blk_cell BK156.out 0).trans rfl;have hcz15_1:w13.cell? ⟨gb156,1,none⟩=some (.int .i64 0):=(blk_cell BK156.out 1).trans rfl;have hcz15_2:w13.cell? ⟨gb156,2,none⟩=some (.int .i64 0):=(blk_cell BK156.out 2).trans rfl;have hcz15_3:w13.cell? ⟨gb156,3,none⟩=some (.int .i64 0):=(blk_cell BK156.out 3).trans rfl;have hfz15_0:=blk_frozen BK156.out 0;have hfz15_1:=blk_frozen BK156.out 1;have hfz15_2:=blk_frozen BK156.out 2;have hfz15_3:=blk_frozen BK156.out 3)|((with_reducible refine gate_store (t:=23) (p:=4) rfl ?_);refine store_event (t:=23) (p:=4) (v:=?vo_w16) (w1:=(((((w13.setCell ⟨gb158,3,none⟩ (.int .i64 (rd l1 2))).setCell ⟨gb156,0,none⟩ (.int .i64 0)).setCell ⟨gb156,1,none⟩ (.int .i64 0)).setCell ⟨gb156,2,none⟩ (.int .i64 0)).setCell ⟨gb156,3,none⟩ (.int .i64 0))) ?hg ?ho ?hn ?hr ?_;(case ho => rfl);(case hg => rfl);(case hn => rfl);(case hr => first|(go_simp;done)|(go_simp;rfl));intro w16 hw;have n0_:Aside0 (w16.heap[gb156]?=some (.cells #[.int .i64 0,.int .i64 0,.int .i64 0,.int .i64 0] 23 (0,0))):=⟨(by rw [hw];exact (by (with_reducible repeat (first|refine blk_drewN ?_ _|refine blk_drew ?_|refine blk_alloc ?_ _));refine blk_put (cs:=#[.int .i64 0,.int .i64 0,.int .i64 0,.int .i64 0]) ?_ 3 _ rfl;(with_reducible repeat (first|refine blk_drewN ?_ _|refine blk_drew ?_|refine blk_alloc ?_ _));refine blk_put (cs:=#[.int .i64 0,.int .i64 0,.int .i64 0,.int .i64 0]) ?_ 2 _ rfl;(with_reducible repeat (first|refine blk_drewN ?_ _|refine blk_drew ?_|refine blk_alloc ?_ _));refine blk_put (cs:=#[.int .i64 0,.int .i64 0,.int .i64 0,.int .i64 0]) ?_ 1 _ rfl;(with_reducible repeat (first|refine blk_drewN ?_ _|refine blk_drew ?_|refine blk_alloc ?_ _));refine blk_put (cs:=#[.int .i64 0,.int .i64 0,.int .i64 0,.int .i64 0]) ?_ 0 _ rfl;(with_reducible repeat (first|refine blk_drewN ?_ _|refine blk_drew ?_|refine blk_alloc ?_ _));refine blk_far ?_ NB156_158.out _;(with_reducible repeat (first|refine blk_drewN ?_ _|refine blk_drew ?_|refine blk_alloc ?_ _));exact BK156.out))⟩;have n1_:Aside0 (w16.heap[gb158]?=some (.cells #[.int .i64 t157,.int .i64 0,.int .i64 (rd l1 1),.int .i64 (rd l1 2)] 23 (0,0))):=⟨(by rw [hw];exact (by (with_reducible repeat (first|refine blk_drewN ?_ _|refine blk_drew ?_|refine blk_alloc ?_ _));refine blk_far ?_ NB158_156.out _;(with_reducible repeat (first|refine blk_drewN ?_ _|refine blk_drew ?_|refine blk_alloc ?_ _));refine blk_far ?_ NB158_156.out _;(with_reducible repeat (first|refine blk_drewN ?_ _|refine blk_drew ?_|refine blk_alloc ?_ _));refine blk_far ?_ NB158_156.out _;(with_reducible repeat (first|refine blk_drewN ?_ _|refine blk_drew ?_|refine blk_alloc ?_ _));refine blk_far ?_ NB158_156.out _;(with_reducible repeat (first|refine blk_drewN ?_ _|refine blk_drew ?_|refine blk_alloc ?_ _));refine blk_put (cs:=#[.int .i64 t157,.int .i64 0,.int .i64 (rd l1 1),.int .i64 0]) ?_ 3 _ rfl;(with_reducible repeat (first|refine blk_drewN ?_ _|refine blk_drew ?_|refine blk_alloc ?_ _));exact BK158.out))⟩;have n2_:Aside0 (Below w.heap.size w w16):=⟨(by rw [hw];exact (by repeat (first|(with_reducible first|exact HB.out|apply below_alloc|apply pw_below_drewN|apply below_drew1|refine below_set ?_ GE156.out|refine below_set ?_ GE158.out)|exact HB.out)))⟩;clear hw;clear BK156;clear BK158;clear HB;have BK156:=n0_;have BK158:=n1_;have HB:=n2_;clear n0_ n1_ n2_))
     refine bodyPost_ret (results_ct rfl _ _ gb156 23 #[.int .i64 0,.int .i64 0,.int .i64 0,.int .i64 0] (0,0) _ rfl (by (with_reducible repeat (first|refine blk_drewN ?_ _|refine blk_drew ?_|refine blk_alloc ?_ _));exact BK156.out) Tryd.underlying23 rfl (by kernel_rfl)) rfl ?_
     exact ⟨by first|rfl|(simp [errW_none,errW_some] <;> rfl)|(simp [*,errW_none,errW_some] <;> rfl),by repeat (first|(with_reducible first|exact HB.out|apply below_alloc|apply pw_below_drewN|apply below_drew1|refine below_set ?_ GE156.out|refine below_set ?_ GE158.out)|exact HB.out)⟩
    ·rw [if_neg c7] at H
     have c7b0:decide (t157 < 0)=false:=decide_eq_false c7
     clear c7
     by_cases c17:0 < (l1.length:Int)
     ·rw [if_pos c17] at H
      have c17b0:decide (0 < (l1.length:Int))=true:=decide_eq_true c17
      have c17b1:decide (0 < l1.length)=true:=decide_eq_true (by omega)
      clear c17
      simp only [Option.some.injEq,Prod.mk.injEq] at H
      obtain ⟨rfl,rfl,rfl,rfl,rfl⟩:=H
      go_enter Tryd.func17,Tryd.ntmps17
      go_wp2_with (first|((with_reducible refine gate_dst (N:=4) rfl ?_);refine box_event ?hg (N:=4) ?hd (cs:=#[.int .i64 0,.int .i64 0,.int .i64 0,.int .i64 0]) (t:=23) ?hr ?_;(case hd => rfl);(case hg => rfl);(case hr => first|(go_simp;done)|(go_simp;rfl));intro gb156 hg w18 hbox hb;have n0_:=Aside0.mk (below_step (by repeat (first|(with_reducible first|exact HB.out|apply below_alloc|apply pw_below_drewN|apply below_drew1)|exact HB.out)) hb);have n1_:=Aside0.mk (hbox);have n2_:=Aside0.mk ((by rw [hg];exact (below_size (by repeat (first|(with_reducible first|exact HB.out|apply below_alloc|apply pw_below_drewN|apply below_drew1)|exact HB.out))):w.heap.size≤gb156));have n3_:=Aside0.mk ((by rw [hg];exact (below_size (by repeat (first|(with_reducible first|exact HB.out|apply below_alloc|apply pw_below_drewN|apply below_drew1)|exact HB.out))):w.heap.size≤gb156));clear HB;have HB:=n0_;have BK156:=n1_;have GW156:=n2_;have GE156:=n3_;clear n0_ n1_ n2_ n3_;clear hb hbox hg)|((with_reducible refine gate_callee (f:=23) rfl ?_);refine goesL_ (some 8) rfl rfl Tryd.func23 (by kernel_rfl) rfl #[.string a0] rfl (by (try simp only [List.map_toArray,List.map_cons,List.map_nil]);first|done|rfl|(simp only [List.length_drop,List.length_take];rfl)) ?_;(with_reducible refine (script_kind.calls a0 t157 _ A3.out).mono ?_);rintro e w19 ⟨rfl,hb⟩;refine ⟨_,rfl,?_⟩;have n0_:=Aside0.mk (blk_below (g:=gb156) (o:=.cells #[.int .i64 0,.int .i64 0,.int .i64 0,.int .i64 0] 23 (0,0)) (by (with_reducible repeat (first|refine blk_drewN ?_ _|refine blk_drew ?_|refine blk_alloc ?_ _));exact BK156.out) hb);have n1_:=Aside0.mk (below_step (by repeat (first|(with_reducible first|exact HB.out|apply below_alloc|apply pw_below_drewN|apply below_drew1|refine below_set ?_ GE156.out)|exact HB.out)) hb);clear BK156;clear HB;have BK156:=n0_;have HB:=n1_;clear n0_ n1_;(try clear hb);(try clear hb2);(try clear hk);(try clear hi))|((with_reducible refine gate_dst (N:=6) rfl ?_);refine box_event ?hg (N:=6) ?hd (cs:=#[.int .i64 0,.int .i64 0,.int .i64 0,.int .i64 0]) (t:=23) ?hr ?_;(case hd => rfl);(case hg => rfl);(case hr => first|(go_simp;done)|(go_simp;rfl));intro gb158 hg w20 hbox hb;have n0_:=Aside0.mk (blk_below (g:=gb156) (o:=.cells #[.int .i64 0,.int .i64 0,.int .i64 0,.int .i64 0] 23 (0,0)) (by (with_reducible repeat (first|refine blk_drewN ?_ _|refine blk_drew ?_|refine blk_alloc ?_ _));exact BK156.out) hb);have n1_:=Aside0.mk (below_step (by repeat (first|(with_reducible first|exact HB.out|apply below_alloc|apply pw_below_drewN|apply below_drew1|refine below_set ?_ GE156.out)|exact HB.out)) hb);have n2_:=Aside0.mk (hbox);have n3_:=Aside0.mk ((by rw [hg];exact (below_size (by repeat (first|(with_reducible first|exact HB.out|apply below_alloc|apply pw_below_drewN|apply below_drew1|refine below_set ?_ GE156.out)|exact HB.out))):w.heap.size≤gb158));have n4_:=Aside0.mk ((by rw [hg];exact (below_size (by repeat (first|(with_reducible first|exact HB.out|apply below_alloc|apply pw_below_drewN|apply below_drew1|refine below_set ?_ GE156.out)|exact HB.out))):w.heap.size≤gb158));have n5_:=Aside0.mk ((by rw [hg];exact Nat.ne_of_lt (blk_lt (g:=gb156) (o:=.cells #[.int .i64 0,.int .i64 0,.int .i64 0,.int .i64 0] 23 (0,0)) (by (with_reducible repeat (first|refine blk_drewN ?_ _|refine blk_drew ?_|refine blk_alloc ?_ _));exact BK156.out)):gb156 ≠ gb158));have n6_:=Aside0.mk ((by rw [hg];exact Nat.ne_of_gt (blk_lt (g:=gb156) (o:=.cells #[.int .i64 0,.int .i64 0,.int .i64 0,.int .i64 0] 23 (0,0)) (by (with_reducible repeat (first|refine blk_drewN ?_ _|refine blk_drew ?_|refine blk_alloc ?_ _));exact BK156.out)):gb158 ≠ gb156));clear BK156;clear HB;have BK156:=n0_;have HB:=n1_;have BK158:=n2_;have GW158:=n3_;have GE158:=n4_;have NB156_158:=n5_;have NB158_156:=n6_;clear n0_ n1_ n2_ n3_ n4_ n5_ n6_;clear hb hbox hg;have hnb21:=NB158_156.out;have hnc21:=NB156_158.out;have hcz22_0:w20.cell? ⟨gb158,0,none⟩=some (.int .i64 0):=(blk_cell BK158.out 0).trans rfl;have hcz22_1:w20.cell? ⟨gb158,1,none⟩=some (.int .i64 0):=(blk_cell BK158.out 1).trans rfl;have hcz22_2:w20.cell? ⟨gb158,2,none⟩=some (.int .i64 0):=(blk_cell BK158.out 2).trans rfl;have hcz22_3:w20.cell? ⟨gb158,3,none⟩=some (.int .i64 0):=(blk_cell BK158.out 3).trans rfl;have hfz22_0:=blk_frozen BK158.out 0;have hfz22_1:=blk_frozen BK158.out 1;have hfz22_2:=blk_frozen BK158.out 2;have hfz22_3:=blk_frozen BK158.out 3;have p159:0≤(1:Int):=(by omega);have q159:1 < (l1.length:Int):=of_decide_eq_true (by first|(with_reducible assumption)|assumption);obtain ⟨ad159,e159,hx159_0⟩:=Kd.at_int HR1.out 1 p159 q159;cases e159;(try simp only [show (1:Int).toNat=1 from rfl,Nat.reduceMul,Nat.reduceEqDiff,Go.Addr.add,↓reduceIte] at hx159_0);have qi159:(1 < l1.length)=True:=eq_true (by omega);(try rw [show ((1:Int)).toNat=1 from rfl] at hx159_0);have hn159_0:ad159.block ≠ gb158:=Nat.ne_of_lt (Nat.lt_of_lt_of_le (by have:=World.block_lt_of_cell? _ _ hx159_0;first|rwa [add_block] at this|exact this) GW158.out);have hn159_1:ad159.block ≠ gb158:=Nat.ne_of_lt (Nat.lt_of_lt_of_le (by have:=World.block_lt_of_cell? _ _ hx159_0;first|rwa [add_block] at this|exact this) GW158.out);have hn159_2:ad159.block ≠ gb158:=Nat.ne_of_lt (Nat.lt_of_lt_of_le (by have:=World.block_lt_of_cell? _ _ hx159_0;first|rwa [add_block] at this|exact this) GW158.out);have hn159_3:ad159.block ≠ gb158:=Nat.ne_of_lt (Nat.lt_of_lt_of_le (by have:=World.block_lt_of_cell? _ _ hx159_0;first|rwa [add_block] at this|exact this) GW158.out);replace hx159_0:=(HB.out.cell (World.block_lt_of_cell? w _ hx159_0)).trans hx159_0;replace hx159_0:=(cell_far (p:=⟨gb158,0,none⟩) (by first|(rw [add_block];exact hn159_0)|(show (Addr.add _ _).block ≠ _;rw [add_block];exact hn159_0)|exact hn159_0) (.int .i64 t157)).trans hx159_0;replace hx159_0:=(cell_far (p:=⟨gb158,1,none⟩) (by first|(rw [add_block];exact hn159_1)|(show (Addr.add _ _).block ≠ _;rw [add_block];exact hn159_1)|exact hn159_1) (.int .i64 0)).trans hx159_0;replace hx159_0:=(cell_far (p:=⟨gb158,2,none⟩) (by first|(rw [add_block];exact hn159_2)|(show (Addr.add _ _).block ≠ _;rw [add_block];exact hn159_2)|exact hn159_2) (.int .i64 0)).trans hx159_0;replace hx159_0:=(cell_far (p:=⟨gb158,3,none⟩) (by first|(rw [add_block];exact hn159_3)|(show (Addr.add _ _).block ≠ _;rw [add_block];exact hn159_3)|exact hn159_3) (.int .i64 0)).trans hx159_0;clear hn159_0;clear hn159_1;clear hn159_2;clear hn159_3;replace p159:=eq_true p159;replace q159:=eq_true q159)|((with_reducible refine gate_store (t:=3) (p:=17) rfl ?_);refine store_event (t:=3) (p:=17) (v:=?vo_w23) (w1:=(((((w20.setCell ⟨gb158,0,none⟩ (.int .i64 t157)).setCell ⟨gb158,1,none⟩ (.int .i64 0)).setCell ⟨gb158,2,none⟩ (.int .i64 0)).setCell ⟨gb158,3,none⟩ (.int .i64 0)).setCell ⟨gb158,2,none⟩ (.int .i64 (rd l1 1)))) ?hg ?ho ?hn ?hr ?_;(case ho => rfl);(case hg => rfl);(case hn => rfl);(case hr => first|(go_simp;done)|(go_simp;rfl));intro w23 hw;have n0_:Aside0 (w23.heap[gb156]?=some (.cells #[.int .i64 0,.int .i64 0,.int .i64 0,.int .i64 0] 23 (0,0))):=⟨(by rw [hw];exact (by (with_reducible repeat (first|refine blk_drewN ?_ _|refine blk_drew ?_|refine blk_alloc ?_ _));refine blk_far ?_ NB156_158.out _;(with_reducible repeat (first|refine blk_drewN ?_ _|refine blk_drew ?_|refine blk_alloc ?_ _));refine blk_far ?_ NB156_158.out _;(with_reducible repeat (first|refine blk_drewN ?_ _|refine blk_drew ?_|refine blk_alloc ?_ _));refine blk_far ?_ NB156_158.out _;(with_reducible repeat (first|refine blk_drewN ?_ _|refine blk_drew ?_|refine blk_alloc ?_ _));refine blk_far ?_ NB156_158.out _;(with_reducible repeat (first|refine blk_drewN ?_ _|refine blk_drew ?_|refine blk_alloc ?_ _));refine blk_far ?_ NB156_158.out _;(with_reducible repeat (first|refine blk_drewN ?_ _|refine blk_drew ?_|refine blk_alloc ?_ _));exact BK156.out))⟩;have n1_:Aside0 (w23.heap[gb158]?=some (.cells #[.int .i64 t157,.int .i64 0,.int .i64 (rd l1 1),.int .i64 0] 23 (0,0))):=⟨(by rw [hw];exact (by (with_reducible repeat (first|refine blk_drewN ?_ _|refine blk_drew ?_|refine blk_alloc ?_ _));refine blk_put (cs:=#[.int .i64 t157,.int .i64 0,.int .i64 0,.int .i64 0]) ?_ 2 _ rfl;(with_reducible repeat (first|refine blk_drewN ?_ _|refine blk_drew ?_|refine blk_alloc ?_ _));refine blk_put (cs:=#[.int .i64 t157,.int .i64 0,.int .i64 0,.int .i64 0]) ?_ 3 _ rfl;(with_reducible repeat (first|refine blk_drewN ?_ _|refine blk_drew ?_|refine blk_alloc ?_ _));refine blk_put (cs:=#[.int .i64 t157,.int .i64 0,.int .i64 0,.int .i64 0]) ?_ 2 _ rfl;(with_reducible repeat (first|refine blk_drewN ?_ _|refine blk_drew ?_|refine blk_alloc ?_ _));refine blk_put (cs:=#[.int .i64 t157,.int .i64 0,.int .i64 0,.int .i64 0]) ?_ 1 _ rfl;(with_reducible repeat (first|refine blk_drewN ?_ _|refine blk_drew ?_|refine blk_alloc ?_ _));refine blk_put (cs:=#[.int .i64 0,.int .i64 0,.int .i64 0,.int .i64 0]) ?_ 0 _ rfl;(with_reducible repeat (first|refine blk_drewN ?_ _|refine blk_drew ?_|refine blk_alloc ?_ _));exact BK158.out))⟩;have n2_:Aside0 (Below w.heap.size w w23):=⟨(by rw [hw];exact (by repeat (first|(with_reducible first|exact HB.out|apply below_alloc|apply pw_below_drewN|apply below_drew1|refine below_set ?_ GE156.out|refine below_set ?_ GE158.out)|exact HB.out)))⟩;clear hw;clear BK156;clear BK158;clear HB;have BK156:=n0_;have BK158:=n1_;have HB:=n2_;clear n0_ n1_ n2_;have p160:0≤(2:Int):=(by omega);have q160:2 < (l1.length:Int):=of_decide_eq_true (by first|(with_reducible assumption)|assumption);obtain ⟨ad160,e160,hx160_0⟩:=Kd.at_int HR1.out 2 p160 q160;obtain rfl:ad159=ad160:=(by injection e160);(try simp only [show (2:Int).toNat=2 from rfl,Nat.reduceMul,Nat.reduceEqDiff,Go.Addr.add,↓reduceIte] at hx160_0);have qi160:(2 < l1.length)=True:=eq_true (by omega);(try rw [show ((2:Int)).toNat=2 from rfl] at hx160_0);replace hx160_0:=(HB.out.cell (World.block_lt_of_cell? w _ hx160_0)).trans hx160_0;replace p160:=eq_true p160;replace q160:=eq_true q160;have hcz24_0:w23.cell? ⟨gb158,0,none⟩=some (.int .i64 t157):=(blk_cell BK158.out 0).trans rfl;have hcz24_1:w23.cell? ⟨gb158,1,none⟩=some (.int .i64 0):=(blk_cell BK158.out 1).trans rfl;have hcz24_2:w23.cell? ⟨gb158,2,none⟩=some (.int .i64 (rd l1 1)):=(blk_cell BK158.out 2).trans rfl;have hcz24_3:w23.cell? ⟨gb158,3,none⟩=some (.int .i64 0):=(blk_cell BK158.out 3).trans rfl;have hfz24_0:=blk_frozen BK158.out 0;have hfz24_1:=blk_frozen BK158.out 1;have hfz24_2:=blk_frozen BK158.out 2;have hfz24_3:=blk_frozen BK158.out 3;have p161:0≤(0:Int):=(by omega);have q161:0 < (l1.length:Int):=of_decide_eq_true (by first|(with_reducible assumption)|assumption);obtain ⟨ad161,e161,hx161_0⟩:=Kd.at_int HR1.out 0 p161 q161;obtain rfl:ad159=ad161:=(by injection e161);have qi161:(0 < l1.length)=True:=eq_true (by omega);(try rw [show ((0:Int)).toNat=0 from rfl] at hx161_0);(try rw [Addr.add_zero'] at hx161_0);have hn161_0:ad159.block ≠ gb158:=Nat.ne_of_lt (Nat.lt_of_lt_of_le (by have:=World.block_lt_of_cell? _ _ hx161_0;first|rwa [add_block] at this|exact this) GW158.out);replace hx161_0:=(HB.out.cell (World.block_lt_of_cell? w _ hx161_0)).trans hx161_0;replace hx161_0:=(cell_far (p:=⟨gb158,3,none⟩) (by first|(rw [add_block];exact hn161_0)|(show (Addr.add _ _).block ≠ _;rw [add_block];exact hn161_0)|exact hn161_0) (.int .i64 (rd l1 2))).trans hx161_0;clear hn161_0;replace p161:=eq_true p161;replace q161:=eq_true q161;have hcz25_0:w23.cell? ⟨gb156,0,none⟩=some (.int .i64 0):=(blk_cell BK156.out 0).trans rfl;have hcz25_1:w23.cell? ⟨gb156,1,none⟩=some (.int .i64 0):=(blk_cell BK156.out 1).trans rfl;have hcz25_2:w23.cell? ⟨gb156,2,none⟩=some (.int .i64 0):=(blk_cell BK156.out 2).trans rfl;have hcz25_3:w23.cell? ⟨gb156,3,none⟩=some (.int .i64 0):=(blk_cell BK156.out 3).trans rfl;have hfz25_0:=blk_frozen BK156.out 0;have hfz25_1:=blk_frozen BK156.out 1;have hfz25_2:=blk_frozen BK156.out 2;have hfz25_3:=blk_frozen BK156.out 3)|((with_reducible refine gate_store (t:=23) (p:=4) rfl ?_);refine store_event (t:=23) (p:=4) (v:=?vo_w26) (w1:=((((((w23.setCell ⟨gb158,3,none⟩ (.int .i64 (rd l1 2))).setCell ⟨gb158,1,none⟩ (.int .i64 (rd l1 0))).setCell ⟨gb156,0,none⟩ (.int .i64 t157)).setCell ⟨gb156,1,none⟩ (.int .i64 (rd l1 0))).setCell ⟨gb156,2,none⟩ (.int .i64 (rd l1 1))).setCell ⟨gb156,3,none⟩ (.int .i64 (rd l1 2)))) ?hg ?ho ?hn ?hr ?_;(case ho => rfl);(case hg => rfl);(case hn => rfl);(case hr => first|(go_simp;done)|(go_simp;rfl));intro w26 hw;have n0_:Aside0 (w26.heap[gb156]?=some (.cells #[.int .i64 t157,.int .i64 (rd l1 0),.int .i64 (rd l1 1),.int .i64 (rd l1 2)] 23 (0,0))):=⟨(by rw [hw];exact (by (with_reducible repeat (first|refine blk_drewN ?_ _|refine blk_drew ?_|refine blk_alloc ?_ _));refine blk_put (cs:=#[.int .i64 t157,.int .i64 (rd l1 0),.int .i64 (rd l1 1),.int .i64 0]) ?_ 3 _ rfl;(with_reducible repeat (first|refine blk_drewN ?_ _|refine blk_drew ?_|refine blk_alloc ?_ _));refine blk_put (cs:=#[.int .i64 t157,.int .i64 (rd l1 0),.int .i64 0,.int .i64 0]) ?_ 2 _ rfl;(with_reducible repeat (first|refine blk_drewN ?_ _|refine blk_drew ?_|refine blk_alloc ?_ _));refine blk_put (cs:=#[.int .i64 t157,.int .i64 0,.int .i64 0,.int .i64 0]) ?_ 1 _ rfl;(with_reducible repeat (first|refine blk_drewN ?_ _|refine blk_drew ?_|refine blk_alloc ?_ _));refine blk_put (cs:=#[.int .i64 0,.int .i64 0,.int .i64 0,.int .i64 0]) ?_ 0 _ rfl;(with_reducible repeat (first|refine blk_drewN ?_ _|refine blk_drew ?_|refine blk_alloc ?_ _));refine blk_far ?_ NB156_158.out _;(with_reducible repeat (first|refine blk_drewN ?_ _|refine blk_drew ?_|refine blk_alloc ?_ _));refine blk_far ?_ NB156_158.out _;(with_reducible repeat (first|refine blk_drewN ?_ _|refine blk_drew ?_|refine blk_alloc ?_ _));exact BK156.out))⟩;have n1_:Aside0 (w26.heap[gb158]?=some (.cells #[.int .i64 t157,.int .i64 (rd l1 0),.int .i64 (rd l1 1),.int .i64 (rd l1 2)] 23 (0,0))):=⟨(by rw [hw];exact (by (with_reducible repeat (first|refine blk_drewN ?_ _|refine blk_drew ?_|refine blk_alloc ?_ _));refine blk_far ?_ NB158_156.out _;(with_reducible repeat (first|refine blk_drewN ?_ _|refine blk_drew ?_|refine blk_alloc ?_ _));refine blk_far ?_ NB158_156.out _;(with_reducible repeat (first|refine blk_drewN ?_ _|refine blk_drew ?_|refine blk_alloc ?_ _));refine blk_far ?_ NB158_156.out _;(with_reducible repeat (first|refine blk_drewN ?_ _|refine blk_drew ?_|refine blk_alloc ?_ _));refine blk_far ?_ NB158_156.out _;(with_reducible repeat (first|refine blk_drewN ?_ _|refine blk_drew ?_|refine blk_alloc ?_ _));refine blk_put (cs:=#[.int .i64 t157,.int .i64 0,.int .i64 (rd l1 1),.int .i64 (rd l1 2)]) ?_ 1 _ rfl;(with_reducible repeat (first|refine blk_drewN ?_ _|refine blk_drew ?_|refine blk_alloc ?_ _));refine blk_put (cs:=#[.int .i64 t157,.int .i64 0,.int .i64 (rd l1 1),.int .i64 0]) ?_ 3 _ rfl;(with_reducible repeat (first|refine blk_drewN ?_ _|refine blk_drew ?_|refine blk_alloc ?_ _));exact BK158.out))⟩;have n2_:Aside0 (Below w.heap.size w w26):=⟨(by rw [hw];exact (by repeat (first|(with_reducible first|exact HB.out|apply below_alloc|apply pw_below_drewN|apply below_drew1|refine below_set ?_ GE156.out|refine below_set ?_ GE158.out)|exact HB.out)))⟩;clear hw;clear BK156;clear BK158;clear HB;have BK156:=n0_;have BK158:=n1_;have HB:=n2_;clear n0_ n1_ n2_))
      refine bodyPost_ret (results_ct rfl _ _ gb156 23 #[.int .i64 t157,.int .i64 (rd l1 0),.int .i64 (rd l1 1),.int .i64 (rd l1 2)] (0,0) _ rfl (by (with_reducible repeat (first|refine blk_drewN ?_ _|refine blk_drew ?_|refine blk_alloc ?_ _));exact BK156.out) Tryd.underlying23 rfl (by kernel_rfl)) rfl ?_
      exact ⟨by first|rfl|(simp [errW_none,errW_some] <;> rfl)|(simp [*,errW_none,errW_some] <;> rfl),by repeat (first|(with_reducible first|exact HB.out|apply below_alloc|apply pw_below_drewN|apply below_drew1|refine below_set ?_ GE156.out|refine below_set ?_ GE158.out)|exact HB.out)⟩
     ·rw [if_neg c17] at H
      exact absurd H (by simp)
   ·rw [if_neg c6] at H
    exact absurd H (by simp)
  ·rw [if_neg c5] at H
   exact absurd H (by simp)
 ·rw [if_neg c4] at H
  have c4b0:((l1.length:Int)==3)=false:=beq_eq_false_iff_ne.mpr c4
  have c4b1:((l1.length:Int) != 3)=true:=bne_iff_ne.mpr c4
  by_cases c27:(l1.length:Int)=2
  ·rw [if_pos c27] at H
   have c27b0:((l1.length:Int)==2)=true:=beq_iff_eq.mpr c27
   have c27b1:((l1.length:Int) != 2)=false:=bne_eq_false_iff_eq.mpr c27
   clear c27
   by_cases c28:1 < (l1.length:Int)
   ·rw [if_pos c28] at H
    have c28b0:decide (1 < (l1.length:Int))=true:=decide_eq_true c28
    have c28b1:decide (1 < l1.length)=true:=decide_eq_true (by omega)
    clear c28
    by_cases c29:t157 < 0
    ·rw [if_pos c29] at H
     have c29b0:decide (t157 < 0)=true:=decide_eq_true c29
     clear c29
     simp only [Option.some.injEq,Prod.mk.injEq] at H
     obtain ⟨rfl,rfl,rfl,rfl,rfl⟩:=H
     go_enter Tryd.func17,Tryd.ntmps17
     go_wp2_with (first|((with_reducible refine gate_dst (N:=4) rfl ?_);refine box_event ?hg (N:=4) ?hd (cs:=#[.int .i64 0,.int .i64 0,.int .i64 0,.int .i64 0]) (t:=23) ?hr ?_;(case hd => rfl);(case hg => rfl);(case hr => first|(go_simp;done)|(go_simp;rfl));intro gb156 hg w30 hbox hb;have n0_:=Aside0.mk (below_step (by repeat (first|(with_reducible first|exact HB.out|apply below_alloc|apply pw_below_drewN|apply below_drew1)|exact HB.out)) hb);have n1_:=Aside0.mk (hbox);have n2_:=Aside0.mk ((by rw [hg];exact (below_size (by repeat (first|(with_reducible first|exact HB.out|apply below_alloc|apply pw_below_drewN|apply below_drew1)|exact HB.out))):w.heap.size≤gb156));have n3_:=Aside0.mk ((by rw [hg];exact (below_size (by repeat (first|(with_reducible first|exact HB.out|apply below_alloc|apply pw_below_drewN|apply below_drew1)|exact HB.out))):w.heap.size≤gb156));clear HB;have HB:=n0_;have BK156:=n1_;have GW156:=n2_;have GE156:=n3_;clear n0_ n1_ n2_ n3_;clear hb hbox hg)|((with_reducible refine gate_callee (f:=23) rfl ?_);refine goesL_ (some 8) rfl rfl Tryd.func23 (by kernel_rfl) rfl #[.string a0] rfl (by (try simp only [List.map_toArray,List.map_cons,List.map_nil]);first|done|rfl|(simp only [List.length_drop,List.length_take];rfl)) ?_;(with_reducible refine (script_kind.calls a0 t157 _ A3.out).mono ?_);rintro e w31 ⟨rfl,hb⟩;refine ⟨_,rfl,?_⟩;have n0_:=Aside0.mk (blk_below (g:=gb156) (o:=.cells #[.int .i64 0,.int .i64 0,.int .i64 0,.int .i64 0] 23 (0,0)) (by (with_reducible repeat (first|refine blk_drewN ?_ _|refine blk_drew ?_|refine blk_alloc ?_ _));exact BK156.out) hb);have n1_:=Aside0.mk (below_step (by repeat (first|(with_reducible first|exact HB.out|apply below_alloc|apply pw_below_drewN|apply below_drew1|refine below_set ?_ GE156.out)|exact HB.out)) hb);clear BK156;clear HB;have BK156:=n0_;have HB:=n1_;clear n0_ n1_;(try clear hb);(try clear hb2);(try clear hk);(try clear hi))|((with_reducible refine gate_dst (N:=6) rfl ?_);refine box_event ?hg (N:=6) ?hd (cs:=#[.int .i64 0,.int .i64 0,.int .i64 0,.int .i64 0]) (t:=23) ?hr ?_;(case hd => rfl);(case hg => rfl);(case hr => first|(go_simp;done)|(go_simp;rfl));intro gb158 hg w32 hbox hb;have n0_:=Aside0.mk (blk_below (g:=gb156) (o:=.cells #[.int .i64 0,.int .i64 0,.int .i64 0,.int .i64 0] 23 (0,0)) (by (with_reducible repeat (first|refine blk_drewN ?_ _|refine blk_drew ?_|refine blk_alloc ?_ _));exact BK156.out) hb);have n1_:=Aside0.mk (below_step (by repeat (first|(with_reducible first|exact HB.out|apply below_alloc|apply pw_below_drewN|apply below_drew1|refine below_set ?_ GE156.out)|exact HB.out)) hb);have n2_:=Aside0.mk (hbox);have n3_:=Aside0.mk ((by rw [hg];exact (below_size (by repeat (first|(with_reducible first|exact HB.out|apply below_alloc|apply pw_below_drewN|apply below_drew1|refine below_set ?_ GE156.out)|exact HB.out))):w.heap.size≤gb158));have n4_:=Aside0.mk ((by rw [hg];exact (below_size (by repeat (first|(with_reducible first|exact HB.out|apply below_alloc|apply pw_below_drewN|apply below_drew1|refine below_set ?_ GE156.out)|exact HB.out))):w.heap.size≤gb158));have n5_:=Aside0.mk ((by rw [hg];exact Nat.ne_of_lt (blk_lt (g:=gb156) (o:=.cells #[.int .i64 0,.int .i64 0,.int .i64 0,.int .i64 0] 23 (0,0)) (by (with_reducible repeat (first|refine blk_drewN ?_ _|refine blk_drew ?_|refine blk_alloc ?_ _));exact BK156.out)):gb156 ≠ gb158));have n6_:=Aside0.mk ((by rw [hg];exact Nat.ne_of_gt (blk_lt (g:=gb156) (o:=.cells #[.int .i64 0,.int .i64 0,.int .i64 0,.int .i64 0] 23 (0,0)) (by (with_reducible repeat (first|refine blk_drewN ?_ _|refine blk_drew ?_|refine blk_alloc ?_ _));exact BK156.out)):gb158 ≠ gb156));clear BK156;clear HB;have BK156:=n0_;have HB:=n1_;have BK158:=n2_;have GW158:=n3_;have GE158:=n4_;have NB156_158:=n5_;have NB158_156:=n6_;clear n0_ n1_ n2_ n3_ n4_ n5_ n6_;clear hb hbox hg;have hnb33:=NB158_156.out;have hnc33:=NB156_158.out;have hcz34_0:w32.cell? ⟨gb158,0,none⟩=some (.int .i64 0):=(blk_cell BK158.out 0).trans rfl;have hcz34_1:w32.cell? ⟨gb158,1,none⟩=some (.int .i64 0):=(blk_cell BK158.out 1).trans rfl;have hcz34_2:w32.cell? ⟨gb158,2,none⟩=some (.int .i64 0):=(blk_cell BK158.out 2).trans rfl;have hcz34_3:w32.cell? ⟨gb158,3,none⟩=some (.int .i64 0):=(blk_cell BK158.out 3).trans rfl;have hfz34_0:=blk_frozen BK158.out 0;have hfz34_1:=blk_frozen BK158.out 1;have hfz34_2:=blk_frozen BK158.out 2;have hfz34_3:=blk_frozen BK158.out 3;have p162:0≤(1:Int):=(by omega);have q162:1 < (l1.length:Int):=of_decide_eq_true (by first|(with_reducible assumption)|assumption);obtain ⟨ad162,e162,hx162_0⟩:=Kd.at_int HR1.out 1 p162 q162;cases e162;(try simp only [show (1:Int).toNat=1 from rfl,Nat.reduceMul,Nat.reduceEqDiff,Go.Addr.add,↓reduceIte] at hx162_0);have qi162:(1 < l1.length)=True:=eq_true (by omega);(try rw [show ((1:Int)).toNat=1 from rfl] at hx162_0);have hn162_0:ad162.block ≠ gb158:=Nat.ne_of_lt (Nat.lt_of_lt_of_le (by have:=World.block_lt_of_cell? _ _ hx162_0;first|rwa [add_block] at this|exact this) GW158.out);have hn162_1:ad162.block ≠ gb158:=Nat.ne_of_lt (Nat.lt_of_lt_of_le (by have:=World.block_lt_of_cell? _ _ hx162_0;first|rwa [add_block] at this|exact this) GW158.out);have hn162_2:ad162.block ≠ gb158:=Nat.ne_of_lt (Nat.lt_of_lt_of_le (by have:=World.block_lt_of_cell? _ _ hx162_0;first|rwa [add_block] at this|exact this) GW158.out);have hn162_3:ad162.block ≠ gb158:=Nat.ne_of_lt (Nat.lt_of_lt_of_le (by have:=World.block_lt_of_cell? _ _ hx162_0;first|rwa [add_block] at this|exact this) GW158.out);replace hx162_0:=(HB.out.cell (World.block_lt_of_cell? w _ hx162_0)).trans hx162_0;replace hx162_0:=(cell_far (p:=⟨gb158,0,none⟩) (by first|(rw [add_block];exact hn162_0)|(show (Addr.add _ _).block ≠ _;rw [add_block];exact hn162_0)|exact hn162_0) (.int .i64 t157)).trans hx162_0;replace hx162_0:=(cell_far (p:=⟨gb158,1,none⟩) (by first|(rw [add_block];exact hn162_1)|(show (Addr.add _ _).block ≠ _;rw [add_block];exact hn162_1)|exact hn162_1) (.int .i64 0)).trans hx162_0;replace hx162_0:=(cell_far (p:=⟨gb158,2,none⟩) (by first|(rw [add_block];exact hn162_2)|(show (Addr.add _ _).block ≠ _;rw [add_block];exact hn162_2)|exact hn162_2) (.int .i64 0)).trans hx162_0;replace hx162_0:=(cell_far (p:=⟨gb158,3,none⟩) (by first|(rw [add_block];exact hn162_3)|(show (Addr.add _ _).block ≠ _;rw [add_block];exact hn162_3)|exact hn162_3) (.int .i64 0)).trans hx162_0;clear hn162_0;clear hn162_1;clear hn162_2;clear hn162_3;replace p162:=eq_true p162;replace q162:=eq_true q162)|((with_reducible refine gate_store (t:=2) (p:=27) rfl ?_);refine store_event (t:=2) (p:=27) (v:=?vo_w35) (w1:=(((((w32.setCell ⟨gb158,0,none⟩ (.int .i64 t157)).setCell ⟨gb158,1,none⟩ (.int .i64 0)).setCell ⟨gb158,2,none⟩ (.int .i64 0)).setCell ⟨gb158,3,none⟩ (.int .i64 0)).setCell ⟨gb158,3,none⟩ (.int .i64 (rd l1 1)))) ?hg ?ho ?hn ?hr ?_;(case ho => rfl);(case hg => rfl);(case hn => rfl);(case hr => first|(go_simp;done)|(go_simp;rfl));intro w35 hw;have n0_:Aside0 (w35.heap[gb156]?=some (.cells #[.int .i64 0,.int .i64 0,.int .i64 0,.int .i64 0] 23 (0,0))):=⟨(by rw [hw];exact (by (with_reducible repeat (first|refine blk_drewN ?_ _|refine blk_drew ?_|refine blk_alloc ?_ _));refine blk_far ?_ NB156_158.out _;(with_reducible repeat (first|refine blk_drewN ?_ _|refine blk_drew ?_|refine blk_alloc ?_ _));refine blk_far ?_ NB156_158.out _;(with_reducible repeat (first|refine blk_drewN ?_ _|refine blk_drew ?_|refine blk_alloc ?_ _));refine blk_far ?_ NB156_158.out _;(with_reducible repeat (first|refine blk_drewN ?_ _|refine blk_drew ?_|refine blk_alloc ?_ _));refine blk_far ?_ NB156_158.out _;(with_reducible repeat (first|refine blk_drewN ?_ _|refine blk_drew ?_|refine blk_alloc ?_ _));refine blk_far ?_ NB156_158.out _;(with_reducible repeat (first|refine blk_drewN ?_ _|refine blk_drew ?_|refine blk_alloc ?_ _));exact BK156.out))⟩;have n1_:Aside0 (w35.heap[gb158]?=some (.cells #[.int .i64 t157,.int .i64 0,.int .i64 0,.int .i64 (rd l1 1)] 23 (0,0))):=⟨(by rw [hw];exact (by (with_reducible repeat (first|refine blk_drewN ?_ _|refine blk_drew ?_|refine blk_alloc ?_ _));refine blk_put (cs:=#[.int .i64 t157,.int .i64 0,.int .i64 0,.int .i64 0]) ?_ 3 _ rfl;(with_reducible repeat (first|refine blk_drewN ?_ _|refine blk_drew ?_|refine blk_alloc ?_ _));refine blk_put (cs:=#[.int .i64 t157,.int .i64 0,.int .i64 0,.int .i64 0]) ?_ 3 _ rfl;(with_reducible repeat (first|refine blk_drewN ?_ _|refine blk_drew ?_|refine blk_alloc ?_ _));refine blk_put (cs:=#[.int .i64 t157,.int .i64 0,.int .i64 0,.int .i64 0]) ?_ 2 _ rfl;(with_reducible repeat (first|refine blk_drewN ?_ _|refine blk_drew ?_|refine blk_alloc ?_ _));refine blk_put (cs:=#[.int .i64 t157,.int .i64 0,.int .i64 0,.int .i64 0]) ?_ 1 _ rfl;(with_reducible repeat (first|refine blk_drewN ?_ _|refine blk_drew ?_|refine blk_alloc ?_ _));refine blk_put (cs:=#[.int .i64 0,.int .i64 0,.int .i64 0,.int .i64 0]) ?_ 0 _ rfl;(with_reducible repeat (first|refine blk_drewN ?_ _|refine blk_drew ?_|refine blk_alloc ?_ _));exact BK158.out))⟩;have n2_:Aside0 (Below w.heap.size w w35):=⟨(by rw [hw];exact (by repeat (first|(with_reducible first|exact HB.out|apply below_alloc|apply pw_below_drewN|apply below_drew1|refine below_set ?_ GE156.out|refine below_set ?_ GE158.out)|exact HB.out)))⟩;clear hw;clear BK156;clear BK158;clear HB;have BK156:=n0_;have BK158:=n1_;have HB:=n2_;clear n0_ n1_ n2_;have hcz36_0:w35.cell? ⟨gb158,0,none⟩=some (.int .i64 t157):=(blk_cell BK158.out 0).trans rfl;have hcz36_1:w35.cell? ⟨gb158,1,none⟩=some (.int .i64 0):=(blk_cell BK158.out 1).trans rfl;have hcz36_2:w35.cell? ⟨gb158,2,none⟩=some (.int .i64 0):=(blk_cell BK158.out 2).trans rfl;have hcz36_3:w35.cell? ⟨gb158,3,none⟩=some (.int .i64 (rd l1 1)):=(blk_cell BK158.out 3).trans rfl;have hfz36_0:=blk_frozen BK158.out 0;have hfz36_1:=blk_frozen BK158.out 1;have hfz36_2:=blk_frozen BK158.out 2;have hfz36_3:=blk_frozen BK158.out 3;have hcz37_0:w35.cell? ⟨gb156,0,none⟩=some (.int .i64 0):=(blk_cell BK156.out 0).trans rfl;have hcz37_1:w35.cell? ⟨gb156,1,none⟩=some (.int .i64 0):=(blk_cell BK156.out 1).trans rfl;have hcz37_2:w35.cell? ⟨gb156,2,none⟩=some (.int .i64 0):=(blk_cell BK156.out 2).trans rfl;have hcz37_3:w35.cell? ⟨gb156,3,none⟩=some (.int .i64 0):=(blk_cell BK156.out 3).trans rfl;have hfz37_0:=blk_frozen BK156.out 0;have hfz37_1:=blk_frozen BK156.out 1;have hfz37_2:=blk_frozen BK156.out 2;have hfz37_3:=blk_frozen BK156.out 3))
     refine bodyPost_ret (results_ct rfl _ _ gb156 23 #[.int .i64 0,.int .i64 0,.int .i64 0,.int .i64 0] (0,0) _ rfl (by (with_reducible repeat (first|refine blk_drewN ?_ _|refine blk_drew ?_|refine blk_alloc ?_ _));refine blk_put (cs:=#[.int .i64 0,.int .i64 0,.int .i64 0,.int .i64 0]) ?_ 3 _ rfl;(with_reducible repeat (first|refine blk_drewN ?_ _|refine blk_drew ?_|refine blk_alloc ?_ _));refine blk_put (cs:=#[.int .i64 0,.int .i64 0,.int .i64 0,.int .i64 0]) ?_ 2 _ rfl;(with_reducible repeat (first|refine blk_drewN ?_ _|refine blk_drew ?_|refine blk_alloc ?_ _));refine blk_put (cs:=#[.int .i64 0,.int .i64 0,.int .i64 0,.int .i64 0]) ?_ 1 _ rfl;(with_reducible repeat (first|refine blk_drewN ?_ _|refine blk_drew ?_|refine blk_alloc ?_ _));refine blk_put (cs:=#[.int .i64 0,.int .i64 0,.int .i64 0,.int .i64 0]) ?_ 0 _ rfl;(with_reducible repeat (first|refine blk_drewN ?_ _|refine blk_drew ?_|refine blk_alloc ?_ _));exact BK156.out) Tryd.underlying23 rfl (by kernel_rfl)) rfl ?_
     exact ⟨by first|rfl|(simp [errW_none,errW_some] <;> rfl)|(simp [*,errW_none,errW_some] <;> rfl),by repeat (first|(with_reducible first|exact HB.out|apply below_alloc|apply pw_below_drewN|apply below_drew1|refine below_set ?_ GE156.out|refine below_set ?_ GE158.out)|exact HB.out)⟩
    ·rw [if_neg c29] at H
     have c29b0:decide (t157 < 0)=false:=decide_eq_false c29
     clear c29
     by_cases c38:0 < (l1.length:Int)
     ·rw [if_pos c38] at H
      have c38b0:decide (0 < (l1.length:Int))=true:=decide_eq_true c38
      have c38b1:decide (0 < l1.length)=true:=decide_eq_true (by omega)
      clear c38
      simp only [Option.some.injEq,Prod.mk.injEq] at H
      obtain ⟨rfl,rfl,rfl,rfl,rfl⟩:=H
      go_enter Tryd.func17,Tryd.ntmps17
      go_wp2_with (first|((with_reducible refine gate_dst (N:=4) rfl ?_);refine box_event ?hg (N:=4) ?hd (cs:=#[.int .i64 0,.int .i64 0,.int .i64 0,.int .i64 0]) (t:=23) ?hr ?_;(case hd => rfl);(case hg => rfl);(case hr => first|(go_simp;done)|(go_simp;rfl));intro gb156 hg w39 hbox hb;have n0_:=Aside0.mk (below_step (by repeat (first|(with_reducible first|exact HB.out|apply below_alloc|apply pw_below_drewN|apply below_drew1)|exact HB.out)) hb);have n1_:=Aside0.mk (hbox);have n2_:=Aside0.mk ((by rw [hg];exact (below_size (by repeat (first|(with_reducible first|exact HB.out|apply below_alloc|apply pw_below_drewN|apply below_drew1)|exact HB.out))):w.heap.size≤gb156));have n3_:=Aside0.mk ((by rw [hg];exact (below_size (by repeat (first|(with_reducible first|exact HB.out|apply below_alloc|apply pw_below_drewN|apply below_drew1)|exact HB.out))):w.heap.size≤gb156));clear HB;have HB:=n0_;have BK156:=n1_;have GW156:=n2_;have GE156:=n3_;clear n0_ n1_ n2_ n3_;clear hb hbox hg)|((with_reducible refine gate_callee (f:=23) rfl ?_);refine goesL_ (some 8) rfl rfl Tryd.func23 (by kernel_rfl) rfl #[.string a0] rfl (by (try simp only [List.map_toArray,List.map_cons,List.map_nil]);first|done|rfl|(simp only [List.length_drop,List.length_take];rfl)) ?_;(with_reducible refine (script_kind.calls a0 t157 _ A3.out).mono ?_);rintro e w40 ⟨rfl,hb⟩;refine ⟨_,rfl,?_⟩;have n0_:=Aside0.mk (blk_below (g:=gb156) (o:=.cells #[.int .i64 0,.int .i64 0,.int .i64 0,.int .i64 0] 23 (0,0)) (by (with_reducible repeat (first|refine blk_drewN ?_ _|refine blk_drew ?_|refine blk_alloc ?_ _));exact BK156.out) hb);have n1_:=Aside0.mk (below_step (by repeat (first|(with_reducible first|exact HB.out|apply below_alloc|apply pw_below_drewN|apply below_drew1|refine below_set ?_ GE156.out)|exact HB.out)) hb);clear BK156;clear HB;have BK156:=n0_;have HB:=n1_;clear n0_ n1_;(try clear hb);(try clear hb2);(try clear hk);(try clear hi))|((with_reducible refine gate_dst (N:=6) rfl ?_);refine box_event ?hg (N:=6) ?hd (cs:=#[.int .i64 0,.int .i64 0,.int .i64 0,.int .i64 0]) (t:=23) ?hr ?_;(case hd => rfl);(case hg => rfl);(case hr => first|(go_simp;done)|(go_simp;rfl));intro gb158 hg w41 hbox hb;have n0_:=Aside0.mk (blk_below (g:=gb156) (o:=.cells #[.int .i64 0,.int .i64 0,.int .i64 0,.int .i64 0] 23 (0,0)) (by (with_reducible repeat (first|refine blk_drewN ?_ _|refine blk_drew ?_|refine blk_alloc ?_ _));exact BK156.out) hb);have n1_:=Aside0.mk (below_step (by repeat (first|(with_reducible first|exact HB.out|apply below_alloc|apply pw_below_drewN|apply below_drew1|refine below_set ?_ GE156.out)|exact HB.out)) hb);have n2_:=Aside0.mk (hbox);have n3_:=Aside0.mk ((by rw [hg];exact (below_size (by repeat (first|(with_reducible first|exact HB.out|apply below_alloc|apply pw_below_drewN|apply below_drew1|refine below_set ?_ GE156.out)|exact HB.out))):w.heap.size≤gb158));have n4_:=Aside0.mk ((by rw [hg];exact (below_size (by repeat (first|(with_reducible first|exact HB.out|apply below_alloc|apply pw_below_drewN|apply below_drew1|refine below_set ?_ GE156.out)|exact HB.out))):w.heap.size≤gb158));have n5_:=Aside0.mk ((by rw [hg];exact Nat.ne_of_lt (blk_lt (g:=gb156) (o:=.cells #[.int .i64 0,.int .i64 0,.int .i64 0,.int .i64 0] 23 (0,0)) (by (with_reducible repeat (first|refine blk_drewN ?_ _|refine blk_drew ?_|refine blk_alloc ?_ _));exact BK156.out)):gb156 ≠ gb158));have n6_:=Aside0.mk ((by rw [hg];exact Nat.ne_of_gt (blk_lt (g:=gb156) (o:=.cells #[.int .i64 0,.int .i64 0,.int .i64 0,.int .i64 0] 23 (0,0)) (by (with_reducible repeat (first|refine blk_drewN ?_ _|refine blk_drew ?_|refine blk_alloc ?_ _));exact BK156.out)):gb158 ≠ gb156));clear BK156;clear HB;have BK156:=n0_;have HB:=n1_;have BK158:=n2_;have GW158:=n3_;have GE158:=n4_;have NB156_158:=n5_;have NB158_156:=n6_;clear n0_ n1_ n2_ n3_ n4_ n5_ n6_;clear hb hbox hg;have hnb42:=NB158_156.out;have hnc42:=NB156_158.out;have hcz43_0:w41.cell? ⟨gb158,0,none⟩=some (.int .i64 0):=(blk_cell BK158.out 0).trans rfl;have hcz43_1:w41.cell? ⟨gb158,1,none⟩=some (.int .i64 0):=(blk_cell BK158.out 1).trans rfl;have hcz43_2:w41.cell? ⟨gb158,2,none⟩=some (.int .i64 0):=(blk_cell BK158.out 2).trans rfl;have hcz43_3:w41.cell? ⟨gb158,3,none⟩=some (.int .i64 0):=(blk_cell BK158.out 3).trans rfl;have hfz43_0:=blk_frozen BK158.out 0;have hfz43_1:=blk_frozen BK158.out 1;have hfz43_2:=blk_frozen BK158.out 2;have hfz43_3:=blk_frozen BK158.out 3;have p162:0≤(1:Int):=(by omega);have q162:1 < (l1.length:Int):=of_decide_eq_true (by first|(with_reducible assumption)|assumption);obtain ⟨ad162,e162,hx162_0⟩:=Kd.at_int HR1.out 1 p162 q162;cases e162;(try simp only [show (1:Int).toNat=1 from rfl,Nat.reduceMul,Nat.reduceEqDiff,Go.Addr.add,↓reduceIte] at hx162_0);have qi162:(1 < l1.length)=True:=eq_true (by omega);(try rw [show ((1:Int)).toNat=1 from rfl] at hx162_0);have hn162_0:ad162.block ≠ gb158:=Nat.ne_of_lt (Nat.lt_of_lt_of_le (by have:=World.block_lt_of_cell? _ _ hx162_0;first|rwa [add_block] at this|exact this) GW158.out);have hn162_1:ad162.block ≠ gb158:=Nat.ne_of_lt (Nat.lt_of_lt_of_le (by have:=World.block_lt_of_cell? _ _ hx162_0;first|rwa [add_block] at this|exact this) GW158.out);have hn162_2:ad162.block ≠ gb158:=Nat.ne_of_lt (Nat.lt_of_lt_of_le (by have:=World.block_lt_of_cell? _ _ hx162_0;first|rwa [add_block] at this|exact this) GW158.out);have hn162_3:ad162.block ≠ gb158:=Nat.ne_of_lt (Nat.lt_of_lt_of_le (by have:=World.block_lt_of_cell? _ _ hx162_0;first|rwa [add_block] at this|exact this) GW158.out);replace hx162_0:=(HB.out.cell (World.block_lt_of_cell? w _ hx162_0)).trans hx162_0;replace hx162_0:=(cell_far (p:=⟨gb158,0,none⟩) (by first|(rw [add_block];exact hn162_0)|(show (Addr.add _ _).block ≠ _;rw [add_block];exact hn162_0)|exact hn162_0) (.int .i64 t157)).trans hx162_0;replace hx162_0:=(cell_far (p:=⟨gb158,1,none⟩) (by first|(rw [add_block];exact hn162_1)|(show (Addr.add _ _).block ≠ _;rw [add_block];exact hn162_1)|exact hn162_1) (.int .i64 0)).trans hx162_0;replace hx162_0:=(cell_far (p:=⟨gb158,2,none⟩) (by first|(rw [add_block];exact hn162_2)|(show (Addr.add _ _).block ≠ _;rw [add_block];exact hn162_2)|exact hn162_2) (.int .i64 0)).trans hx162_0;replace hx162_0:=(cell_far (p:=⟨gb158,3,none⟩) (by first|(rw [add_block];exact hn162_3)|(show (Addr.add _ _).block ≠ _;rw [add_block];exact hn162_3)|exact hn162_3) (.int .i64 0)).trans hx162_0;clear hn162_0;clear hn162_1;clear hn162_2;clear hn162_3;replace p162:=eq_true p162;replace q162:=eq_true q162)|((with_reducible refine gate_store (t:=2) (p:=27) rfl ?_);refine store_event (t:=2) (p:=27) (v:=?vo_w44) (w1:=(((((w41.setCell ⟨gb158,0,none⟩ (.int .i64 t157)).setCell ⟨gb158,1,none⟩ (.int .i64 0)).setCell ⟨gb158,2,none⟩ (.int .i64 0)).setCell ⟨gb158,3,none⟩ (.int .i64 0)).setCell ⟨gb158,3,none⟩ (.int .i64 (rd l1 1)))) ?hg ?ho ?hn ?hr ?_;(case ho => rfl);(case hg => rfl);(case hn => rfl);(case hr => first|(go_simp;done)|(go_simp;rfl));intro w44 hw;have n0_:Aside0 (w44.heap[gb156]?=some (.cells #[.int .i64 0,.int .i64 0,.int .i64 0,.int .i64 0] 23 (0,0))):=⟨(by rw [hw];exact (by (with_reducible repeat (first|refine blk_drewN ?_ _|refine blk_drew ?_|refine blk_alloc ?_ _));refine blk_far ?_ NB156_158.out _;(with_reducible repeat (first|refine blk_drewN ?_ _|refine blk_drew ?_|refine blk_alloc ?_ _));refine blk_far ?_ NB156_158.out _;(with_reducible repeat (first|refine blk_drewN ?_ _|refine blk_drew ?_|refine blk_alloc ?_ _));refine blk_far ?_ NB156_158.out _;(with_reducible repeat (first|refine blk_drewN ?_ _|refine blk_drew ?_|refine blk_alloc ?_ _));refine blk_far ?_ NB156_158.out _;(with_reducible repeat (first|refine blk_drewN ?_ _|refine blk_drew ?_|refine blk_alloc ?_ _));refine blk_far ?_ NB156_158.out _;(with_reducible repeat (first|refine blk_drewN ?_ _|refine blk_drew ?_|refine blk_alloc ?_ _));exact BK156.out))⟩;have n1_:Aside0 (w44.heap[gb158]?=some (.cells #[.int .i64 t157,.int .i64 0,.int .i64 0,.int .i64 (rd l1 1)] 23 (0,0))):=⟨(by rw [hw];exact (by (with_reducible repeat (first|refine blk_drewN ?_ _|refine blk_drew ?_|refine blk_alloc ?_ _));refine blk_put (cs:=#[.int .i64 t157,.int .i64 0,.int .i64 0,.int .i64 0]) ?_ 3 _ rfl;(with_reducible repeat (first|refine blk_drewN ?_ _|refine blk_drew ?_|refine blk_alloc ?_ _));refine blk_put (cs:=#[.int .i64 t157,.int .i64 0,.int .i64 0,.int .i64 0]) ?_ 3 _ rfl;(with_reducible repeat (first|refine blk_drewN ?_ _|refine blk_drew ?_|refine blk_alloc ?_ _));refine blk_put (cs:=#[.int .i64 t157,.int .i64 0,.int .i64 0,.int .i64 0]) ?_ 2 _ rfl;(with_reducible repeat (first|refine blk_drewN ?_ _|refine blk_drew ?_|refine blk_alloc ?_ _));refine blk_put (cs:=#[.int .i64 t157,.int .i64 0,.int .i64 0,.int .i64 0]) ?_ 1 _ rfl;(with_reducible repeat (first|refine blk_drewN ?_ _|refine blk_drew ?_|refine blk_alloc ?_ _));refine blk_put (cs:=#[.int .i64 0,.int .i64 0,.int .i64 0,.int .i64 0]) ?_ 0 _ rfl;(with_reducible repeat (first|refine blk_drewN ?_ _|refine blk_drew ?_|refine blk_alloc ?_ _));exact BK158.out))⟩;have n2_:Aside0 (Below w.heap.size w w44):=⟨(by rw [hw];exact (by repeat (first|(with_reducible first|exact HB.out|apply below_alloc|apply pw_below_drewN|apply below_drew1|refine below_set ?_ GE156.out|refine below_set ?_ GE158.out)|exact HB.out)))⟩;clear hw;clear BK156;clear BK158;clear HB;have BK156:=n0_;have BK158:=n1_;have HB:=n2_;clear n0_ n1_ n2_;have hcz45_0:w44.cell? ⟨gb158,0,none⟩=some (.int .i64 t157):=(blk_cell BK158.out 0).trans rfl;have hcz45_1:w44.cell? ⟨gb158,1,none⟩=some (.int .i64 0):=(blk_cell BK158.out 1).trans rfl;have hcz45_2:w44.cell? ⟨gb158,2,none⟩=some (.int .i64 0):=(blk_cell BK158.out 2).trans rfl;have hcz45_3:w44.cell? ⟨gb158,3,none⟩=some (.int .i64 (rd l1 1)):=(blk_cell BK158.out 3).trans rfl;have hfz45_0:=blk_frozen BK158.out 0;have hfz45_1:=blk_frozen BK158.out 1;have hfz45_2:=blk_frozen BK158.out 2;have hfz45_3:=blk_frozen BK158.out 3;have p163:0≤(0:Int):=(by omega);have q163:0 < (l1.length:Int):=of_decide_eq_true (by first|(with_reducible assumption)|assumption);obtain ⟨ad163,e163,hx163_0⟩:=Kd.at_int HR1.out 0 p163 q163;obtain rfl:ad162=ad163:=(by injection e163);have qi163:(0 < l1.length)=True:=eq_true (by omega);(try rw [show ((0:Int)).toNat=0 from rfl] at hx163_0);(try rw [Addr.add_zero'] at hx163_0);replace hx163_0:=(HB.out.cell (World.block_lt_of_cell? w _ hx163_0)).trans hx163_0;replace p163:=eq_true p163;replace q163:=eq_true q163;have hcz46_0:w44.cell? ⟨gb156,0,none⟩=some (.int .i64 0):=(blk_cell BK156.out 0).trans rfl;have hcz46_1:w44.cell? ⟨gb156,1,none⟩=some (.int .i64 0):=(blk_cell BK156.out 1).trans rfl;have hcz46_2:w44.cell? ⟨gb156,2,none⟩=some (.int .i64 0):=(blk_cell BK156.out 2).trans rfl;have hcz46_3:w44.cell? ⟨gb156,3,none⟩=some (.int .i64 0):=(blk_cell BK156.out 3).trans rfl;have hfz46_0:=blk_frozen BK156.out 0;have hfz46_1:=blk_frozen BK156.out 1;have hfz46_2:=blk_frozen BK156.out 2;have hfz46_3:=blk_frozen BK156.out 3)|((with_reducible refine gate_store (t:=23) (p:=4) rfl ?_);refine store_event (t:=23) (p:=4) (v:=?vo_w47) (w1:=(((((w44.setCell ⟨gb158,1,none⟩ (.int .i64 (rd l1 0))).setCell ⟨gb156,0,none⟩ (.int .i64 t157)).setCell ⟨gb156,1,none⟩ (.int .i64 (rd l1 0))).setCell ⟨gb156,2,none⟩ (.int .i64 0)).setCell ⟨gb156,3,none⟩ (.int .i64 (rd l1 1)))) ?hg ?ho ?hn ?hr ?_;(case ho => rfl);(case hg => rfl);(case hn => rfl);(case hr => first|(go_simp;done)|(go_simp;rfl));intro w47 hw;have n0_:Aside0 (w47.heap[gb156]?=some (.cells #[.int .i64 t157,.int .i64 (rd l1 0),.int .i64 0,.int .i64 (rd l1 1)] 23 (0,0))):=⟨(by rw [hw];exact (by (with_reducible repeat (first|refine blk_drewN ?_ _|refine blk_drew ?_|refine blk_alloc ?_ _));refine blk_put (cs:=#[.int .i64 t157,.int .i64 (rd l1 0),.int .i64 0,.int .i64 0]) ?_ 3 _ rfl;(with_reducible repeat (first|refine blk_drewN ?_ _|refine blk_drew ?_|refine blk_alloc ?_ _));refine blk_put (cs:=#[.int .i64 t157,.int .i64 (rd l1 0),.int .i64 0,.int .i64 0]) ?_ 2 _ rfl;(with_reducible repeat (first|refine blk_drewN ?_ _|refine blk_drew ?_|refine blk_alloc ?_ _));refine blk_put (cs:=#[.int .i64 t157,.int .i64 0,.int .i64 0,.int .i64 0]) ?_ 1 _ rfl;(with_reducible repeat (first|refine blk_drewN ?_ _|refine blk_drew ?_|refine blk_alloc ?_ _));refine blk_put (cs:=#[.int .i64 0,.int .i64 0,.int .i64 0,.int .i64 0]) ?_ 0 _ rfl;(with_reducible repeat (first|refine blk_drewN ?_ _|refine blk_drew ?_|refine blk_alloc ?_ _));refine blk_far ?_ NB156_158.out _;(with_reducible repeat (first|refine blk_drewN ?_ _|refine blk_drew ?_|refine blk_alloc ?_ _));exact BK156.out))⟩;have n1_:Aside0 (w47.heap[gb158]?=some (.cells #[.int .i64 t157,.int .i64 (rd l1 0),.int .i64 0,.int .i64 (rd l1 1)] 23 (0,0))):=⟨(by rw [hw];exact (by (with_reducible repeat (first|refine blk_drewN ?_ _|refine blk_drew ?_|refine blk_alloc ?_ _));refine blk_far ?_ NB158_156.out _;(with_reducible repeat (first|refine blk_drewN ?_ _|refine blk_drew ?_|refine blk_alloc ?_ _));refine blk_far ?_ NB158_156.out _;(with_reducible repeat (first|refine blk_drewN ?_ _|refine blk_drew ?_|refine blk_alloc ?_ _));refine blk_far ?_ NB158_156.out _;(with_reducible repeat (first|refine blk_drewN ?_ _|refine blk_drew ?_|refine blk_alloc ?_ _));refine blk_far ?_ NB158_156.out _;(with_reducible repeat (first|refine blk_drewN ?_ _|refine blk_drew ?_|refine blk_alloc ?_ _));refine blk_put (cs:=#[.int .i64 t157,.int .i64 0,.int .i64 0,.int .i64 (rd l1 1)]) ?_ 1 _ rfl;(with_reducible repeat (first|refine blk_drewN ?_ _|refine blk_drew ?_|refine blk_alloc ?_ _));exact BK158.out))⟩;have n2_:Aside0 (Below w.heap.size w w47):=⟨(by rw [hw];exact (by repeat (first|(with_reducible first|exact HB.out|apply below_alloc|apply pw_below_drewN|apply below_drew1|refine below_set ?_ GE156.out|refine below_set ?_ GE158.out)|exact HB.out)))⟩;clear hw;clear BK156;clear BK158;clear HB;have BK156:=n0_;have BK158:=n1_;have HB:=n2_;clear n0_ n1_ n2_))
      refine bodyPost_ret (results_ct rfl _ _ gb156 23 #[.int .i64 t157,.int .i64 (rd l1 0),.int .i64 0,.int .i64 (rd l1 1)] (0,0) _ rfl (by (with_reducible repeat (first|refine blk_drewN ?_ _|refine blk_drew ?_|refine blk_alloc ?_ _));exact BK156.out) Tryd.underlying23 rfl (by kernel_rfl)) rfl ?_
      exact ⟨by first|rfl|(simp [errW_none,errW_some] <;> rfl)|(simp [*,errW_none,errW_some] <;> rfl),by repeat (first|(with_reducible first|exact HB.out|apply below_alloc|apply pw_below_drewN|apply below_drew1|refine below_set ?_ GE156.out|refine below_set ?_ GE158.out)|exact HB.out)⟩
     ·rw [if_neg c38] at H
      exact absurd H (by simp)
   ·rw [if_neg c28] at H
    exact absurd H (by simp)
  ·rw [if_neg c27] at H
   have c27b0:((l1.length:Int)==2)=false:=beq_eq_false_iff_ne.mpr c27
   have c27b1:((l1.length:Int) != 2)=true:=bne_iff_ne.mpr c27
   by_cases c48:t157 < 0
   ·rw [if_pos c48] at H
    have c48b0:decide (t157 < 0)=true:=decide_eq_true c48
    clear c48
    simp only [Option.some.injEq,Prod.mk.injEq] at H
    obtain ⟨rfl,rfl,rfl,rfl,rfl⟩:=H
    go_enter Tryd.func17,Tryd.ntmps17
    go_wp2_with (first|((with_reducible refine gate_dst (N:=4) rfl ?_);refine box_event ?hg (N:=4) ?hd (cs:=#[.int .i64 0,.int .i64 0,.int .i64 0,.int .i64 0]) (t:=23) ?hr ?_;(case hd => rfl);(case hg => rfl);(case hr => first|(go_simp;done)|(go_simp;rfl));intro gb156 hg w49 hbox hb;have n0_:=Aside0.mk (below_step (by repeat (first|(with_reducible first|exact HB.out|apply below_alloc|apply pw_below_drewN|apply below_drew1)|exact HB.out)) hb);have n1_:=Aside0.mk (hbox);have n2_:=Aside0.mk ((by rw [hg];exact (below_size (by repeat (first|(with_reducible first|exact HB.out|apply below_alloc|apply pw_below_drewN|apply below_drew1)|exact HB.out))):w.heap.size≤gb156));have n3_:=Aside0.mk ((by rw [hg];exact (below_size (by repeat (first|(with_reducible first|exact HB.out|apply below_alloc|apply pw_below_drewN|apply below_drew1)|exact HB.out))):w.heap.size≤gb156));clear HB;have HB:=n0_;have BK156:=n1_;have GW156:=n2_;have GE156:=n3_;clear n0_ n1_ n2_ n3_;clear hb hbox hg)|((with_reducible refine gate_callee (f:=23) rfl ?_);refine goesL_ (some 8) rfl rfl Tryd.func23 (by kernel_rfl) rfl #[.string a0] rfl (by (try simp only [List.map_toArray,List.map_cons,List.map_nil]);first|done|rfl|(simp only [List.length_drop,List.length_take];rfl)) ?_;(with_reducible refine (script_kind.calls a0 t157 _ A3.out).mono ?_);rintro e w50 ⟨rfl,hb⟩;refine ⟨_,rfl,?_⟩;have n0_:=Aside0.mk (blk_below (g:=gb156) (o:=.cells #[.int .i64 0,.int .i64 0,.int .i64 0,.int .i64 0] 23 (0,0)) (by (with_reducible repeat (first|refine blk_drewN ?_ _|refine blk_drew ?_|refine blk_alloc ?_ _));exact BK156.out) hb);have n1_:=Aside0.mk (below_step (by repeat (first|(with_reducible first|exact HB.out|apply below_alloc|apply pw_below_drewN|apply below_drew1|refine below_set ?_ GE156.out)|exact HB.out)) hb);clear BK156;clear HB;have BK156:=n0_;have HB:=n1_;clear n0_ n1_;(try clear hb);(try clear hb2);(try clear hk);(try clear hi))|((with_reducible refine gate_dst (N:=6) rfl ?_);refine box_event ?hg (N:=6) ?hd (cs:=#[.int .i64 0,.int .i64 0,.int .i64 0,.int .i64 0]) (t:=23) ?hr ?_;(case hd => rfl);(case hg => rfl);(case hr => first|(go_simp;done)|(go_simp;rfl));intro gb158 hg w51 hbox hb;have n0_:=Aside0.mk (blk_below (g:=gb156) (o:=.cells #[.int .i64 0,.int .i64 0,.int .i64 0,.int .i64 0] 23 (0,0)) (by (with_reducible repeat (first|refine blk_drewN ?_ _|refine blk_drew ?_|refine blk_alloc ?_ _));exact BK156.out) hb);have n1_:=Aside0.mk (below_step (by repeat (first|(with_reducible first|exact HB.out|apply below_alloc|apply pw_below_drewN|apply below_drew1|refine below_set ?_ GE156.out)|exact HB.out)) hb);have n2_:=Aside0.mk (hbox);have n3_:=Aside0.mk ((by rw [hg];exact (below_size (by repeat (first|(with_reducible first|exact HB.out|apply below_alloc|apply pw_below_drewN|apply below_drew1|refine below_set ?_ GE156.out)|exact HB.out))):w.heap.size≤gb158));have n4_:=Aside0.mk ((by rw [hg];exact (below_size (by repeat (first|(with_reducible first|exact HB.out|apply below_alloc|apply pw_below_drewN|apply below_drew1|refine below_set ?_ GE156.out)|exact HB.out))):w.heap.size≤gb158));have n5_:=Aside0.mk ((by rw [hg];exact Nat.ne_of_lt (blk_lt (g:=gb156) (o:=.cells #[.int .i64 0,.int .i64 0,.int .i64 0,.int .i64 0] 23 (0,0)) (by (with_reducible repeat (first|refine blk_drewN ?_ _|refine blk_drew ?_|refine blk_alloc ?_ _));exact BK156.out)):gb156 ≠ gb158));have n6_:=Aside0.mk ((by rw [hg];exact Nat.ne_of_gt (blk_lt (g:=gb156) (o:=.cells #[.int .i64 0,.int .i64 0,.int .i64 0,.int .i64 0] 23 (0,0)) (by (with_reducible repeat (first|refine blk_drewN ?_ _|refine blk_drew ?_|refine blk_alloc ?_ _));exact BK156.out)):gb158 ≠ gb156));clear BK156;clear HB;have BK156:=n0_;have HB:=n1_;have BK158:=n2_;have GW158:=n3_;have GE158:=n4_;have NB156_158:=n5_;have NB158_156:=n6_;clear n0_ n1_ n2_ n3_ n4_ n5_ n6_;clear hb hbox hg;have hnb52:=NB158_156.out;have hnc52:=NB156_158.out;have hcz53_0:w51.cell? ⟨gb158,0,none⟩=some (.int .i64 0):=(blk_cell BK158.out 0).trans rfl;have hcz53_1:w51.cell? ⟨gb158,1,none⟩=some (.int .i64 0):=(blk_cell BK158.out 1).trans rfl;have hcz53_2:w51.cell? ⟨gb158,2,none⟩=some (.int .i64 0):=(blk_cell BK158.out 2).trans rfl;have hcz53_3:w51.cell? ⟨gb158,3,none⟩=some (.int .i64 0):=(blk_cell BK158.out 3).trans rfl;have hfz53_0:=blk_frozen BK158.out 0;have hfz53_1:=blk_frozen BK158.out 1;have hfz53_2:=blk_frozen BK158.out 2;have hfz53_3:=blk_frozen BK158.out 3;have hcz54_0:w51.cell? ⟨gb156,0,none⟩=some (.int .i64 0):=(blk_cell BK156.out 0).trans rfl;have hcz54_1:w51.cell? ⟨gb156,1,none⟩=some (.int .i64 0):=(blk_cell BK156.out 1).trans rfl;have hcz54_2:w51.cell? ⟨gb156,2,none⟩=some (.int .i64 0):=(blk_cell BK156.out 2).trans rfl;have hcz54_3:w51.cell? ⟨gb156,3,none⟩=some (.int .i64 0):=(blk_cell BK156.out 3).trans rfl;have hfz54_0:=blk_frozen BK156.out 0;have hfz54_1:=blk_frozen BK156.out 1;have hfz54_2:=blk_frozen BK156.out 2;have hfz54_3:=blk_frozen BK156.out 3)|((with_reducible refine gate_store (t:=23) (p:=4) rfl ?_);refine store_event (t:=23) (p:=4) (v:=?vo_w55) (w1:=((((((((w51.setCell ⟨gb158,0,none⟩ (.int .i64 t157)).setCell ⟨gb158,1,none⟩ (.int .i64 0)).setCell ⟨gb158,2,none⟩ (.int .i64 0)).setCell ⟨gb158,3,none⟩ (.int .i64 0)).setCell ⟨gb156,0,none⟩ (.int .i64 0)).setCell ⟨gb156,1,none⟩ (.int .i64 0)).setCell ⟨gb156,2,none⟩ (.int .i64 0)).setCell ⟨gb156,3,none⟩ (.int .i64 0))) ?hg ?ho ?hn ?hr ?_;(case ho => rfl);(case hg => rfl);(case hn => rfl);(case hr => first|(go_simp;done)|(go_simp;rfl));intro w55 hw;have n0_:Aside0 (w55.heap[gb156]?=some (.cells #[.int .i64 0,.int .i64 0,.int .i64 0,.int .i64 0] 23 (0,0))):=⟨(by rw [hw];exact (by (with_reducible repeat (first|refine blk_drewN ?_ _|refine blk_drew ?_|refine blk_alloc ?_ _));refine blk_put (cs:=#[.int .i64 0,.int .i64 0,.int .i64 0,.int .i64 0]) ?_ 3 _ rfl;(with_reducible repeat (first|refine blk_drewN ?_ _|refine blk_drew ?_|refine blk_alloc ?_ _));refine blk_put (cs:=#[.int .i64 0,.int .i64 0,.int .i64 0,.int .i64 0]) ?_ 2 _ rfl;(with_reducible repeat (first|refine blk_drewN ?_ _|refine blk_drew ?_|refine blk_alloc ?_ _));refine blk_put (cs:=#[.int .i64 0,.int .i64 0,.int .i64 0,.int .i64 0]) ?_ 1 _ rfl;(with_reducible repeat (first|refine blk_drewN ?_ _|refine blk_drew ?_|refine blk_alloc ?_ _));refine blk_put (cs:=#[.int .i64 0,.int .i64 0,.int .i64 0,.int .i64 0]) ?_ 0 _ rfl;(with_reducible repeat (first|refine blk_drewN ?_ _|refine blk_drew ?_|refine blk_alloc ?_ _));refine blk_far ?_ NB156_158.out _;(with_reducible repeat (first|refine blk_drewN ?_ _|refine blk_drew ?_|refine blk_alloc ?_ _));refine blk_far ?_ NB156_158.out _;(with_reducible repeat (first|refine blk_drewN ?_ _|refine blk_drew ?_|refine blk_alloc ?_ _));refine blk_far ?_ NB156_158.out _;(with_reducible repeat (first|refine blk_drewN ?_ _|refine blk_drew ?_|refine blk_alloc ?_ _));refine blk_far ?_ NB156_158.out _;(with_reducible repeat (first|refine blk_drewN ?_ _|refine blk_drew ?_|refine blk_alloc ?_ _));exact BK156.out))⟩;have n1_:Aside0 (w55.heap[gb158]?=some (.cells #[.int .i64 t157,.int .i64 0,.int .i64 0,.int .i64 0] 23 (0,0))):=⟨(by rw [hw];exact (by (with_reducible repeat (first|refine blk_drewN ?_ _|refine blk_drew ?_|refine blk_alloc ?_ _));refine blk_far ?_ NB158_156.out _;(with_reducible repeat (first|refine blk_drewN ?_ _|refine blk_drew ?_|refine blk_alloc ?_ _));refine blk_far ?_ NB158_156.out _;(with_reducible repeat (first|refine blk_drewN ?_ _|refine blk_drew ?_|refine blk_alloc ?_ _));refine blk_far ?_ NB158_156.out _;(with_reducible repeat (first|refine blk_drewN ?_ _|refine blk_drew ?_|refine blk_alloc ?_ _));refine blk_far ?_ NB158_156.out _;(with_reducible repeat (first|refine blk_drewN ?_ _|refine blk_drew ?_|refine blk_alloc ?_ _));refine blk_put (cs:=#[.int .i64 t157,.int .i64 0,.int .i64 0,.int .i64 0]) ?_ 3 _ rfl;(with_reducible repeat (first|refine blk_drewN ?_ _|refine blk_drew ?_|refine blk_alloc ?_ _));refine blk_put (cs:=#[.int .i64 t157,.int .i64 0,.int .i64 0,.int .i64 0]) ?_ 2 _ rfl;(with_reducible repeat (first|refine blk_drewN ?_ _|refine blk_drew ?_|refine blk_alloc ?_ _));refine blk_put (cs:=#[.int .i64 t157,.int .i64 0,.int .i64 0,.int .i64 0]) ?_ 1 _ rfl;(with_reducible repeat (first|refine blk_drewN ?_ _|refine blk_drew ?_|refine blk_alloc ?_ _));refine blk_put (cs:=#[.int .i64 0,.int .i64 0,.int .i64 0,.int .i64 0]) ?_ 0 _ rfl;(with_reducible repeat (first|refine blk_drewN ?_ _|refine blk_drew ?_|refine blk_alloc ?_ _));exact BK158.out))⟩;have n2_:Aside0 (Below w.heap.size w w55):=⟨(by rw [hw];exact (by repeat (first|(with_reducible first|exact HB.out|apply below_alloc|apply pw_below_drewN|apply below_drew1|refine below_set ?_ GE156.out|refine below_set ?_ GE158.out)|exact HB.out)))⟩;clear hw;clear BK156;clear BK158;clear HB;have BK156:=n0_;have BK158:=n1_;have HB:=n2_;clear n0_ n1_ n2_))
    refine bodyPost_ret (results_ct rfl _ _ gb156 23 #[.int .i64 0,.int .i64 0,.int .i64 0,.int .i64 0] (0,0) _ rfl (by (with_reducible repeat (first|refine blk_drewN ?_ _|refine blk_drew ?_|refine blk_alloc ?_ _));exact BK156.out) Tryd.underlying23 rfl (by kernel_rfl)) rfl ?_
    exact ⟨by first|rfl|(simp [errW_none,errW_some] <;> rfl)|(simp [*,errW_none,errW_some] <;> rfl),by repeat (first|(with_reducible first|exact HB.out|apply below_alloc|apply pw_below_drewN|apply below_drew1|refine below_set ?_ GE156.out|refine below_set ?_ GE158.out)|exact HB.out)⟩
   ·rw [if_neg c48] at H
    have c48b0:decide (t157 < 0)=false:=decide_eq_false c48
    clear c48
    by_cases c56:0 < (l1.length:Int)
    ·rw [if_pos c56] at H
     have c56b0:decide (0 < (l1.length:Int))=true:=decide_eq_true c56
     have c56b1:decide (0 < l1.length)=true:=decide_eq_true (by omega)
     clear c56
     simp only [Option.some.injEq,Prod.mk.injEq] at H
     obtain ⟨rfl,rfl,rfl,rfl,rfl⟩:=H
     go_enter Tryd.func17,Tryd.ntmps17
     go_wp2_with (first|((with_reducible refine gate_dst (N:=4) rfl ?_);refine box_event ?hg (N:=4) ?hd (cs:=#[.int .i64 0,.int .i64 0,.int .i64 0,.int .i64 0]) (t:=23) ?hr ?_;(case hd => rfl);(case hg => rfl);(case hr => first|(go_simp;done)|(go_simp;rfl));intro gb156 hg w57 hbox hb;have n0_:=Aside0.mk (below_step (by repeat (first|(with_reducible first|exact HB.out|apply below_alloc|apply pw_below_drewN|apply below_drew1)|exact HB.out)) hb);have n1_:=Aside0.mk (hbox);have n2_:=Aside0.mk ((by rw [hg];exact (below_size (by repeat (first|(with_reducible first|exact HB.out|apply below_alloc|apply pw_below_drewN|apply below_drew1)|exact HB.out))):w.heap.size≤gb156));have n3_:=Aside0.mk ((by rw [hg];exact (below_size (by repeat (first|(with_reducible first|exact HB.out|apply below_alloc|apply pw_below_drewN|apply below_drew1)|exact HB.out))):w.heap.size≤gb156));clear HB;have HB:=n0_;have BK156:=n1_;have GW156:=n2_;have GE156:=n3_;clear n0_ n1_ n2_ n3_;clear hb hbox hg)|((with_reducible refine gate_callee (f:=23) rfl ?_);refine goesL_ (some 8) rfl rfl Tryd.func23 (by kernel_rfl) rfl #[.string a0] rfl (by (try simp only [List.map_toArray,List.map_cons,List.map_nil]);first|done|rfl|(simp only [List.length_drop,List.length_take];rfl)) ?_;(with_reducible refine (script_kind.calls a0 t157 _ A3.out).mono ?_);rintro e w58 ⟨rfl,hb⟩;refine ⟨_,rfl,?_⟩;have n0_:=Aside0.mk (blk_below (g:=gb156) (o:=.cells #[.int .i64 0,.int .i64 0,.int .i64 0,.int .i64 0] 23 (0,0)) (by (with_reducible repeat (first|refine blk_drewN ?_ _|refine blk_drew ?_|refine blk_alloc ?_ _));exact BK156.out) hb);have n1_:=Aside0.mk (below_step (by repeat (first|(with_reducible first|exact HB.out|apply below_alloc|apply pw_below_drewN|apply below_drew1|refine below_set ?_ GE156.out)|exact HB.out)) hb);clear BK156;clear HB;have BK156:=n0_;have HB:=n1_;clear n0_ n1_;(try clear hb);(try clear hb2);(try clear hk);(try clear hi))|((with_reducible refine gate_dst (N:=6) rfl ?_);refine box_event ?hg (N:=6) ?hd (cs:=#[.int .i64 0,.int .i64 0,.int .i64 0,.int .i64 0]) (t:=23) ?hr ?_;(case hd => rfl);(case hg => rfl);(case hr => first|(go_simp;done)|(go_simp;rfl));intro gb158 hg w59 hbox hb;have n0_:=Aside0.mk (blk_below (g:=gb156) (o:=.cells #[.int .i64 0,.int .i64 0,.int .i64 0,.int .i64 0] 23 (0,0)) (by (with_reducible repeat (first|refine blk_drewN ?_ _|refine blk_drew ?_|refine blk_alloc ?_ _));exact BK156.out) hb);have n1_:=Aside0.mk (below_step (by repeat (first|(with_reducible first|exact HB.out|apply below_alloc|apply pw_below_drewN|apply below_drew1|refine below_set ?_ GE156.out)|exact HB.out)) hb);have n2_:=Aside0.mk (hbox);have n3_:=Aside0.mk ((by rw [hg];exact (below_size (by repeat (first|(with_reducible first|exact HB.out|apply below_alloc|apply pw_below_drewN|apply below_drew1|refine below_set ?_ GE156.out)|exact HB.out))):w.heap.size≤gb158));have n4_:=Aside0.mk ((by rw [hg];exact (below_size (by repeat (first|(with_reducible first|exact HB.out|apply below_alloc|apply pw_below_drewN|apply below_drew1|refine below_set ?_ GE156.out)|exact HB.out))):w.heap.size≤gb158));have n5_:=Aside0.mk ((by rw [hg];exact Nat.ne_of_lt (blk_lt (g:=gb156) (o:=.cells #[.int .i64 0,.int .i64 0,.int .i64 0,.int .i64 0] 23 (0,0)) (by (with_reducible repeat (first|refine blk_drewN ?_ _|refine blk_drew ?_|refine blk_alloc ?_ _));exact BK156.out)):gb156 ≠ gb158));have n6_:=Aside0.mk ((by rw [hg];exact Nat.ne_of_gt (blk_lt (g:=gb156) (o:=.cells #[.int .i64 0,.int .i64 0,.int .i64 0,.int .i64 0] 23 (0,0)) (by (with_reducible repeat (first|refine blk_drewN ?_ _|refine blk_drew ?_|refine blk_alloc ?_ _));exact BK156.out)):gb158 ≠ gb156));clear BK156;clear HB;have BK156:=n0_;have HB:=n1_;have BK158:=n2_;have GW158:=n3_;have GE158:=n4_;have NB156_158:=n5_;have NB158_156:=n6_;clear n0_ n1_ n2_ n3_ n4_ n5_ n6_;clear hb hbox hg;have hnb60:=NB158_156.out;have hnc60:=NB156_158.out;have hcz61_0:w59.cell? ⟨gb158,0,none⟩=some (.int .i64 0):=(blk_cell BK158.out 0).trans rfl;have hcz61_1:w59.cell? ⟨gb158,1,none⟩=some (.int .i64 0):=(blk_cell BK158.out 1).trans rfl;have hcz61_2:w59.cell? ⟨gb158,2,none⟩=some (.int .i64 0):=(blk_cell BK158.out 2).trans rfl;have hcz61_3:w59.cell? ⟨gb158,3,none⟩=some (.int .i64 0):=(blk_cell BK158.out 3).trans rfl;have hfz61_0:=blk_frozen BK158.out 0;have hfz61_1:=blk_frozen BK158.out 1;have hfz61_2:=blk_frozen BK158.out 2;have hfz61_3:=blk_frozen BK158.out 3;have p164:0≤(0:Int):=(by omega);have q164:0 < (l1.length:Int):=of_decide_eq_true (by first|(with_reducible assumption)|assumption);obtain ⟨ad164,e164,hx164_0⟩:=Kd.at_int HR1.out 0 p164 q164;cases e164;have qi164:(0 < l1.length)=True:=eq_true (by omega);(try rw [show ((0:Int)).toNat=0 from rfl] at hx164_0);(try rw [Addr.add_zero'] at hx164_0);have hn164_0:ad164.block ≠ gb158:=Nat.ne_of_lt (Nat.lt_of_lt_of_le (by have:=World.block_lt_of_cell? _ _ hx164_0;first|rwa [add_block] at this|exact this) GW158.out);have hn164_1:ad164.block ≠ gb158:=Nat.ne_of_lt (Nat.lt_of_lt_of_le (by have:=World.block_lt_of_cell? _ _ hx164_0;first|rwa [add_block] at this|exact this) GW158.out);have hn164_2:ad164.block ≠ gb158:=Nat.ne_of_lt (Nat.lt_of_lt_of_le (by have:=World.block_lt_of_cell? _ _ hx164_0;first|rwa [add_block] at this|exact this) GW158.out);have hn164_3:ad164.block ≠ gb158:=Nat.ne_of_lt (Nat.lt_of_lt_of_le (by have:=World.block_lt_of_cell? _ _ hx164_0;first|rwa [add_block] at this|exact this) GW158.out);replace hx164_0:=(HB.out.cell (World.block_lt_of_cell? w _ hx164_0)).trans hx164_0;replace hx164_0:=(cell_far (p:=⟨gb158,0,none⟩) (by first|(rw [add_block];exact hn164_0)|(show (Addr.add _ _).block ≠ _;rw [add_block];exact hn164_0)|exact hn164_0) (.int .i64 t157)).trans hx164_0;replace hx164_0:=(cell_far (p:=⟨gb158,1,none⟩) (by first|(rw [add_block];exact hn164_1)|(show (Addr.add _ _).block ≠ _;rw [add_block];exact hn164_1)|exact hn164_1) (.int .i64 0)).trans hx164_0;replace hx164_0:=(cell_far (p:=⟨gb158,2,none⟩) (by first|(rw [add_block];exact hn164_2)|(show (Addr.add _ _).block ≠ _;rw [add_block];exact hn164_2)|exact hn164_2) (.int .i64 0)).trans hx164_0;replace hx164_0:=(cell_far (p:=⟨gb158,3,none⟩) (by first|(rw [add_block];exact hn164_3)|(show (Addr.add _ _).block ≠ _;rw [add_block];exact hn164_3)|exact hn164_3) (.int .i64 0)).trans hx164_0;clear hn164_0;clear hn164_1;clear hn164_2;clear hn164_3;replace p164:=eq_true p164;replace q164:=eq_true q164)|((with_reducible refine gate_store (t:=3) (p:=35) rfl ?_);refine store_event (t:=3) (p:=35) (v:=?vo_w62) (w1:=(((((w59.setCell ⟨gb158,0,none⟩ (.int .i64 t157)).setCell ⟨gb158,1,none⟩ (.int .i64 0)).setCell ⟨gb158,2,none⟩ (.int .i64 0)).setCell ⟨gb158,3,none⟩ (.int .i64 0)).setCell ⟨gb158,1,none⟩ (.int .i64 (rd l1 0)))) ?hg ?ho ?hn ?hr ?_;(case ho => rfl);(case hg => rfl);(case hn => rfl);(case hr => first|(go_simp;done)|(go_simp;rfl));intro w62 hw;have n0_:Aside0 (w62.heap[gb156]?=some (.cells #[.int .i64 0,.int .i64 0,.int .i64 0,.int .i64 0] 23 (0,0))):=⟨(by rw [hw];exact (by (with_reducible repeat (first|refine blk_drewN ?_ _|refine blk_drew ?_|refine blk_alloc ?_ _));refine blk_far ?_ NB156_158.out _;(with_reducible repeat (first|refine blk_drewN ?_ _|refine blk_drew ?_|refine blk_alloc ?_ _));refine blk_far ?_ NB156_158.out _;(with_reducible repeat (first|refine blk_drewN ?_ _|refine blk_drew ?_|refine blk_alloc ?_ _));refine blk_far ?_ NB156_158.out _;(with_reducible repeat (first|refine blk_drewN ?_ _|refine blk_drew ?_|refine blk_alloc ?_ _));refine blk_far ?_ NB156_158.out _;(with_reducible repeat (first|refine blk_drewN ?_ _|refine blk_drew ?_|refine blk_alloc ?_ _));refine blk_far ?_ NB156_158.out _;(with_reducible repeat (first|refine blk_drewN ?_ _|refine blk_drew ?_|refine blk_alloc ?_ _));exact BK156.out))⟩;have n1_:Aside0 (w62.heap[gb158]?=some (.cells #[.int .i64 t157,.int .i64 (rd l1 0),.int .i64 0,.int .i64 0] 23 (0,0))):=⟨(by rw [hw];exact (by (with_reducible repeat (first|refine blk_drewN ?_ _|refine blk_drew ?_|refine blk_alloc ?_ _));refine blk_put (cs:=#[.int .i64 t157,.int .i64 0,.int .i64 0,.int .i64 0]) ?_ 1 _ rfl;(with_reducible repeat (first|refine blk_drewN ?_ _|refine blk_drew ?_|refine blk_alloc ?_ _));refine blk_put (cs:=#[.int .i64 t157,.int .i64 0,.int .i64 0,.int .i64 0]) ?_ 3 _ rfl;(with_reducible repeat (first|refine blk_drewN ?_ _|refine blk_drew ?_|refine blk_alloc ?_ _));refine blk_put (cs:=#[.int .i64 t157,.int .i64 0,.int .i64 0,.int .i64 0]) ?_ 2 _ rfl;(with_reducible repeat (first|refine blk_drewN ?_ _|refine blk_drew ?_|refine blk_alloc ?_ _));refine blk_put (cs:=#[.int .i64 t157,.int .i64 0,.int .i64 0,.int .i64 0]) ?_ 1 _ rfl;(with_reducible repeat (first|refine blk_drewN ?_ _|refine blk_drew ?_|refine blk_alloc ?_ _));refine blk_put (cs:=#[.int .i64 0,.int .i64 0,.int .i64 0,.int .i64 0]) ?_ 0 _ rfl;(with_reducible repeat (first|refine blk_drewN ?_ _|refine blk_drew ?_|refine blk_alloc ?_ _));exact BK158.out))⟩;have n2_:Aside0 (Below w.heap.size w w62):=⟨(by rw [hw];exact (by repeat (first|(with_reducible first|exact HB.out|apply below_alloc|apply pw_below_drewN|apply below_drew1|refine below_set ?_ GE156.out|refine below_set ?_ GE158.out)|exact HB.out)))⟩;clear hw;clear BK156;clear BK158;clear HB;have BK156:=n0_;have BK158:=n1_;have HB:=n2_;clear n0_ n1_ n2_;have hcz63_0:w62.cell? ⟨gb158,0,none⟩=some (.int .i64 t157):=(blk_cell BK158.out 0).trans rfl;have hcz63_1:w62.cell? ⟨gb158,1,none⟩=some (.int .i64 (rd l1 0)):=(blk_cell BK158.out 1).trans rfl;have hcz63_2:w62.cell? ⟨gb158,2,none⟩=some (.int .i64 0):=(blk_cell BK158.out 2).trans rfl;have hcz63_3:w62.cell? ⟨gb158,3,none⟩=some (.int .i64 0):=(blk_cell BK158.out 3).trans rfl;have hfz63_0:=blk_frozen BK158.out 0;have hfz63_1:=blk_frozen BK158.out 1;have hfz63_2:=blk_frozen BK158.out 2;have hfz63_3:=blk_frozen BK158.out 3;have hcz64_0:w62.cell? ⟨gb156,0,none⟩=some (.int .i64 0):=(blk_cell BK156.out 0).trans rfl;have hcz64_1:w62.cell? ⟨gb156,1,none⟩=some (.int .i64 0):=(blk_cell BK156.out 1).trans rfl;have hcz64_2:w62.cell? ⟨gb156,2,none⟩=some (.int .i64 0):=(blk_cell BK156.out 2).trans rfl;have hcz64_3:w62.cell? ⟨gb156,3,none⟩=some (.int .i64 0):=(blk_cell BK156.out 3).trans rfl;have hfz64_0:=blk_frozen BK156.out 0;have hfz64_1:=blk_frozen BK156.out 1;have hfz64_2:=blk_frozen BK156.out 2;have hfz64_3:=blk_frozen BK156.out 3))
     refine bodyPost_ret (results_ct rfl _ _ gb156 23 #[.int .i64 t157,.int .i64 (rd l1 0),.int .i64 0,.int .i64 0] (0,0) _ rfl (by (with_reducible repeat (first|refine blk_drewN ?_ _|refine blk_drew ?_|refine blk_alloc ?_ _));refine blk_put (cs:=#[.int .i64 t157,.int .i64 (rd l1 0),.int .i64 0,.int .i64 0]) ?_ 3 _ rfl;(with_reducible repeat (first|refine blk_drewN ?_ _|refine blk_drew ?_|refine blk_alloc ?_ _));refine blk_put (cs:=#[.int .i64 t157,.int .i64 (rd l1 0),.int .i64 0,.int .i64 0]) ?_ 2 _ rfl;(with_reducible repeat (first|refine blk_drewN ?_ _|refine blk_drew ?_|refine blk_alloc ?_ _));refine blk_put (cs:=#[.int .i64 t157,.int .i64 0,.int .i64 0,.int .i64 0]) ?_ 1 _ rfl;(with_reducible repeat (first|refine blk_drewN ?_ _|refine blk_drew ?_|refine blk_alloc ?_ _));refine blk_put (cs:=#[.int .i64 0,.int .i64 0,.int .i64 0,.int .i64 0]) ?_ 0 _ rfl;(with_reducible repeat (first|refine blk_drewN ?_ _|refine blk_drew ?_|refine blk_alloc ?_ _));exact BK156.out) Tryd.underlying23 rfl (by kernel_rfl)) rfl ?_
     exact ⟨by first|rfl|(simp [errW_none,errW_some] <;> rfl)|(simp [*,errW_none,errW_some] <;> rfl),by repeat (first|(with_reducible first|exact HB.out|apply below_alloc|apply pw_below_drewN|apply below_drew1|refine below_set ?_ GE156.out|refine below_set ?_ GE158.out)|exact HB.out)⟩
    ·rw [if_neg c56] at H
     exact absurd H (by simp)
end Go.Proofs.YteooddfilnijgaaDoor.Px
namespace Go.Proofs.YteooddfilnijgaaDoor.Px
open Go.RowKit Go.Proofs.YteooddfilnijgaaDoorW.PrintWords Go.Proofs.YteooddfilnijgaaDoorW.PrintLast Go.Proofs.YteooddfilnijgaaDoorW.PrintMore
attribute [local go_sem] max2_int min2_int max_two min_two max_three min_three max_four min_four
set_option linter.unusedVariables false
set_option linter.unusedSimpArgs false
attribute [local go_sem high] eqA23
def script_Act.f (k:Nat) (a0:ByteArray):Option (Int × Int × Int × Int × Int):=(script_Line.f k a0).bind fun bt166 => (if bt166.2.2.2=0 then ((script_act.f bt166.1 bt166.2.2.1).bind fun bt174 => (some (bt174.1,bt174.2.1,bt174.2.2.1,bt174.2.2.2.1,bt174.2.2.2.2))) else (some (0,0,0,0,bt166.2.2.2)))
theorem script_Act.mono:∀ a0 k,LeO (script_Act.f k a0) (script_Act.f (k + 1) a0):=by
 intro a0 k
 unfold script_Act.f
 repeat' first
   | (with_reducible exact script_Line.mono _ _)
   | (with_reducible exact LeO.refl _)
   | (with_reducible exact LeO.none _)
   | (with_reducible refine LeO.ite ?_ ?_)
   | (with_reducible refine LeO.bind ?_ (fun _ => ?_))
   | exact script_Line.mono _ _
   | exact LeO.none _
   | refine LeO.ite ?_ ?_
   | refine LeO.bind ?_ (fun _ => ?_)
set_option maxHeartbeats 80000000 in
set_option maxRecDepth 100000 in
theorem script_Act.calls (k:Nat) (a0:ByteArray) (r1:Int) (r2:Int) (r3:Int) (r4:Int) (r5:Int) (w:World) (hG:Aside0 (GG w)) (h:script_Act.f k a0=some (r1,r2,r3,r4,r5)) :
  Calls Tryd.prog 8 #[.string a0] w fun e w' => e=.returned (.tuple #[.agg #[.int .i64 r1,.int .i64 r2,.int .i64 r3,.int .i64 r4],.int .i64 r5])∧Below w.heap.size w w':=by
 have hu23:=Tryd.underlying23
 have HB:=Aside0.mk (Below.refl w.heap.size w)
 have H:((script_Line.f k a0).bind fun bt166 => (if bt166.2.2.2=0 then ((script_act.f bt166.1 bt166.2.2.1).bind fun bt174 => (some (bt174.1,bt174.2.1,bt174.2.2.1,bt174.2.2.2.1,bt174.2.2.2.2))) else (some (0,0,0,0,bt166.2.2.2))))=some (r1,r2,r3,r4,r5):=h
 clear h
 replace H:=Option.bind_eq_some_iff.mp H
 obtain ⟨⟨t166,t167,t168,t169⟩,A20,H⟩:=H
 replace H:(if t169=0 then ((script_act.f t166 t168).bind fun bt174 => (some (bt174.1,bt174.2.1,bt174.2.2.1,bt174.2.2.2.1,bt174.2.2.2.2))) else (some (0,0,0,0,t169)))=some (r1,r2,r3,r4,r5):=H
 have A2:=Aside0.mk A20
 clear A20
 by_cases c3:t169=0
 ·rw [if_pos c3] at H
  have c3b0:(t169==0)=true:=beq_iff_eq.mpr c3
  have c3b1:(t169 != 0)=false:=bne_eq_false_iff_eq.mpr c3
  clear c3
  replace H:=Option.bind_eq_some_iff.mp H
  obtain ⟨⟨t174,t175,t176,t177,t178⟩,A40,H⟩:=H
  replace H:(some (t174,t175,t176,t177,t178))=some (r1,r2,r3,r4,r5):=H
  have A4:=Aside0.mk A40
  clear A40
  simp only [Option.some.injEq,Prod.mk.injEq] at H
  obtain ⟨rfl,rfl,rfl,rfl,rfl⟩:=H
  go_enter Tryd.func8,Tryd.ntmps8
  go_wp2_with (first|((with_reducible refine gate_dst (N:=2) rfl ?_);refine box_event ?hg (N:=2) ?hd (cs:=#[.int .i64 0,.int .i64 0,.int .i64 0,.int .i64 0]) (t:=23) ?hr ?_;(case hd => rfl);(case hg => rfl);(case hr => first|(go_simp;done)|(go_simp;rfl));intro gb165 hg w5 hbox hb;have n0_:=Aside0.mk (below_step (by repeat (first|(with_reducible first|exact HB.out|apply below_alloc|apply pw_below_drewN|apply below_drew1)|exact HB.out)) hb);have n1_:=Aside0.mk (hbox);have n2_:=Aside0.mk ((by rw [hg];exact (below_size (by repeat (first|(with_reducible first|exact HB.out|apply below_alloc|apply pw_below_drewN|apply below_drew1)|exact HB.out))):w.heap.size≤gb165));have n3_:=Aside0.mk ((by rw [hg];exact (below_size (by repeat (first|(with_reducible first|exact HB.out|apply below_alloc|apply pw_below_drewN|apply below_drew1)|exact HB.out))):w.heap.size≤gb165));clear HB;have HB:=n0_;have BK165:=n1_;have GW165:=n2_;have GE165:=n3_;clear n0_ n1_ n2_ n3_;clear hb hbox hg)|((with_reducible refine gate_callee (f:=16) rfl ?_);refine goesL_ (some 10) rfl rfl Tryd.func16 (by kernel_rfl) rfl #[.string a0] rfl (by (try simp only [List.map_toArray,List.map_cons,List.map_nil]);first|done|rfl|(simp only [List.length_drop,List.length_take];rfl)) ?_;(with_reducible refine (script_Line.calls k a0 t166 t167 t168 t169 _ ?side1 A2.out).mono ?_);(case side1 => exact ⟨GG.below hG.out (by repeat (first|(with_reducible first|exact HB.out|apply below_alloc|apply pw_below_drewN|apply below_drew1|refine below_set ?_ GE165.out)|exact HB.out))⟩);rintro e w6 ⟨v170,v172,rfl,ho0,ho1,hb⟩;refine ⟨_,rfl,?_⟩;have n0_:=Aside0.mk (Kd.R_lower ho0 (below_size (by repeat (first|(with_reducible first|exact HB.out|apply below_alloc|apply pw_below_drewN|apply below_drew1|refine below_set ?_ GE165.out)|exact HB.out))));have n1_:=Aside0.mk (Kd.R_lower ho1 (below_size (by repeat (first|(with_reducible first|exact HB.out|apply below_alloc|apply pw_below_drewN|apply below_drew1|refine below_set ?_ GE165.out)|exact HB.out))));have n2_:=Aside0.mk (blk_below (g:=gb165) (o:=.cells #[.int .i64 0,.int .i64 0,.int .i64 0,.int .i64 0] 23 (0,0)) (by (with_reducible repeat (first|refine blk_drewN ?_ _|refine blk_drew ?_|refine blk_alloc ?_ _));exact BK165.out) hb);have n3_:=Aside0.mk (below_step (by repeat (first|(with_reducible first|exact HB.out|apply below_alloc|apply pw_below_drewN|apply below_drew1|refine below_set ?_ GE165.out)|exact HB.out)) hb);clear BK165;clear HB;have HO171:=n0_;have HO173:=n1_;have BK165:=n2_;have HB:=n3_;clear n0_ n1_ n2_ n3_;(try clear hb);(try clear hb2);(try clear hk);(try clear hi);(try clear ho0);(try clear ho1);obtain ⟨Ao7,co7,eo7⟩:=Kd.R_slice HO173.out;subst eo7)|((with_reducible refine gate_callee (f:=17) rfl ?_);refine goesL_ (some 21) rfl rfl Tryd.func17 (by kernel_rfl) rfl #[.string t166,.slice Ao7 t168.length co7] rfl (by (try simp only [List.map_toArray,List.map_cons,List.map_nil]);first|done|rfl|(simp only [List.length_drop,List.length_take];rfl)) ?_;(with_reducible refine (script_act.calls t166 _ _ t168 t174 t175 t176 t177 t178 _ ?side1 ?side2 A4.out).mono ?_);(case side1 => repeat (first|exact (Kd.R_reads' HO173.out).2.2|(with_reducible refine Kd.C_alloc ?_ _)|(with_reducible refine Kd.C_drewN ?_ _)|(with_reducible refine Kd.C_drew ?_)));(case side2 => exact (Kd.R_reads' HO173.out).2.1);rintro e w8 ⟨rfl,hb⟩;refine ⟨_,rfl,?_⟩;have n0_:=Aside0.mk (Kd.R_below (by (with_reducible repeat (first|apply Kd.R_alloc|apply Kd.R_drewN|apply Kd.R_drew));exact HO171.out) hb);have n1_:=Aside0.mk (Kd.R_below (by (with_reducible repeat (first|apply Kd.R_alloc|apply Kd.R_drewN|apply Kd.R_drew));exact HO173.out) hb);have n2_:=Aside0.mk (blk_below (g:=gb165) (o:=.cells #[.int .i64 0,.int .i64 0,.int .i64 0,.int .i64 0] 23 (0,0)) (by (with_reducible repeat (first|refine blk_drewN ?_ _|refine blk_drew ?_|refine blk_alloc ?_ _));exact BK165.out) hb);have n3_:=Aside0.mk (below_step (by repeat (first|(with_reducible first|exact HB.out|apply below_alloc|apply pw_below_drewN|apply below_drew1|refine below_set ?_ GE165.out)|exact HB.out)) hb);clear HO171;clear HO173;clear BK165;clear HB;have HO171:=n0_;have HO173:=n1_;have BK165:=n2_;have HB:=n3_;clear n0_ n1_ n2_ n3_;(try clear hb);(try clear hb2);(try clear hk);(try clear hi);have hcz9_0:w8.cell? ⟨gb165,0,none⟩=some (.int .i64 0):=(blk_cell BK165.out 0).trans rfl;have hcz9_1:w8.cell? ⟨gb165,1,none⟩=some (.int .i64 0):=(blk_cell BK165.out 1).trans rfl;have hcz9_2:w8.cell? ⟨gb165,2,none⟩=some (.int .i64 0):=(blk_cell BK165.out 2).trans rfl;have hcz9_3:w8.cell? ⟨gb165,3,none⟩=some (.int .i64 0):=(blk_cell BK165.out 3).trans rfl;have hfz9_0:=blk_frozen BK165.out 0;have hfz9_1:=blk_frozen BK165.out 1;have hfz9_2:=blk_frozen BK165.out 2;have hfz9_3:=blk_frozen BK165.out 3))
  refine bodyPost_ret (results_ct rfl _ _ gb165 23 #[.int .i64 t174,.int .i64 t175,.int .i64 t176,.int .i64 t177] (0,0) _ rfl (by (with_reducible repeat (first|refine blk_drewN ?_ _|refine blk_drew ?_|refine blk_alloc ?_ _));refine blk_put (cs:=#[.int .i64 t174,.int .i64 t175,.int .i64 t176,.int .i64 0]) ?_ 3 _ rfl;(with_reducible repeat (first|refine blk_drewN ?_ _|refine blk_drew ?_|refine blk_alloc ?_ _));refine blk_put (cs:=#[.int .i64 t174,.int .i64 t175,.int .i64 0,.int .i64 0]) ?_ 2 _ rfl;(with_reducible repeat (first|refine blk_drewN ?_ _|refine blk_drew ?_|refine blk_alloc ?_ _));refine blk_put (cs:=#[.int .i64 t174,.int .i64 0,.int .i64 0,.int .i64 0]) ?_ 1 _ rfl;(with_reducible repeat (first|refine blk_drewN ?_ _|refine blk_drew ?_|refine blk_alloc ?_ _));refine blk_put (cs:=#[.int .i64 0,.int .i64 0,.int .i64 0,.int .i64 0]) ?_ 0 _ rfl;(with_reducible repeat (first|refine blk_drewN ?_ _|refine blk_drew ?_|refine blk_alloc ?_ _));exact BK165.out) Tryd.underlying23 rfl (by kernel_rfl)) rfl ?_
  exact ⟨by first|rfl|(simp [errW_none,errW_some] <;> rfl)|(simp [*,errW_none,errW_some] <;> rfl),by repeat (first|(with_reducible first|exact HB.out|apply below_alloc|apply pw_below_drewN|apply below_drew1|refine below_set ?_ GE165.out)|exact HB.out)⟩
 ·rw [if_neg c3] at H
  have c3b0:(t169==0)=false:=beq_eq_false_iff_ne.mpr c3
  have c3b1:(t169 != 0)=true:=bne_iff_ne.mpr c3
  simp only [Option.some.injEq,Prod.mk.injEq] at H
  obtain ⟨rfl,rfl,rfl,rfl,rfl⟩:=H
  go_enter Tryd.func8,Tryd.ntmps8
  go_wp2_with (first|((with_reducible refine gate_dst (N:=2) rfl ?_);refine box_event ?hg (N:=2) ?hd (cs:=#[.int .i64 0,.int .i64 0,.int .i64 0,.int .i64 0]) (t:=23) ?hr ?_;(case hd => rfl);(case hg => rfl);(case hr => first|(go_simp;done)|(go_simp;rfl));intro gb165 hg w10 hbox hb;have n0_:=Aside0.mk (below_step (by repeat (first|(with_reducible first|exact HB.out|apply below_alloc|apply pw_below_drewN|apply below_drew1)|exact HB.out)) hb);have n1_:=Aside0.mk (hbox);have n2_:=Aside0.mk ((by rw [hg];exact (below_size (by repeat (first|(with_reducible first|exact HB.out|apply below_alloc|apply pw_below_drewN|apply below_drew1)|exact HB.out))):w.heap.size≤gb165));have n3_:=Aside0.mk ((by rw [hg];exact (below_size (by repeat (first|(with_reducible first|exact HB.out|apply below_alloc|apply pw_below_drewN|apply below_drew1)|exact HB.out))):w.heap.size≤gb165));clear HB;have HB:=n0_;have BK165:=n1_;have GW165:=n2_;have GE165:=n3_;clear n0_ n1_ n2_ n3_;clear hb hbox hg)|((with_reducible refine gate_callee (f:=16) rfl ?_);refine goesL_ (some 10) rfl rfl Tryd.func16 (by kernel_rfl) rfl #[.string a0] rfl (by (try simp only [List.map_toArray,List.map_cons,List.map_nil]);first|done|rfl|(simp only [List.length_drop,List.length_take];rfl)) ?_;(with_reducible refine (script_Line.calls k a0 t166 t167 t168 t169 _ ?side1 A2.out).mono ?_);(case side1 => exact ⟨GG.below hG.out (by repeat (first|(with_reducible first|exact HB.out|apply below_alloc|apply pw_below_drewN|apply below_drew1|refine below_set ?_ GE165.out)|exact HB.out))⟩);rintro e w11 ⟨v170,v172,rfl,ho0,ho1,hb⟩;refine ⟨_,rfl,?_⟩;have n0_:=Aside0.mk (Kd.R_lower ho0 (below_size (by repeat (first|(with_reducible first|exact HB.out|apply below_alloc|apply pw_below_drewN|apply below_drew1|refine below_set ?_ GE165.out)|exact HB.out))));have n1_:=Aside0.mk (Kd.R_lower ho1 (below_size (by repeat (first|(with_reducible first|exact HB.out|apply below_alloc|apply pw_below_drewN|apply below_drew1|refine below_set ?_ GE165.out)|exact HB.out))));have n2_:=Aside0.mk (blk_below (g:=gb165) (o:=.cells #[.int .i64 0,.int .i64 0,.int .i64 0,.int .i64 0] 23 (0,0)) (by (with_reducible repeat (first|refine blk_drewN ?_ _|refine blk_drew ?_|refine blk_alloc ?_ _));exact BK165.out) hb);have n3_:=Aside0.mk (below_step (by repeat (first|(with_reducible first|exact HB.out|apply below_alloc|apply pw_below_drewN|apply below_drew1|refine below_set ?_ GE165.out)|exact HB.out)) hb);clear BK165;clear HB;have HO171:=n0_;have HO173:=n1_;have BK165:=n2_;have HB:=n3_;clear n0_ n1_ n2_ n3_;(try clear hb);(try clear hb2);(try clear hk);(try clear hi);(try clear ho0);(try clear ho1);have hcz12_0:w11.cell? ⟨gb165,0,none⟩=some (.int .i64 0):=(blk_cell BK165.out 0).trans rfl;have hcz12_1:w11.cell? ⟨gb165,1,none⟩=some (.int .i64 0):=(blk_cell BK165.out 1).trans rfl;have hcz12_2:w11.cell? ⟨gb165,2,none⟩=some (.int .i64 0):=(blk_cell BK165.out 2).trans rfl;have hcz12_3:w11.cell? ⟨gb165,3,none⟩=some (.int .i64 0):=(blk_cell BK165.out 3).trans rfl;have hfz12_0:=blk_frozen BK165.out 0;have hfz12_1:=blk_frozen BK165.out 1;have hfz12_2:=blk_frozen BK165.out 2;have hfz12_3:=blk_frozen BK165.out 3))
  refine bodyPost_ret (results_ct rfl _ _ gb165 23 #[.int .i64 0,.int .i64 0,.int .i64 0,.int .i64 0] (0,0) _ rfl (by (with_reducible repeat (first|refine blk_drewN ?_ _|refine blk_drew ?_|refine blk_alloc ?_ _));refine blk_put (cs:=#[.int .i64 0,.int .i64 0,.int .i64 0,.int .i64 0]) ?_ 3 _ rfl;(with_reducible repeat (first|refine blk_drewN ?_ _|refine blk_drew ?_|refine blk_alloc ?_ _));refine blk_put (cs:=#[.int .i64 0,.int .i64 0,.int .i64 0,.int .i64 0]) ?_ 2 _ rfl;(with_reducible repeat (first|refine blk_drewN ?_ _|refine blk_drew ?_|refine blk_alloc ?_ _));refine blk_put (cs:=#[.int .i64 0,.int .i64 0,.int .i64 0,.int .i64 0]) ?_ 1 _ rfl;(with_reducible repeat (first|refine blk_drewN ?_ _|refine blk_drew ?_|refine blk_alloc ?_ _));refine blk_put (cs:=#[.int .i64 0,.int .i64 0,.int .i64 0,.int .i64 0]) ?_ 0 _ rfl;(with_reducible repeat (first|refine blk_drewN ?_ _|refine blk_drew ?_|refine blk_alloc ?_ _));exact BK165.out) Tryd.underlying23 rfl (by kernel_rfl)) rfl ?_
  exact ⟨by first|rfl|(simp [errW_none,errW_some] <;> rfl)|(simp [*,errW_none,errW_some] <;> rfl),by repeat (first|(with_reducible first|exact HB.out|apply below_alloc|apply pw_below_drewN|apply below_drew1|refine below_set ?_ GE165.out)|exact HB.out)⟩
def understudylaw23_ScriptBack.j0:Nat→ByteArray→Option (Bool)
 | 0,_ => none
 | k + 1,x1 => (script_Act.f k x1).bind fun bt188 => (if bt188.2.2.2.2=0 then ((script_Print.f bt188.1 bt188.2.1 bt188.2.2.1 bt188.2.2.2.1).bind fun bt194 => (if bt194.2=0 then (if bt194.1.toList=x1.toList then ((understudylaw23_awake.f).bind fun t196 => (some t196)) else (some false)) else (some false))) else (if bt188.2.2.2.2=4 then ((understudylaw23_awake.f).bind fun t197 => (some t197)) else (some false)))
def understudylaw23_ScriptBack.f (k:Nat) (a0_0:Int) (a0_1:Int) (a0_2:Int) (a0_3:Int) (a1:ByteArray):Option (Bool):=(script_Print.f a0_0 a0_1 a0_2 a0_3).bind fun bt180 => (if bt180.2=0 then ((script_Act.f k bt180.1).bind fun bt182 => (if bt182.2.2.2.2=0 then (if (!(bt182.1==a0_0) || (!(bt182.2.1==a0_1) || (!(bt182.2.2.1==a0_2) || (!(bt182.2.2.2.1==a0_3)))))=true then (some false) else (understudylaw23_ScriptBack.j0 k a1)) else (some false))) else (understudylaw23_ScriptBack.j0 k a1))
theorem understudylaw23_ScriptBack.mono_l:∀ k,(∀ y0,LeO (understudylaw23_ScriptBack.j0 k y0) (understudylaw23_ScriptBack.j0 (k + 1) y0))
 | 0 => fun _ r h => by simp [understudylaw23_ScriptBack.j0] at h
 | k + 1 => by
  have ih0:=understudylaw23_ScriptBack.mono_l k
  ·intro y0
   unfold understudylaw23_ScriptBack.j0
   repeat' first
   | (with_reducible exact ih0 _)
   | (with_reducible exact script_Act.mono _ _)
   | (with_reducible exact LeO.refl _)
   | (with_reducible exact LeO.none _)
   | (with_reducible refine LeO.ite ?_ ?_)
   | (with_reducible refine LeO.bind ?_ (fun _ => ?_))
   | exact ih0 _
   | exact script_Act.mono _ _
   | exact LeO.none _
   | refine LeO.ite ?_ ?_
   | refine LeO.bind ?_ (fun _ => ?_)
theorem understudylaw23_ScriptBack.mono:∀ a0 a1 a2 a3 a4 k,LeO (understudylaw23_ScriptBack.f k a0 a1 a2 a3 a4) (understudylaw23_ScriptBack.f (k + 1) a0 a1 a2 a3 a4):=by
 intro a0 a1 a2 a3 a4 k
 have ih0:=understudylaw23_ScriptBack.mono_l k
 unfold understudylaw23_ScriptBack.f
 repeat' first
   | (with_reducible exact ih0 _)
   | (with_reducible exact script_Act.mono _ _)
   | (with_reducible exact LeO.refl _)
   | (with_reducible exact LeO.none _)
   | (with_reducible refine LeO.ite ?_ ?_)
   | (with_reducible refine LeO.bind ?_ (fun _ => ?_))
   | exact ih0 _
   | exact script_Act.mono _ _
   | exact LeO.none _
   | refine LeO.ite ?_ ?_
   | refine LeO.bind ?_ (fun _ => ?_)
set_option maxHeartbeats 80000000 in
set_option maxRecDepth 100000 in
theorem understudylaw23_ScriptBack.calls (k:Nat) (a0_0:Int) (a0_1:Int) (a0_2:Int) (a0_3:Int) (a1:ByteArray) (r:Bool) (w:World) (hG:Aside0 (GG w)) (h:understudylaw23_ScriptBack.f k a0_0 a0_1 a0_2 a0_3 a1=some r) :
  Calls Tryd.prog 4 #[.agg #[.int .i64 a0_0,.int .i64 a0_1,.int .i64 a0_2,.int .i64 a0_3],.string a1] w fun e w' => e=.returned (.bool r)∧Below w.heap.size w w':=by
 have hu23:=Tryd.underlying23
 have HB:=Aside0.mk (Below.refl w.heap.size w)
 have H:((script_Print.f a0_0 a0_1 a0_2 a0_3).bind fun bt180 => (if bt180.2=0 then ((script_Act.f k bt180.1).bind fun bt182 => (if bt182.2.2.2.2=0 then (if (!(bt182.1==a0_0) || (!(bt182.2.1==a0_1) || (!(bt182.2.2.1==a0_2) || (!(bt182.2.2.2.1==a0_3)))))=true then (some false) else (understudylaw23_ScriptBack.j0 k a1)) else (some false))) else (understudylaw23_ScriptBack.j0 k a1)))=some r:=h
 clear h
 replace H:=Option.bind_eq_some_iff.mp H
 obtain ⟨⟨t180,t181⟩,A30,H⟩:=H
 replace H:(if t181=0 then ((script_Act.f k t180).bind fun bt182 => (if bt182.2.2.2.2=0 then (if (!(bt182.1==a0_0) || (!(bt182.2.1==a0_1) || (!(bt182.2.2.1==a0_2) || (!(bt182.2.2.2.1==a0_3)))))=true then (some false) else (understudylaw23_ScriptBack.j0 k a1)) else (some false))) else (understudylaw23_ScriptBack.j0 k a1))=some r:=H
 have A3:=Aside0.mk A30
 clear A30
 have HC4:=Aside0.mk H
 clear H
 go_enter Tryd.func4,Tryd.ntmps4
 go_upto_if 19 with (first|((with_reducible refine gate_dst (N:=2) rfl ?_);refine box_event ?hg (N:=2) ?hd (cs:=#[.int .i64 a0_0,.int .i64 a0_1,.int .i64 a0_2,.int .i64 a0_3]) (t:=23) ?hr ?_;(case hd => rfl);(case hg => rfl);(case hr => first|(go_simp;done)|(go_simp;rfl));intro gb179 hg w5 hbox hb;have n0_:=Aside0.mk (below_step (by repeat (first|(with_reducible first|exact HB.out|apply below_alloc|apply pw_below_drewN|apply below_drew1)|exact HB.out)) hb);have n1_:=Aside0.mk (hbox);have n2_:=Aside0.mk ((by rw [hg];exact (below_size (by repeat (first|(with_reducible first|exact HB.out|apply below_alloc|apply pw_below_drewN|apply below_drew1)|exact HB.out))):w.heap.size≤gb179));have n3_:=Aside0.mk ((by rw [hg];exact (below_size (by repeat (first|(with_reducible first|exact HB.out|apply below_alloc|apply pw_below_drewN|apply below_drew1)|exact HB.out))):w.heap.size≤gb179));clear HB;have HB:=n0_;have BK179:=n1_;have GW179:=n2_;have GE179:=n3_;clear n0_ n1_ n2_ n3_;clear hb hbox hg;have hcz6_0:w5.cell? ⟨gb179,0,none⟩=some (.int .i64 a0_0):=(blk_cell BK179.out 0).trans rfl;have hcz6_1:w5.cell? ⟨gb179,1,none⟩=some (.int .i64 a0_1):=(blk_cell BK179.out 1).trans rfl;have hcz6_2:w5.cell? ⟨gb179,2,none⟩=some (.int .i64 a0_2):=(blk_cell BK179.out 2).trans rfl;have hcz6_3:w5.cell? ⟨gb179,3,none⟩=some (.int .i64 a0_3):=(blk_cell BK179.out 3).trans rfl;have hfz6_0:=blk_frozen BK179.out 0;have hfz6_1:=blk_frozen BK179.out 1;have hfz6_2:=blk_frozen BK179.out 2;have hfz6_3:=blk_frozen BK179.out 3)|((with_reducible refine gate_callee (f:=5) rfl ?_);refine goesL_ (some 15) rfl rfl Tryd.func5 (by kernel_rfl) rfl #[.agg #[.int .i64 a0_0,.int .i64 a0_1,.int .i64 a0_2,.int .i64 a0_3]] rfl (by (try simp only [List.map_toArray,List.map_cons,List.map_nil]);first|done|rfl|(simp only [List.length_drop,List.length_take];rfl)) ?_;(with_reducible refine (script_Print.calls a0_0 a0_1 a0_2 a0_3 t180 t181 _ ?side1 A3.out).mono ?_);(case side1 => exact ⟨GG.below hG.out (by repeat (first|(with_reducible first|exact HB.out|apply below_alloc|apply pw_below_drewN|apply below_drew1|refine below_set ?_ GE179.out)|exact HB.out))⟩);rintro e w7 ⟨rfl,hb⟩;refine ⟨_,rfl,?_⟩;have n0_:=Aside0.mk (blk_below (g:=gb179) (o:=.cells #[.int .i64 a0_0,.int .i64 a0_1,.int .i64 a0_2,.int .i64 a0_3] 23 (0,0)) (by (with_reducible repeat (first|refine blk_drewN ?_ _|refine blk_drew ?_|refine blk_alloc ?_ _));exact BK179.out) hb);have n1_:=Aside0.mk (below_step (by repeat (first|(with_reducible first|exact HB.out|apply below_alloc|apply pw_below_drewN|apply below_drew1|refine below_set ?_ GE179.out)|exact HB.out)) hb);clear BK179;clear HB;have BK179:=n0_;have HB:=n1_;clear n0_ n1_;(try clear hb);(try clear hb2);(try clear hk);(try clear hi)))
 (try simp only [Act.put,List.setIfInBounds_toArray,List.set_cons_zero,List.set_cons_succ])
 go_cut [] (fun wc => ∃ (kq:Nat),Aside0 (understudylaw23_ScriptBack.j0 kq a1=some r)∧Aside0 (kq≤k)∧Aside0 (wc.heap[gb179]?=some (.cells #[.int .i64 a0_0,.int .i64 a0_1,.int .i64 a0_2,.int .i64 a0_3] 23 (0,0)))∧Aside0 (Below w.heap.size w wc))
 case first =>
  have H:=HC4.out
  clear HC4
  by_cases c8:t181=0
  ·rw [if_pos c8] at H
   have c8b0:(t181==0)=true:=beq_iff_eq.mpr c8
   have c8b1:(t181 != 0)=false:=bne_eq_false_iff_eq.mpr c8
   clear c8
   (first|rw [c8b0]|(simp only [i64_w,i32_w];rw [c8b0])|skip)
   replace H:=Option.bind_eq_some_iff.mp H
   obtain ⟨⟨t182,t183,t184,t185,t186⟩,A90,H⟩:=H
   replace H:(if t186=0 then (if (!(t182==a0_0) || (!(t183==a0_1) || (!(t184==a0_2) || (!(t185==a0_3)))))=true then (some false) else (understudylaw23_ScriptBack.j0 k a1)) else (some false))=some r:=H
   have A9:=Aside0.mk A90
   clear A90
   by_cases c10:t186=0
   ·rw [if_pos c10] at H
    have c10b0:(t186==0)=true:=beq_iff_eq.mpr c10
    have c10b1:(t186 != 0)=false:=bne_eq_false_iff_eq.mpr c10
    clear c10
    by_cases c11:(!(t182==a0_0) || (!(t183==a0_1) || (!(t184==a0_2) || (!(t185==a0_3)))))=true
    ·rw [if_pos c11] at H
     have c11b0:(!(t182==a0_0) || (!(t183==a0_1) || (!(t184==a0_2) || (!(t185==a0_3)))))=true:=c11
     clear c11
     obtain rfl:=Option.some.inj H
     go_wp2_with (first|((with_reducible refine gate_callee (f:=8) rfl ?_);refine goesL_ (some 22) rfl rfl Tryd.func8 (by kernel_rfl) rfl #[.string t180] rfl (by (try simp only [List.map_toArray,List.map_cons,List.map_nil]);first|done|rfl|(simp only [List.length_drop,List.length_take];rfl)) ?_;(with_reducible refine (script_Act.calls k t180 t182 t183 t184 t185 t186 _ ?side1 A9.out).mono ?_);(case side1 => exact ⟨GG.below hG.out (by repeat (first|(with_reducible first|exact HB.out|apply below_alloc|apply pw_below_drewN|apply below_drew1|refine below_set ?_ GE179.out)|exact HB.out))⟩);rintro e w12 ⟨rfl,hb⟩;refine ⟨_,rfl,?_⟩;have n0_:=Aside0.mk (blk_below (g:=gb179) (o:=.cells #[.int .i64 a0_0,.int .i64 a0_1,.int .i64 a0_2,.int .i64 a0_3] 23 (0,0)) (by (with_reducible repeat (first|refine blk_drewN ?_ _|refine blk_drew ?_|refine blk_alloc ?_ _));exact BK179.out) hb);have n1_:=Aside0.mk (below_step (by repeat (first|(with_reducible first|exact HB.out|apply below_alloc|apply pw_below_drewN|apply below_drew1|refine below_set ?_ GE179.out)|exact HB.out)) hb);clear BK179;clear HB;have BK179:=n0_;have HB:=n1_;clear n0_ n1_;(try clear hb);(try clear hb2);(try clear hk);(try clear hi))|((with_reducible refine gate_dst (N:=7) rfl ?_);refine box_event ?hg (N:=7) ?hd (cs:=#[.int .i64 0,.int .i64 0,.int .i64 0,.int .i64 0]) (t:=23) ?hr ?_;(case hd => rfl);(case hg => rfl);(case hr => first|(go_simp;done)|(go_simp;rfl));intro gb187 hg w13 hbox hb;have n0_:=Aside0.mk (blk_below (g:=gb179) (o:=.cells #[.int .i64 a0_0,.int .i64 a0_1,.int .i64 a0_2,.int .i64 a0_3] 23 (0,0)) (by (with_reducible repeat (first|refine blk_drewN ?_ _|refine blk_drew ?_|refine blk_alloc ?_ _));exact BK179.out) hb);have n1_:=Aside0.mk (below_step (by repeat (first|(with_reducible first|exact HB.out|apply below_alloc|apply pw_below_drewN|apply below_drew1|refine below_set ?_ GE179.out)|exact HB.out)) hb);have n2_:=Aside0.mk (hbox);have n3_:=Aside0.mk ((by rw [hg];exact (below_size (by repeat (first|(with_reducible first|exact HB.out|apply below_alloc|apply pw_below_drewN|apply below_drew1|refine below_set ?_ GE179.out)|exact HB.out))):w.heap.size≤gb187));have n4_:=Aside0.mk ((by rw [hg];exact (below_size (by repeat (first|(with_reducible first|exact HB.out|apply below_alloc|apply pw_below_drewN|apply below_drew1|refine below_set ?_ GE179.out)|exact HB.out))):w.heap.size≤gb187));have n5_:=Aside0.mk ((by rw [hg];exact Nat.ne_of_lt (blk_lt (g:=gb179) (o:=.cells #[.int .i64 a0_0,.int .i64 a0_1,.int .i64 a0_2,.int .i64 a0_3] 23 (0,0)) (by (with_reducible repeat (first|refine blk_drewN ?_ _|refine blk_drew ?_|refine blk_alloc ?_ _));exact BK179.out)):gb179 ≠ gb187));have n6_:=Aside0.mk ((by rw [hg];exact Nat.ne_of_gt (blk_lt (g:=gb179) (o:=.cells #[.int .i64 a0_0,.int .i64 a0_1,.int .i64 a0_2,.int .i64 a0_3] 23 (0,0)) (by (with_reducible repeat (first|refine blk_drewN ?_ _|refine blk_drew ?_|refine blk_alloc ?_ _));exact BK179.out)):gb187 ≠ gb179));clear BK179;clear HB;have BK179:=n0_;have HB:=n1_;have BK187:=n2_;have GW187:=n3_;have GE187:=n4_;have NB179_187:=n5_;have NB187_179:=n6_;clear n0_ n1_ n2_ n3_ n4_ n5_ n6_;clear hb hbox hg;have hnb14:=NB187_179.out;have hnc14:=NB179_187.out;have hcz15_0:w13.cell? ⟨gb187,0,none⟩=some (.int .i64 0):=(blk_cell BK187.out 0).trans rfl;have hcz15_1:w13.cell? ⟨gb187,1,none⟩=some (.int .i64 0):=(blk_cell BK187.out 1).trans rfl;have hcz15_2:w13.cell? ⟨gb187,2,none⟩=some (.int .i64 0):=(blk_cell BK187.out 2).trans rfl;have hcz15_3:w13.cell? ⟨gb187,3,none⟩=some (.int .i64 0):=(blk_cell BK187.out 3).trans rfl;have hfz15_0:=blk_frozen BK187.out 0;have hfz15_1:=blk_frozen BK187.out 1;have hfz15_2:=blk_frozen BK187.out 2;have hfz15_3:=blk_frozen BK187.out 3;have hcz16_0:w13.cell? ⟨gb179,0,none⟩=some (.int .i64 a0_0):=(blk_cell BK179.out 0).trans rfl;have hcz16_1:w13.cell? ⟨gb179,1,none⟩=some (.int .i64 a0_1):=(blk_cell BK179.out 1).trans rfl;have hcz16_2:w13.cell? ⟨gb179,2,none⟩=some (.int .i64 a0_2):=(blk_cell BK179.out 2).trans rfl;have hcz16_3:w13.cell? ⟨gb179,3,none⟩=some (.int .i64 a0_3):=(blk_cell BK179.out 3).trans rfl;have hfz16_0:=blk_frozen BK179.out 0;have hfz16_1:=blk_frozen BK179.out 1;have hfz16_2:=blk_frozen BK179.out 2;have hfz16_3:=blk_frozen BK179.out 3))
     go_ret
     exact ⟨by first|rfl|(simp [errW_none,errW_some] <;> rfl)|(simp [*,errW_none,errW_some] <;> rfl),by repeat (first|(with_reducible first|exact HB.out|apply below_alloc|apply pw_below_drewN|apply below_drew1|refine below_set ?_ GE179.out|refine below_set ?_ GE187.out)|exact HB.out)⟩
    ·rw [if_neg c11] at H
     have c11b0:(!(t182==a0_0) || (!(t183==a0_1) || (!(t184==a0_2) || (!(t185==a0_3)))))=false:=by simpa using c11
     clear c11
     have H':=Aside0.mk H
     clear H
     go_wp2_with (first|((with_reducible refine gate_callee (f:=8) rfl ?_);refine goesL_ (some 22) rfl rfl Tryd.func8 (by kernel_rfl) rfl #[.string t180] rfl (by (try simp only [List.map_toArray,List.map_cons,List.map_nil]);first|done|rfl|(simp only [List.length_drop,List.length_take];rfl)) ?_;(with_reducible refine (script_Act.calls k t180 t182 t183 t184 t185 t186 _ ?side1 A9.out).mono ?_);(case side1 => exact ⟨GG.below hG.out (by repeat (first|(with_reducible first|exact HB.out|apply below_alloc|apply pw_below_drewN|apply below_drew1|refine below_set ?_ GE179.out)|exact HB.out))⟩);rintro e w17 ⟨rfl,hb⟩;refine ⟨_,rfl,?_⟩;have n0_:=Aside0.mk (blk_below (g:=gb179) (o:=.cells #[.int .i64 a0_0,.int .i64 a0_1,.int .i64 a0_2,.int .i64 a0_3] 23 (0,0)) (by (with_reducible repeat (first|refine blk_drewN ?_ _|refine blk_drew ?_|refine blk_alloc ?_ _));exact BK179.out) hb);have n1_:=Aside0.mk (below_step (by repeat (first|(with_reducible first|exact HB.out|apply below_alloc|apply pw_below_drewN|apply below_drew1|refine below_set ?_ GE179.out)|exact HB.out)) hb);clear BK179;clear HB;have BK179:=n0_;have HB:=n1_;clear n0_ n1_;(try clear hb);(try clear hb2);(try clear hk);(try clear hi))|((with_reducible refine gate_dst (N:=7) rfl ?_);refine box_event ?hg (N:=7) ?hd (cs:=#[.int .i64 0,.int .i64 0,.int .i64 0,.int .i64 0]) (t:=23) ?hr ?_;(case hd => rfl);(case hg => rfl);(case hr => first|(go_simp;done)|(go_simp;rfl));intro gb187 hg w18 hbox hb;have n0_:=Aside0.mk (blk_below (g:=gb179) (o:=.cells #[.int .i64 a0_0,.int .i64 a0_1,.int .i64 a0_2,.int .i64 a0_3] 23 (0,0)) (by (with_reducible repeat (first|refine blk_drewN ?_ _|refine blk_drew ?_|refine blk_alloc ?_ _));exact BK179.out) hb);have n1_:=Aside0.mk (below_step (by repeat (first|(with_reducible first|exact HB.out|apply below_alloc|apply pw_below_drewN|apply below_drew1|refine below_set ?_ GE179.out)|exact HB.out)) hb);have n2_:=Aside0.mk (hbox);have n3_:=Aside0.mk ((by rw [hg];exact (below_size (by repeat (first|(with_reducible first|exact HB.out|apply below_alloc|apply pw_below_drewN|apply below_drew1|refine below_set ?_ GE179.out)|exact HB.out))):w.heap.size≤gb187));have n4_:=Aside0.mk ((by rw [hg];exact (below_size (by repeat (first|(with_reducible first|exact HB.out|apply below_alloc|apply pw_below_drewN|apply below_drew1|refine below_set ?_ GE179.out)|exact HB.out))):w.heap.size≤gb187));have n5_:=Aside0.mk ((by rw [hg];exact Nat.ne_of_lt (blk_lt (g:=gb179) (o:=.cells #[.int .i64 a0_0,.int .i64 a0_1,.int .i64 a0_2,.int .i64 a0_3] 23 (0,0)) (by (with_reducible repeat (first|refine blk_drewN ?_ _|refine blk_drew ?_|refine blk_alloc ?_ _));exact BK179.out)):gb179 ≠ gb187));have n6_:=Aside0.mk ((by rw [hg];exact Nat.ne_of_gt (blk_lt (g:=gb179) (o:=.cells #[.int .i64 a0_0,.int .i64 a0_1,.int .i64 a0_2,.int .i64 a0_3] 23 (0,0)) (by (with_reducible repeat (first|refine blk_drewN ?_ _|refine blk_drew ?_|refine blk_alloc ?_ _));exact BK179.out)):gb187 ≠ gb179));clear BK179;clear HB;have BK179:=n0_;have HB:=n1_;have BK187:=n2_;have GW187:=n3_;have GE187:=n4_;have NB179_187:=n5_;have NB187_179:=n6_;clear n0_ n1_ n2_ n3_ n4_ n5_ n6_;clear hb hbox hg;have hnb19:=NB187_179.out;have hnc19:=NB179_187.out;have hcz20_0:w18.cell? ⟨gb187,0,none⟩=some (.int .i64 0):=(blk_cell BK187.out 0).trans rfl;have hcz20_1:w18.cell? ⟨gb187,1,none⟩=some (.int .i64 0):=(blk_cell BK187.out 1).trans rfl;have hcz20_2:w18.cell? ⟨gb187,2,none⟩=some (.int .i64 0):=(blk_cell BK187.out 2).trans rfl;have hcz20_3:w18.cell? ⟨gb187,3,none⟩=some (.int .i64 0):=(blk_cell BK187.out 3).trans rfl;have hfz20_0:=blk_frozen BK187.out 0;have hfz20_1:=blk_frozen BK187.out 1;have hfz20_2:=blk_frozen BK187.out 2;have hfz20_3:=blk_frozen BK187.out 3;have hcz21_0:w18.cell? ⟨gb179,0,none⟩=some (.int .i64 a0_0):=(blk_cell BK179.out 0).trans rfl;have hcz21_1:w18.cell? ⟨gb179,1,none⟩=some (.int .i64 a0_1):=(blk_cell BK179.out 1).trans rfl;have hcz21_2:w18.cell? ⟨gb179,2,none⟩=some (.int .i64 a0_2):=(blk_cell BK179.out 2).trans rfl;have hcz21_3:w18.cell? ⟨gb179,3,none⟩=some (.int .i64 a0_3):=(blk_cell BK179.out 3).trans rfl;have hfz21_0:=blk_frozen BK179.out 0;have hfz21_1:=blk_frozen BK179.out 1;have hfz21_2:=blk_frozen BK179.out 2;have hfz21_3:=blk_frozen BK179.out 3))
     go_meet
     case rel => exact ⟨_,H',⟨by first|omega|exact Nat.le_refl _⟩,⟨by (with_reducible repeat (first|refine blk_drewN ?_ _|refine blk_drew ?_|refine blk_alloc ?_ _));refine blk_far ?_ NB179_187.out _;(with_reducible repeat (first|refine blk_drewN ?_ _|refine blk_drew ?_|refine blk_alloc ?_ _));refine blk_far ?_ NB179_187.out _;(with_reducible repeat (first|refine blk_drewN ?_ _|refine blk_drew ?_|refine blk_alloc ?_ _));refine blk_far ?_ NB179_187.out _;(with_reducible repeat (first|refine blk_drewN ?_ _|refine blk_drew ?_|refine blk_alloc ?_ _));refine blk_far ?_ NB179_187.out _;(with_reducible repeat (first|refine blk_drewN ?_ _|refine blk_drew ?_|refine blk_alloc ?_ _));exact BK179.out⟩,⟨by repeat (first|(with_reducible first|exact HB.out|apply below_alloc|apply pw_below_drewN|apply below_drew1|refine below_set ?_ GE179.out|refine below_set ?_ GE187.out)|exact HB.out)⟩⟩
   ·rw [if_neg c10] at H
    have c10b0:(t186==0)=false:=beq_eq_false_iff_ne.mpr c10
    have c10b1:(t186 != 0)=true:=bne_iff_ne.mpr c10
    obtain rfl:=Option.some.inj H
    go_wp2_with (first|((with_reducible refine gate_callee (f:=8) rfl ?_);refine goesL_ (some 22) rfl rfl Tryd.func8 (by kernel_rfl) rfl #[.string t180] rfl (by (try simp only [List.map_toArray,List.map_cons,List.map_nil]);first|done|rfl|(simp only [List.length_drop,List.length_take];rfl)) ?_;(with_reducible refine (script_Act.calls k t180 t182 t183 t184 t185 t186 _ ?side1 A9.out).mono ?_);(case side1 => exact ⟨GG.below hG.out (by repeat (first|(with_reducible first|exact HB.out|apply below_alloc|apply pw_below_drewN|apply below_drew1|refine below_set ?_ GE179.out)|exact HB.out))⟩);rintro e w22 ⟨rfl,hb⟩;refine ⟨_,rfl,?_⟩;have n0_:=Aside0.mk (blk_below (g:=gb179) (o:=.cells #[.int .i64 a0_0,.int .i64 a0_1,.int .i64 a0_2,.int .i64 a0_3] 23 (0,0)) (by (with_reducible repeat (first|refine blk_drewN ?_ _|refine blk_drew ?_|refine blk_alloc ?_ _));exact BK179.out) hb);have n1_:=Aside0.mk (below_step (by repeat (first|(with_reducible first|exact HB.out|apply below_alloc|apply pw_below_drewN|apply below_drew1|refine below_set ?_ GE179.out)|exact HB.out)) hb);clear BK179;clear HB;have BK179:=n0_;have HB:=n1_;clear n0_ n1_;(try clear hb);(try clear hb2);(try clear hk);(try clear hi))|((with_reducible refine gate_dst (N:=7) rfl ?_);refine box_event ?hg (N:=7) ?hd (cs:=#[.int .i64 0,.int .i64 0,.int .i64 0,.int .i64 0]) (t:=23) ?hr ?_;(case hd => rfl);(case hg => rfl);(case hr => first|(go_simp;done)|(go_simp;rfl));intro gb187 hg w23 hbox hb;have n0_:=Aside0.mk (blk_below (g:=gb179) (o:=.cells #[.int .i64 a0_0,.int .i64 a0_1,.int .i64 a0_2,.int .i64 a0_3] 23 (0,0)) (by (with_reducible repeat (first|refine blk_drewN ?_ _|refine blk_drew ?_|refine blk_alloc ?_ _));exact BK179.out) hb);have n1_:=Aside0.mk (below_step (by repeat (first|(with_reducible first|exact HB.out|apply below_alloc|apply pw_below_drewN|apply below_drew1|refine below_set ?_ GE179.out)|exact HB.out)) hb);have n2_:=Aside0.mk (hbox);have n3_:=Aside0.mk ((by rw [hg];exact (below_size (by repeat (first|(with_reducible first|exact HB.out|apply below_alloc|apply pw_below_drewN|apply below_drew1|refine below_set ?_ GE179.out)|exact HB.out))):w.heap.size≤gb187));have n4_:=Aside0.mk ((by rw [hg];exact (below_size (by repeat (first|(with_reducible first|exact HB.out|apply below_alloc|apply pw_below_drewN|apply below_drew1|refine below_set ?_ GE179.out)|exact HB.out))):w.heap.size≤gb187));have n5_:=Aside0.mk ((by rw [hg];exact Nat.ne_of_lt (blk_lt (g:=gb179) (o:=.cells #[.int .i64 a0_0,.int .i64 a0_1,.int .i64 a0_2,.int .i64 a0_3] 23 (0,0)) (by (with_reducible repeat (first|refine blk_drewN ?_ _|refine blk_drew ?_|refine blk_alloc ?_ _));exact BK179.out)):gb179 ≠ gb187));have n6_:=Aside0.mk ((by rw [hg];exact Nat.ne_of_gt (blk_lt (g:=gb179) (o:=.cells #[.int .i64 a0_0,.int .i64 a0_1,.int .i64 a0_2,.int .i64 a0_3] 23 (0,0)) (by (with_reducible repeat (first|refine blk_drewN ?_ _|refine blk_drew ?_|refine blk_alloc ?_ _));exact BK179.out)):gb187 ≠ gb179));clear BK179;clear HB;have BK179:=n0_;have HB:=n1_;have BK187:=n2_;have GW187:=n3_;have GE187:=n4_;have NB179_187:=n5_;have NB187_179:=n6_;clear n0_ n1_ n2_ n3_ n4_ n5_ n6_;clear hb hbox hg;have hnb24:=NB187_179.out;have hnc24:=NB179_187.out;have hcz25_0:w23.cell? ⟨gb187,0,none⟩=some (.int .i64 0):=(blk_cell BK187.out 0).trans rfl;have hcz25_1:w23.cell? ⟨gb187,1,none⟩=some (.int .i64 0):=(blk_cell BK187.out 1).trans rfl;have hcz25_2:w23.cell? ⟨gb187,2,none⟩=some (.int .i64 0):=(blk_cell BK187.out 2).trans rfl;have hcz25_3:w23.cell? ⟨gb187,3,none⟩=some (.int .i64 0):=(blk_cell BK187.out 3).trans rfl;have hfz25_0:=blk_frozen BK187.out 0;have hfz25_1:=blk_frozen BK187.out 1;have hfz25_2:=blk_frozen BK187.out 2;have hfz25_3:=blk_frozen BK187.out 3))
    go_ret
    exact ⟨by first|rfl|(simp [errW_none,errW_some] <;> rfl)|(simp [*,errW_none,errW_some] <;> rfl),by repeat (first|(with_reducible first|exact HB.out|apply below_alloc|apply pw_below_drewN|apply below_drew1|refine below_set ?_ GE179.out|refine below_set ?_ GE187.out)|exact HB.out)⟩
  ·rw [if_neg c8] at H
   have c8b0:(t181==0)=false:=beq_eq_false_iff_ne.mpr c8
   have c8b1:(t181 != 0)=true:=bne_iff_ne.mpr c8
   (first|rw [c8b0]|(simp only [i64_w,i32_w];rw [c8b0])|skip)
   have H':=Aside0.mk H
   clear H
   go_wp2
   go_meet
   case rel => exact ⟨_,H',⟨by first|omega|exact Nat.le_refl _⟩,⟨by (with_reducible repeat (first|refine blk_drewN ?_ _|refine blk_drew ?_|refine blk_alloc ?_ _));exact BK179.out⟩,⟨by repeat (first|(with_reducible first|exact HB.out|apply below_alloc|apply pw_below_drewN|apply below_drew1|refine below_set ?_ GE179.out)|exact HB.out)⟩⟩
 case rest =>
  clear HC4
  try clear c1;try clear c2;try clear p2;try clear c4;try clear c5;try clear c8;try clear c8b0;try clear c8b1;try clear c10;try clear c10b0;try clear c10b1;try clear c11;try clear c11b0;try clear c14;try clear c19;try clear c24;try clear hcz15_0;try clear hcz15_1;try clear hcz15_2;try clear hcz15_3;try clear hcz16_0;try clear hcz16_1;try clear hcz16_2;try clear hcz16_3;try clear hcz20_0;try clear hcz20_1;try clear hcz20_2;try clear hcz20_3;try clear hcz21_0;try clear hcz21_1;try clear hcz21_2;try clear hcz21_3;try clear hcz25_0;try clear hcz25_1;try clear hcz25_2;try clear hcz25_3;try clear hcz6_0;try clear hcz6_1;try clear hcz6_2;try clear hcz6_3;try clear hfz15_0;try clear hfz15_1;try clear hfz15_2;try clear hfz15_3;try clear hfz16_0;try clear hfz16_1;try clear hfz16_2;try clear hfz16_3;try clear hfz20_0;try clear hfz20_1;try clear hfz20_2;try clear hfz20_3;try clear hfz21_0;try clear hfz21_1;try clear hfz21_2;try clear hfz21_3;try clear hfz25_0;try clear hfz25_1;try clear hfz25_2;try clear hfz25_3;try clear hfz6_0;try clear hfz6_1;try clear hfz6_2;try clear hfz6_3
  obtain ⟨kq,HA,HJ3,BK179,HB⟩:=hcut
  cases kq with
  | zero => exact absurd HA.out (by simp [understudylaw23_ScriptBack.j0])
  | succ kj3 =>
   have H:=HA.out
   clear HA
   simp only [understudylaw23_ScriptBack.j0] at H
   replace H:=Option.bind_eq_some_iff.mp H
   obtain ⟨⟨t188,t189,t190,t191,t192⟩,A260,H⟩:=H
   replace H:(if t192=0 then ((script_Print.f t188 t189 t190 t191).bind fun bt194 => (if bt194.2=0 then (if bt194.1.toList=a1.toList then ((understudylaw23_awake.f).bind fun t196 => (some t196)) else (some false)) else (some false))) else (if t192=4 then ((understudylaw23_awake.f).bind fun t197 => (some t197)) else (some false)))=some r:=H
   have A26:=Aside0.mk A260
   clear A260
   by_cases c27:t192=0
   ·rw [if_pos c27] at H
    have c27b0:(t192==0)=true:=beq_iff_eq.mpr c27
    have c27b1:(t192 != 0)=false:=bne_eq_false_iff_eq.mpr c27
    clear c27
    replace H:=Option.bind_eq_some_iff.mp H
    obtain ⟨⟨t194,t195⟩,A280,H⟩:=H
    replace H:(if t195=0 then (if t194.toList=a1.toList then ((understudylaw23_awake.f).bind fun t196 => (some t196)) else (some false)) else (some false))=some r:=H
    have A28:=Aside0.mk A280
    clear A280
    by_cases c29:t195=0
    ·rw [if_pos c29] at H
     have c29b0:(t195==0)=true:=beq_iff_eq.mpr c29
     have c29b1:(t195 != 0)=false:=bne_eq_false_iff_eq.mpr c29
     clear c29
     by_cases c30:t194.toList=a1.toList
     ·rw [if_pos c30] at H
      have c30b0:(t194.toList==a1.toList)=true:=beq_iff_eq.mpr c30
      have c30b1:(t194.toList != a1.toList)=false:=bne_eq_false_iff_eq.mpr c30
      clear c30
      replace H:=Option.bind_eq_some_iff.mp H
      obtain ⟨t196,A310,H⟩:=H
      replace H:(some t196)=some r:=H
      have A31:=Aside0.mk A310
      clear A310
      obtain rfl:=Option.some.inj H
      go_wp2_with (first|((with_reducible refine gate_callee (f:=8) rfl ?_);refine goesL_ (some 34) rfl rfl Tryd.func8 (by kernel_rfl) rfl #[.string a1] rfl (by (try simp only [List.map_toArray,List.map_cons,List.map_nil]);first|done|rfl|(simp only [List.length_drop,List.length_take];rfl)) ?_;(with_reducible refine (script_Act.calls kj3 a1 t188 t189 t190 t191 t192 _ ?side1 A26.out).mono ?_);(case side1 => exact ⟨GG.below hG.out (by repeat (first|(with_reducible first|exact HB.out|apply below_alloc|apply pw_below_drewN|apply below_drew1|refine below_set ?_ GE179.out)|exact HB.out))⟩);rintro e w32 ⟨rfl,hb⟩;refine ⟨_,rfl,?_⟩;have n0_:=Aside0.mk (blk_below (g:=gb179) (o:=.cells #[.int .i64 a0_0,.int .i64 a0_1,.int .i64 a0_2,.int .i64 a0_3] 23 (0,0)) (by (with_reducible repeat (first|refine blk_drewN ?_ _|refine blk_drew ?_|refine blk_alloc ?_ _));exact BK179.out) hb);have n1_:=Aside0.mk (below_step (by repeat (first|(with_reducible first|exact HB.out|apply below_alloc|apply pw_below_drewN|apply below_drew1|refine below_set ?_ GE179.out)|exact HB.out)) hb);clear BK179;clear HB;have BK179:=n0_;have HB:=n1_;clear n0_ n1_;(try clear hb);(try clear hb2);(try clear hk);(try clear hi))|((with_reducible refine gate_dst (N:=9) rfl ?_);refine box_event ?hg (N:=9) ?hd (cs:=#[.int .i64 0,.int .i64 0,.int .i64 0,.int .i64 0]) (t:=23) ?hr ?_;(case hd => rfl);(case hg => rfl);(case hr => first|(go_simp;done)|(go_simp;rfl));intro gb193 hg w33 hbox hb;have n0_:=Aside0.mk (blk_below (g:=gb179) (o:=.cells #[.int .i64 a0_0,.int .i64 a0_1,.int .i64 a0_2,.int .i64 a0_3] 23 (0,0)) (by (with_reducible repeat (first|refine blk_drewN ?_ _|refine blk_drew ?_|refine blk_alloc ?_ _));exact BK179.out) hb);have n1_:=Aside0.mk (below_step (by repeat (first|(with_reducible first|exact HB.out|apply below_alloc|apply pw_below_drewN|apply below_drew1|refine below_set ?_ GE179.out)|exact HB.out)) hb);have n2_:=Aside0.mk (hbox);have n3_:=Aside0.mk ((by rw [hg];exact (below_size (by repeat (first|(with_reducible first|exact HB.out|apply below_alloc|apply pw_below_drewN|apply below_drew1|refine below_set ?_ GE179.out)|exact HB.out))):w.heap.size≤gb193));have n4_:=Aside0.mk ((by rw [hg];exact (below_size (by repeat (first|(with_reducible first|exact HB.out|apply below_alloc|apply pw_below_drewN|apply below_drew1|refine below_set ?_ GE179.out)|exact HB.out))):w.heap.size≤gb193));have n5_:=Aside0.mk ((by rw [hg];exact Nat.ne_of_lt (blk_lt (g:=gb179) (o:=.cells #[.int .i64 a0_0,.int .i64 a0_1,.int .i64 a0_2,.int .i64 a0_3] 23 (0,0)) (by (with_reducible repeat (first|refine blk_drewN ?_ _|refine blk_drew ?_|refine blk_alloc ?_ _));exact BK179.out)):gb179 ≠ gb193));have n6_:=Aside0.mk ((by rw [hg];exact Nat.ne_of_gt (blk_lt (g:=gb179) (o:=.cells #[.int .i64 a0_0,.int .i64 a0_1,.int .i64 a0_2,.int .i64 a0_3] 23 (0,0)) (by (with_reducible repeat (first|refine blk_drewN ?_ _|refine blk_drew ?_|refine blk_alloc ?_ _));exact BK179.out)):gb193 ≠ gb179));clear BK179;clear HB;have BK179:=n0_;have HB:=n1_;have BK193:=n2_;have GW193:=n3_;have GE193:=n4_;have NB179_193:=n5_;have NB193_179:=n6_;clear n0_ n1_ n2_ n3_ n4_ n5_ n6_;clear hb hbox hg;have hnb34:=NB193_179.out;have hnc34:=NB179_193.out;have hcz35_0:w33.cell? ⟨gb193,0,none⟩=some (.int .i64 0):=(blk_cell BK193.out 0).trans rfl;have hcz35_1:w33.cell? ⟨gb193,1,none⟩=some (.int .i64 0):=(blk_cell BK193.out 1).trans rfl;have hcz35_2:w33.cell? ⟨gb193,2,none⟩=some (.int .i64 0):=(blk_cell BK193.out 2).trans rfl;have hcz35_3:w33.cell? ⟨gb193,3,none⟩=some (.int .i64 0):=(blk_cell BK193.out 3).trans rfl;have hfz35_0:=blk_frozen BK193.out 0;have hfz35_1:=blk_frozen BK193.out 1;have hfz35_2:=blk_frozen BK193.out 2;have hfz35_3:=blk_frozen BK193.out 3)|((with_reducible refine gate_callee (f:=5) rfl ?_);refine goesL_ (some 46) rfl rfl Tryd.func5 (by kernel_rfl) rfl #[.agg #[.int .i64 t188,.int .i64 t189,.int .i64 t190,.int .i64 t191]] rfl (by (try simp only [List.map_toArray,List.map_cons,List.map_nil]);first|done|rfl|(simp only [List.length_drop,List.length_take];rfl)) ?_;(with_reducible refine (script_Print.calls t188 t189 t190 t191 t194 t195 _ ?side1 A28.out).mono ?_);(case side1 => exact ⟨GG.below hG.out (by repeat (first|(with_reducible first|exact HB.out|apply below_alloc|apply pw_below_drewN|apply below_drew1|refine below_set ?_ GE179.out|refine below_set ?_ GE193.out)|exact HB.out))⟩);rintro e w36 ⟨rfl,hb⟩;refine ⟨_,rfl,?_⟩;have n0_:=Aside0.mk (blk_below (g:=gb179) (o:=.cells #[.int .i64 a0_0,.int .i64 a0_1,.int .i64 a0_2,.int .i64 a0_3] 23 (0,0)) (by (with_reducible repeat (first|refine blk_drewN ?_ _|refine blk_drew ?_|refine blk_alloc ?_ _));refine blk_far ?_ NB179_193.out _;(with_reducible repeat (first|refine blk_drewN ?_ _|refine blk_drew ?_|refine blk_alloc ?_ _));refine blk_far ?_ NB179_193.out _;(with_reducible repeat (first|refine blk_drewN ?_ _|refine blk_drew ?_|refine blk_alloc ?_ _));refine blk_far ?_ NB179_193.out _;(with_reducible repeat (first|refine blk_drewN ?_ _|refine blk_drew ?_|refine blk_alloc ?_ _));refine blk_far ?_ NB179_193.out _;(with_reducible repeat (first|refine blk_drewN ?_ _|refine blk_drew ?_|refine blk_alloc ?_ _));exact BK179.out) hb);have n1_:=Aside0.mk (blk_below (g:=gb193) (o:=.cells #[.int .i64 t188,.int .i64 t189,.int .i64 t190,.int .i64 t191] 23 (0,0)) (by (with_reducible repeat (first|refine blk_drewN ?_ _|refine blk_drew ?_|refine blk_alloc ?_ _));refine blk_put (cs:=#[.int .i64 t188,.int .i64 t189,.int .i64 t190,.int .i64 0]) ?_ 3 _ rfl;(with_reducible repeat (first|refine blk_drewN ?_ _|refine blk_drew ?_|refine blk_alloc ?_ _));refine blk_put (cs:=#[.int .i64 t188,.int .i64 t189,.int .i64 0,.int .i64 0]) ?_ 2 _ rfl;(with_reducible repeat (first|refine blk_drewN ?_ _|refine blk_drew ?_|refine blk_alloc ?_ _));refine blk_put (cs:=#[.int .i64 t188,.int .i64 0,.int .i64 0,.int .i64 0]) ?_ 1 _ rfl;(with_reducible repeat (first|refine blk_drewN ?_ _|refine blk_drew ?_|refine blk_alloc ?_ _));refine blk_put (cs:=#[.int .i64 0,.int .i64 0,.int .i64 0,.int .i64 0]) ?_ 0 _ rfl;(with_reducible repeat (first|refine blk_drewN ?_ _|refine blk_drew ?_|refine blk_alloc ?_ _));exact BK193.out) hb);have n2_:=Aside0.mk (below_step (by repeat (first|(with_reducible first|exact HB.out|apply below_alloc|apply pw_below_drewN|apply below_drew1|refine below_set ?_ GE179.out|refine below_set ?_ GE193.out)|exact HB.out)) hb);clear BK179;clear BK193;clear HB;have BK179:=n0_;have BK193:=n1_;have HB:=n2_;clear n0_ n1_ n2_;(try clear hb);(try clear hb2);(try clear hk);(try clear hi))|(go_at_call 7;(with_reducible refine (understudylaw23_awake.calls  t196 _ ?side1 A31.out).mono ?_);(case side1 => exact ⟨GG.below hG.out (by repeat (first|(with_reducible first|exact HB.out|apply below_alloc|apply pw_below_drewN|apply below_drew1|refine below_set ?_ GE179.out|refine below_set ?_ GE193.out)|exact HB.out))⟩);rintro e w37 ⟨rfl,hb⟩;have n0_:=Aside0.mk (blk_below (g:=gb179) (o:=.cells #[.int .i64 a0_0,.int .i64 a0_1,.int .i64 a0_2,.int .i64 a0_3] 23 (0,0)) (by (with_reducible repeat (first|refine blk_drewN ?_ _|refine blk_drew ?_|refine blk_alloc ?_ _));exact BK179.out) hb);have n1_:=Aside0.mk (blk_below (g:=gb193) (o:=.cells #[.int .i64 t188,.int .i64 t189,.int .i64 t190,.int .i64 t191] 23 (0,0)) (by (with_reducible repeat (first|refine blk_drewN ?_ _|refine blk_drew ?_|refine blk_alloc ?_ _));exact BK193.out) hb);have n2_:=Aside0.mk (below_step (by repeat (first|(with_reducible first|exact HB.out|apply below_alloc|apply pw_below_drewN|apply below_drew1|refine below_set ?_ GE179.out|refine below_set ?_ GE193.out)|exact HB.out)) hb);clear BK179;clear BK193;clear HB;have BK179:=n0_;have BK193:=n1_;have HB:=n2_;clear n0_ n1_ n2_;(try clear hb);(try clear hb2);(try clear hk);(try clear hi)))
      go_ret
      exact ⟨by first|rfl|(simp [errW_none,errW_some] <;> rfl)|(simp [*,errW_none,errW_some] <;> rfl),by repeat (first|(with_reducible first|exact HB.out|apply below_alloc|apply pw_below_drewN|apply below_drew1|refine below_set ?_ GE179.out|refine below_set ?_ GE193.out)|exact HB.out)⟩
     ·rw [if_neg c30] at H
      have c30b0:(t194.toList==a1.toList)=false:=beq_eq_false_iff_ne.mpr c30
      have c30b1:(t194.toList != a1.toList)=true:=bne_iff_ne.mpr c30
      obtain rfl:=Option.some.inj H
      go_wp2_with (first|((with_reducible refine gate_callee (f:=8) rfl ?_);refine goesL_ (some 34) rfl rfl Tryd.func8 (by kernel_rfl) rfl #[.string a1] rfl (by (try simp only [List.map_toArray,List.map_cons,List.map_nil]);first|done|rfl|(simp only [List.length_drop,List.length_take];rfl)) ?_;(with_reducible refine (script_Act.calls kj3 a1 t188 t189 t190 t191 t192 _ ?side1 A26.out).mono ?_);(case side1 => exact ⟨GG.below hG.out (by repeat (first|(with_reducible first|exact HB.out|apply below_alloc|apply pw_below_drewN|apply below_drew1|refine below_set ?_ GE179.out)|exact HB.out))⟩);rintro e w38 ⟨rfl,hb⟩;refine ⟨_,rfl,?_⟩;have n0_:=Aside0.mk (blk_below (g:=gb179) (o:=.cells #[.int .i64 a0_0,.int .i64 a0_1,.int .i64 a0_2,.int .i64 a0_3] 23 (0,0)) (by (with_reducible repeat (first|refine blk_drewN ?_ _|refine blk_drew ?_|refine blk_alloc ?_ _));exact BK179.out) hb);have n1_:=Aside0.mk (below_step (by repeat (first|(with_reducible first|exact HB.out|apply below_alloc|apply pw_below_drewN|apply below_drew1|refine below_set ?_ GE179.out)|exact HB.out)) hb);clear BK179;clear HB;have BK179:=n0_;have HB:=n1_;clear n0_ n1_;(try clear hb);(try clear hb2);(try clear hk);(try clear hi))|((with_reducible refine gate_dst (N:=9) rfl ?_);refine box_event ?hg (N:=9) ?hd (cs:=#[.int .i64 0,.int .i64 0,.int .i64 0,.int .i64 0]) (t:=23) ?hr ?_;(case hd => rfl);(case hg => rfl);(case hr => first|(go_simp;done)|(go_simp;rfl));intro gb193 hg w39 hbox hb;have n0_:=Aside0.mk (blk_below (g:=gb179) (o:=.cells #[.int .i64 a0_0,.int .i64 a0_1,.int .i64 a0_2,.int .i64 a0_3] 23 (0,0)) (by (with_reducible repeat (first|refine blk_drewN ?_ _|refine blk_drew ?_|refine blk_alloc ?_ _));exact BK179.out) hb);have n1_:=Aside0.mk (below_step (by repeat (first|(with_reducible first|exact HB.out|apply below_alloc|apply pw_below_drewN|apply below_drew1|refine below_set ?_ GE179.out)|exact HB.out)) hb);have n2_:=Aside0.mk (hbox);have n3_:=Aside0.mk ((by rw [hg];exact (below_size (by repeat (first|(with_reducible first|exact HB.out|apply below_alloc|apply pw_below_drewN|apply below_drew1|refine below_set ?_ GE179.out)|exact HB.out))):w.heap.size≤gb193));have n4_:=Aside0.mk ((by rw [hg];exact (below_size (by repeat (first|(with_reducible first|exact HB.out|apply below_alloc|apply pw_below_drewN|apply below_drew1|refine below_set ?_ GE179.out)|exact HB.out))):w.heap.size≤gb193));have n5_:=Aside0.mk ((by rw [hg];exact Nat.ne_of_lt (blk_lt (g:=gb179) (o:=.cells #[.int .i64 a0_0,.int .i64 a0_1,.int .i64 a0_2,.int .i64 a0_3] 23 (0,0)) (by (with_reducible repeat (first|refine blk_drewN ?_ _|refine blk_drew ?_|refine blk_alloc ?_ _));exact BK179.out)):gb179 ≠ gb193));have n6_:=Aside0.mk ((by rw [hg];exact Nat.ne_of_gt (blk_lt (g:=gb179) (o:=.cells #[.int .i64 a0_0,.int .i64 a0_1,.int .i64 a0_2,.int .i64 a0_3] 23 (0,0)) (by (with_reducible repeat (first|refine blk_drewN ?_ _|refine blk_drew ?_|refine blk_alloc ?_ _));exact BK179.out)):gb193 ≠ gb179));clear BK179;clear HB;have BK179:=n0_;have HB:=n1_;have BK193:=n2_;have GW193:=n3_;have GE193:=n4_;have NB179_193:=n5_;have NB193_179:=n6_;clear n0_ n1_ n2_ n3_ n4_ n5_ n6_;clear hb hbox hg;have hnb40:=NB193_179.out;have hnc40:=NB179_193.out;have hcz41_0:w39.cell? ⟨gb193,0,none⟩=some (.int .i64 0):=(blk_cell BK193.out 0).trans rfl;have hcz41_1:w39.cell? ⟨gb193,1,none⟩=some (.int .i64 0):=(blk_cell BK193.out 1).trans rfl;have hcz41_2:w39.cell? ⟨gb193,2,none⟩=some (.int .i64 0):=(blk_cell BK193.out 2).trans rfl;have hcz41_3:w39.cell? ⟨gb193,3,none⟩=some (.int .i64 0):=(blk_cell BK193.out 3).trans rfl;have hfz41_0:=blk_frozen BK193.out 0;have hfz41_1:=blk_frozen BK193.out 1;have hfz41_2:=blk_frozen BK193.out 2;have hfz41_3:=blk_frozen BK193.out 3)|((with_reducible refine gate_callee (f:=5) rfl ?_);refine goesL_ (some 46) rfl rfl Tryd.func5 (by kernel_rfl) rfl #[.agg #[.int .i64 t188,.int .i64 t189,.int .i64 t190,.int .i64 t191]] rfl (by (try simp only [List.map_toArray,List.map_cons,List.map_nil]);first|done|rfl|(simp only [List.length_drop,List.length_take];rfl)) ?_;(with_reducible refine (script_Print.calls t188 t189 t190 t191 t194 t195 _ ?side1 A28.out).mono ?_);(case side1 => exact ⟨GG.below hG.out (by repeat (first|(with_reducible first|exact HB.out|apply below_alloc|apply pw_below_drewN|apply below_drew1|refine below_set ?_ GE179.out|refine below_set ?_ GE193.out)|exact HB.out))⟩);rintro e w42 ⟨rfl,hb⟩;refine ⟨_,rfl,?_⟩;have n0_:=Aside0.mk (blk_below (g:=gb179) (o:=.cells #[.int .i64 a0_0,.int .i64 a0_1,.int .i64 a0_2,.int .i64 a0_3] 23 (0,0)) (by (with_reducible repeat (first|refine blk_drewN ?_ _|refine blk_drew ?_|refine blk_alloc ?_ _));refine blk_far ?_ NB179_193.out _;(with_reducible repeat (first|refine blk_drewN ?_ _|refine blk_drew ?_|refine blk_alloc ?_ _));refine blk_far ?_ NB179_193.out _;(with_reducible repeat (first|refine blk_drewN ?_ _|refine blk_drew ?_|refine blk_alloc ?_ _));refine blk_far ?_ NB179_193.out _;(with_reducible repeat (first|refine blk_drewN ?_ _|refine blk_drew ?_|refine blk_alloc ?_ _));refine blk_far ?_ NB179_193.out _;(with_reducible repeat (first|refine blk_drewN ?_ _|refine blk_drew ?_|refine blk_alloc ?_ _));exact BK179.out) hb);have n1_:=Aside0.mk (blk_below (g:=gb193) (o:=.cells #[.int .i64 t188,.int .i64 t189,.int .i64 t190,.int .i64 t191] 23 (0,0)) (by (with_reducible repeat (first|refine blk_drewN ?_ _|refine blk_drew ?_|refine blk_alloc ?_ _));refine blk_put (cs:=#[.int .i64 t188,.int .i64 t189,.int .i64 t190,.int .i64 0]) ?_ 3 _ rfl;(with_reducible repeat (first|refine blk_drewN ?_ _|refine blk_drew ?_|refine blk_alloc ?_ _));refine blk_put (cs:=#[.int .i64 t188,.int .i64 t189,.int .i64 0,.int .i64 0]) ?_ 2 _ rfl;(with_reducible repeat (first|refine blk_drewN ?_ _|refine blk_drew ?_|refine blk_alloc ?_ _));refine blk_put (cs:=#[.int .i64 t188,.int .i64 0,.int .i64 0,.int .i64 0]) ?_ 1 _ rfl;(with_reducible repeat (first|refine blk_drewN ?_ _|refine blk_drew ?_|refine blk_alloc ?_ _));refine blk_put (cs:=#[.int .i64 0,.int .i64 0,.int .i64 0,.int .i64 0]) ?_ 0 _ rfl;(with_reducible repeat (first|refine blk_drewN ?_ _|refine blk_drew ?_|refine blk_alloc ?_ _));exact BK193.out) hb);have n2_:=Aside0.mk (below_step (by repeat (first|(with_reducible first|exact HB.out|apply below_alloc|apply pw_below_drewN|apply below_drew1|refine below_set ?_ GE179.out|refine below_set ?_ GE193.out)|exact HB.out)) hb);clear BK179;clear BK193;clear HB;have BK179:=n0_;have BK193:=n1_;have HB:=n2_;clear n0_ n1_ n2_;(try clear hb);(try clear hb2);(try clear hk);(try clear hi)))
      go_ret
      exact ⟨by first|rfl|(simp [errW_none,errW_some] <;> rfl)|(simp [*,errW_none,errW_some] <;> rfl),by repeat (first|(with_reducible first|exact HB.out|apply below_alloc|apply pw_below_drewN|apply below_drew1|refine below_set ?_ GE179.out|refine below_set ?_ GE193.out)|exact HB.out)⟩
    ·rw [if_neg c29] at H
     have c29b0:(t195==0)=false:=beq_eq_false_iff_ne.mpr c29
     have c29b1:(t195 != 0)=true:=bne_iff_ne.mpr c29
     obtain rfl:=Option.some.inj H
     go_wp2_with (first|((with_reducible refine gate_callee (f:=8) rfl ?_);refine goesL_ (some 34) rfl rfl Tryd.func8 (by kernel_rfl) rfl #[.string a1] rfl (by (try simp only [List.map_toArray,List.map_cons,List.map_nil]);first|done|rfl|(simp only [List.length_drop,List.length_take];rfl)) ?_;(with_reducible refine (script_Act.calls kj3 a1 t188 t189 t190 t191 t192 _ ?side1 A26.out).mono ?_);(case side1 => exact ⟨GG.below hG.out (by repeat (first|(with_reducible first|exact HB.out|apply below_alloc|apply pw_below_drewN|apply below_drew1|refine below_set ?_ GE179.out)|exact HB.out))⟩);rintro e w43 ⟨rfl,hb⟩;refine ⟨_,rfl,?_⟩;have n0_:=Aside0.mk (blk_below (g:=gb179) (o:=.cells #[.int .i64 a0_0,.int .i64 a0_1,.int .i64 a0_2,.int .i64 a0_3] 23 (0,0)) (by (with_reducible repeat (first|refine blk_drewN ?_ _|refine blk_drew ?_|refine blk_alloc ?_ _));exact BK179.out) hb);have n1_:=Aside0.mk (below_step (by repeat (first|(with_reducible first|exact HB.out|apply below_alloc|apply pw_below_drewN|apply below_drew1|refine below_set ?_ GE179.out)|exact HB.out)) hb);clear BK179;clear HB;have BK179:=n0_;have HB:=n1_;clear n0_ n1_;(try clear hb);(try clear hb2);(try clear hk);(try clear hi))|((with_reducible refine gate_dst (N:=9) rfl ?_);refine box_event ?hg (N:=9) ?hd (cs:=#[.int .i64 0,.int .i64 0,.int .i64 0,.int .i64 0]) (t:=23) ?hr ?_;(case hd => rfl);(case hg => rfl);(case hr => first|(go_simp;done)|(go_simp;rfl));intro gb193 hg w44 hbox hb;have n0_:=Aside0.mk (blk_below (g:=gb179) (o:=.cells #[.int .i64 a0_0,.int .i64 a0_1,.int .i64 a0_2,.int .i64 a0_3] 23 (0,0)) (by (with_reducible repeat (first|refine blk_drewN ?_ _|refine blk_drew ?_|refine blk_alloc ?_ _));exact BK179.out) hb);have n1_:=Aside0.mk (below_step (by repeat (first|(with_reducible first|exact HB.out|apply below_alloc|apply pw_below_drewN|apply below_drew1|refine below_set ?_ GE179.out)|exact HB.out)) hb);have n2_:=Aside0.mk (hbox);have n3_:=Aside0.mk ((by rw [hg];exact (below_size (by repeat (first|(with_reducible first|exact HB.out|apply below_alloc|apply pw_below_drewN|apply below_drew1|refine below_set ?_ GE179.out)|exact HB.out))):w.heap.size≤gb193));have n4_:=Aside0.mk ((by rw [hg];exact (below_size (by repeat (first|(with_reducible first|exact HB.out|apply below_alloc|apply pw_below_drewN|apply below_drew1|refine below_set ?_ GE179.out)|exact HB.out))):w.heap.size≤gb193));have n5_:=Aside0.mk ((by rw [hg];exact Nat.ne_of_lt (blk_lt (g:=gb179) (o:=.cells #[.int .i64 a0_0,.int .i64 a0_1,.int .i64 a0_2,.int .i64 a0_3] 23 (0,0)) (by (with_reducible repeat (first|refine blk_drewN ?_ _|refine blk_drew ?_|refine blk_alloc ?_ _));exact BK179.out)):gb179 ≠ gb193));have n6_:=Aside0.mk ((by rw [hg];exact Nat.ne_of_gt (blk_lt (g:=gb179) (o:=.cells #[.int .i64 a0_0,.int .i64 a0_1,.int .i64 a0_2,.int .i64 a0_3] 23 (0,0)) (by (with_reducible repeat (first|refine blk_drewN ?_ _|refine blk_drew ?_|refine blk_alloc ?_ _));exact BK179.out)):gb193 ≠ gb179));clear BK179;clear HB;have BK179:=n0_;have HB:=n1_;have BK193:=n2_;have GW193:=n3_;have GE193:=n4_;have NB179_193:=n5_;have NB193_179:=n6_;clear n0_ n1_ n2_ n3_ n4_ n5_ n6_;clear hb hbox hg;have hnb45:=NB193_179.out;have hnc45:=NB179_193.out;have hcz46_0:w44.cell? ⟨gb193,0,none⟩=some (.int .i64 0):=(blk_cell BK193.out 0).trans rfl;have hcz46_1:w44.cell? ⟨gb193,1,none⟩=some (.int .i64 0):=(blk_cell BK193.out 1).trans rfl;have hcz46_2:w44.cell? ⟨gb193,2,none⟩=some (.int .i64 0):=(blk_cell BK193.out 2).trans rfl;have hcz46_3:w44.cell? ⟨gb193,3,none⟩=some (.int .i64 0):=(blk_cell BK193.out 3).trans rfl;have hfz46_0:=blk_frozen BK193.out 0;have hfz46_1:=blk_frozen BK193.out 1;have hfz46_2:=blk_frozen BK193.out 2;have hfz46_3:=blk_frozen BK193.out 3)|((with_reducible refine gate_callee (f:=5) rfl ?_);refine goesL_ (some 46) rfl rfl Tryd.func5 (by kernel_rfl) rfl #[.agg #[.int .i64 t188,.int .i64 t189,.int .i64 t190,.int .i64 t191]] rfl (by (try simp only [List.map_toArray,List.map_cons,List.map_nil]);first|done|rfl|(simp only [List.length_drop,List.length_take];rfl)) ?_;(with_reducible refine (script_Print.calls t188 t189 t190 t191 t194 t195 _ ?side1 A28.out).mono ?_);(case side1 => exact ⟨GG.below hG.out (by repeat (first|(with_reducible first|exact HB.out|apply below_alloc|apply pw_below_drewN|apply below_drew1|refine below_set ?_ GE179.out|refine below_set ?_ GE193.out)|exact HB.out))⟩);rintro e w47 ⟨rfl,hb⟩;refine ⟨_,rfl,?_⟩;have n0_:=Aside0.mk (blk_below (g:=gb179) (o:=.cells #[.int .i64 a0_0,.int .i64 a0_1,.int .i64 a0_2,.int .i64 a0_3] 23 (0,0)) (by (with_reducible repeat (first|refine blk_drewN ?_ _|refine blk_drew ?_|refine blk_alloc ?_ _));refine blk_far ?_ NB179_193.out _;(with_reducible repeat (first|refine blk_drewN ?_ _|refine blk_drew ?_|refine blk_alloc ?_ _));refine blk_far ?_ NB179_193.out _;(with_reducible repeat (first|refine blk_drewN ?_ _|refine blk_drew ?_|refine blk_alloc ?_ _));refine blk_far ?_ NB179_193.out _;(with_reducible repeat (first|refine blk_drewN ?_ _|refine blk_drew ?_|refine blk_alloc ?_ _));refine blk_far ?_ NB179_193.out _;(with_reducible repeat (first|refine blk_drewN ?_ _|refine blk_drew ?_|refine blk_alloc ?_ _));exact BK179.out) hb);have n1_:=Aside0.mk (blk_below (g:=gb193) (o:=.cells #[.int .i64 t188,.int .i64 t189,.int .i64 t190,.int .i64 t191] 23 (0,0)) (by (with_reducible repeat (first|refine blk_drewN ?_ _|refine blk_drew ?_|refine blk_alloc ?_ _));refine blk_put (cs:=#[.int .i64 t188,.int .i64 t189,.int .i64 t190,.int .i64 0]) ?_ 3 _ rfl;(with_reducible repeat (first|refine blk_drewN ?_ _|refine blk_drew ?_|refine blk_alloc ?_ _));refine blk_put (cs:=#[.int .i64 t188,.int .i64 t189,.int .i64 0,.int .i64 0]) ?_ 2 _ rfl;(with_reducible repeat (first|refine blk_drewN ?_ _|refine blk_drew ?_|refine blk_alloc ?_ _));refine blk_put (cs:=#[.int .i64 t188,.int .i64 0,.int .i64 0,.int .i64 0]) ?_ 1 _ rfl;(with_reducible repeat (first|refine blk_drewN ?_ _|refine blk_drew ?_|refine blk_alloc ?_ _));refine blk_put (cs:=#[.int .i64 0,.int .i64 0,.int .i64 0,.int .i64 0]) ?_ 0 _ rfl;(with_reducible repeat (first|refine blk_drewN ?_ _|refine blk_drew ?_|refine blk_alloc ?_ _));exact BK193.out) hb);have n2_:=Aside0.mk (below_step (by repeat (first|(with_reducible first|exact HB.out|apply below_alloc|apply pw_below_drewN|apply below_drew1|refine below_set ?_ GE179.out|refine below_set ?_ GE193.out)|exact HB.out)) hb);clear BK179;clear BK193;clear HB;have BK179:=n0_;have BK193:=n1_;have HB:=n2_;clear n0_ n1_ n2_;(try clear hb);(try clear hb2);(try clear hk);(try clear hi)))
     go_ret
     exact ⟨by first|rfl|(simp [errW_none,errW_some] <;> rfl)|(simp [*,errW_none,errW_some] <;> rfl),by repeat (first|(with_reducible first|exact HB.out|apply below_alloc|apply pw_below_drewN|apply below_drew1|refine below_set ?_ GE179.out|refine below_set ?_ GE193.out)|exact HB.out)⟩
   ·rw [if_neg c27] at H
    have c27b0:(t192==0)=false:=beq_eq_false_iff_ne.mpr c27
    have c27b1:(t192 != 0)=true:=bne_iff_ne.mpr c27
    by_cases c48:t192=4
    ·rw [if_pos c48] at H
     have c48b0:(t192==4)=true:=beq_iff_eq.mpr c48
     have c48b1:(t192 != 4)=false:=bne_eq_false_iff_eq.mpr c48
     clear c48
     replace H:=Option.bind_eq_some_iff.mp H
     obtain ⟨t197,A490,H⟩:=H
     replace H:(some t197)=some r:=H
     have A49:=Aside0.mk A490
     clear A490
     obtain rfl:=Option.some.inj H
     go_wp2_with (first|((with_reducible refine gate_callee (f:=8) rfl ?_);refine goesL_ (some 34) rfl rfl Tryd.func8 (by kernel_rfl) rfl #[.string a1] rfl (by (try simp only [List.map_toArray,List.map_cons,List.map_nil]);first|done|rfl|(simp only [List.length_drop,List.length_take];rfl)) ?_;(with_reducible refine (script_Act.calls kj3 a1 t188 t189 t190 t191 t192 _ ?side1 A26.out).mono ?_);(case side1 => exact ⟨GG.below hG.out (by repeat (first|(with_reducible first|exact HB.out|apply below_alloc|apply pw_below_drewN|apply below_drew1|refine below_set ?_ GE179.out)|exact HB.out))⟩);rintro e w50 ⟨rfl,hb⟩;refine ⟨_,rfl,?_⟩;have n0_:=Aside0.mk (blk_below (g:=gb179) (o:=.cells #[.int .i64 a0_0,.int .i64 a0_1,.int .i64 a0_2,.int .i64 a0_3] 23 (0,0)) (by (with_reducible repeat (first|refine blk_drewN ?_ _|refine blk_drew ?_|refine blk_alloc ?_ _));exact BK179.out) hb);have n1_:=Aside0.mk (below_step (by repeat (first|(with_reducible first|exact HB.out|apply below_alloc|apply pw_below_drewN|apply below_drew1|refine below_set ?_ GE179.out)|exact HB.out)) hb);clear BK179;clear HB;have BK179:=n0_;have HB:=n1_;clear n0_ n1_;(try clear hb);(try clear hb2);(try clear hk);(try clear hi))|((with_reducible refine gate_dst (N:=9) rfl ?_);refine box_event ?hg (N:=9) ?hd (cs:=#[.int .i64 0,.int .i64 0,.int .i64 0,.int .i64 0]) (t:=23) ?hr ?_;(case hd => rfl);(case hg => rfl);(case hr => first|(go_simp;done)|(go_simp;rfl));intro gb193 hg w51 hbox hb;have n0_:=Aside0.mk (blk_below (g:=gb179) (o:=.cells #[.int .i64 a0_0,.int .i64 a0_1,.int .i64 a0_2,.int .i64 a0_3] 23 (0,0)) (by (with_reducible repeat (first|refine blk_drewN ?_ _|refine blk_drew ?_|refine blk_alloc ?_ _));exact BK179.out) hb);have n1_:=Aside0.mk (below_step (by repeat (first|(with_reducible first|exact HB.out|apply below_alloc|apply pw_below_drewN|apply below_drew1|refine below_set ?_ GE179.out)|exact HB.out)) hb);have n2_:=Aside0.mk (hbox);have n3_:=Aside0.mk ((by rw [hg];exact (below_size (by repeat (first|(with_reducible first|exact HB.out|apply below_alloc|apply pw_below_drewN|apply below_drew1|refine below_set ?_ GE179.out)|exact HB.out))):w.heap.size≤gb193));have n4_:=Aside0.mk ((by rw [hg];exact (below_size (by repeat (first|(with_reducible first|exact HB.out|apply below_alloc|apply pw_below_drewN|apply below_drew1|refine below_set ?_ GE179.out)|exact HB.out))):w.heap.size≤gb193));have n5_:=Aside0.mk ((by rw [hg];exact Nat.ne_of_lt (blk_lt (g:=gb179) (o:=.cells #[.int .i64 a0_0,.int .i64 a0_1,.int .i64 a0_2,.int .i64 a0_3] 23 (0,0)) (by (with_reducible repeat (first|refine blk_drewN ?_ _|refine blk_drew ?_|refine blk_alloc ?_ _));exact BK179.out)):gb179 ≠ gb193));have n6_:=Aside0.mk ((by rw [hg];exact Nat.ne_of_gt (blk_lt (g:=gb179) (o:=.cells #[.int .i64 a0_0,.int .i64 a0_1,.int .i64 a0_2,.int .i64 a0_3] 23 (0,0)) (by (with_reducible repeat (first|refine blk_drewN ?_ _|refine blk_drew ?_|refine blk_alloc ?_ _));exact BK179.out)):gb193 ≠ gb179));clear BK179;clear HB;have BK179:=n0_;have HB:=n1_;have BK193:=n2_;have GW193:=n3_;have GE193:=n4_;have NB179_193:=n5_;have NB193_179:=n6_;clear n0_ n1_ n2_ n3_ n4_ n5_ n6_;clear hb hbox hg;have hnb52:=NB193_179.out;have hnc52:=NB179_193.out;have hcz53_0:w51.cell? ⟨gb193,0,none⟩=some (.int .i64 0):=(blk_cell BK193.out 0).trans rfl;have hcz53_1:w51.cell? ⟨gb193,1,none⟩=some (.int .i64 0):=(blk_cell BK193.out 1).trans rfl;have hcz53_2:w51.cell? ⟨gb193,2,none⟩=some (.int .i64 0):=(blk_cell BK193.out 2).trans rfl;have hcz53_3:w51.cell? ⟨gb193,3,none⟩=some (.int .i64 0):=(blk_cell BK193.out 3).trans rfl;have hfz53_0:=blk_frozen BK193.out 0;have hfz53_1:=blk_frozen BK193.out 1;have hfz53_2:=blk_frozen BK193.out 2;have hfz53_3:=blk_frozen BK193.out 3)|(go_at_call 7;(with_reducible refine (understudylaw23_awake.calls  t197 _ ?side1 A49.out).mono ?_);(case side1 => exact ⟨GG.below hG.out (by repeat (first|(with_reducible first|exact HB.out|apply below_alloc|apply pw_below_drewN|apply below_drew1|refine below_set ?_ GE179.out|refine below_set ?_ GE193.out)|exact HB.out))⟩);rintro e w54 ⟨rfl,hb⟩;have n0_:=Aside0.mk (blk_below (g:=gb179) (o:=.cells #[.int .i64 a0_0,.int .i64 a0_1,.int .i64 a0_2,.int .i64 a0_3] 23 (0,0)) (by (with_reducible repeat (first|refine blk_drewN ?_ _|refine blk_drew ?_|refine blk_alloc ?_ _));refine blk_far ?_ NB179_193.out _;(with_reducible repeat (first|refine blk_drewN ?_ _|refine blk_drew ?_|refine blk_alloc ?_ _));refine blk_far ?_ NB179_193.out _;(with_reducible repeat (first|refine blk_drewN ?_ _|refine blk_drew ?_|refine blk_alloc ?_ _));refine blk_far ?_ NB179_193.out _;(with_reducible repeat (first|refine blk_drewN ?_ _|refine blk_drew ?_|refine blk_alloc ?_ _));refine blk_far ?_ NB179_193.out _;(with_reducible repeat (first|refine blk_drewN ?_ _|refine blk_drew ?_|refine blk_alloc ?_ _));exact BK179.out) hb);have n1_:=Aside0.mk (blk_below (g:=gb193) (o:=.cells #[.int .i64 t188,.int .i64 t189,.int .i64 t190,.int .i64 t191] 23 (0,0)) (by (with_reducible repeat (first|refine blk_drewN ?_ _|refine blk_drew ?_|refine blk_alloc ?_ _));refine blk_put (cs:=#[.int .i64 t188,.int .i64 t189,.int .i64 t190,.int .i64 0]) ?_ 3 _ rfl;(with_reducible repeat (first|refine blk_drewN ?_ _|refine blk_drew ?_|refine blk_alloc ?_ _));refine blk_put (cs:=#[.int .i64 t188,.int .i64 t189,.int .i64 0,.int .i64 0]) ?_ 2 _ rfl;(with_reducible repeat (first|refine blk_drewN ?_ _|refine blk_drew ?_|refine blk_alloc ?_ _));refine blk_put (cs:=#[.int .i64 t188,.int .i64 0,.int .i64 0,.int .i64 0]) ?_ 1 _ rfl;(with_reducible repeat (first|refine blk_drewN ?_ _|refine blk_drew ?_|refine blk_alloc ?_ _));refine blk_put (cs:=#[.int .i64 0,.int .i64 0,.int .i64 0,.int .i64 0]) ?_ 0 _ rfl;(with_reducible repeat (first|refine blk_drewN ?_ _|refine blk_drew ?_|refine blk_alloc ?_ _));exact BK193.out) hb);have n2_:=Aside0.mk (below_step (by repeat (first|(with_reducible first|exact HB.out|apply below_alloc|apply pw_below_drewN|apply below_drew1|refine below_set ?_ GE179.out|refine below_set ?_ GE193.out)|exact HB.out)) hb);clear BK179;clear BK193;clear HB;have BK179:=n0_;have BK193:=n1_;have HB:=n2_;clear n0_ n1_ n2_;(try clear hb);(try clear hb2);(try clear hk);(try clear hi)))
     go_ret
     exact ⟨by first|rfl|(simp [errW_none,errW_some] <;> rfl)|(simp [*,errW_none,errW_some] <;> rfl),by repeat (first|(with_reducible first|exact HB.out|apply below_alloc|apply pw_below_drewN|apply below_drew1|refine below_set ?_ GE179.out|refine below_set ?_ GE193.out)|exact HB.out)⟩
    ·rw [if_neg c48] at H
     have c48b0:(t192==4)=false:=beq_eq_false_iff_ne.mpr c48
     have c48b1:(t192 != 4)=true:=bne_iff_ne.mpr c48
     obtain rfl:=Option.some.inj H
     go_wp2_with (first|((with_reducible refine gate_callee (f:=8) rfl ?_);refine goesL_ (some 34) rfl rfl Tryd.func8 (by kernel_rfl) rfl #[.string a1] rfl (by (try simp only [List.map_toArray,List.map_cons,List.map_nil]);first|done|rfl|(simp only [List.length_drop,List.length_take];rfl)) ?_;(with_reducible refine (script_Act.calls kj3 a1 t188 t189 t190 t191 t192 _ ?side1 A26.out).mono ?_);(case side1 => exact ⟨GG.below hG.out (by repeat (first|(with_reducible first|exact HB.out|apply below_alloc|apply pw_below_drewN|apply below_drew1|refine below_set ?_ GE179.out)|exact HB.out))⟩);rintro e w55 ⟨rfl,hb⟩;refine ⟨_,rfl,?_⟩;have n0_:=Aside0.mk (blk_below (g:=gb179) (o:=.cells #[.int .i64 a0_0,.int .i64 a0_1,.int .i64 a0_2,.int .i64 a0_3] 23 (0,0)) (by (with_reducible repeat (first|refine blk_drewN ?_ _|refine blk_drew ?_|refine blk_alloc ?_ _));exact BK179.out) hb);have n1_:=Aside0.mk (below_step (by repeat (first|(with_reducible first|exact HB.out|apply below_alloc|apply pw_below_drewN|apply below_drew1|refine below_set ?_ GE179.out)|exact HB.out)) hb);clear BK179;clear HB;have BK179:=n0_;have HB:=n1_;clear n0_ n1_;(try clear hb);(try clear hb2);(try clear hk);(try clear hi))|((with_reducible refine gate_dst (N:=9) rfl ?_);refine box_event ?hg (N:=9) ?hd (cs:=#[.int .i64 0,.int .i64 0,.int .i64 0,.int .i64 0]) (t:=23) ?hr ?_;(case hd => rfl);(case hg => rfl);(case hr => first|(go_simp;done)|(go_simp;rfl));intro gb193 hg w56 hbox hb;have n0_:=Aside0.mk (blk_below (g:=gb179) (o:=.cells #[.int .i64 a0_0,.int .i64 a0_1,.int .i64 a0_2,.int .i64 a0_3] 23 (0,0)) (by (with_reducible repeat (first|refine blk_drewN ?_ _|refine blk_drew ?_|refine blk_alloc ?_ _));exact BK179.out) hb);have n1_:=Aside0.mk (below_step (by repeat (first|(with_reducible first|exact HB.out|apply below_alloc|apply pw_below_drewN|apply below_drew1|refine below_set ?_ GE179.out)|exact HB.out)) hb);have n2_:=Aside0.mk (hbox);have n3_:=Aside0.mk ((by rw [hg];exact (below_size (by repeat (first|(with_reducible first|exact HB.out|apply below_alloc|apply pw_below_drewN|apply below_drew1|refine below_set ?_ GE179.out)|exact HB.out))):w.heap.size≤gb193));have n4_:=Aside0.mk ((by rw [hg];exact (below_size (by repeat (first|(with_reducible first|exact HB.out|apply below_alloc|apply pw_below_drewN|apply below_drew1|refine below_set ?_ GE179.out)|exact HB.out))):w.heap.size≤gb193));have n5_:=Aside0.mk ((by rw [hg];exact Nat.ne_of_lt (blk_lt (g:=gb179) (o:=.cells #[.int .i64 a0_0,.int .i64 a0_1,.int .i64 a0_2,.int .i64 a0_3] 23 (0,0)) (by (with_reducible repeat (first|refine blk_drewN ?_ _|refine blk_drew ?_|refine blk_alloc ?_ _));exact BK179.out)):gb179 ≠ gb193));have n6_:=Aside0.mk ((by rw [hg];exact Nat.ne_of_gt (blk_lt (g:=gb179) (o:=.cells #[.int .i64 a0_0,.int .i64 a0_1,.int .i64 a0_2,.int .i64 a0_3] 23 (0,0)) (by (with_reducible repeat (first|refine blk_drewN ?_ _|refine blk_drew ?_|refine blk_alloc ?_ _));exact BK179.out)):gb193 ≠ gb179));clear BK179;clear HB;have BK179:=n0_;have HB:=n1_;have BK193:=n2_;have GW193:=n3_;have GE193:=n4_;have NB179_193:=n5_;have NB193_179:=n6_;clear n0_ n1_ n2_ n3_ n4_ n5_ n6_;clear hb hbox hg;have hnb57:=NB193_179.out;have hnc57:=NB179_193.out;have hcz58_0:w56.cell? ⟨gb193,0,none⟩=some (.int .i64 0):=(blk_cell BK193.out 0).trans rfl;have hcz58_1:w56.cell? ⟨gb193,1,none⟩=some (.int .i64 0):=(blk_cell BK193.out 1).trans rfl;have hcz58_2:w56.cell? ⟨gb193,2,none⟩=some (.int .i64 0):=(blk_cell BK193.out 2).trans rfl;have hcz58_3:w56.cell? ⟨gb193,3,none⟩=some (.int .i64 0):=(blk_cell BK193.out 3).trans rfl;have hfz58_0:=blk_frozen BK193.out 0;have hfz58_1:=blk_frozen BK193.out 1;have hfz58_2:=blk_frozen BK193.out 2;have hfz58_3:=blk_frozen BK193.out 3))
     go_ret
     exact ⟨by first|rfl|(simp [errW_none,errW_some] <;> rfl)|(simp [*,errW_none,errW_some] <;> rfl),by repeat (first|(with_reducible first|exact HB.out|apply below_alloc|apply pw_below_drewN|apply below_drew1|refine below_set ?_ GE179.out|refine below_set ?_ GE193.out)|exact HB.out)⟩
end Go.Proofs.YteooddfilnijgaaDoor.Px
namespace Go.Proofs.YteooddfilnijgaaDoor.Px
open Go.RowKit Go.Proofs.YteooddfilnijgaaDoorW.PrintWords Go.Proofs.YteooddfilnijgaaDoorW.PrintLast Go.Proofs.YteooddfilnijgaaDoorW.PrintMore
set_option linter.unusedVariables false
set_option linter.unusedSimpArgs false
abbrev tld (x:Int):ByteArray:=⟨(Lib.itoa x).toArray⟩
theorem tld_size {x:Int} (h0:-9223372036854775808≤x) (h1:x≤9223372036854775807):(tld x).size≤21:=by
 show (Lib.itoa x).toArray.size≤21
 rw [List.size_toArray]
 exact Lib.itoa_length_le x h0 h1
theorem itoa_nat (u:Nat):Lib.itoa (u:Int)=Lib.decDigits u:=by unfold Lib.itoa;rw [if_neg (by omega)];rfl
theorem itoa_negn (u:Nat) (h:0 < u):Lib.itoa (-(u:Int))=45 :: Lib.decDigits u:=by
 unfold Lib.itoa
 rw [if_pos (by omega),show (-(u:Int)).natAbs=u by omega]
theorem bytes_app (a b:List UInt8):(⟨a.toArray⟩:ByteArray)++⟨b.toArray⟩=⟨(a++b).toArray⟩:=by
 apply ByteArray.ext
 rw [ByteArray.data_append]
 simp
theorem str_digit {d:Nat} (h:d < 10):strOfNums [(48 + (d:Int))]=⟨[UInt8.ofNat (48 + d)].toArray⟩:=by
 unfold strOfNums
 obtain rfl|rfl|rfl|rfl|rfl|rfl|rfl|rfl|rfl|rfl:d=0 ∨ d=1 ∨ d=2 ∨ d=3 ∨ d=4 ∨ d=5 ∨ d=6 ∨ d=7 ∨ d=8 ∨ d=9:=by omega
 all_goals rfl
theorem told.ev_nat:∀ (u:Nat),u < 1000000000000000000→Ev (fun k => understudyref23_told.f k (u:Int)) (tld (u:Int)):=by
 intro u
 induction u using Nat.strongRecOn with
 | _ u ih =>
  intro hu
  have e1:(wrap64 (48 + Int.tmod (u:Int) 10)) % 256=48 + ((u % 10:Nat):Int):=by
   rw [Int.tmod_eq_emod_of_nonneg (by omega)]
   unfold wrap64
   omega
  by_cases h:u < 10
  ·refine Ev.step (f:=fun _ => some (strOfNums [48 + ((u % 10:Nat):Int)])) (fun k => ?_) ?_
   ·simp only [understudyref23_told.f]
    rw [if_neg (by omega),Option.bind_some,if_neg (by omega),e1]
   ·rw [str_digit (by omega)]
    have:tld (u:Int)=⟨[UInt8.ofNat (48 + u % 10)].toArray⟩:=by unfold tld;rw [itoa_nat,Lib.decDigits,dif_pos h,Nat.mod_eq_of_lt h]
    rw [this]
    exact Ev.now _
  ·have e2:wrap64 (Int.tdiv (u:Int) 10)=((u / 10:Nat):Int):=by
    rw [Int.tdiv_eq_ediv_of_nonneg (by omega)]
    unfold wrap64
    omega
   have hs:=tld_size (x:=((u / 10:Nat):Int)) (by omega) (by omega)
   refine Ev.step (f:=fun k => (understudyref23_told.f k ((u / 10:Nat):Int)).bind fun t => if t.size + (strOfNums [48 + ((u % 10:Nat):Int)]).size≤9223372036854775807 then some (t++strOfNums [48 + ((u % 10:Nat):Int)]) else none) (fun k => ?_) ?_
   ·simp only [understudyref23_told.f]
    rw [if_neg (by omega),Option.bind_some,if_pos (by omega),e1,e2]
   ·rw [str_digit (by omega)]
    have e3:tld ((u / 10:Nat):Int)++⟨[UInt8.ofNat (48 + u % 10)].toArray⟩=tld (u:Int):=by
     unfold tld
     rw [bytes_app,itoa_nat,itoa_nat u]
     conv => rhs;rw [Lib.decDigits,dif_neg h]
    have e4:(⟨[UInt8.ofNat (48 + u % 10)].toArray⟩:ByteArray).size=1:=rfl
    refine Ev.bind (ih (u / 10) (by omega) (by omega)) ?_
    refine Ev.congr (fun k => if_pos (by rw [e4];omega)) ?_
    rw [e3]
    exact Ev.now _
theorem told.ev {x:Int} (h:fit18 x=true):Ev (fun k => understudyref23_told.f k x) (tld x):=by
 have hx:=of_decide_eq_true h
 by_cases h0:x < 0
 ·obtain ⟨u,rfl⟩:∃ u:Nat,x=-(u:Int):=⟨x.natAbs,by omega⟩
  have hu:0 < u:=by omega
  have e45:(⟨#[45]⟩:ByteArray).size=1:=rfl
  have e5:tld (-(u:Int))=⟨[45].toArray⟩++⟨(Lib.decDigits u).toArray⟩:=by unfold tld;rw [bytes_app,itoa_negn u hu];rfl
  by_cases h9:-(u:Int) < -9
  ·have e1:wrap64 (-(wrap64 (Int.tdiv (-(u:Int)) 10)))=((u / 10:Nat):Int):=by
    rw [Int.neg_tdiv,Int.tdiv_eq_ediv_of_nonneg (by omega)]
    unfold wrap64
    omega
   have e2:wrap64 (-(Int.tmod (-(u:Int)) 10))=((u % 10:Nat):Int):=by
    rw [Int.neg_tmod,Int.tmod_eq_emod_of_nonneg (by omega)]
    unfold wrap64
    omega
   have s1:=tld_size (x:=((u / 10:Nat):Int)) (by omega) (by omega)
   have s2:=tld_size (x:=((u % 10:Nat):Int)) (by omega) (by omega)
   refine Ev.step (f:=fun k => (understudyref23_told.f k ((u / 10:Nat):Int)).bind fun t141 => if 1 + t141.size≤9223372036854775807 then (understudyref23_told.f k ((u % 10:Nat):Int)).bind fun t142 => if ((⟨#[45]⟩:ByteArray)++t141).size + t142.size≤9223372036854775807 then some (((⟨#[45]⟩:ByteArray)++t141)++t142) else none else none) (fun k => ?_) ?_
   ·simp only [understudyref23_told.f]
    rw [if_pos h0,if_pos h9,e1,e2]
   ·refine Ev.bind (told.ev_nat (u / 10) (by omega)) (Ev.congr (fun k => if_pos (by omega)) (Ev.bind (told.ev_nat (u % 10) (by omega)) (Ev.congr (fun k => if_pos (by rw [ByteArray.size_append];omega)) ?_)))
    have e3:((⟨#[45]⟩:ByteArray)++tld ((u / 10:Nat):Int))++tld ((u % 10:Nat):Int)=tld (-(u:Int)):=by
     rw [e5]
     show ((⟨[45].toArray⟩:ByteArray)++tld ((u / 10:Nat):Int))++tld ((u % 10:Nat):Int)=_
     unfold tld
     rw [bytes_app,bytes_app,bytes_app,itoa_nat,itoa_nat,List.append_assoc]
     have hd:Lib.decDigits u=Lib.decDigits (u / 10)++Lib.decDigits (u % 10):=by
      rw [Lib.decDigits_one (by omega:u % 10 < 10)]
      conv => lhs;rw [Lib.decDigits,dif_neg (by omega)]
     rw [hd]
    rw [e3]
    exact Ev.now _
  ·have e1:wrap64 (-(-(u:Int)))=(u:Int):=by unfold wrap64;omega
   have s1:=tld_size (x:=(u:Int)) (by omega) (by omega)
   refine Ev.step (f:=fun k => (understudyref23_told.f k (u:Int)).bind fun t143 => if 1 + t143.size≤9223372036854775807 then some ((⟨#[45]⟩:ByteArray)++t143) else none) (fun k => ?_) ?_
   ·simp only [understudyref23_told.f]
    rw [if_pos h0,if_neg h9,e1]
   ·refine Ev.bind (told.ev_nat u (by omega)) (Ev.congr (fun k => if_pos (by omega)) ?_)
    have e3:(⟨#[45]⟩:ByteArray)++tld (u:Int)=tld (-(u:Int)):=by
     rw [e5]
     unfold tld
     rw [itoa_nat]
    rw [e3]
    exact Ev.now _
 ·obtain ⟨u,rfl⟩:=Int.eq_ofNat_of_zero_le (by omega:0≤x)
  exact told.ev_nat u (by omega)
abbrev namesL:List ByteArray:=[(⟨#[114,117,110]⟩:ByteArray),(⟨#[105,110,112,117,116]⟩:ByteArray),(⟨#[99,108,111,99,107]⟩:ByteArray),(⟨#[116,105,99,107]⟩:ByteArray),(⟨#[100,101,108,105,118,101,114]⟩:ByteArray),(⟨#[100,114,111,112]⟩:ByteArray),(⟨#[116,119,105,99,101]⟩:ByteArray),(⟨#[99,114,97,115,104]⟩:ByteArray)]
theorem names_at {k:Int} (h0:0≤k) (h7:k≤7):rdOf ByteArray.empty namesL k=nameV k:=by
 obtain rfl|rfl|rfl|rfl|rfl|rfl|rfl|rfl:k=0 ∨ k=1 ∨ k=2 ∨ k=3 ∨ k=4 ∨ k=5 ∨ k=6 ∨ k=7:=by omega
 all_goals rfl
theorem fits.eq (x:Int):understudyref23_fits.f x=some (fit18 x):=by
 unfold understudyref23_fits.f fit18
 by_cases h:x ≥ -999999999999999999
 ·rw [if_pos h]
  congr 1
  rw [Bool.eq_iff_iff,decide_eq_true_eq,decide_eq_true_eq]
  omega
 ·rw [if_neg h,decide_eq_false (by omega)]
theorem rp.ev_bad (k a b n:Int):Ev (fun j => understudyref23_Print.j0 j namesL true k a b n) (⟨#[]⟩,1) :=
 Ev.step (f:=fun _ => some ((⟨#[]⟩:ByteArray),(1:Int))) (fun j => by simp only [understudyref23_Print.j0];rw [if_pos trivial]) (Ev.now _)
theorem name_len (k:Int):(nameV k).size≤100:=name_size k
theorem fit_i64 {x:Int} (h:fit18 x=true):(tld x).size≤21:=by have:=of_decide_eq_true h;exact tld_size (by omega) (by omega)
theorem rp.ev_good {k a b n:Int} (h0:0≤k) (h7:k≤7) (ha:fit18 a=true) (hb:fit18 b=true) (hn:fit18 n=true):Ev (fun j => understudyref23_Print.j0 j namesL false k a b n) (outV (nameV k) (numsL k a b n)):=by
 have e32:(⟨#[32]⟩:ByteArray).size=1:=rfl
 have l0:=name_len k
 have sa:=fit_i64 ha
 have sb:=fit_i64 hb
 have sn:=fit_i64 hn
 have hlen:(namesL.length:Int)=8:=rfl
 refine Ev.step (fun j => by simp only [understudyref23_Print.j0];rw [if_neg (by simp),if_pos h0,if_pos (by rw [hlen];omega),names_at h0 h7,if_pos (by omega)]) ?_
 refine Ev.bind (told.ev ha) (Ev.congr (fun j => if_pos (by rw [ByteArray.size_append];omega)) ?_)
 unfold numsL
 by_cases c0:k=0
 ·rw [if_pos c0]
  refine Ev.congr (fun j => (if_pos c0).trans (if_pos (by simp only [ByteArray.size_append];omega))) ?_
  refine Ev.bind (told.ev hb) (Ev.congr (fun j => (if_pos (by simp only [ByteArray.size_append];omega)).trans ((if_pos (by omega)).trans (if_pos (by simp only [ByteArray.size_append];omega)))) ?_)
  refine Ev.bind (told.ev hn) (Ev.congr (fun j => if_pos (by simp only [ByteArray.size_append];omega)) ?_)
  unfold outV
  rw [if_pos ha]
  unfold outV
  rw [if_pos hb]
  unfold outV
  rw [if_pos hn]
  unfold outV
  simp only [ByteArray.append_assoc]
  exact Ev.now _
 ·rw [if_neg c0]
  by_cases c2:k=1 ∨ k=2
  ·rw [if_pos c2]
   refine Ev.congr (fun j => (if_neg c0).trans ((if_pos (by omega)).trans (if_pos (by simp only [ByteArray.size_append];omega)))) ?_
   refine Ev.bind (told.ev hn) (Ev.congr (fun j => if_pos (by simp only [ByteArray.size_append];omega)) ?_)
   unfold outV
   rw [if_pos ha]
   unfold outV
   rw [if_pos hn]
   unfold outV
   simp only [ByteArray.append_assoc]
   exact Ev.now _
  ·rw [if_neg c2]
   refine Ev.congr (fun j => (if_neg c0).trans (if_neg (by omega))) ?_
   unfold outV
   rw [if_pos ha]
   unfold outV
   simp only [ByteArray.append_assoc]
   exact Ev.now _
theorem out_bad {s:ByteArray}:∀ (l:List Int) (s:ByteArray),(∃ x ∈ l,fit18 x=false)→outV s l=(⟨#[]⟩,1)
 | [],s,h => by obtain ⟨x,hx,_⟩:=h;cases hx
 | y :: l,s,h => by
  unfold outV
  by_cases hy:fit18 y=true
  ·rw [if_pos hy]
   refine out_bad (s:=s) l _ ?_
   obtain ⟨x,hx,hf⟩:=h
   rcases List.mem_cons.1 hx with rfl|hx
   ·rw [hy] at hf;cases hf
   ·exact ⟨x,hx,hf⟩
  ·rw [if_neg hy]
theorem fit_zero18:fit18 0=true:=by decide
theorem ref_Print.ev (k a b n:Int):Ev (fun j => understudyref23_Print.f j k a b n) (printV k a b n):=by
 have hlen:(namesL.length:Int)=8:=rfl
 unfold understudyref23_Print.f printV
 simp only [understudyref23_names.f,Option.bind_some,fits.eq]
 show Ev (fun j => if k < 0 then understudyref23_Print.j0 j namesL true k a b n else if k ≥ (namesL.length:Int) then _ else _) _
 by_cases c0:k < 0
 ·rw [if_pos (.inl c0)]
  exact Ev.congr (fun j => if_pos c0) (rp.ev_bad k a b n)
 by_cases c7:k ≥ (namesL.length:Int)
 ·rw [if_pos (.inr (by omega))]
  exact Ev.congr (fun j => (if_neg c0).trans (if_pos c7)) (rp.ev_bad k a b n)
 have hk:0≤k∧k≤7:=by omega
 rw [if_neg (by omega)]
 refine Ev.congr (fun j => (if_neg c0).trans (if_neg c7)) ?_
 have bad:fit18 a=false ∨ fit18 b=false ∨ fit18 n=false→(if k ≠ 0∧b ≠ 0 then ((⟨#[]⟩:ByteArray),(1:Int)) else if k ≠ 0∧k ≠ 1∧k ≠ 2∧n ≠ 0 then (⟨#[]⟩,1) else outV (nameV k) (numsL k a b n))=(⟨#[]⟩,1):=by
  intro h
  by_cases d1:k ≠ 0∧b ≠ 0
  ·rw [if_pos d1]
  rw [if_neg d1]
  by_cases d2:k ≠ 0∧k ≠ 1∧k ≠ 2∧n ≠ 0
  ·rw [if_pos d2]
  rw [if_neg d2]
  refine out_bad (s:=⟨#[]⟩) _ _ ?_
  unfold numsL
  by_cases e0:k=0
  ·rw [if_pos e0]
   rcases h with h|h|h
   ·exact ⟨a,by simp,h⟩
   ·exact ⟨b,by simp,h⟩
   ·exact ⟨n,by simp,h⟩
  ·rw [if_neg e0]
   have hb0:b=0:=by omega
   by_cases e2:k=1 ∨ k=2
   ·rw [if_pos e2]
    rcases h with h|h|h
    ·exact ⟨a,by simp,h⟩
    ·rw [hb0,fit_zero18] at h;cases h
    ·exact ⟨n,by simp,h⟩
   ·rw [if_neg e2]
    have hn0:n=0:=by omega
    rcases h with h|h|h
    ·exact ⟨a,by simp,h⟩
    ·rw [hb0,fit_zero18] at h;cases h
    ·rw [hn0,fit_zero18] at h;cases h
 cases fa:fit18 a with
 | false =>
  rw [bad (.inl fa)]
  exact Ev.congr (fun j => if_neg (by simp)) (rp.ev_bad k a b n)
 | true =>
 refine Ev.congr (fun j => if_pos rfl) ?_
 cases fb:fit18 b with
 | false =>
  rw [bad (.inr (.inl fb))]
  exact Ev.congr (fun j => if_neg (by simp)) (rp.ev_bad k a b n)
 | true =>
 refine Ev.congr (fun j => if_pos rfl) ?_
 cases fn:fit18 n with
 | false =>
  rw [bad (.inr (.inr fn))]
  exact Ev.congr (fun j => if_neg (by simp)) (rp.ev_bad k a b n)
 | true =>
 refine Ev.congr (fun j => if_pos rfl) ?_
 have good:=rp.ev_good hk.1 hk.2 fa fb fn
 by_cases e0:k=0
 ·rw [if_neg (by omega),if_neg (by omega)]
  exact Ev.congr (fun j => (if_pos e0).trans (if_neg (by omega))) good
 refine Ev.congr (fun j => if_neg e0) ?_
 by_cases hb0:b=0
 ·rw [if_neg (by omega)]
  refine Ev.congr (fun j => if_pos hb0) ?_
  by_cases h2:k > 2
  ·refine Ev.congr (fun j => if_pos h2) ?_
   by_cases hn0:n=0
   ·rw [if_neg (by omega),show (n != 0)=false from bne_eq_false_iff_eq.mpr hn0]
    exact good
   ·rw [if_pos ⟨e0,by omega,by omega,hn0⟩,show (n != 0)=true from bne_iff_ne.mpr hn0]
    exact rp.ev_bad k a b n
  ·rw [if_neg (by omega)]
   exact Ev.congr (fun j => if_neg h2) good
 ·rw [if_pos ⟨e0,hb0⟩]
  exact Ev.congr (fun j => if_neg hb0) (rp.ev_bad k a b n)
theorem script_awake.eq:understudylaw23_awake.f=some true:=by
 unfold understudylaw23_awake.f script_Print.f
 rw [if_pos (by decide)]
 have e:printV 0 0 0 5=(⟨#[114,117,110,32,48,32,48,32,53]⟩,0):=by
  have z0:Lib.itoa 0=[48]:=by unfold Lib.itoa;rw [if_neg (by decide)];exact Lib.decDigits_one (by decide)
  have z5:Lib.itoa 5=[53]:=by unfold Lib.itoa;rw [if_neg (by decide)];exact Lib.decDigits_one (by decide)
  unfold printV
  rw [if_neg (by decide),if_neg (by decide),if_neg (by decide)]
  unfold numsL
  rw [if_pos rfl]
  unfold outV
  rw [if_pos (by decide)]
  unfold outV
  rw [if_pos (by decide)]
  unfold outV
  rw [if_pos (by decide)]
  unfold outV
  rw [z0,z5]
  rfl
 rw [e]
 simp only [Option.bind_some]
 rw [if_pos (by rw [Lib.toList_data])]
 rfl
end Go.Proofs.YteooddfilnijgaaDoor.Px
namespace Go.Proofs.YteooddfilnijgaaDoor.Px
open Go.Lib
def wordsOf:List UInt8→List (List UInt8)
 | [] => [[]]
 | c :: l => if c=32 then [] :: wordsOf l else match wordsOf l with
  | [] => [[c]]
  | w :: r => (c :: w) :: r
def joinW:List (List UInt8)→List UInt8
 | [] => []
 | [w] => w
 | w :: v :: r => w++32 :: joinW (v :: r)
theorem words_ne:∀ l,wordsOf l ≠ []
 | [] => by simp [wordsOf]
 | c :: l => by
  unfold wordsOf
  split
  ·simp
  ·split <;> simp
theorem join_words:∀ l,joinW (wordsOf l)=l
 | [] => rfl
 | c :: l => by
  have ih:=join_words l
  unfold wordsOf
  split
  ·next h =>
   subst h
   cases hw:wordsOf l with
   | nil => exact absurd hw (words_ne l)
   | cons v r => rw [hw] at ih;show []++32 :: joinW (v :: r)=_;rw [ih];rfl
  ·next h =>
   cases hw:wordsOf l with
   | nil => exact absurd hw (words_ne l)
   | cons v r =>
    rw [hw] at ih
    cases r with
    | nil => show c :: v=c :: l;rw [show v=l from ih]
    | cons u r => show (c :: v)++32 :: joinW (u :: r)=c :: l;rw [← ih];rfl
theorem words_none:∀ w:List UInt8,32 ∉ w→wordsOf w=[w]
 | [],_ => rfl
 | c :: l,h => by
  have ih:=words_none l (fun hm => h (List.mem_cons_of_mem _ hm))
  unfold wordsOf
  rw [if_neg (fun e => h (by rw [e];exact List.mem_cons_self)),ih]
theorem words_app:∀ (w t:List UInt8),32 ∉ w→wordsOf (w++32 :: t)=w :: wordsOf t
 | [],t,_ => by show wordsOf (32 :: t)=_;rw [wordsOf.eq_2,if_pos rfl]
 | c :: l,t,h => by
  have ih:=words_app l t (fun hm => h (List.mem_cons_of_mem _ hm))
  show wordsOf (c :: (l++32 :: t))=_
  rw [wordsOf.eq_2,if_neg (fun e => h (by rw [e];exact List.mem_cons_self)),ih]
theorem words_join:∀ ws:List (List UInt8),ws ≠ []→(∀ w ∈ ws,32 ∉ w)→wordsOf (joinW ws)=ws
 | [],h,_ => absurd rfl h
 | [w],_,h => words_none w (h w (by simp))
 | w :: v :: r,_,h => by
  show wordsOf (w++32 :: joinW (v :: r))=_
  rw [words_app w _ (h w (by simp)),words_join (v :: r) (by simp) (fun x hx => h x (List.mem_cons_of_mem _ hx))]
theorem words_len:∀ l,∀ w ∈ wordsOf l,w.length≤l.length
 | [],w,h => by simp [wordsOf] at h;subst h;simp
 | c :: l,w,h => by
  have ih:=words_len l
  rw [wordsOf.eq_2] at h
  split at h
  ·rcases List.mem_cons.1 h with e|e
   ·subst e;simp
   ·have:=ih w e;simp;omega
  ·cases hw:wordsOf l with
   | nil => exact absurd hw (words_ne l)
   | cons v r =>
    rw [hw] at h ih
    rcases List.mem_cons.1 h with e|e
    ·subst e;have:=ih v (by simp);simp;omega
    ·have:=ih w (List.mem_cons_of_mem _ e);simp;omega
theorem split_words:∀ l:List UInt8,splitK [32] 0 (count l [32]) l=wordsOf l
 | [] => by rw [count_miss (by simp [index])];rfl
 | c :: l => by
  have ih:=split_words l
  rw [wordsOf.eq_2]
  by_cases h:c=32
  ·subst h
   rw [if_pos rfl,count_cons_eq,Nat.add_comm]
   have hix:index (32 :: l) [32]=0:=by rw [index];simp [List.isPrefixOf]
   rw [splitK,hix,if_neg (by decide)]
   show [] :: splitK [32] 0 (count l [32]) l=_
   rw [ih]
  ·rw [if_neg h,count_cons_ne c 32 l h]
   have hp:([32]:List UInt8).isPrefixOf (c :: l)=false:=by simp [List.isPrefixOf,Ne.symm h]
   have hix:index (c :: l) [32]=if index l [32]==-1 then -1 else index l [32] + 1:=by rw [index,hp];simp
   by_cases hm:index l [32]=-1
   ·rw [count_miss hm] at ih ⊢
    rw [← ih]
    rfl
   ·have hge:=index_ge l [32]
    obtain ⟨j,hj⟩:∃ j:Nat,index l [32]=j:=⟨(index l [32]).toNat,by omega⟩
    have hix':index (c :: l) [32]=((j + 1:Nat):Int):=by rw [hix,if_neg (fun e => hm (beq_iff_eq.1 e)),hj];omega
    rw [count_hit (by simp) hj,Nat.add_comm] at ih ⊢
    rw [splitK,hj,if_neg (fun e => by have:=beq_iff_eq.1 e;omega)] at ih
    rw [splitK,hix',if_neg (fun e => by have:=beq_iff_eq.1 e;omega),← ih]
    rfl
theorem count_of (s:ByteArray) (c:UInt8):countB s ⟨#[c]⟩=count s.data.toList [c]:=rfl
def wordsB (s:ByteArray):List ByteArray:=splitB ⟨#[32]⟩ 0 (countB s ⟨#[32]⟩) s
theorem wordsB_data (s:ByteArray):(wordsB s).map (·.data.toList)=wordsOf s.data.toList:=by
 unfold wordsB
 rw [splitB_data,count_of]
 exact split_words _
end Go.Proofs.YteooddfilnijgaaDoor.Px
namespace Go.Proofs.YteooddfilnijgaaDoor.Px
open Go.RowKit Go.Proofs.YteooddfilnijgaaDoorW.PrintWords Go.Proofs.YteooddfilnijgaaDoorW.PrintLast Go.Proofs.YteooddfilnijgaaDoorW.PrintMore
set_option linter.unusedVariables false
set_option linter.unusedSimpArgs false
def manyV (k:Int):Int:=if k=0 then 3 else if k=1 ∨ k=2 then 2 else 1
theorem script_many.eq (k:Int):script_many.f k=some (manyV k):=by
 unfold script_many.f manyV
 by_cases h0:k=0
 ·rw [if_pos h0,if_pos h0]
 ·rw [if_neg h0,if_neg h0]
  by_cases h1:k=1
  ·rw [if_pos h1,if_pos (Or.inl h1)]
  ·rw [if_neg h1]
   by_cases h2:k=2
   ·rw [if_pos h2,if_pos (Or.inr h2)]
   ·rw [if_neg h2,if_neg (by omega)]
def numsV:List ByteArray→Option (List Int)
 | [] => some []
 | w :: r => if (numV w).2=true then (numsV r).map (fun l => (numV w).1 :: l) else none
abbrev LineR:=ByteArray × List Int × List Int × Int
def errL:LineR:=(⟨#[]⟩,[],[],4)
def numO (w0:ByteArray) (acc:List Int) (x:Option (List Int)):LineR:=match x with
 | none => errL
 | some l => (w0,[],acc++l,0)
def hexR (w0:ByteArray) (x:Option (List Int × Bool)):LineR:=match x with
 | some (b,true) => (w0,b,[],0)
 | _ => errL
def lineK (w0:ByteArray) (ws:List ByteArray):LineR :=
 if kindV w0 < 0∧¬ w0.toList=([109,97,99,104,105,110,101,115]:List UInt8) then errL
 else if (ws.length:Int) ≠ (if kindV w0 ≥ 0 then manyV (kindV w0) else 1) then errL
 else numO w0 [] (numsV ws)
def lineV (w0:ByteArray) (ws:List ByteArray):LineR :=
 if w0.toList=([102,105,108,101]:List UInt8)∧ws.length=1 then hexR w0 (script_hex.f (ws.headD ByteArray.empty)) else lineK w0 ws
theorem line_loop (w0:ByteArray) (ws:List ByteArray) (hl:ws.length≤4294967296) (hs:∀ w ∈ ws,w.size≤4294967296):∀ (n i:Nat) (acc:List Int),ws.length - i=n→i≤ws.length→acc.length≤i →
  Ev (fun k => script_Line.l0 k (w0 :: ws) acc ws (ws.length:Int) (i:Int)) (numO w0 acc (numsV (ws.drop i)))
 | 0,i,acc,hn,hi,ha => by
  refine Ev.step (f:=fun _ => some (w0,[],acc,0)) (fun k => ?_) ?_
  ·rw [script_Line.l0,if_neg (by omega),if_pos (by simp)]
   rfl
  ·rw [List.drop_eq_nil_of_le (by omega)]
   show Ev _ (w0,[],acc++[],0)
   rw [List.append_nil]
   exact Ev.now _
 | n + 1,i,acc,hn,hi,ha => by
  obtain ⟨w,r,hd⟩:∃ w r,ws.drop i=w :: r:=by
   cases hd:ws.drop i with
   | nil => have:=congrArg List.length hd;simp at this;omega
   | cons w r => exact ⟨w,r,rfl⟩
  have hw:rdOf ByteArray.empty ws (i:Int)=w:=by
   unfold rdOf
   rw [Int.toNat_natCast,List.getD_eq_getElem?_getD,← List.head?_drop,hd]
   rfl
  have hmem:w ∈ ws:=List.mem_of_mem_drop (by rw [hd];exact List.mem_cons_self)
  have hr:ws.drop (i + 1)=r:=by have h:=congrArg List.tail hd;rw [List.tail_drop] at h;exact h
  have hnum:script_number.f w=some (numV w):=if_pos (by have:=hs w hmem;omega)
  have hwr:wrap64 ((i:Int) + 1)=((i + 1:Nat):Int):=by unfold wrap64;omega
  rw [hd]
  by_cases ho:(numV w).2=true
  ·refine Ev.step (f:=fun k => script_Line.l0 k (w0 :: ws) (acc++[(numV w).1]) ws (ws.length:Int) ((i + 1:Nat):Int)) (fun k => ?_) ?_
   ·rw [script_Line.l0,if_pos (by omega),if_pos (by omega),if_pos (by omega),hw,hnum,Option.bind_some,if_pos ho,if_pos (by omega),hwr]
   ·have ih:=line_loop w0 ws hl hs n (i + 1) (acc++[(numV w).1]) (by omega) (by omega) (by simp;omega)
    rw [hr] at ih
    have e:numO w0 acc (numsV (w :: r))=numO w0 (acc++[(numV w).1]) (numsV r):=by
     rw [numsV,if_pos ho]
     cases numsV r with
     | none => rfl
     | some l => show (w0,[],acc++(numV w).1 :: l,0)=_;unfold numO;simp
    rw [e]
    exact ih
  ·refine Ev.step (f:=fun k => some errL) (fun k => ?_) ?_
   ·rw [script_Line.l0,if_pos (by omega),if_pos (by omega),if_pos (by omega),hw,hnum,Option.bind_some,if_neg ho]
    rfl
   ·rw [numsV,if_neg ho]
    exact Ev.now _
theorem line_j2 (w0:ByteArray) (ws:List ByteArray) (hl:ws.length≤4294967296) (hs:∀ w ∈ ws,w.size≤4294967296) (x:Bool):Ev (fun k => script_Line.j2 k (w0 :: ws) x) (if x=true then errL else numO w0 [] (numsV ws)):=by
 cases x with
 | true =>
  refine Ev.step (f:=fun _ => some errL) (fun k => ?_) (Ev.now _)
  rw [script_Line.j2,if_pos rfl]
  rfl
 | false =>
  refine Ev.step (f:=fun k => script_Line.l0 k (w0 :: ws) [] ws (ws.length:Int) 0) (fun k => ?_) ?_
  ·rw [script_Line.j2,if_neg (by decide),if_pos (by simp;omega),Option.bind_some]
   rfl
  ·exact line_loop w0 ws hl hs _ 0 [] rfl (Nat.zero_le _) (Nat.le_refl _)
theorem many_le (k:Int):1≤manyV k∧manyV k≤3:=by unfold manyV;repeat' split <;> omega
theorem line_j1 (w0:ByteArray) (ws:List ByteArray) (hl:ws.length≤4294967296) (hs:∀ w ∈ ws,w.size≤4294967296) (y m:Int) (hm:1≤m∧m≤3) :
  Ev (fun k => script_Line.j1 k (w0 :: ws) y m) (if y < 0∧¬ w0.toList=([109,97,99,104,105,110,101,115]:List UInt8) then errL else if (ws.length:Int) ≠ m then errL else numO w0 [] (numsV ws)):=by
 have hlen:(((w0 :: ws).length:Int) != (wrap64 (m + 1)))=decide ((ws.length:Int) ≠ m):=by
  rw [show wrap64 (m + 1)=m + 1 by unfold wrap64;omega]
  by_cases h:(ws.length:Int)=m
  ·rw [decide_eq_false (by omega),List.length_cons,Int.natCast_add,h]
   simp
  ·rw [decide_eq_true h,List.length_cons,bne_iff_ne]
   omega
 have hgo:Ev (fun k => script_Line.j2 k (w0 :: ws) (((w0 :: ws).length:Int) != (wrap64 (m + 1)))) (if (ws.length:Int) ≠ m then errL else numO w0 [] (numsV ws)):=by
  have h2:=line_j2 w0 ws hl hs (((w0 :: ws).length:Int) != (wrap64 (m + 1)))
  have e:(if (((w0 :: ws).length:Int) != (wrap64 (m + 1)))=true then errL else numO w0 [] (numsV ws))=(if (ws.length:Int) ≠ m then errL else numO w0 [] (numsV ws)):=by
   rw [hlen]
   by_cases h:(ws.length:Int) ≠ m
   ·rw [if_pos h,if_pos (decide_eq_true h)]
   ·rw [if_neg h,if_neg (by rw [decide_eq_false h];decide)]
  rw [e] at h2
  exact h2
 by_cases hy:y < 0
 ·by_cases hma:w0.toList=([109,97,99,104,105,110,101,115]:List UInt8)
  ·rw [if_neg (fun h => h.2 hma)]
   refine Ev.step (fun k => ?_) hgo
   rw [script_Line.j1,if_pos hy,if_pos (by simp)]
   exact if_pos hma
  ·rw [if_pos ⟨hy,hma⟩]
   refine Ev.step (f:=fun k => script_Line.j2 k (w0 :: ws) true) (fun k => ?_) (line_j2 w0 ws hl hs true)
   rw [script_Line.j1,if_pos hy,if_pos (by simp)]
   exact if_neg hma
 ·rw [if_neg (fun h => hy h.1)]
  refine Ev.step (fun k => ?_) hgo
  rw [script_Line.j1,if_neg hy]
theorem line_kind (w0:ByteArray) (ws:List ByteArray) (hl:ws.length≤4294967296) (hs:∀ w ∈ ws,w.size≤4294967296):Ev (fun k => script_Line.j0 k (w0 :: ws) false) (lineK w0 ws):=by
 unfold lineK
 by_cases hk:kindV w0 ≥ 0
 ·refine Ev.step (f:=fun k => script_Line.j1 k (w0 :: ws) (kindV w0) (manyV (kindV w0))) (fun k => ?_) ?_
  ·rw [script_Line.j0,if_neg (by decide),if_pos (by simp)]
   show (some (kindV w0)).bind _=_
   rw [Option.bind_some,if_pos hk,script_many.eq,Option.bind_some]
  ·have h:=line_j1 w0 ws hl hs (kindV w0) (manyV (kindV w0)) (many_le _)
   rw [if_pos hk]
   exact h
 ·refine Ev.step (f:=fun k => script_Line.j1 k (w0 :: ws) (kindV w0) 1) (fun k => ?_) ?_
  ·rw [script_Line.j0,if_neg (by decide),if_pos (by simp)]
   show (some (kindV w0)).bind _=_
   rw [Option.bind_some,if_neg hk]
  ·have h:=line_j1 w0 ws hl hs (kindV w0) 1 (by omega)
   rw [if_neg hk]
   exact h
theorem line_ev (s:ByteArray) (hs:s.size < 4294967281) (w0:ByteArray) (ws:List ByteArray) (hw:wordsB s=w0 :: ws):Ev (fun k => script_Line.f k s) (lineV w0 ws):=by
 have hsz:∀ w ∈ w0 :: ws,w.size≤s.size:=by
  intro w hm
  rw [← hw] at hm
  have h1:w.data.toList ∈ wordsOf s.data.toList:=by rw [← wordsB_data];exact List.mem_map_of_mem hm
  have h2:=words_len _ _ h1
  simpa using h2
 have hlen:ws.length≤4294967296:=by
  have h1:=Lib.splitB_length_le ⟨#[32]⟩ 0 (Lib.countB s ⟨#[32]⟩) s
  have h2:=Lib.countB_le ⟨#[32]⟩ (by decide) s.size s (Nat.le_refl _)
  have h3:(wordsB s).length≤Lib.countB s ⟨#[32]⟩ + 1:=h1
  rw [hw] at h3
  simp only [List.length_cons] at h3
  omega
 have hs2:∀ w ∈ ws,w.size≤4294967296:=fun w hm => by have:=hsz w (List.mem_cons_of_mem _ hm);omega
 have hsp:strings_Split.f s (⟨#[32]⟩:ByteArray)=some (w0 :: ws):=by rw [← hw];exact if_pos ⟨hs,by decide⟩
 unfold script_Line.f lineV
 rw [hsp]
 simp only [Option.bind_some]
 refine Ev.congr (fun k => if_pos (by simp)) ?_
 show Ev (fun k => if w0.toList=([102,105,108,101]:List UInt8) then script_Line.j0 k (w0 :: ws) (((w0 :: ws).length:Int)==2) else script_Line.j0 k (w0 :: ws) false) _
 by_cases hf:w0.toList=([102,105,108,101]:List UInt8)
 ·refine Ev.congr (fun k => if_pos hf) ?_
  by_cases h1:ws.length=1
  ·obtain ⟨v,rfl⟩:∃ v,ws=[v]:=by
    match ws,h1 with
    | [v],_ => exact ⟨v,rfl⟩
   rw [if_pos ⟨hf,rfl⟩]
   have hx:∃ b o,script_hex.f v=some (b,o):=⟨_,_,if_pos (hs2 v (by simp))⟩
   obtain ⟨b,o,hx⟩:=hx
   refine Ev.step (f:=fun _ => some (hexR w0 (some (b,o)))) (fun k => ?_) (by show Ev _ (hexR w0 (script_hex.f v));rw [hx];exact Ev.now _)
   rw [script_Line.j0,if_pos (by rfl),if_pos (by simp)]
   show (script_hex.f v).bind _=_
   rw [hx,Option.bind_some]
   cases o with
   | true => rw [if_pos rfl,if_pos (by simp)];rfl
   | false => rw [if_neg (by simp)];rfl
  ·rw [if_neg (fun h => h1 h.2)]
   have e:(((w0 :: ws).length:Int)==2)=false:=by
    rw [beq_eq_false_iff_ne,List.length_cons]
    omega
   rw [e]
   exact line_kind w0 ws hlen hs2
 ·refine Ev.congr (fun k => if_neg hf) ?_
  rw [if_neg (fun h => hf h.1)]
  exact line_kind w0 ws hlen hs2
end Go.Proofs.YteooddfilnijgaaDoor.Px
namespace Go.Proofs.YteooddfilnijgaaDoor.Px
open Go.RowKit Go.Proofs.YteooddfilnijgaaDoorW.PrintWords Go.Proofs.YteooddfilnijgaaDoorW.PrintLast Go.Proofs.YteooddfilnijgaaDoorW.PrintMore
set_option linter.unusedVariables false
set_option linter.unusedSimpArgs false
def bA (x:Int):ByteArray:=⟨(Lib.itoa x).toArray⟩
theorem bA_data (x:Int):(bA x).data.toList=Lib.itoa x:=by simp [bA]
theorem bytes_inj {a b:ByteArray} (h:a.data.toList=b.data.toList):a=b:=by
 cases a with
 | mk a => cases b with
  | mk b => exact congrArg ByteArray.mk (Array.toList_inj.1 h)
theorem bytes_map_inj:∀ {l m:List ByteArray},l.map (·.data.toList)=m.map (·.data.toList)→l=m
 | [],[],_ => rfl
 | [],_ :: _,h => by simp at h
 | _ :: _,[],h => by simp at h
 | a :: l,b :: m,h => by
  simp only [List.map_cons,List.cons.injEq] at h
  rw [bytes_inj h.1,bytes_map_inj h.2]
theorem kindL_spec (s:ByteArray):∀ l:List Int,kindL s l=-1 ∨ (kindL s l ∈ l∧nameV (kindL s l)=s)
 | [] => Or.inl rfl
 | k :: l => by
  unfold kindL
  by_cases h:nameV k=s
  ·rw [if_pos h];exact Or.inr ⟨by simp,h⟩
  ·rw [if_neg h]
   rcases kindL_spec s l with e|e
   ·exact Or.inl e
   ·exact Or.inr ⟨List.mem_cons_of_mem _ e.1,e.2⟩
theorem kindV_spec (s:ByteArray):kindV s=-1 ∨ (0≤kindV s∧kindV s≤7∧nameV (kindV s)=s):=by
 rcases kindL_spec s [0,1,2,3,4,5,6,7] with e|e
 ·exact Or.inl e
 ·refine Or.inr ?_
  have h:=e.1
  simp only [List.mem_cons,List.not_mem_nil,or_false] at h
  exact ⟨by unfold kindV;omega,by unfold kindV;omega,e.2⟩
theorem kindV_name {k:Int} (h0:0≤k) (h7:k≤7):kindV (nameV k)=k:=by
 obtain rfl|rfl|rfl|rfl|rfl|rfl|rfl|rfl:k=0 ∨ k=1 ∨ k=2 ∨ k=3 ∨ k=4 ∨ k=5 ∨ k=6 ∨ k=7:=by omega
 all_goals decide +kernel
theorem name_not {k:Int} (h0:0≤k) (h7:k≤7):¬ (nameV k).toList=([102,105,108,101]:List UInt8):=by
 rw [Lib.toList_data]
 obtain rfl|rfl|rfl|rfl|rfl|rfl|rfl|rfl:k=0 ∨ k=1 ∨ k=2 ∨ k=3 ∨ k=4 ∨ k=5 ∨ k=6 ∨ k=7:=by omega
 all_goals decide +kernel
theorem name_clean {k:Int} (h0:0≤k) (h7:k≤7):32 ∉ (nameV k).data.toList:=by
 obtain rfl|rfl|rfl|rfl|rfl|rfl|rfl|rfl:k=0 ∨ k=1 ∨ k=2 ∨ k=3 ∨ k=4 ∨ k=5 ∨ k=6 ∨ k=7:=by omega
 all_goals decide +kernel
theorem file_kind {w:ByteArray} (h:w.toList=([102,105,108,101]:List UInt8)):kindV w=-1:=by
 rcases kindV_spec w with e|⟨e0,e7,e⟩
 ·exact e
 ·exact absurd (by rw [e];exact h) (name_not e0 e7)
theorem fit_I64 {x:Int} (h:fit18 x=true):I64 x:=by have:=of_decide_eq_true h;unfold I64;omega
theorem itoa_clean (x:Int):32 ∉ Lib.itoa x:=by
 intro h
 unfold Lib.itoa at h
 split at h
 ·rcases List.mem_cons.1 h with e|e
  ·exact absurd e (by decide)
  ·have:=dec_digits _ _ e
   simp at this
 ·have:=dec_digits _ _ h
  simp at this
theorem numV_inv {w:ByteArray} (h:(numV w).2=true):w=bA (numV w).1∧fit18 (numV w).1=true:=by
 unfold numV at h ⊢
 split at h
 ·next v hp =>
  simp only [Bool.and_eq_true,beq_iff_eq] at h
  have h2:w.data.toList=Lib.itoa v:=by rw [← Lib.toList_data];exact h.2.symm
  refine ⟨bytes_inj (by rw [bA_data];exact h2),?_⟩
  rw [← fit18_iff]
  have h1:=h.1
  rw [h2] at h1
  exact h1
 ·cases h
 ·cases h
theorem numsV_map:∀ l:List Int,(∀ x ∈ l,fit18 x=true)→numsV (l.map bA)=some l
 | [],_ => rfl
 | x :: l,h => by
  have hx:=numV_itoa (fit_I64 (h x (by simp)))
  have hf:=h x (by simp)
  rw [List.map_cons,numsV,numsV_map l (fun y hy => h y (List.mem_cons_of_mem _ hy))]
  unfold bA
  rw [hx]
  simp only [hf,if_true,Option.map_some]
theorem numsV_inv:∀ (ws:List ByteArray) (l:List Int),numsV ws=some l→ws=l.map bA∧∀ x ∈ l,fit18 x=true
 | [],l,h => by
  obtain rfl:=Option.some.inj h
  exact ⟨rfl,fun x hx => by cases hx⟩
 | w :: r,l,h => by
  rw [numsV] at h
  by_cases ho:(numV w).2=true
  ·rw [if_pos ho] at h
   obtain ⟨m,hm,rfl⟩:=Option.map_eq_some_iff.1 h
   obtain ⟨h1,h2⟩:=numsV_inv r m hm
   obtain ⟨h3,h4⟩:=numV_inv ho
   refine ⟨by rw [List.map_cons,← h3,← h1],fun x hx => ?_⟩
   rcases List.mem_cons.1 hx with e|e
   ·rw [e];exact h4
   ·exact h2 x e
  ·rw [if_neg ho] at h;cases h
def outS (s:ByteArray):List Int→ByteArray
 | [] => s
 | x :: l => outS (s++(⟨#[32]⟩++bA x)) l
theorem outV_ok:∀ (l:List Int) (s:ByteArray),(∀ x ∈ l,fit18 x=true)→outV s l=(outS s l,0)
 | [],s,_ => rfl
 | x :: l,s,h => by
  unfold outV outS
  rw [if_pos (h x (by simp))]
  exact outV_ok l _ (fun y hy => h y (List.mem_cons_of_mem _ hy))
theorem joinW_head (a b:List UInt8):∀ r:List (List UInt8),joinW ((a++32 :: b) :: r)=a++32 :: joinW (b :: r)
 | [] => rfl
 | c :: r => by
  show (a++32 :: b)++32 :: joinW (c :: r)=a++32 :: (b++32 :: joinW (c :: r))
  simp
theorem outS_data:∀ (l:List Int) (s:ByteArray),(outS s l).data.toList=joinW (s.data.toList :: l.map Lib.itoa)
 | [],s => rfl
 | x :: l,s => by
  unfold outS
  rw [outS_data l,List.map_cons]
  have e:(s++(⟨#[32]⟩++bA x)).data.toList=s.data.toList++32 :: Lib.itoa x:=by
   rw [ByteArray.data_append,ByteArray.data_append,Array.toList_append,Array.toList_append,bA_data]
   rfl
  rw [e,joinW_head]
  rfl
theorem outS_size:∀ (l:List Int) (s:ByteArray),(∀ x ∈ l,fit18 x=true)→(outS s l).size≤s.size + 22 * l.length
 | [],s,_ => by unfold outS;simp
 | x :: l,s,h => by
  have ih:=outS_size l (s++(⟨#[32]⟩++bA x)) (fun y hy => h y (List.mem_cons_of_mem _ hy))
  have hx:=fit_I64 (h x (by simp))
  have hl:=Lib.itoa_length_le x hx.1 hx.2
  have hb:(bA x).size≤21:=by show (Lib.itoa x).toArray.size≤21;rw [List.size_toArray];exact hl
  unfold outS
  rw [ByteArray.size_append,ByteArray.size_append] at ih
  have h1:(⟨#[32]⟩:ByteArray).size=1:=rfl
  rw [List.length_cons]
  omega
structure ActOk (k a b n:Int):Prop where mk ::
 h0:0≤k
 h7:k≤7
 hb:k ≠ 0→b=0
 hn:k ≠ 0→k ≠ 1→k ≠ 2→n=0
 fit:∀ x ∈ numsL k a b n,fit18 x=true
theorem printV_ok {k a b n:Int} (h:ActOk k a b n):printV k a b n=(outS (nameV k) (numsL k a b n),0):=by
 unfold printV
 have h0:=h.h0
 have h7:=h.h7
 rw [if_neg (by omega),if_neg (fun e => e.2 (h.hb e.1)),if_neg (fun e => e.2.2.2 (h.hn e.1 e.2.1 e.2.2.1))]
 exact outV_ok _ _ h.fit
theorem printV_inv {k a b n:Int} (h:(printV k a b n).2=0):ActOk k a b n:=by
 unfold printV at h
 by_cases h1:k < 0 ∨ k > 7
 ·rw [if_pos h1] at h;exact absurd h (by decide)
 ·rw [if_neg h1] at h
  by_cases h2:k ≠ 0∧b ≠ 0
  ·rw [if_pos h2] at h;exact absurd h (by decide)
  ·rw [if_neg h2] at h
   by_cases h3:k ≠ 0∧k ≠ 1∧k ≠ 2∧n ≠ 0
   ·rw [if_pos h3] at h;exact absurd h (by decide)
   ·rw [if_neg h3] at h
    refine ⟨by omega,by omega,fun e => ?_,fun e1 e2 e3 => ?_,fun x hx => ?_⟩
    ·exact Decidable.byContradiction (fun hb => h2 ⟨e,hb⟩)
    ·exact Decidable.byContradiction (fun hb => h3 ⟨e1,e2,e3,hb⟩)
    ·refine Decidable.byContradiction (fun hf => ?_)
     rw [out_bad (s:=nameV k) _ _ ⟨x,hx,Bool.eq_false_iff.2 hf⟩] at h
     exact absurd h (by decide)
theorem nums_len (k a b n:Int):((numsL k a b n).length:Int)=manyV k:=by
 unfold numsL manyV
 split
 ·rfl
 ·split <;> rfl
theorem words_out {k a b n:Int} (h:ActOk k a b n):wordsB (outS (nameV k) (numsL k a b n))=nameV k :: (numsL k a b n).map bA:=by
 refine bytes_map_inj ?_
 rw [wordsB_data,outS_data,words_join _ (by simp)]
 ·rw [List.map_cons,List.map_map]
  congr 1
 ·intro w hw
  rcases List.mem_cons.1 hw with e|e
  ·rw [e];exact name_clean h.h0 h.h7
  ·obtain ⟨x,_,rfl⟩:=List.mem_map.1 e
   exact itoa_clean x
theorem line_good {k a b n:Int} (h:ActOk k a b n):lineV (nameV k) ((numsL k a b n).map bA)=(nameV k,[],numsL k a b n,0):=by
 unfold lineV
 rw [if_neg (fun e => name_not h.h0 h.h7 e.1)]
 unfold lineK
 have h0:=h.h0
 rw [kindV_name h.h0 h.h7,if_neg (by omega),if_pos (show k ≥ 0 from h0),List.length_map,nums_len,if_neg (by simp),numsV_map _ h.fit]
 show (nameV k,[],[]++numsL k a b n,0)=_
 rw [List.nil_append]
theorem act_neg {w:ByteArray} (h:kindV w < 0) (l:List Int):script_act.f w l=some (0,0,0,0,4):=by
 unfold script_act.f
 show (some (kindV w)).bind _=_
 rw [Option.bind_some]
 by_cases h3:(l.length:Int)=3
 ·rw [if_pos h3,if_pos (by omega),if_pos (by omega),if_pos h]
 ·rw [if_neg h3]
  by_cases h2:(l.length:Int)=2
  ·rw [if_pos h2,if_pos (by omega),if_pos h]
  ·rw [if_neg h2,if_pos h]
theorem act_good {k a b n:Int} (h:ActOk k a b n):script_act.f (nameV k) (numsL k a b n)=some (k,a,b,n,0):=by
 unfold script_act.f
 show (some (kindV (nameV k))).bind _=_
 have h0:=h.h0
 rw [Option.bind_some,kindV_name h.h0 h.h7]
 by_cases e0:k=0
 ·subst e0
  rfl
 ·have hb:=h.hb e0
  subst hb
  by_cases e1:k=1 ∨ k=2
  ·have e:numsL k a 0 n=[a,n]:=by unfold numsL;rw [if_neg e0,if_pos e1]
   rw [e,if_neg (by simp),if_pos (by simp),if_pos (by simp),if_neg (by omega),if_pos (by simp)]
   rfl
  ·have hn:=h.hn e0 (by omega) (by omega)
   subst hn
   have e:numsL k a 0 0=[a]:=by unfold numsL;rw [if_neg e0,if_neg e1]
   rw [e,if_neg (by simp),if_neg (by simp),if_neg (by omega),if_pos (by simp)]
   rfl
theorem words_cons (s:ByteArray):∃ w0 ws,wordsB s=w0 :: ws:=by
 cases h:wordsB s with
 | nil =>
  have h1:=wordsB_data s
  rw [h] at h1
  exact absurd h1.symm (words_ne _)
 | cons w0 ws => exact ⟨w0,ws,rfl⟩
theorem Act_good {k a b n:Int} (h:ActOk k a b n) (s:ByteArray) (hs:s.size < 4294967281) (hw:wordsB s=nameV k :: (numsL k a b n).map bA):Ev (fun j => script_Act.f j s) (k,a,b,n,0):=by
 have hl:=line_ev s hs _ _ hw
 rw [line_good h] at hl
 unfold script_Act.f
 refine Ev.bind hl ?_
 refine Ev.congr (f:=fun _ => some (k,a,b,n,0)) (fun j => ?_) (Ev.now _)
 show (if (0:Int)=0 then _ else _)=_
 rw [if_pos rfl]
 show (script_act.f (nameV k) (numsL k a b n)).bind _=_
 rw [act_good h]
 rfl
theorem Act_bad {s:ByteArray} {r:LineR} (hl:Ev (fun j => script_Line.f j s) r) (h:r.2.2.2=4 ∨ (r.2.2.2=0∧kindV r.1 < 0)):Ev (fun j => script_Act.f j s) (0,0,0,0,4):=by
 unfold script_Act.f
 refine Ev.bind hl ?_
 refine Ev.congr (f:=fun _ => some (0,0,0,0,4)) (fun j => ?_) (Ev.now _)
 rcases h with e|⟨e,hk⟩
 ·rw [if_neg (by rw [e];decide),e]
 ·rw [if_pos e,act_neg hk]
  rfl
theorem Act_cases (s:ByteArray) (hs:s.size < 4294967281):Ev (fun j => script_Act.f j s) (0,0,0,0,4) ∨ ∃ k a b n,ActOk k a b n∧wordsB s=nameV k :: (numsL k a b n).map bA:=by
 obtain ⟨w0,ws,hw⟩:=words_cons s
 have hl:=line_ev s hs w0 ws hw
 unfold lineV at hl
 by_cases hf:w0.toList=([102,105,108,101]:List UInt8)∧ws.length=1
 ·rw [if_pos hf] at hl
  refine Or.inl (Act_bad hl ?_)
  unfold hexR
  split
  ·exact Or.inr ⟨rfl,by show kindV w0 < 0;rw [file_kind hf.1];decide⟩
  ·exact Or.inl rfl
 ·rw [if_neg hf] at hl
  unfold lineK at hl
  by_cases hn1:kindV w0 < 0∧¬ w0.toList=([109,97,99,104,105,110,101,115]:List UInt8)
  ·rw [if_pos hn1] at hl
   exact Or.inl (Act_bad hl (Or.inl rfl))
  ·rw [if_neg hn1] at hl
   by_cases hn2:(ws.length:Int) ≠ (if kindV w0 ≥ 0 then manyV (kindV w0) else 1)
   ·rw [if_pos hn2] at hl
    exact Or.inl (Act_bad hl (Or.inl rfl))
   ·rw [if_neg hn2] at hl
    cases hnv:numsV ws with
    | none => rw [hnv] at hl;exact Or.inl (Act_bad hl (Or.inl rfl))
    | some l =>
     rw [hnv] at hl
     obtain ⟨h1,h2⟩:=numsV_inv ws l hnv
     rcases kindV_spec w0 with e|⟨e0,e7,e⟩
     ·exact Or.inl (Act_bad hl (Or.inr ⟨rfl,by show kindV w0 < 0;rw [e];decide⟩))
     ·have hlen:(l.length:Int)=manyV (kindV w0):=by
       have:=Decidable.not_not.1 hn2
       rw [if_pos (show kindV w0 ≥ 0 from e0),h1,List.length_map] at this
       exact this
      have hk:∃ a b n,numsL (kindV w0) a b n=l∧(kindV w0 ≠ 0→b=0)∧(kindV w0 ≠ 0→kindV w0 ≠ 1→kindV w0 ≠ 2→n=0):=by
       unfold manyV at hlen
       by_cases k0:kindV w0=0
       ·rw [if_pos k0] at hlen
        match l,hlen with
        | [x,y,z],_ => exact ⟨x,y,z,by unfold numsL;rw [if_pos k0],fun h => absurd k0 h,fun h => absurd k0 h⟩
        | [],h => simp at h
        | [_],h => simp at h
        | [_,_],h => simp at h
        | _ :: _ :: _ :: _ :: _,h => simp at h;omega
       ·rw [if_neg k0] at hlen
        by_cases k1:kindV w0=1 ∨ kindV w0=2
        ·rw [if_pos k1] at hlen
         match l,hlen with
         | [x,y],_ => exact ⟨x,0,y,by unfold numsL;rw [if_neg k0,if_pos k1],fun _ => rfl,fun _ h1 h2 => by omega⟩
         | [],h => simp at h
         | [_],h => simp at h
         | _ :: _ :: _ :: _,h => simp at h;omega
        ·rw [if_neg k1] at hlen
         match l,hlen with
         | [x],_ => exact ⟨x,0,0,by unfold numsL;rw [if_neg k0,if_neg k1],fun _ => rfl,fun _ _ _ => rfl⟩
         | [],h => simp at h
         | _ :: _ :: _,h => simp at h;omega
      obtain ⟨a,b,n,hl3,hb,hn⟩:=hk
      exact Or.inr ⟨kindV w0,a,b,n,⟨e0,e7,hb,hn,by rw [hl3];exact h2⟩,by rw [hw,hl3,e,h1]⟩
theorem ok_I64 {k a b n:Int} (h:ActOk k a b n):script_Print.ok a b n:=by
 have hf:=h.fit
 have z:I64 0:=by unfold I64;omega
 unfold numsL at hf
 by_cases k0:k=0
 ·rw [if_pos k0] at hf
  exact ⟨fit_I64 (hf a (by simp)),fit_I64 (hf b (by simp)),fit_I64 (hf n (by simp))⟩
 ·rw [if_neg k0] at hf
  have hb:=h.hb k0
  subst hb
  by_cases k1:k=1 ∨ k=2
  ·rw [if_pos k1] at hf
   exact ⟨fit_I64 (hf a (by simp)),z,fit_I64 (hf n (by simp))⟩
  ·rw [if_neg k1] at hf
   have hn:=h.hn k0 (by omega) (by omega)
   subst hn
   exact ⟨fit_I64 (hf a (by simp)),z,z⟩
theorem back_two (s:ByteArray) (hs:s.size < 4294967281):Ev (fun j => understudylaw23_ScriptBack.j0 j s) true:=by
 rcases Act_cases s hs with hA|⟨k,a,b,n,ho,hw⟩
 ·refine Ev.step (fun j => by rw [understudylaw23_ScriptBack.j0]) ?_
  refine Ev.bind hA ?_
  refine Ev.congr (f:=fun _ => some true) (fun j => ?_) (Ev.now _)
  rw [if_neg (by decide),if_pos rfl,script_awake.eq]
  rfl
 ·have hA:=Act_good ho s hs hw
  refine Ev.step (fun j => by rw [understudylaw23_ScriptBack.j0]) ?_
  refine Ev.bind hA ?_
  refine Ev.congr (f:=fun _ => some true) (fun j => ?_) (Ev.now _)
  have hp:script_Print.f k a b n=some (outS (nameV k) (numsL k a b n),0):=by rw [← printV_ok ho];exact if_pos (ok_I64 ho)
  have he:outS (nameV k) (numsL k a b n)=s:=by
   refine bytes_inj ?_
   rw [outS_data,← join_words s.data.toList,← wordsB_data,hw,List.map_cons,List.map_map]
   congr 2
  show (if (0:Int)=0 then _ else _)=_
  rw [if_pos rfl]
  show (script_Print.f k a b n).bind _=_
  rw [hp,Option.bind_some,he]
  show (if (0:Int)=0 then _ else _)=_
  rw [if_pos rfl]
  show (if s.toList=s.toList then _ else _)=_
  rw [if_pos rfl,script_awake.eq]
  rfl
theorem ScriptBack_pure (k a b n:Int) (s:ByteArray) (h1:(Lit.int .i64 k).wf=true) (h2:(Lit.int .i64 a).wf=true) (h3:(Lit.int .i64 b).wf=true) (h4:(Lit.int .i64 n).wf=true) (h5:s.size≤1048576):∃ j,understudylaw23_ScriptBack.f j k a b n s=some true:=by
 simp [Lit.wf,IntKind.min,IntKind.max,IntKind.bits,IntKind.signed] at h2 h3 h4
 have hf:script_Print.f k a b n=some (printV k a b n):=if_pos ⟨by omega,by omega,by omega⟩
 have h2:=back_two s (by omega)
 refine Ev.rounds ?_
 unfold understudylaw23_ScriptBack.f
 simp only [hf,Option.bind_some]
 by_cases he:(printV k a b n).2=0
 ·refine Ev.congr (fun j => if_pos he) ?_
  have ho:=printV_inv he
  have hA:=Act_good ho (outS (nameV k) (numsL k a b n)) (by
   have hz:=outS_size (numsL k a b n) (nameV k) ho.fit
   have hn:=name_len k
   have hl:=nums_len k a b n
   have hm:=many_le k
   omega) (words_out ho)
  rw [printV_ok ho]
  refine Ev.bind hA ?_
  refine Ev.congr (f:=fun j => understudylaw23_ScriptBack.j0 j s) (fun j => ?_) h2
  show (if (0:Int)=0 then _ else _)=_
  rw [if_pos rfl,if_neg (by simp)]
 ·exact Ev.congr (fun j => if_neg he) h2
end Go.Proofs.YteooddfilnijgaaDoor.Px
