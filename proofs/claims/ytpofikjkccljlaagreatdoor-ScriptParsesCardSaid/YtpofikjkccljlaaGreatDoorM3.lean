/- script.read: the files, machines, acts of a text, or which line is wrong: what it computes, as a Lean function, and the walk. -/
/- errors.As at the target that script.Parse hands it: the worked example toyas, turned to this program. -/
/- script.Parse: a text's files, machines, acts: what it computes, as a Lean function, and the walk; errors.As by the worked example's contracts. -/
/- The words of a line: what strings.Split at a blank gives, in plain Lean; there and back. -/
/- What script.Line answers, in plain Lean. -/
/- Plain law for ScriptParses: the document's number (digits without a 0 ahead, at most 18, '-' ahead below 0) is the text of a whole number that fits, and of no other. -/
/- Plain laws on words of a script: kinds, numbers that are read. -/
/- Plain law for ScriptParses: the document's words of a line, its kinds' numbers. -/
/- Plain law for ScriptParses: the document's number, as its code computes it. -/
/- Plain law for ScriptParses: the bytes of a line 'file =..': what script.hex reads is what the document says. -/
/- Plain law for ScriptParses: a hexadecimal digit, as the document's code computes it. -/
/- Plain law for ScriptParses: the bytes of a word, as the document's code computes them. -/
/- Plain law for ScriptParses: how many numbers a word has, as the document's code computes it. -/
/- Plain law for ScriptParses: the document's line is the program's. -/
/- Plain law for ScriptParses: the act of a word and numbers, on both sides. -/
/- What a text of lines says, in plain Lean: files, machines, acts, or which line is wrong; the document's Parse computes it. -/
/- Plain law for ScriptParses: the document's Parse. -/
/- The pure statement of ScriptParses: the files, machines, acts of any text. -/
import Derived.Test.YtpofikjkccljlaaGreatDoorM1
import Derived.Test.YtpofikjkccljlaaGreatDoorM2
import Derived.BigCall
import Derived.Deep.CutBlock
import Derived.Deep.RegionHeld3
import Derived.WalkKit
import Derived.LaidEql
import Derived.Stop.Asserts
import Derived.RowKitTokens
import Derived.Lib.Split
import Derived.Lib.SplitLaws
import Derived.Lib.MapLaws
import Derived.Lib.DecodeN
namespace Go.Proofs.YtpofikjkccljlaaGreatDoor.Px
open Go.RowKit Go.Proofs.YtpofikjkccljlaaGreatDoorW.PrintWords Go.Proofs.YtpofikjkccljlaaGreatDoorW.PrintLast Go.Proofs.YtpofikjkccljlaaGreatDoorW.PrintMore
attribute [local go_sem] max2_int min2_int max_two min_two max_three min_three max_four min_four
set_option linter.unusedVariables false
set_option linter.unusedSimpArgs false
def script_act.f (a0:ByteArray) (l1:List Int):Option (Int × Int × Int × Int × Int):=(script_kind.f a0).bind fun t127 => (if (l1.length:Int)=3 then (if 1 < (l1.length:Int) then (if 2 < (l1.length:Int) then (if t127 < 0 then (some (0,0,0,0,4)) else (if 0 < (l1.length:Int) then (some (t127,rd l1 0,rd l1 1,rd l1 2,0)) else (none))) else (none)) else (none)) else (if (l1.length:Int)=2 then (if 1 < (l1.length:Int) then (if t127 < 0 then (some (0,0,0,0,4)) else (if 0 < (l1.length:Int) then (some (t127,rd l1 0,0,rd l1 1,0)) else (none))) else (none)) else (if t127 < 0 then (some (0,0,0,0,4)) else (if 0 < (l1.length:Int) then (some (t127,rd l1 0,0,0,0)) else (none)))))
set_option maxHeartbeats 80000000 in
set_option maxRecDepth 100000 in
theorem script_act.calls (a0:ByteArray) (A1:Option Addr) (c1:Nat) (l1:List Int) (r1:Int) (r2:Int) (r3:Int) (r4:Int) (r5:Int) (w:World) (hr1:Kd.C (Kd.int .i64) w A1 l1.length l1) (hc1:l1.length≤c1) (h:script_act.f a0 l1=some (r1,r2,r3,r4,r5)) :
  Calls Tryz.prog 16 #[.string a0,.slice A1 l1.length c1] w fun e w' => e=.returned (.tuple #[.agg #[.int .i64 r1,.int .i64 r2,.int .i64 r3,.int .i64 r4],.int .i64 r5])∧Below w.heap.size w w':=by
 have hu50:=Tryz.underlying50
 have HR1:=Aside0.mk hr1
 have HC1:=Aside0.mk hc1
 clear hr1 hc1
 have HB:=Aside0.mk (Below.refl w.heap.size w)
 have H:((script_kind.f a0).bind fun t127 => (if (l1.length:Int)=3 then (if 1 < (l1.length:Int) then (if 2 < (l1.length:Int) then (if t127 < 0 then (some (0,0,0,0,4)) else (if 0 < (l1.length:Int) then (some (t127,rd l1 0,rd l1 1,rd l1 2,0)) else (none))) else (none)) else (none)) else (if (l1.length:Int)=2 then (if 1 < (l1.length:Int) then (if t127 < 0 then (some (0,0,0,0,4)) else (if 0 < (l1.length:Int) then (some (t127,rd l1 0,0,rd l1 1,0)) else (none))) else (none)) else (if t127 < 0 then (some (0,0,0,0,4)) else (if 0 < (l1.length:Int) then (some (t127,rd l1 0,0,0,0)) else (none))))))=some (r1,r2,r3,r4,r5):=h
 clear h
 replace H:=Option.bind_eq_some_iff.mp H
 obtain ⟨t127,A30,H⟩:=H
 replace H:(if (l1.length:Int)=3 then (if 1 < (l1.length:Int) then (if 2 < (l1.length:Int) then (if t127 < 0 then (some (0,0,0,0,4)) else (if 0 < (l1.length:Int) then (some (t127,rd l1 0,rd l1 1,rd l1 2,0)) else (none))) else (none)) else (none)) else (if (l1.length:Int)=2 then (if 1 < (l1.length:Int) then (if t127 < 0 then (some (0,0,0,0,4)) else (if 0 < (l1.length:Int) then (some (t127,rd l1 0,0,rd l1 1,0)) else (none))) else (none)) else (if t127 < 0 then (some (0,0,0,0,4)) else (if 0 < (l1.length:Int) then (some (t127,rd l1 0,0,0,0)) else (none)))))=some (r1,r2,r3,r4,r5):=H
 have A3:=Aside0.mk A30
 clear A30
 by_cases c4:(l1.length:Int)=3
 ·rw [if_pos c4] at H
  have c4b0:((l1.length:Int)==3)=true:=beq_iff_eq.mpr c4
  have c4b1:((l1.length:Int) != 3)=false:=bne_eq_false_iff_eq.mpr c4
  clear c4
  by_cases c5:1 < (l1.length:Int)
  ·rw [if_pos c5] at H
   have c5b0:decide (1 < (l1.length:Int))=true:=decide_eq_true c5
   have c5b1:decide (1 < l1.length)=true:=decide_eq_true (by omega)
   clear c5
   by_cases c6:2 < (l1.length:Int)
   ·rw [if_pos c6] at H
    have c6b0:decide (2 < (l1.length:Int))=true:=decide_eq_true c6
    have c6b1:decide (2 < l1.length)=true:=decide_eq_true (by omega)
    clear c6
    by_cases c7:t127 < 0
    ·rw [if_pos c7] at H
     have c7b0:decide (t127 < 0)=true:=decide_eq_true c7
     clear c7
     simp only [Option.some.injEq,Prod.mk.injEq] at H
     obtain ⟨rfl,rfl,rfl,rfl,rfl⟩:=H
     go_enter Tryz.func16,Tryz.ntmps16
     go_wp2_with (first|((with_reducible refine gate_dst (N:=4) rfl ?_);refine box_event ?hg (N:=4) ?hd (cs:=#[.int .i64 0,.int .i64 0,.int .i64 0,.int .i64 0]) (t:=50) ?hr ?_;(case hd => rfl);(case hg => rfl);(case hr => first|(go_simp;done)|(go_simp;rfl));intro gb126 hg w8 hbox hb;have n0_:=Aside0.mk (below_step (by repeat (first|(with_reducible first|exact HB.out|apply below_alloc|apply pw_below_drewN|apply below_drew1)|exact HB.out)) hb);have n1_:=Aside0.mk (hbox);have n2_:=Aside0.mk ((by rw [hg];exact (below_size (by repeat (first|(with_reducible first|exact HB.out|apply below_alloc|apply pw_below_drewN|apply below_drew1)|exact HB.out))):w.heap.size≤gb126));have n3_:=Aside0.mk ((by rw [hg];exact (below_size (by repeat (first|(with_reducible first|exact HB.out|apply below_alloc|apply pw_below_drewN|apply below_drew1)|exact HB.out))):w.heap.size≤gb126));clear HB;have HB:=n0_;have BK126:=n1_;have GW126:=n2_;have GE126:=n3_;clear n0_ n1_ n2_ n3_;clear hb hbox hg)|((with_reducible refine gate_callee (f:=32) rfl ?_);refine goesL_ (some 8) rfl rfl Tryz.func32 (by kernel_rfl) rfl #[.string a0] rfl (by (try simp only [List.map_toArray,List.map_cons,List.map_nil]);first|done|rfl|(simp only [List.length_drop,List.length_take];rfl)) ?_;(with_reducible refine (script_kind.calls a0 t127 _ A3.out).mono ?_);rintro e w9 ⟨rfl,hb⟩;refine ⟨_,rfl,?_⟩;have n0_:=Aside0.mk (blk_below (g:=gb126) (o:=.cells #[.int .i64 0,.int .i64 0,.int .i64 0,.int .i64 0] 50 (0,0)) (by (with_reducible repeat (first|refine blk_drewN ?_ _|refine blk_drew ?_|refine blk_alloc ?_ _));exact BK126.out) hb);have n1_:=Aside0.mk (below_step (by repeat (first|(with_reducible first|exact HB.out|apply below_alloc|apply pw_below_drewN|apply below_drew1|refine below_set ?_ GE126.out)|exact HB.out)) hb);clear BK126;clear HB;have BK126:=n0_;have HB:=n1_;clear n0_ n1_;(try clear hb);(try clear hb2);(try clear hk);(try clear hi))|((with_reducible refine gate_dst (N:=6) rfl ?_);refine box_event ?hg (N:=6) ?hd (cs:=#[.int .i64 0,.int .i64 0,.int .i64 0,.int .i64 0]) (t:=50) ?hr ?_;(case hd => rfl);(case hg => rfl);(case hr => first|(go_simp;done)|(go_simp;rfl));intro gb128 hg w10 hbox hb;have n0_:=Aside0.mk (blk_below (g:=gb126) (o:=.cells #[.int .i64 0,.int .i64 0,.int .i64 0,.int .i64 0] 50 (0,0)) (by (with_reducible repeat (first|refine blk_drewN ?_ _|refine blk_drew ?_|refine blk_alloc ?_ _));exact BK126.out) hb);have n1_:=Aside0.mk (below_step (by repeat (first|(with_reducible first|exact HB.out|apply below_alloc|apply pw_below_drewN|apply below_drew1|refine below_set ?_ GE126.out)|exact HB.out)) hb);have n2_:=Aside0.mk (hbox);have n3_:=Aside0.mk ((by rw [hg];exact (below_size (by repeat (first|(with_reducible first|exact HB.out|apply below_alloc|apply pw_below_drewN|apply below_drew1|refine below_set ?_ GE126.out)|exact HB.out))):w.heap.size≤gb128));have n4_:=Aside0.mk ((by rw [hg];exact (below_size (by repeat (first|(with_reducible first|exact HB.out|apply below_alloc|apply pw_below_drewN|apply below_drew1|refine below_set ?_ GE126.out)|exact HB.out))):w.heap.size≤gb128));have n5_:=Aside0.mk ((by rw [hg];exact Nat.ne_of_lt (blk_lt (g:=gb126) (o:=.cells #[.int .i64 0,.int .i64 0,.int .i64 0,.int .i64 0] 50 (0,0)) (by (with_reducible repeat (first|refine blk_drewN ?_ _|refine blk_drew ?_|refine blk_alloc ?_ _));exact BK126.out)):gb126 ≠ gb128));have n6_:=Aside0.mk ((by rw [hg];exact Nat.ne_of_gt (blk_lt (g:=gb126) (o:=.cells #[.int .i64 0,.int .i64 0,.int .i64 0,.int .i64 0] 50 (0,0)) (by (with_reducible repeat (first|refine blk_drewN ?_ _|refine blk_drew ?_|refine blk_alloc ?_ _));exact BK126.out)):gb128 ≠ gb126));clear BK126;clear HB;have BK126:=n0_;have HB:=n1_;have BK128:=n2_;have GW128:=n3_;have GE128:=n4_;have NB126_128:=n5_;have NB128_126:=n6_;clear n0_ n1_ n2_ n3_ n4_ n5_ n6_;clear hb hbox hg;have hnb11:=NB128_126.out;have hnc11:=NB126_128.out;have hcz12_0:w10.cell? ⟨gb128,0,none⟩=some (.int .i64 0):=(blk_cell BK128.out 0).trans rfl;have hcz12_1:w10.cell? ⟨gb128,1,none⟩=some (.int .i64 0):=(blk_cell BK128.out 1).trans rfl;have hcz12_2:w10.cell? ⟨gb128,2,none⟩=some (.int .i64 0):=(blk_cell BK128.out 2).trans rfl;have hcz12_3:w10.cell? ⟨gb128,3,none⟩=some (.int .i64 0):=(blk_cell BK128.out 3).trans rfl;have hfz12_0:=blk_frozen BK128.out 0;have hfz12_1:=blk_frozen BK128.out 1;have hfz12_2:=blk_frozen BK128.out 2;have hfz12_3:=blk_frozen BK128.out 3;have p129:0≤(1:Int):=(by omega);have q129:1 < (l1.length:Int):=of_decide_eq_true (by first|(with_reducible assumption)|assumption);obtain ⟨ad129,e129,hx129_0⟩:=Kd.at_int HR1.out 1 p129 q129;cases e129;(try simp only [show (1:Int).toNat=1 from rfl,Nat.reduceMul,Nat.reduceEqDiff,Go.Addr.add,↓reduceIte] at hx129_0);have qi129:(1 < l1.length)=True:=eq_true (by omega);(try rw [show ((1:Int)).toNat=1 from rfl] at hx129_0);have hn129_0:ad129.block ≠ gb128:=Nat.ne_of_lt (Nat.lt_of_lt_of_le (by have:=World.block_lt_of_cell? _ _ hx129_0;first|rwa [add_block] at this|exact this) GW128.out);have hn129_1:ad129.block ≠ gb128:=Nat.ne_of_lt (Nat.lt_of_lt_of_le (by have:=World.block_lt_of_cell? _ _ hx129_0;first|rwa [add_block] at this|exact this) GW128.out);have hn129_2:ad129.block ≠ gb128:=Nat.ne_of_lt (Nat.lt_of_lt_of_le (by have:=World.block_lt_of_cell? _ _ hx129_0;first|rwa [add_block] at this|exact this) GW128.out);have hn129_3:ad129.block ≠ gb128:=Nat.ne_of_lt (Nat.lt_of_lt_of_le (by have:=World.block_lt_of_cell? _ _ hx129_0;first|rwa [add_block] at this|exact this) GW128.out);replace hx129_0:=(HB.out.cell (World.block_lt_of_cell? w _ hx129_0)).trans hx129_0;replace hx129_0:=(cell_far (p:=⟨gb128,0,none⟩) (by first|(rw [add_block];exact hn129_0)|(show (Addr.add _ _).block ≠ _;rw [add_block];exact hn129_0)|exact hn129_0) (.int .i64 t127)).trans hx129_0;replace hx129_0:=(cell_far (p:=⟨gb128,1,none⟩) (by first|(rw [add_block];exact hn129_1)|(show (Addr.add _ _).block ≠ _;rw [add_block];exact hn129_1)|exact hn129_1) (.int .i64 0)).trans hx129_0;replace hx129_0:=(cell_far (p:=⟨gb128,2,none⟩) (by first|(rw [add_block];exact hn129_2)|(show (Addr.add _ _).block ≠ _;rw [add_block];exact hn129_2)|exact hn129_2) (.int .i64 0)).trans hx129_0;replace hx129_0:=(cell_far (p:=⟨gb128,3,none⟩) (by first|(rw [add_block];exact hn129_3)|(show (Addr.add _ _).block ≠ _;rw [add_block];exact hn129_3)|exact hn129_3) (.int .i64 0)).trans hx129_0;clear hn129_0;clear hn129_1;clear hn129_2;clear hn129_3;replace p129:=eq_true p129;replace q129:=eq_true q129)|((with_reducible refine gate_store (t:=3) (p:=17) rfl ?_);refine store_event (t:=3) (p:=17) (v:=?vo_w13) (w1:=(((((w10.setCell ⟨gb128,0,none⟩ (.int .i64 t127)).setCell ⟨gb128,1,none⟩ (.int .i64 0)).setCell ⟨gb128,2,none⟩ (.int .i64 0)).setCell ⟨gb128,3,none⟩ (.int .i64 0)).setCell ⟨gb128,2,none⟩ (.int .i64 (rd l1 1)))) ?hg ?ho ?hn ?hr ?_;(case ho => rfl);(case hg => rfl);(case hn => rfl);(case hr => first|(go_simp;done)|(go_simp;rfl));intro w13 hw;have n0_:Aside0 (w13.heap[gb126]?=some (.cells #[.int .i64 0,.int .i64 0,.int .i64 0,.int .i64 0] 50 (0,0))):=⟨(by rw [hw];exact (by (with_reducible repeat (first|refine blk_drewN ?_ _|refine blk_drew ?_|refine blk_alloc ?_ _));refine blk_far ?_ NB126_128.out _;(with_reducible repeat (first|refine blk_drewN ?_ _|refine blk_drew ?_|refine blk_alloc ?_ _));refine blk_far ?_ NB126_128.out _;(with_reducible repeat (first|refine blk_drewN ?_ _|refine blk_drew ?_|refine blk_alloc ?_ _));refine blk_far ?_ NB126_128.out _;(with_reducible repeat (first|refine blk_drewN ?_ _|refine blk_drew ?_|refine blk_alloc ?_ _));refine blk_far ?_ NB126_128.out _;(with_reducible repeat (first|refine blk_drewN ?_ _|refine blk_drew ?_|refine blk_alloc ?_ _));refine blk_far ?_ NB126_128.out _;(with_reducible repeat (first|refine blk_drewN ?_ _|refine blk_drew ?_|refine blk_alloc ?_ _));exact BK126.out))⟩;have n1_:Aside0 (w13.heap[gb128]?=some (.cells #[.int .i64 t127,.int .i64 0,.int .i64 (rd l1 1),.int .i64 0] 50 (0,0))):=⟨(by rw [hw];exact (by (with_reducible repeat (first|refine blk_drewN ?_ _|refine blk_drew ?_|refine blk_alloc ?_ _));refine blk_put (cs:=#[.int .i64 t127,.int .i64 0,.int .i64 0,.int .i64 0]) ?_ 2 _ rfl;(with_reducible repeat (first|refine blk_drewN ?_ _|refine blk_drew ?_|refine blk_alloc ?_ _));refine blk_put (cs:=#[.int .i64 t127,.int .i64 0,.int .i64 0,.int .i64 0]) ?_ 3 _ rfl;(with_reducible repeat (first|refine blk_drewN ?_ _|refine blk_drew ?_|refine blk_alloc ?_ _));refine blk_put (cs:=#[.int .i64 t127,.int .i64 0,.int .i64 0,.int .i64 0]) ?_ 2 _ rfl;(with_reducible repeat (first|refine blk_drewN ?_ _|refine blk_drew ?_|refine blk_alloc ?_ _));refine blk_put (cs:=#[.int .i64 t127,.int .i64 0,.int .i64 0,.int .i64 0]) ?_ 1 _ rfl;(with_reducible repeat (first|refine blk_drewN ?_ _|refine blk_drew ?_|refine blk_alloc ?_ _));refine blk_put (cs:=#[.int .i64 0,.int .i64 0,.int .i64 0,.int .i64 0]) ?_ 0 _ rfl;(with_reducible repeat (first|refine blk_drewN ?_ _|refine blk_drew ?_|refine blk_alloc ?_ _));exact BK128.out))⟩;have n2_:Aside0 (Below w.heap.size w w13):=⟨(by rw [hw];exact (by repeat (first|(with_reducible first|exact HB.out|apply below_alloc|apply pw_below_drewN|apply below_drew1|refine below_set ?_ GE126.out|refine below_set ?_ GE128.out)|exact HB.out)))⟩;clear hw;clear BK126;clear BK128;clear HB;have BK126:=n0_;have BK128:=n1_;have HB:=n2_;clear n0_ n1_ n2_;have p130:0≤(2:Int):=(by omega);have q130:2 < (l1.length:Int):=of_decide_eq_true (by first|(with_reducible assumption)|assumption);obtain ⟨ad130,e130,hx130_0⟩:=Kd.at_int HR1.out 2 p130 q130;obtain rfl:ad129=ad130:=(by injection e130);(try simp only [show (2:Int).toNat=2 from rfl,Nat.reduceMul,Nat.reduceEqDiff,Go.Addr.add,↓reduceIte] at hx130_0);have qi130:(2 < l1.length)=True:=eq_true (by omega);(try rw [show ((2:Int)).toNat=2 from rfl] at hx130_0);replace hx130_0:=(HB.out.cell (World.block_lt_of_cell? w _ hx130_0)).trans hx130_0;replace p130:=eq_true p130;replace q130:=eq_true q130;have hcz14_0:w13.cell? ⟨gb128,0,none⟩=some (.int .i64 t127):=(blk_cell BK128.out 0).trans rfl;have hcz14_1:w13.cell? ⟨gb128,1,none⟩=some (.int .i64 0):=(blk_cell BK128.out 1).trans rfl;have hcz14_2:w13.cell? ⟨gb128,2,none⟩=some (.int .i64 (rd l1 1)):=(blk_cell BK128.out 2).trans rfl;have hcz14_3:w13.cell? ⟨gb128,3,none⟩=some (.int .i64 0):=(blk_cell BK128.out 3).trans rfl;have hfz14_0:=blk_frozen BK128.out 0;have hfz14_1:=blk_frozen BK128.out 1;have hfz14_2:=blk_frozen BK128.out 2;have hfz14_3:=blk_frozen BK128.out 3;have hcz15_0:w13.cell? ⟨gb126,0,none⟩=some (.int .i64 0):=(blk_cell BK126.out 0).trans rfl;have hcz15_1:w13.cell? ⟨gb126,1,none⟩=some (.int .i64 0):=(blk_cell BK126.out 1).trans rfl;have hcz15_2:w13.cell? ⟨gb126,2,none⟩=some (.int .i64 0):=(blk_cell BK126.out 2).trans rfl;have hcz15_3:w13.cell? ⟨gb126,3,none⟩=some (.int .i64 0):=(blk_cell BK126.out 3).trans rfl;have hfz15_0:=blk_frozen BK126.out 0;have hfz15_1:=blk_frozen BK126.out 1;have hfz15_2:=blk_frozen BK126.out 2;have hfz15_3:=blk_frozen BK126.out 3)|((with_reducible refine gate_store (t:=50) (p:=4) rfl ?_);refine store_event (t:=50) (p:=4) (v:=?vo_w16) (w1:=(((((w13.setCell ⟨gb128,3,none⟩ (.int .i64 (rd l1 2))).setCell ⟨gb126,0,none⟩ (.int .i64 0)).setCell ⟨gb126,1,none⟩ (.int .i64 0)).setCell ⟨gb126,2,none⟩ (.int .i64 0)).setCell ⟨gb126,3,none⟩ (.int .i64 0))) ?hg ?ho ?hn ?hr ?_;(case ho => rfl);(case hg => rfl);(case hn => rfl);(case hr => first|(go_simp;done)|(go_simp;rfl));intro w16 hw;have n0_:Aside0 (w16.heap[gb126]?=some (.cells #[.int .i64 0,.int .i64 0,.int .i64 0,.int .i64 0] 50 (0,0))):=⟨(by rw [hw];exact (by (with_reducible repeat (first|refine blk_drewN ?_ _|refine blk_drew ?_|refine blk_alloc ?_ _));refine blk_put (cs:=#[.int .i64 0,.int .i64 0,.int .i64 0,.int .i64 0]) ?_ 3 _ rfl;(with_reducible repeat (first|refine blk_drewN ?_ _|refine blk_drew ?_|refine blk_alloc ?_ _));refine blk_put (cs:=#[.int .i64 0,.int .i64 0,.int .i64 0,.int .i64 0]) ?_ 2 _ rfl;(with_reducible repeat (first|refine blk_drewN ?_ _|refine blk_drew ?_|refine blk_alloc ?_ _));refine blk_put (cs:=#[.int .i64 0,.int .i64 0,.int .i64 0,.int .i64 0]) ?_ 1 _ rfl;(with_reducible repeat (first|refine blk_drewN ?_ _|refine blk_drew ?_|refine blk_alloc ?_ _));refine blk_put (cs:=#[.int .i64 0,.int .i64 0,.int .i64 0,.int .i64 0]) ?_ 0 _ rfl;(with_reducible repeat (first|refine blk_drewN ?_ _|refine blk_drew ?_|refine blk_alloc ?_ _));refine blk_far ?_ NB126_128.out _;(with_reducible repeat (first|refine blk_drewN ?_ _|refine blk_drew ?_|refine blk_alloc ?_ _));exact BK126.out))⟩;have n1_:Aside0 (w16.heap[gb128]?=some (.cells #[.int .i64 t127,.int .i64 0,.int .i64 (rd l1 1),.int .i64 (rd l1 2)] 50 (0,0))):=⟨(by rw [hw];exact (by (with_reducible repeat (first|refine blk_drewN ?_ _|refine blk_drew ?_|refine blk_alloc ?_ _));refine blk_far ?_ NB128_126.out _;(with_reducible repeat (first|refine blk_drewN ?_ _|refine blk_drew ?_|refine blk_alloc ?_ _));refine blk_far ?_ NB128_126.out _;(with_reducible repeat (first|refine blk_drewN ?_ _|refine blk_drew ?_|refine blk_alloc ?_ _));refine blk_far ?_ NB128_126.out _;(with_reducible repeat (first|refine blk_drewN ?_ _|refine blk_drew ?_|refine blk_alloc ?_ _));refine blk_far ?_ NB128_126.out _;(with_reducible repeat (first|refine blk_drewN ?_ _|refine blk_drew ?_|refine blk_alloc ?_ _));refine blk_put (cs:=#[.int .i64 t127,.int .i64 0,.int .i64 (rd l1 1),.int .i64 0]) ?_ 3 _ rfl;(with_reducible repeat (first|refine blk_drewN ?_ _|refine blk_drew ?_|refine blk_alloc ?_ _));exact BK128.out))⟩;have n2_:Aside0 (Below w.heap.size w w16):=⟨(by rw [hw];exact (by repeat (first|(with_reducible first|exact HB.out|apply below_alloc|apply pw_below_drewN|apply below_drew1|refine below_set ?_ GE126.out|refine below_set ?_ GE128.out)|exact HB.out)))⟩;clear hw;clear BK126;clear BK128;clear HB;have BK126:=n0_;have BK128:=n1_;have HB:=n2_;clear n0_ n1_ n2_))
     refine bodyPost_ret (results_ct rfl _ _ gb126 50 #[.int .i64 0,.int .i64 0,.int .i64 0,.int .i64 0] (0,0) _ rfl (by (with_reducible repeat (first|refine blk_drewN ?_ _|refine blk_drew ?_|refine blk_alloc ?_ _));exact BK126.out) Tryz.underlying50 rfl (by kernel_rfl)) rfl ?_
     exact ⟨by first|rfl|(simp [errW_none,errW_some] <;> rfl)|(simp [*,errW_none,errW_some] <;> rfl),by repeat (first|(with_reducible first|exact HB.out|apply below_alloc|apply pw_below_drewN|apply below_drew1|refine below_set ?_ GE126.out|refine below_set ?_ GE128.out)|exact HB.out)⟩
    ·rw [if_neg c7] at H
     have c7b0:decide (t127 < 0)=false:=decide_eq_false c7
     clear c7
     by_cases c17:0 < (l1.length:Int)
     ·rw [if_pos c17] at H
      have c17b0:decide (0 < (l1.length:Int))=true:=decide_eq_true c17
      have c17b1:decide (0 < l1.length)=true:=decide_eq_true (by omega)
      clear c17
      simp only [Option.some.injEq,Prod.mk.injEq] at H
      obtain ⟨rfl,rfl,rfl,rfl,rfl⟩:=H
      go_enter Tryz.func16,Tryz.ntmps16
      go_wp2_with (first|((with_reducible refine gate_dst (N:=4) rfl ?_);refine box_event ?hg (N:=4) ?hd (cs:=#[.int .i64 0,.int .i64 0,.int .i64 0,.int .i64 0]) (t:=50) ?hr ?_;(case hd => rfl);(case hg => rfl);(case hr => first|(go_simp;done)|(go_simp;rfl));intro gb126 hg w18 hbox hb;have n0_:=Aside0.mk (below_step (by repeat (first|(with_reducible first|exact HB.out|apply below_alloc|apply pw_below_drewN|apply below_drew1)|exact HB.out)) hb);have n1_:=Aside0.mk (hbox);have n2_:=Aside0.mk ((by rw [hg];exact (below_size (by repeat (first|(with_reducible first|exact HB.out|apply below_alloc|apply pw_below_drewN|apply below_drew1)|exact HB.out))):w.heap.size≤gb126));have n3_:=Aside0.mk ((by rw [hg];exact (below_size (by repeat (first|(with_reducible first|exact HB.out|apply below_alloc|apply pw_below_drewN|apply below_drew1)|exact HB.out))):w.heap.size≤gb126));clear HB;have HB:=n0_;have BK126:=n1_;have GW126:=n2_;have GE126:=n3_;clear n0_ n1_ n2_ n3_;clear hb hbox hg)|((with_reducible refine gate_callee (f:=32) rfl ?_);refine goesL_ (some 8) rfl rfl Tryz.func32 (by kernel_rfl) rfl #[.string a0] rfl (by (try simp only [List.map_toArray,List.map_cons,List.map_nil]);first|done|rfl|(simp only [List.length_drop,List.length_take];rfl)) ?_;(with_reducible refine (script_kind.calls a0 t127 _ A3.out).mono ?_);rintro e w19 ⟨rfl,hb⟩;refine ⟨_,rfl,?_⟩;have n0_:=Aside0.mk (blk_below (g:=gb126) (o:=.cells #[.int .i64 0,.int .i64 0,.int .i64 0,.int .i64 0] 50 (0,0)) (by (with_reducible repeat (first|refine blk_drewN ?_ _|refine blk_drew ?_|refine blk_alloc ?_ _));exact BK126.out) hb);have n1_:=Aside0.mk (below_step (by repeat (first|(with_reducible first|exact HB.out|apply below_alloc|apply pw_below_drewN|apply below_drew1|refine below_set ?_ GE126.out)|exact HB.out)) hb);clear BK126;clear HB;have BK126:=n0_;have HB:=n1_;clear n0_ n1_;(try clear hb);(try clear hb2);(try clear hk);(try clear hi))|((with_reducible refine gate_dst (N:=6) rfl ?_);refine box_event ?hg (N:=6) ?hd (cs:=#[.int .i64 0,.int .i64 0,.int .i64 0,.int .i64 0]) (t:=50) ?hr ?_;(case hd => rfl);(case hg => rfl);(case hr => first|(go_simp;done)|(go_simp;rfl));intro gb128 hg w20 hbox hb;have n0_:=Aside0.mk (blk_below (g:=gb126) (o:=.cells #[.int .i64 0,.int .i64 0,.int .i64 0,.int .i64 0] 50 (0,0)) (by (with_reducible repeat (first|refine blk_drewN ?_ _|refine blk_drew ?_|refine blk_alloc ?_ _));exact BK126.out) hb);have n1_:=Aside0.mk (below_step (by repeat (first|(with_reducible first|exact HB.out|apply below_alloc|apply pw_below_drewN|apply below_drew1|refine below_set ?_ GE126.out)|exact HB.out)) hb);have n2_:=Aside0.mk (hbox);have n3_:=Aside0.mk ((by rw [hg];exact (below_size (by repeat (first|(with_reducible first|exact HB.out|apply below_alloc|apply pw_below_drewN|apply below_drew1|refine below_set ?_ GE126.out)|exact HB.out))):w.heap.size≤gb128));have n4_:=Aside0.mk ((by rw [hg];exact (below_size (by repeat (first|(with_reducible first|exact HB.out|apply below_alloc|apply pw_below_drewN|apply below_drew1|refine below_set ?_ GE126.out)|exact HB.out))):w.heap.size≤gb128));have n5_:=Aside0.mk ((by rw [hg];exact Nat.ne_of_lt (blk_lt (g:=gb126) (o:=.cells #[.int .i64 0,.int .i64 0,.int .i64 0,.int .i64 0] 50 (0,0)) (by (with_reducible repeat (first|refine blk_drewN ?_ _|refine blk_drew ?_|refine blk_alloc ?_ _));exact BK126.out)):gb126 ≠ gb128));have n6_:=Aside0.mk ((by rw [hg];exact Nat.ne_of_gt (blk_lt (g:=gb126) (o:=.cells #[.int .i64 0,.int .i64 0,.int .i64 0,.int .i64 0] 50 (0,0)) (by (with_reducible repeat (first|refine blk_drewN ?_ _|refine blk_drew ?_|refine blk_alloc ?_ _));exact BK126.out)):gb128 ≠ gb126));clear BK126;clear HB;have BK126:=n0_;have HB:=n1_;have BK128:=n2_;have GW128:=n3_;have GE128:=n4_;have NB126_128:=n5_;have NB128_126:=n6_;clear n0_ n1_ n2_ n3_ n4_ n5_ n6_;clear hb hbox hg;have hnb21:=NB128_126.out;have hnc21:=NB126_128.out;have hcz22_0:w20.cell? ⟨gb128,0,none⟩=some (.int .i64 0):=(blk_cell BK128.out 0).trans rfl;have hcz22_1:w20.cell? ⟨gb128,1,none⟩=some (.int .i64 0):=(blk_cell BK128.out 1).trans rfl;have hcz22_2:w20.cell? ⟨gb128,2,none⟩=some (.int .i64 0):=(blk_cell BK128.out 2).trans rfl;have hcz22_3:w20.cell? ⟨gb128,3,none⟩=some (.int .i64 0):=(blk_cell BK128.out 3).trans rfl;have hfz22_0:=blk_frozen BK128.out 0;have hfz22_1:=blk_frozen BK128.out 1;have hfz22_2:=blk_frozen BK128.out 2;have hfz22_3:=blk_frozen BK128.out 3;have p129:0≤(1:Int):=(by omega);have q129:1 < (l1.length:Int):=of_decide_eq_true (by first|(with_reducible assumption)|assumption);obtain ⟨ad129,e129,hx129_0⟩:=Kd.at_int HR1.out 1 p129 q129;cases e129;(try simp only [show (1:Int).toNat=1 from rfl,Nat.reduceMul,Nat.reduceEqDiff,Go.Addr.add,↓reduceIte] at hx129_0);have qi129:(1 < l1.length)=True:=eq_true (by omega);(try rw [show ((1:Int)).toNat=1 from rfl] at hx129_0);have hn129_0:ad129.block ≠ gb128:=Nat.ne_of_lt (Nat.lt_of_lt_of_le (by have:=World.block_lt_of_cell? _ _ hx129_0;first|rwa [add_block] at this|exact this) GW128.out);have hn129_1:ad129.block ≠ gb128:=Nat.ne_of_lt (Nat.lt_of_lt_of_le (by have:=World.block_lt_of_cell? _ _ hx129_0;first|rwa [add_block] at this|exact this) GW128.out);have hn129_2:ad129.block ≠ gb128:=Nat.ne_of_lt (Nat.lt_of_lt_of_le (by have:=World.block_lt_of_cell? _ _ hx129_0;first|rwa [add_block] at this|exact this) GW128.out);have hn129_3:ad129.block ≠ gb128:=Nat.ne_of_lt (Nat.lt_of_lt_of_le (by have:=World.block_lt_of_cell? _ _ hx129_0;first|rwa [add_block] at this|exact this) GW128.out);replace hx129_0:=(HB.out.cell (World.block_lt_of_cell? w _ hx129_0)).trans hx129_0;replace hx129_0:=(cell_far (p:=⟨gb128,0,none⟩) (by first|(rw [add_block];exact hn129_0)|(show (Addr.add _ _).block ≠ _;rw [add_block];exact hn129_0)|exact hn129_0) (.int .i64 t127)).trans hx129_0;replace hx129_0:=(cell_far (p:=⟨gb128,1,none⟩) (by first|(rw [add_block];exact hn129_1)|(show (Addr.add _ _).block ≠ _;rw [add_block];exact hn129_1)|exact hn129_1) (.int .i64 0)).trans hx129_0;replace hx129_0:=(cell_far (p:=⟨gb128,2,none⟩) (by first|(rw [add_block];exact hn129_2)|(show (Addr.add _ _).block ≠ _;rw [add_block];exact hn129_2)|exact hn129_2) (.int .i64 0)).trans hx129_0;replace hx129_0:=(cell_far (p:=⟨gb128,3,none⟩) (by first|(rw [add_block];exact hn129_3)|(show (Addr.add _ _).block ≠ _;rw [add_block];exact hn129_3)|exact hn129_3) (.int .i64 0)).trans hx129_0;clear hn129_0;clear hn129_1;clear hn129_2;clear hn129_3;replace p129:=eq_true p129;replace q129:=eq_true q129)|((with_reducible refine gate_store (t:=3) (p:=17) rfl ?_);refine store_event (t:=3) (p:=17) (v:=?vo_w23) (w1:=(((((w20.setCell ⟨gb128,0,none⟩ (.int .i64 t127)).setCell ⟨gb128,1,none⟩ (.int .i64 0)).setCell ⟨gb128,2,none⟩ (.int .i64 0)).setCell ⟨gb128,3,none⟩ (.int .i64 0)).setCell ⟨gb128,2,none⟩ (.int .i64 (rd l1 1)))) ?hg ?ho ?hn ?hr ?_;(case ho => rfl);(case hg => rfl);(case hn => rfl);(case hr => first|(go_simp;done)|(go_simp;rfl));intro w23 hw;have n0_:Aside0 (w23.heap[gb126]?=some (.cells #[.int .i64 0,.int .i64 0,.int .i64 0,.int .i64 0] 50 (0,0))):=⟨(by rw [hw];exact (by (with_reducible repeat (first|refine blk_drewN ?_ _|refine blk_drew ?_|refine blk_alloc ?_ _));refine blk_far ?_ NB126_128.out _;(with_reducible repeat (first|refine blk_drewN ?_ _|refine blk_drew ?_|refine blk_alloc ?_ _));refine blk_far ?_ NB126_128.out _;(with_reducible repeat (first|refine blk_drewN ?_ _|refine blk_drew ?_|refine blk_alloc ?_ _));refine blk_far ?_ NB126_128.out _;(with_reducible repeat (first|refine blk_drewN ?_ _|refine blk_drew ?_|refine blk_alloc ?_ _));refine blk_far ?_ NB126_128.out _;(with_reducible repeat (first|refine blk_drewN ?_ _|refine blk_drew ?_|refine blk_alloc ?_ _));refine blk_far ?_ NB126_128.out _;(with_reducible repeat (first|refine blk_drewN ?_ _|refine blk_drew ?_|refine blk_alloc ?_ _));exact BK126.out))⟩;have n1_:Aside0 (w23.heap[gb128]?=some (.cells #[.int .i64 t127,.int .i64 0,.int .i64 (rd l1 1),.int .i64 0] 50 (0,0))):=⟨(by rw [hw];exact (by (with_reducible repeat (first|refine blk_drewN ?_ _|refine blk_drew ?_|refine blk_alloc ?_ _));refine blk_put (cs:=#[.int .i64 t127,.int .i64 0,.int .i64 0,.int .i64 0]) ?_ 2 _ rfl;(with_reducible repeat (first|refine blk_drewN ?_ _|refine blk_drew ?_|refine blk_alloc ?_ _));refine blk_put (cs:=#[.int .i64 t127,.int .i64 0,.int .i64 0,.int .i64 0]) ?_ 3 _ rfl;(with_reducible repeat (first|refine blk_drewN ?_ _|refine blk_drew ?_|refine blk_alloc ?_ _));refine blk_put (cs:=#[.int .i64 t127,.int .i64 0,.int .i64 0,.int .i64 0]) ?_ 2 _ rfl;(with_reducible repeat (first|refine blk_drewN ?_ _|refine blk_drew ?_|refine blk_alloc ?_ _));refine blk_put (cs:=#[.int .i64 t127,.int .i64 0,.int .i64 0,.int .i64 0]) ?_ 1 _ rfl;(with_reducible repeat (first|refine blk_drewN ?_ _|refine blk_drew ?_|refine blk_alloc ?_ _));refine blk_put (cs:=#[.int .i64 0,.int .i64 0,.int .i64 0,.int .i64 0]) ?_ 0 _ rfl;(with_reducible repeat (first|refine blk_drewN ?_ _|refine blk_drew ?_|refine blk_alloc ?_ _));exact BK128.out))⟩;have n2_:Aside0 (Below w.heap.size w w23):=⟨(by rw [hw];exact (by repeat (first|(with_reducible first|exact HB.out|apply below_alloc|apply pw_below_drewN|apply below_drew1|refine below_set ?_ GE126.out|refine below_set ?_ GE128.out)|exact HB.out)))⟩;clear hw;clear BK126;clear BK128;clear HB;have BK126:=n0_;have BK128:=n1_;have HB:=n2_;clear n0_ n1_ n2_;have p130:0≤(2:Int):=(by omega);have q130:2 < (l1.length:Int):=of_decide_eq_true (by first|(with_reducible assumption)|assumption);obtain ⟨ad130,e130,hx130_0⟩:=Kd.at_int HR1.out 2 p130 q130;obtain rfl:ad129=ad130:=(by injection e130);(try simp only [show (2:Int).toNat=2 from rfl,Nat.reduceMul,Nat.reduceEqDiff,Go.Addr.add,↓reduceIte] at hx130_0);have qi130:(2 < l1.length)=True:=eq_true (by omega);(try rw [show ((2:Int)).toNat=2 from rfl] at hx130_0);replace hx130_0:=(HB.out.cell (World.block_lt_of_cell? w _ hx130_0)).trans hx130_0;replace p130:=eq_true p130;replace q130:=eq_true q130;have hcz24_0:w23.cell? ⟨gb128,0,none⟩=some (.int .i64 t127):=(blk_cell BK128.out 0).trans rfl;have hcz24_1:w23.cell? ⟨gb128,1,none⟩=some (.int .i64 0):=(blk_cell BK128.out 1).trans rfl;have hcz24_2:w23.cell? ⟨gb128,2,none⟩=some (.int .i64 (rd l1 1)):=(blk_cell BK128.out 2).trans rfl;have hcz24_3:w23.cell? ⟨gb128,3,none⟩=some (.int .i64 0):=(blk_cell BK128.out 3).trans rfl;have hfz24_0:=blk_frozen BK128.out 0;have hfz24_1:=blk_frozen BK128.out 1;have hfz24_2:=blk_frozen BK128.out 2;have hfz24_3:=blk_frozen BK128.out 3;have p131:0≤(0:Int):=(by omega);have q131:0 < (l1.length:Int):=of_decide_eq_true (by first|(with_reducible assumption)|assumption);obtain ⟨ad131,e131,hx131_0⟩:=Kd.at_int HR1.out 0 p131 q131;obtain rfl:ad129=ad131:=(by injection e131);have qi131:(0 < l1.length)=True:=eq_true (by omega);(try rw [show ((0:Int)).toNat=0 from rfl] at hx131_0);(try rw [Addr.add_zero'] at hx131_0);have hn131_0:ad129.block ≠ gb128:=Nat.ne_of_lt (Nat.lt_of_lt_of_le (by have:=World.block_lt_of_cell? _ _ hx131_0;first|rwa [add_block] at this|exact this) GW128.out);replace hx131_0:=(HB.out.cell (World.block_lt_of_cell? w _ hx131_0)).trans hx131_0;replace hx131_0:=(cell_far (p:=⟨gb128,3,none⟩) (by first|(rw [add_block];exact hn131_0)|(show (Addr.add _ _).block ≠ _;rw [add_block];exact hn131_0)|exact hn131_0) (.int .i64 (rd l1 2))).trans hx131_0;clear hn131_0;replace p131:=eq_true p131;replace q131:=eq_true q131;have hcz25_0:w23.cell? ⟨gb126,0,none⟩=some (.int .i64 0):=(blk_cell BK126.out 0).trans rfl;have hcz25_1:w23.cell? ⟨gb126,1,none⟩=some (.int .i64 0):=(blk_cell BK126.out 1).trans rfl;have hcz25_2:w23.cell? ⟨gb126,2,none⟩=some (.int .i64 0):=(blk_cell BK126.out 2).trans rfl;have hcz25_3:w23.cell? ⟨gb126,3,none⟩=some (.int .i64 0):=(blk_cell BK126.out 3).trans rfl;have hfz25_0:=blk_frozen BK126.out 0;have hfz25_1:=blk_frozen BK126.out 1;have hfz25_2:=blk_frozen BK126.out 2;have hfz25_3:=blk_frozen BK126.out 3)|((with_reducible refine gate_store (t:=50) (p:=4) rfl ?_);refine store_event (t:=50) (p:=4) (v:=?vo_w26) (w1:=((((((w23.setCell ⟨gb128,3,none⟩ (.int .i64 (rd l1 2))).setCell ⟨gb128,1,none⟩ (.int .i64 (rd l1 0))).setCell ⟨gb126,0,none⟩ (.int .i64 t127)).setCell ⟨gb126,1,none⟩ (.int .i64 (rd l1 0))).setCell ⟨gb126,2,none⟩ (.int .i64 (rd l1 1))).setCell ⟨gb126,3,none⟩ (.int .i64 (rd l1 2)))) ?hg ?ho ?hn ?hr ?_;(case ho => rfl);(case hg => rfl);(case hn => rfl);(case hr => first|(go_simp;done)|(go_simp;rfl));intro w26 hw;have n0_:Aside0 (w26.heap[gb126]?=some (.cells #[.int .i64 t127,.int .i64 (rd l1 0),.int .i64 (rd l1 1),.int .i64 (rd l1 2)] 50 (0,0))):=⟨(by rw [hw];exact (by (with_reducible repeat (first|refine blk_drewN ?_ _|refine blk_drew ?_|refine blk_alloc ?_ _));refine blk_put (cs:=#[.int .i64 t127,.int .i64 (rd l1 0),.int .i64 (rd l1 1),.int .i64 0]) ?_ 3 _ rfl;(with_reducible repeat (first|refine blk_drewN ?_ _|refine blk_drew ?_|refine blk_alloc ?_ _));refine blk_put (cs:=#[.int .i64 t127,.int .i64 (rd l1 0),.int .i64 0,.int .i64 0]) ?_ 2 _ rfl;(with_reducible repeat (first|refine blk_drewN ?_ _|refine blk_drew ?_|refine blk_alloc ?_ _));refine blk_put (cs:=#[.int .i64 t127,.int .i64 0,.int .i64 0,.int .i64 0]) ?_ 1 _ rfl;(with_reducible repeat (first|refine blk_drewN ?_ _|refine blk_drew ?_|refine blk_alloc ?_ _));refine blk_put (cs:=#[.int .i64 0,.int .i64 0,.int .i64 0,.int .i64 0]) ?_ 0 _ rfl;(with_reducible repeat (first|refine blk_drewN ?_ _|refine blk_drew ?_|refine blk_alloc ?_ _));refine blk_far ?_ NB126_128.out _;(with_reducible repeat (first|refine blk_drewN ?_ _|refine blk_drew ?_|refine blk_alloc ?_ _));refine blk_far ?_ NB126_128.out _;(with_reducible repeat (first|refine blk_drewN ?_ _|refine blk_drew ?_|refine blk_alloc ?_ _));exact BK126.out))⟩;have n1_:Aside0 (w26.heap[gb128]?=some (.cells #[.int .i64 t127,.int .i64 (rd l1 0),.int .i64 (rd l1 1),.int .i64 (rd l1 2)] 50 (0,0))):=⟨(by rw [hw];exact (by (with_reducible repeat (first|refine blk_drewN ?_ _|refine blk_drew ?_|refine blk_alloc ?_ _));refine blk_far ?_ NB128_126.out _;(with_reducible repeat (first|refine blk_drewN ?_ _|refine blk_drew ?_|refine blk_alloc ?_ _));refine blk_far ?_ NB128_126.out _;(with_reducible repeat (first|refine blk_drewN ?_ _|refine blk_drew ?_|refine blk_alloc ?_ _));refine blk_far ?_ NB128_126.out _;(with_reducible repeat (first|refine blk_drewN ?_ _|refine blk_drew ?_|refine blk_alloc ?_ _));refine blk_far ?_ NB128_126.out _;(with_reducible repeat (first|refine blk_drewN ?_ _|refine blk_drew ?_|refine blk_alloc ?_ _));refine blk_put (cs:=#[.int .i64 t127,.int .i64 0,.int .i64 (rd l1 1),.int .i64 (rd l1 2)]) ?_ 1 _ rfl;(with_reducible repeat (first|refine blk_drewN ?_ _|refine blk_drew ?_|refine blk_alloc ?_ _));refine blk_put (cs:=#[.int .i64 t127,.int .i64 0,.int .i64 (rd l1 1),.int .i64 0]) ?_ 3 _ rfl;(with_reducible repeat (first|refine blk_drewN ?_ _|refine blk_drew ?_|refine blk_alloc ?_ _));exact BK128.out))⟩;have n2_:Aside0 (Below w.heap.size w w26):=⟨(by rw [hw];exact (by repeat (first|(with_reducible first|exact HB.out|apply below_alloc|apply pw_below_drewN|apply below_drew1|refine below_set ?_ GE126.out|refine below_set ?_ GE128.out)|exact HB.out)))⟩;clear hw;clear BK126;clear BK128;clear HB;have BK126:=n0_;have BK128:=n1_;have HB:=n2_;clear n0_ n1_ n2_))
      refine bodyPost_ret (results_ct rfl _ _ gb126 50 #[.int .i64 t127,.int .i64 (rd l1 0),.int .i64 (rd l1 1),.int .i64 (rd l1 2)] (0,0) _ rfl (by (with_reducible repeat (first|refine blk_drewN ?_ _|refine blk_drew ?_|refine blk_alloc ?_ _));exact BK126.out) Tryz.underlying50 rfl (by kernel_rfl)) rfl ?_
      exact ⟨by first|rfl|(simp [errW_none,errW_some] <;> rfl)|(simp [*,errW_none,errW_some] <;> rfl),by repeat (first|(with_reducible first|exact HB.out|apply below_alloc|apply pw_below_drewN|apply below_drew1|refine below_set ?_ GE126.out|refine below_set ?_ GE128.out)|exact HB.out)⟩
     ·rw [if_neg c17] at H
      exact absurd H (by simp)
   ·rw [if_neg c6] at H
    exact absurd H (by simp)
  ·rw [if_neg c5] at H
   exact absurd H (by simp)
 ·rw [if_neg c4] at H
  have c4b0:((l1.length:Int)==3)=false:=beq_eq_false_iff_ne.mpr c4
  have c4b1:((l1.length:Int) != 3)=true:=bne_iff_ne.mpr c4
  by_cases c27:(l1.length:Int)=2
  ·rw [if_pos c27] at H
   have c27b0:((l1.length:Int)==2)=true:=beq_iff_eq.mpr c27
   have c27b1:((l1.length:Int) != 2)=false:=bne_eq_false_iff_eq.mpr c27
   clear c27
   by_cases c28:1 < (l1.length:Int)
   ·rw [if_pos c28] at H
    have c28b0:decide (1 < (l1.length:Int))=true:=decide_eq_true c28
    have c28b1:decide (1 < l1.length)=true:=decide_eq_true (by omega)
    clear c28
    by_cases c29:t127 < 0
    ·rw [if_pos c29] at H
     have c29b0:decide (t127 < 0)=true:=decide_eq_true c29
     clear c29
     simp only [Option.some.injEq,Prod.mk.injEq] at H
     obtain ⟨rfl,rfl,rfl,rfl,rfl⟩:=H
     go_enter Tryz.func16,Tryz.ntmps16
     go_wp2_with (first|((with_reducible refine gate_dst (N:=4) rfl ?_);refine box_event ?hg (N:=4) ?hd (cs:=#[.int .i64 0,.int .i64 0,.int .i64 0,.int .i64 0]) (t:=50) ?hr ?_;(case hd => rfl);(case hg => rfl);(case hr => first|(go_simp;done)|(go_simp;rfl));intro gb126 hg w30 hbox hb;have n0_:=Aside0.mk (below_step (by repeat (first|(with_reducible first|exact HB.out|apply below_alloc|apply pw_below_drewN|apply below_drew1)|exact HB.out)) hb);have n1_:=Aside0.mk (hbox);have n2_:=Aside0.mk ((by rw [hg];exact (below_size (by repeat (first|(with_reducible first|exact HB.out|apply below_alloc|apply pw_below_drewN|apply below_drew1)|exact HB.out))):w.heap.size≤gb126));have n3_:=Aside0.mk ((by rw [hg];exact (below_size (by repeat (first|(with_reducible first|exact HB.out|apply below_alloc|apply pw_below_drewN|apply below_drew1)|exact HB.out))):w.heap.size≤gb126));clear HB;have HB:=n0_;have BK126:=n1_;have GW126:=n2_;have GE126:=n3_;clear n0_ n1_ n2_ n3_;clear hb hbox hg)|((with_reducible refine gate_callee (f:=32) rfl ?_);refine goesL_ (some 8) rfl rfl Tryz.func32 (by kernel_rfl) rfl #[.string a0] rfl (by (try simp only [List.map_toArray,List.map_cons,List.map_nil]);first|done|rfl|(simp only [List.length_drop,List.length_take];rfl)) ?_;(with_reducible refine (script_kind.calls a0 t127 _ A3.out).mono ?_);rintro e w31 ⟨rfl,hb⟩;refine ⟨_,rfl,?_⟩;have n0_:=Aside0.mk (blk_below (g:=gb126) (o:=.cells #[.int .i64 0,.int .i64 0,.int .i64 0,.int .i64 0] 50 (0,0)) (by (with_reducible repeat (first|refine blk_drewN ?_ _|refine blk_drew ?_|refine blk_alloc ?_ _));exact BK126.out) hb);have n1_:=Aside0.mk (below_step (by repeat (first|(with_reducible first|exact HB.out|apply below_alloc|apply pw_below_drewN|apply below_drew1|refine below_set ?_ GE126.out)|exact HB.out)) hb);clear BK126;clear HB;have BK126:=n0_;have HB:=n1_;clear n0_ n1_;(try clear hb);(try clear hb2);(try clear hk);(try clear hi))|((with_reducible refine gate_dst (N:=6) rfl ?_);refine box_event ?hg (N:=6) ?hd (cs:=#[.int .i64 0,.int .i64 0,.int .i64 0,.int .i64 0]) (t:=50) ?hr ?_;(case hd => rfl);(case hg => rfl);(case hr => first|(go_simp;done)|(go_simp;rfl));intro gb128 hg w32 hbox hb;have n0_:=Aside0.mk (blk_below (g:=gb126) (o:=.cells #[.int .i64 0,.int .i64 0,.int .i64 0,.int .i64 0] 50 (0,0)) (by (with_reducible repeat (first|refine blk_drewN ?_ _|refine blk_drew ?_|refine blk_alloc ?_ _));exact BK126.out) hb);have n1_:=Aside0.mk (below_step (by repeat (first|(with_reducible first|exact HB.out|apply below_alloc|apply pw_below_drewN|apply below_drew1|refine below_set ?_ GE126.out)|exact HB.out)) hb);have n2_:=Aside0.mk (hbox);have n3_:=Aside0.mk ((by rw [hg];exact (below_size (by repeat (first|(with_reducible first|exact HB.out|apply below_alloc|apply pw_below_drewN|apply below_drew1|refine below_set ?_ GE126.out)|exact HB.out))):w.heap.size≤gb128));have n4_:=Aside0.mk ((by rw [hg];exact (below_size (by repeat (first|(with_reducible first|exact HB.out|apply below_alloc|apply pw_below_drewN|apply below_drew1|refine below_set ?_ GE126.out)|exact HB.out))):w.heap.size≤gb128));have n5_:=Aside0.mk ((by rw [hg];exact Nat.ne_of_lt (blk_lt (g:=gb126) (o:=.cells #[.int .i64 0,.int .i64 0,.int .i64 0,.int .i64 0] 50 (0,0)) (by (with_reducible repeat (first|refine blk_drewN ?_ _|refine blk_drew ?_|refine blk_alloc ?_ _));exact BK126.out)):gb126 ≠ gb128));have n6_:=Aside0.mk ((by rw [hg];exact Nat.ne_of_gt (blk_lt (g:=gb126) (o:=.cells #[.int .i64 0,.int .i64 0,.int .i64 0,.int .i64 0] 50 (0,0)) (by (with_reducible repeat (first|refine blk_drewN ?_ _|refine blk_drew ?_|refine blk_alloc ?_ _));exact BK126.out)):gb128 ≠ gb126));clear BK126;clear HB;have BK126:=n0_;have HB:=n1_;have BK128:=n2_;have GW128:=n3_;have GE128:=n4_;have NB126_128:=n5_;have NB128_126:=n6_;clear n0_ n1_ n2_ n3_ n4_ n5_ n6_;clear hb hbox hg;have hnb33:=NB128_126.out;have hnc33:=NB126_128.out;have hcz34_0:w32.cell? ⟨gb128,0,none⟩=some (.int .i64 0):=(blk_cell BK128.out 0).trans rfl;have hcz34_1:w32.cell? ⟨gb128,1,none⟩=some (.int .i64 0):=(blk_cell BK128.out 1).trans rfl;have hcz34_2:w32.cell? ⟨gb128,2,none⟩=some (.int .i64 0):=(blk_cell BK128.out 2).trans rfl;have hcz34_3:w32.cell? ⟨gb128,3,none⟩=some (.int .i64 0):=(blk_cell BK128.out 3).trans rfl;have hfz34_0:=blk_frozen BK128.out 0;have hfz34_1:=blk_frozen BK128.out 1;have hfz34_2:=blk_frozen BK128.out 2;have hfz34_3:=blk_frozen BK128.out 3;have p132:0≤(1:Int):=(by omega);have q132:1 < (l1.length:Int):=of_decide_eq_true (by first|(with_reducible assumption)|assumption);obtain ⟨ad132,e132,hx132_0⟩:=Kd.at_int HR1.out 1 p132 q132;cases e132;(try simp only [show (1:Int).toNat=1 from rfl,Nat.reduceMul,Nat.reduceEqDiff,Go.Addr.add,↓reduceIte] at hx132_0);have qi132:(1 < l1.length)=True:=eq_true (by omega);(try rw [show ((1:Int)).toNat=1 from rfl] at hx132_0);have hn132_0:ad132.block ≠ gb128:=Nat.ne_of_lt (Nat.lt_of_lt_of_le (by have:=World.block_lt_of_cell? _ _ hx132_0;first|rwa [add_block] at this|exact this) GW128.out);have hn132_1:ad132.block ≠ gb128:=Nat.ne_of_lt (Nat.lt_of_lt_of_le (by have:=World.block_lt_of_cell? _ _ hx132_0;first|rwa [add_block] at this|exact this) GW128.out);have hn132_2:ad132.block ≠ gb128:=Nat.ne_of_lt (Nat.lt_of_lt_of_le (by have:=World.block_lt_of_cell? _ _ hx132_0;first|rwa [add_block] at this|exact this) GW128.out);have hn132_3:ad132.block ≠ gb128:=Nat.ne_of_lt (Nat.lt_of_lt_of_le (by have:=World.block_lt_of_cell? _ _ hx132_0;first|rwa [add_block] at this|exact this) GW128.out);replace hx132_0:=(HB.out.cell (World.block_lt_of_cell? w _ hx132_0)).trans hx132_0;replace hx132_0:=(cell_far (p:=⟨gb128,0,none⟩) (by first|(rw [add_block];exact hn132_0)|(show (Addr.add _ _).block ≠ _;rw [add_block];exact hn132_0)|exact hn132_0) (.int .i64 t127)).trans hx132_0;replace hx132_0:=(cell_far (p:=⟨gb128,1,none⟩) (by first|(rw [add_block];exact hn132_1)|(show (Addr.add _ _).block ≠ _;rw [add_block];exact hn132_1)|exact hn132_1) (.int .i64 0)).trans hx132_0;replace hx132_0:=(cell_far (p:=⟨gb128,2,none⟩) (by first|(rw [add_block];exact hn132_2)|(show (Addr.add _ _).block ≠ _;rw [add_block];exact hn132_2)|exact hn132_2) (.int .i64 0)).trans hx132_0;replace hx132_0:=(cell_far (p:=⟨gb128,3,none⟩) (by first|(rw [add_block];exact hn132_3)|(show (Addr.add _ _).block ≠ _;rw [add_block];exact hn132_3)|exact hn132_3) (.int .i64 0)).trans hx132_0;clear hn132_0;clear hn132_1;clear hn132_2;clear hn132_3;replace p132:=eq_true p132;replace q132:=eq_true q132)|((with_reducible refine gate_store (t:=2) (p:=27) rfl ?_);refine store_event (t:=2) (p:=27) (v:=?vo_w35) (w1:=(((((w32.setCell ⟨gb128,0,none⟩ (.int .i64 t127)).setCell ⟨gb128,1,none⟩ (.int .i64 0)).setCell ⟨gb128,2,none⟩ (.int .i64 0)).setCell ⟨gb128,3,none⟩ (.int .i64 0)).setCell ⟨gb128,3,none⟩ (.int .i64 (rd l1 1)))) ?hg ?ho ?hn ?hr ?_;(case ho => rfl);(case hg => rfl);(case hn => rfl);(case hr => first|(go_simp;done)|(go_simp;rfl));intro w35 hw;have n0_:Aside0 (w35.heap[gb126]?=some (.cells #[.int .i64 0,.int .i64 0,.int .i64 0,.int .i64 0] 50 (0,0))):=⟨(by rw [hw];exact (by (with_reducible repeat (first|refine blk_drewN ?_ _|refine blk_drew ?_|refine blk_alloc ?_ _));refine blk_far ?_ NB126_128.out _;(with_reducible repeat (first|refine blk_drewN ?_ _|refine blk_drew ?_|refine blk_alloc ?_ _));refine blk_far ?_ NB126_128.out _;(with_reducible repeat (first|refine blk_drewN ?_ _|refine blk_drew ?_|refine blk_alloc ?_ _));refine blk_far ?_ NB126_128.out _;(with_reducible repeat (first|refine blk_drewN ?_ _|refine blk_drew ?_|refine blk_alloc ?_ _));refine blk_far ?_ NB126_128.out _;(with_reducible repeat (first|refine blk_drewN ?_ _|refine blk_drew ?_|refine blk_alloc ?_ _));refine blk_far ?_ NB126_128.out _;(with_reducible repeat (first|refine blk_drewN ?_ _|refine blk_drew ?_|refine blk_alloc ?_ _));exact BK126.out))⟩;have n1_:Aside0 (w35.heap[gb128]?=some (.cells #[.int .i64 t127,.int .i64 0,.int .i64 0,.int .i64 (rd l1 1)] 50 (0,0))):=⟨(by rw [hw];exact (by (with_reducible repeat (first|refine blk_drewN ?_ _|refine blk_drew ?_|refine blk_alloc ?_ _));refine blk_put (cs:=#[.int .i64 t127,.int .i64 0,.int .i64 0,.int .i64 0]) ?_ 3 _ rfl;(with_reducible repeat (first|refine blk_drewN ?_ _|refine blk_drew ?_|refine blk_alloc ?_ _));refine blk_put (cs:=#[.int .i64 t127,.int .i64 0,.int .i64 0,.int .i64 0]) ?_ 3 _ rfl;(with_reducible repeat (first|refine blk_drewN ?_ _|refine blk_drew ?_|refine blk_alloc ?_ _));refine blk_put (cs:=#[.int .i64 t127,.int .i64 0,.int .i64 0,.int .i64 0]) ?_ 2 _ rfl;(with_reducible repeat (first|refine blk_drewN ?_ _|refine blk_drew ?_|refine blk_alloc ?_ _));refine blk_put (cs:=#[.int .i64 t127,.int .i64 0,.int .i64 0,.int .i64 0]) ?_ 1 _ rfl;(with_reducible repeat (first|refine blk_drewN ?_ _|refine blk_drew ?_|refine blk_alloc ?_ _));refine blk_put (cs:=#[.int .i64 0,.int .i64 0,.int .i64 0,.int .i64 0]) ?_ 0 _ rfl;(with_reducible repeat (first|refine blk_drewN ?_ _|refine blk_drew ?_|refine blk_alloc ?_ _));exact BK128.out))⟩;have n2_:Aside0 (Below w.heap.size w w35):=⟨(by rw [hw];exact (by repeat (first|(with_reducible first|exact HB.out|apply below_alloc|apply pw_below_drewN|apply below_drew1|refine below_set ?_ GE126.out|refine below_set ?_ GE128.out)|exact HB.out)))⟩;clear hw;clear BK126;clear BK128;clear HB;have BK126:=n0_;have BK128:=n1_;have HB:=n2_;clear n0_ n1_ n2_;have hcz36_0:w35.cell? ⟨gb128,0,none⟩=some (.int .i64 t127):=(blk_cell BK128.out 0).trans rfl;have hcz36_1:w35.cell? ⟨gb128,1,none⟩=some (.int .i64 0):=(blk_cell BK128.out 1).trans rfl;have hcz36_2:w35.cell? ⟨gb128,2,none⟩=some (.int .i64 0):=(blk_cell BK128.out 2).trans rfl;have hcz36_3:w35.cell? ⟨gb128,3,none⟩=some (.int .i64 (rd l1 1)):=(blk_cell BK128.out 3).trans rfl;have hfz36_0:=blk_frozen BK128.out 0;have hfz36_1:=blk_frozen BK128.out 1;have hfz36_2:=blk_frozen BK128.out 2;have hfz36_3:=blk_frozen BK128.out 3;have hcz37_0:w35.cell? ⟨gb126,0,none⟩=some (.int .i64 0):=(blk_cell BK126.out 0).trans rfl;have hcz37_1:w35.cell? ⟨gb126,1,none⟩=some (.int .i64 0):=(blk_cell BK126.out 1).trans rfl;have hcz37_2:w35.cell? ⟨gb126,2,none⟩=some (.int .i64 0):=(blk_cell BK126.out 2).trans rfl;have hcz37_3:w35.cell? ⟨gb126,3,none⟩=some (.int .i64 0):=(blk_cell BK126.out 3).trans rfl;have hfz37_0:=blk_frozen BK126.out 0;have hfz37_1:=blk_frozen BK126.out 1;have hfz37_2:=blk_frozen BK126.out 2;have hfz37_3:=blk_frozen BK126.out 3))
     refine bodyPost_ret (results_ct rfl _ _ gb126 50 #[.int .i64 0,.int .i64 0,.int .i64 0,.int .i64 0] (0,0) _ rfl (by (with_reducible repeat (first|refine blk_drewN ?_ _|refine blk_drew ?_|refine blk_alloc ?_ _));refine blk_put (cs:=#[.int .i64 0,.int .i64 0,.int .i64 0,.int .i64 0]) ?_ 3 _ rfl;(with_reducible repeat (first|refine blk_drewN ?_ _|refine blk_drew ?_|refine blk_alloc ?_ _));refine blk_put (cs:=#[.int .i64 0,.int .i64 0,.int .i64 0,.int .i64 0]) ?_ 2 _ rfl;(with_reducible repeat (first|refine blk_drewN ?_ _|refine blk_drew ?_|refine blk_alloc ?_ _));refine blk_put (cs:=#[.int .i64 0,.int .i64 0,.int .i64 0,.int .i64 0]) ?_ 1 _ rfl;(with_reducible repeat (first|refine blk_drewN ?_ _|refine blk_drew ?_|refine blk_alloc ?_ _));refine blk_put (cs:=#[.int .i64 0,.int .i64 0,.int .i64 0,.int .i64 0]) ?_ 0 _ rfl;(with_reducible repeat (first|refine blk_drewN ?_ _|refine blk_drew ?_|refine blk_alloc ?_ _));exact BK126.out) Tryz.underlying50 rfl (by kernel_rfl)) rfl ?_
     exact ⟨by first|rfl|(simp [errW_none,errW_some] <;> rfl)|(simp [*,errW_none,errW_some] <;> rfl),by repeat (first|(with_reducible first|exact HB.out|apply below_alloc|apply pw_below_drewN|apply below_drew1|refine below_set ?_ GE126.out|refine below_set ?_ GE128.out)|exact HB.out)⟩
    ·rw [if_neg c29] at H
     have c29b0:decide (t127 < 0)=false:=decide_eq_false c29
     clear c29
     by_cases c38:0 < (l1.length:Int)
     ·rw [if_pos c38] at H
      have c38b0:decide (0 < (l1.length:Int))=true:=decide_eq_true c38
      have c38b1:decide (0 < l1.length)=true:=decide_eq_true (by omega)
      clear c38
      simp only [Option.some.injEq,Prod.mk.injEq] at H
      obtain ⟨rfl,rfl,rfl,rfl,rfl⟩:=H
      go_enter Tryz.func16,Tryz.ntmps16
      go_wp2_with (first|((with_reducible refine gate_dst (N:=4) rfl ?_);refine box_event ?hg (N:=4) ?hd (cs:=#[.int .i64 0,.int .i64 0,.int .i64 0,.int .i64 0]) (t:=50) ?hr ?_;(case hd => rfl);(case hg => rfl);(case hr => first|(go_simp;done)|(go_simp;rfl));intro gb126 hg w39 hbox hb;have n0_:=Aside0.mk (below_step (by repeat (first|(with_reducible first|exact HB.out|apply below_alloc|apply pw_below_drewN|apply below_drew1)|exact HB.out)) hb);have n1_:=Aside0.mk (hbox);have n2_:=Aside0.mk ((by rw [hg];exact (below_size (by repeat (first|(with_reducible first|exact HB.out|apply below_alloc|apply pw_below_drewN|apply below_drew1)|exact HB.out))):w.heap.size≤gb126));have n3_:=Aside0.mk ((by rw [hg];exact (below_size (by repeat (first|(with_reducible first|exact HB.out|apply below_alloc|apply pw_below_drewN|apply below_drew1)|exact HB.out))):w.heap.size≤gb126));clear HB;have HB:=n0_;have BK126:=n1_;have GW126:=n2_;have GE126:=n3_;clear n0_ n1_ n2_ n3_;clear hb hbox hg)|((with_reducible refine gate_callee (f:=32) rfl ?_);refine goesL_ (some 8) rfl rfl Tryz.func32 (by kernel_rfl) rfl #[.string a0] rfl (by (try simp only [List.map_toArray,List.map_cons,List.map_nil]);first|done|rfl|(simp only [List.length_drop,List.length_take];rfl)) ?_;(with_reducible refine (script_kind.calls a0 t127 _ A3.out).mono ?_);rintro e w40 ⟨rfl,hb⟩;refine ⟨_,rfl,?_⟩;have n0_:=Aside0.mk (blk_below (g:=gb126) (o:=.cells #[.int .i64 0,.int .i64 0,.int .i64 0,.int .i64 0] 50 (0,0)) (by (with_reducible repeat (first|refine blk_drewN ?_ _|refine blk_drew ?_|refine blk_alloc ?_ _));exact BK126.out) hb);have n1_:=Aside0.mk (below_step (by repeat (first|(with_reducible first|exact HB.out|apply below_alloc|apply pw_below_drewN|apply below_drew1|refine below_set ?_ GE126.out)|exact HB.out)) hb);clear BK126;clear HB;have BK126:=n0_;have HB:=n1_;clear n0_ n1_;(try clear hb);(try clear hb2);(try clear hk);(try clear hi))|((with_reducible refine gate_dst (N:=6) rfl ?_);refine box_event ?hg (N:=6) ?hd (cs:=#[.int .i64 0,.int .i64 0,.int .i64 0,.int .i64 0]) (t:=50) ?hr ?_;(case hd => rfl);(case hg => rfl);(case hr => first|(go_simp;done)|(go_simp;rfl));intro gb128 hg w41 hbox hb;have n0_:=Aside0.mk (blk_below (g:=gb126) (o:=.cells #[.int .i64 0,.int .i64 0,.int .i64 0,.int .i64 0] 50 (0,0)) (by (with_reducible repeat (first|refine blk_drewN ?_ _|refine blk_drew ?_|refine blk_alloc ?_ _));exact BK126.out) hb);have n1_:=Aside0.mk (below_step (by repeat (first|(with_reducible first|exact HB.out|apply below_alloc|apply pw_below_drewN|apply below_drew1|refine below_set ?_ GE126.out)|exact HB.out)) hb);have n2_:=Aside0.mk (hbox);have n3_:=Aside0.mk ((by rw [hg];exact (below_size (by repeat (first|(with_reducible first|exact HB.out|apply below_alloc|apply pw_below_drewN|apply below_drew1|refine below_set ?_ GE126.out)|exact HB.out))):w.heap.size≤gb128));have n4_:=Aside0.mk ((by rw [hg];exact (below_size (by repeat (first|(with_reducible first|exact HB.out|apply below_alloc|apply pw_below_drewN|apply below_drew1|refine below_set ?_ GE126.out)|exact HB.out))):w.heap.size≤gb128));have n5_:=Aside0.mk ((by rw [hg];exact Nat.ne_of_lt (blk_lt (g:=gb126) (o:=.cells #[.int .i64 0,.int .i64 0,.int .i64 0,.int .i64 0] 50 (0,0)) (by (with_reducible repeat (first|refine blk_drewN ?_ _|refine blk_drew ?_|refine blk_alloc ?_ _));exact BK126.out)):gb126 ≠ gb128));have n6_:=Aside0.mk ((by rw [hg];exact Nat.ne_of_gt (blk_lt (g:=gb126) (o:=.cells #[.int .i64 0,.int .i64 0,.int .i64 0,.int .i64 0] 50 (0,0)) (by (with_reducible repeat (first|refine blk_drewN ?_ _|refine blk_drew ?_|refine blk_alloc ?_ _));exact BK126.out)):gb128 ≠ gb126));clear BK126;clear HB;have BK126:=n0_;have HB:=n1_;have BK128:=n2_;have GW128:=n3_;have GE128:=n4_;have NB126_128:=n5_;have NB128_126:=n6_;clear n0_ n1_ n2_ n3_ n4_ n5_ n6_;clear hb hbox hg;have hnb42:=NB128_126.out;have hnc42:=NB126_128.out;have hcz43_0:w41.cell? ⟨gb128,0,none⟩=some (.int .i64 0):=(blk_cell BK128.out 0).trans rfl;have hcz43_1:w41.cell? ⟨gb128,1,none⟩=some (.int .i64 0):=(blk_cell BK128.out 1).trans rfl;have hcz43_2:w41.cell? ⟨gb128,2,none⟩=some (.int .i64 0):=(blk_cell BK128.out 2).trans rfl;have hcz43_3:w41.cell? ⟨gb128,3,none⟩=some (.int .i64 0):=(blk_cell BK128.out 3).trans rfl;have hfz43_0:=blk_frozen BK128.out 0;have hfz43_1:=blk_frozen BK128.out 1;have hfz43_2:=blk_frozen BK128.out 2;have hfz43_3:=blk_frozen BK128.out 3;have p132:0≤(1:Int):=(by omega);have q132:1 < (l1.length:Int):=of_decide_eq_true (by first|(with_reducible assumption)|assumption);obtain ⟨ad132,e132,hx132_0⟩:=Kd.at_int HR1.out 1 p132 q132;cases e132;(try simp only [show (1:Int).toNat=1 from rfl,Nat.reduceMul,Nat.reduceEqDiff,Go.Addr.add,↓reduceIte] at hx132_0);have qi132:(1 < l1.length)=True:=eq_true (by omega);(try rw [show ((1:Int)).toNat=1 from rfl] at hx132_0);have hn132_0:ad132.block ≠ gb128:=Nat.ne_of_lt (Nat.lt_of_lt_of_le (by have:=World.block_lt_of_cell? _ _ hx132_0;first|rwa [add_block] at this|exact this) GW128.out);have hn132_1:ad132.block ≠ gb128:=Nat.ne_of_lt (Nat.lt_of_lt_of_le (by have:=World.block_lt_of_cell? _ _ hx132_0;first|rwa [add_block] at this|exact this) GW128.out);have hn132_2:ad132.block ≠ gb128:=Nat.ne_of_lt (Nat.lt_of_lt_of_le (by have:=World.block_lt_of_cell? _ _ hx132_0;first|rwa [add_block] at this|exact this) GW128.out);have hn132_3:ad132.block ≠ gb128:=Nat.ne_of_lt (Nat.lt_of_lt_of_le (by have:=World.block_lt_of_cell? _ _ hx132_0;first|rwa [add_block] at this|exact this) GW128.out);replace hx132_0:=(HB.out.cell (World.block_lt_of_cell? w _ hx132_0)).trans hx132_0;replace hx132_0:=(cell_far (p:=⟨gb128,0,none⟩) (by first|(rw [add_block];exact hn132_0)|(show (Addr.add _ _).block ≠ _;rw [add_block];exact hn132_0)|exact hn132_0) (.int .i64 t127)).trans hx132_0;replace hx132_0:=(cell_far (p:=⟨gb128,1,none⟩) (by first|(rw [add_block];exact hn132_1)|(show (Addr.add _ _).block ≠ _;rw [add_block];exact hn132_1)|exact hn132_1) (.int .i64 0)).trans hx132_0;replace hx132_0:=(cell_far (p:=⟨gb128,2,none⟩) (by first|(rw [add_block];exact hn132_2)|(show (Addr.add _ _).block ≠ _;rw [add_block];exact hn132_2)|exact hn132_2) (.int .i64 0)).trans hx132_0;replace hx132_0:=(cell_far (p:=⟨gb128,3,none⟩) (by first|(rw [add_block];exact hn132_3)|(show (Addr.add _ _).block ≠ _;rw [add_block];exact hn132_3)|exact hn132_3) (.int .i64 0)).trans hx132_0;clear hn132_0;clear hn132_1;clear hn132_2;clear hn132_3;replace p132:=eq_true p132;replace q132:=eq_true q132)|((with_reducible refine gate_store (t:=2) (p:=27) rfl ?_);refine store_event (t:=2) (p:=27) (v:=?vo_w44) (w1:=(((((w41.setCell ⟨gb128,0,none⟩ (.int .i64 t127)).setCell ⟨gb128,1,none⟩ (.int .i64 0)).setCell ⟨gb128,2,none⟩ (.int .i64 0)).setCell ⟨gb128,3,none⟩ (.int .i64 0)).setCell ⟨gb128,3,none⟩ (.int .i64 (rd l1 1)))) ?hg ?ho ?hn ?hr ?_;(case ho => rfl);(case hg => rfl);(case hn => rfl);(case hr => first|(go_simp;done)|(go_simp;rfl));intro w44 hw;have n0_:Aside0 (w44.heap[gb126]?=some (.cells #[.int .i64 0,.int .i64 0,.int .i64 0,.int .i64 0] 50 (0,0))):=⟨(by rw [hw];exact (by (with_reducible repeat (first|refine blk_drewN ?_ _|refine blk_drew ?_|refine blk_alloc ?_ _));refine blk_far ?_ NB126_128.out _;(with_reducible repeat (first|refine blk_drewN ?_ _|refine blk_drew ?_|refine blk_alloc ?_ _));refine blk_far ?_ NB126_128.out _;(with_reducible repeat (first|refine blk_drewN ?_ _|refine blk_drew ?_|refine blk_alloc ?_ _));refine blk_far ?_ NB126_128.out _;(with_reducible repeat (first|refine blk_drewN ?_ _|refine blk_drew ?_|refine blk_alloc ?_ _));refine blk_far ?_ NB126_128.out _;(with_reducible repeat (first|refine blk_drewN ?_ _|refine blk_drew ?_|refine blk_alloc ?_ _));refine blk_far ?_ NB126_128.out _;(with_reducible repeat (first|refine blk_drewN ?_ _|refine blk_drew ?_|refine blk_alloc ?_ _));exact BK126.out))⟩;have n1_:Aside0 (w44.heap[gb128]?=some (.cells #[.int .i64 t127,.int .i64 0,.int .i64 0,.int .i64 (rd l1 1)] 50 (0,0))):=⟨(by rw [hw];exact (by (with_reducible repeat (first|refine blk_drewN ?_ _|refine blk_drew ?_|refine blk_alloc ?_ _));refine blk_put (cs:=#[.int .i64 t127,.int .i64 0,.int .i64 0,.int .i64 0]) ?_ 3 _ rfl;(with_reducible repeat (first|refine blk_drewN ?_ _|refine blk_drew ?_|refine blk_alloc ?_ _));refine blk_put (cs:=#[.int .i64 t127,.int .i64 0,.int .i64 0,.int .i64 0]) ?_ 3 _ rfl;(with_reducible repeat (first|refine blk_drewN ?_ _|refine blk_drew ?_|refine blk_alloc ?_ _));refine blk_put (cs:=#[.int .i64 t127,.int .i64 0,.int .i64 0,.int .i64 0]) ?_ 2 _ rfl;(with_reducible repeat (first|refine blk_drewN ?_ _|refine blk_drew ?_|refine blk_alloc ?_ _));refine blk_put (cs:=#[.int .i64 t127,.int .i64 0,.int .i64 0,.int .i64 0]) ?_ 1 _ rfl;(with_reducible repeat (first|refine blk_drewN ?_ _|refine blk_drew ?_|refine blk_alloc ?_ _));refine blk_put (cs:=#[.int .i64 0,.int .i64 0,.int .i64 0,.int .i64 0]) ?_ 0 _ rfl;(with_reducible repeat (first|refine blk_drewN ?_ _|refine blk_drew ?_|refine blk_alloc ?_ _));exact BK128.out))⟩;have n2_:Aside0 (Below w.heap.size w w44):=⟨(by rw [hw];exact (by repeat (first|(with_reducible first|exact HB.out|apply below_alloc|apply pw_below_drewN|apply below_drew1|refine below_set ?_ GE126.out|refine below_set ?_ GE128.out)|exact HB.out)))⟩;clear hw;clear BK126;clear BK128;clear HB;have BK126:=n0_;have BK128:=n1_;have HB:=n2_;clear n0_ n1_ n2_;have hcz45_0:w44.cell? ⟨gb128,0,none⟩=some (.int .i64 t127):=(blk_cell BK128.out 0).trans rfl;have hcz45_1:w44.cell? ⟨gb128,1,none⟩=some (.int .i64 0):=(blk_cell BK128.out 1).trans rfl;have hcz45_2:w44.cell? ⟨gb128,2,none⟩=some (.int .i64 0):=(blk_cell BK128.out 2).trans rfl;have hcz45_3:w44.cell? ⟨gb128,3,none⟩=some (.int .i64 (rd l1 1)):=(blk_cell BK128.out 3).trans rfl;have hfz45_0:=blk_frozen BK128.out 0;have hfz45_1:=blk_frozen BK128.out 1;have hfz45_2:=blk_frozen BK128.out 2;have hfz45_3:=blk_frozen BK128.out 3;have p133:0≤(0:Int):=(by omega);have q133:0 < (l1.length:Int):=of_decide_eq_true (by first|(with_reducible assumption)|assumption);obtain ⟨ad133,e133,hx133_0⟩:=Kd.at_int HR1.out 0 p133 q133;obtain rfl:ad132=ad133:=(by injection e133);have qi133:(0 < l1.length)=True:=eq_true (by omega);(try rw [show ((0:Int)).toNat=0 from rfl] at hx133_0);(try rw [Addr.add_zero'] at hx133_0);replace hx133_0:=(HB.out.cell (World.block_lt_of_cell? w _ hx133_0)).trans hx133_0;replace p133:=eq_true p133;replace q133:=eq_true q133;have hcz46_0:w44.cell? ⟨gb126,0,none⟩=some (.int .i64 0):=(blk_cell BK126.out 0).trans rfl;have hcz46_1:w44.cell? ⟨gb126,1,none⟩=some (.int .i64 0):=(blk_cell BK126.out 1).trans rfl;have hcz46_2:w44.cell? ⟨gb126,2,none⟩=some (.int .i64 0):=(blk_cell BK126.out 2).trans rfl;have hcz46_3:w44.cell? ⟨gb126,3,none⟩=some (.int .i64 0):=(blk_cell BK126.out 3).trans rfl;have hfz46_0:=blk_frozen BK126.out 0;have hfz46_1:=blk_frozen BK126.out 1;have hfz46_2:=blk_frozen BK126.out 2;have hfz46_3:=blk_frozen BK126.out 3)|((with_reducible refine gate_store (t:=50) (p:=4) rfl ?_);refine store_event (t:=50) (p:=4) (v:=?vo_w47) (w1:=(((((w44.setCell ⟨gb128,1,none⟩ (.int .i64 (rd l1 0))).setCell ⟨gb126,0,none⟩ (.int .i64 t127)).setCell ⟨gb126,1,none⟩ (.int .i64 (rd l1 0))).setCell ⟨gb126,2,none⟩ (.int .i64 0)).setCell ⟨gb126,3,none⟩ (.int .i64 (rd l1 1)))) ?hg ?ho ?hn ?hr ?_;(case ho => rfl);(case hg => rfl);(case hn => rfl);(case hr => first|(go_simp;done)|(go_simp;rfl));intro w47 hw;have n0_:Aside0 (w47.heap[gb126]?=some (.cells #[.int .i64 t127,.int .i64 (rd l1 0),.int .i64 0,.int .i64 (rd l1 1)] 50 (0,0))):=⟨(by rw [hw];exact (by (with_reducible repeat (first|refine blk_drewN ?_ _|refine blk_drew ?_|refine blk_alloc ?_ _));refine blk_put (cs:=#[.int .i64 t127,.int .i64 (rd l1 0),.int .i64 0,.int .i64 0]) ?_ 3 _ rfl;(with_reducible repeat (first|refine blk_drewN ?_ _|refine blk_drew ?_|refine blk_alloc ?_ _));refine blk_put (cs:=#[.int .i64 t127,.int .i64 (rd l1 0),.int .i64 0,.int .i64 0]) ?_ 2 _ rfl;(with_reducible repeat (first|refine blk_drewN ?_ _|refine blk_drew ?_|refine blk_alloc ?_ _));refine blk_put (cs:=#[.int .i64 t127,.int .i64 0,.int .i64 0,.int .i64 0]) ?_ 1 _ rfl;(with_reducible repeat (first|refine blk_drewN ?_ _|refine blk_drew ?_|refine blk_alloc ?_ _));refine blk_put (cs:=#[.int .i64 0,.int .i64 0,.int .i64 0,.int .i64 0]) ?_ 0 _ rfl;(with_reducible repeat (first|refine blk_drewN ?_ _|refine blk_drew ?_|refine blk_alloc ?_ _));refine blk_far ?_ NB126_128.out _;(with_reducible repeat (first|refine blk_drewN ?_ _|refine blk_drew ?_|refine blk_alloc ?_ _));exact BK126.out))⟩;have n1_:Aside0 (w47.heap[gb128]?=some (.cells #[.int .i64 t127,.int .i64 (rd l1 0),.int .i64 0,.int .i64 (rd l1 1)] 50 (0,0))):=⟨(by rw [hw];exact (by (with_reducible repeat (first|refine blk_drewN ?_ _|refine blk_drew ?_|refine blk_alloc ?_ _));refine blk_far ?_ NB128_126.out _;(with_reducible repeat (first|refine blk_drewN ?_ _|refine blk_drew ?_|refine blk_alloc ?_ _));refine blk_far ?_ NB128_126.out _;(with_reducible repeat (first|refine blk_drewN ?_ _|refine blk_drew ?_|refine blk_alloc ?_ _));refine blk_far ?_ NB128_126.out _;(with_reducible repeat (first|refine blk_drewN ?_ _|refine blk_drew ?_|refine blk_alloc ?_ _));refine blk_far ?_ NB128_126.out _;(with_reducible repeat (first|refine blk_drewN ?_ _|refine blk_drew ?_|refine blk_alloc ?_ _));refine blk_put (cs:=#[.int .i64 t127,.int .i64 0,.int .i64 0,.int .i64 (rd l1 1)]) ?_ 1 _ rfl;(with_reducible repeat (first|refine blk_drewN ?_ _|refine blk_drew ?_|refine blk_alloc ?_ _));exact BK128.out))⟩;have n2_:Aside0 (Below w.heap.size w w47):=⟨(by rw [hw];exact (by repeat (first|(with_reducible first|exact HB.out|apply below_alloc|apply pw_below_drewN|apply below_drew1|refine below_set ?_ GE126.out|refine below_set ?_ GE128.out)|exact HB.out)))⟩;clear hw;clear BK126;clear BK128;clear HB;have BK126:=n0_;have BK128:=n1_;have HB:=n2_;clear n0_ n1_ n2_))
      refine bodyPost_ret (results_ct rfl _ _ gb126 50 #[.int .i64 t127,.int .i64 (rd l1 0),.int .i64 0,.int .i64 (rd l1 1)] (0,0) _ rfl (by (with_reducible repeat (first|refine blk_drewN ?_ _|refine blk_drew ?_|refine blk_alloc ?_ _));exact BK126.out) Tryz.underlying50 rfl (by kernel_rfl)) rfl ?_
      exact ⟨by first|rfl|(simp [errW_none,errW_some] <;> rfl)|(simp [*,errW_none,errW_some] <;> rfl),by repeat (first|(with_reducible first|exact HB.out|apply below_alloc|apply pw_below_drewN|apply below_drew1|refine below_set ?_ GE126.out|refine below_set ?_ GE128.out)|exact HB.out)⟩
     ·rw [if_neg c38] at H
      exact absurd H (by simp)
   ·rw [if_neg c28] at H
    exact absurd H (by simp)
  ·rw [if_neg c27] at H
   have c27b0:((l1.length:Int)==2)=false:=beq_eq_false_iff_ne.mpr c27
   have c27b1:((l1.length:Int) != 2)=true:=bne_iff_ne.mpr c27
   by_cases c48:t127 < 0
   ·rw [if_pos c48] at H
    have c48b0:decide (t127 < 0)=true:=decide_eq_true c48
    clear c48
    simp only [Option.some.injEq,Prod.mk.injEq] at H
    obtain ⟨rfl,rfl,rfl,rfl,rfl⟩:=H
    go_enter Tryz.func16,Tryz.ntmps16
    go_wp2_with (first|((with_reducible refine gate_dst (N:=4) rfl ?_);refine box_event ?hg (N:=4) ?hd (cs:=#[.int .i64 0,.int .i64 0,.int .i64 0,.int .i64 0]) (t:=50) ?hr ?_;(case hd => rfl);(case hg => rfl);(case hr => first|(go_simp;done)|(go_simp;rfl));intro gb126 hg w49 hbox hb;have n0_:=Aside0.mk (below_step (by repeat (first|(with_reducible first|exact HB.out|apply below_alloc|apply pw_below_drewN|apply below_drew1)|exact HB.out)) hb);have n1_:=Aside0.mk (hbox);have n2_:=Aside0.mk ((by rw [hg];exact (below_size (by repeat (first|(with_reducible first|exact HB.out|apply below_alloc|apply pw_below_drewN|apply below_drew1)|exact HB.out))):w.heap.size≤gb126));have n3_:=Aside0.mk ((by rw [hg];exact (below_size (by repeat (first|(with_reducible first|exact HB.out|apply below_alloc|apply pw_below_drewN|apply below_drew1)|exact HB.out))):w.heap.size≤gb126));clear HB;have HB:=n0_;have BK126:=n1_;have GW126:=n2_;have GE126:=n3_;clear n0_ n1_ n2_ n3_;clear hb hbox hg)|((with_reducible refine gate_callee (f:=32) rfl ?_);refine goesL_ (some 8) rfl rfl Tryz.func32 (by kernel_rfl) rfl #[.string a0] rfl (by (try simp only [List.map_toArray,List.map_cons,List.map_nil]);first|done|rfl|(simp only [List.length_drop,List.length_take];rfl)) ?_;(with_reducible refine (script_kind.calls a0 t127 _ A3.out).mono ?_);rintro e w50 ⟨rfl,hb⟩;refine ⟨_,rfl,?_⟩;have n0_:=Aside0.mk (blk_below (g:=gb126) (o:=.cells #[.int .i64 0,.int .i64 0,.int .i64 0,.int .i64 0] 50 (0,0)) (by (with_reducible repeat (first|refine blk_drewN ?_ _|refine blk_drew ?_|refine blk_alloc ?_ _));exact BK126.out) hb);have n1_:=Aside0.mk (below_step (by repeat (first|(with_reducible first|exact HB.out|apply below_alloc|apply pw_below_drewN|apply below_drew1|refine below_set ?_ GE126.out)|exact HB.out)) hb);clear BK126;clear HB;have BK126:=n0_;have HB:=n1_;clear n0_ n1_;(try clear hb);(try clear hb2);(try clear hk);(try clear hi))|((with_reducible refine gate_dst (N:=6) rfl ?_);refine box_event ?hg (N:=6) ?hd (cs:=#[.int .i64 0,.int .i64 0,.int .i64 0,.int .i64 0]) (t:=50) ?hr ?_;(case hd => rfl);(case hg => rfl);(case hr => first|(go_simp;done)|(go_simp;rfl));intro gb128 hg w51 hbox hb;have n0_:=Aside0.mk (blk_below (g:=gb126) (o:=.cells #[.int .i64 0,.int .i64 0,.int .i64 0,.int .i64 0] 50 (0,0)) (by (with_reducible repeat (first|refine blk_drewN ?_ _|refine blk_drew ?_|refine blk_alloc ?_ _));exact BK126.out) hb);have n1_:=Aside0.mk (below_step (by repeat (first|(with_reducible first|exact HB.out|apply below_alloc|apply pw_below_drewN|apply below_drew1|refine below_set ?_ GE126.out)|exact HB.out)) hb);have n2_:=Aside0.mk (hbox);have n3_:=Aside0.mk ((by rw [hg];exact (below_size (by repeat (first|(with_reducible first|exact HB.out|apply below_alloc|apply pw_below_drewN|apply below_drew1|refine below_set ?_ GE126.out)|exact HB.out))):w.heap.size≤gb128));have n4_:=Aside0.mk ((by rw [hg];exact (below_size (by repeat (first|(with_reducible first|exact HB.out|apply below_alloc|apply pw_below_drewN|apply below_drew1|refine below_set ?_ GE126.out)|exact HB.out))):w.heap.size≤gb128));have n5_:=Aside0.mk ((by rw [hg];exact Nat.ne_of_lt (blk_lt (g:=gb126) (o:=.cells #[.int .i64 0,.int .i64 0,.int .i64 0,.int .i64 0] 50 (0,0)) (by (with_reducible repeat (first|refine blk_drewN ?_ _|refine blk_drew ?_|refine blk_alloc ?_ _));exact BK126.out)):gb126 ≠ gb128));have n6_:=Aside0.mk ((by rw [hg];exact Nat.ne_of_gt (blk_lt (g:=gb126) (o:=.cells #[.int .i64 0,.int .i64 0,.int .i64 0,.int .i64 0] 50 (0,0)) (by (with_reducible repeat (first|refine blk_drewN ?_ _|refine blk_drew ?_|refine blk_alloc ?_ _));exact BK126.out)):gb128 ≠ gb126));clear BK126;clear HB;have BK126:=n0_;have HB:=n1_;have BK128:=n2_;have GW128:=n3_;have GE128:=n4_;have NB126_128:=n5_;have NB128_126:=n6_;clear n0_ n1_ n2_ n3_ n4_ n5_ n6_;clear hb hbox hg;have hnb52:=NB128_126.out;have hnc52:=NB126_128.out;have hcz53_0:w51.cell? ⟨gb128,0,none⟩=some (.int .i64 0):=(blk_cell BK128.out 0).trans rfl;have hcz53_1:w51.cell? ⟨gb128,1,none⟩=some (.int .i64 0):=(blk_cell BK128.out 1).trans rfl;have hcz53_2:w51.cell? ⟨gb128,2,none⟩=some (.int .i64 0):=(blk_cell BK128.out 2).trans rfl;have hcz53_3:w51.cell? ⟨gb128,3,none⟩=some (.int .i64 0):=(blk_cell BK128.out 3).trans rfl;have hfz53_0:=blk_frozen BK128.out 0;have hfz53_1:=blk_frozen BK128.out 1;have hfz53_2:=blk_frozen BK128.out 2;have hfz53_3:=blk_frozen BK128.out 3;have hcz54_0:w51.cell? ⟨gb126,0,none⟩=some (.int .i64 0):=(blk_cell BK126.out 0).trans rfl;have hcz54_1:w51.cell? ⟨gb126,1,none⟩=some (.int .i64 0):=(blk_cell BK126.out 1).trans rfl;have hcz54_2:w51.cell? ⟨gb126,2,none⟩=some (.int .i64 0):=(blk_cell BK126.out 2).trans rfl;have hcz54_3:w51.cell? ⟨gb126,3,none⟩=some (.int .i64 0):=(blk_cell BK126.out 3).trans rfl;have hfz54_0:=blk_frozen BK126.out 0;have hfz54_1:=blk_frozen BK126.out 1;have hfz54_2:=blk_frozen BK126.out 2;have hfz54_3:=blk_frozen BK126.out 3)|((with_reducible refine gate_store (t:=50) (p:=4) rfl ?_);refine store_event (t:=50) (p:=4) (v:=?vo_w55) (w1:=((((((((w51.setCell ⟨gb128,0,none⟩ (.int .i64 t127)).setCell ⟨gb128,1,none⟩ (.int .i64 0)).setCell ⟨gb128,2,none⟩ (.int .i64 0)).setCell ⟨gb128,3,none⟩ (.int .i64 0)).setCell ⟨gb126,0,none⟩ (.int .i64 0)).setCell ⟨gb126,1,none⟩ (.int .i64 0)).setCell ⟨gb126,2,none⟩ (.int .i64 0)).setCell ⟨gb126,3,none⟩ (.int .i64 0))) ?hg ?ho ?hn ?hr ?_;(case ho => rfl);(case hg => rfl);(case hn => rfl);(case hr => first|(go_simp;done)|(go_simp;rfl));intro w55 hw;have n0_:Aside0 (w55.heap[gb126]?=some (.cells #[.int .i64 0,.int .i64 0,.int .i64 0,.int .i64 0] 50 (0,0))):=⟨(by rw [hw];exact (by (with_reducible repeat (first|refine blk_drewN ?_ _|refine blk_drew ?_|refine blk_alloc ?_ _));refine blk_put (cs:=#[.int .i64 0,.int .i64 0,.int .i64 0,.int .i64 0]) ?_ 3 _ rfl;(with_reducible repeat (first|refine blk_drewN ?_ _|refine blk_drew ?_|refine blk_alloc ?_ _));refine blk_put (cs:=#[.int .i64 0,.int .i64 0,.int .i64 0,.int .i64 0]) ?_ 2 _ rfl;(with_reducible repeat (first|refine blk_drewN ?_ _|refine blk_drew ?_|refine blk_alloc ?_ _));refine blk_put (cs:=#[.int .i64 0,.int .i64 0,.int .i64 0,.int .i64 0]) ?_ 1 _ rfl;(with_reducible repeat (first|refine blk_drewN ?_ _|refine blk_drew ?_|refine blk_alloc ?_ _));refine blk_put (cs:=#[.int .i64 0,.int .i64 0,.int .i64 0,.int .i64 0]) ?_ 0 _ rfl;(with_reducible repeat (first|refine blk_drewN ?_ _|refine blk_drew ?_|refine blk_alloc ?_ _));refine blk_far ?_ NB126_128.out _;(with_reducible repeat (first|refine blk_drewN ?_ _|refine blk_drew ?_|refine blk_alloc ?_ _));refine blk_far ?_ NB126_128.out _;(with_reducible repeat (first|refine blk_drewN ?_ _|refine blk_drew ?_|refine blk_alloc ?_ _));refine blk_far ?_ NB126_128.out _;(with_reducible repeat (first|refine blk_drewN ?_ _|refine blk_drew ?_|refine blk_alloc ?_ _));refine blk_far ?_ NB126_128.out _;(with_reducible repeat (first|refine blk_drewN ?_ _|refine blk_drew ?_|refine blk_alloc ?_ _));exact BK126.out))⟩;have n1_:Aside0 (w55.heap[gb128]?=some (.cells #[.int .i64 t127,.int .i64 0,.int .i64 0,.int .i64 0] 50 (0,0))):=⟨(by rw [hw];exact (by (with_reducible repeat (first|refine blk_drewN ?_ _|refine blk_drew ?_|refine blk_alloc ?_ _));refine blk_far ?_ NB128_126.out _;(with_reducible repeat (first|refine blk_drewN ?_ _|refine blk_drew ?_|refine blk_alloc ?_ _));refine blk_far ?_ NB128_126.out _;(with_reducible repeat (first|refine blk_drewN ?_ _|refine blk_drew ?_|refine blk_alloc ?_ _));refine blk_far ?_ NB128_126.out _;(with_reducible repeat (first|refine blk_drewN ?_ _|refine blk_drew ?_|refine blk_alloc ?_ _));refine blk_far ?_ NB128_126.out _;(with_reducible repeat (first|refine blk_drewN ?_ _|refine blk_drew ?_|refine blk_alloc ?_ _));refine blk_put (cs:=#[.int .i64 t127,.int .i64 0,.int .i64 0,.int .i64 0]) ?_ 3 _ rfl;(with_reducible repeat (first|refine blk_drewN ?_ _|refine blk_drew ?_|refine blk_alloc ?_ _));refine blk_put (cs:=#[.int .i64 t127,.int .i64 0,.int .i64 0,.int .i64 0]) ?_ 2 _ rfl;(with_reducible repeat (first|refine blk_drewN ?_ _|refine blk_drew ?_|refine blk_alloc ?_ _));refine blk_put (cs:=#[.int .i64 t127,.int .i64 0,.int .i64 0,.int .i64 0]) ?_ 1 _ rfl;(with_reducible repeat (first|refine blk_drewN ?_ _|refine blk_drew ?_|refine blk_alloc ?_ _));refine blk_put (cs:=#[.int .i64 0,.int .i64 0,.int .i64 0,.int .i64 0]) ?_ 0 _ rfl;(with_reducible repeat (first|refine blk_drewN ?_ _|refine blk_drew ?_|refine blk_alloc ?_ _));exact BK128.out))⟩;have n2_:Aside0 (Below w.heap.size w w55):=⟨(by rw [hw];exact (by repeat (first|(with_reducible first|exact HB.out|apply below_alloc|apply pw_below_drewN|apply below_drew1|refine below_set ?_ GE126.out|refine below_set ?_ GE128.out)|exact HB.out)))⟩;clear hw;clear BK126;clear BK128;clear HB;have BK126:=n0_;have BK128:=n1_;have HB:=n2_;clear n0_ n1_ n2_))
    refine bodyPost_ret (results_ct rfl _ _ gb126 50 #[.int .i64 0,.int .i64 0,.int .i64 0,.int .i64 0] (0,0) _ rfl (by (with_reducible repeat (first|refine blk_drewN ?_ _|refine blk_drew ?_|refine blk_alloc ?_ _));exact BK126.out) Tryz.underlying50 rfl (by kernel_rfl)) rfl ?_
    exact ⟨by first|rfl|(simp [errW_none,errW_some] <;> rfl)|(simp [*,errW_none,errW_some] <;> rfl),by repeat (first|(with_reducible first|exact HB.out|apply below_alloc|apply pw_below_drewN|apply below_drew1|refine below_set ?_ GE126.out|refine below_set ?_ GE128.out)|exact HB.out)⟩
   ·rw [if_neg c48] at H
    have c48b0:decide (t127 < 0)=false:=decide_eq_false c48
    clear c48
    by_cases c56:0 < (l1.length:Int)
    ·rw [if_pos c56] at H
     have c56b0:decide (0 < (l1.length:Int))=true:=decide_eq_true c56
     have c56b1:decide (0 < l1.length)=true:=decide_eq_true (by omega)
     clear c56
     simp only [Option.some.injEq,Prod.mk.injEq] at H
     obtain ⟨rfl,rfl,rfl,rfl,rfl⟩:=H
     go_enter Tryz.func16,Tryz.ntmps16
     go_wp2_with (first|((with_reducible refine gate_dst (N:=4) rfl ?_);refine box_event ?hg (N:=4) ?hd (cs:=#[.int .i64 0,.int .i64 0,.int .i64 0,.int .i64 0]) (t:=50) ?hr ?_;(case hd => rfl);(case hg => rfl);(case hr => first|(go_simp;done)|(go_simp;rfl));intro gb126 hg w57 hbox hb;have n0_:=Aside0.mk (below_step (by repeat (first|(with_reducible first|exact HB.out|apply below_alloc|apply pw_below_drewN|apply below_drew1)|exact HB.out)) hb);have n1_:=Aside0.mk (hbox);have n2_:=Aside0.mk ((by rw [hg];exact (below_size (by repeat (first|(with_reducible first|exact HB.out|apply below_alloc|apply pw_below_drewN|apply below_drew1)|exact HB.out))):w.heap.size≤gb126));have n3_:=Aside0.mk ((by rw [hg];exact (below_size (by repeat (first|(with_reducible first|exact HB.out|apply below_alloc|apply pw_below_drewN|apply below_drew1)|exact HB.out))):w.heap.size≤gb126));clear HB;have HB:=n0_;have BK126:=n1_;have GW126:=n2_;have GE126:=n3_;clear n0_ n1_ n2_ n3_;clear hb hbox hg)|((with_reducible refine gate_callee (f:=32) rfl ?_);refine goesL_ (some 8) rfl rfl Tryz.func32 (by kernel_rfl) rfl #[.string a0] rfl (by (try simp only [List.map_toArray,List.map_cons,List.map_nil]);first|done|rfl|(simp only [List.length_drop,List.length_take];rfl)) ?_;(with_reducible refine (script_kind.calls a0 t127 _ A3.out).mono ?_);rintro e w58 ⟨rfl,hb⟩;refine ⟨_,rfl,?_⟩;have n0_:=Aside0.mk (blk_below (g:=gb126) (o:=.cells #[.int .i64 0,.int .i64 0,.int .i64 0,.int .i64 0] 50 (0,0)) (by (with_reducible repeat (first|refine blk_drewN ?_ _|refine blk_drew ?_|refine blk_alloc ?_ _));exact BK126.out) hb);have n1_:=Aside0.mk (below_step (by repeat (first|(with_reducible first|exact HB.out|apply below_alloc|apply pw_below_drewN|apply below_drew1|refine below_set ?_ GE126.out)|exact HB.out)) hb);clear BK126;clear HB;have BK126:=n0_;have HB:=n1_;clear n0_ n1_;(try clear hb);(try clear hb2);(try clear hk);(try clear hi))|((with_reducible refine gate_dst (N:=6) rfl ?_);refine box_event ?hg (N:=6) ?hd (cs:=#[.int .i64 0,.int .i64 0,.int .i64 0,.int .i64 0]) (t:=50) ?hr ?_;(case hd => rfl);(case hg => rfl);(case hr => first|(go_simp;done)|(go_simp;rfl));intro gb128 hg w59 hbox hb;have n0_:=Aside0.mk (blk_below (g:=gb126) (o:=.cells #[.int .i64 0,.int .i64 0,.int .i64 0,.int .i64 0] 50 (0,0)) (by (with_reducible repeat (first|refine blk_drewN ?_ _|refine blk_drew ?_|refine blk_alloc ?_ _));exact BK126.out) hb);have n1_:=Aside0.mk (below_step (by repeat (first|(with_reducible first|exact HB.out|apply below_alloc|apply pw_below_drewN|apply below_drew1|refine below_set ?_ GE126.out)|exact HB.out)) hb);have n2_:=Aside0.mk (hbox);have n3_:=Aside0.mk ((by rw [hg];exact (below_size (by repeat (first|(with_reducible first|exact HB.out|apply below_alloc|apply pw_below_drewN|apply below_drew1|refine below_set ?_ GE126.out)|exact HB.out))):w.heap.size≤gb128));have n4_:=Aside0.mk ((by rw [hg];exact (below_size (by repeat (first|(with_reducible first|exact HB.out|apply below_alloc|apply pw_below_drewN|apply below_drew1|refine below_set ?_ GE126.out)|exact HB.out))):w.heap.size≤gb128));have n5_:=Aside0.mk ((by rw [hg];exact Nat.ne_of_lt (blk_lt (g:=gb126) (o:=.cells #[.int .i64 0,.int .i64 0,.int .i64 0,.int .i64 0] 50 (0,0)) (by (with_reducible repeat (first|refine blk_drewN ?_ _|refine blk_drew ?_|refine blk_alloc ?_ _));exact BK126.out)):gb126 ≠ gb128));have n6_:=Aside0.mk ((by rw [hg];exact Nat.ne_of_gt (blk_lt (g:=gb126) (o:=.cells #[.int .i64 0,.int .i64 0,.int .i64 0,.int .i64 0] 50 (0,0)) (by (with_reducible repeat (first|refine blk_drewN ?_ _|refine blk_drew ?_|refine blk_alloc ?_ _));exact BK126.out)):gb128 ≠ gb126));clear BK126;clear HB;have BK126:=n0_;have HB:=n1_;have BK128:=n2_;have GW128:=n3_;have GE128:=n4_;have NB126_128:=n5_;have NB128_126:=n6_;clear n0_ n1_ n2_ n3_ n4_ n5_ n6_;clear hb hbox hg;have hnb60:=NB128_126.out;have hnc60:=NB126_128.out;have hcz61_0:w59.cell? ⟨gb128,0,none⟩=some (.int .i64 0):=(blk_cell BK128.out 0).trans rfl;have hcz61_1:w59.cell? ⟨gb128,1,none⟩=some (.int .i64 0):=(blk_cell BK128.out 1).trans rfl;have hcz61_2:w59.cell? ⟨gb128,2,none⟩=some (.int .i64 0):=(blk_cell BK128.out 2).trans rfl;have hcz61_3:w59.cell? ⟨gb128,3,none⟩=some (.int .i64 0):=(blk_cell BK128.out 3).trans rfl;have hfz61_0:=blk_frozen BK128.out 0;have hfz61_1:=blk_frozen BK128.out 1;have hfz61_2:=blk_frozen BK128.out 2;have hfz61_3:=blk_frozen BK128.out 3;have p134:0≤(0:Int):=(by omega);have q134:0 < (l1.length:Int):=of_decide_eq_true (by first|(with_reducible assumption)|assumption);obtain ⟨ad134,e134,hx134_0⟩:=Kd.at_int HR1.out 0 p134 q134;cases e134;have qi134:(0 < l1.length)=True:=eq_true (by omega);(try rw [show ((0:Int)).toNat=0 from rfl] at hx134_0);(try rw [Addr.add_zero'] at hx134_0);have hn134_0:ad134.block ≠ gb128:=Nat.ne_of_lt (Nat.lt_of_lt_of_le (by have:=World.block_lt_of_cell? _ _ hx134_0;first|rwa [add_block] at this|exact this) GW128.out);have hn134_1:ad134.block ≠ gb128:=Nat.ne_of_lt (Nat.lt_of_lt_of_le (by have:=World.block_lt_of_cell? _ _ hx134_0;first|rwa [add_block] at this|exact this) GW128.out);have hn134_2:ad134.block ≠ gb128:=Nat.ne_of_lt (Nat.lt_of_lt_of_le (by have:=World.block_lt_of_cell? _ _ hx134_0;first|rwa [add_block] at this|exact this) GW128.out);have hn134_3:ad134.block ≠ gb128:=Nat.ne_of_lt (Nat.lt_of_lt_of_le (by have:=World.block_lt_of_cell? _ _ hx134_0;first|rwa [add_block] at this|exact this) GW128.out);replace hx134_0:=(HB.out.cell (World.block_lt_of_cell? w _ hx134_0)).trans hx134_0;replace hx134_0:=(cell_far (p:=⟨gb128,0,none⟩) (by first|(rw [add_block];exact hn134_0)|(show (Addr.add _ _).block ≠ _;rw [add_block];exact hn134_0)|exact hn134_0) (.int .i64 t127)).trans hx134_0;replace hx134_0:=(cell_far (p:=⟨gb128,1,none⟩) (by first|(rw [add_block];exact hn134_1)|(show (Addr.add _ _).block ≠ _;rw [add_block];exact hn134_1)|exact hn134_1) (.int .i64 0)).trans hx134_0;replace hx134_0:=(cell_far (p:=⟨gb128,2,none⟩) (by first|(rw [add_block];exact hn134_2)|(show (Addr.add _ _).block ≠ _;rw [add_block];exact hn134_2)|exact hn134_2) (.int .i64 0)).trans hx134_0;replace hx134_0:=(cell_far (p:=⟨gb128,3,none⟩) (by first|(rw [add_block];exact hn134_3)|(show (Addr.add _ _).block ≠ _;rw [add_block];exact hn134_3)|exact hn134_3) (.int .i64 0)).trans hx134_0;clear hn134_0;clear hn134_1;clear hn134_2;clear hn134_3;replace p134:=eq_true p134;replace q134:=eq_true q134)|((with_reducible refine gate_store (t:=3) (p:=35) rfl ?_);refine store_event (t:=3) (p:=35) (v:=?vo_w62) (w1:=(((((w59.setCell ⟨gb128,0,none⟩ (.int .i64 t127)).setCell ⟨gb128,1,none⟩ (.int .i64 0)).setCell ⟨gb128,2,none⟩ (.int .i64 0)).setCell ⟨gb128,3,none⟩ (.int .i64 0)).setCell ⟨gb128,1,none⟩ (.int .i64 (rd l1 0)))) ?hg ?ho ?hn ?hr ?_;(case ho => rfl);(case hg => rfl);(case hn => rfl);(case hr => first|(go_simp;done)|(go_simp;rfl));intro w62 hw;have n0_:Aside0 (w62.heap[gb126]?=some (.cells #[.int .i64 0,.int .i64 0,.int .i64 0,.int .i64 0] 50 (0,0))):=⟨(by rw [hw];exact (by (with_reducible repeat (first|refine blk_drewN ?_ _|refine blk_drew ?_|refine blk_alloc ?_ _));refine blk_far ?_ NB126_128.out _;(with_reducible repeat (first|refine blk_drewN ?_ _|refine blk_drew ?_|refine blk_alloc ?_ _));refine blk_far ?_ NB126_128.out _;(with_reducible repeat (first|refine blk_drewN ?_ _|refine blk_drew ?_|refine blk_alloc ?_ _));refine blk_far ?_ NB126_128.out _;(with_reducible repeat (first|refine blk_drewN ?_ _|refine blk_drew ?_|refine blk_alloc ?_ _));refine blk_far ?_ NB126_128.out _;(with_reducible repeat (first|refine blk_drewN ?_ _|refine blk_drew ?_|refine blk_alloc ?_ _));refine blk_far ?_ NB126_128.out _;(with_reducible repeat (first|refine blk_drewN ?_ _|refine blk_drew ?_|refine blk_alloc ?_ _));exact BK126.out))⟩;have n1_:Aside0 (w62.heap[gb128]?=some (.cells #[.int .i64 t127,.int .i64 (rd l1 0),.int .i64 0,.int .i64 0] 50 (0,0))):=⟨(by rw [hw];exact (by (with_reducible repeat (first|refine blk_drewN ?_ _|refine blk_drew ?_|refine blk_alloc ?_ _));refine blk_put (cs:=#[.int .i64 t127,.int .i64 0,.int .i64 0,.int .i64 0]) ?_ 1 _ rfl;(with_reducible repeat (first|refine blk_drewN ?_ _|refine blk_drew ?_|refine blk_alloc ?_ _));refine blk_put (cs:=#[.int .i64 t127,.int .i64 0,.int .i64 0,.int .i64 0]) ?_ 3 _ rfl;(with_reducible repeat (first|refine blk_drewN ?_ _|refine blk_drew ?_|refine blk_alloc ?_ _));refine blk_put (cs:=#[.int .i64 t127,.int .i64 0,.int .i64 0,.int .i64 0]) ?_ 2 _ rfl;(with_reducible repeat (first|refine blk_drewN ?_ _|refine blk_drew ?_|refine blk_alloc ?_ _));refine blk_put (cs:=#[.int .i64 t127,.int .i64 0,.int .i64 0,.int .i64 0]) ?_ 1 _ rfl;(with_reducible repeat (first|refine blk_drewN ?_ _|refine blk_drew ?_|refine blk_alloc ?_ _));refine blk_put (cs:=#[.int .i64 0,.int .i64 0,.int .i64 0,.int .i64 0]) ?_ 0 _ rfl;(with_reducible repeat (first|refine blk_drewN ?_ _|refine blk_drew ?_|refine blk_alloc ?_ _));exact BK128.out))⟩;have n2_:Aside0 (Below w.heap.size w w62):=⟨(by rw [hw];exact (by repeat (first|(with_reducible first|exact HB.out|apply below_alloc|apply pw_below_drewN|apply below_drew1|refine below_set ?_ GE126.out|refine below_set ?_ GE128.out)|exact HB.out)))⟩;clear hw;clear BK126;clear BK128;clear HB;have BK126:=n0_;have BK128:=n1_;have HB:=n2_;clear n0_ n1_ n2_;have hcz63_0:w62.cell? ⟨gb128,0,none⟩=some (.int .i64 t127):=(blk_cell BK128.out 0).trans rfl;have hcz63_1:w62.cell? ⟨gb128,1,none⟩=some (.int .i64 (rd l1 0)):=(blk_cell BK128.out 1).trans rfl;have hcz63_2:w62.cell? ⟨gb128,2,none⟩=some (.int .i64 0):=(blk_cell BK128.out 2).trans rfl;have hcz63_3:w62.cell? ⟨gb128,3,none⟩=some (.int .i64 0):=(blk_cell BK128.out 3).trans rfl;have hfz63_0:=blk_frozen BK128.out 0;have hfz63_1:=blk_frozen BK128.out 1;have hfz63_2:=blk_frozen BK128.out 2;have hfz63_3:=blk_frozen BK128.out 3;have hcz64_0:w62.cell? ⟨gb126,0,none⟩=some (.int .i64 0):=(blk_cell BK126.out 0).trans rfl;have hcz64_1:w62.cell? ⟨gb126,1,none⟩=some (.int .i64 0):=(blk_cell BK126.out 1).trans rfl;have hcz64_2:w62.cell? ⟨gb126,2,none⟩=some (.int .i64 0):=(blk_cell BK126.out 2).trans rfl;have hcz64_3:w62.cell? ⟨gb126,3,none⟩=some (.int .i64 0):=(blk_cell BK126.out 3).trans rfl;have hfz64_0:=blk_frozen BK126.out 0;have hfz64_1:=blk_frozen BK126.out 1;have hfz64_2:=blk_frozen BK126.out 2;have hfz64_3:=blk_frozen BK126.out 3))
     refine bodyPost_ret (results_ct rfl _ _ gb126 50 #[.int .i64 t127,.int .i64 (rd l1 0),.int .i64 0,.int .i64 0] (0,0) _ rfl (by (with_reducible repeat (first|refine blk_drewN ?_ _|refine blk_drew ?_|refine blk_alloc ?_ _));refine blk_put (cs:=#[.int .i64 t127,.int .i64 (rd l1 0),.int .i64 0,.int .i64 0]) ?_ 3 _ rfl;(with_reducible repeat (first|refine blk_drewN ?_ _|refine blk_drew ?_|refine blk_alloc ?_ _));refine blk_put (cs:=#[.int .i64 t127,.int .i64 (rd l1 0),.int .i64 0,.int .i64 0]) ?_ 2 _ rfl;(with_reducible repeat (first|refine blk_drewN ?_ _|refine blk_drew ?_|refine blk_alloc ?_ _));refine blk_put (cs:=#[.int .i64 t127,.int .i64 0,.int .i64 0,.int .i64 0]) ?_ 1 _ rfl;(with_reducible repeat (first|refine blk_drewN ?_ _|refine blk_drew ?_|refine blk_alloc ?_ _));refine blk_put (cs:=#[.int .i64 0,.int .i64 0,.int .i64 0,.int .i64 0]) ?_ 0 _ rfl;(with_reducible repeat (first|refine blk_drewN ?_ _|refine blk_drew ?_|refine blk_alloc ?_ _));exact BK126.out) Tryz.underlying50 rfl (by kernel_rfl)) rfl ?_
     exact ⟨by first|rfl|(simp [errW_none,errW_some] <;> rfl)|(simp [*,errW_none,errW_some] <;> rfl),by repeat (first|(with_reducible first|exact HB.out|apply below_alloc|apply pw_below_drewN|apply below_drew1|refine below_set ?_ GE126.out|refine below_set ?_ GE128.out)|exact HB.out)⟩
    ·rw [if_neg c56] at H
     exact absurd H (by simp)
end Go.Proofs.YtpofikjkccljlaaGreatDoor.Px
namespace Go.Proofs.YtpofikjkccljlaaGreatDoor.Px
open Go.RowKit Go.Lib Go.Proofs.YtpofikjkccljlaaGreatDoorW.PrintWords Go.Proofs.YtpofikjkccljlaaGreatDoorW.PrintLast Go.Proofs.YtpofikjkccljlaaGreatDoorW.PrintMore
set_option linter.unusedVariables false
set_option linter.unusedSimpArgs false
abbrev Act_ := S50
def skipT (t : ByteArray) : Bool := if t.toList = ([] : List UInt8) then true else bt t 0 == 35
inductive ReadR where
  | ok (fs : List (List Int)) (n : Int) (as_ : List Act_)
  | bad (l e : Int)
def script_read.l0 (k : Nat) : List ByteArray → Int → List (List Int) → Int → List Act_ → Option ReadR
  | [], _, fs, n, as_ => some (.ok fs n as_)
  | t :: r, i, fs, n, as_ =>
    if skipT t = true then script_read.l0 k r (i + 1) fs n as_ else
    (script_Line.f k t).bind fun x =>
    if x.2.2.2 = 0 then
      (if x.1.toList = ([102, 105, 108, 101] : List UInt8) then (if fs.length < 5864062014805 then script_read.l0 k r (i + 1) (fs ++ [x.2.1]) n as_ else none)
       else if x.1.toList = ([109, 97, 99, 104, 105, 110, 101, 115] : List UInt8) then
        (if 0 < x.2.2.1.length then (if wrap32 (rd x.2.2.1 0) = rd x.2.2.1 0 then script_read.l0 k r (i + 1) fs (rd x.2.2.1 0) as_ else some (.bad (i + 1) 4)) else none)
       else (script_act.f x.1 x.2.2.1).bind fun a => if as_.length < 4398046511104 then script_read.l0 k r (i + 1) fs n (as_ ++ [(⟨a.1, a.2.1, a.2.2.1, a.2.2.2.1⟩ : Act_)]) else none)
    else some (.bad (i + 1) x.2.2.2)
def script_read.f (k : Nat) (s : ByteArray) : Option ReadR := if (s.size : Int) > 65536 then some (.bad 0 2) else script_read.l0 k (linesB s) 0 [] 3 []
structure TxtSt (w W : World) (bx : Nat) (okf : Nat → Prop) (vf va : Value) (fs : List (List Int)) (n : Int) (as_ : List Act_) (vl : Value) (L : List ByteArray) : Prop where
  b : Below w.heap.size w W
  km : W.heap[bx]? = some (.cells #[vf, .int .i64 n, va] 44 (0, 0))
  h0 : w.heap.size ≤ bx
  F : Kd.S (Kd.slice 5 (Kd.int .u8)) 45 W w.heap.size okf vf fs
  A : Kd.R k50 50 W w.heap.size (fun _ => True) va as_
  L : Kd.R Kd.string 9 W w.heap.size (fun _ => True) vl L
theorem TxtSt.new {w W W' : World} {bx : Nat} {okf : Nat → Prop} {vf va : Value} {fs : List (List Int)} {n : Int} {as_ : List Act_} {vl : Value} {L : List ByteArray} (h : TxtSt w W bx okf vf va fs n as_ vl L) (hb : Below W.heap.size W W') : TxtSt w W' bx okf vf va fs n as_ vl L :=
  ⟨below_step h.b hb, (hb.block _ (blk_lt h.km)).trans h.km, h.h0, Kd.S_below h.F hb, Kd.R_below h.A hb, Kd.R_below h.L hb⟩
theorem TxtSt.mono {w W : World} {bx : Nat} {okf okg : Nat → Prop} {vf va : Value} {fs : List (List Int)} {n : Int} {as_ : List Act_} {vl : Value} {L : List ByteArray} (h : TxtSt w W bx okf vf va fs n as_ vl L) (hk : ∀ k, okf k → okg k) : TxtSt w W bx okg vf va fs n as_ vl L :=
  ⟨h.b, h.km, h.h0, Kd.S_mono h.F hk, h.A, h.L⟩
theorem TxtSt.setN {w W : World} {bx : Nat} {okf : Nat → Prop} {vf va : Value} {fs : List (List Int)} {n : Int} {as_ : List Act_} {vl : Value} {L : List ByteArray} (h : TxtSt w W bx okf vf va fs n as_ vl L) (m : Int) : TxtSt w (W.setCell ⟨bx, 1, none⟩ (.int .i64 m)) bx okf vf va fs m as_ vl L :=
  ⟨below_set h.b h.h0, blk_set h.km 1 (.int .i64 m), h.h0, Kd.S_set h.F h.km (by decide) 1 _, Kd.R_set h.A h.km (by decide) 1 _, Kd.R_set h.L h.km (by decide) 1 _⟩
theorem TxtSt.fblk {w W W' : World} {bx : Nat} {okf : Nat → Prop} {vf va : Value} {fs : List (List Int)} {n : Int} {as_ : List Act_} {vl : Value} {L : List ByteArray} (h : TxtSt w W bx okf vf va fs n as_ vl L) (hg : W.grownBy W' vf.ownBlock) : W'.heap[bx]? = some (.cells #[vf, .int .i64 n, va] 44 (0, 0)) :=
  (hg.block _ (blk_lt h.km) (fun e => by
    obtain ⟨cells, hc⟩ := Kd.S_typed h.F bx e.symm
    rw [h.km] at hc
    injection hc with hc
    injection hc with _ h2 _
    exact absurd h2 (by decide))).trans h.km
theorem TxtSt.fcell {w W W' : World} {bx : Nat} {okf : Nat → Prop} {vf va : Value} {fs : List (List Int)} {n : Int} {as_ : List Act_} {vl : Value} {L : List ByteArray} (h : TxtSt w W bx okf vf va fs n as_ vl L) (hg : W.grownBy W' vf.ownBlock) : W'.cell? ⟨bx, 0, none⟩ = some vf := (blk_cell (h.fblk hg) 0).trans rfl
theorem TxtSt.ffree {w W W' : World} {bx : Nat} {okf : Nat → Prop} {vf va : Value} {fs : List (List Int)} {n : Int} {as_ : List Act_} {vl : Value} {L : List ByteArray} (h : TxtSt w W bx okf vf va fs n as_ vl L) (hg : W.grownBy W' vf.ownBlock) : W'.frozen? ⟨bx, 0, none⟩ = false := blk_frozen (h.fblk hg) 0
theorem TxtSt.files {w W W' : World} {bx : Nat} {okf okg : Nat → Prop} {vf vg va : Value} {fs gs : List (List Int)} {n : Int} {as_ : List Act_} {vl : Value} {L : List ByteArray} (h : TxtSt w W bx okf vf va fs n as_ vl L) (hb : Below w.heap.size w W') (hg : W.grownBy W' vf.ownBlock) (hF : Kd.S (Kd.slice 5 (Kd.int .u8)) 45 W' w.heap.size okg vg gs) : TxtSt w (W'.setCell ⟨bx, 0, none⟩ vg) bx okg vg va gs n as_ vl L := by
  have hk := h.fblk hg
  exact ⟨below_set hb h.h0, blk_set hk 0 vg, h.h0, Kd.S_set hF hk (by decide) 0 _, Kd.R_set (Kd.R_over' h.A (Kd.S_typed h.F) (by decide) hg) hk (by decide) 0 _, Kd.R_set (Kd.R_over' h.L (Kd.S_typed h.F) (by decide) hg) hk (by decide) 0 _⟩
theorem TxtSt.acts {w W W' : World} {bx : Nat} {okf : Nat → Prop} {vf va vb : Value} {fs : List (List Int)} {n : Int} {as_ bs : List Act_} {vl : Value} {L : List ByteArray} (h : TxtSt w W bx okf vf va fs n as_ vl L) (hb : Below w.heap.size w W') (hg : W.grownBy W' va.ownBlock) (hA : Kd.R k50 50 W' w.heap.size (fun _ => True) vb bs) : W'.heap[bx]? = some (.cells #[vf, .int .i64 n, va] 44 (0, 0)) ∧ TxtSt w (W'.setCell ⟨bx, 2, none⟩ vb) bx okf vf vb fs n bs vl L := by
  have hk : W'.heap[bx]? = some (.cells #[vf, .int .i64 n, va] 44 (0, 0)) := (hg.block _ (blk_lt h.km) (fun e => by
    obtain ⟨cells, hc⟩ := Kd.R_typed h.A bx e.symm
    rw [h.km] at hc
    injection hc with hc
    injection hc with _ h2 _
    exact absurd h2 (by decide))).trans h.km
  exact ⟨hk, below_set hb h.h0, blk_set hk 2 vb, h.h0, Kd.S_set (Kd.S_over' h.F (Kd.R_typed h.A) (by decide) hg) hk (by decide) 2 _, Kd.R_set hA hk (by decide) 2 _, Kd.R_set (Kd.R_over' h.L (Kd.R_typed h.A) (by decide) hg) hk (by decide) 2 _⟩
def ReadPost (w : World) (r : ReadR) (e : Ending) (w' : World) : Prop := match r with
  | .ok fs n as_ => ∃ (bx : Nat) (vf va : Value), e = .returned (.tuple #[.pointer (some ⟨bx, 0, none⟩), .nilIface]) ∧ w'.heap[bx]? = some (.cells #[vf, .int .i64 n, va] 44 (0, 0)) ∧ Kd.S (Kd.slice 5 (Kd.int .u8)) 45 w' w.heap.size (fun _ => True) vf fs ∧ Kd.R k50 50 w' w.heap.size (fun _ => True) va as_ ∧ Below w.heap.size w w'
  | .bad l y => ∃ g, e = .returned (.tuple #[.pointer none, .iface 38 (.pointer (some ⟨g, 0, none⟩))]) ∧ w'.heap[g]? = some (.cells #[.int .i64 l, .int .i64 y] 42 (0, 0)) ∧ Below w.heap.size w w'
theorem wrap64_32 (y : Int) : wrap64 (wrap32 y) = wrap32 y := by unfold wrap64 wrap32; omega
theorem intOf_int (k : IntKind) (n : Int) : RowKit.intOf (.int k n) = n := rfl
theorem fewer {i n : Nat} (h : i < n) (hw : wrap64 ((i : Int) + 1) = (i : Int) + 1) : n - (wrap64 ((i : Int) + 1)).toNat < n - ((i : Int)).toNat := by
  rw [hw]
  omega
theorem lines_le (s : ByteArray) (hs : s.size ≤ 65536) : (linesB s).length ≤ 65537 := by
  have h1 := Lib.splitB_length_le ⟨#[10]⟩ 0 (Lib.countB s ⟨#[10]⟩) s
  have h2 := Lib.countB_le ⟨#[10]⟩ (by decide) s.size s (Nat.le_refl _)
  have h3 : (linesB s).length ≤ Lib.countB s ⟨#[10]⟩ + 1 := h1
  omega
set_option maxHeartbeats 8000000 in
set_option maxRecDepth 100000 in
theorem script_read.calls (k : Nat) (s : ByteArray) (r : ReadR) (w : World) (hG : Aside0 (GG w)) (h : script_read.f k s = some r) :
    Calls Tryz.prog 9 #[.string s] w fun e w' => ReadPost w r e w' := by
  have hu1 := Tryz.underlying44
  have hu2 := Tryz.underlying42
  have hu3 := Tryz.underlying50
  have HB0 := Aside0.mk (Below.refl w.heap.size w)
  unfold script_read.f at h
  by_cases c1 : (s.size : Int) > 65536
  · rw [if_pos c1] at h
    obtain rfl := Option.some.inj h
    have c1b : decide (65536 < (s.size : Int)) = true := decide_eq_true c1
    have c1n : decide (65536 < s.size) = true := decide_eq_true (by omega)
    clear c1 h
    go_enter Tryz.func9, Tryz.ntmps9
    go_wp2_with ((with_reducible refine gate_dst (N := 17) rfl ?_); refine box_event ?hg (N := 17) ?hd (cs := #[.int .i64 0, .int .i64 2]) (t := 42) ?hr ?_; (case hd => rfl); (case hg => rfl); (case hr => first | (go_simp; done) | (go_simp; rfl)); intro gb hg w1 hbox hb; have BK := Aside0.mk hbox; have HB := Aside0.mk (below_step HB0.out hb); clear hbox hb hg)
    go_ret2
    exact ⟨gb, rfl, BK.out, HB.out⟩
  rw [if_neg c1] at h
  have c1b : decide (65536 < (s.size : Int)) = false := decide_eq_false c1
  have c1n : decide (65536 < s.size) = false := decide_eq_false (by omega)
  have HSZ := Aside0.mk (show s.size ≤ 65536 by omega)
  obtain ⟨LL, hLL⟩ : ∃ LL, LL = linesB s := ⟨_, rfl⟩
  have hsp : strings_Split.f s (⟨#[10]⟩ : ByteArray) = some LL := by rw [hLL]; exact if_pos ⟨by have := HSZ.out; omega, by decide⟩
  have HLE := Aside0.mk (show LL.length ≤ 65537 by rw [hLL]; exact lines_le s HSZ.out)
  rw [← hLL] at h
  have HH := Aside0.mk h
  have HSP := Aside0.mk hsp
  clear c1 h hsp hLL
  go_enter Tryz.func9, Tryz.ntmps9
  go_wp2_with ((with_reducible refine gate_dst (N := 20) rfl ?_); refine box_event ?hg (N := 20) ?hd (cs := #[.slice none 0 0, .int .i64 3, .slice none 0 0]) (t := 44) ?hr ?_; (case hd => rfl); (case hg => rfl); (case hr => first | (go_simp; done) | (go_simp; rfl)); intro bx hg w1 hbox hb; have BK := Aside0.mk hbox; have HB1 := Aside0.mk (below_step HB0.out hb); have HX := Aside0.mk (show w.heap.size ≤ bx from by rw [hg]; exact Nat.le_refl _); clear hbox hb hg)
  refine (strings_Split.calls s ⟨#[10]⟩ LL _ ⟨GG.below hG.out HB1.out⟩ HSP.out).mono ?_
  rintro e w2 ⟨v, rfl, hR, hb⟩
  obtain ⟨AL, cL, hv⟩ := Kd.R_slice hR
  subst hv
  have HT : Aside0 (TxtSt w w2 bx (fun _ => True) (.slice none 0 0) (.slice none 0 0) [] 3 [] (.slice AL LL.length cL) LL) := ⟨⟨below_step HB1.out hb, blk_below BK.out hb, HX.out, Kd.S_nil _ _ _ _ _, Kd.R_nil _ _ _ _ _, Kd.R_lower hR HB1.out.size⟩⟩
  clear hR hb HSP BK HB1 c1b c1n HB0
  go_wp2
  go_loopw [24] (fun vi W => ∃ (i : Nat) (fs : List (List Int)) (n : Int) (as_ : List Act_) (vf va : Value), vi = .int .i64 (i : Int) ∧ Aside0 (i ≤ LL.length) ∧ Aside0 (script_read.l0 k (LL.drop i) (i : Int) fs n as_ = some r) ∧ Aside0 (TxtSt w W bx (fun _ => True) vf va fs n as_ (.slice AL LL.length cL) LL)) (fun vi _ => LL.length - (RowKit.intOf vi).toNat)
  case atStart => exact ⟨0, [], 3, [], _, _, rfl, ⟨Nat.zero_le _⟩, HH, HT⟩
  case round =>
    obtain ⟨i, fs, n, as_, vf, va, rfl, HI, HR, HTr⟩ := hrel
    clear HH HT
    have HT := HTr
    clear HTr
    by_cases hi : i < LL.length
    · have d1 : decide ((i : Int) < (LL.length : Int)) = true := decide_eq_true (by omega)
      have d1n : decide (i < LL.length) = true := decide_eq_true hi
      have HLT := Aside0.mk hi
      obtain ⟨ad, ea, hx⟩ := Kd.at_string (Kd.R_reads' HT.out.L).2.2 (i : Int) (by omega) (by omega)
      subst ea
      rw [Int.toNat_natCast] at hx
      obtain ⟨t, ht⟩ : ∃ t, t = rdOf ByteArray.empty LL (i : Int) := ⟨_, rfl⟩
      rw [← ht] at hx
      have hd : LL.drop i = t :: LL.drop (i + 1) := by
        rw [List.drop_eq_getElem_cons hi, ht]
        unfold rdOf
        rw [Int.toNat_natCast, List.getD_eq_getElem?_getD, List.getElem?_eq_getElem hi]
        rfl
      have hR := HR.out
      rw [hd, script_read.l0] at hR
      have q1 : ((i : Int) < (LL.length : Int)) = True := eq_true (by omega)
      have q2 : (i < LL.length) = True := eq_true hi
      have q3 : (0 ≤ (i : Int)) = True := eq_true (by omega)
      have hwi : wrap64 ((i : Int) + 1) = (i : Int) + 1 := by have := HLE.out; unfold wrap64; omega
      have hci : ((i : Int) + 1) = ((i + 1 : Nat) : Int) := by omega
      have HLW := Aside0.mk (Nat.lt_of_lt_of_le hi HLE.out)
      have HWI := Aside0.mk hwi
      clear hd ht hi HR hwi
      by_cases hs : skipT t = true
      · rw [if_pos hs, hci] at hR
        have HR2 := Aside0.mk hR
        unfold skipT at hs
        clear hR hci
        by_cases he : t.toList = ([] : List UInt8)
        · have e0 : (t.toList == ([] : List UInt8)) = true := beq_iff_eq.mpr he
          clear he hs
          go_wp2
          go_roundw
          case measure => rw [intOf_int, intOf_int]; exact fewer HLT.out HWI.out
          case rel =>
            rw [HWI.out]
            exact ⟨i + 1, fs, n, as_, vf, va, by simp, ⟨HLT.out⟩, HR2, HT⟩
        · have e0 : (t.toList == ([] : List UInt8)) = false := beq_eq_false_iff_ne.mpr he
          rw [if_neg he] at hs
          have hpos : 0 < t.size := by
            have h1 : t.toList.length ≠ 0 := fun e => he (List.length_eq_zero_iff.1 e)
            rw [Lib.toList_data, Array.length_toList] at h1
            exact Nat.pos_of_ne_zero h1
          have hb0 : ∀ h : 0 < t.size, ((t[0]'h).toNat : Int) = bt t 0 := bt_at t 0
          have e1 : (0 < t.size) = True := eq_true hpos
          have e2 : (0 < (t.size : Int)) = True := eq_true (Int.natCast_pos.2 hpos)
          clear he
          go_wp2
          go_roundw
          case measure => rw [intOf_int, intOf_int]; exact fewer HLT.out HWI.out
          case rel =>
            rw [HWI.out]
            exact ⟨i + 1, fs, n, as_, vf, va, by simp, ⟨HLT.out⟩, HR2, HT⟩
      rw [if_neg hs] at hR
      obtain ⟨⟨x1, x2, x3, x4⟩, hln, hR⟩ := Option.bind_eq_some_iff.mp hR
      have HLN1 := Aside0.mk hln
      have HR3 := Aside0.mk hR
      clear hln hR
      have he : ¬ t.toList = ([] : List UInt8) := fun e => hs (by unfold skipT; rw [if_pos e])
      have e0 : (t.toList == ([] : List UInt8)) = false := beq_eq_false_iff_ne.mpr he
      have e3 : (bt t 0 == 35) = false := by unfold skipT at hs; rw [if_neg he] at hs; exact Bool.eq_false_iff.2 hs
      have hpos : 0 < t.size := by
        have h1 : t.toList.length ≠ 0 := fun e => he (List.length_eq_zero_iff.1 e)
        rw [Lib.toList_data, Array.length_toList] at h1
        exact Nat.pos_of_ne_zero h1
      have hb0 : ∀ h : 0 < t.size, ((t[0]'h).toNat : Int) = bt t 0 := bt_at t 0
      have e1 : (0 < t.size) = True := eq_true hpos
      have e2 : (0 < (t.size : Int)) = True := eq_true (Int.natCast_pos.2 hpos)
      clear he hs hpos
      go_wp2_with fail
      refine (script_Line.calls k t x1 x2 x3 x4 _ ⟨GG.below hG.out HT.out.b⟩ HLN1.out).mono ?_
      rintro e w3 ⟨v1, v2, rfl, ho1, ho2, hb⟩
      obtain ⟨A1, c1, hv1⟩ := Kd.R_slice ho1
      subst hv1
      obtain ⟨A2, c2, hv2⟩ := Kd.R_slice ho2
      subst hv2
      have HV1 := Aside0.mk (fun (k_ : Nat) (hk_ : some k_ = (Value.slice A1 x2.length c1).ownBlock) => (⟨trivial, fun (e_ : some k_ = vf.ownBlock) => by
        have g1 := Kd.R_base ho1 k_ hk_.symm
        have g2 := Kd.S_lt HT.out.F k_ e_.symm
        omega⟩ : True ∧ some k_ ≠ vf.ownBlock))
      have HN := HT.out.new hb
      have HT3 : Aside0 (TxtSt w w3 bx (fun k_ => True ∧ some k_ ≠ (Value.slice A1 x2.length c1).ownBlock) vf va fs n as_ (.slice (some ad) LL.length cL) LL) := ⟨⟨HN.b, HN.km, HN.h0, Kd.S_elder' HT.out.F (Kd.R_base ho1) hb, HN.A, HN.L⟩⟩
      have HO1 := Aside0.mk (Kd.R_lower ho1 HT.out.b.size)
      have HO2 := Aside0.mk (Kd.R_lower ho2 HT.out.b.size)
      clear HN ho1 ho2 hb hx e0 e1 e2 e3 hb0 q1 q2 q3 d1 d1n HT HLN1
      have hR := HR3.out
      clear HR3
      try simp only at hR
      by_cases k0 : x4 = 0
      case neg =>
        rw [if_neg k0] at hR
        obtain rfl := Option.some.inj hR
        have k0b : (x4 != 0) = true := bne_iff_ne.mpr k0
        clear k0 hR hci
        go_wp2_with ((with_reducible refine gate_dst (N := 56) rfl ?_); refine box_event ?hg (N := 56) ?hd (cs := #[.int .i64 (wrap64 ((i : Int) + 1)), .int .i64 x4]) (t := 42) ?hr ?_; (case hd => rfl); (case hg => rfl); (case hr => first | (go_simp; done) | (go_simp; rfl)); intro gb hg w4 hbox hb; have BK := Aside0.mk hbox; have HB := Aside0.mk (below_step HT3.out.b hb); clear hbox hb hg)
        go_ret2
        exact ⟨gb, rfl, by rw [← HWI.out]; exact BK.out, HB.out⟩
      rw [if_pos k0] at hR
      have k0b : (x4 != 0) = false := bne_eq_false_iff_eq.mpr k0
      clear k0
      by_cases kf : x1.toList = ([102, 105, 108, 101] : List UInt8)
      case pos =>
        rw [if_pos kf] at hR
        by_cases kl : fs.length < 5864062014805
        case neg => rw [if_neg kl] at hR; cases hR
        rw [if_pos kl, hci] at hR
        have HR2 := Aside0.mk hR
        have HFL := Aside0.mk kl
        have kfb : (x1.toList == ([102, 105, 108, 101] : List UInt8)) = true := beq_iff_eq.mpr kf
        have cg := (blk_cell HT3.out.km 0).trans rfl
        clear kf kl hR hci
        go_wp2_with ((with_reducible refine gate_builtin (b := .append) (xs := #[.tmp 65, .tmp 67]) rfl ?_); at_builtin; refine Kd.S_append (Kd.slice 5 (Kd.int .u8)) (w0 := w) w.heap.size rfl (.tmp 65) (.tmp 67) 22 45 (.slice none 0 0) 24 rfl Tryz.underlying22 info45 rfl (by decide) (by omega) vf fs x2 [.slice A1 x2.length c1] (fun _ => True) (fun k_ => some k_ = (.slice A1 x2.length c1 : Value).ownBlock) rfl rfl ?aP HV1.out (fun _ _ => trivial) ?aO HT3.out.b HT3.out.b.size ?aL ?_; (case aP => exact Kd.M_row (Kd.R_tight rfl HO1.out)); (case aO => exact Kd.S_mono HT3.out.F (fun _ hk => ⟨trivial, fun e_ => hk.2 e_⟩)); (case aL => have := HFL.out; omega); intro v5 w5 ho hb hg hat; obtain ⟨A5, c5, hv5⟩ := Kd.S_slice ho; simp only [List.length_append, List.length_singleton] at hv5; subst hv5; have HT5 := Aside0.mk (HT3.out.files hb hg ho); have cg5 := HT3.out.fcell hg; have fg5 := HT3.out.ffree hg; clear ho hb hg hat)
        go_roundw
        case measure => rw [intOf_int, intOf_int]; exact fewer HLT.out HWI.out
        case rel =>
          rw [HWI.out]
          exact ⟨i + 1, _, n, as_, _, va, by simp, ⟨HLT.out⟩, HR2, HT5⟩
      rw [if_neg kf] at hR
      have kfb : (x1.toList == ([102, 105, 108, 101] : List UInt8)) = false := beq_eq_false_iff_ne.mpr kf
      have HT4 := Aside0.mk (HT3.out.mono (fun k_ _ => (trivial : True)))
      clear kf HT3 HV1
      by_cases km : x1.toList = ([109, 97, 99, 104, 105, 110, 101, 115] : List UInt8)
      case pos =>
        rw [if_pos km] at hR
        by_cases kl : 0 < x3.length
        case neg => rw [if_neg kl] at hR; cases hR
        rw [if_pos kl] at hR
        have kmb : (x1.toList != ([109, 97, 99, 104, 105, 110, 101, 115] : List UInt8)) = false := bne_eq_false_iff_eq.mpr km
        have kmc : (x1.toList == ([109, 97, 99, 104, 105, 110, 101, 115] : List UInt8)) = true := beq_iff_eq.mpr km
        obtain ⟨a2, ea2, hx2⟩ := Kd.at_int (Kd.R_reads' HO2.out).2.2 0 (by omega) (by omega)
        subst ea2
        simp only [show ((0 : Int)).toNat = 0 from rfl, Addr.add_zero'] at hx2
        have z1 : (0 < x3.length) = True := eq_true kl
        have z2 : (0 < (x3.length : Int)) = True := eq_true (by omega)
        obtain ⟨y, hy⟩ : ∃ y, y = rd x3 0 := ⟨_, rfl⟩
        rw [← hy] at hR hx2
        clear km kl hy
        by_cases kw : wrap32 y = y
        case neg =>
          rw [if_neg kw] at hR
          obtain rfl := Option.some.inj hR
          have kwb : (wrap32 y != y) = true := bne_iff_ne.mpr kw
          have kwc : (wrap64 (wrap32 y) != y) = true := by rw [wrap64_32]; exact bne_iff_ne.mpr kw
          clear kw hR hci
          go_wp2
          go_quiet (fail)
          have HB4 := Aside0.mk (pw_below_drewN HT4.out.b nq)
          go_wp2_with ((with_reducible refine gate_dst (N := 103) rfl ?_); refine box_event ?hg (N := 103) ?hd (cs := #[.int .i64 (wrap64 ((i : Int) + 1)), .int .i64 4]) (t := 42) ?hr ?_; (case hd => rfl); (case hg => rfl); (case hr => first | (go_simp; done) | (go_simp; rfl)); intro gb hg w4 hbox hb; have BK := Aside0.mk hbox; have HB := Aside0.mk (below_step HB4.out hb); clear hbox hb hg)
          go_ret2
          exact ⟨gb, rfl, by rw [← HWI.out]; exact BK.out, HB.out⟩
        rw [if_pos kw, hci] at hR
        have kwb : (wrap32 y != y) = false := bne_eq_false_iff_eq.mpr kw
        have kwc : (wrap64 (wrap32 y) != y) = false := by rw [wrap64_32]; exact bne_eq_false_iff_eq.mpr kw
        have HR2 := Aside0.mk hR
        clear kw hR hci
        go_wp2
        go_quiet (fail)
        have HT5 := Aside0.mk (HT4.out.new (pw_below_drewN (Below.refl _ _) nq))
        have HT6 := Aside0.mk (HT5.out.setN y)
        have cg1 := (blk_cell HT4.out.km 1).trans rfl
        have fg1 := blk_frozen HT4.out.km 1
        clear HT4 HT5
        go_wp2
        go_roundw
        case measure => rw [intOf_int, intOf_int]; exact fewer HLT.out HWI.out
        case rel =>
          rw [HWI.out]
          exact ⟨i + 1, fs, y, as_, vf, va, by simp, ⟨HLT.out⟩, HR2, HT6⟩
      rw [if_neg km] at hR
      have kmb : (x1.toList != ([109, 97, 99, 104, 105, 110, 101, 115] : List UInt8)) = true := bne_iff_ne.mpr km
      have kmc : (x1.toList == ([109, 97, 99, 104, 105, 110, 101, 115] : List UInt8)) = false := beq_eq_false_iff_ne.mpr km
      clear km
      obtain ⟨⟨y1, y2, y3, y4, y5⟩, hac, hR⟩ := Option.bind_eq_some_iff.mp hR
      have HAC := Aside0.mk hac
      try simp only at hR
      by_cases kl : as_.length < 4398046511104
      case neg => rw [if_neg kl] at hR; cases hR
      rw [if_pos kl, hci] at hR
      have HR2 := Aside0.mk hR
      have HLN := Aside0.mk kl
      clear hac kl hR hci
      go_wp2_with fail
      refine (script_act.calls x1 (A2) c2 x3 y1 y2 y3 y4 y5 _ (Kd.R_reads' HO2.out).2.2 (Kd.R_reads' HO2.out).2.1 HAC.out).mono ?_
      rintro e w4 ⟨rfl, hb⟩
      have HT5 := Aside0.mk (HT4.out.new hb)
      clear hb HT4 HAC HO1 HO2
      go_wp2
      obtain ⟨Wa, hWa⟩ : ∃ Wa, Wa = w4.alloc (.cells #[.int .i64 y1, .int .i64 y2, .int .i64 y3, .int .i64 y4] 50 (0, 0)) := ⟨_, rfl⟩
      obtain ⟨ba, hba⟩ : ∃ ba, ba = w4.heap.size := ⟨_, rfl⟩
      rw [← hWa, ← hba]
      have hka : Wa.heap[ba]? = some (.cells #[.int .i64 y1, .int .i64 y2, .int .i64 y3, .int .i64 y4] 50 (0, 0)) := by rw [hWa, hba]; exact blk_new _ _
      have GD := Aside0.mk ((HT5.out.new (by rw [hWa]; exact below_alloc (Below.refl _ _) _)).new (below_drew (Below.refl Wa.heap.size Wa)))
      have hkd : Wa.drew.heap[ba]? = some (.cells #[.int .i64 y1, .int .i64 y2, .int .i64 y3, .int .i64 y4] 50 (0, 0)) := blk_drew hka
      have cg0 := (blk_cell GD.out.km 2).trans rfl
      have ca0 := (blk_cell hkd 0).trans rfl
      have ca1 := (blk_cell hkd 1).trans rfl
      have ca2 := (blk_cell hkd 2).trans rfl
      have ca3 := (blk_cell hkd 3).trans rfl
      clear hWa hba hka hkd HT5
      refine start_ (n := 11) (S := fun w' => w'.cell? ⟨bx, 2, none⟩ = some va ∧ w'.cell? ⟨ba, 0, none⟩ = some (.int .i64 y1) ∧ w'.cell? ⟨ba, 1, none⟩ = some (.int .i64 y2) ∧ w'.cell? ⟨ba, 2, none⟩ = some (.int .i64 y3) ∧ w'.cell? ⟨ba, 3, none⟩ = some (.int .i64 y4)) (ds := [7, 10]) #[false, false, false, false, false, false, false, false, false, false, false] (by kernel_rfl) rfl rfl ⟨cg0, ca0, ca1, ca2, ca3⟩ (fun hHeld => ?_)
      refine pure_ (i := 0) (N := some 80) (v := ?_) (a' := ?_) #[true, false, false, false, false, false, false, false, false, false, false] rfl rfl (by kernel_rfl) (fun _ _ _ h => h) (Or.inl ⟨by rfl, ?_⟩) ?_ ?_
      rotate_left
      · intro w'
        go_simp
        with_reducible rfl
      rotate_left
      · simp only [Act.put, List.setIfInBounds_toArray, List.set_cons_zero, List.set_cons_succ, i64_w, i32_w]
        rfl
      refine pure_ (i := 1) (N := some 81) (v := ?_) (a' := ?_) #[true, true, false, false, false, false, false, false, false, false, false] rfl rfl (by kernel_rfl) (fun _ _ _ h => h) (Or.inl ⟨by rfl, ?_⟩) ?_ ?_
      rotate_left
      · intro w'
        go_simp
        with_reducible rfl
      rotate_left
      · simp only [Act.put, List.setIfInBounds_toArray, List.set_cons_zero, List.set_cons_succ, i64_w, i32_w]
        rfl
      refine pure_ (i := 2) (N := some 82) (v := ?_) (a' := ?_) #[true, true, true, false, false, false, false, false, false, false, false] rfl rfl (by kernel_rfl) (fun _ _ _ h => h) (Or.inl ⟨by rfl, ?_⟩) ?_ ?_
      rotate_left
      · intro w'
        go_simp
        with_reducible rfl
      rotate_left
      · simp only [Act.put, List.setIfInBounds_toArray, List.set_cons_zero, List.set_cons_succ, i64_w, i32_w]
        rfl
      refine pure_ (i := 3) (N := some 83) (v := ?_) (a' := ?_) #[true, true, true, true, false, false, false, false, false, false, false] rfl rfl (by kernel_rfl) (fun _ _ _ h => h) (Or.inl ⟨by rfl, ?_⟩) ?_ ?_
      rotate_left
      · intro w'
        go_simp
        with_reducible rfl
      rotate_left
      · simp only [Act.put, List.setIfInBounds_toArray, List.set_cons_zero, List.set_cons_succ, i64_w, i32_w]
        rfl
      refine take_ (i := 4) (N := some 84) (v := ?_) (a' := ?_) #[true, true, true, true, true, false, false, false, false, false, false] rfl rfl (by kernel_rfl) (fun _ _ _ h => h) (Or.inl ⟨by rfl, ?_⟩) hHeld ?_ ?_
      rotate_left
      · rintro w' ⟨s0, s1, s2, s3, s4⟩
        go_simp
        with_reducible rfl
      rotate_left
      · simp only [Act.put, List.setIfInBounds_toArray, List.set_cons_zero, List.set_cons_succ, i64_w, i32_w]
        rfl
      refine take_ (i := 5) (N := some 85) (v := ?_) (a' := ?_) #[true, true, true, true, true, true, false, false, false, false, false] rfl rfl (by kernel_rfl) (fun _ _ _ h => h) (Or.inl ⟨by rfl, ?_⟩) hHeld ?_ ?_
      rotate_left
      · rintro w' ⟨s0, s1, s2, s3, s4⟩
        go_simp
        with_reducible rfl
      rotate_left
      · simp only [Act.put, List.setIfInBounds_toArray, List.set_cons_zero, List.set_cons_succ, i64_w, i32_w]
        rfl
      refine one_ (i := 6) (N := some 86) #[true, true, true, true, true, true, true, false, false, false, false] rfl rfl (by kernel_rfl) (by decide) (fun K hK => ?_)
      refine value_ (w1 := ?_) (v := ?_) (by rfl) rfl ?_ ?_
      rotate_left 2
      · go_simp
        constructor
        · rfl
        · rfl
      refine hK.out _ _ ⟨(by exact pw_cell_below ((Below.refl _ _).alloc (Nat.le_refl _) _) hHeld.1), (by exact pw_cell_below ((Below.refl _ _).alloc (Nat.le_refl _) _) hHeld.2.1), (by exact pw_cell_below ((Below.refl _ _).alloc (Nat.le_refl _) _) hHeld.2.2.1), (by exact pw_cell_below ((Below.refl _ _).alloc (Nat.le_refl _) _) hHeld.2.2.2.1), (by exact pw_cell_below ((Below.refl _ _).alloc (Nat.le_refl _) _) hHeld.2.2.2.2)⟩ (fun hHeld => ?_)
      clear hK K
      refine norm_ (a' := ?_) ?_ ?_
      rotate_left
      · show Act.put _ (some 86) _ = _
        simp only [Act.put, List.setIfInBounds_toArray, List.set_cons_zero, List.set_cons_succ, i64_w, i32_w]
        rfl
      refine last_ (i := 7) (N := some 87) #[true, true, true, true, true, true, true, true, false, false, false] rfl rfl (by kernel_rfl) (by decide) (fun K hK => ?_)
      refine Kd.R_append_step k50 (w0 := w) w.heap.size (by rfl) (.tmp 84) (.tmp 86) 23 50 (.agg #[.int .i64 0, .int .i64 0, .int .i64 0, .int .i64 0]) 32 (by rfl) Tryz.underlying23 info50 rfl (by decide) (by decide) va as_ (⟨y1, y2, y3, y4⟩ : Act_) [.int .i64 y1, .int .i64 y2, .int .i64 y3, .int .i64 y4] (fun _ => True) (fun _ => False) (by rfl) (by rfl) (k50_mkM _ _ _ (⟨y1, y2, y3, y4⟩ : Act_)) (fun _ hk => hk.elim) (fun _ _ => trivial) GD.out.A GD.out.b GD.out.b.size (by have := HLN.out; omega) ?_
      intro v1 w5 hA5 hB5 hg5 ho5
      obtain ⟨A5, c5, hv1⟩ := Kd.R_slice hA5
      simp only [List.length_append, List.length_singleton] at hv1
      subst hv1
      have GE5 := Aside0.mk (GD.out.acts hB5 hg5 hA5)
      have cg5 := (blk_cell GE5.out.1 2).trans rfl
      have fg5 := blk_frozen GE5.out.1 2
      clear hA5 hB5 hg5 ho5
      refine hK.out _ _ ?_
      clear hK K
      refine norm_ (a' := ?_) ?_ ?_
      rotate_left
      · show Act.put _ (some 87) _ = _
        simp only [Act.put, List.setIfInBounds_toArray, List.set_cons_zero, List.set_cons_succ, i64_w, i32_w]
        rfl
      refine pure_ (i := 8) (N := some 88) (v := ?_) (a' := ?_) #[true, true, true, true, true, true, true, true, true, false, false] rfl rfl (by kernel_rfl) (fun _ _ _ h => h) (Or.inl ⟨by rfl, ?_⟩) ?_ ?_
      rotate_left
      · intro w'
        go_simp
        with_reducible rfl
      rotate_left
      · simp only [Act.put, List.setIfInBounds_toArray, List.set_cons_zero, List.set_cons_succ, i64_w, i32_w]
        rfl
      refine pure_ (i := 9) (N := some 89) (v := ?_) (a' := ?_) #[true, true, true, true, true, true, true, true, true, true, false] rfl rfl (by kernel_rfl) (fun _ _ _ h => h) (Or.inl ⟨by rfl, ?_⟩) ?_ ?_
      rotate_left
      · intro w'
        go_simp
        with_reducible rfl
      rotate_left
      · simp only [Act.put, List.setIfInBounds_toArray, List.set_cons_zero, List.set_cons_succ, i64_w, i32_w]
        rfl
      refine last_ (i := 10) (N := none) #[true, true, true, true, true, true, true, true, true, true, true] rfl rfl (by kernel_rfl) (by decide) (fun K hK => ?_)
      refine skip_ (w1 := ?_) (by rfl) rfl ?_ ?_
      rotate_left
      · go_simp
        rfl
      refine hK.out _ _ ?_
      clear hK K
      refine done_ (by kernel_rfl) ?_
      have HT6 := Aside0.mk GE5.out.2
      clear hHeld GE5 GD cg0 ca0 ca1 ca2 ca3 cg5 fg5
      go_wp2
      go_roundw
      case measure => rw [intOf_int, intOf_int]; exact fewer HLT.out HWI.out
      case rel =>
        rw [HWI.out]
        exact ⟨i + 1, fs, n, _, vf, _, by simp, ⟨HLT.out⟩, HR2, HT6⟩
    · have d1 : decide ((i : Int) < (LL.length : Int)) = false := decide_eq_false (by omega)
      have d1n : decide (i < LL.length) = false := decide_eq_false hi
      have hR := HR.out
      rw [List.drop_eq_nil_of_le (by omega), script_read.l0] at hR
      obtain rfl := Option.some.inj hR
      clear hi hR HR
      go_wp2
      go_ret2
      exact ⟨bx, vf, va, rfl, HT.out.km, HT.out.F, HT.out.A, HT.out.b⟩
end Go.Proofs.YtpofikjkccljlaaGreatDoor.Px
namespace Go.Proofs.YtpofikjkccljlaaGreatDoor.Px
open Go.RowKit Go.Extern.Stop Go.Stop Go.Extern
set_option linter.unusedVariables false
set_option linter.unusedSimpArgs false
theorem as_nil (t:Value) (w:World) :
  Calls Tryz.prog 10 #[.nilIface,t] w fun e w' => e=.returned (.bool false)∧w'=w:=by
 go_enter Tryz.func10,Tryz.ntmps10
 go_wp2
 go_ret
 exact ⟨rfl,rfl⟩
theorem as_valueOf27 (t:Addr) (w:World):(ReflectliteValue.unpack (.iface 40 (.pointer (some t)))).run Tryz.prog w
  = .ok (.agg #[.pointer (some ⟨9,40,none⟩),.pointer (some ⟨w.heap.size,0,none⟩),.int .u64 150]) (w.alloc (.cells #[.pointer (some t)] 40)):=by kernel_rfl
theorem as_type27 (a : Addr) (w : World) : (ReflectliteValue.methodAny (ReflectliteValue.valueError "reflectlite.Value.Type" 0) (fun t _ _ _ => ReflectliteType.toType t) #[.agg #[.pointer (some ⟨9, 40, none⟩), .pointer (some a), .int .u64 150]]).run Tryz.prog w
  = .ok (.iface 87 (.agg #[.pointer (some ⟨9,40,none⟩)])) w:=by kernel_rfl
theorem as_methodKind (h : Value) (w : World) : (Go.method 280 87 (.agg #[h]) "Kind").run Tryz.prog w = .ok (97, h) w := by kernel_rfl
theorem as_kind27 (w:World):((ReflectliteType.abiMethod fun t => (fun a:Nat => Value.int IntKind.u8 (a:Int)) <$> Rtype.kind t) #[.pointer (some ⟨9,40,none⟩)]).run Tryz.prog w=.ok (.int .u8 22) w:=by kernel_rfl
theorem as_kind25 (w:World):((ReflectliteType.abiMethod fun t => (fun a:Nat => Value.int IntKind.u8 (a:Int)) <$> Rtype.kind t) #[.pointer (some ⟨9,38,none⟩)]).run Tryz.prog w=.ok (.int .u8 22) w:=by kernel_rfl
theorem rlm (z:Sem Value) (f:TypeId→Addr→Nat→Nat→Sem Value) (v:Value) :
  ReflectliteValue.method z f #[v]=(do match ← ReflectliteValue.parts v with|none => z|some (t,a,fl) => f t a fl (fl % 32)):=rfl
theorem as_parts27 (a:Addr) (w:World):(ReflectliteValue.parts (.agg #[.pointer (some ⟨9,40,none⟩),.pointer (some a),.int .u64 150])).run Tryz.prog w=.ok (some (40,a,150)) w:=by kernel_rfl
theorem as_isNil27 (a p:Addr) (W:World) (ha:W.cell? a=some (.pointer (some p))) :
  (ReflectliteValue.method (ReflectliteValue.valueError "reflectlite.Value.IsNil" 0) ReflectliteValue.isNil #[.agg #[.pointer (some ⟨9, 40, none⟩), .pointer (some a), .int .u64 150]]).run Tryz.prog W = .ok (.bool false) W := by
 rw [rlm]
 simp only [Sem.run_bind,as_parts27,Result.andThen]
 simp [ReflectliteValue.isNil,loadVar,isAgg,underlying,Tryz.underlying40,ha,Result.andThen]
theorem as_methodElem (h : Value) (w : World) : (Go.method 280 87 (.agg #[h]) "Elem").run Tryz.prog w = .ok (108, .agg #[h]) w := by kernel_rfl
theorem as_methodImplements (h : Value) (w : World) : (Go.method 280 87 (.agg #[h]) "Implements").run Tryz.prog w = .ok (109, .agg #[h]) w := by kernel_rfl
theorem as_methodAssignableTo (h : Value) (w : World) : (Go.method 280 87 (.agg #[h]) "AssignableTo").run Tryz.prog w = .ok (106, .agg #[h]) w := by kernel_rfl
theorem as_elem27 (w:World):(ReflectliteType.method ReflectliteType.elem #[.agg #[.pointer (some ⟨9,40,none⟩)]]).run Tryz.prog w=.ok (.iface 87 (.agg #[.pointer (some ⟨9,38,none⟩)])) w:=by kernel_rfl
theorem as_implements25 (w : World) : (ReflectliteType.relation "Implements" ReflectliteType.implements_ #[.agg #[.pointer (some ⟨9, 38, none⟩)], .iface 87 (.agg #[.pointer (some ⟨9, 35, none⟩)])]).run Tryz.prog w = .ok (.bool true) w := by kernel_rfl
theorem as_typeOf25 (v:Value) (w:World):(ReflectliteType.typeOf #[.iface 38 v]).run Tryz.prog w=.ok (.iface 87 (.agg #[.pointer (some ⟨9,38,none⟩)])) w:=by kernel_rfl
theorem as_assignable25 (w : World) : (ReflectliteType.relation "AssignableTo" ReflectliteType.assignableTo #[.agg #[.pointer (some ⟨9, 38, none⟩)], .iface 87 (.agg #[.pointer (some ⟨9, 38, none⟩)])]).run Tryz.prog w = .ok (.bool true) w := by kernel_rfl
theorem as_valueOf25 (e:Addr) (w:World):(ReflectliteValue.unpack (.iface 38 (.pointer (some e)))).run Tryz.prog w
  = .ok (.agg #[.pointer (some ⟨9,38,none⟩),.pointer (some ⟨w.heap.size,0,none⟩),.int .u64 150]) (w.alloc (.cells #[.pointer (some e)] 38)):=by kernel_rfl
theorem as_elemOf27 (w:World):(Rtype.elem? 40).run Tryz.prog w=.ok (some 38) w:=by kernel_rfl
theorem as_mk25 (p:Addr) (w:World):(ReflectliteValue.mk 38 p ReflectliteValue.flagAddr).run Tryz.prog w=.ok (.agg #[.pointer (some ⟨9,38,none⟩),.pointer (some p),.int .u64 406]) w:=by kernel_rfl
theorem as_elemV27 (a p:Addr) (W:World) (ha:W.cell? a=some (.pointer (some p))) :
  (ReflectliteValue.method (ReflectliteValue.valueError "reflectlite.Value.Elem" 0) ReflectliteValue.elem #[.agg #[.pointer (some ⟨9, 40, none⟩), .pointer (some a), .int .u64 150]]).run Tryz.prog W
   = .ok (.agg #[.pointer (some ⟨9,38,none⟩),.pointer (some p),.int .u64 406]) W:=by
 rw [rlm]
 simp only [Sem.run_bind,as_parts27,Result.andThen]
 simp [ReflectliteValue.elem,loadVar,isAgg,underlying,Tryz.underlying40,ha,Result.andThen,as_elemOf27,as_mk25]
theorem rls (v x:Value):ReflectliteValue.set #[v,x]=(do
  let (some (dst,a,fl),some (src,b,_)):=(← ReflectliteValue.parts v,← ReflectliteValue.parts x)
   | unsupported (.noEntry "extern/(internal/reflectlite.Value).Set.zeroValue")
  if fl / ReflectliteValue.flagAddr % 2 == 0 then unsupported (.noEntry "extern/(internal/reflectlite.Value).Set.unaddressable")
  let val ← loadVar src b
  if ← Rtype.directlyAssignable dst src then storeVar dst a val
  else if ← Rtype.implements dst src then
   if (← Rtype.kind src)==20 then
    match val with
    | .nilIface => unsupported (.noEntry "extern/reflectlite: a nil value of one interface type handed on as a value of another")
    | _ => storeVar dst a val
   else storeVar dst a (.iface src val)
  else panicString ("reflectlite.Set: value of type " ++ (← Rtype.spelt src) ++ " is not assignable to type " ++ (← Rtype.spelt dst))
  pure (.tuple #[])):=rfl
theorem as_parts25a (a:Addr) (w:World):(ReflectliteValue.parts (.agg #[.pointer (some ⟨9,38,none⟩),.pointer (some a),.int .u64 406])).run Tryz.prog w=.ok (some (38,a,406)) w:=by kernel_rfl
theorem as_parts25 (a:Addr) (w:World):(ReflectliteValue.parts (.agg #[.pointer (some ⟨9,38,none⟩),.pointer (some a),.int .u64 150])).run Tryz.prog w=.ok (some (38,a,150)) w:=by kernel_rfl
theorem as_direct25 (w:World):(Rtype.directlyAssignable 38 38).run Tryz.prog w=.ok true w:=by kernel_rfl
theorem as_set25 (ta b e:Addr) (old:Value) (W:World) (hb:W.cell? b=some (.pointer (some e))) (ht:W.cell? ta=some old) (hf:W.frozen? ta=false) :
  (ReflectliteValue.set #[.agg #[.pointer (some ⟨9,38,none⟩),.pointer (some ta),.int .u64 406],.agg #[.pointer (some ⟨9,38,none⟩),.pointer (some b),.int .u64 150]]).run Tryz.prog W
   = .ok (.tuple #[]) (W.setCell ta (.pointer (some e))):=by
 rw [rls]
 simp only [Sem.run_bind,as_parts25a,as_parts25,Result.andThen]
 simp [ReflectliteValue.flagAddr,loadVar,isAgg,underlying,Tryz.underlying38,hb,Result.andThen,as_direct25,storeVar,Value.cells,storeCells,Addr.add]
 rw [run_store Tryz.prog W ta _ _ (by rfl)]
 simp [ht,hf]
set_option maxHeartbeats 4000000 in
theorem as_hit (e t:Addr) (old:Value) (w:World) (hg:w.cell? ⟨0,0,none⟩=some (.iface 87 (.agg #[.pointer (some ⟨9,35,none⟩)]))) (ht0:w.cell? t=some old) (hf0:w.frozen? t=false) :
  Calls Tryz.prog 10 #[.iface 38 (.pointer (some e)),.iface 40 (.pointer (some t))] w fun ev w' => ev=.returned (.bool true)∧w'=((((w.alloc (.cells #[.pointer (some t)] 40)).alloc (.cells #[.pointer (some ⟨9,40,none⟩),.pointer (some ⟨w.heap.size,0,none⟩),.int .u64 150] 64)).alloc (.cells #[.pointer (some ⟨9,40,none⟩),.pointer (some ⟨w.heap.size,0,none⟩),.int .u64 150] 64)).alloc (.cells #[.pointer (some e)] 38)).setCell t (.pointer (some e)):=by
 have h6:=@run_callFunc_extern Tryz.prog 17 _ (fun args => ReflectliteValue.unpack (args.getD 0 (.tuple #[]))) Tryz.func17 (by kernel_rfl) (by kernel_rfl) (by kernel_rfl) (by kernel_rfl)
 have h7 := @run_callFunc_extern Tryz.prog 18 _ (ReflectliteValue.methodAny (ReflectliteValue.valueError "reflectlite.Value.Type" 0) (fun t _ _ _ => ReflectliteType.toType t)) Tryz.func18 (by kernel_rfl) (by kernel_rfl) (by kernel_rfl) (by kernel_rfl)
 have h8 := @run_callFunc_extern Tryz.prog 19 _ (ReflectliteValue.method (ReflectliteValue.valueError "reflectlite.Value.IsNil" 0) ReflectliteValue.isNil) Tryz.func19 (by kernel_rfl) (by kernel_rfl) (by kernel_rfl) (by kernel_rfl)
 have h27:=@run_callFunc_extern Tryz.prog 97 _ (ReflectliteType.abiMethod fun t => do pure (.int .u8 (← Rtype.kind t))) Tryz.func97 (by kernel_rfl) (by kernel_rfl) (by kernel_rfl) (by kernel_rfl)
 have h37:=@run_callFunc_extern Tryz.prog 108 _ (ReflectliteType.method ReflectliteType.elem) Tryz.func108 (by kernel_rfl) (by kernel_rfl) (by kernel_rfl) (by kernel_rfl)
 have h38 := @run_callFunc_extern Tryz.prog 109 _ (ReflectliteType.relation "Implements" ReflectliteType.implements_) Tryz.func109 (by kernel_rfl) (by kernel_rfl) (by kernel_rfl) (by kernel_rfl)
 have h10:=@run_callFunc_extern Tryz.prog 33 _ ReflectliteType.typeOf Tryz.func33 (by kernel_rfl) (by kernel_rfl) (by kernel_rfl) (by kernel_rfl)
 have h35 := @run_callFunc_extern Tryz.prog 106 _ (ReflectliteType.relation "AssignableTo" ReflectliteType.assignableTo) Tryz.func106 (by kernel_rfl) (by kernel_rfl) (by kernel_rfl) (by kernel_rfl)
 have h11 := @run_callFunc_extern Tryz.prog 34 _ (ReflectliteValue.method (ReflectliteValue.valueError "reflectlite.Value.Elem" 0) ReflectliteValue.elem) Tryz.func34 (by kernel_rfl) (by kernel_rfl) (by kernel_rfl) (by kernel_rfl)
 have h12:=@run_callFunc_extern Tryz.prog 35 _ ReflectliteValue.set Tryz.func35 (by kernel_rfl) (by kernel_rfl) (by kernel_rfl) (by kernel_rfl)
 have tO:=as_typeOf25
 have mA:=as_methodAssignableTo
 have a25:=as_assignable25
 have v25:=as_valueOf25
 have f6:=as_valueOf27
 have f7:=as_type27
 have mK:=as_methodKind
 have mE:=as_methodElem
 have mI:=as_methodImplements
 have k27:=as_kind27
 have k25:=as_kind25
 have e27:=as_elem27
 have i25:=as_implements25
 have n8:=as_isNil27 ⟨w.heap.size,0,none⟩ t ((w.alloc (.cells #[.pointer (some t)] 40)).alloc (.cells #[.pointer (some ⟨9,40,none⟩),.pointer (some ⟨w.heap.size,0,none⟩),.int .u64 150] 64)) (by simp)
 have hlt:0 < w.heap.size:=by
  rcases Nat.lt_or_ge 0 w.heap.size with h|h
  ·exact h
  ·simp [World.cell?,Array.getElem?_eq_none h] at hg
 have hg2:((w.alloc (.cells #[.pointer (some t)] 40)).alloc (.cells #[.pointer (some ⟨9,40,none⟩),.pointer (some ⟨w.heap.size,0,none⟩),.int .u64 150] 64)).cell? ⟨0,0,none⟩=some (.iface 87 (.agg #[.pointer (some ⟨9,35,none⟩)])):=by
  rw [World.cell?_alloc_lt _ _ ⟨0,0,none⟩ (by simp <;> omega),World.cell?_alloc_lt _ _ ⟨0,0,none⟩ hlt];exact hg
 have htl:t.block < w.heap.size:=by
  rcases Nat.lt_or_ge t.block w.heap.size with h|h
  ·exact h
  ·simp [World.cell?,Array.getElem?_eq_none h] at ht0
 have el:=as_elemV27 ⟨w.heap.size,0,none⟩ t (((w.alloc (.cells #[.pointer (some t)] 40)).alloc (.cells #[.pointer (some ⟨9,40,none⟩),.pointer (some ⟨w.heap.size,0,none⟩),.int .u64 150] 64)).alloc (.cells #[.pointer (some ⟨9,40,none⟩),.pointer (some ⟨w.heap.size,0,none⟩),.int .u64 150] 64)) (by rw [World.cell?_alloc_lt _ _ ⟨w.heap.size,0,none⟩ (by simp <;> omega)];simp)
 have st:=as_set25 t ⟨w.heap.size + 1 + 1 + 1,0,none⟩ e old ((((w.alloc (.cells #[.pointer (some t)] 40)).alloc (.cells #[.pointer (some ⟨9,40,none⟩),.pointer (some ⟨w.heap.size,0,none⟩),.int .u64 150] 64)).alloc (.cells #[.pointer (some ⟨9,40,none⟩),.pointer (some ⟨w.heap.size,0,none⟩),.int .u64 150] 64)).alloc (.cells #[.pointer (some e)] 38))
  (by rw [World.cell?_alloc_at _ _ _ _ (by simp)];rfl)
  (by rw [World.cell?_alloc_lt _ _ t (by simp <;> omega),World.cell?_alloc_lt _ _ t (by simp <;> omega),World.cell?_alloc_lt _ _ t (by simp <;> omega),World.cell?_alloc_lt _ _ t htl];exact ht0)
  (by rw [World.frozen?_alloc_old _ _ t (by simp <;> omega),World.frozen?_alloc_old _ _ t (by simp <;> omega),World.frozen?_alloc_old _ _ t (by simp <;> omega),World.frozen?_alloc_old _ _ t (Nat.ne_of_lt htl)];exact hf0)
 go_enter Tryz.func10,Tryz.ntmps10
 go_wp2
 refine wp_loop_rounds 1 ?_
 rw [rounds_succ]
 go_wp2
 go_ret
 exact ⟨rfl,rfl⟩
end Go.Proofs.YtpofikjkccljlaaGreatDoor.Px
namespace Go.Proofs.YtpofikjkccljlaaGreatDoor.Px
open Go.RowKit Go.Proofs.YtpofikjkccljlaaGreatDoorW.PrintWords Go.Proofs.YtpofikjkccljlaaGreatDoorW.PrintLast Go.Proofs.YtpofikjkccljlaaGreatDoorW.PrintMore
set_option linter.unusedVariables false
set_option linter.unusedSimpArgs false
def outR:ReadR→List (List Int) × Int × List Act_ × Int × Int
 | .ok fs n as_ => (fs,n,as_,0,0)
 | .bad l e => ([],0,[],l,e)
def script_Parse.f (k:Nat) (s:ByteArray):Option (List (List Int) × Int × List Act_ × Int × Int):=(script_read.f k s).bind fun r => some (outR r)
theorem script_read.mono_l:∀ (L:List ByteArray) (k:Nat) (i:Int) (fs:List (List Int)) (n:Int) (as_:List Act_),LeO (script_read.l0 k L i fs n as_) (script_read.l0 (k + 1) L i fs n as_)
 | [],_,_,_,_,_ => LeO.refl _
 | t :: r,k,i,fs,n,as_ => by
  have ih:=script_read.mono_l r k
  rw [script_read.l0,script_read.l0]
  refine LeO.ite (ih _ _ _ _) ?_
  refine LeO.bind (script_Line.mono _ _) (fun x => ?_)
  refine LeO.ite ?_ (LeO.refl _)
  refine LeO.ite (LeO.ite (ih _ _ _ _) (LeO.refl _)) ?_
  refine LeO.ite (LeO.ite (LeO.ite (ih _ _ _ _) (LeO.refl _)) (LeO.refl _)) ?_
  refine LeO.bind (LeO.refl _) (fun a => ?_)
  exact LeO.ite (ih _ _ _ _) (LeO.refl _)
theorem script_Parse.mono:∀ a0 k,LeO (script_Parse.f k a0) (script_Parse.f (k + 1) a0):=by
 intro a0 k
 unfold script_Parse.f script_read.f
 exact LeO.bind (LeO.ite (LeO.refl _) (script_read.mono_l _ _ _ _ _ _)) (fun _ => LeO.refl _)
theorem as_at (B:Nat) (w0 w:World) (g gb:Nat) (x y:Int) (hB:Below B w0 w) (hgb:B≤gb) (hbk:w.heap[gb]?=some (.cells #[.pointer none] 38 (0,0))) (hbg:w.heap[g]?=some (.cells #[.int .i64 x,.int .i64 y] 42 (0,0))) (hG:GG w) (hBs:B≤w.heap.size) :
  Calls Tryz.prog 10 #[.iface 38 (.pointer (some ⟨g,0,none⟩)),.iface 40 (.pointer (some ⟨gb,0,none⟩))] w fun ev w' => ev=.returned (.bool true)∧w'.cell? ⟨gb,0,none⟩=some (.pointer (some ⟨g,0,none⟩))∧w'.cell? ⟨g,0,none⟩=some (.int .i64 x)∧w'.cell? ⟨g,1,none⟩=some (.int .i64 y)∧Below B w0 w':=by
 have hne:gb ≠ g:=by
  rintro rfl
  rw [hbk] at hbg
  cases hbg
 have hl1:=blk_lt hbk
 have hl2:=blk_lt hbg
 refine (as_hit ⟨g,0,none⟩ ⟨gb,0,none⟩ (.pointer none) w hG.et ((blk_cell hbk 0).trans rfl) (blk_frozen hbk 0)).mono ?_
 rintro ev w' ⟨rfl,rfl⟩
 refine ⟨rfl,?_,?_,?_,?_⟩
 ·refine World.cell?_setCell_same (u:=.pointer none) _ _ _ ?_
  rw [World.cell?_alloc_lt _ _ ⟨gb,0,none⟩ (by simp <;> omega),World.cell?_alloc_lt _ _ ⟨gb,0,none⟩ (by simp <;> omega),World.cell?_alloc_lt _ _ ⟨gb,0,none⟩ (by simp <;> omega),World.cell?_alloc_lt _ _ ⟨gb,0,none⟩ hl1]
  exact (blk_cell hbk 0).trans rfl
 ·rw [World.cell?_setCell_far _ _ _ _ hne]
  rw [World.cell?_alloc_lt _ _ ⟨g,0,none⟩ (by simp <;> omega),World.cell?_alloc_lt _ _ ⟨g,0,none⟩ (by simp <;> omega),World.cell?_alloc_lt _ _ ⟨g,0,none⟩ (by simp <;> omega),World.cell?_alloc_lt _ _ ⟨g,0,none⟩ hl2]
  exact (blk_cell hbg 0).trans rfl
 ·rw [World.cell?_setCell_far _ _ _ _ hne]
  rw [World.cell?_alloc_lt _ _ ⟨g,1,none⟩ (by simp <;> omega),World.cell?_alloc_lt _ _ ⟨g,1,none⟩ (by simp <;> omega),World.cell?_alloc_lt _ _ ⟨g,1,none⟩ (by simp <;> omega),World.cell?_alloc_lt _ _ ⟨g,1,none⟩ hl2]
  exact (blk_cell hbg 1).trans rfl
 ·exact ((((hB.alloc hBs _).alloc (by simp <;> omega) _).alloc (by simp <;> omega) _).alloc (by simp <;> omega) _).setCell hgb _
set_option maxHeartbeats 8000000 in
set_option maxRecDepth 100000 in
theorem script_Parse.calls (k:Nat) (s:ByteArray) (r1:List (List Int)) (r2:Int) (r3:List Act_) (r4 r5:Int) (w:World) (hG:Aside0 (GG w)) (h:script_Parse.f k s=some (r1,r2,r3,r4,r5)) :
  Calls Tryz.prog 4 #[.string s] w fun e w' => ∃ v0_ v2_:Value,e=.returned (.tuple #[v0_,.int .i64 r2,v2_,.int .i64 r4,.int .i64 r5])∧Kd.S (Kd.slice 5 (Kd.int .u8)) 45 w' w.heap.size (fun _ => True) v0_ r1∧Kd.R k50 50 w' w.heap.size (fun _ => True) v2_ r3∧Below w.heap.size w w':=by
 unfold script_Parse.f at h
 obtain ⟨r,hr,h⟩:=Option.bind_eq_some_iff.mp h
 have HF:=Aside0.mk hr
 clear hr
 go_enter Tryz.func4,Tryz.ntmps4
 go_wp2_with fail
 refine (script_read.calls k s r w hG HF.out).mono ?_
 rintro e w2 hP
 cases r with
 | ok fs n as_ =>
  obtain ⟨bx,vf,va,rfl,hk,hS,hA,hb⟩:=hP
  simp only [outR,Option.some.injEq,Prod.mk.injEq] at h
  obtain ⟨rfl,rfl,rfl,rfl,rfl⟩:=h
  have HB2:=Aside0.mk hb
  have HK2:=Aside0.mk hk
  have HS2:=Aside0.mk hS
  have HA2:=Aside0.mk hA
  clear hb hk hS hA
  go_wp2_with ((with_reducible refine gate_dst (N:=9) rfl ?_);refine box_event ?hg (N:=9) ?hd (cs:=#[.pointer none]) (t:=38) ?hr ?_;(case hd => rfl);(case hg => rfl);(case hr => first|(go_simp;done)|(go_simp;rfl));intro gb hg w3 hbox hb;have HB3:=Aside0.mk (below_step HB2.out hb);have HK3:=Aside0.mk ((hb.block _ (blk_lt HK2.out)).trans HK2.out);have HS3:=Aside0.mk (Kd.S_below HS2.out hb);have HA3:=Aside0.mk (Kd.R_below HA2.out hb);clear hbox hb hg)
  clear HB2 HK2 HS2 HA2
  refine (as_nil _ _).mono ?_
  rintro e w4 ⟨rfl,rfl⟩
  have c0:=(blk_cell HK3.out 0).trans rfl
  have c1:=(blk_cell HK3.out 1).trans rfl
  have c2:=(blk_cell HK3.out 2).trans rfl
  go_wp2
  repeat (go_quiet (fail);try go_wp2)
  refine bodyPost_ret (results_list (rs:=[.tmp 2,.tmp 3,.tmp 4,.tmp 5,.tmp 6]) rfl (by simp) (.tmp (.tmp (.tmp (.tmp (.tmp .nil)))))) rfl ?_
  exact ⟨_,_,rfl,Kd.S_drewN HS3.out _,Kd.R_drewN HA3.out _,pw_below_drewN HB3.out _⟩
 | bad l y =>
  obtain ⟨g,rfl,hk,hb⟩:=hP
  simp only [outR,Option.some.injEq,Prod.mk.injEq] at h
  obtain ⟨rfl,rfl,rfl,rfl,rfl⟩:=h
  have HB2:=Aside0.mk hb
  have HK2:=Aside0.mk hk
  clear hb hk
  go_wp2_with ((with_reducible refine gate_dst (N:=9) rfl ?_);refine box_event ?hg (N:=9) ?hd (cs:=#[.pointer none]) (t:=38) ?hr ?_;(case hd => rfl);(case hg => rfl);(case hr => first|(go_simp;done)|(go_simp;rfl));intro gb hg w3 hbox hb;have HB3:=Aside0.mk (below_step HB2.out hb);have HK3:=Aside0.mk ((hb.block _ (blk_lt HK2.out)).trans HK2.out);have BK3:=Aside0.mk hbox;have HGE:=Aside0.mk (show w.heap.size≤gb by rw [hg];exact HB2.out.size);clear hbox hb hg)
  clear HB2 HK2
  refine (as_at w.heap.size w _ g gb l y HB3.out HGE.out BK3.out HK3.out (GG.below hG.out HB3.out) HB3.out.size).mono ?_
  rintro e w4 ⟨rfl,hc0,hc1,hc2,hb4⟩
  have HB4:=Aside0.mk hb4
  clear hb4
  go_wp2
  repeat (go_quiet (fail);try go_wp2)
  refine bodyPost_ret (results_list (rs:=[.tmp 2,.tmp 3,.tmp 4,.tmp 5,.tmp 6]) rfl (by simp) (.tmp (.tmp (.tmp (.tmp (.tmp .nil)))))) rfl ?_
  exact ⟨_,_,rfl,Kd.S_nil _ _ _ _ _,Kd.R_nil _ _ _ _ _,pw_below_drewN HB4.out _⟩
end Go.Proofs.YtpofikjkccljlaaGreatDoor.Px
namespace Go.Proofs.YtpofikjkccljlaaGreatDoor.Px
open Go.RowKit Go.Proofs.YtpofikjkccljlaaGreatDoorW.PrintWords Go.Proofs.YtpofikjkccljlaaGreatDoorW.PrintLast Go.Proofs.YtpofikjkccljlaaGreatDoorW.PrintMore
attribute [local go_sem] max2_int min2_int max_two min_two max_three min_three max_four min_four
set_option linter.unusedVariables false
set_option linter.unusedSimpArgs false
def understudylaw23_awake.f :Option (Bool):=(script_Print.f 0 0 0 5).bind fun bt213 => (if bt213.1.toList=([114,117,110,32,48,32,48,32,53]:List UInt8) then (some (bt213.2==0)) else (some false))
set_option maxHeartbeats 80000000 in
set_option maxRecDepth 100000 in
theorem understudylaw23_awake.calls  (r:Bool) (w:World) (hG:Aside0 (GG w)) (h:understudylaw23_awake.f =some r) :
  Calls Tryz.prog 8 #[] w fun e w' => e=.returned (.bool r)∧Below w.heap.size w w':=by
 have hu50:=Tryz.underlying50
 have HB:=Aside0.mk (Below.refl w.heap.size w)
 have H:((script_Print.f 0 0 0 5).bind fun bt213 => (if bt213.1.toList=([114,117,110,32,48,32,48,32,53]:List UInt8) then (some (bt213.2==0)) else (some false)))=some r:=h
 clear h
 replace H:=Option.bind_eq_some_iff.mp H
 obtain ⟨⟨t213,t214⟩,A10,H⟩:=H
 replace H:(if t213.toList=([114,117,110,32,48,32,48,32,53]:List UInt8) then (some (t214==0)) else (some false))=some r:=H
 have A1:=Aside0.mk A10
 clear A10
 by_cases c2:t213.toList=([114,117,110,32,48,32,48,32,53]:List UInt8)
 ·rw [if_pos c2] at H
  have c2b0:(t213.toList==([114,117,110,32,48,32,48,32,53]:List UInt8))=true:=beq_iff_eq.mpr c2
  have c2b1:(t213.toList != ([114,117,110,32,48,32,48,32,53]:List UInt8))=false:=bne_eq_false_iff_eq.mpr c2
  clear c2
  obtain rfl:=Option.some.inj H
  go_enter Tryz.func8,Tryz.ntmps8
  go_wp2_with (first|((with_reducible refine gate_callee (f:=13) rfl ?_);refine goesL_ (some 5) rfl rfl Tryz.func13 (by kernel_rfl) rfl #[.agg #[.int .i64 0,.int .i64 0,.int .i64 0,.int .i64 5]] rfl (by (try simp only [List.map_toArray,List.map_cons,List.map_nil]);first|done|rfl|(simp only [List.length_drop,List.length_take];rfl)) ?_;(with_reducible refine (script_Print.calls 0 0 0 5 t213 t214 _ ?side1 A1.out).mono ?_);(case side1 => exact ⟨GG.below hG.out (by repeat (first|(with_reducible first|exact HB.out|apply below_alloc|apply pw_below_drewN|apply below_drew1)|exact HB.out))⟩);rintro e w3 ⟨rfl,hb⟩;refine ⟨_,rfl,?_⟩;have n0_:=Aside0.mk (below_step (by repeat (first|(with_reducible first|exact HB.out|apply below_alloc|apply pw_below_drewN|apply below_drew1)|exact HB.out)) hb);clear HB;have HB:=n0_;clear n0_;(try clear hb);(try clear hb2);(try clear hk);(try clear hi)))
  go_ret
  exact ⟨by first|rfl|(simp [errW_none,errW_some] <;> rfl)|(simp [*,errW_none,errW_some] <;> rfl),by repeat (first|(with_reducible first|exact HB.out|apply below_alloc|apply pw_below_drewN|apply below_drew1)|exact HB.out)⟩
 ·rw [if_neg c2] at H
  have c2b0:(t213.toList==([114,117,110,32,48,32,48,32,53]:List UInt8))=false:=beq_eq_false_iff_ne.mpr c2
  have c2b1:(t213.toList != ([114,117,110,32,48,32,48,32,53]:List UInt8))=true:=bne_iff_ne.mpr c2
  obtain rfl:=Option.some.inj H
  go_enter Tryz.func8,Tryz.ntmps8
  go_wp2_with (first|((with_reducible refine gate_callee (f:=13) rfl ?_);refine goesL_ (some 5) rfl rfl Tryz.func13 (by kernel_rfl) rfl #[.agg #[.int .i64 0,.int .i64 0,.int .i64 0,.int .i64 5]] rfl (by (try simp only [List.map_toArray,List.map_cons,List.map_nil]);first|done|rfl|(simp only [List.length_drop,List.length_take];rfl)) ?_;(with_reducible refine (script_Print.calls 0 0 0 5 t213 t214 _ ?side1 A1.out).mono ?_);(case side1 => exact ⟨GG.below hG.out (by repeat (first|(with_reducible first|exact HB.out|apply below_alloc|apply pw_below_drewN|apply below_drew1)|exact HB.out))⟩);rintro e w4 ⟨rfl,hb⟩;refine ⟨_,rfl,?_⟩;have n0_:=Aside0.mk (below_step (by repeat (first|(with_reducible first|exact HB.out|apply below_alloc|apply pw_below_drewN|apply below_drew1)|exact HB.out)) hb);clear HB;have HB:=n0_;clear n0_;(try clear hb);(try clear hb2);(try clear hk);(try clear hi)))
  go_ret
  exact ⟨by first|rfl|(simp [errW_none,errW_some] <;> rfl)|(simp [*,errW_none,errW_some] <;> rfl),by repeat (first|(with_reducible first|exact HB.out|apply below_alloc|apply pw_below_drewN|apply below_drew1)|exact HB.out)⟩
def understudylaw23_ScriptParses.f (k:Nat) (a0:ByteArray):Option (Bool):=(script_Parse.f k a0).bind fun bt215 => ((understudyref23_Parse.f k a0).bind fun bt224 => ((understudylaw23_rows.f k bt215.1 bt224.1).bind fun t233 => (if t233=true then (if bt215.2.1=bt224.2.1 then ((understudylaw23_acts.f k bt215.2.2.1 bt224.2.2.1).bind fun t234 => (if t234=true then (if bt215.2.2.2.1=bt224.2.2.2.1 then (if bt215.2.2.2.2=bt224.2.2.2.2 then ((understudylaw23_awake.f).bind fun t235 => (some t235)) else (some false)) else (some false)) else (some false))) else (some false)) else (some false))))
theorem understudylaw23_ScriptParses.mono:∀ a0 k,LeO (understudylaw23_ScriptParses.f k a0) (understudylaw23_ScriptParses.f (k + 1) a0):=by
 intro a0 k
 unfold understudylaw23_ScriptParses.f
 repeat' first
   | (with_reducible exact script_Parse.mono _ _)
   | (with_reducible exact understudylaw23_acts.mono _ _ _)
   | (with_reducible exact understudylaw23_rows.mono _ _ _)
   | (with_reducible exact understudyref23_Parse.mono _ _)
   | (with_reducible exact LeO.refl _)
   | (with_reducible exact LeO.none _)
   | (with_reducible refine LeO.ite ?_ ?_)
   | (with_reducible refine LeO.bind ?_ (fun _ => ?_))
   | exact script_Parse.mono _ _
   | exact understudylaw23_acts.mono _ _ _
   | exact understudylaw23_rows.mono _ _ _
   | exact understudyref23_Parse.mono _ _
   | exact LeO.none _
   | refine LeO.ite ?_ ?_
   | refine LeO.bind ?_ (fun _ => ?_)
set_option maxHeartbeats 80000000 in
set_option maxRecDepth 100000 in
theorem understudylaw23_ScriptParses.calls (k:Nat) (a0:ByteArray) (r:Bool) (w:World) (hG:Aside0 (GG w)) (h:understudylaw23_ScriptParses.f k a0=some r) :
  Calls Tryz.prog 3 #[.string a0] w fun e w' => e=.returned (.bool r)∧Below w.heap.size w w':=by
 have HB:=Aside0.mk (Below.refl w.heap.size w)
 have H:((script_Parse.f k a0).bind fun bt215 => ((understudyref23_Parse.f k a0).bind fun bt224 => ((understudylaw23_rows.f k bt215.1 bt224.1).bind fun t233 => (if t233=true then (if bt215.2.1=bt224.2.1 then ((understudylaw23_acts.f k bt215.2.2.1 bt224.2.2.1).bind fun t234 => (if t234=true then (if bt215.2.2.2.1=bt224.2.2.2.1 then (if bt215.2.2.2.2=bt224.2.2.2.2 then ((understudylaw23_awake.f).bind fun t235 => (some t235)) else (some false)) else (some false)) else (some false))) else (some false)) else (some false)))))=some r:=h
 clear h
 replace H:=Option.bind_eq_some_iff.mp H
 obtain ⟨⟨t215,t216,t217,t218,t219⟩,A20,H⟩:=H
 replace H:((understudyref23_Parse.f k a0).bind fun bt224 => ((understudylaw23_rows.f k t215 bt224.1).bind fun t233 => (if t233=true then (if t216=bt224.2.1 then ((understudylaw23_acts.f k t217 bt224.2.2.1).bind fun t234 => (if t234=true then (if t218=bt224.2.2.2.1 then (if t219=bt224.2.2.2.2 then ((understudylaw23_awake.f).bind fun t235 => (some t235)) else (some false)) else (some false)) else (some false))) else (some false)) else (some false))))=some r:=H
 have A2:=Aside0.mk A20
 clear A20
 replace H:=Option.bind_eq_some_iff.mp H
 obtain ⟨⟨t224,t225,t226,t227,t228⟩,A30,H⟩:=H
 replace H:((understudylaw23_rows.f k t215 t224).bind fun t233 => (if t233=true then (if t216=t225 then ((understudylaw23_acts.f k t217 t226).bind fun t234 => (if t234=true then (if t218=t227 then (if t219=t228 then ((understudylaw23_awake.f).bind fun t235 => (some t235)) else (some false)) else (some false)) else (some false))) else (some false)) else (some false)))=some r:=H
 have A3:=Aside0.mk A30
 clear A30
 replace H:=Option.bind_eq_some_iff.mp H
 obtain ⟨t233,A40,H⟩:=H
 replace H:(if t233=true then (if t216=t225 then ((understudylaw23_acts.f k t217 t226).bind fun t234 => (if t234=true then (if t218=t227 then (if t219=t228 then ((understudylaw23_awake.f).bind fun t235 => (some t235)) else (some false)) else (some false)) else (some false))) else (some false)) else (some false))=some r:=H
 have A4:=Aside0.mk A40
 clear A40
 by_cases c5:t233=true
 ·subst c5
  have H1:(if t216=t225 then ((understudylaw23_acts.f k t217 t226).bind fun t234 => (if t234=true then (if t218=t227 then (if t219=t228 then ((understudylaw23_awake.f).bind fun t235 => (some t235)) else (some false)) else (some false)) else (some false))) else (some false))=some r:=by rw [if_pos rfl] at H;exact H
  clear H
  have H:=H1
  clear H1
  by_cases c6:t216=t225
  ·rw [if_pos c6] at H
   have c6b0:(t216==t225)=true:=beq_iff_eq.mpr c6
   have c6b1:(t216 != t225)=false:=bne_eq_false_iff_eq.mpr c6
   clear c6
   replace H:=Option.bind_eq_some_iff.mp H
   obtain ⟨t234,A70,H⟩:=H
   replace H:(if t234=true then (if t218=t227 then (if t219=t228 then ((understudylaw23_awake.f).bind fun t235 => (some t235)) else (some false)) else (some false)) else (some false))=some r:=H
   have A7:=Aside0.mk A70
   clear A70
   by_cases c8:t234=true
   ·subst c8
    have H1:(if t218=t227 then (if t219=t228 then ((understudylaw23_awake.f).bind fun t235 => (some t235)) else (some false)) else (some false))=some r:=by rw [if_pos rfl] at H;exact H
    clear H
    have H:=H1
    clear H1
    by_cases c9:t218=t227
    ·rw [if_pos c9] at H
     have c9b0:(t218==t227)=true:=beq_iff_eq.mpr c9
     have c9b1:(t218 != t227)=false:=bne_eq_false_iff_eq.mpr c9
     clear c9
     by_cases c10:t219=t228
     ·rw [if_pos c10] at H
      have c10b0:(t219==t228)=true:=beq_iff_eq.mpr c10
      have c10b1:(t219 != t228)=false:=bne_eq_false_iff_eq.mpr c10
      clear c10
      replace H:=Option.bind_eq_some_iff.mp H
      obtain ⟨t235,A110,H⟩:=H
      replace H:(some t235)=some r:=H
      have A11:=Aside0.mk A110
      clear A110
      obtain rfl:=Option.some.inj H
      go_enter Tryz.func3,Tryz.ntmps3
      go_wp2_with (first|((with_reducible refine gate_callee (f:=4) rfl ?_);refine goesL_ (some 15) rfl rfl Tryz.func4 (by kernel_rfl) rfl #[.string a0] rfl (by (try simp only [List.map_toArray,List.map_cons,List.map_nil]);first|done|rfl|(simp only [List.length_drop,List.length_take];rfl)) ?_;(with_reducible refine (script_Parse.calls k a0 t215 t216 t217 t218 t219 _ ?side1 A2.out).mono ?_);(case side1 => exact ⟨GG.below hG.out (by repeat (first|(with_reducible first|exact HB.out|apply below_alloc|apply pw_below_drewN|apply below_drew1)|exact HB.out))⟩);rintro e w12 ⟨v220,v222,rfl,ho0,ho1,hb⟩;refine ⟨_,rfl,?_⟩;have n0_:=Aside0.mk (Kd.S_lower ho0 (below_size (by repeat (first|(with_reducible first|exact HB.out|apply below_alloc|apply pw_below_drewN|apply below_drew1)|exact HB.out))));have n1_:=Aside0.mk (Kd.R_lower ho1 (below_size (by repeat (first|(with_reducible first|exact HB.out|apply below_alloc|apply pw_below_drewN|apply below_drew1)|exact HB.out))));have n2_:=Aside0.mk (below_step (by repeat (first|(with_reducible first|exact HB.out|apply below_alloc|apply pw_below_drewN|apply below_drew1)|exact HB.out)) hb);clear HB;have HO221:=n0_;have HO223:=n1_;have HB:=n2_;clear n0_ n1_ n2_;(try clear hb);(try clear hb2);(try clear hk);(try clear hi);(try clear ho0);(try clear ho1))|((with_reducible refine gate_callee (f:=5) rfl ?_);refine goesL_ (some 23) rfl rfl Tryz.func5 (by kernel_rfl) rfl #[.string a0] rfl (by (try simp only [List.map_toArray,List.map_cons,List.map_nil]);first|done|rfl|(simp only [List.length_drop,List.length_take];rfl)) ?_;(with_reducible refine (understudyref23_Parse.calls k a0 t224 t225 t226 t227 t228 _ A3.out).mono ?_);rintro e w13 ⟨v229,v231,rfl,ho0,ho1,hb⟩;refine ⟨_,rfl,?_⟩;have n0_:=Aside0.mk (Kd.S_elder' (by (with_reducible repeat (first|apply Kd.S_alloc|apply Kd.S_drewN|apply Kd.S_drew));exact HO221.out) (Kd.S_base ho0) hb);have n1_:=Aside0.mk (Kd.R_elder' (by (with_reducible repeat (first|apply Kd.R_alloc|apply Kd.R_drewN|apply Kd.R_drew));exact HO223.out) (Kd.R_base ho1) hb);have n2_:=Aside0.mk (Kd.S_lower (Kd.S_new' ho0 (Kd.S_lt (by (with_reducible repeat (first|apply Kd.S_alloc|apply Kd.S_drewN|apply Kd.S_drew));exact HO221.out))) (below_size (by repeat (first|(with_reducible first|exact HB.out|apply below_alloc|apply pw_below_drewN|apply below_drew1)|exact HB.out))));have n3_:=Aside0.mk (Kd.R_lower (Kd.R_new' ho1 (Kd.R_lt (by (with_reducible repeat (first|apply Kd.R_alloc|apply Kd.R_drewN|apply Kd.R_drew));exact HO223.out))) (below_size (by repeat (first|(with_reducible first|exact HB.out|apply below_alloc|apply pw_below_drewN|apply below_drew1)|exact HB.out))));have n4_:=Aside0.mk (below_step (by repeat (first|(with_reducible first|exact HB.out|apply below_alloc|apply pw_below_drewN|apply below_drew1)|exact HB.out)) hb);clear HO221;clear HO223;clear HB;have HO221:=n0_;have HO223:=n1_;have HO230:=n2_;have HO232:=n3_;have HB:=n4_;clear n0_ n1_ n2_ n3_ n4_;(try clear hb);(try clear hb2);(try clear hk);(try clear hi);(try clear ho0);(try clear ho1);obtain ⟨Ao14,co14,eo14⟩:=Kd.S_slice HO221.out;subst eo14;obtain ⟨Ao15,co15,eo15⟩:=Kd.S_slice HO230.out;subst eo15)|((with_reducible refine gate_callee (f:=6) rfl ?_);refine goesL_ (some 31) rfl rfl Tryz.func6 (by kernel_rfl) rfl #[.slice Ao14 t215.length co14,.slice Ao15 t224.length co15] rfl (by (try simp only [List.map_toArray,List.map_cons,List.map_nil]);first|done|rfl|(simp only [List.length_drop,List.length_take];rfl)) ?_;(with_reducible refine (understudylaw23_rows.calls k _ _ t215 _ _ t224 true _ ?side1 ?side2 ?side3 ?side4 A4.out).mono ?_);(case side1 => repeat (first|exact (Kd.S_reads' HO221.out).2.2|(with_reducible refine Kd.C_alloc ?_ _)|(with_reducible refine Kd.C_drewN ?_ _)|(with_reducible refine Kd.C_drew ?_)));(case side2 => exact (Kd.S_reads' HO221.out).2.1);(case side3 => repeat (first|exact (Kd.S_reads' HO230.out).2.2|(with_reducible refine Kd.C_alloc ?_ _)|(with_reducible refine Kd.C_drewN ?_ _)|(with_reducible refine Kd.C_drew ?_)));(case side4 => exact (Kd.S_reads' HO230.out).2.1);rintro e w' ⟨rfl,⟨nd,rfl⟩⟩;refine ⟨_,rfl,?_⟩;obtain ⟨Ao16,co16,eo16⟩:=Kd.R_slice HO223.out;subst eo16;obtain ⟨Ao17,co17,eo17⟩:=Kd.R_slice HO232.out;subst eo17)|(go_at_call 7;(with_reducible refine (understudylaw23_acts.calls k _ _ t217 _ _ t226 true _ ?side1 ?side2 ?side3 ?side4 A7.out).mono ?_);(case side1 => repeat (first|exact (Kd.R_reads' HO223.out).2.2|(with_reducible refine Kd.C_alloc ?_ _)|(with_reducible refine Kd.C_drewN ?_ _)|(with_reducible refine Kd.C_drew ?_)));(case side2 => exact (Kd.R_reads' HO223.out).2.1);(case side3 => repeat (first|exact (Kd.R_reads' HO232.out).2.2|(with_reducible refine Kd.C_alloc ?_ _)|(with_reducible refine Kd.C_drewN ?_ _)|(with_reducible refine Kd.C_drew ?_)));(case side4 => exact (Kd.R_reads' HO232.out).2.1);rintro e w' ⟨rfl,⟨nd,rfl⟩⟩)|(go_at_call 8;(with_reducible refine (understudylaw23_awake.calls  t235 _ ?side1 A11.out).mono ?_);(case side1 => exact ⟨GG.below hG.out (by repeat (first|(with_reducible first|exact HB.out|apply below_alloc|apply pw_below_drewN|apply below_drew1)|exact HB.out))⟩);rintro e w18 ⟨rfl,hb⟩;have n0_:=Aside0.mk (Kd.S_below (by (with_reducible repeat (first|apply Kd.S_alloc|apply Kd.S_drewN|apply Kd.S_drew));exact HO221.out) hb);have n1_:=Aside0.mk (Kd.R_below (by (with_reducible repeat (first|apply Kd.R_alloc|apply Kd.R_drewN|apply Kd.R_drew));exact HO223.out) hb);have n2_:=Aside0.mk (Kd.S_below (by (with_reducible repeat (first|apply Kd.S_alloc|apply Kd.S_drewN|apply Kd.S_drew));exact HO230.out) hb);have n3_:=Aside0.mk (Kd.R_below (by (with_reducible repeat (first|apply Kd.R_alloc|apply Kd.R_drewN|apply Kd.R_drew));exact HO232.out) hb);have n4_:=Aside0.mk (below_step (by repeat (first|(with_reducible first|exact HB.out|apply below_alloc|apply pw_below_drewN|apply below_drew1)|exact HB.out)) hb);clear HO221;clear HO223;clear HO230;clear HO232;clear HB;have HO221:=n0_;have HO223:=n1_;have HO230:=n2_;have HO232:=n3_;have HB:=n4_;clear n0_ n1_ n2_ n3_ n4_;(try clear hb);(try clear hb2);(try clear hk);(try clear hi)))
      go_ret
      exact ⟨by first|rfl|(simp [errW_none,errW_some] <;> rfl)|(simp [*,errW_none,errW_some] <;> rfl),by repeat (first|(with_reducible first|exact HB.out|apply below_alloc|apply pw_below_drewN|apply below_drew1)|exact HB.out)⟩
     ·rw [if_neg c10] at H
      have c10b0:(t219==t228)=false:=beq_eq_false_iff_ne.mpr c10
      have c10b1:(t219 != t228)=true:=bne_iff_ne.mpr c10
      obtain rfl:=Option.some.inj H
      go_enter Tryz.func3,Tryz.ntmps3
      go_wp2_with (first|((with_reducible refine gate_callee (f:=4) rfl ?_);refine goesL_ (some 15) rfl rfl Tryz.func4 (by kernel_rfl) rfl #[.string a0] rfl (by (try simp only [List.map_toArray,List.map_cons,List.map_nil]);first|done|rfl|(simp only [List.length_drop,List.length_take];rfl)) ?_;(with_reducible refine (script_Parse.calls k a0 t215 t216 t217 t218 t219 _ ?side1 A2.out).mono ?_);(case side1 => exact ⟨GG.below hG.out (by repeat (first|(with_reducible first|exact HB.out|apply below_alloc|apply pw_below_drewN|apply below_drew1)|exact HB.out))⟩);rintro e w19 ⟨v220,v222,rfl,ho0,ho1,hb⟩;refine ⟨_,rfl,?_⟩;have n0_:=Aside0.mk (Kd.S_lower ho0 (below_size (by repeat (first|(with_reducible first|exact HB.out|apply below_alloc|apply pw_below_drewN|apply below_drew1)|exact HB.out))));have n1_:=Aside0.mk (Kd.R_lower ho1 (below_size (by repeat (first|(with_reducible first|exact HB.out|apply below_alloc|apply pw_below_drewN|apply below_drew1)|exact HB.out))));have n2_:=Aside0.mk (below_step (by repeat (first|(with_reducible first|exact HB.out|apply below_alloc|apply pw_below_drewN|apply below_drew1)|exact HB.out)) hb);clear HB;have HO221:=n0_;have HO223:=n1_;have HB:=n2_;clear n0_ n1_ n2_;(try clear hb);(try clear hb2);(try clear hk);(try clear hi);(try clear ho0);(try clear ho1))|((with_reducible refine gate_callee (f:=5) rfl ?_);refine goesL_ (some 23) rfl rfl Tryz.func5 (by kernel_rfl) rfl #[.string a0] rfl (by (try simp only [List.map_toArray,List.map_cons,List.map_nil]);first|done|rfl|(simp only [List.length_drop,List.length_take];rfl)) ?_;(with_reducible refine (understudyref23_Parse.calls k a0 t224 t225 t226 t227 t228 _ A3.out).mono ?_);rintro e w20 ⟨v229,v231,rfl,ho0,ho1,hb⟩;refine ⟨_,rfl,?_⟩;have n0_:=Aside0.mk (Kd.S_elder' (by (with_reducible repeat (first|apply Kd.S_alloc|apply Kd.S_drewN|apply Kd.S_drew));exact HO221.out) (Kd.S_base ho0) hb);have n1_:=Aside0.mk (Kd.R_elder' (by (with_reducible repeat (first|apply Kd.R_alloc|apply Kd.R_drewN|apply Kd.R_drew));exact HO223.out) (Kd.R_base ho1) hb);have n2_:=Aside0.mk (Kd.S_lower (Kd.S_new' ho0 (Kd.S_lt (by (with_reducible repeat (first|apply Kd.S_alloc|apply Kd.S_drewN|apply Kd.S_drew));exact HO221.out))) (below_size (by repeat (first|(with_reducible first|exact HB.out|apply below_alloc|apply pw_below_drewN|apply below_drew1)|exact HB.out))));have n3_:=Aside0.mk (Kd.R_lower (Kd.R_new' ho1 (Kd.R_lt (by (with_reducible repeat (first|apply Kd.R_alloc|apply Kd.R_drewN|apply Kd.R_drew));exact HO223.out))) (below_size (by repeat (first|(with_reducible first|exact HB.out|apply below_alloc|apply pw_below_drewN|apply below_drew1)|exact HB.out))));have n4_:=Aside0.mk (below_step (by repeat (first|(with_reducible first|exact HB.out|apply below_alloc|apply pw_below_drewN|apply below_drew1)|exact HB.out)) hb);clear HO221;clear HO223;clear HB;have HO221:=n0_;have HO223:=n1_;have HO230:=n2_;have HO232:=n3_;have HB:=n4_;clear n0_ n1_ n2_ n3_ n4_;(try clear hb);(try clear hb2);(try clear hk);(try clear hi);(try clear ho0);(try clear ho1);obtain ⟨Ao21,co21,eo21⟩:=Kd.S_slice HO221.out;subst eo21;obtain ⟨Ao22,co22,eo22⟩:=Kd.S_slice HO230.out;subst eo22)|((with_reducible refine gate_callee (f:=6) rfl ?_);refine goesL_ (some 31) rfl rfl Tryz.func6 (by kernel_rfl) rfl #[.slice Ao21 t215.length co21,.slice Ao22 t224.length co22] rfl (by (try simp only [List.map_toArray,List.map_cons,List.map_nil]);first|done|rfl|(simp only [List.length_drop,List.length_take];rfl)) ?_;(with_reducible refine (understudylaw23_rows.calls k _ _ t215 _ _ t224 true _ ?side1 ?side2 ?side3 ?side4 A4.out).mono ?_);(case side1 => repeat (first|exact (Kd.S_reads' HO221.out).2.2|(with_reducible refine Kd.C_alloc ?_ _)|(with_reducible refine Kd.C_drewN ?_ _)|(with_reducible refine Kd.C_drew ?_)));(case side2 => exact (Kd.S_reads' HO221.out).2.1);(case side3 => repeat (first|exact (Kd.S_reads' HO230.out).2.2|(with_reducible refine Kd.C_alloc ?_ _)|(with_reducible refine Kd.C_drewN ?_ _)|(with_reducible refine Kd.C_drew ?_)));(case side4 => exact (Kd.S_reads' HO230.out).2.1);rintro e w' ⟨rfl,⟨nd,rfl⟩⟩;refine ⟨_,rfl,?_⟩;obtain ⟨Ao23,co23,eo23⟩:=Kd.R_slice HO223.out;subst eo23;obtain ⟨Ao24,co24,eo24⟩:=Kd.R_slice HO232.out;subst eo24)|(go_at_call 7;(with_reducible refine (understudylaw23_acts.calls k _ _ t217 _ _ t226 true _ ?side1 ?side2 ?side3 ?side4 A7.out).mono ?_);(case side1 => repeat (first|exact (Kd.R_reads' HO223.out).2.2|(with_reducible refine Kd.C_alloc ?_ _)|(with_reducible refine Kd.C_drewN ?_ _)|(with_reducible refine Kd.C_drew ?_)));(case side2 => exact (Kd.R_reads' HO223.out).2.1);(case side3 => repeat (first|exact (Kd.R_reads' HO232.out).2.2|(with_reducible refine Kd.C_alloc ?_ _)|(with_reducible refine Kd.C_drewN ?_ _)|(with_reducible refine Kd.C_drew ?_)));(case side4 => exact (Kd.R_reads' HO232.out).2.1);rintro e w' ⟨rfl,⟨nd,rfl⟩⟩))
      go_ret
      exact ⟨by first|rfl|(simp [errW_none,errW_some] <;> rfl)|(simp [*,errW_none,errW_some] <;> rfl),by repeat (first|(with_reducible first|exact HB.out|apply below_alloc|apply pw_below_drewN|apply below_drew1)|exact HB.out)⟩
    ·rw [if_neg c9] at H
     have c9b0:(t218==t227)=false:=beq_eq_false_iff_ne.mpr c9
     have c9b1:(t218 != t227)=true:=bne_iff_ne.mpr c9
     obtain rfl:=Option.some.inj H
     go_enter Tryz.func3,Tryz.ntmps3
     go_wp2_with (first|((with_reducible refine gate_callee (f:=4) rfl ?_);refine goesL_ (some 15) rfl rfl Tryz.func4 (by kernel_rfl) rfl #[.string a0] rfl (by (try simp only [List.map_toArray,List.map_cons,List.map_nil]);first|done|rfl|(simp only [List.length_drop,List.length_take];rfl)) ?_;(with_reducible refine (script_Parse.calls k a0 t215 t216 t217 t218 t219 _ ?side1 A2.out).mono ?_);(case side1 => exact ⟨GG.below hG.out (by repeat (first|(with_reducible first|exact HB.out|apply below_alloc|apply pw_below_drewN|apply below_drew1)|exact HB.out))⟩);rintro e w25 ⟨v220,v222,rfl,ho0,ho1,hb⟩;refine ⟨_,rfl,?_⟩;have n0_:=Aside0.mk (Kd.S_lower ho0 (below_size (by repeat (first|(with_reducible first|exact HB.out|apply below_alloc|apply pw_below_drewN|apply below_drew1)|exact HB.out))));have n1_:=Aside0.mk (Kd.R_lower ho1 (below_size (by repeat (first|(with_reducible first|exact HB.out|apply below_alloc|apply pw_below_drewN|apply below_drew1)|exact HB.out))));have n2_:=Aside0.mk (below_step (by repeat (first|(with_reducible first|exact HB.out|apply below_alloc|apply pw_below_drewN|apply below_drew1)|exact HB.out)) hb);clear HB;have HO221:=n0_;have HO223:=n1_;have HB:=n2_;clear n0_ n1_ n2_;(try clear hb);(try clear hb2);(try clear hk);(try clear hi);(try clear ho0);(try clear ho1))|((with_reducible refine gate_callee (f:=5) rfl ?_);refine goesL_ (some 23) rfl rfl Tryz.func5 (by kernel_rfl) rfl #[.string a0] rfl (by (try simp only [List.map_toArray,List.map_cons,List.map_nil]);first|done|rfl|(simp only [List.length_drop,List.length_take];rfl)) ?_;(with_reducible refine (understudyref23_Parse.calls k a0 t224 t225 t226 t227 t228 _ A3.out).mono ?_);rintro e w26 ⟨v229,v231,rfl,ho0,ho1,hb⟩;refine ⟨_,rfl,?_⟩;have n0_:=Aside0.mk (Kd.S_elder' (by (with_reducible repeat (first|apply Kd.S_alloc|apply Kd.S_drewN|apply Kd.S_drew));exact HO221.out) (Kd.S_base ho0) hb);have n1_:=Aside0.mk (Kd.R_elder' (by (with_reducible repeat (first|apply Kd.R_alloc|apply Kd.R_drewN|apply Kd.R_drew));exact HO223.out) (Kd.R_base ho1) hb);have n2_:=Aside0.mk (Kd.S_lower (Kd.S_new' ho0 (Kd.S_lt (by (with_reducible repeat (first|apply Kd.S_alloc|apply Kd.S_drewN|apply Kd.S_drew));exact HO221.out))) (below_size (by repeat (first|(with_reducible first|exact HB.out|apply below_alloc|apply pw_below_drewN|apply below_drew1)|exact HB.out))));have n3_:=Aside0.mk (Kd.R_lower (Kd.R_new' ho1 (Kd.R_lt (by (with_reducible repeat (first|apply Kd.R_alloc|apply Kd.R_drewN|apply Kd.R_drew));exact HO223.out))) (below_size (by repeat (first|(with_reducible first|exact HB.out|apply below_alloc|apply pw_below_drewN|apply below_drew1)|exact HB.out))));have n4_:=Aside0.mk (below_step (by repeat (first|(with_reducible first|exact HB.out|apply below_alloc|apply pw_below_drewN|apply below_drew1)|exact HB.out)) hb);clear HO221;clear HO223;clear HB;have HO221:=n0_;have HO223:=n1_;have HO230:=n2_;have HO232:=n3_;have HB:=n4_;clear n0_ n1_ n2_ n3_ n4_;(try clear hb);(try clear hb2);(try clear hk);(try clear hi);(try clear ho0);(try clear ho1);obtain ⟨Ao27,co27,eo27⟩:=Kd.S_slice HO221.out;subst eo27;obtain ⟨Ao28,co28,eo28⟩:=Kd.S_slice HO230.out;subst eo28)|((with_reducible refine gate_callee (f:=6) rfl ?_);refine goesL_ (some 31) rfl rfl Tryz.func6 (by kernel_rfl) rfl #[.slice Ao27 t215.length co27,.slice Ao28 t224.length co28] rfl (by (try simp only [List.map_toArray,List.map_cons,List.map_nil]);first|done|rfl|(simp only [List.length_drop,List.length_take];rfl)) ?_;(with_reducible refine (understudylaw23_rows.calls k _ _ t215 _ _ t224 true _ ?side1 ?side2 ?side3 ?side4 A4.out).mono ?_);(case side1 => repeat (first|exact (Kd.S_reads' HO221.out).2.2|(with_reducible refine Kd.C_alloc ?_ _)|(with_reducible refine Kd.C_drewN ?_ _)|(with_reducible refine Kd.C_drew ?_)));(case side2 => exact (Kd.S_reads' HO221.out).2.1);(case side3 => repeat (first|exact (Kd.S_reads' HO230.out).2.2|(with_reducible refine Kd.C_alloc ?_ _)|(with_reducible refine Kd.C_drewN ?_ _)|(with_reducible refine Kd.C_drew ?_)));(case side4 => exact (Kd.S_reads' HO230.out).2.1);rintro e w' ⟨rfl,⟨nd,rfl⟩⟩;refine ⟨_,rfl,?_⟩;obtain ⟨Ao29,co29,eo29⟩:=Kd.R_slice HO223.out;subst eo29;obtain ⟨Ao30,co30,eo30⟩:=Kd.R_slice HO232.out;subst eo30)|(go_at_call 7;(with_reducible refine (understudylaw23_acts.calls k _ _ t217 _ _ t226 true _ ?side1 ?side2 ?side3 ?side4 A7.out).mono ?_);(case side1 => repeat (first|exact (Kd.R_reads' HO223.out).2.2|(with_reducible refine Kd.C_alloc ?_ _)|(with_reducible refine Kd.C_drewN ?_ _)|(with_reducible refine Kd.C_drew ?_)));(case side2 => exact (Kd.R_reads' HO223.out).2.1);(case side3 => repeat (first|exact (Kd.R_reads' HO232.out).2.2|(with_reducible refine Kd.C_alloc ?_ _)|(with_reducible refine Kd.C_drewN ?_ _)|(with_reducible refine Kd.C_drew ?_)));(case side4 => exact (Kd.R_reads' HO232.out).2.1);rintro e w' ⟨rfl,⟨nd,rfl⟩⟩))
     go_ret
     exact ⟨by first|rfl|(simp [errW_none,errW_some] <;> rfl)|(simp [*,errW_none,errW_some] <;> rfl),by repeat (first|(with_reducible first|exact HB.out|apply below_alloc|apply pw_below_drewN|apply below_drew1)|exact HB.out)⟩
   ·replace c8:=Bool.eq_false_iff.mpr c8
    subst c8
    have H1:(some false)=some r:=by rw [if_neg (show ¬ (false=true) by decide)] at H;exact H
    clear H
    have H:=H1
    clear H1
    obtain rfl:=Option.some.inj H
    go_enter Tryz.func3,Tryz.ntmps3
    go_wp2_with (first|((with_reducible refine gate_callee (f:=4) rfl ?_);refine goesL_ (some 15) rfl rfl Tryz.func4 (by kernel_rfl) rfl #[.string a0] rfl (by (try simp only [List.map_toArray,List.map_cons,List.map_nil]);first|done|rfl|(simp only [List.length_drop,List.length_take];rfl)) ?_;(with_reducible refine (script_Parse.calls k a0 t215 t216 t217 t218 t219 _ ?side1 A2.out).mono ?_);(case side1 => exact ⟨GG.below hG.out (by repeat (first|(with_reducible first|exact HB.out|apply below_alloc|apply pw_below_drewN|apply below_drew1)|exact HB.out))⟩);rintro e w31 ⟨v220,v222,rfl,ho0,ho1,hb⟩;refine ⟨_,rfl,?_⟩;have n0_:=Aside0.mk (Kd.S_lower ho0 (below_size (by repeat (first|(with_reducible first|exact HB.out|apply below_alloc|apply pw_below_drewN|apply below_drew1)|exact HB.out))));have n1_:=Aside0.mk (Kd.R_lower ho1 (below_size (by repeat (first|(with_reducible first|exact HB.out|apply below_alloc|apply pw_below_drewN|apply below_drew1)|exact HB.out))));have n2_:=Aside0.mk (below_step (by repeat (first|(with_reducible first|exact HB.out|apply below_alloc|apply pw_below_drewN|apply below_drew1)|exact HB.out)) hb);clear HB;have HO221:=n0_;have HO223:=n1_;have HB:=n2_;clear n0_ n1_ n2_;(try clear hb);(try clear hb2);(try clear hk);(try clear hi);(try clear ho0);(try clear ho1))|((with_reducible refine gate_callee (f:=5) rfl ?_);refine goesL_ (some 23) rfl rfl Tryz.func5 (by kernel_rfl) rfl #[.string a0] rfl (by (try simp only [List.map_toArray,List.map_cons,List.map_nil]);first|done|rfl|(simp only [List.length_drop,List.length_take];rfl)) ?_;(with_reducible refine (understudyref23_Parse.calls k a0 t224 t225 t226 t227 t228 _ A3.out).mono ?_);rintro e w32 ⟨v229,v231,rfl,ho0,ho1,hb⟩;refine ⟨_,rfl,?_⟩;have n0_:=Aside0.mk (Kd.S_elder' (by (with_reducible repeat (first|apply Kd.S_alloc|apply Kd.S_drewN|apply Kd.S_drew));exact HO221.out) (Kd.S_base ho0) hb);have n1_:=Aside0.mk (Kd.R_elder' (by (with_reducible repeat (first|apply Kd.R_alloc|apply Kd.R_drewN|apply Kd.R_drew));exact HO223.out) (Kd.R_base ho1) hb);have n2_:=Aside0.mk (Kd.S_lower (Kd.S_new' ho0 (Kd.S_lt (by (with_reducible repeat (first|apply Kd.S_alloc|apply Kd.S_drewN|apply Kd.S_drew));exact HO221.out))) (below_size (by repeat (first|(with_reducible first|exact HB.out|apply below_alloc|apply pw_below_drewN|apply below_drew1)|exact HB.out))));have n3_:=Aside0.mk (Kd.R_lower (Kd.R_new' ho1 (Kd.R_lt (by (with_reducible repeat (first|apply Kd.R_alloc|apply Kd.R_drewN|apply Kd.R_drew));exact HO223.out))) (below_size (by repeat (first|(with_reducible first|exact HB.out|apply below_alloc|apply pw_below_drewN|apply below_drew1)|exact HB.out))));have n4_:=Aside0.mk (below_step (by repeat (first|(with_reducible first|exact HB.out|apply below_alloc|apply pw_below_drewN|apply below_drew1)|exact HB.out)) hb);clear HO221;clear HO223;clear HB;have HO221:=n0_;have HO223:=n1_;have HO230:=n2_;have HO232:=n3_;have HB:=n4_;clear n0_ n1_ n2_ n3_ n4_;(try clear hb);(try clear hb2);(try clear hk);(try clear hi);(try clear ho0);(try clear ho1);obtain ⟨Ao33,co33,eo33⟩:=Kd.S_slice HO221.out;subst eo33;obtain ⟨Ao34,co34,eo34⟩:=Kd.S_slice HO230.out;subst eo34)|((with_reducible refine gate_callee (f:=6) rfl ?_);refine goesL_ (some 31) rfl rfl Tryz.func6 (by kernel_rfl) rfl #[.slice Ao33 t215.length co33,.slice Ao34 t224.length co34] rfl (by (try simp only [List.map_toArray,List.map_cons,List.map_nil]);first|done|rfl|(simp only [List.length_drop,List.length_take];rfl)) ?_;(with_reducible refine (understudylaw23_rows.calls k _ _ t215 _ _ t224 true _ ?side1 ?side2 ?side3 ?side4 A4.out).mono ?_);(case side1 => repeat (first|exact (Kd.S_reads' HO221.out).2.2|(with_reducible refine Kd.C_alloc ?_ _)|(with_reducible refine Kd.C_drewN ?_ _)|(with_reducible refine Kd.C_drew ?_)));(case side2 => exact (Kd.S_reads' HO221.out).2.1);(case side3 => repeat (first|exact (Kd.S_reads' HO230.out).2.2|(with_reducible refine Kd.C_alloc ?_ _)|(with_reducible refine Kd.C_drewN ?_ _)|(with_reducible refine Kd.C_drew ?_)));(case side4 => exact (Kd.S_reads' HO230.out).2.1);rintro e w' ⟨rfl,⟨nd,rfl⟩⟩;refine ⟨_,rfl,?_⟩;obtain ⟨Ao35,co35,eo35⟩:=Kd.R_slice HO223.out;subst eo35;obtain ⟨Ao36,co36,eo36⟩:=Kd.R_slice HO232.out;subst eo36)|(go_at_call 7;(with_reducible refine (understudylaw23_acts.calls k _ _ t217 _ _ t226 false _ ?side1 ?side2 ?side3 ?side4 A7.out).mono ?_);(case side1 => repeat (first|exact (Kd.R_reads' HO223.out).2.2|(with_reducible refine Kd.C_alloc ?_ _)|(with_reducible refine Kd.C_drewN ?_ _)|(with_reducible refine Kd.C_drew ?_)));(case side2 => exact (Kd.R_reads' HO223.out).2.1);(case side3 => repeat (first|exact (Kd.R_reads' HO232.out).2.2|(with_reducible refine Kd.C_alloc ?_ _)|(with_reducible refine Kd.C_drewN ?_ _)|(with_reducible refine Kd.C_drew ?_)));(case side4 => exact (Kd.R_reads' HO232.out).2.1);rintro e w' ⟨rfl,⟨nd,rfl⟩⟩))
    go_ret
    exact ⟨by first|rfl|(simp [errW_none,errW_some] <;> rfl)|(simp [*,errW_none,errW_some] <;> rfl),by repeat (first|(with_reducible first|exact HB.out|apply below_alloc|apply pw_below_drewN|apply below_drew1)|exact HB.out)⟩
  ·rw [if_neg c6] at H
   have c6b0:(t216==t225)=false:=beq_eq_false_iff_ne.mpr c6
   have c6b1:(t216 != t225)=true:=bne_iff_ne.mpr c6
   obtain rfl:=Option.some.inj H
   go_enter Tryz.func3,Tryz.ntmps3
   go_wp2_with (first|((with_reducible refine gate_callee (f:=4) rfl ?_);refine goesL_ (some 15) rfl rfl Tryz.func4 (by kernel_rfl) rfl #[.string a0] rfl (by (try simp only [List.map_toArray,List.map_cons,List.map_nil]);first|done|rfl|(simp only [List.length_drop,List.length_take];rfl)) ?_;(with_reducible refine (script_Parse.calls k a0 t215 t216 t217 t218 t219 _ ?side1 A2.out).mono ?_);(case side1 => exact ⟨GG.below hG.out (by repeat (first|(with_reducible first|exact HB.out|apply below_alloc|apply pw_below_drewN|apply below_drew1)|exact HB.out))⟩);rintro e w37 ⟨v220,v222,rfl,ho0,ho1,hb⟩;refine ⟨_,rfl,?_⟩;have n0_:=Aside0.mk (Kd.S_lower ho0 (below_size (by repeat (first|(with_reducible first|exact HB.out|apply below_alloc|apply pw_below_drewN|apply below_drew1)|exact HB.out))));have n1_:=Aside0.mk (Kd.R_lower ho1 (below_size (by repeat (first|(with_reducible first|exact HB.out|apply below_alloc|apply pw_below_drewN|apply below_drew1)|exact HB.out))));have n2_:=Aside0.mk (below_step (by repeat (first|(with_reducible first|exact HB.out|apply below_alloc|apply pw_below_drewN|apply below_drew1)|exact HB.out)) hb);clear HB;have HO221:=n0_;have HO223:=n1_;have HB:=n2_;clear n0_ n1_ n2_;(try clear hb);(try clear hb2);(try clear hk);(try clear hi);(try clear ho0);(try clear ho1))|((with_reducible refine gate_callee (f:=5) rfl ?_);refine goesL_ (some 23) rfl rfl Tryz.func5 (by kernel_rfl) rfl #[.string a0] rfl (by (try simp only [List.map_toArray,List.map_cons,List.map_nil]);first|done|rfl|(simp only [List.length_drop,List.length_take];rfl)) ?_;(with_reducible refine (understudyref23_Parse.calls k a0 t224 t225 t226 t227 t228 _ A3.out).mono ?_);rintro e w38 ⟨v229,v231,rfl,ho0,ho1,hb⟩;refine ⟨_,rfl,?_⟩;have n0_:=Aside0.mk (Kd.S_elder' (by (with_reducible repeat (first|apply Kd.S_alloc|apply Kd.S_drewN|apply Kd.S_drew));exact HO221.out) (Kd.S_base ho0) hb);have n1_:=Aside0.mk (Kd.R_elder' (by (with_reducible repeat (first|apply Kd.R_alloc|apply Kd.R_drewN|apply Kd.R_drew));exact HO223.out) (Kd.R_base ho1) hb);have n2_:=Aside0.mk (Kd.S_lower (Kd.S_new' ho0 (Kd.S_lt (by (with_reducible repeat (first|apply Kd.S_alloc|apply Kd.S_drewN|apply Kd.S_drew));exact HO221.out))) (below_size (by repeat (first|(with_reducible first|exact HB.out|apply below_alloc|apply pw_below_drewN|apply below_drew1)|exact HB.out))));have n3_:=Aside0.mk (Kd.R_lower (Kd.R_new' ho1 (Kd.R_lt (by (with_reducible repeat (first|apply Kd.R_alloc|apply Kd.R_drewN|apply Kd.R_drew));exact HO223.out))) (below_size (by repeat (first|(with_reducible first|exact HB.out|apply below_alloc|apply pw_below_drewN|apply below_drew1)|exact HB.out))));have n4_:=Aside0.mk (below_step (by repeat (first|(with_reducible first|exact HB.out|apply below_alloc|apply pw_below_drewN|apply below_drew1)|exact HB.out)) hb);clear HO221;clear HO223;clear HB;have HO221:=n0_;have HO223:=n1_;have HO230:=n2_;have HO232:=n3_;have HB:=n4_;clear n0_ n1_ n2_ n3_ n4_;(try clear hb);(try clear hb2);(try clear hk);(try clear hi);(try clear ho0);(try clear ho1);obtain ⟨Ao39,co39,eo39⟩:=Kd.S_slice HO221.out;subst eo39;obtain ⟨Ao40,co40,eo40⟩:=Kd.S_slice HO230.out;subst eo40)|((with_reducible refine gate_callee (f:=6) rfl ?_);refine goesL_ (some 31) rfl rfl Tryz.func6 (by kernel_rfl) rfl #[.slice Ao39 t215.length co39,.slice Ao40 t224.length co40] rfl (by (try simp only [List.map_toArray,List.map_cons,List.map_nil]);first|done|rfl|(simp only [List.length_drop,List.length_take];rfl)) ?_;(with_reducible refine (understudylaw23_rows.calls k _ _ t215 _ _ t224 true _ ?side1 ?side2 ?side3 ?side4 A4.out).mono ?_);(case side1 => repeat (first|exact (Kd.S_reads' HO221.out).2.2|(with_reducible refine Kd.C_alloc ?_ _)|(with_reducible refine Kd.C_drewN ?_ _)|(with_reducible refine Kd.C_drew ?_)));(case side2 => exact (Kd.S_reads' HO221.out).2.1);(case side3 => repeat (first|exact (Kd.S_reads' HO230.out).2.2|(with_reducible refine Kd.C_alloc ?_ _)|(with_reducible refine Kd.C_drewN ?_ _)|(with_reducible refine Kd.C_drew ?_)));(case side4 => exact (Kd.S_reads' HO230.out).2.1);rintro e w' ⟨rfl,⟨nd,rfl⟩⟩;refine ⟨_,rfl,?_⟩))
   go_ret
   exact ⟨by first|rfl|(simp [errW_none,errW_some] <;> rfl)|(simp [*,errW_none,errW_some] <;> rfl),by repeat (first|(with_reducible first|exact HB.out|apply below_alloc|apply pw_below_drewN|apply below_drew1)|exact HB.out)⟩
 ·replace c5:=Bool.eq_false_iff.mpr c5
  subst c5
  have H1:(some false)=some r:=by rw [if_neg (show ¬ (false=true) by decide)] at H;exact H
  clear H
  have H:=H1
  clear H1
  obtain rfl:=Option.some.inj H
  go_enter Tryz.func3,Tryz.ntmps3
  go_wp2_with (first|((with_reducible refine gate_callee (f:=4) rfl ?_);refine goesL_ (some 15) rfl rfl Tryz.func4 (by kernel_rfl) rfl #[.string a0] rfl (by (try simp only [List.map_toArray,List.map_cons,List.map_nil]);first|done|rfl|(simp only [List.length_drop,List.length_take];rfl)) ?_;(with_reducible refine (script_Parse.calls k a0 t215 t216 t217 t218 t219 _ ?side1 A2.out).mono ?_);(case side1 => exact ⟨GG.below hG.out (by repeat (first|(with_reducible first|exact HB.out|apply below_alloc|apply pw_below_drewN|apply below_drew1)|exact HB.out))⟩);rintro e w41 ⟨v220,v222,rfl,ho0,ho1,hb⟩;refine ⟨_,rfl,?_⟩;have n0_:=Aside0.mk (Kd.S_lower ho0 (below_size (by repeat (first|(with_reducible first|exact HB.out|apply below_alloc|apply pw_below_drewN|apply below_drew1)|exact HB.out))));have n1_:=Aside0.mk (Kd.R_lower ho1 (below_size (by repeat (first|(with_reducible first|exact HB.out|apply below_alloc|apply pw_below_drewN|apply below_drew1)|exact HB.out))));have n2_:=Aside0.mk (below_step (by repeat (first|(with_reducible first|exact HB.out|apply below_alloc|apply pw_below_drewN|apply below_drew1)|exact HB.out)) hb);clear HB;have HO221:=n0_;have HO223:=n1_;have HB:=n2_;clear n0_ n1_ n2_;(try clear hb);(try clear hb2);(try clear hk);(try clear hi);(try clear ho0);(try clear ho1))|((with_reducible refine gate_callee (f:=5) rfl ?_);refine goesL_ (some 23) rfl rfl Tryz.func5 (by kernel_rfl) rfl #[.string a0] rfl (by (try simp only [List.map_toArray,List.map_cons,List.map_nil]);first|done|rfl|(simp only [List.length_drop,List.length_take];rfl)) ?_;(with_reducible refine (understudyref23_Parse.calls k a0 t224 t225 t226 t227 t228 _ A3.out).mono ?_);rintro e w42 ⟨v229,v231,rfl,ho0,ho1,hb⟩;refine ⟨_,rfl,?_⟩;have n0_:=Aside0.mk (Kd.S_elder' (by (with_reducible repeat (first|apply Kd.S_alloc|apply Kd.S_drewN|apply Kd.S_drew));exact HO221.out) (Kd.S_base ho0) hb);have n1_:=Aside0.mk (Kd.R_elder' (by (with_reducible repeat (first|apply Kd.R_alloc|apply Kd.R_drewN|apply Kd.R_drew));exact HO223.out) (Kd.R_base ho1) hb);have n2_:=Aside0.mk (Kd.S_lower (Kd.S_new' ho0 (Kd.S_lt (by (with_reducible repeat (first|apply Kd.S_alloc|apply Kd.S_drewN|apply Kd.S_drew));exact HO221.out))) (below_size (by repeat (first|(with_reducible first|exact HB.out|apply below_alloc|apply pw_below_drewN|apply below_drew1)|exact HB.out))));have n3_:=Aside0.mk (Kd.R_lower (Kd.R_new' ho1 (Kd.R_lt (by (with_reducible repeat (first|apply Kd.R_alloc|apply Kd.R_drewN|apply Kd.R_drew));exact HO223.out))) (below_size (by repeat (first|(with_reducible first|exact HB.out|apply below_alloc|apply pw_below_drewN|apply below_drew1)|exact HB.out))));have n4_:=Aside0.mk (below_step (by repeat (first|(with_reducible first|exact HB.out|apply below_alloc|apply pw_below_drewN|apply below_drew1)|exact HB.out)) hb);clear HO221;clear HO223;clear HB;have HO221:=n0_;have HO223:=n1_;have HO230:=n2_;have HO232:=n3_;have HB:=n4_;clear n0_ n1_ n2_ n3_ n4_;(try clear hb);(try clear hb2);(try clear hk);(try clear hi);(try clear ho0);(try clear ho1);obtain ⟨Ao43,co43,eo43⟩:=Kd.S_slice HO221.out;subst eo43;obtain ⟨Ao44,co44,eo44⟩:=Kd.S_slice HO230.out;subst eo44)|((with_reducible refine gate_callee (f:=6) rfl ?_);refine goesL_ (some 31) rfl rfl Tryz.func6 (by kernel_rfl) rfl #[.slice Ao43 t215.length co43,.slice Ao44 t224.length co44] rfl (by (try simp only [List.map_toArray,List.map_cons,List.map_nil]);first|done|rfl|(simp only [List.length_drop,List.length_take];rfl)) ?_;(with_reducible refine (understudylaw23_rows.calls k _ _ t215 _ _ t224 false _ ?side1 ?side2 ?side3 ?side4 A4.out).mono ?_);(case side1 => repeat (first|exact (Kd.S_reads' HO221.out).2.2|(with_reducible refine Kd.C_alloc ?_ _)|(with_reducible refine Kd.C_drewN ?_ _)|(with_reducible refine Kd.C_drew ?_)));(case side2 => exact (Kd.S_reads' HO221.out).2.1);(case side3 => repeat (first|exact (Kd.S_reads' HO230.out).2.2|(with_reducible refine Kd.C_alloc ?_ _)|(with_reducible refine Kd.C_drewN ?_ _)|(with_reducible refine Kd.C_drew ?_)));(case side4 => exact (Kd.S_reads' HO230.out).2.1);rintro e w' ⟨rfl,⟨nd,rfl⟩⟩;refine ⟨_,rfl,?_⟩))
  go_ret
  exact ⟨by first|rfl|(simp [errW_none,errW_some] <;> rfl)|(simp [*,errW_none,errW_some] <;> rfl),by repeat (first|(with_reducible first|exact HB.out|apply below_alloc|apply pw_below_drewN|apply below_drew1)|exact HB.out)⟩
def understudylaw23_ScriptParses.Pure:Prop:=∀ (a0:ByteArray),a0.size≤140737488351232→∃ k,understudylaw23_ScriptParses.f k a0=some true
theorem understudylaw23_ScriptParses.walk (P:understudylaw23_ScriptParses.Pure) (a0:ByteArray) (w:World) (hG:Aside0 (GG w)) (w0:a0.size≤140737488351232) :
  Calls Tryz.prog 3 #[.string a0] w fun e w' => e=.returned (.bool true)∧Below w.heap.size w w':=by
 obtain ⟨k,h⟩:=P a0 w0
 refine (understudylaw23_ScriptParses.calls k a0 true w hG h).mono ?_
 rintro e w' ⟨rfl,hd⟩
 exact ⟨rfl,hd⟩
end Go.Proofs.YtpofikjkccljlaaGreatDoor.Px
namespace Go.Proofs.YtpofikjkccljlaaGreatDoor.Px
open Go.Lib
def wordsOf:List UInt8→List (List UInt8)
 | [] => [[]]
 | c :: l => if c=32 then [] :: wordsOf l else match wordsOf l with
  | [] => [[c]]
  | w :: r => (c :: w) :: r
theorem words_ne:∀ l,wordsOf l ≠ []
 | [] => by simp [wordsOf]
 | c :: l => by
  unfold wordsOf
  split
  ·simp
  ·split <;> simp
theorem words_len:∀ l,∀ w ∈ wordsOf l,w.length≤l.length
 | [],w,h => by simp [wordsOf] at h;subst h;simp
 | c :: l,w,h => by
  have ih:=words_len l
  rw [wordsOf.eq_2] at h
  split at h
  ·rcases List.mem_cons.1 h with e|e
   ·subst e;simp
   ·have:=ih w e;simp;omega
  ·cases hw:wordsOf l with
   | nil => exact absurd hw (words_ne l)
   | cons v r =>
    rw [hw] at h ih
    rcases List.mem_cons.1 h with e|e
    ·subst e;have:=ih v (by simp);simp;omega
    ·have:=ih w (List.mem_cons_of_mem _ e);simp;omega
theorem split_words:∀ l:List UInt8,splitK [32] 0 (count l [32]) l=wordsOf l
 | [] => by rw [count_miss (by simp [index])];rfl
 | c :: l => by
  have ih:=split_words l
  rw [wordsOf.eq_2]
  by_cases h:c=32
  ·subst h
   rw [if_pos rfl,count_cons_eq,Nat.add_comm]
   have hix:index (32 :: l) [32]=0:=by rw [index];simp [List.isPrefixOf]
   rw [splitK,hix,if_neg (by decide)]
   show [] :: splitK [32] 0 (count l [32]) l=_
   rw [ih]
  ·rw [if_neg h,count_cons_ne c 32 l h]
   have hp:([32]:List UInt8).isPrefixOf (c :: l)=false:=by simp [List.isPrefixOf,Ne.symm h]
   have hix:index (c :: l) [32]=if index l [32]==-1 then -1 else index l [32] + 1:=by rw [index,hp];simp
   by_cases hm:index l [32]=-1
   ·rw [count_miss hm] at ih ⊢
    rw [← ih]
    rfl
   ·have hge:=index_ge l [32]
    obtain ⟨j,hj⟩:∃ j:Nat,index l [32]=j:=⟨(index l [32]).toNat,by omega⟩
    have hix':index (c :: l) [32]=((j + 1:Nat):Int):=by rw [hix,if_neg (fun e => hm (beq_iff_eq.1 e)),hj];omega
    rw [count_hit (by simp) hj,Nat.add_comm] at ih ⊢
    rw [splitK,hj,if_neg (fun e => by have:=beq_iff_eq.1 e;omega)] at ih
    rw [splitK,hix',if_neg (fun e => by have:=beq_iff_eq.1 e;omega),← ih]
    rfl
theorem count_of (s:ByteArray) (c:UInt8):countB s ⟨#[c]⟩=count s.data.toList [c]:=rfl
def wordsB (s:ByteArray):List ByteArray:=splitB ⟨#[32]⟩ 0 (countB s ⟨#[32]⟩) s
theorem wordsB_data (s:ByteArray):(wordsB s).map (·.data.toList)=wordsOf s.data.toList:=by
 unfold wordsB
 rw [splitB_data,count_of]
 exact split_words _
theorem bytes_inj' {a b:ByteArray} (h:a.data.toList=b.data.toList):a=b:=by
 cases a with
 | mk a => cases b with
  | mk b => exact congrArg ByteArray.mk (Array.toList_inj.1 h)
theorem bytes_map_inj':∀ {l m:List ByteArray},l.map (·.data.toList)=m.map (·.data.toList)→l=m
 | [],[],_ => rfl
 | [],_ :: _,h => by simp at h
 | _ :: _,[],h => by simp at h
 | a :: l,b :: m,h => by
  simp only [List.map_cons,List.cons.injEq] at h
  rw [bytes_inj' h.1,bytes_map_inj' h.2]
end Go.Proofs.YtpofikjkccljlaaGreatDoor.Px
namespace Go.Proofs.YtpofikjkccljlaaGreatDoor.Px
open Go.RowKit Go.Proofs.YtpofikjkccljlaaGreatDoorW.PrintWords Go.Proofs.YtpofikjkccljlaaGreatDoorW.PrintLast Go.Proofs.YtpofikjkccljlaaGreatDoorW.PrintMore
set_option linter.unusedVariables false
set_option linter.unusedSimpArgs false
def manyV (k:Int):Int:=if k=0 then 3 else if k=1 ∨ k=2 then 2 else 1
theorem script_many.eq (k:Int):script_many.f k=some (manyV k):=by
 unfold script_many.f manyV
 by_cases h0:k=0
 ·rw [if_pos h0,if_pos h0]
 ·rw [if_neg h0,if_neg h0]
  by_cases h1:k=1
  ·rw [if_pos h1,if_pos (Or.inl h1)]
  ·rw [if_neg h1]
   by_cases h2:k=2
   ·rw [if_pos h2,if_pos (Or.inr h2)]
   ·rw [if_neg h2,if_neg (by omega)]
def numsV:List ByteArray→Option (List Int)
 | [] => some []
 | w :: r => if (numV w).2=true then (numsV r).map (fun l => (numV w).1 :: l) else none
abbrev LineR:=ByteArray × List Int × List Int × Int
def errL:LineR:=(⟨#[]⟩,[],[],4)
def numO (w0:ByteArray) (acc:List Int) (x:Option (List Int)):LineR:=match x with
 | none => errL
 | some l => (w0,[],acc++l,0)
def hexR (w0:ByteArray) (x:Option (List Int × Bool)):LineR:=match x with
 | some (b,true) => (w0,b,[],0)
 | _ => errL
def lineK (w0:ByteArray) (ws:List ByteArray):LineR :=
 if kindV w0 < 0∧¬ w0.toList=([109,97,99,104,105,110,101,115]:List UInt8) then errL
 else if (ws.length:Int) ≠ (if kindV w0 ≥ 0 then manyV (kindV w0) else 1) then errL
 else numO w0 [] (numsV ws)
def lineV (w0:ByteArray) (ws:List ByteArray):LineR :=
 if w0.toList=([102,105,108,101]:List UInt8)∧ws.length=1 then hexR w0 (script_hex.f (ws.headD ByteArray.empty)) else lineK w0 ws
theorem line_loop (w0:ByteArray) (ws:List ByteArray) (hl:ws.length≤4294967296) (hs:∀ w ∈ ws,w.size≤4294967296):∀ (n i:Nat) (acc:List Int),ws.length - i=n→i≤ws.length→acc.length≤i →
  Ev (fun k => script_Line.l0 k (w0 :: ws) acc ws (ws.length:Int) (i:Int)) (numO w0 acc (numsV (ws.drop i)))
 | 0,i,acc,hn,hi,ha => by
  refine Ev.step (f:=fun _ => some (w0,[],acc,0)) (fun k => ?_) ?_
  ·rw [script_Line.l0,if_neg (by omega),if_pos (by simp)]
   rfl
  ·rw [List.drop_eq_nil_of_le (by omega)]
   show Ev _ (w0,[],acc++[],0)
   rw [List.append_nil]
   exact Ev.now _
 | n + 1,i,acc,hn,hi,ha => by
  obtain ⟨w,r,hd⟩:∃ w r,ws.drop i=w :: r:=by
   cases hd:ws.drop i with
   | nil => have:=congrArg List.length hd;simp at this;omega
   | cons w r => exact ⟨w,r,rfl⟩
  have hw:rdOf ByteArray.empty ws (i:Int)=w:=by
   unfold rdOf
   rw [Int.toNat_natCast,List.getD_eq_getElem?_getD,← List.head?_drop,hd]
   rfl
  have hmem:w ∈ ws:=List.mem_of_mem_drop (by rw [hd];exact List.mem_cons_self)
  have hr:ws.drop (i + 1)=r:=by have h:=congrArg List.tail hd;rw [List.tail_drop] at h;exact h
  have hnum:script_number.f w=some (numV w):=if_pos (by have:=hs w hmem;omega)
  have hwr:wrap64 ((i:Int) + 1)=((i + 1:Nat):Int):=by unfold wrap64;omega
  rw [hd]
  by_cases ho:(numV w).2=true
  ·refine Ev.step (f:=fun k => script_Line.l0 k (w0 :: ws) (acc++[(numV w).1]) ws (ws.length:Int) ((i + 1:Nat):Int)) (fun k => ?_) ?_
   ·rw [script_Line.l0,if_pos (by omega),if_pos (by omega),if_pos (by omega),hw,hnum,Option.bind_some,if_pos ho,if_pos (by omega),hwr]
   ·have ih:=line_loop w0 ws hl hs n (i + 1) (acc++[(numV w).1]) (by omega) (by omega) (by simp;omega)
    rw [hr] at ih
    have e:numO w0 acc (numsV (w :: r))=numO w0 (acc++[(numV w).1]) (numsV r):=by
     rw [numsV,if_pos ho]
     cases numsV r with
     | none => rfl
     | some l => show (w0,[],acc++(numV w).1 :: l,0)=_;unfold numO;simp
    rw [e]
    exact ih
  ·refine Ev.step (f:=fun k => some errL) (fun k => ?_) ?_
   ·rw [script_Line.l0,if_pos (by omega),if_pos (by omega),if_pos (by omega),hw,hnum,Option.bind_some,if_neg ho]
    rfl
   ·rw [numsV,if_neg ho]
    exact Ev.now _
theorem line_j2 (w0:ByteArray) (ws:List ByteArray) (hl:ws.length≤4294967296) (hs:∀ w ∈ ws,w.size≤4294967296) (x:Bool):Ev (fun k => script_Line.j2 k (w0 :: ws) x) (if x=true then errL else numO w0 [] (numsV ws)):=by
 cases x with
 | true =>
  refine Ev.step (f:=fun _ => some errL) (fun k => ?_) (Ev.now _)
  rw [script_Line.j2,if_pos rfl]
  rfl
 | false =>
  refine Ev.step (f:=fun k => script_Line.l0 k (w0 :: ws) [] ws (ws.length:Int) 0) (fun k => ?_) ?_
  ·rw [script_Line.j2,if_neg (by decide),if_pos (by simp;omega),Option.bind_some]
   rfl
  ·exact line_loop w0 ws hl hs _ 0 [] rfl (Nat.zero_le _) (Nat.le_refl _)
theorem many_le (k:Int):1≤manyV k∧manyV k≤3:=by unfold manyV;repeat' split <;> omega
theorem line_j1 (w0:ByteArray) (ws:List ByteArray) (hl:ws.length≤4294967296) (hs:∀ w ∈ ws,w.size≤4294967296) (y m:Int) (hm:1≤m∧m≤3) :
  Ev (fun k => script_Line.j1 k (w0 :: ws) y m) (if y < 0∧¬ w0.toList=([109,97,99,104,105,110,101,115]:List UInt8) then errL else if (ws.length:Int) ≠ m then errL else numO w0 [] (numsV ws)):=by
 have hlen:(((w0 :: ws).length:Int) != (wrap64 (m + 1)))=decide ((ws.length:Int) ≠ m):=by
  rw [show wrap64 (m + 1)=m + 1 by unfold wrap64;omega]
  by_cases h:(ws.length:Int)=m
  ·rw [decide_eq_false (by omega),List.length_cons,Int.natCast_add,h]
   simp
  ·rw [decide_eq_true h,List.length_cons,bne_iff_ne]
   omega
 have hgo:Ev (fun k => script_Line.j2 k (w0 :: ws) (((w0 :: ws).length:Int) != (wrap64 (m + 1)))) (if (ws.length:Int) ≠ m then errL else numO w0 [] (numsV ws)):=by
  have h2:=line_j2 w0 ws hl hs (((w0 :: ws).length:Int) != (wrap64 (m + 1)))
  have e:(if (((w0 :: ws).length:Int) != (wrap64 (m + 1)))=true then errL else numO w0 [] (numsV ws))=(if (ws.length:Int) ≠ m then errL else numO w0 [] (numsV ws)):=by
   rw [hlen]
   by_cases h:(ws.length:Int) ≠ m
   ·rw [if_pos h,if_pos (decide_eq_true h)]
   ·rw [if_neg h,if_neg (by rw [decide_eq_false h];decide)]
  rw [e] at h2
  exact h2
 by_cases hy:y < 0
 ·by_cases hma:w0.toList=([109,97,99,104,105,110,101,115]:List UInt8)
  ·rw [if_neg (fun h => h.2 hma)]
   refine Ev.step (fun k => ?_) hgo
   rw [script_Line.j1,if_pos hy,if_pos (by simp)]
   exact if_pos hma
  ·rw [if_pos ⟨hy,hma⟩]
   refine Ev.step (f:=fun k => script_Line.j2 k (w0 :: ws) true) (fun k => ?_) (line_j2 w0 ws hl hs true)
   rw [script_Line.j1,if_pos hy,if_pos (by simp)]
   exact if_neg hma
 ·rw [if_neg (fun h => hy h.1)]
  refine Ev.step (fun k => ?_) hgo
  rw [script_Line.j1,if_neg hy]
theorem line_kind (w0:ByteArray) (ws:List ByteArray) (hl:ws.length≤4294967296) (hs:∀ w ∈ ws,w.size≤4294967296):Ev (fun k => script_Line.j0 k (w0 :: ws) false) (lineK w0 ws):=by
 unfold lineK
 by_cases hk:kindV w0 ≥ 0
 ·refine Ev.step (f:=fun k => script_Line.j1 k (w0 :: ws) (kindV w0) (manyV (kindV w0))) (fun k => ?_) ?_
  ·rw [script_Line.j0,if_neg (by decide),if_pos (by simp)]
   show (some (kindV w0)).bind _=_
   rw [Option.bind_some,if_pos hk,script_many.eq,Option.bind_some]
  ·have h:=line_j1 w0 ws hl hs (kindV w0) (manyV (kindV w0)) (many_le _)
   rw [if_pos hk]
   exact h
 ·refine Ev.step (f:=fun k => script_Line.j1 k (w0 :: ws) (kindV w0) 1) (fun k => ?_) ?_
  ·rw [script_Line.j0,if_neg (by decide),if_pos (by simp)]
   show (some (kindV w0)).bind _=_
   rw [Option.bind_some,if_neg hk]
  ·have h:=line_j1 w0 ws hl hs (kindV w0) 1 (by omega)
   rw [if_neg hk]
   exact h
theorem line_ev (s:ByteArray) (hs:s.size < 4294967281) (w0:ByteArray) (ws:List ByteArray) (hw:wordsB s=w0 :: ws):Ev (fun k => script_Line.f k s) (lineV w0 ws):=by
 have hsz:∀ w ∈ w0 :: ws,w.size≤s.size:=by
  intro w hm
  rw [← hw] at hm
  have h1:w.data.toList ∈ wordsOf s.data.toList:=by rw [← wordsB_data];exact List.mem_map_of_mem hm
  have h2:=words_len _ _ h1
  simpa using h2
 have hlen:ws.length≤4294967296:=by
  have h1:=Lib.splitB_length_le ⟨#[32]⟩ 0 (Lib.countB s ⟨#[32]⟩) s
  have h2:=Lib.countB_le ⟨#[32]⟩ (by decide) s.size s (Nat.le_refl _)
  have h3:(wordsB s).length≤Lib.countB s ⟨#[32]⟩ + 1:=h1
  rw [hw] at h3
  simp only [List.length_cons] at h3
  omega
 have hs2:∀ w ∈ ws,w.size≤4294967296:=fun w hm => by have:=hsz w (List.mem_cons_of_mem _ hm);omega
 have hsp:strings_Split.f s (⟨#[32]⟩:ByteArray)=some (w0 :: ws):=by rw [← hw];exact if_pos ⟨hs,by decide⟩
 unfold script_Line.f lineV
 rw [hsp]
 simp only [Option.bind_some]
 refine Ev.congr (fun k => if_pos (by simp)) ?_
 show Ev (fun k => if w0.toList=([102,105,108,101]:List UInt8) then script_Line.j0 k (w0 :: ws) (((w0 :: ws).length:Int)==2) else script_Line.j0 k (w0 :: ws) false) _
 by_cases hf:w0.toList=([102,105,108,101]:List UInt8)
 ·refine Ev.congr (fun k => if_pos hf) ?_
  by_cases h1:ws.length=1
  ·obtain ⟨v,rfl⟩:∃ v,ws=[v]:=by
    match ws,h1 with
    | [v],_ => exact ⟨v,rfl⟩
   rw [if_pos ⟨hf,rfl⟩]
   have hx:∃ b o,script_hex.f v=some (b,o):=⟨_,_,if_pos (hs2 v (by simp))⟩
   obtain ⟨b,o,hx⟩:=hx
   refine Ev.step (f:=fun _ => some (hexR w0 (some (b,o)))) (fun k => ?_) (by show Ev _ (hexR w0 (script_hex.f v));rw [hx];exact Ev.now _)
   rw [script_Line.j0,if_pos (by rfl),if_pos (by simp)]
   show (script_hex.f v).bind _=_
   rw [hx,Option.bind_some]
   cases o with
   | true => rw [if_pos rfl,if_pos (by simp)];rfl
   | false => rw [if_neg (by simp)];rfl
  ·rw [if_neg (fun h => h1 h.2)]
   have e:(((w0 :: ws).length:Int)==2)=false:=by
    rw [beq_eq_false_iff_ne,List.length_cons]
    omega
   rw [e]
   exact line_kind w0 ws hlen hs2
 ·refine Ev.congr (fun k => if_neg hf) ?_
  rw [if_neg (fun h => hf h.1)]
  exact line_kind w0 ws hlen hs2
end Go.Proofs.YtpofikjkccljlaaGreatDoor.Px
namespace Go.Proofs.YtpofikjkccljlaaGreatDoor.Px
open Go.Lib
set_option linter.unusedVariables false
set_option linter.unusedSimpArgs false
def valF (n:Nat) (t:List UInt8):Nat:=t.foldl (fun n c => 10 * n + (c.toNat - 48)) n
def IsDig (t:List UInt8):Prop:=∀ c ∈ t,48≤c.toNat∧c.toNat≤57
theorem valF_snoc (n:Nat) (t:List UInt8) (c:UInt8):valF n (t++[c])=10 * valF n t + (c.toNat - 48):=by simp [valF]
theorem valF_dec (u:Nat):valF 0 (decDigits u)=u:=by
 induction u using Nat.strongRecOn with
 | _ u ih =>
  rw [decDigits]
  by_cases h:u < 10
  ·rw [dif_pos h]
   show 10 * 0 + ((UInt8.ofNat (48 + u)).toNat - 48)=u
   rw [digit_nat h];omega
  ·rw [dif_neg h,valF_snoc,ih (u / 10) (by omega),digit_nat (by omega)];omega
theorem valF_ge:∀ (t:List UInt8) (n:Nat),n≤valF n t
 | [],n => Nat.le_refl _
 | c :: t,n => Nat.le_trans (by omega) (valF_ge t (10 * n + (c.toNat - 48)))
theorem valF_pos {c:UInt8} {t:List UInt8} (hd:48≤c.toNat) (h:c ≠ 48):1≤valF 0 (c :: t):=by
 have hc:c.toNat ≠ 48:=fun e => h (UInt8.toNat_inj.1 e)
 refine Nat.le_trans ?_ (valF_ge t (10 * 0 + (c.toNat - 48)))
 omega
theorem dec_valF:∀ (n:Nat) (t:List UInt8),t.length=n→IsDig t→t ≠ []→(t.head?=some 48→t.length=1)→decDigits (valF 0 t)=t
 | 0,t,hn,_,hne,_ => absurd (List.length_eq_zero_iff.1 hn) hne
 | n + 1,t,hn,hd,hne,hz => by
  obtain ⟨r,c,rfl⟩:∃ r c,t=r++[c]:=⟨t.dropLast,t.getLast hne,(List.dropLast_concat_getLast hne).symm⟩
  have hc:=hd c (by simp)
  have hcc:UInt8.ofNat (48 + (c.toNat - 48))=c:=by rw [show 48 + (c.toNat - 48)=c.toNat by omega];exact UInt8.ofNat_toNat
  rw [valF_snoc]
  cases r with
  | nil =>
   rw [show valF 0 []=0 from rfl,decDigits,dif_pos (by omega),Nat.mul_zero,Nat.zero_add,hcc]
   rfl
  | cons b r =>
   have hb:=hd b (by simp)
   have hb0:b ≠ 48:=fun e => by
    have:=hz (by rw [e];rfl)
    simp at this
   have h1:=valF_pos (t:=r) hb.1 hb0
   have ih:=dec_valF n (b :: r) (by simp at hn ⊢;omega) (fun x hx => hd x (List.mem_append_left _ hx)) (by simp) (fun e => absurd (Option.some.inj e) hb0)
   rw [decDigits,dif_neg (by omega),show (10 * valF 0 (b :: r) + (c.toNat - 48)) / 10=valF 0 (b :: r) by omega,ih,show (10 * valF 0 (b :: r) + (c.toNat - 48)) % 10=c.toNat - 48 by omega,hcc]
theorem dec_head (u:Nat) (h:(decDigits u).head?=some 48):u=0:=by
 refine Decidable.byContradiction (fun hu => ?_)
 have hd:=dec_digits u
 have hv:=valF_dec u
 induction u using Nat.strongRecOn with
 | _ u ih =>
  rw [decDigits] at h
  by_cases h10:u < 10
  ·rw [dif_pos h10] at h
   have:=congrArg UInt8.toNat (Option.some.inj h)
   rw [digit_nat h10] at this
   have:u=0:=by simpa using this
   exact hu this
  ·rw [dif_neg h10] at h
   have hne:=dec_ne (u / 10)
   have e1:(decDigits (u / 10)++[UInt8.ofNat (48 + u % 10)]).head?=(decDigits (u / 10)).head?:=by
    cases hq:decDigits (u / 10) with
    | nil => exact absurd hq hne
    | cons c r => rfl
   rw [e1] at h
   exact ih (u / 10) (by omega) h (by omega) (dec_digits _) (valF_dec _)
def refDig (low:Bool) (t:List UInt8):Option Int :=
 if t=[] ∨ 18 < t.length ∨ (t.head?=some 48∧(1 < t.length ∨ low=true)) then none
 else if t.all (fun c => decide (48≤c.toNat∧c.toNat≤57))=true then some (if low=true then -(valF 0 t:Int) else (valF 0 t:Int)) else none
def refNum (s:List UInt8):Option Int:=if s.head?=some 45 then refDig true s.tail else refDig false s
theorem refDig_dec {low:Bool} {u:Nat} (h:u < 1000000000000000000) (hl:low=true→u ≠ 0):refDig low (decDigits u)=some (if low=true then -(u:Int) else (u:Int)):=by
 unfold refDig
 have hlen:=decDigits_length u
 have h18:=(fits_digits u).2 h
 rw [if_neg,if_pos,valF_dec]
 ·rw [List.all_eq_true]
  intro c hc
  exact decide_eq_true (dec_digits u c hc)
 ·rintro (e|e|⟨e,e2⟩)
  ·exact dec_ne u e
  ·omega
  ·have h0:=dec_head u e
   rcases e2 with e2|e2
   ·rw [hlen,h0,nDigits_small (by decide)] at e2
    omega
   ·exact hl e2 h0
theorem refDig_inv {low:Bool} {t:List UInt8} {x:Int} (h:refDig low t=some x):∃ u,t=decDigits u∧u < 1000000000000000000∧(low=true→u ≠ 0)∧x=(if low=true then -(u:Int) else (u:Int)):=by
 unfold refDig at h
 by_cases h1:t=[] ∨ 18 < t.length ∨ (t.head?=some 48∧(1 < t.length ∨ low=true))
 ·rw [if_pos h1] at h;cases h
 ·rw [if_neg h1] at h
  by_cases h2:t.all (fun c => decide (48≤c.toNat∧c.toNat≤57))=true
  ·rw [if_pos h2] at h
   have hd:IsDig t:=fun c hc => of_decide_eq_true (List.all_eq_true.1 h2 c hc)
   have hne:t ≠ []:=fun e => h1 (Or.inl e)
   have hz:t.head?=some 48→t.length=1:=fun e => by
    have h3:¬ 1 < t.length:=fun e2 => h1 (Or.inr (Or.inr ⟨e,Or.inl e2⟩))
    have:t.length ≠ 0:=fun e => hne (List.length_eq_zero_iff.1 e)
    omega
   have hv:=dec_valF t.length t rfl hd hne hz
   refine ⟨valF 0 t,hv.symm,?_,fun hl e => ?_,(Option.some.inj h).symm⟩
   ·rw [← fits_digits,← decDigits_length,hv]
    exact Decidable.byContradiction (fun e => h1 (Or.inr (Or.inl (by omega))))
   ·rw [e] at hv
    refine h1 (Or.inr (Or.inr ⟨?_,Or.inr hl⟩))
    rw [← hv]
    rw [decDigits,dif_pos (by decide)]
    rfl
  ·rw [if_neg h2] at h;cases h
theorem refNum_itoa {x:Int} (h:fit18 x=true):refNum (itoa x)=some x:=by
 have hx:=of_decide_eq_true h
 unfold refNum itoa
 by_cases h0:x < 0
 ·rw [if_pos h0,if_pos (show (45 :: decDigits x.natAbs).head?=some 45 from rfl)]
  show refDig true (decDigits x.natAbs)=_
  rw [refDig_dec (by omega) (fun _ => by omega),if_pos rfl]
  congr 1
  omega
 ·rw [if_neg h0]
  have hn:¬ (decDigits x.toNat).head?=some 45:=fun e => by
   cases hd:decDigits x.toNat with
   | nil => exact dec_ne _ hd
   | cons c r =>
    rw [hd] at e
    have hc:=dec_digits x.toNat c (by rw [hd];exact List.mem_cons_self)
    rw [show c=45 from Option.some.inj e] at hc
    exact absurd hc (by decide)
  rw [if_neg hn,refDig_dec (by omega) (fun e => by cases e),if_neg (by decide)]
  congr 1
  omega
theorem refNum_inv {s:List UInt8} {x:Int} (h:refNum s=some x):s=itoa x∧fit18 x=true:=by
 unfold refNum at h
 by_cases h0:s.head?=some 45
 ·rw [if_pos h0] at h
  obtain ⟨u,h1,h2,h3,h4⟩:=refDig_inv h
  rw [if_pos rfl] at h4
  have hu:=h3 rfl
  refine ⟨?_,?_⟩
  ·cases s with
   | nil => cases h0
   | cons c r =>
    obtain rfl:c=45:=Option.some.inj h0
    unfold itoa
    rw [if_pos (by omega),show x.natAbs=u by omega]
    exact congrArg (List.cons 45) h1
  ·exact decide_eq_true (by omega)
 ·rw [if_neg h0] at h
  obtain ⟨u,h1,h2,_,h4⟩:=refDig_inv h
  rw [if_neg (by decide)] at h4
  refine ⟨?_,decide_eq_true (by omega)⟩
  unfold itoa
  rw [if_neg (by omega),show x.toNat=u by omega]
  exact h1
end Go.Proofs.YtpofikjkccljlaaGreatDoor.Px
namespace Go.Proofs.YtpofikjkccljlaaGreatDoor.Px
open Go.RowKit Go.Proofs.YtpofikjkccljlaaGreatDoorW.PrintWords Go.Proofs.YtpofikjkccljlaaGreatDoorW.PrintLast Go.Proofs.YtpofikjkccljlaaGreatDoorW.PrintMore
set_option linter.unusedVariables false
set_option linter.unusedSimpArgs false
def bA (x:Int):ByteArray:=⟨(Lib.itoa x).toArray⟩
theorem bA_data (x:Int):(bA x).data.toList=Lib.itoa x:=by simp [bA]
theorem bytes_inj {a b:ByteArray} (h:a.data.toList=b.data.toList):a=b:=bytes_inj' h
theorem kindL_spec (s:ByteArray):∀ l:List Int,kindL s l=-1 ∨ (kindL s l ∈ l∧nameV (kindL s l)=s)
 | [] => Or.inl rfl
 | k :: l => by
  unfold kindL
  by_cases h:nameV k=s
  ·rw [if_pos h];exact Or.inr ⟨by simp,h⟩
  ·rw [if_neg h]
   rcases kindL_spec s l with e|e
   ·exact Or.inl e
   ·exact Or.inr ⟨List.mem_cons_of_mem _ e.1,e.2⟩
theorem kindV_spec (s:ByteArray):kindV s=-1 ∨ (0≤kindV s∧kindV s≤7∧nameV (kindV s)=s):=by
 rcases kindL_spec s [0,1,2,3,4,5,6,7] with e|e
 ·exact Or.inl e
 ·refine Or.inr ?_
  have h:=e.1
  simp only [List.mem_cons,List.not_mem_nil,or_false] at h
  exact ⟨by unfold kindV;omega,by unfold kindV;omega,e.2⟩
theorem name_not_m {k:Int} (h0:0≤k) (h7:k≤7):¬ (nameV k).toList=([109,97,99,104,105,110,101,115]:List UInt8):=by
 rw [Lib.toList_data]
 obtain rfl|rfl|rfl|rfl|rfl|rfl|rfl|rfl:k=0 ∨ k=1 ∨ k=2 ∨ k=3 ∨ k=4 ∨ k=5 ∨ k=6 ∨ k=7:=by omega
 all_goals decide +kernel
theorem fit_I64 {x:Int} (h:fit18 x=true):I64 x:=by have:=of_decide_eq_true h;unfold I64;omega
theorem numV_inv {w:ByteArray} (h:(numV w).2=true):w=bA (numV w).1∧fit18 (numV w).1=true:=by
 unfold numV at h ⊢
 split at h
 ·next v hp =>
  simp only [Bool.and_eq_true,beq_iff_eq] at h
  have h2:w.data.toList=Lib.itoa v:=by rw [← Lib.toList_data];exact h.2.symm
  refine ⟨bytes_inj (by rw [bA_data];exact h2),?_⟩
  rw [← fit18_iff]
  have h1:=h.1
  rw [h2] at h1
  exact h1
 ·cases h
 ·cases h
theorem numV_ref (w:ByteArray):refNum w.data.toList=if (numV w).2=true then some (numV w).1 else none:=by
 by_cases h:(numV w).2=true
 ·rw [if_pos h]
  obtain ⟨h1,h2⟩:=numV_inv h
  generalize (numV w).1=x at h1 h2
  rw [h1,bA_data]
  exact refNum_itoa h2
 ·rw [if_neg h]
  cases hr:refNum w.data.toList with
  | none => rfl
  | some x =>
   obtain ⟨h1,h2⟩:=refNum_inv hr
   have hw:w=bA x:=bytes_inj (by rw [bA_data];exact h1)
   have:=numV_itoa (fit_I64 h2)
   refine absurd ?_ h
   rw [hw]
   unfold bA
   rw [this]
   exact h2
end Go.Proofs.YtpofikjkccljlaaGreatDoor.Px
namespace Go.Proofs.YtpofikjkccljlaaGreatDoor.Px
open Go.RowKit Go.Proofs.YtpofikjkccljlaaGreatDoorW.PrintWords Go.Proofs.YtpofikjkccljlaaGreatDoorW.PrintLast Go.Proofs.YtpofikjkccljlaaGreatDoorW.PrintMore
set_option linter.unusedVariables false
set_option linter.unusedSimpArgs false
def wordsFrom (pre t:List UInt8):List (List UInt8):=match wordsOf t with
 | [] => [pre]
 | w :: r => (pre++w) :: r
theorem wordsFrom_blank (pre t:List UInt8):wordsFrom pre (32 :: t)=pre :: wordsOf t:=by
 unfold wordsFrom
 rw [wordsOf.eq_2,if_pos rfl]
 simp
theorem wordsFrom_other (pre t:List UInt8) (c:UInt8) (h:c ≠ 32):wordsFrom pre (c :: t)=wordsFrom (pre++[c]) t:=by
 unfold wordsFrom
 rw [wordsOf.eq_2,if_neg h]
 cases wordsOf t with
 | nil => rfl
 | cons w r => simp
theorem wordsFrom_nil (t:List UInt8):wordsFrom [] t=wordsOf t:=by
 unfold wordsFrom
 cases h:wordsOf t with
 | nil => exact absurd h (words_ne t)
 | cons w r => rfl
theorem extract_list (s:ByteArray) (a b:Nat):(s.extract a b).data.toList=(s.data.toList.take b).drop a:=by
 rw [ByteArray.data_extract,Array.toList_extract,List.extract_eq_drop_take',List.drop_take]
theorem bt_list (s:ByteArray) (i:Nat) (h:i < s.size):bt s (i:Int)=((s.data.toList[i]'(by rw [Array.length_toList];exact h)).toNat:Int):=by
 rw [← bt_at s (i:Int) (by simpa using h)]
 simp [Array.getElem_toList]
 rfl
theorem refwords_loop (s:ByteArray) (hs:s.size≤65536):∀ (n i from_:Nat) (acc:List ByteArray),s.size - i=n→from_≤i→i≤s.size→acc.length≤i →
  ∃ P:List ByteArray,Ev (fun k => understudyref23_words.l0 k s acc (from_:Int) (i:Int)) (acc++P)∧P.map (·.data.toList)=wordsFrom ((s.data.toList.take i).drop from_) (s.data.toList.drop i)
 | 0,i,from_,acc,hn,hf,hi,ha => by
  obtain rfl:i=s.size:=by omega
  refine ⟨[s.extract from_ s.size],?_,?_⟩
  ·refine Ev.step (f:=fun k => understudyref23_words.l0 k s (acc++[s.extract from_ s.size]) ((s.size + 1:Nat):Int) ((s.size + 1:Nat):Int)) (fun k => ?_) ?_
   ·rw [understudyref23_words.l0,if_pos (by omega),if_pos rfl,if_pos (by omega),if_pos (by omega),if_pos (by omega),show wrap64 ((s.size:Int) + 1)=((s.size + 1:Nat):Int) by unfold wrap64;omega]
    rfl
   ·refine Ev.step (f:=fun k => some (acc++[s.extract from_ s.size])) (fun k => ?_) (Ev.now _)
    rw [understudyref23_words.l0,if_neg (by omega)]
  ·have hd:s.data.toList.drop s.size=[]:=List.drop_eq_nil_of_le (by rw [Array.length_toList];exact Nat.le_refl _)
   rw [hd]
   show [(s.extract from_ s.size).data.toList]=[_++[]]
   rw [extract_list,List.append_nil]
 | n + 1,i,from_,acc,hn,hf,hi,ha => by
  have hlt:i < s.size:=by omega
  have hll:i < s.data.toList.length:=by rw [Array.length_toList];exact hlt
  have hdr:=List.drop_eq_getElem_cons hll
  have hb:=bt_list s i hlt
  have hw:wrap64 ((i:Int) + 1)=((i + 1:Nat):Int):=by unfold wrap64;omega
  rw [hdr]
  generalize hc:s.data.toList[i]=c at hb hdr
  by_cases h32:c=32
  ·subst h32
   obtain ⟨P,h1,h2⟩:=refwords_loop s hs n (i + 1) (i + 1) (acc++[s.extract from_ i]) (by omega) (Nat.le_refl _) (by omega) (by simp;omega)
   refine ⟨s.extract from_ i :: P,?_,?_⟩
   ·refine Ev.step (f:=fun k => understudyref23_words.l0 k s (acc++[s.extract from_ i]) ((i + 1:Nat):Int) ((i + 1:Nat):Int)) (fun k => ?_) ?_
    ·rw [understudyref23_words.l0,if_pos (by omega),if_neg (by omega),if_pos (by omega),if_pos (by omega),hb,if_pos (by decide),if_pos (by omega),if_pos (by omega),if_pos (by omega),hw]
     rfl
    ·rw [show acc++s.extract from_ i :: P=(acc++[s.extract from_ i])++P by simp]
     exact h1
   ·rw [wordsFrom_blank,List.map_cons,h2,extract_list]
    rw [show (s.data.toList.take (i + 1)).drop (i + 1)=[] from List.drop_eq_nil_of_le (by rw [List.length_take];omega),wordsFrom_nil]
  ·obtain ⟨P,h1,h2⟩:=refwords_loop s hs n (i + 1) from_ acc (by omega) (by omega) (by omega) (by omega)
   refine ⟨P,?_,?_⟩
   ·refine Ev.step (f:=fun k => understudyref23_words.l0 k s acc (from_:Int) ((i + 1:Nat):Int)) (fun k => ?_) h1
    have hne:¬ ((c.toNat:Int)=32):=fun e => h32 (UInt8.toNat_inj.1 (by show c.toNat=32;omega))
    rw [understudyref23_words.l0,if_pos (by omega),if_neg (by omega),if_pos (by omega),if_pos (by omega),hb,if_neg hne,hw]
   ·rw [wordsFrom_other _ _ _ h32,h2]
    congr 1
    rw [List.take_succ_eq_append_getElem hll,List.drop_append_of_le_length (by rw [List.length_take];omega),hc]
theorem refwords_ev (s:ByteArray) (hs:s.size≤65536):Ev (fun k => understudyref23_words.f k s) (wordsB s):=by
 obtain ⟨P,h1,h2⟩:=refwords_loop s hs s.size 0 0 [] rfl (Nat.le_refl _) (Nat.zero_le _) (Nat.le_refl _)
 have e:P=wordsB s:=by
  refine bytes_map_inj' ?_
  rw [h2,wordsB_data,List.drop_zero]
  exact wordsFrom_nil _
 unfold understudyref23_words.f
 rw [← e]
 exact h1
end Go.Proofs.YtpofikjkccljlaaGreatDoor.Px
namespace Go.Proofs.YtpofikjkccljlaaGreatDoor.Px
open Go.RowKit Go.Lib Go.Proofs.YtpofikjkccljlaaGreatDoorW.PrintWords Go.Proofs.YtpofikjkccljlaaGreatDoorW.PrintLast Go.Proofs.YtpofikjkccljlaaGreatDoorW.PrintMore
set_option linter.unusedVariables false
set_option linter.unusedSimpArgs false
def numR (x:Option Int):Int × Bool:=match x with
 | some v => (v,true)
 | none => (0,false)
def digs (t:List UInt8):Bool:=t.all (fun c => decide (48≤c.toNat∧c.toNat≤57))
theorem wrap_step {a c:Nat} (ha:a < 100000000000000000) (h1:48≤c) (h2:c≤57):wrap64 (wrap64 (10 * (a:Int)) + ((c:Int) - 48) % 256)=((10 * a + (c - 48):Nat):Int):=by
 have e1:wrap64 (10 * (a:Int))=10 * (a:Int):=by unfold wrap64;omega
 have e2:((c:Int) - 48) % 256=(c:Int) - 48:=by omega
 rw [e1,e2]
 unfold wrap64
 omega
theorem pow_step {a i d:Nat} (h:a < 10 ^ i) (hd:d≤9):10 * a + d < 10 ^ (i + 1):=by
 rw [Nat.pow_succ]
 omega
theorem refnum_loop (s:ByteArray) (hs:s.size≤18) (low:Bool):∀ (n i a:Nat),s.size - i=n→i≤s.size→a < 10 ^ i →
  Ev (fun k => understudyref23_number.l0 k s low (a:Int) (i:Int)) (if digs (s.data.toList.drop i)=true then ((if low=true then -(valF a (s.data.toList.drop i):Int) else (valF a (s.data.toList.drop i):Int)),true) else (0,false))
 | 0,i,a,hn,hi,ha => by
  obtain rfl:i=s.size:=by omega
  have hd:s.data.toList.drop s.size=[]:=List.drop_eq_nil_of_le (by rw [Array.length_toList];exact Nat.le_refl _)
  have h18:a < 1000000000000000000:=Nat.lt_of_lt_of_le ha (Nat.pow_le_pow_right (by decide) hs:10 ^ s.size≤10 ^ 18)
  clear ha
  rw [hd,if_pos (show digs []=true from rfl)]
  refine Ev.step (f:=fun k => some ((if low=true then -(a:Int) else (a:Int)),true)) (fun k => ?_) (Ev.now _)
  rw [understudyref23_number.l0,if_neg (by omega)]
  cases low with
  | true => rw [if_pos rfl,if_pos rfl,show wrap64 (-(a:Int))=-(a:Int) by unfold wrap64;omega]
  | false => rw [if_neg (by decide),if_neg (by decide)]
 | n + 1,i,a,hn,hi,ha => by
  have hlt:i < s.size:=by omega
  have hll:i < s.data.toList.length:=by rw [Array.length_toList];exact hlt
  have hdr:=List.drop_eq_getElem_cons hll
  have hb:=bt_list s i hlt
  have h17:a < 100000000000000000:=Nat.lt_of_lt_of_le ha (Nat.pow_le_pow_right (by decide) (by omega):10 ^ i≤10 ^ 17)
  have hw:wrap64 ((i:Int) + 1)=((i + 1:Nat):Int):=by unfold wrap64;omega
  rw [hdr]
  generalize s.data.toList[i]=c at hb
  by_cases h1:c.toNat < 48
  ·rw [if_neg (by unfold digs;simp only [List.all_cons,Bool.and_eq_true,decide_eq_true_eq];omega)]
   refine Ev.step (f:=fun k => some (0,false)) (fun k => ?_) (Ev.now _)
   rw [understudyref23_number.l0,if_pos (by omega),if_pos (by omega),hb,if_pos (by omega)]
  ·by_cases h2:57 < c.toNat
   ·rw [if_neg (by unfold digs;simp only [List.all_cons,Bool.and_eq_true,decide_eq_true_eq];omega)]
    refine Ev.step (f:=fun k => some (0,false)) (fun k => ?_) (Ev.now _)
    rw [understudyref23_number.l0,if_pos (by omega),if_pos (by omega),hb,if_neg (by omega),if_pos (by omega)]
   ·have ih:=refnum_loop s hs low n (i + 1) (10 * a + (c.toNat - 48)) (by omega) (by omega) (pow_step ha (by omega))
    clear ha
    have e1:digs (c :: s.data.toList.drop (i + 1))=digs (s.data.toList.drop (i + 1)):=by
     unfold digs
     rw [List.all_cons,decide_eq_true (show 48≤c.toNat∧c.toNat≤57 by omega),Bool.true_and]
    have e2:valF a (c :: s.data.toList.drop (i + 1))=valF (10 * a + (c.toNat - 48)) (s.data.toList.drop (i + 1)):=rfl
    rw [e1,e2]
    refine Ev.step (fun k => ?_) ih
    rw [understudyref23_number.l0,if_pos (by omega),if_pos (by omega),hb,if_neg (by omega),if_neg (by omega),hw,
     wrap_step h17 (by omega) (by omega)]
theorem refnum_j1 (t:ByteArray) (low:Bool):Ev (fun k => understudyref23_number.j1 k t low) (numR (refDig low t.data.toList)):=by
 have hlen:t.data.toList.length=t.size:=by rw [Array.length_toList];rfl
 have hbad:t.data.toList=[] ∨ 18 < t.data.toList.length ∨ (t.data.toList.head?=some 48∧(1 < t.data.toList.length ∨ low=true))→Ev (fun k => understudyref23_number.j2 k t low true) (numR (refDig low t.data.toList)):=by
  intro h
  unfold refDig
  rw [if_pos h]
  refine Ev.step (f:=fun _ => some (0,false)) (fun k => ?_) (Ev.now _)
  rw [understudyref23_number.j2,if_pos rfl]
 have hgood:¬ (t.data.toList=[] ∨ 18 < t.data.toList.length ∨ (t.data.toList.head?=some 48∧(1 < t.data.toList.length ∨ low=true)))→Ev (fun k => understudyref23_number.j2 k t low false) (numR (refDig low t.data.toList)):=by
  intro h
  unfold refDig
  rw [if_neg h]
  refine Ev.step (f:=fun k => understudyref23_number.l0 k t low 0 0) (fun k => ?_) ?_
  ·rw [understudyref23_number.j2,if_neg (by decide)]
  ·have hl:=refnum_loop t (by rw [← hlen];exact Decidable.byContradiction (fun e => h (Or.inr (Or.inl (by omega))))) low t.size 0 0 rfl (Nat.zero_le _) (by decide)
   rw [List.drop_zero] at hl
   by_cases hd:digs t.data.toList=true
   ·rw [if_pos hd] at hl
    rw [if_pos (show (t.data.toList.all (fun c => decide (48≤c.toNat∧c.toNat≤57)))=true from hd)]
    exact hl
   ·rw [if_neg hd] at hl
    rw [if_neg (show ¬ (t.data.toList.all (fun c => decide (48≤c.toNat∧c.toNat≤57)))=true from hd)]
    exact hl
 by_cases h0:t.toList=([]:List UInt8)
 ·refine Ev.step (fun k => ?_) (hbad (Or.inl (by rw [← Lib.toList_data];exact h0)))
  rw [understudyref23_number.j1,if_pos h0]
 ·have h0':t.data.toList ≠ []:=by rw [← Lib.toList_data];exact h0
  by_cases h1:18 < t.size
  ·refine Ev.step (fun k => ?_) (hbad (Or.inr (Or.inl (by omega))))
   rw [understudyref23_number.j1,if_neg h0,if_pos (by omega)]
  ·have hpos:0 < t.size:=by
    have:t.data.toList.length ≠ 0:=fun e => h0' (List.length_eq_zero_iff.1 e)
    omega
   have hb:=bt_list t 0 hpos
   have hhd:t.data.toList.head?=some (t.data.toList[0]'(by omega)):=by
    rw [List.head?_eq_getElem?,List.getElem?_eq_getElem (by omega)]
   rw [show ((0:Nat):Int)=0 from rfl] at hb
   generalize t.data.toList[0]'(by omega)=c at hb hhd
   by_cases h2:c=48
   ·subst h2
    have hb48:bt t 0=48:=hb
    by_cases h3:1 < t.size
    ·refine Ev.step (fun k => ?_) (hbad (Or.inr (Or.inr ⟨hhd,Or.inl (by omega)⟩)))
     rw [understudyref23_number.j1,if_neg h0,if_neg (by omega),if_pos (by omega),if_pos hb48,if_pos (by omega)]
    ·cases low with
     | true =>
      refine Ev.step (fun k => ?_) (hbad (Or.inr (Or.inr ⟨hhd,Or.inr rfl⟩)))
      rw [understudyref23_number.j1,if_neg h0,if_neg (by omega),if_pos (by omega),if_pos hb48,if_neg (by omega)]
     | false =>
      refine Ev.step (fun k => ?_) (hgood (by rintro (e|e|⟨_,e|e⟩);exact h0' e;omega;omega;cases e))
      rw [understudyref23_number.j1,if_neg h0,if_neg (by omega),if_pos (by omega),if_pos hb48,if_neg (by omega)]
   ·have hne:¬ bt t 0=48:=fun e => h2 (UInt8.toNat_inj.1 (by show c.toNat=48;omega))
    refine Ev.step (fun k => ?_) (hgood (by
     rintro (e|e|⟨e,_⟩)
     ·exact h0' e
     ·omega
     ·rw [hhd] at e;exact h2 (Option.some.inj e)))
    rw [understudyref23_number.j1,if_neg h0,if_neg (by omega),if_pos (by omega),if_neg hne]
theorem refnum_ev (s:ByteArray):Ev (fun k => understudyref23_number.f k s) (numR (refNum s.data.toList)):=by
 have hlen:s.data.toList.length=s.size:=by rw [Array.length_toList];rfl
 unfold understudyref23_number.f refNum
 have hno:∀ t:ByteArray,Ev (fun k => understudyref23_number.j0 k t false) (numR (refDig false t.data.toList)):=fun t => by
  refine Ev.step (fun k => ?_) (refnum_j1 t false)
  rw [understudyref23_number.j0,if_neg (by decide)]
 by_cases h0:0 < s.size
 ·have hb:=bt_list s 0 h0
  have hhd:s.data.toList.head?=some (s.data.toList[0]'(by omega)):=by
   rw [List.head?_eq_getElem?,List.getElem?_eq_getElem (by omega)]
  rw [show ((0:Nat):Int)=0 from rfl] at hb
  generalize s.data.toList[0]'(by omega)=c at hb hhd
  refine Ev.congr (fun k => (if_pos (by omega)).trans (if_pos (by omega))) ?_
  by_cases h1:c=45
  ·subst h1
   rw [show (bt s 0==45)=true by rw [hb];rfl,if_pos hhd]
   have ht:(s.extract 1 s.size).data.toList=s.data.toList.tail:=by
    rw [extract_list,List.take_of_length_le (by omega),List.drop_one]
   refine Ev.step (f:=fun k => understudyref23_number.j1 k (s.extract 1 s.size) true) (fun k => ?_) ?_
   ·rw [understudyref23_number.j0,if_pos rfl,if_pos (by omega)]
   ·rw [← ht]
    exact refnum_j1 _ true
  ·have hne:(bt s 0==45)=false:=by
    rw [beq_eq_false_iff_ne]
    exact fun e => h1 (UInt8.toNat_inj.1 (by show c.toNat=45;omega))
   rw [hne,if_neg (fun e => by rw [hhd] at e;exact h1 (Option.some.inj e))]
   exact hno s
 ·refine Ev.congr (fun k => if_neg (by omega)) ?_
  have hn:s.data.toList=[]:=List.length_eq_zero_iff.1 (by omega)
  rw [if_neg (by rw [hn];simp)]
  exact hno s
end Go.Proofs.YtpofikjkccljlaaGreatDoor.Px
namespace Go.Proofs.YtpofikjkccljlaaGreatDoor.Px
open Go.Lib
set_option linter.unusedVariables false
set_option linter.unusedSimpArgs false
def digV (c:UInt8):Int:=if 48≤c.toNat∧c.toNat≤57 then (c.toNat:Int) - 48 else if 97≤c.toNat∧c.toNat≤102 then (c.toNat:Int) - 97 + 10 else -1
theorem hexN_dig (c:UInt8) (h:c.toNat < 128):hexN (c.toNat:Int)=digV c:=by
 have e:∀ a:Fin 128,hexN ((a.val:Nat):Int)=digV (UInt8.ofNat a.val):=by decide +kernel
 have:=e ⟨c.toNat,h⟩
 simpa using this
theorem decode_big (s:ByteArray) (pos:Nat) (h:pos < s.size) (hb:128≤(s[pos]'h).toNat):128≤(Utf8.decode s pos).1:=by
 have e:s.get! pos=s[pos]'h:=by simp [ByteArray.get!,getElem!_pos,h];rfl
 rw [decode_at,e]
 rcases decodeN_shape (s.size - pos) (s[pos]'h).toNat (s.get! (pos + 1)).toNat (s.get! (pos + 2)).toNat (s.get! (pos + 3)).toNat with q|q|q|q|q
 ·omega
 ·rw [q.2.2.2.2];exact q.2.2.2.1
 ·rw [q.2.2.2.2.2.2];show 128≤_;omega
 ·rw [q.2.2.2.2.2.2.2];show 128≤_;omega
 ·rw [q];show 128≤65533;decide
def hexP:List UInt8→List Int→Int→Option (List Int × Int)
 | [],out,high => some (out,high)
 | c :: t,out,high => if digV c < 0 then none else if high < 0 then hexP t out (digV c) else hexP t (out++[(16 * high + digV c) % 256]) (-1)
theorem digV_big {c:UInt8} (h:128≤c.toNat):digV c=-1:=by unfold digV;rw [if_neg (by omega),if_neg (by omega)]
theorem digV_le (c:UInt8):-1≤digV c∧digV c≤15:=by unfold digV;repeat' split <;> omega
theorem hexL_hexP (s:ByteArray):∀ (fuel pos:Nat) (out:List Int) (high:Int),s.size≤pos + fuel→pos≤s.size→hexL s fuel pos out high=hexP (s.data.toList.drop pos) out high
 | 0,pos,out,high,h1,h2 => by
  rw [List.drop_eq_nil_of_le (by show s.data.toList.length≤pos;rw [Array.length_toList];have:s.data.size=s.size:=rfl;omega)]
  rfl
 | fuel + 1,pos,out,high,h1,h2 => by
  rw [hexL.eq_2]
  by_cases hp:pos < s.size
  ·have hl:pos < s.data.toList.length:=by rw [Array.length_toList];exact hp
   have hc:s.data.toList[pos]=s[pos]'hp:=by rw [Array.getElem_toList];rfl
   rw [if_pos hp,List.drop_eq_getElem_cons hl,hexP,hc]
   by_cases ha:(s[pos]'hp).toNat < 128
   ·rw [decode_ascii s pos hp ha]
    show (if hexN ((s[pos]'hp).toNat:Int) < 0 then none else if high < 0 then hexL s fuel (pos + 1) out (hexN ((s[pos]'hp).toNat:Int)) else hexL s fuel (pos + 1) (out++[(16 * high + hexN ((s[pos]'hp).toNat:Int)) % 256]) (-1))=_
    rw [hexN_dig _ ha,hexL_hexP s fuel (pos + 1) _ _ (by omega) (by omega),hexL_hexP s fuel (pos + 1) _ _ (by omega) (by omega)]
   ·have hb:=decode_big s pos hp (by omega)
    have hn:hexN ((Utf8.decode s pos).1:Int)=-1:=if_neg (by omega)
    rw [hn,if_pos (by decide),digV_big (by omega),if_pos (by decide)]
  ·rw [if_neg hp,List.drop_eq_nil_of_le (by rw [Array.length_toList];have:s.data.size=s.size:=rfl;omega)]
   rfl
def pairs:List UInt8→Option (List Int)
 | [] => some []
 | [_] => none
 | x :: y :: t => if digV x < 0 ∨ digV y < 0 then none else (pairs t).map (fun l => (16 * digV x + digV y) :: l)
theorem hexP_pairs:∀ (n:Nat) (t:List UInt8) (out:List Int),t.length≤n→(match hexP t out (-1) with|some (o,h) => if h < 0 then some o else none|none => none)=(pairs t).map (fun l => out++l)
 | _,[],out,_ => by simp [hexP,pairs]
 | _,[c],out,_ => by
  unfold hexP pairs
  by_cases h:digV c < 0
  ·rw [if_pos h];rfl
  ·rw [if_neg h,if_pos (by decide)]
   show (if digV c < 0 then _ else none)=none
   rw [if_neg h]
 | 0,_ :: _ :: _,_,h => by simp at h
 | n + 1,x :: y :: t,out,h => by
  rw [hexP,pairs]
  by_cases hx:digV x < 0
  ·rw [if_pos hx,if_pos (Or.inl hx)];rfl
  ·rw [if_neg hx,if_pos (by decide),hexP]
   by_cases hy:digV y < 0
   ·rw [if_pos hy,if_pos (Or.inr hy)];rfl
   ·have h1:=digV_le x
    have h2:=digV_le y
    rw [if_neg hy,if_neg hx,if_neg (by omega),hexP_pairs n t _ (by simp at h;omega),show (16 * digV x + digV y) % 256=16 * digV x + digV y by omega]
    cases pairs t with
    | none => rfl
    | some l => simp
def refBytes (s:List UInt8):Option (List Int):=if s.head?=some 61 then pairs s.tail else none
theorem hex_ref (a0:ByteArray) (hs:a0.size≤4294967296):∃ b o,script_hex.f a0=some (b,o)∧refBytes a0.data.toList=if o=true then some b else none:=by
 refine ⟨_,_,if_pos hs,?_⟩
 have ht:(⟨(trimPrefix a0.data.toList (⟨#[61]⟩:ByteArray).data.toList).toArray⟩:ByteArray).data.toList=trimPrefix a0.data.toList [61]:=by simp
 have hL:=hexL_hexP ⟨(trimPrefix a0.data.toList (⟨#[61]⟩:ByteArray).data.toList).toArray⟩ (⟨(trimPrefix a0.data.toList (⟨#[61]⟩:ByteArray).data.toList).toArray⟩:ByteArray).size 0 [] (-1) (by omega) (Nat.zero_le _)
 rw [hL,List.drop_zero,ht]
 show refBytes a0.data.toList=if (hexO (hasPrefix a0.data.toList [61]) (hexP (trimPrefix a0.data.toList [61]) [] (-1))).2=true then some (hexO (hasPrefix a0.data.toList [61]) (hexP (trimPrefix a0.data.toList [61]) [] (-1))).1 else none
 unfold refBytes
 have hp:=hexP_pairs (trimPrefix a0.data.toList [61]).length (trimPrefix a0.data.toList [61]) [] (Nat.le_refl _)
 by_cases h0:a0.data.toList.head?=some 61
 ·have hpre:hasPrefix a0.data.toList [61]=true:=by
   cases hq:a0.data.toList with
   | nil => rw [hq] at h0;cases h0
   | cons c r => rw [hq] at h0;rw [show c=61 from Option.some.inj h0];simp [hasPrefix,List.isPrefixOf]
  have htr:trimPrefix a0.data.toList [61]=a0.data.toList.tail:=by unfold trimPrefix;rw [if_pos hpre];simp
  rw [if_pos h0,hpre,htr]
  rw [htr] at hp
  cases hh:hexP a0.data.toList.tail [] (-1) with
  | none =>
   rw [hh] at hp
   show _=none
   cases hpr:pairs a0.data.toList.tail with
   | none => rfl
   | some l => rw [hpr] at hp;cases hp
  | some z =>
   obtain ⟨o,hi⟩:=z
   rw [hh] at hp
   show _=if (true && decide (hi < 0))=true then some o else none
   by_cases hz:hi < 0
   ·rw [if_pos (by simp [hz])]
    have hp':some o=(pairs a0.data.toList.tail).map (fun l => []++l):=by rw [← hp];exact (if_pos hz).symm
    cases hpr:pairs a0.data.toList.tail with
    | none => rw [hpr] at hp';cases hp'
    | some l => rw [hpr] at hp';exact hp'.symm
   ·rw [if_neg (by simp [hz])]
    have hp':none=(pairs a0.data.toList.tail).map (fun l => []++l):=by rw [← hp];exact (if_neg hz).symm
    cases hpr:pairs a0.data.toList.tail with
    | none => rfl
    | some l => rw [hpr] at hp';cases hp'
 ·have hpre:hasPrefix a0.data.toList [61]=false:=by
   cases hq:a0.data.toList with
   | nil => rfl
   | cons c r =>
    rw [hq] at h0
    have hc:¬ (61:UInt8)=c:=fun e => h0 (by rw [← e];rfl)
    simp [hasPrefix,List.isPrefixOf,hc]
  rw [if_neg h0,hpre]
  cases hexP (trimPrefix a0.data.toList [61]) [] (-1) with
  | none => rfl
  | some z => rfl
end Go.Proofs.YtpofikjkccljlaaGreatDoor.Px
namespace Go.Proofs.YtpofikjkccljlaaGreatDoor.Px
open Go.RowKit Go.Lib Go.Proofs.YtpofikjkccljlaaGreatDoorW.PrintWords Go.Proofs.YtpofikjkccljlaaGreatDoorW.PrintLast Go.Proofs.YtpofikjkccljlaaGreatDoorW.PrintMore
set_option linter.unusedVariables false
set_option linter.unusedSimpArgs false
theorem digit_ev (c:UInt8):Ev (fun k => understudyref23_digit.f k (c.toNat:Int)) (digV c):=by
 have hj:∀ b:Bool,(b=true→c.toNat≤57∧48≤c.toNat)→(b=false→c.toNat < 48 ∨ 57 < c.toNat)→Ev (fun k => understudyref23_digit.j0 k (c.toNat:Int) b) (digV c):=by
  intro b h1 h2
  cases b with
  | true =>
   have:=h1 rfl
   refine Ev.step (f:=fun _ => some (digV c)) (fun k => ?_) (Ev.now _)
   rw [understudyref23_digit.j0,if_pos rfl]
   unfold digV
   rw [if_pos (show 48≤c.toNat∧c.toNat≤57 by omega)]
   congr 1
   omega
  | false =>
   have:=h2 rfl
   refine Ev.step (f:=fun _ => some (digV c)) (fun k => ?_) (Ev.now _)
   rw [understudyref23_digit.j0,if_neg (by decide)]
   unfold digV
   rw [if_neg (show ¬ (48≤c.toNat∧c.toNat≤57) by omega)]
   by_cases h3:(c.toNat:Int) ≥ 97
   ·rw [if_pos h3]
    by_cases h4:(c.toNat:Int)≤102
    ·rw [if_pos h4,if_pos (show 97≤c.toNat∧c.toNat≤102 by omega)]
     congr 1
     omega
    ·rw [if_neg h4,if_neg (show ¬ (97≤c.toNat∧c.toNat≤102) by omega)]
   ·rw [if_neg h3,if_neg (show ¬ (97≤c.toNat∧c.toNat≤102) by omega)]
 unfold understudyref23_digit.f
 by_cases h:(c.toNat:Int) ≥ 48
 ·refine Ev.congr (fun k => if_pos h) (hj _ (fun e => ?_) (fun e => ?_))
  ·have:=of_decide_eq_true e;omega
  ·have:=of_decide_eq_false e;omega
 ·exact Ev.congr (fun k => if_neg h) (hj false (fun e => by cases e) (fun _ => by omega))
end Go.Proofs.YtpofikjkccljlaaGreatDoor.Px
namespace Go.Proofs.YtpofikjkccljlaaGreatDoor.Px
open Go.RowKit Go.Lib Go.Proofs.YtpofikjkccljlaaGreatDoorW.PrintWords Go.Proofs.YtpofikjkccljlaaGreatDoorW.PrintLast Go.Proofs.YtpofikjkccljlaaGreatDoorW.PrintMore
set_option linter.unusedVariables false
set_option linter.unusedSimpArgs false
def pairO (acc:List Int) (x:Option (List Int)):List Int × Bool:=match x with
 | some l => (acc++l,true)
 | none => ([],false)
theorem digV_le' (c:UInt8):-1≤digV c∧digV c≤15:=by unfold digV;repeat' split <;> omega
theorem refbytes_loop (s:ByteArray) (hs:s.size≤65536):∀ (n i:Nat) (acc:List Int),s.size=i + 2 * n→acc.length≤i →
  Ev (fun k => understudyref23_bytes.l0 k s acc (i:Int)) (pairO acc (pairs (s.data.toList.drop i)))
 | 0,i,acc,hn,ha => by
  have hd:s.data.toList.drop i=[]:=List.drop_eq_nil_of_le (by rw [Array.length_toList];have:s.data.size=s.size:=rfl;omega)
  rw [hd]
  refine Ev.step (f:=fun _ => some (acc,true)) (fun k => ?_) (by show Ev _ (acc++[],true);rw [List.append_nil];exact Ev.now _)
  rw [understudyref23_bytes.l0,if_neg (by omega)]
 | n + 1,i,acc,hn,ha => by
  have hlen:s.data.toList.length=s.size:=by rw [Array.length_toList];rfl
  have h1:i < s.data.toList.length:=by omega
  have h2:i + 1 < s.data.toList.length:=by omega
  have hb1:=bt_list s i (by omega)
  have hb2:=bt_list s (i + 1) (by omega)
  have hw:wrap64 ((i:Int) + 1)=((i + 1:Nat):Int):=by unfold wrap64;omega
  have hw2:wrap64 ((i:Int) + 2)=((i + 2:Nat):Int):=by unfold wrap64;omega
  rw [List.drop_eq_getElem_cons h1,List.drop_eq_getElem_cons h2,pairs]
  generalize s.data.toList[i]=c at hb1
  generalize s.data.toList[i + 1]=d at hb2
  have hc:=digV_le' c
  have hd:=digV_le' d
  refine Ev.step (fun k => by rw [understudyref23_bytes.l0,if_pos (by omega),if_pos (by omega),hb1,hw,hb2,hw2]) ?_
  refine Ev.bind (digit_ev c) ?_
  refine Ev.congr (fun k => (if_pos (by omega)).trans (if_pos (by omega))) ?_
  refine Ev.bind (digit_ev d) ?_
  by_cases e1:digV c < 0
  ·rw [if_pos (show digV c < 0 ∨ digV d < 0 from Or.inl e1)]
   exact Ev.congr (fun k => if_pos e1) (Ev.now _)
  ·by_cases e2:digV d < 0
   ·rw [if_pos (show digV c < 0 ∨ digV d < 0 from Or.inr e2)]
    exact Ev.congr (fun k => (if_neg e1).trans (if_pos e2)) (Ev.now _)
   ·rw [if_neg (show ¬ (digV c < 0 ∨ digV d < 0) by omega)]
    have hv:wrap64 (wrap64 (16 * digV c) + digV d) % 256=16 * digV c + digV d:=by
     have e3:wrap64 (16 * digV c)=16 * digV c:=by unfold wrap64;omega
     rw [e3]
     have e4:wrap64 (16 * digV c + digV d)=16 * digV c + digV d:=by unfold wrap64;omega
     rw [e4]
     omega
    have ih:=refbytes_loop s hs n (i + 2) (acc++[16 * digV c + digV d]) (by omega) (by simp;omega)
    have e:pairO acc ((pairs (s.data.toList.drop (i + 1 + 1))).map (fun l => (16 * digV c + digV d) :: l))=pairO (acc++[16 * digV c + digV d]) (pairs (s.data.toList.drop (i + 2))):=by
     show pairO acc ((pairs (s.data.toList.drop (i + 2))).map (fun l => (16 * digV c + digV d) :: l))=_
     cases pairs (s.data.toList.drop (i + 2)) with
     | none => rfl
     | some l => simp [pairO]
    rw [e]
    refine Ev.congr (fun k => (if_neg e1).trans ((if_neg e2).trans (if_pos (by omega)))) ?_
    rw [hv]
    exact ih
theorem pairs_odd:∀ (n:Nat) (t:List UInt8),t.length=2 * n + 1→pairs t=none
 | 0,[x],_ => rfl
 | 0,[],h => by simp at h
 | 0,_ :: _ :: _,h => by simp at h
 | n + 1,[],h => by simp at h
 | n + 1,[_],h => by simp at h
 | n + 1,x :: y :: t,h => by
  rw [pairs,pairs_odd n t (by simp at h;omega)]
  split <;> rfl
theorem refbytes_ev (s:ByteArray) (hs:s.size≤65536):Ev (fun k => understudyref23_bytes.f k s) (pairO [] (refBytes s.data.toList)):=by
 have hlen:s.data.toList.length=s.size:=by rw [Array.length_toList];rfl
 have hbad:Ev (fun k => understudyref23_bytes.j0 k s true) ([],false):=by
  refine Ev.step (f:=fun _ => some ([],false)) (fun k => ?_) (Ev.now _)
  rw [understudyref23_bytes.j0,if_pos rfl]
 unfold understudyref23_bytes.f refBytes
 by_cases h1:((s.size:Int) % 2)=1
 ·refine Ev.congr (fun k => (if_pos h1).trans (if_pos (by omega))) ?_
  have hb:=bt_list s 0 (by omega)
  have hhd:s.data.toList.head?=some (s.data.toList[0]'(by omega)):=by
   rw [List.head?_eq_getElem?,List.getElem?_eq_getElem (by omega)]
  rw [show ((0:Nat):Int)=0 from rfl] at hb
  generalize s.data.toList[0]'(by omega)=c at hb hhd
  by_cases h2:c=61
  ·subst h2
   rw [if_pos hhd,show (bt s 0 != 61)=false by rw [hb];rfl]
   refine Ev.step (f:=fun k => understudyref23_bytes.l0 k s [] ((1:Nat):Int)) (fun k => ?_) ?_
   ·rw [understudyref23_bytes.j0,if_neg (by decide)]
    rfl
   ·have hl:=refbytes_loop s hs ((s.size - 1) / 2) 1 [] (by omega) (Nat.zero_le _)
    rw [List.drop_one] at hl
    exact hl
  ·rw [if_neg (fun e => by rw [hhd] at e;exact h2 (Option.some.inj e)),show (bt s 0 != 61)=true by
    rw [bne_iff_ne]
    exact fun e => h2 (UInt8.toNat_inj.1 (by show c.toNat=61;omega))]
   exact hbad
 ·refine Ev.congr (fun k => if_neg h1) ?_
  by_cases h2:s.data.toList.head?=some 61
  ·rw [if_pos h2]
   have hne:s.size ≠ 0:=fun e => by
    rw [List.length_eq_zero_iff.1 (hlen.trans e)] at h2
    cases h2
   rw [pairs_odd ((s.size - 2) / 2) s.data.toList.tail (by rw [List.length_tail,hlen];omega)]
   exact hbad
  ·rw [if_neg h2]
   exact hbad
end Go.Proofs.YtpofikjkccljlaaGreatDoor.Px
namespace Go.Proofs.YtpofikjkccljlaaGreatDoor.Px
open Go.RowKit Go.Lib Go.Proofs.YtpofikjkccljlaaGreatDoorW.PrintWords Go.Proofs.YtpofikjkccljlaaGreatDoorW.PrintLast Go.Proofs.YtpofikjkccljlaaGreatDoorW.PrintMore
set_option linter.unusedVariables false
set_option linter.unusedSimpArgs false
def manyK (x:Int):Int:=if x ≥ 0 then manyV x else -1
def manyR (w:ByteArray):Int:=if w.toList=([109,97,99,104,105,110,101,115]:List UInt8) then 1 else manyK (kindV w)
theorem refmany_loop (w:ByteArray) (L:List ByteArray) (hL:L.length=8) (hN:∀ i:Nat,i < 8→rdOf ByteArray.empty L (i:Int)=nameV (i:Int)):∀ (n i:Nat),8 - i=n→i≤8 →
  Ev (fun k => understudyref23_many.l0 k w L ([3,2,2,1,1,1,1,1]:List Int) (i:Int)) (manyK (kindL w (([0,1,2,3,4,5,6,7]:List Int).drop i)))
 | 0,i,hn,hi => by
  obtain rfl:i=8:=by omega
  refine Ev.step (f:=fun _ => some (-1)) (fun k => ?_) (Ev.now _)
  rw [understudyref23_many.l0,hL,if_neg (by omega)]
 | n + 1,i,hn,hi => by
  have hlt:i < 8:=by omega
  have hd:([0,1,2,3,4,5,6,7]:List Int).drop i=(i:Int) :: ([0,1,2,3,4,5,6,7]:List Int).drop (i + 1):=by
   obtain rfl|rfl|rfl|rfl|rfl|rfl|rfl|rfl:i=0 ∨ i=1 ∨ i=2 ∨ i=3 ∨ i=4 ∨ i=5 ∨ i=6 ∨ i=7:=by omega
   all_goals rfl
  have hr:rd ([3,2,2,1,1,1,1,1]:List Int) (i:Int)=manyV (i:Int):=by
   obtain rfl|rfl|rfl|rfl|rfl|rfl|rfl|rfl:i=0 ∨ i=1 ∨ i=2 ∨ i=3 ∨ i=4 ∨ i=5 ∨ i=6 ∨ i=7:=by omega
   all_goals rfl
  have hw:wrap64 ((i:Int) + 1)=((i + 1:Nat):Int):=by unfold wrap64;omega
  rw [hd,kindL]
  by_cases h:nameV (i:Int)=w
  ·rw [if_pos h]
   refine Ev.step (f:=fun _ => some (manyK (i:Int))) (fun k => ?_) (Ev.now _)
   rw [understudyref23_many.l0,hL,if_pos (by omega),if_pos (by omega),hN i hlt,if_pos (by rw [h]),if_pos (show (i:Int) < (([3,2,2,1,1,1,1,1]:List Int).length:Int) by show (i:Int) < 8;omega),hr]
   unfold manyK
   rw [if_pos (by omega)]
  ·rw [if_neg h]
   have hne:¬ (nameV (i:Int)).toList=w.toList:=fun e => h (bytes_inj' (by rw [← Lib.toList_data,← Lib.toList_data];exact e))
   refine Ev.step (fun k => ?_) (refmany_loop w L hL hN n (i + 1) (by omega) (by omega))
   rw [understudyref23_many.l0,hL,if_pos (by omega),if_pos (by omega),hN i hlt,if_neg hne,hw]
theorem refmany_ev (w:ByteArray):Ev (fun k => understudyref23_many.f k w) (manyR w):=by
 unfold understudyref23_many.f manyR
 by_cases h:w.toList=([109,97,99,104,105,110,101,115]:List UInt8)
 ·rw [if_pos h]
  exact Ev.congr (fun k => if_pos h) (Ev.now _)
 ·rw [if_neg h]
  refine Ev.congr (fun k => if_neg h) ?_
  unfold understudyref23_names.f
  simp only [Option.bind_some]
  exact refmany_loop w _ rfl (fun i hi => by
   obtain rfl|rfl|rfl|rfl|rfl|rfl|rfl|rfl:i=0 ∨ i=1 ∨ i=2 ∨ i=3 ∨ i=4 ∨ i=5 ∨ i=6 ∨ i=7:=by omega
   all_goals rfl) 8 0 rfl (by omega)
end Go.Proofs.YtpofikjkccljlaaGreatDoor.Px
namespace Go.Proofs.YtpofikjkccljlaaGreatDoor.Px
open Go.RowKit Go.Lib Go.Proofs.YtpofikjkccljlaaGreatDoorW.PrintWords Go.Proofs.YtpofikjkccljlaaGreatDoorW.PrintLast Go.Proofs.YtpofikjkccljlaaGreatDoorW.PrintMore
set_option linter.unusedVariables false
set_option linter.unusedSimpArgs false
theorem refline_loop (w0:ByteArray) (ws:List ByteArray) (hl:ws.length≤65536):∀ (n i:Nat) (acc:List Int),ws.length - i=n→i≤ws.length→acc.length≤i →
  Ev (fun k => understudyref23_Line.l0 k (w0 :: ws) acc ((i + 1:Nat):Int)) (numO w0 acc (numsV (ws.drop i)))
 | 0,i,acc,hn,hi,ha => by
  refine Ev.step (f:=fun _ => some (w0,[],acc,0)) (fun k => ?_) ?_
  ·rw [understudyref23_Line.l0,if_neg (by simp only [List.length_cons];omega),if_pos (by simp)]
   rfl
  ·rw [List.drop_eq_nil_of_le (by omega)]
   show Ev _ (w0,[],acc++[],0)
   rw [List.append_nil]
   exact Ev.now _
 | n + 1,i,acc,hn,hi,ha => by
  obtain ⟨w,r,hd⟩:∃ w r,ws.drop i=w :: r:=by
   cases hd:ws.drop i with
   | nil => have:=congrArg List.length hd;simp at this;omega
   | cons w r => exact ⟨w,r,rfl⟩
  have hw:rdOf ByteArray.empty (w0 :: ws) ((i + 1:Nat):Int)=w:=by
   unfold rdOf
   rw [Int.toNat_natCast,List.getD_cons_succ,List.getD_eq_getElem?_getD,← List.head?_drop,hd]
   rfl
  have hr:ws.drop (i + 1)=r:=by have h:=congrArg List.tail hd;rw [List.tail_drop] at h;exact h
  have hwr:wrap64 (((i + 1:Nat):Int) + 1)=((i + 1 + 1:Nat):Int):=by unfold wrap64;omega
  rw [hd]
  have hnum:=refnum_ev w
  rw [numV_ref] at hnum
  refine Ev.step (fun k => by rw [understudyref23_Line.l0,if_pos (by simp only [List.length_cons];omega),if_pos (by omega),hw]) ?_
  refine Ev.bind hnum ?_
  by_cases ho:(numV w).2=true
  ·rw [if_pos ho]
   have ih:=refline_loop w0 ws hl n (i + 1) (acc++[(numV w).1]) (by omega) (by omega) (by simp;omega)
   rw [hr] at ih
   have e:numO w0 acc (numsV (w :: r))=numO w0 (acc++[(numV w).1]) (numsV r):=by
    rw [numsV,if_pos ho]
    cases numsV r with
    | none => rfl
    | some l => show (w0,[],acc++(numV w).1 :: l,0)=_;unfold numO;simp
   rw [e]
   refine Ev.congr (fun k => ?_) ih
   show (if true=true then _ else _)=_
   rw [if_pos rfl,if_pos (by omega),hwr]
   rfl
  ·rw [if_neg ho,numsV,if_neg ho]
   exact Ev.congr (f:=fun _ => some errL) (fun k => if_neg (by decide)) (Ev.now _)
theorem refline_kind (w0:ByteArray) (ws:List ByteArray) (hl:ws.length≤65536):Ev (fun k => understudyref23_Line.j0 k (w0 :: ws) false) (lineK w0 ws):=by
 have hwr:wrap64 (((w0 :: ws).length:Int) - 1)=(ws.length:Int):=by rw [List.length_cons];unfold wrap64;omega
 refine Ev.step (fun k => by rw [understudyref23_Line.j0,if_neg (by decide),if_pos (by simp)]) ?_
 refine Ev.bind (refmany_ev w0) ?_
 rw [hwr]
 unfold lineK manyR manyK
 have hgo:∀ m:Int,Ev (fun k => if m=(ws.length:Int) then understudyref23_Line.l0 k (w0 :: ws) [] 1 else some ((⟨#[]⟩:ByteArray),([]:List Int),([]:List Int),(4:Int))) (if (ws.length:Int) ≠ m then errL else numO w0 [] (numsV ws)):=by
  intro m
  by_cases hm:m=(ws.length:Int)
  ·rw [if_neg (fun h => h hm.symm)]
   have h:=refline_loop w0 ws hl _ 0 [] rfl (Nat.zero_le _) (Nat.le_refl _)
   exact Ev.congr (fun k => if_pos hm) h
  ·rw [if_pos (fun h => hm h.symm)]
   exact Ev.congr (fun k => if_neg hm) (Ev.now _)
 by_cases hma:w0.toList=([109,97,99,104,105,110,101,115]:List UInt8)
 ·have hk:¬ kindV w0 ≥ 0:=by
   rcases kindV_spec w0 with e|⟨e0,e7,e⟩
   ·omega
   ·exact fun _ => name_not_m e0 e7 (by rw [e];exact hma)
  rw [if_pos hma,if_neg (fun h => h.2 hma),if_neg hk]
  exact hgo 1
 ·rw [if_neg hma]
  by_cases hk:kindV w0 ≥ 0
  ·rw [if_pos hk,if_neg (show ¬ (kindV w0 < 0∧¬ w0.toList=([109,97,99,104,105,110,101,115]:List UInt8)) from fun h => by omega),if_pos hk]
   exact hgo _
  ·rw [if_neg hk,if_pos ⟨by omega,hma⟩]
   exact Ev.congr (fun k => if_neg (by omega)) (Ev.now _)
theorem refline_ev (s:ByteArray) (hs:s.size≤65536) (w0:ByteArray) (ws:List ByteArray) (hw:wordsB s=w0 :: ws):Ev (fun k => understudyref23_Line.f k s) (lineV w0 ws):=by
 have hsz:∀ w ∈ w0 :: ws,w.size≤s.size:=by
  intro w hm
  rw [← hw] at hm
  have h1:w.data.toList ∈ wordsOf s.data.toList:=by rw [← wordsB_data];exact List.mem_map_of_mem hm
  have h2:=words_len _ _ h1
  simpa using h2
 have hlen:ws.length≤65536:=by
  have h1:=Lib.splitB_length_le ⟨#[32]⟩ 0 (Lib.countB s ⟨#[32]⟩) s
  have h2:=Lib.countB_le ⟨#[32]⟩ (by decide) s.size s (Nat.le_refl _)
  have h3:(wordsB s).length≤Lib.countB s ⟨#[32]⟩ + 1:=h1
  rw [hw] at h3
  simp only [List.length_cons] at h3
  omega
 have h0:=refwords_ev s hs
 rw [hw] at h0
 unfold understudyref23_Line.f lineV
 refine Ev.bind h0 ?_
 refine Ev.congr (fun k => if_pos (by simp)) ?_
 show Ev (fun k => if w0.toList=([102,105,108,101]:List UInt8) then understudyref23_Line.j0 k (w0 :: ws) (((w0 :: ws).length:Int)==2) else understudyref23_Line.j0 k (w0 :: ws) false) _
 by_cases hf:w0.toList=([102,105,108,101]:List UInt8)
 ·refine Ev.congr (fun k => if_pos hf) ?_
  by_cases h1:ws.length=1
  ·obtain ⟨v,rfl⟩:∃ v,ws=[v]:=by
    match ws,h1 with
    | [v],_ => exact ⟨v,rfl⟩
   rw [if_pos ⟨hf,rfl⟩]
   have hv:v.size≤65536:=by have:=hsz v (by simp);omega
   obtain ⟨b,o,hx,hr⟩:=hex_ref v (by omega)
   have hB:=refbytes_ev v hv
   rw [hr] at hB
   refine Ev.step (fun k => by rw [understudyref23_Line.j0,if_pos (by rfl),if_pos (by simp)]) ?_
   refine Ev.bind (f:=fun k bt162 => (if bt162.2=true then (if 0 < (([w0,v]:List ByteArray).length:Int) then (some (rdOf ByteArray.empty [w0,v] 0,bt162.1,([]:List Int),(0:Int))) else (none)) else (some ((⟨#[]⟩:ByteArray),([]:List Int),([]:List Int),4)))) hB ?_
   show Ev _ (hexR w0 (script_hex.f v))
   rw [hx]
   cases o with
   | true => exact Ev.congr (f:=fun _ => some (w0,b,[],0)) (fun k => rfl) (Ev.now _)
   | false => exact Ev.congr (f:=fun _ => some errL) (fun k => rfl) (Ev.now _)
  ·rw [if_neg (fun h => h1 h.2)]
   have e:(((w0 :: ws).length:Int)==2)=false:=by
    rw [beq_eq_false_iff_ne,List.length_cons]
    omega
   rw [e]
   exact refline_kind w0 ws hlen
 ·refine Ev.congr (fun k => if_neg hf) ?_
  rw [if_neg (fun h => hf h.1)]
  exact refline_kind w0 ws hlen
end Go.Proofs.YtpofikjkccljlaaGreatDoor.Px
namespace Go.Proofs.YtpofikjkccljlaaGreatDoor.Px
open Go.RowKit Go.Lib Go.Proofs.YtpofikjkccljlaaGreatDoorW.PrintWords Go.Proofs.YtpofikjkccljlaaGreatDoorW.PrintLast Go.Proofs.YtpofikjkccljlaaGreatDoorW.PrintMore
set_option linter.unusedVariables false
set_option linter.unusedSimpArgs false
def actS (k:Int) (l:List Int):Int × Int × Int × Int:=(k,rd l 0,if k=0 then rd l 1 else 0,if k≤2 then rd l ((l.length:Int) - 1) else 0)
def actB (x:Int × Int × Int × Int) (b:Bool):Int × Int × Int × Int × Bool:=(x.1,x.2.1,x.2.2.1,x.2.2.2,b)
def actE (x:Int × Int × Int × Int):Int × Int × Int × Int × Int:=(x.1,x.2.1,x.2.2.1,x.2.2.2,0)
def actK (k:Int) (l:List Int):Int × Int × Int × Int × Bool:=if k ≥ 0 then actB (actS k l) true else (0,0,0,0,false)
theorem refact_loop (w:ByteArray) (l:List Int) (L:List ByteArray) (hL:L.length=8) (hN:∀ i:Nat,i < 8→rdOf ByteArray.empty L (i:Int)=nameV (i:Int)) (h1:1≤l.length) (h3:l.length≤3):∀ (n i:Nat),8 - i=n→i≤8→(kindL w (([0,1,2,3,4,5,6,7]:List Int).drop i) ≥ 0→(l.length:Int)=manyV (kindL w (([0,1,2,3,4,5,6,7]:List Int).drop i))) →
  Ev (fun k => understudyref23_act.l0 k w l L (i:Int)) (actK (kindL w (([0,1,2,3,4,5,6,7]:List Int).drop i)) l)
 | 0,i,hn,hi,hm => by
  obtain rfl:i=8:=by omega
  refine Ev.step (f:=fun _ => some (0,0,0,0,false)) (fun k => ?_) (Ev.now _)
  rw [understudyref23_act.l0,hL,if_neg (by omega)]
 | n + 1,i,hn,hi,hm => by
  have hlt:i < 8:=by omega
  have hd:([0,1,2,3,4,5,6,7]:List Int).drop i=(i:Int) :: ([0,1,2,3,4,5,6,7]:List Int).drop (i + 1):=by
   obtain rfl|rfl|rfl|rfl|rfl|rfl|rfl|rfl:i=0 ∨ i=1 ∨ i=2 ∨ i=3 ∨ i=4 ∨ i=5 ∨ i=6 ∨ i=7:=by omega
   all_goals rfl
  have hw:wrap64 ((i:Int) + 1)=((i + 1:Nat):Int):=by unfold wrap64;omega
  rw [hd,kindL] at hm ⊢
  by_cases h:nameV (i:Int)=w
  ·rw [if_pos h] at hm ⊢
   have hml:=hm (by omega)
   have hwl:wrap64 ((l.length:Int) - 1)=(l.length:Int) - 1:=by unfold wrap64;omega
   refine Ev.step (f:=fun _ => some (actK (i:Int) l)) (fun k => ?_) (Ev.now _)
   rw [understudyref23_act.l0,hL,if_pos (by omega),if_pos (by omega),hN i hlt,if_pos (by rw [h]),if_pos (show 0 < (l.length:Int) by omega),hwl]
   unfold actK actB actS
   rw [if_pos (show (i:Int) ≥ 0 by omega)]
   by_cases h0:(i:Int)=0
   ·have hl3:(l.length:Int)=3:=by rw [hml,h0];rfl
    rw [if_pos h0,if_pos (show 1 < (l.length:Int) by omega),if_pos (show (i:Int)≤2 by omega),if_pos (show 0≤(l.length:Int) - 1 by omega),if_pos (show (l.length:Int) - 1 < (l.length:Int) by omega)]
    simp only [h0,if_true,show (0:Int)≤2 from by decide]
   ·rw [if_neg h0]
    by_cases h2:(i:Int)≤2
    ·rw [if_pos h2,if_pos (show 0≤(l.length:Int) - 1 by omega),if_pos (show (l.length:Int) - 1 < (l.length:Int) by omega)]
     simp only [h0,h2,if_true,if_false]
    ·rw [if_neg h2]
     simp only [h0,h2,if_false]
  ·rw [if_neg h] at hm ⊢
   have hne:¬ (nameV (i:Int)).toList=w.toList:=fun e => h (bytes_inj' (by rw [← Lib.toList_data,← Lib.toList_data];exact e))
   refine Ev.step (fun k => ?_) (refact_loop w l L hL hN h1 h3 n (i + 1) (by omega) (by omega) hm)
   rw [understudyref23_act.l0,hL,if_pos (by omega),if_pos (by omega),hN i hlt,if_neg hne,hw]
theorem refact_ev (w:ByteArray) (l:List Int) (hk:kindV w ≥ 0) (hm:(l.length:Int)=manyV (kindV w)):Ev (fun k => understudyref23_act.f k w l) (actB (actS (kindV w) l) true):=by
 have hb:=many_le (kindV w)
 unfold understudyref23_act.f understudyref23_names.f
 simp only [Option.bind_some]
 have e:actK (kindV w) l=actB (actS (kindV w) l) true:=if_pos hk
 rw [← e]
 exact refact_loop w l _ rfl (fun i hi => by
   obtain rfl|rfl|rfl|rfl|rfl|rfl|rfl|rfl:i=0 ∨ i=1 ∨ i=2 ∨ i=3 ∨ i=4 ∨ i=5 ∨ i=6 ∨ i=7:=by omega
   all_goals rfl) (by omega) (by omega) 8 0 rfl (by omega) (fun _ => hm)
theorem act_ev (w:ByteArray) (l:List Int) (hk:kindV w ≥ 0) (h7:kindV w≤7) (hm:(l.length:Int)=manyV (kindV w)):script_act.f w l=some (actE (actS (kindV w) l)):=by
 unfold script_act.f
 show (some (kindV w)).bind _=_
 rw [Option.bind_some]
 generalize kindV w=k at hk h7 hm
 unfold manyV at hm
 by_cases k0:k=0
 ·subst k0
  rw [if_pos rfl] at hm
  rw [if_pos hm,if_pos (by omega),if_pos (by omega),if_neg (by omega),if_pos (by omega)]
  unfold actE actS
  rw [if_pos rfl,if_pos (by decide),hm]
  rfl
 ·rw [if_neg k0] at hm
  by_cases k1:k=1 ∨ k=2
  ·rw [if_pos k1] at hm
   rw [if_neg (by omega),if_pos hm,if_pos (by omega),if_neg (by omega),if_pos (by omega)]
   unfold actE actS
   rw [if_neg k0,if_pos (by omega),hm]
   rfl
  ·rw [if_neg k1] at hm
   rw [if_neg (by omega),if_neg (by omega),if_neg (by omega),if_pos (by omega)]
   unfold actE actS
   rw [if_neg k0,if_neg (by omega)]
end Go.Proofs.YtpofikjkccljlaaGreatDoor.Px
namespace Go.Proofs.YtpofikjkccljlaaGreatDoor.Px
open Go.RowKit Go.Lib Go.Proofs.YtpofikjkccljlaaGreatDoorW.PrintWords Go.Proofs.YtpofikjkccljlaaGreatDoorW.PrintLast Go.Proofs.YtpofikjkccljlaaGreatDoorW.PrintMore
set_option linter.unusedVariables false
set_option linter.unusedSimpArgs false
abbrev ParseT := List (List Int) × Int × List Act_ × Int × Int
def badP (l e : Int) : ParseT := ([], 0, [], l, e)
def lineS (t : ByteArray) : LineR := match wordsB t with
  | [] => errL
  | w0 :: ws => lineV w0 ws
def mkA (x : Int × Int × Int × Int) : Act_ := ⟨x.1, x.2.1, x.2.2.1, x.2.2.2⟩
def specL : List ByteArray → Int → List (List Int) → Int → List Act_ → ParseT
  | [], _, fs, n, as_ => (fs, n, as_, 0, 0)
  | t :: r, i, fs, n, as_ =>
    if skipT t = true then specL r (i + 1) fs n as_ else
    if (lineS t).2.2.2 = 0 then
      (if (lineS t).1.toList = ([102, 105, 108, 101] : List UInt8) then specL r (i + 1) (fs ++ [(lineS t).2.1]) n as_
       else if (lineS t).1.toList = ([109, 97, 99, 104, 105, 110, 101, 115] : List UInt8) then
        (if rd (lineS t).2.2.1 0 < -2147483648 then badP (i + 1) 4 else if rd (lineS t).2.2.1 0 > 2147483647 then badP (i + 1) 4 else specL r (i + 1) fs (rd (lineS t).2.2.1 0) as_)
       else specL r (i + 1) fs n (as_ ++ [mkA (actS (kindV (lineS t).1) (lineS t).2.2.1)]))
    else badP (i + 1) 4
theorem numsV_len : ∀ (ws : List ByteArray) (l : List Int), numsV ws = some l → l.length = ws.length
  | [], l, h => by obtain rfl := Option.some.inj h; rfl
  | w :: r, l, h => by
    rw [numsV] at h
    by_cases ho : (numV w).2 = true
    · rw [if_pos ho] at h
      obtain ⟨m, hm, rfl⟩ := Option.map_eq_some_iff.1 h
      simp [numsV_len r m hm]
    · rw [if_neg ho] at h; cases h
theorem line_facts (t : ByteArray) : (lineS t).2.2.2 = 4 ∨ ((lineS t).2.2.2 = 0 ∧ ((lineS t).1.toList = ([102, 105, 108, 101] : List UInt8) ∨ ((lineS t).1.toList = ([109, 97, 99, 104, 105, 110, 101, 115] : List UInt8) ∧ (lineS t).2.2.1.length = 1) ∨ (kindV (lineS t).1 ≥ 0 ∧ kindV (lineS t).1 ≤ 7 ∧ ((lineS t).2.2.1.length : Int) = manyV (kindV (lineS t).1)))) := by
  unfold lineS
  cases hw : wordsB t with
  | nil => exact Or.inl rfl
  | cons w0 ws =>
    show (lineV w0 ws).2.2.2 = 4 ∨ _
    unfold lineV
    by_cases hf : w0.toList = ([102, 105, 108, 101] : List UInt8) ∧ ws.length = 1
    · simp only [if_pos hf]
      unfold hexR
      split
      · exact Or.inr ⟨rfl, Or.inl hf.1⟩
      · exact Or.inl rfl
    · simp only [if_neg hf]
      unfold lineK
      by_cases hn1 : kindV w0 < 0 ∧ ¬ w0.toList = ([109, 97, 99, 104, 105, 110, 101, 115] : List UInt8)
      · simp only [if_pos hn1]
        exact Or.inl rfl
      · simp only [if_neg hn1]
        by_cases hn2 : (ws.length : Int) ≠ (if kindV w0 ≥ 0 then manyV (kindV w0) else 1)
        · simp only [if_pos hn2]
          exact Or.inl rfl
        · simp only [if_neg hn2]
          cases hnv : numsV ws with
          | none => exact Or.inl rfl
          | some l =>
            have hl : l.length = ws.length := numsV_len ws l hnv
            refine Or.inr ⟨rfl, ?_⟩
            show w0.toList = _ ∨ (w0.toList = _ ∧ ([] ++ l).length = 1) ∨ _
            rw [List.nil_append]
            have hn2 := Decidable.not_not.1 hn2
            by_cases hk : kindV w0 ≥ 0
            · rw [if_pos hk] at hn2
              refine Or.inr (Or.inr ⟨hk, ?_, by show (([] ++ l).length : Int) = _; rw [List.nil_append, hl]; exact hn2⟩)
              rcases kindV_spec w0 with e | e
              · omega
              · exact e.2.1
            · rw [if_neg hk] at hn2
              refine Or.inr (Or.inl ⟨?_, by omega⟩)
              exact Decidable.byContradiction (fun h => hn1 ⟨by omega, h⟩)
end Go.Proofs.YtpofikjkccljlaaGreatDoor.Px
namespace Go.Proofs.YtpofikjkccljlaaGreatDoor.Px
open Go.RowKit Go.Lib Go.Proofs.YtpofikjkccljlaaGreatDoorW.PrintWords Go.Proofs.YtpofikjkccljlaaGreatDoorW.PrintLast Go.Proofs.YtpofikjkccljlaaGreatDoorW.PrintMore
set_option linter.unusedVariables false
set_option linter.unusedSimpArgs false
theorem line_size (t:ByteArray) (ht:t.size≤65536):Ev (fun k => understudyref23_Line.f k t) (lineS t):=by
 unfold lineS
 cases hw:wordsB t with
 | nil =>
  have h1:=wordsB_data t
  rw [hw] at h1
  exact absurd h1.symm (words_ne _)
 | cons w0 ws => exact refline_ev t ht w0 ws hw
theorem refparse_j2 (s t:ByteArray) (ht:t.size≤65536) (r:List ByteArray) (i at_:Nat) (hi:i≤65536) (hat:at_≤i)
  (ih:∀ (fs:List (List Int)) (n:Int) (as_:List Act_),fs.length≤at_ + 1→as_.length≤at_ + 1→Ev (fun k => understudyref23_Parse.l0 k s fs as_ n ((i + 1:Nat):Int) ((at_ + 1:Nat):Int) ((i + 1:Nat):Int)) (specL r ((at_ + 1:Nat):Int) fs n as_))
  (fs:List (List Int)) (n:Int) (as_:List Act_) (hf:fs.length≤at_) (ha:as_.length≤at_) :
  Ev (fun k => understudyref23_Parse.j2 k s fs as_ n ((i + 1:Nat):Int) ((at_ + 1:Nat):Int) (i:Int) t (skipT t)) (specL (t :: r) (at_:Int) fs n as_):=by
 have hw:wrap64 ((i:Int) + 1)=((i + 1:Nat):Int):=by unfold wrap64;omega
 have hc:((at_:Int) + 1)=((at_ + 1:Nat):Int):=by omega
 rw [specL,hc]
 by_cases hs:skipT t=true
 ·rw [if_pos hs,hs]
  refine Ev.step (fun k => ?_) (ih fs n as_ (by omega) (by omega))
  rw [understudyref23_Parse.j2,if_pos rfl,hw]
 ·rw [if_neg hs,Bool.eq_false_iff.2 hs]
  refine Ev.step (fun k => by rw [understudyref23_Parse.j2,if_neg (by decide),hw]) ?_
  refine Ev.bind (line_size t ht) ?_
  rcases line_facts t with h4|⟨h0,hk⟩
  ·rw [if_neg (by rw [h4];decide)]
   exact Ev.congr (f:=fun _ => some (badP ((at_ + 1:Nat):Int) 4)) (fun k => if_neg (by rw [h4];decide)) (Ev.now _)
  ·rw [if_pos h0]
   refine Ev.congr (fun k => if_pos h0) ?_
   by_cases hfile:(lineS t).1.toList=([102,105,108,101]:List UInt8)
   ·rw [if_pos hfile]
    exact Ev.congr (fun k => (if_pos hfile).trans (if_pos (by omega))) (ih _ n as_ (by simp;omega) (by omega))
   ·rw [if_neg hfile]
    refine Ev.congr (fun k => if_neg hfile) ?_
    by_cases hm:(lineS t).1.toList=([109,97,99,104,105,110,101,115]:List UInt8)
    ·rw [if_pos hm]
     have hl:(lineS t).2.2.1.length=1:=by
      rcases hk with e|e|e
      ·exact absurd e hfile
      ·exact e.2
      ·rcases kindV_spec (lineS t).1 with e1|⟨e0,e7,e1⟩
       ·omega
       ·exact absurd (by rw [e1];exact hm) (name_not_m e0 e7)
     refine Ev.congr (fun k => (if_pos hm).trans (if_pos (by omega))) ?_
     by_cases h1:rd (lineS t).2.2.1 0 < -2147483648
     ·rw [if_pos h1]
      exact Ev.congr (f:=fun _ => some (badP ((at_ + 1:Nat):Int) 4)) (fun k => if_pos h1) (Ev.now _)
     ·rw [if_neg h1]
      refine Ev.congr (fun k => if_neg h1) ?_
      by_cases h2:rd (lineS t).2.2.1 0 > 2147483647
      ·rw [if_pos h2]
       exact Ev.congr (f:=fun _ => some (badP ((at_ + 1:Nat):Int) 4)) (fun k => if_pos h2) (Ev.now _)
      ·rw [if_neg h2]
       exact Ev.congr (fun k => if_neg h2) (ih fs _ as_ (by omega) (by omega))
    ·rw [if_neg hm]
     refine Ev.congr (fun k => if_neg hm) ?_
     have hk:kindV (lineS t).1 ≥ 0∧kindV (lineS t).1≤7∧((lineS t).2.2.1.length:Int)=manyV (kindV (lineS t).1):=by
      rcases hk with e|e|e
      ·exact absurd e hfile
      ·exact absurd e.1 hm
      ·exact e
     refine Ev.bind (refact_ev _ _ hk.1 hk.2.2) ?_
     exact Ev.congr (fun k => if_pos (by omega)) (ih fs n _ (by omega) (by simp;omega))
def mkB (l:List UInt8):ByteArray:=⟨l.toArray⟩
def linesF (s:ByteArray) (from_:Nat):List ByteArray:=if from_≤s.size then (linesOf (s.data.toList.drop from_)).map mkB else []
theorem lines_at (l:List UInt8) (a i:Nat) (h:a≤i) (hi:i≤l.length) (hn:∀ j,a≤j→j < i→l[j]? ≠ some 10) (he:i=l.length ∨ l[i]?=some 10) :
  linesOf (l.drop a)=(l.take i).drop a :: (if i < l.length then linesOf (l.drop (i + 1)) else []):=by
 have hno:10 ∉ (l.take i).drop a:=fun hm => by
  obtain ⟨j,hj,e⟩:=List.getElem_of_mem hm
  have e2:((l.take i).drop a)[j]?=some 10:=by rw [List.getElem?_eq_getElem hj,e]
  rw [List.getElem?_drop] at e2
  rw [List.length_drop,List.length_take] at hj
  rw [List.getElem?_take_of_lt (by omega)] at e2
  exact hn (a + j) (by omega) (by omega) e2
 have hsp:l.drop a=(l.take i).drop a++l.drop i:=by
  conv => lhs;rw [← List.take_append_drop i l]
  rw [List.drop_append_of_le_length (by rw [List.length_take];omega)]
 rw [hsp]
 by_cases hlt:i < l.length
 ·rw [if_pos hlt]
  have h10:l[i]?=some 10:=by
   rcases he with e|e
   ·omega
   ·exact e
  have:l.drop i=10 :: l.drop (i + 1):=by
   rw [List.drop_eq_getElem_cons hlt]
   rw [List.getElem?_eq_getElem hlt] at h10
   rw [Option.some.inj h10]
  rw [this,lines_app _ _ hno]
 ·rw [if_neg hlt,show l.drop i=[] from List.drop_eq_nil_of_le (by omega),List.append_nil,lines_none _ hno]
theorem linesF_at (s:ByteArray) (a i:Nat) (h:a≤i) (hi:i≤s.size) (hn:∀ j,a≤j→j < i→s.data.toList[j]? ≠ some 10) (he:i=s.size ∨ s.data.toList[i]?=some 10) :
  linesF s a=s.extract a i :: linesF s (i + 1):=by
 have hlen:s.data.toList.length=s.size:=by rw [Array.length_toList];rfl
 unfold linesF
 rw [if_pos (by omega),lines_at _ a i h (by omega) hn (by rcases he with e|e;exact Or.inl (by omega);exact Or.inr e),List.map_cons]
 have e1:mkB ((s.data.toList.take i).drop a)=s.extract a i:=bytes_inj' (by rw [extract_list];rfl)
 rw [e1]
 by_cases hlt:i < s.size
 ·rw [if_pos (by omega),if_pos (by omega)]
 ·rw [if_neg (by omega),if_neg (by omega)]
  rfl
theorem wrap_one {i:Nat} (h:i≤65536):wrap64 ((i:Int) + 1)=((i + 1:Nat):Int):=by unfold wrap64;omega
theorem refparse_loop (s:ByteArray) (hs:s.size≤65536):∀ (m i a:Nat) (fs:List (List Int)) (n:Int) (as_:List Act_) (at_:Nat),s.size + 1 - i=m→a≤i→i≤s.size + 1→(i=s.size + 1→a=s.size + 1)→(∀ j,a≤j→j < i→s.data.toList[j]? ≠ some 10)→fs.length≤at_→as_.length≤at_→at_≤i →
  Ev (fun k => understudyref23_Parse.l0 k s fs as_ n (a:Int) (at_:Int) (i:Int)) (specL (linesF s a) (at_:Int) fs n as_)
 | 0,i,a,fs,n,as_,at_,hm,h1,h2,h3,hn,hf,ha,hat => by
  have hi:i=s.size + 1:=by omega
  have hl:linesF s a=[]:=by unfold linesF;rw [if_neg (by have:=h3 hi;omega)]
  rw [hl]
  refine Ev.step (f:=fun _ => some (fs,n,as_,0,0)) (fun k => ?_) (Ev.now _)
  rw [understudyref23_Parse.l0,if_neg (by omega)]
 | m + 1,i,a,fs,n,as_,at_,hm,h1,h2,h3,hn,hf,ha,hat => by
  have hlen:s.data.toList.length=s.size:=by rw [Array.length_toList];rfl
  have hile:i≤s.size:=by omega
  have hi1:at_ + 1≤i + 1:=by omega
  have hi2:s.size + 1 - (i + 1)=m:=by omega
  have hi3:i + 1≤s.size + 1:=by omega
  have hi4:i≤65536:=by omega
  have hi5:at_≤65536:=by omega
  have hcut:(i=s.size ∨ s.data.toList[i]?=some 10)→Ev (fun k => understudyref23_Parse.j1 k s fs as_ n (a:Int) (at_:Int) (i:Int) false) (specL (linesF s a) (at_:Int) fs n as_):=by
   intro he
   rw [linesF_at s a i h1 hile hn he]
   have hts:(s.extract a i).size≤65536:=by rw [ByteArray.size_extract];omega
   have hj2:=refparse_j2 s (s.extract a i) hts (linesF s (i + 1)) i at_ hi4 hat (fun fs n as_ hf ha => refparse_loop s hs m (i + 1) (i + 1) fs n as_ (at_ + 1) hi2 (Nat.le_refl _) hi3 (fun h => h) (fun j g1 g2 => absurd g1 (Nat.not_le_of_lt g2)) hf ha hi1) fs n as_ hf ha
   refine Ev.step (f:=fun k => understudyref23_Parse.j2 k s fs as_ n ((i + 1:Nat):Int) ((at_ + 1:Nat):Int) (i:Int) (s.extract a i) (skipT (s.extract a i))) (fun k => ?_) hj2
   rw [understudyref23_Parse.j1,if_neg (by decide),if_pos (by omega),if_pos (by omega),if_pos (by omega),wrap_one hi4,wrap_one hi5]
   simp only [Int.toNat_natCast]
   unfold skipT
   by_cases hem:(s.extract a i).toList=([]:List UInt8)
   ·rw [if_pos hem,if_pos hem]
   ·rw [if_neg hem,if_neg hem,if_pos]
    have hne:(s.extract a i).data.toList ≠ []:=by rw [← Lib.toList_data];exact hem
    have h0:(s.extract a i).data.toList.length=(s.extract a i).size:=by rw [Array.length_toList];rfl
    have:(s.extract a i).data.toList.length ≠ 0:=fun e => hne (List.length_eq_zero_iff.1 e)
    omega
  by_cases hlt:i < s.size
  ·have hb:=bt_list s i hlt
   have hget:s.data.toList[i]?=some (s.data.toList[i]'(by omega)):=List.getElem?_eq_getElem (by omega)
   generalize s.data.toList[i]'(by omega)=c at hb hget
   by_cases h10:c=10
   ·subst h10
    refine Ev.step (fun k => ?_) (hcut (Or.inr hget))
    rw [understudyref23_Parse.l0,if_pos (by omega),if_pos (by omega),if_pos (by omega),show (bt s (i:Int) != 10)=false by rw [hb];rfl]
   ·have hb10:(bt s (i:Int) != 10)=true:=by
     rw [bne_iff_ne]
     exact fun e => h10 (UInt8.toNat_inj.1 (by show c.toNat=10;omega))
    refine Ev.step (f:=fun k => understudyref23_Parse.j1 k s fs as_ n (a:Int) (at_:Int) (i:Int) true) (fun k => ?_) ?_
    ·rw [understudyref23_Parse.l0,if_pos (by omega),if_pos (by omega),if_pos (by omega),hb10]
    ·refine Ev.step (fun k => ?_) (refparse_loop s hs m (i + 1) a fs n as_ at_ (by omega) (by omega) (by omega) (fun h => by omega) (fun j g1 g2 => ?_) hf ha (by omega))
     ·rw [understudyref23_Parse.j1,if_pos rfl,wrap_one hi4]
     ·by_cases hj:j=i
      ·subst hj
       rw [hget]
       exact fun e => h10 (Option.some.inj e)
      ·exact hn j g1 (by omega)
  ·refine Ev.step (fun k => ?_) (hcut (Or.inl (by omega)))
   rw [understudyref23_Parse.l0,if_pos (by omega),if_neg (by omega)]
theorem linesB_F (s:ByteArray):linesB s=linesF s 0:=by
 refine bytes_map_inj' ?_
 rw [linesB_data]
 unfold linesF
 rw [if_pos (Nat.zero_le _),List.map_map,List.drop_zero]
 have e:((fun x:ByteArray => x.data.toList) ∘ mkB)=id:=by funext l;simp [mkB]
 rw [e,List.map_id]
def specP (s:ByteArray):ParseT:=if (s.size:Int) > 65536 then badP 0 2 else specL (linesB s) 0 [] 3 []
theorem refparse_ev (s:ByteArray):Ev (fun k => understudyref23_Parse.f k s) (specP s):=by
 unfold understudyref23_Parse.f specP
 by_cases h:(s.size:Int) > 65536
 ·rw [if_pos h]
  exact Ev.congr (f:=fun _ => some (badP 0 2)) (fun k => if_pos h) (Ev.now _)
 ·rw [if_neg h]
  refine Ev.congr (fun k => if_neg h) ?_
  rw [linesB_F]
  exact refparse_loop s (by omega) (s.size + 1) 0 0 [] 3 [] 0 rfl (Nat.le_refl _) (Nat.zero_le _) (fun e => by omega) (fun j g1 g2 => absurd g2 (by omega)) (Nat.le_refl _) (Nat.le_refl _) (Nat.le_refl _)
end Go.Proofs.YtpofikjkccljlaaGreatDoor.Px
namespace Go.Proofs.YtpofikjkccljlaaGreatDoor.Px
open Go.RowKit Go.Lib Go.Proofs.YtpofikjkccljlaaGreatDoorW.PrintWords Go.Proofs.YtpofikjkccljlaaGreatDoorW.PrintLast Go.Proofs.YtpofikjkccljlaaGreatDoorW.PrintMore
set_option linter.unusedVariables false
set_option linter.unusedSimpArgs false
theorem line_own (t:ByteArray) (ht:t.size≤65536):Ev (fun k => script_Line.f k t) (lineS t):=by
 unfold lineS
 cases hw:wordsB t with
 | nil =>
  have h1:=wordsB_data t
  rw [hw] at h1
  exact absurd h1.symm (words_ne _)
 | cons w0 ws => exact line_ev t (by omega) w0 ws hw
theorem wrap32_in {y:Int}:wrap32 y=y ↔ (-2147483648≤y∧y≤2147483647):=by unfold wrap32;omega
theorem read_loop:∀ (r:List ByteArray) (i:Nat) (fs:List (List Int)) (n:Int) (as_:List Act_),(∀ t ∈ r,t.size≤65536)→fs.length≤i→as_.length≤i→i + r.length≤65537 →
  Ev (fun k => (script_read.l0 k r (i:Int) fs n as_).bind fun r => some (outR r)) (specL r (i:Int) fs n as_)
 | [],i,fs,n,as_,_,_,_,_ => Ev.congr (fun k => by rw [script_read.l0];rfl) (Ev.now (fs,n,as_,0,0))
 | t :: r,i,fs,n,as_,hs,hf,ha,hl => by
  have hc:((i:Int) + 1)=((i + 1:Nat):Int):=by omega
  have hlr:i + 1 + r.length≤65537:=by rw [List.length_cons] at hl;omega
  have hi:i≤65536:=by omega
  have hsr:∀ t ∈ r,t.size≤65536:=fun u hu => hs u (List.mem_cons_of_mem _ hu)
  have ht:=hs t List.mem_cons_self
  rw [specL,hc]
  refine Ev.congr (fun k => by rw [script_read.l0,hc]) ?_
  by_cases hk:skipT t=true
  ·rw [if_pos hk]
   exact Ev.congr (fun k => by rw [if_pos hk]) (read_loop r (i + 1) fs n as_ hsr (by omega) (by omega) hlr)
  ·rw [if_neg hk]
   refine Ev.congr (fun k => by rw [if_neg hk,Option.bind_assoc]) ?_
   refine Ev.bind (line_own t ht) ?_
   rcases line_facts t with h4|⟨h0,hkk⟩
   ·rw [if_neg (by rw [h4];decide)]
    refine Ev.congr (f:=fun _ => some (badP ((i + 1:Nat):Int) 4)) (fun k => ?_) (Ev.now _)
    rw [if_neg (by rw [h4];decide),h4]
    rfl
   ·rw [if_pos h0]
    refine Ev.congr (fun k => by rw [if_pos h0]) ?_
    by_cases hfile:(lineS t).1.toList=([102,105,108,101]:List UInt8)
    ·rw [if_pos hfile]
     exact Ev.congr (fun k => by rw [if_pos hfile,if_pos (by omega)]) (read_loop r (i + 1) _ n as_ hsr (by simp;omega) (by omega) hlr)
    ·rw [if_neg hfile]
     by_cases hm:(lineS t).1.toList=([109,97,99,104,105,110,101,115]:List UInt8)
     ·rw [if_pos hm]
      have hl1:(lineS t).2.2.1.length=1:=by
       rcases hkk with e|e|e
       ·exact absurd e hfile
       ·exact e.2
       ·rcases kindV_spec (lineS t).1 with e1|⟨e0,e7,e1⟩
        ·omega
        ·exact absurd (by rw [e1];exact hm) (name_not_m e0 e7)
      refine Ev.congr (fun k => by rw [if_neg hfile,if_pos hm,if_pos (by omega)]) ?_
      by_cases h1:rd (lineS t).2.2.1 0 < -2147483648
      ·rw [if_pos h1]
       refine Ev.congr (f:=fun _ => some (badP ((i + 1:Nat):Int) 4)) (fun k => ?_) (Ev.now _)
       rw [if_neg (fun e => by have:=wrap32_in.1 e;omega)]
       rfl
      ·rw [if_neg h1]
       by_cases h2:rd (lineS t).2.2.1 0 > 2147483647
       ·rw [if_pos h2]
        refine Ev.congr (f:=fun _ => some (badP ((i + 1:Nat):Int) 4)) (fun k => ?_) (Ev.now _)
        rw [if_neg (fun e => by have:=wrap32_in.1 e;omega)]
        rfl
       ·rw [if_neg h2]
        exact Ev.congr (fun k => by rw [if_pos (wrap32_in.2 (by omega))]) (read_loop r (i + 1) fs _ as_ hsr (by omega) (by omega) hlr)
     ·rw [if_neg hm]
      have hkk:kindV (lineS t).1 ≥ 0∧kindV (lineS t).1≤7∧((lineS t).2.2.1.length:Int)=manyV (kindV (lineS t).1):=by
       rcases hkk with e|e|e
       ·exact absurd e hfile
       ·exact absurd e.1 hm
       ·exact e
      refine Ev.congr (fun k => ?_) (read_loop r (i + 1) fs n (as_++[mkA (actS (kindV (lineS t).1) (lineS t).2.2.1)]) hsr (by omega) (by simp;omega) hlr)
      rw [if_neg hfile,if_neg hm,act_ev _ _ hkk.1 hkk.2.1 hkk.2.2,Option.bind_some,if_pos (by omega)]
      rfl
theorem lines_size (s:ByteArray) (hs:s.size≤65536):∀ t ∈ linesB s,t.size≤65536:=by
 intro t ht
 have h1:t.data.toList ∈ linesOf s.data.toList:=by rw [← linesB_data];exact List.mem_map_of_mem ht
 have h2:=lines_len _ _ h1
 simp at h2
 have h3:t.data.size=t.size:=rfl
 have h4:s.data.size=s.size:=rfl
 omega
theorem parse_ev (s:ByteArray):Ev (fun k => script_Parse.f k s) (specP s):=by
 unfold script_Parse.f script_read.f specP
 by_cases h:(s.size:Int) > 65536
 ·rw [if_pos h]
  exact Ev.congr (f:=fun _ => some (badP 0 2)) (fun k => by rw [if_pos h];rfl) (Ev.now _)
 ·rw [if_neg h]
  refine Ev.congr (fun k => by rw [if_neg h]) ?_
  exact read_loop (linesB s) 0 [] 3 [] (lines_size s (by omega)) (Nat.le_refl _) (Nat.le_refl _) (by have:=lines_le s (by omega);omega)
theorem rows_loop (l:List (List Int)) (hl:l.length≤70000):∀ (m i:Nat),l.length - i=m→Ev (fun k => understudylaw23_rows.l0 k l l (i:Int)) true
 | 0,i,hm => Ev.step (f:=fun _ => some true) (fun k => by rw [understudylaw23_rows.l0,if_neg (by omega)]) (Ev.now _)
 | m + 1,i,hm => by
  have hw:wrap64 ((i:Int) + 1)=((i + 1:Nat):Int):=by unfold wrap64;omega
  refine Ev.step (fun k => ?_) (rows_loop l hl m (i + 1) (by omega))
  rw [understudylaw23_rows.l0,if_pos (by omega),if_pos (by omega),if_pos (by omega),if_pos rfl,hw]
theorem acts_loop (l:List Act_) (hl:l.length≤70000):∀ (m i:Nat),l.length - i=m→Ev (fun k => understudylaw23_acts.l0 k l l (i:Int)) true
 | 0,i,hm => Ev.step (f:=fun _ => some true) (fun k => by rw [understudylaw23_acts.l0,if_neg (by omega)]) (Ev.now _)
 | m + 1,i,hm => by
  have hw:wrap64 ((i:Int) + 1)=((i + 1:Nat):Int):=by unfold wrap64;omega
  refine Ev.step (fun k => ?_) (acts_loop l hl m (i + 1) (by omega))
  rw [understudylaw23_acts.l0,if_pos (by omega),if_pos (by omega),if_pos (by omega),if_neg (by simp),hw]
theorem spec_len:∀ (r:List ByteArray) (i:Nat) (fs:List (List Int)) (n:Int) (as_:List Act_),fs.length≤i→as_.length≤i→(specL r (i:Int) fs n as_).1.length≤i + r.length∧(specL r (i:Int) fs n as_).2.2.1.length≤i + r.length
 | [],i,fs,n,as_,hf,ha => ⟨hf,ha⟩
 | t :: r,i,fs,n,as_,hf,ha => by
  have hc:((i:Int) + 1)=((i + 1:Nat):Int):=by omega
  have hlen:(t :: r).length=r.length + 1:=rfl
  have bad:∀ l e:Int,(badP l e).1.length≤i + (t :: r).length∧(badP l e).2.2.1.length≤i + (t :: r).length:=fun l e => ⟨Nat.zero_le _,Nat.zero_le _⟩
  have go:∀ (fs:List (List Int)) (n:Int) (as_:List Act_),fs.length≤i + 1→as_.length≤i + 1→(specL r ((i + 1:Nat):Int) fs n as_).1.length≤i + (t :: r).length∧(specL r ((i + 1:Nat):Int) fs n as_).2.2.1.length≤i + (t :: r).length:=fun fs n as_ h1 h2 => by
   have:=spec_len r (i + 1) fs n as_ h1 h2
   rw [hlen]
   omega
  rw [specL,hc]
  split
  ·exact go _ _ _ (by omega) (by omega)
  ·split
   ·split
    ·exact go _ _ _ (by simp;omega) (by omega)
    ·split
     ·split
      ·exact bad _ _
      ·split
       ·exact bad _ _
       ·exact go _ _ _ (by omega) (by omega)
     ·exact go _ _ _ (by omega) (by simp;omega)
   ·exact bad _ _
theorem specP_len (s:ByteArray):(specP s).1.length≤70000∧(specP s).2.2.1.length≤70000:=by
 unfold specP
 by_cases h:(s.size:Int) > 65536
 ·rw [if_pos h]
  exact ⟨Nat.zero_le _,Nat.zero_le _⟩
 ·rw [if_neg h]
  have h1:=spec_len (linesB s) 0 [] 3 [] (Nat.le_refl _) (Nat.le_refl _)
  have h2:=lines_le s (by omega)
  rw [show ((0:Nat):Int)=0 from rfl] at h1
  omega
theorem parses_awake:understudylaw23_awake.f=some true:=by
 unfold understudylaw23_awake.f script_Print.f
 rw [if_pos (by decide)]
 have e:printV 0 0 0 5=(⟨#[114,117,110,32,48,32,48,32,53]⟩,0):=by
  have z0:Lib.itoa 0=[48]:=by unfold Lib.itoa;rw [if_neg (by decide)];exact Lib.decDigits_one (by decide)
  have z5:Lib.itoa 5=[53]:=by unfold Lib.itoa;rw [if_neg (by decide)];exact Lib.decDigits_one (by decide)
  unfold printV
  rw [if_neg (by decide),if_neg (by decide),if_neg (by decide)]
  unfold numsL
  rw [if_pos rfl]
  unfold outV
  rw [if_pos (by decide)]
  unfold outV
  rw [if_pos (by decide)]
  unfold outV
  rw [if_pos (by decide)]
  unfold outV
  rw [z0,z5]
  rfl
 rw [e]
 simp only [Option.bind_some]
 rw [if_pos (by rw [Lib.toList_data])]
 rfl
theorem ScriptParses_pure (s:ByteArray):∃ j,understudylaw23_ScriptParses.f j s=some true:=by
 refine Ev.rounds ?_
 unfold understudylaw23_ScriptParses.f
 refine Ev.bind (parse_ev s) ?_
 refine Ev.bind (refparse_ev s) ?_
 have hlen:=specP_len s
 refine Ev.bind (a:=true) ?_ ?_
 ·unfold understudylaw23_rows.f
  exact Ev.congr (fun k => if_pos rfl) (rows_loop _ hlen.1 _ 0 rfl)
 ·refine Ev.congr (fun k => (if_pos rfl).trans (if_pos rfl)) ?_
  refine Ev.bind (a:=true) ?_ ?_
  ·unfold understudylaw23_acts.f
   exact Ev.congr (fun k => if_pos rfl) (acts_loop _ hlen.2 _ 0 rfl)
  ·rw [parses_awake]
   exact Ev.congr (f:=fun _ => some true) (fun k => (if_pos rfl).trans ((if_pos rfl).trans (if_pos rfl))) (Ev.now _)
end Go.Proofs.YtpofikjkccljlaaGreatDoor.Px
