
import Derived.Test.YtglnhkgodgjepaaDoorM1
namespace Go.Proofs.YtglnhkgodgjepaaDoor.Px
open Go.RowKit Go.Proofs.YtglnhkgodgjepaaDoorW.PrintWords Go.Proofs.YtglnhkgodgjepaaDoorW.PrintLast Go.Proofs.YtglnhkgodgjepaaDoorW.PrintMore
attribute [local go_sem] max2_int min2_int max_two min_two max_three min_three max_four min_four
set_option linter.unusedVariables false
set_option linter.unusedSimpArgs false
mutual
def understudyref04_one.j0:Nat→Bool→Option (Int)
 | 0,_ => none
 | k + 1,x32 => if x32=true then (some 20) else (some 0)
def understudyref04_one.j1:Nat→List (S33)→Bool→Int→ByteArray→Int→Int→Int→Option (Int)
 | 0,_,_,_,_,_,_,_ => none
 | k + 1,x0,x63,x204000,x204001,x204002,x204003,x204004 => if x63=true then ((understudyref04_is.f x0 x204003 7).bind fun t212 => (if t212=true then ((understudyref04_is.f x0 x204004 12).bind fun t213 => (if t213=true then (some 0) else (some 40))) else (some 40))) else (some 40)
end
def understudyref04_one.f (k:Nat) (l0:List (S33)) (a1:Int):Option (Int):=if 0≤a1 then (if a1 < (l0.length:Int) then ((understudyref04_bare.f k ((rd_T33 l0 a1).f0) ((rd_T33 l0 a1).f1) ((rd_T33 l0 a1).f2) ((rd_T33 l0 a1).f3) ((rd_T33 l0 a1).f4)).bind fun t204 => (if t204=true then (if ((rd_T33 l0 a1).f0)=1 then ((understudyref02_Encode.f k ((rd_T33 l0 a1).f1)).bind fun bt205 => (if bt205.2=0 then (understudyref04_one.j0 k (decide ((bt205.1.length:Int) > 256))) else (understudyref04_one.j0 k true))) else (if ((rd_T33 l0 a1).f0)=3 then (if ((rd_T33 l0 a1).f2) ≥ (-2147483648) then (if (((rd_T33 l0 a1).f2)≤2147483647) then (some 0) else (some 40)) else (some 40)) else (if ((rd_T33 l0 a1).f0)=5 then (some 0) else (if ((rd_T33 l0 a1).f0)=7 then ((understudyref04_is.f l0 ((rd_T33 l0 a1).f3) 1).bind fun t209 => (if t209=true then (some 0) else (some 40))) else (if ((rd_T33 l0 a1).f0)=12 then ((understudyref04_is.f l0 ((rd_T33 l0 a1).f3) 1).bind fun t210 => (if t210=true then ((understudyref04_is.f l0 ((rd_T33 l0 a1).f4) 1).bind fun t211 => (if t211=true then (some 0) else (some 40))) else (some 40))) else (if ((rd_T33 l0 a1).f0)=9 then (understudyref04_one.j1 k l0 (((rd_T33 l0 a1).f0)==9) ((rd_T33 l0 a1).f0) ((rd_T33 l0 a1).f1) ((rd_T33 l0 a1).f2) ((rd_T33 l0 a1).f3) ((rd_T33 l0 a1).f4)) else (understudyref04_one.j1 k l0 (((rd_T33 l0 a1).f0)==10) ((rd_T33 l0 a1).f0) ((rd_T33 l0 a1).f1) ((rd_T33 l0 a1).f2) ((rd_T33 l0 a1).f3) ((rd_T33 l0 a1).f4)))))))) else (some 40))) else (none)) else (none)
theorem understudyref04_one.mono_l:∀ k,(∀ y0,LeO (understudyref04_one.j0 k y0) (understudyref04_one.j0 (k + 1) y0))∧(∀ y0 y1 y2 y3 y4 y5 y6,LeO (understudyref04_one.j1 k y0 y1 y2 y3 y4 y5 y6) (understudyref04_one.j1 (k + 1) y0 y1 y2 y3 y4 y5 y6))
 | 0 => ⟨fun _ r h => by simp [understudyref04_one.j0] at h,fun _ _ _ _ _ _ _ r h => by simp [understudyref04_one.j1] at h⟩
 | k + 1 => by
  obtain ⟨ih0,ih1⟩:=understudyref04_one.mono_l k
  refine ⟨?_,?_⟩
  ·intro y0
   unfold understudyref04_one.j0
   repeat' first
   | (with_reducible exact ih0 _)
   | (with_reducible exact ih1 _ _ _ _ _ _ _)
   | (with_reducible exact understudyref02_Encode.mono _ _)
   | (with_reducible exact understudyref04_bare.mono _ _ _ _ _ _)
   | (with_reducible exact LeO.refl _)
   | (with_reducible exact LeO.none _)
   | (with_reducible refine LeO.ite ?_ ?_)
   | (with_reducible refine LeO.bind ?_ (fun _ => ?_))
   | exact ih0 _
   | exact ih1 _ _ _ _ _ _ _
   | exact understudyref02_Encode.mono _ _
   | exact understudyref04_bare.mono _ _ _ _ _ _
   | exact LeO.none _
   | refine LeO.ite ?_ ?_
   | refine LeO.bind ?_ (fun _ => ?_)
  ·intro y0 y1 y2 y3 y4 y5 y6
   unfold understudyref04_one.j1
   repeat' first
   | (with_reducible exact ih0 _)
   | (with_reducible exact ih1 _ _ _ _ _ _ _)
   | (with_reducible exact understudyref02_Encode.mono _ _)
   | (with_reducible exact understudyref04_bare.mono _ _ _ _ _ _)
   | (with_reducible exact LeO.refl _)
   | (with_reducible exact LeO.none _)
   | (with_reducible refine LeO.ite ?_ ?_)
   | (with_reducible refine LeO.bind ?_ (fun _ => ?_))
   | exact ih0 _
   | exact ih1 _ _ _ _ _ _ _
   | exact understudyref02_Encode.mono _ _
   | exact understudyref04_bare.mono _ _ _ _ _ _
   | exact LeO.none _
   | refine LeO.ite ?_ ?_
   | refine LeO.bind ?_ (fun _ => ?_)
theorem understudyref04_one.mono:∀ a0 a1 k,LeO (understudyref04_one.f k a0 a1) (understudyref04_one.f (k + 1) a0 a1):=by
 intro a0 a1 k
 obtain ⟨ih0,ih1⟩:=understudyref04_one.mono_l k
 unfold understudyref04_one.f
 repeat' first
   | (with_reducible exact ih0 _)
   | (with_reducible exact ih1 _ _ _ _ _ _ _)
   | (with_reducible exact understudyref02_Encode.mono _ _)
   | (with_reducible exact understudyref04_bare.mono _ _ _ _ _ _)
   | (with_reducible exact LeO.refl _)
   | (with_reducible exact LeO.none _)
   | (with_reducible refine LeO.ite ?_ ?_)
   | (with_reducible refine LeO.bind ?_ (fun _ => ?_))
   | exact ih0 _
   | exact ih1 _ _ _ _ _ _ _
   | exact understudyref02_Encode.mono _ _
   | exact understudyref04_bare.mono _ _ _ _ _ _
   | exact LeO.none _
   | refine LeO.ite ?_ ?_
   | refine LeO.bind ?_ (fun _ => ?_)
set_option maxHeartbeats 80000000 in
set_option maxRecDepth 100000 in
theorem understudyref04_one.calls (k:Nat) (A0:Option Addr) (c0:Nat) (l0:List (S33)) (a1:Int) (r:Int) (w:World) (hr0:Kd.C k33 w A0 l0.length l0) (hc0:l0.length≤c0) (h:understudyref04_one.f k l0 a1=some r) :
  Calls Tryd.prog 21 #[.slice A0 l0.length c0,.int .i64 a1] w fun e w' => e=.returned (.int .i64 r)∧Below w.heap.size w w':=by
 have hu33:=Tryd.underlying33
 have HR0:=Aside0.mk hr0
 have HC0:=Aside0.mk hc0
 clear hr0 hc0
 have HB:=Aside0.mk (Below.refl w.heap.size w)
 have H:(if 0≤a1 then (if a1 < (l0.length:Int) then ((understudyref04_bare.f k ((rd_T33 l0 a1).f0) ((rd_T33 l0 a1).f1) ((rd_T33 l0 a1).f2) ((rd_T33 l0 a1).f3) ((rd_T33 l0 a1).f4)).bind fun t204 => (if t204=true then (if ((rd_T33 l0 a1).f0)=1 then ((understudyref02_Encode.f k ((rd_T33 l0 a1).f1)).bind fun bt205 => (if bt205.2=0 then (understudyref04_one.j0 k (decide ((bt205.1.length:Int) > 256))) else (understudyref04_one.j0 k true))) else (if ((rd_T33 l0 a1).f0)=3 then (if ((rd_T33 l0 a1).f2) ≥ (-2147483648) then (if (((rd_T33 l0 a1).f2)≤2147483647) then (some 0) else (some 40)) else (some 40)) else (if ((rd_T33 l0 a1).f0)=5 then (some 0) else (if ((rd_T33 l0 a1).f0)=7 then ((understudyref04_is.f l0 ((rd_T33 l0 a1).f3) 1).bind fun t209 => (if t209=true then (some 0) else (some 40))) else (if ((rd_T33 l0 a1).f0)=12 then ((understudyref04_is.f l0 ((rd_T33 l0 a1).f3) 1).bind fun t210 => (if t210=true then ((understudyref04_is.f l0 ((rd_T33 l0 a1).f4) 1).bind fun t211 => (if t211=true then (some 0) else (some 40))) else (some 40))) else (if ((rd_T33 l0 a1).f0)=9 then (understudyref04_one.j1 k l0 (((rd_T33 l0 a1).f0)==9) ((rd_T33 l0 a1).f0) ((rd_T33 l0 a1).f1) ((rd_T33 l0 a1).f2) ((rd_T33 l0 a1).f3) ((rd_T33 l0 a1).f4)) else (understudyref04_one.j1 k l0 (((rd_T33 l0 a1).f0)==10) ((rd_T33 l0 a1).f0) ((rd_T33 l0 a1).f1) ((rd_T33 l0 a1).f2) ((rd_T33 l0 a1).f3) ((rd_T33 l0 a1).f4)))))))) else (some 40))) else (none)) else (none))=some r:=h
 clear h
 by_cases c3:0≤a1
 ·rw [if_pos c3] at H
  have c3b0:decide (0≤a1)=true:=decide_eq_true c3
  clear c3
  by_cases c4:a1 < (l0.length:Int)
  ·rw [if_pos c4] at H
   have c4b0:decide (a1 < (l0.length:Int))=true:=decide_eq_true c4
   clear c4
   replace H:=Option.bind_eq_some_iff.mp H
   obtain ⟨t204,A50,H⟩:=H
   replace H:(if t204=true then (if ((rd_T33 l0 a1).f0)=1 then ((understudyref02_Encode.f k ((rd_T33 l0 a1).f1)).bind fun bt205 => (if bt205.2=0 then (understudyref04_one.j0 k (decide ((bt205.1.length:Int) > 256))) else (understudyref04_one.j0 k true))) else (if ((rd_T33 l0 a1).f0)=3 then (if ((rd_T33 l0 a1).f2) ≥ (-2147483648) then (if (((rd_T33 l0 a1).f2)≤2147483647) then (some 0) else (some 40)) else (some 40)) else (if ((rd_T33 l0 a1).f0)=5 then (some 0) else (if ((rd_T33 l0 a1).f0)=7 then ((understudyref04_is.f l0 ((rd_T33 l0 a1).f3) 1).bind fun t209 => (if t209=true then (some 0) else (some 40))) else (if ((rd_T33 l0 a1).f0)=12 then ((understudyref04_is.f l0 ((rd_T33 l0 a1).f3) 1).bind fun t210 => (if t210=true then ((understudyref04_is.f l0 ((rd_T33 l0 a1).f4) 1).bind fun t211 => (if t211=true then (some 0) else (some 40))) else (some 40))) else (if ((rd_T33 l0 a1).f0)=9 then (understudyref04_one.j1 k l0 (((rd_T33 l0 a1).f0)==9) ((rd_T33 l0 a1).f0) ((rd_T33 l0 a1).f1) ((rd_T33 l0 a1).f2) ((rd_T33 l0 a1).f3) ((rd_T33 l0 a1).f4)) else (understudyref04_one.j1 k l0 (((rd_T33 l0 a1).f0)==10) ((rd_T33 l0 a1).f0) ((rd_T33 l0 a1).f1) ((rd_T33 l0 a1).f2) ((rd_T33 l0 a1).f3) ((rd_T33 l0 a1).f4)))))))) else (some 40))=some r:=H
   have A5:=Aside0.mk A50
   clear A50
   by_cases c6:t204=true
   ·subst c6
    have H1:(if ((rd_T33 l0 a1).f0)=1 then ((understudyref02_Encode.f k ((rd_T33 l0 a1).f1)).bind fun bt205 => (if bt205.2=0 then (understudyref04_one.j0 k (decide ((bt205.1.length:Int) > 256))) else (understudyref04_one.j0 k true))) else (if ((rd_T33 l0 a1).f0)=3 then (if ((rd_T33 l0 a1).f2) ≥ (-2147483648) then (if (((rd_T33 l0 a1).f2)≤2147483647) then (some 0) else (some 40)) else (some 40)) else (if ((rd_T33 l0 a1).f0)=5 then (some 0) else (if ((rd_T33 l0 a1).f0)=7 then ((understudyref04_is.f l0 ((rd_T33 l0 a1).f3) 1).bind fun t209 => (if t209=true then (some 0) else (some 40))) else (if ((rd_T33 l0 a1).f0)=12 then ((understudyref04_is.f l0 ((rd_T33 l0 a1).f3) 1).bind fun t210 => (if t210=true then ((understudyref04_is.f l0 ((rd_T33 l0 a1).f4) 1).bind fun t211 => (if t211=true then (some 0) else (some 40))) else (some 40))) else (if ((rd_T33 l0 a1).f0)=9 then (understudyref04_one.j1 k l0 (((rd_T33 l0 a1).f0)==9) ((rd_T33 l0 a1).f0) ((rd_T33 l0 a1).f1) ((rd_T33 l0 a1).f2) ((rd_T33 l0 a1).f3) ((rd_T33 l0 a1).f4)) else (understudyref04_one.j1 k l0 (((rd_T33 l0 a1).f0)==10) ((rd_T33 l0 a1).f0) ((rd_T33 l0 a1).f1) ((rd_T33 l0 a1).f2) ((rd_T33 l0 a1).f3) ((rd_T33 l0 a1).f4))))))))=some r:=by rw [if_pos rfl] at H;exact H
    clear H
    have H:=H1
    clear H1
    by_cases c7:((rd_T33 l0 a1).f0)=1
    ·rw [if_pos c7] at H
     have c7b0:(((rd_T33 l0 a1).f0)==1)=true:=beq_iff_eq.mpr c7
     have c7b1:(((rd_T33 l0 a1).f0) != 1)=false:=bne_eq_false_iff_eq.mpr c7
     clear c7
     replace H:=Option.bind_eq_some_iff.mp H
     obtain ⟨⟨t205,t206⟩,A80,H⟩:=H
     replace H:(if t206=0 then (understudyref04_one.j0 k (decide ((t205.length:Int) > 256))) else (understudyref04_one.j0 k true))=some r:=H
     have A8:=Aside0.mk A80
     clear A80
     have HC9:=Aside0.mk H
     clear H
     have p202:0≤(a1:Int):=of_decide_eq_true (by first|(with_reducible assumption)|assumption)
     have q202:a1 < (l0.length:Int):=of_decide_eq_true (by first|(with_reducible assumption)|assumption)
     obtain ⟨ad202,e202,hx202_0,hx202_1,hx202_2,hx202_3,hx202_4⟩:=at_T33 HR0.out a1 p202 q202
     cases e202
     replace p202:=eq_true p202
     replace q202:=eq_true q202
     go_enter Tryd.func21,Tryd.ntmps21
     go_upto_region 9 with (first|((with_reducible refine gate_dst (N:=5) rfl ?_);(try (refine gate_guard (by rfl) ?_;dsimp only));refine box_event ?hg (N:=5) ?hd (cs:=#[.int .i64 0,.string (⟨#[]⟩:ByteArray),.int .i64 0,.int .i64 0,.int .i64 0]) (t:=33) ?hr ?_;(case hd => rfl);(case hg => rfl);(case hr => first|(go_simp;done)|(go_simp;rfl));intro gb203 hg w10 hbox hb;have n0_:=Aside0.mk (below_step (by repeat (first|(with_reducible first|exact HB.out|apply below_alloc|apply pw_below_drewN|apply below_drew1)|exact HB.out)) hb);have n1_:=Aside0.mk (hbox);have n2_:=Aside0.mk ((by rw [hg];exact (below_size (by repeat (first|(with_reducible first|exact HB.out|apply below_alloc|apply pw_below_drewN|apply below_drew1)|exact HB.out))):w.heap.size≤gb203));have n3_:=Aside0.mk ((by rw [hg];exact (below_size (by repeat (first|(with_reducible first|exact HB.out|apply below_alloc|apply pw_below_drewN|apply below_drew1)|exact HB.out))):w.heap.size≤gb203));clear HB;have HB:=n0_;have BK203:=n1_;have GW203:=n2_;have GE203:=n3_;clear n0_ n1_ n2_ n3_;clear hb hbox hg;have hcz11_0:w10.cell? ⟨gb203,0,none⟩=some (.int .i64 0):=(blk_cell BK203.out 0).trans rfl;have hcz11_1:w10.cell? ⟨gb203,1,none⟩=some (.string (⟨#[]⟩:ByteArray)):=(blk_cell BK203.out 1).trans rfl;have hcz11_2:w10.cell? ⟨gb203,2,none⟩=some (.int .i64 0):=(blk_cell BK203.out 2).trans rfl;have hcz11_3:w10.cell? ⟨gb203,3,none⟩=some (.int .i64 0):=(blk_cell BK203.out 3).trans rfl;have hcz11_4:w10.cell? ⟨gb203,4,none⟩=some (.int .i64 0):=(blk_cell BK203.out 4).trans rfl;have hfz11_0:=blk_frozen BK203.out 0;have hfz11_1:=blk_frozen BK203.out 1;have hfz11_2:=blk_frozen BK203.out 2;have hfz11_3:=blk_frozen BK203.out 3;have hfz11_4:=blk_frozen BK203.out 4)|((with_reducible refine gate_store (t:=33) (p:=5) rfl ?_);refine store_event (t:=33) (p:=5) (v:=?vo_w12) (w1:=(((((w10.setCell ⟨gb203,0,none⟩ (.int .i64 ((rd_T33 l0 a1).f0))).setCell ⟨gb203,1,none⟩ (.string ((rd_T33 l0 a1).f1))).setCell ⟨gb203,2,none⟩ (.int .i64 ((rd_T33 l0 a1).f2))).setCell ⟨gb203,3,none⟩ (.int .i64 ((rd_T33 l0 a1).f3))).setCell ⟨gb203,4,none⟩ (.int .i64 ((rd_T33 l0 a1).f4)))) ?hg ?ho ?hn ?hr ?_;(case ho => rfl);(case hg => rfl);(case hn => rfl);(case hr => first|(go_simp;done)|(go_simp;rfl));intro w12 hw;have n0_:Aside0 (w12.heap[gb203]?=some (.cells #[.int .i64 ((rd_T33 l0 a1).f0),.string ((rd_T33 l0 a1).f1),.int .i64 ((rd_T33 l0 a1).f2),.int .i64 ((rd_T33 l0 a1).f3),.int .i64 ((rd_T33 l0 a1).f4)] 33 (0,0))):=⟨(by rw [hw];exact (by (with_reducible repeat (first|refine blk_drewN ?_ _|refine blk_drew ?_|refine blk_alloc ?_ _));refine blk_put (cs:=#[.int .i64 ((rd_T33 l0 a1).f0),.string ((rd_T33 l0 a1).f1),.int .i64 ((rd_T33 l0 a1).f2),.int .i64 ((rd_T33 l0 a1).f3),.int .i64 0]) ?_ 4 _ rfl;(with_reducible repeat (first|refine blk_drewN ?_ _|refine blk_drew ?_|refine blk_alloc ?_ _));refine blk_put (cs:=#[.int .i64 ((rd_T33 l0 a1).f0),.string ((rd_T33 l0 a1).f1),.int .i64 ((rd_T33 l0 a1).f2),.int .i64 0,.int .i64 0]) ?_ 3 _ rfl;(with_reducible repeat (first|refine blk_drewN ?_ _|refine blk_drew ?_|refine blk_alloc ?_ _));refine blk_put (cs:=#[.int .i64 ((rd_T33 l0 a1).f0),.string ((rd_T33 l0 a1).f1),.int .i64 0,.int .i64 0,.int .i64 0]) ?_ 2 _ rfl;(with_reducible repeat (first|refine blk_drewN ?_ _|refine blk_drew ?_|refine blk_alloc ?_ _));refine blk_put (cs:=#[.int .i64 ((rd_T33 l0 a1).f0),.string (⟨#[]⟩:ByteArray),.int .i64 0,.int .i64 0,.int .i64 0]) ?_ 1 _ rfl;(with_reducible repeat (first|refine blk_drewN ?_ _|refine blk_drew ?_|refine blk_alloc ?_ _));refine blk_put (cs:=#[.int .i64 0,.string (⟨#[]⟩:ByteArray),.int .i64 0,.int .i64 0,.int .i64 0]) ?_ 0 _ rfl;(with_reducible repeat (first|refine blk_drewN ?_ _|refine blk_drew ?_|refine blk_alloc ?_ _));exact BK203.out))⟩;have n1_:Aside0 (Below w.heap.size w w12):=⟨(by rw [hw];exact (by repeat (first|(with_reducible first|exact HB.out|apply below_alloc|apply pw_below_drewN|apply below_drew1|refine below_set ?_ GE203.out)|exact HB.out)))⟩;clear hw;clear BK203;clear HB;have BK203:=n0_;have HB:=n1_;clear n0_ n1_;have hcz13_0:w12.cell? ⟨gb203,0,none⟩=some (.int .i64 ((rd_T33 l0 a1).f0)):=(blk_cell BK203.out 0).trans rfl;have hcz13_1:w12.cell? ⟨gb203,1,none⟩=some (.string ((rd_T33 l0 a1).f1)):=(blk_cell BK203.out 1).trans rfl;have hcz13_2:w12.cell? ⟨gb203,2,none⟩=some (.int .i64 ((rd_T33 l0 a1).f2)):=(blk_cell BK203.out 2).trans rfl;have hcz13_3:w12.cell? ⟨gb203,3,none⟩=some (.int .i64 ((rd_T33 l0 a1).f3)):=(blk_cell BK203.out 3).trans rfl;have hcz13_4:w12.cell? ⟨gb203,4,none⟩=some (.int .i64 ((rd_T33 l0 a1).f4)):=(blk_cell BK203.out 4).trans rfl;have hfz13_0:=blk_frozen BK203.out 0;have hfz13_1:=blk_frozen BK203.out 1;have hfz13_2:=blk_frozen BK203.out 2;have hfz13_3:=blk_frozen BK203.out 3;have hfz13_4:=blk_frozen BK203.out 4)|((with_reducible refine gate_callee (f:=43) rfl ?_);refine goesL_ (some 14) rfl rfl Tryd.func43 (by kernel_rfl) rfl #[.agg #[.int .i64 ((rd_T33 l0 a1).f0),.string ((rd_T33 l0 a1).f1),.int .i64 ((rd_T33 l0 a1).f2),.int .i64 ((rd_T33 l0 a1).f3),.int .i64 ((rd_T33 l0 a1).f4)]] rfl (by (try simp only [List.map_toArray,List.map_cons,List.map_nil]);first|done|rfl|(simp only [List.length_drop,List.length_take];rfl)) ?_;(with_reducible refine (understudyref04_bare.calls k ((rd_T33 l0 a1).f0) ((rd_T33 l0 a1).f1) ((rd_T33 l0 a1).f2) ((rd_T33 l0 a1).f3) ((rd_T33 l0 a1).f4) true _ A5.out).mono ?_);rintro e w14 ⟨rfl,hb⟩;refine ⟨_,rfl,?_⟩;have n0_:=Aside0.mk (blk_below (g:=gb203) (o:=.cells #[.int .i64 ((rd_T33 l0 a1).f0),.string ((rd_T33 l0 a1).f1),.int .i64 ((rd_T33 l0 a1).f2),.int .i64 ((rd_T33 l0 a1).f3),.int .i64 ((rd_T33 l0 a1).f4)] 33 (0,0)) (by (with_reducible repeat (first|refine blk_drewN ?_ _|refine blk_drew ?_|refine blk_alloc ?_ _));exact BK203.out) hb);have n1_:=Aside0.mk (below_step (by repeat (first|(with_reducible first|exact HB.out|apply below_alloc|apply pw_below_drewN|apply below_drew1|refine below_set ?_ GE203.out)|exact HB.out)) hb);clear BK203;clear HB;have BK203:=n0_;have HB:=n1_;clear n0_ n1_;(try clear hb);(try clear hb2);(try clear hk);(try clear hi);have hcz15_0:w14.cell? ⟨gb203,0,none⟩=some (.int .i64 ((rd_T33 l0 a1).f0)):=(blk_cell BK203.out 0).trans rfl;have hcz15_1:w14.cell? ⟨gb203,1,none⟩=some (.string ((rd_T33 l0 a1).f1)):=(blk_cell BK203.out 1).trans rfl;have hcz15_2:w14.cell? ⟨gb203,2,none⟩=some (.int .i64 ((rd_T33 l0 a1).f2)):=(blk_cell BK203.out 2).trans rfl;have hcz15_3:w14.cell? ⟨gb203,3,none⟩=some (.int .i64 ((rd_T33 l0 a1).f3)):=(blk_cell BK203.out 3).trans rfl;have hcz15_4:w14.cell? ⟨gb203,4,none⟩=some (.int .i64 ((rd_T33 l0 a1).f4)):=(blk_cell BK203.out 4).trans rfl;have hfz15_0:=blk_frozen BK203.out 0;have hfz15_1:=blk_frozen BK203.out 1;have hfz15_2:=blk_frozen BK203.out 2;have hfz15_3:=blk_frozen BK203.out 3;have hfz15_4:=blk_frozen BK203.out 4)|((with_reducible refine gate_callee (f:=30) rfl ?_);refine goesL_ (some 23) rfl rfl Tryd.func30 (by kernel_rfl) rfl #[.string ((rd_T33 l0 a1).f1)] rfl (by (try simp only [List.map_toArray,List.map_cons,List.map_nil]);first|done|rfl|(simp only [List.length_drop,List.length_take];rfl)) ?_;(with_reducible refine (understudyref02_Encode.calls k ((rd_T33 l0 a1).f1) t205 t206 _ A8.out).mono ?_);rintro e w16 ⟨v207,rfl,ho0,hb⟩;refine ⟨_,rfl,?_⟩;have n0_:=Aside0.mk (Kd.R_lower ho0 (below_size (by repeat (first|(with_reducible first|exact HB.out|apply below_alloc|apply pw_below_drewN|apply below_drew1|refine below_set ?_ GE203.out)|exact HB.out))));have n1_:=Aside0.mk (blk_below (g:=gb203) (o:=.cells #[.int .i64 ((rd_T33 l0 a1).f0),.string ((rd_T33 l0 a1).f1),.int .i64 ((rd_T33 l0 a1).f2),.int .i64 ((rd_T33 l0 a1).f3),.int .i64 ((rd_T33 l0 a1).f4)] 33 (0,0)) (by (with_reducible repeat (first|refine blk_drewN ?_ _|refine blk_drew ?_|refine blk_alloc ?_ _));exact BK203.out) hb);have n2_:=Aside0.mk (below_step (by repeat (first|(with_reducible first|exact HB.out|apply below_alloc|apply pw_below_drewN|apply below_drew1|refine below_set ?_ GE203.out)|exact HB.out)) hb);clear BK203;clear HB;have HO208:=n0_;have BK203:=n1_;have HB:=n2_;clear n0_ n1_ n2_;(try clear hb);(try clear hb2);(try clear hk);(try clear hi);(try clear ho0)))
     (try simp only [Act.put,List.setIfInBounds_toArray,List.set_cons_zero,List.set_cons_succ])
     go_cut [32] (fun v32 wc => ∃ (kq:Nat) (x32_8:Bool),v32=.bool x32_8∧Aside0 (understudyref04_one.j0 kq x32_8=some r)∧Aside0 (kq≤k)∧Aside0 (wc.heap[gb203]?=some (.cells #[.int .i64 ((rd_T33 l0 a1).f0),.string ((rd_T33 l0 a1).f1),.int .i64 ((rd_T33 l0 a1).f2),.int .i64 ((rd_T33 l0 a1).f3),.int .i64 ((rd_T33 l0 a1).f4)] 33 (0,0)))∧Aside0 (Below w.heap.size w wc))
     case first =>
      have H:=HC9.out
      clear HC9
      by_cases c17:t206=0
      ·rw [if_pos c17] at H
       have c17b0:(t206==0)=true:=beq_iff_eq.mpr c17
       have c17b1:(t206 != 0)=false:=bne_eq_false_iff_eq.mpr c17
       clear c17
       (first|rw [c17b0]|(simp only [i64_w,i32_w];rw [c17b0])|skip)
       have H':=Aside0.mk H
       clear H
       obtain ⟨Ao18,co18,eo18⟩:=Kd.R_slice HO208.out
       subst eo18
       go_wp2
       go_meet
       case rel => exact ⟨_,(decide ((t205.length:Int) > 256)),(by first|rfl|(simp;done)|(simp [*];done)),H',⟨by first|omega|exact Nat.le_refl _⟩,⟨by (with_reducible repeat (first|refine blk_drewN ?_ _|refine blk_drew ?_|refine blk_alloc ?_ _));exact BK203.out⟩,⟨by repeat (first|(with_reducible first|exact HB.out|apply below_alloc|apply pw_below_drewN|apply below_drew1|refine below_set ?_ GE203.out)|exact HB.out)⟩⟩
      ·rw [if_neg c17] at H
       have c17b0:(t206==0)=false:=beq_eq_false_iff_ne.mpr c17
       have c17b1:(t206 != 0)=true:=bne_iff_ne.mpr c17
       (first|rw [c17b0]|(simp only [i64_w,i32_w];rw [c17b0])|skip)
       have H':=Aside0.mk H
       clear H
       go_wp2
       go_meet
       case rel => exact ⟨_,(true),(by first|rfl|(simp;done)|(simp [*];done)),H',⟨by first|omega|exact Nat.le_refl _⟩,⟨by (with_reducible repeat (first|refine blk_drewN ?_ _|refine blk_drew ?_|refine blk_alloc ?_ _));exact BK203.out⟩,⟨by repeat (first|(with_reducible first|exact HB.out|apply below_alloc|apply pw_below_drewN|apply below_drew1|refine below_set ?_ GE203.out)|exact HB.out)⟩⟩
     case rest =>
      clear HC9
      try clear c1;try clear c2;try clear p2;try clear q2;try clear hx2;try clear c3;try clear c3b0;try clear c4;try clear c4b0;try clear c6;try clear c7;try clear c7b0;try clear c7b1;try clear c17;try clear c17b0;try clear c17b1;try clear hcz11_0;try clear hcz11_1;try clear hcz11_2;try clear hcz11_3;try clear hcz11_4;try clear hcz13_0;try clear hcz13_1;try clear hcz13_2;try clear hcz13_3;try clear hcz13_4;try clear hcz15_0;try clear hcz15_1;try clear hcz15_2;try clear hcz15_3;try clear hcz15_4;try clear hfz11_0;try clear hfz11_1;try clear hfz11_2;try clear hfz11_3;try clear hfz11_4;try clear hfz13_0;try clear hfz13_1;try clear hfz13_2;try clear hfz13_3;try clear hfz13_4;try clear hfz15_0;try clear hfz15_1;try clear hfz15_2;try clear hfz15_3;try clear hfz15_4;try clear hx202_0;try clear hx202_1;try clear hx202_2;try clear hx202_3;try clear hx202_4;try clear p202;try clear q202
      obtain ⟨kq,x32_8,rfl,HA,HJ8,BK203,HB⟩:=hcut
      cases kq with
      | zero => exact absurd HA.out (by simp [understudyref04_one.j0])
      | succ kj8 =>
       have H:=HA.out
       clear HA
       simp only [understudyref04_one.j0] at H
       by_cases c19:x32_8=true
       ·subst c19
        have H1:(some 20)=some r:=by rw [if_pos rfl] at H;exact H
        clear H
        have H:=H1
        clear H1
        obtain rfl:=Option.some.inj H
        go_wp2
        go_ret
        exact ⟨by first|rfl|(simp [errW_none,errW_some] <;> rfl)|(simp [*,errW_none,errW_some] <;> rfl),by repeat (first|(with_reducible first|exact HB.out|apply below_alloc|apply pw_below_drewN|apply below_drew1|refine below_set ?_ GE203.out)|exact HB.out)⟩
       ·replace c19:=Bool.eq_false_iff.mpr c19
        subst c19
        have H1:(some 0)=some r:=by rw [if_neg (show ¬ (false=true) by decide)] at H;exact H
        clear H
        have H:=H1
        clear H1
        obtain rfl:=Option.some.inj H
        go_wp2
        go_ret
        exact ⟨by first|rfl|(simp [errW_none,errW_some] <;> rfl)|(simp [*,errW_none,errW_some] <;> rfl),by repeat (first|(with_reducible first|exact HB.out|apply below_alloc|apply pw_below_drewN|apply below_drew1|refine below_set ?_ GE203.out)|exact HB.out)⟩
    ·rw [if_neg c7] at H
     have c7b0:(((rd_T33 l0 a1).f0)==1)=false:=beq_eq_false_iff_ne.mpr c7
     have c7b1:(((rd_T33 l0 a1).f0) != 1)=true:=bne_iff_ne.mpr c7
     by_cases c20:((rd_T33 l0 a1).f0)=3
     ·rw [if_pos c20] at H
      have c20b0:(((rd_T33 l0 a1).f0)==3)=true:=beq_iff_eq.mpr c20
      have c20b1:(((rd_T33 l0 a1).f0) != 3)=false:=bne_eq_false_iff_eq.mpr c20
      clear c20
      by_cases c21:((rd_T33 l0 a1).f2) ≥ (-2147483648)
      ·rw [if_pos c21] at H
       have c21b0:decide ((-2147483648)≤((rd_T33 l0 a1).f2))=true:=decide_eq_true c21
       clear c21
       by_cases c22:(((rd_T33 l0 a1).f2)≤2147483647)
       ·rw [if_pos c22] at H
        have c22b0:decide (((rd_T33 l0 a1).f2)≤2147483647)=true:=decide_eq_true c22
        clear c22
        obtain rfl:=Option.some.inj H
        have p202:0≤(a1:Int):=of_decide_eq_true (by first|(with_reducible assumption)|assumption)
        have q202:a1 < (l0.length:Int):=of_decide_eq_true (by first|(with_reducible assumption)|assumption)
        obtain ⟨ad202,e202,hx202_0,hx202_1,hx202_2,hx202_3,hx202_4⟩:=at_T33 HR0.out a1 p202 q202
        cases e202
        replace p202:=eq_true p202
        replace q202:=eq_true q202
        go_enter Tryd.func21,Tryd.ntmps21
        go_wp2_with (first|((with_reducible refine gate_dst (N:=5) rfl ?_);(try (refine gate_guard (by rfl) ?_;dsimp only));refine box_event ?hg (N:=5) ?hd (cs:=#[.int .i64 0,.string (⟨#[]⟩:ByteArray),.int .i64 0,.int .i64 0,.int .i64 0]) (t:=33) ?hr ?_;(case hd => rfl);(case hg => rfl);(case hr => first|(go_simp;done)|(go_simp;rfl));intro gb203 hg w23 hbox hb;have n0_:=Aside0.mk (below_step (by repeat (first|(with_reducible first|exact HB.out|apply below_alloc|apply pw_below_drewN|apply below_drew1)|exact HB.out)) hb);have n1_:=Aside0.mk (hbox);have n2_:=Aside0.mk ((by rw [hg];exact (below_size (by repeat (first|(with_reducible first|exact HB.out|apply below_alloc|apply pw_below_drewN|apply below_drew1)|exact HB.out))):w.heap.size≤gb203));have n3_:=Aside0.mk ((by rw [hg];exact (below_size (by repeat (first|(with_reducible first|exact HB.out|apply below_alloc|apply pw_below_drewN|apply below_drew1)|exact HB.out))):w.heap.size≤gb203));clear HB;have HB:=n0_;have BK203:=n1_;have GW203:=n2_;have GE203:=n3_;clear n0_ n1_ n2_ n3_;clear hb hbox hg;have hcz24_0:w23.cell? ⟨gb203,0,none⟩=some (.int .i64 0):=(blk_cell BK203.out 0).trans rfl;have hcz24_1:w23.cell? ⟨gb203,1,none⟩=some (.string (⟨#[]⟩:ByteArray)):=(blk_cell BK203.out 1).trans rfl;have hcz24_2:w23.cell? ⟨gb203,2,none⟩=some (.int .i64 0):=(blk_cell BK203.out 2).trans rfl;have hcz24_3:w23.cell? ⟨gb203,3,none⟩=some (.int .i64 0):=(blk_cell BK203.out 3).trans rfl;have hcz24_4:w23.cell? ⟨gb203,4,none⟩=some (.int .i64 0):=(blk_cell BK203.out 4).trans rfl;have hfz24_0:=blk_frozen BK203.out 0;have hfz24_1:=blk_frozen BK203.out 1;have hfz24_2:=blk_frozen BK203.out 2;have hfz24_3:=blk_frozen BK203.out 3;have hfz24_4:=blk_frozen BK203.out 4)|((with_reducible refine gate_store (t:=33) (p:=5) rfl ?_);refine store_event (t:=33) (p:=5) (v:=?vo_w25) (w1:=(((((w23.setCell ⟨gb203,0,none⟩ (.int .i64 ((rd_T33 l0 a1).f0))).setCell ⟨gb203,1,none⟩ (.string ((rd_T33 l0 a1).f1))).setCell ⟨gb203,2,none⟩ (.int .i64 ((rd_T33 l0 a1).f2))).setCell ⟨gb203,3,none⟩ (.int .i64 ((rd_T33 l0 a1).f3))).setCell ⟨gb203,4,none⟩ (.int .i64 ((rd_T33 l0 a1).f4)))) ?hg ?ho ?hn ?hr ?_;(case ho => rfl);(case hg => rfl);(case hn => rfl);(case hr => first|(go_simp;done)|(go_simp;rfl));intro w25 hw;have n0_:Aside0 (w25.heap[gb203]?=some (.cells #[.int .i64 ((rd_T33 l0 a1).f0),.string ((rd_T33 l0 a1).f1),.int .i64 ((rd_T33 l0 a1).f2),.int .i64 ((rd_T33 l0 a1).f3),.int .i64 ((rd_T33 l0 a1).f4)] 33 (0,0))):=⟨(by rw [hw];exact (by (with_reducible repeat (first|refine blk_drewN ?_ _|refine blk_drew ?_|refine blk_alloc ?_ _));refine blk_put (cs:=#[.int .i64 ((rd_T33 l0 a1).f0),.string ((rd_T33 l0 a1).f1),.int .i64 ((rd_T33 l0 a1).f2),.int .i64 ((rd_T33 l0 a1).f3),.int .i64 0]) ?_ 4 _ rfl;(with_reducible repeat (first|refine blk_drewN ?_ _|refine blk_drew ?_|refine blk_alloc ?_ _));refine blk_put (cs:=#[.int .i64 ((rd_T33 l0 a1).f0),.string ((rd_T33 l0 a1).f1),.int .i64 ((rd_T33 l0 a1).f2),.int .i64 0,.int .i64 0]) ?_ 3 _ rfl;(with_reducible repeat (first|refine blk_drewN ?_ _|refine blk_drew ?_|refine blk_alloc ?_ _));refine blk_put (cs:=#[.int .i64 ((rd_T33 l0 a1).f0),.string ((rd_T33 l0 a1).f1),.int .i64 0,.int .i64 0,.int .i64 0]) ?_ 2 _ rfl;(with_reducible repeat (first|refine blk_drewN ?_ _|refine blk_drew ?_|refine blk_alloc ?_ _));refine blk_put (cs:=#[.int .i64 ((rd_T33 l0 a1).f0),.string (⟨#[]⟩:ByteArray),.int .i64 0,.int .i64 0,.int .i64 0]) ?_ 1 _ rfl;(with_reducible repeat (first|refine blk_drewN ?_ _|refine blk_drew ?_|refine blk_alloc ?_ _));refine blk_put (cs:=#[.int .i64 0,.string (⟨#[]⟩:ByteArray),.int .i64 0,.int .i64 0,.int .i64 0]) ?_ 0 _ rfl;(with_reducible repeat (first|refine blk_drewN ?_ _|refine blk_drew ?_|refine blk_alloc ?_ _));exact BK203.out))⟩;have n1_:Aside0 (Below w.heap.size w w25):=⟨(by rw [hw];exact (by repeat (first|(with_reducible first|exact HB.out|apply below_alloc|apply pw_below_drewN|apply below_drew1|refine below_set ?_ GE203.out)|exact HB.out)))⟩;clear hw;clear BK203;clear HB;have BK203:=n0_;have HB:=n1_;clear n0_ n1_;have hcz26_0:w25.cell? ⟨gb203,0,none⟩=some (.int .i64 ((rd_T33 l0 a1).f0)):=(blk_cell BK203.out 0).trans rfl;have hcz26_1:w25.cell? ⟨gb203,1,none⟩=some (.string ((rd_T33 l0 a1).f1)):=(blk_cell BK203.out 1).trans rfl;have hcz26_2:w25.cell? ⟨gb203,2,none⟩=some (.int .i64 ((rd_T33 l0 a1).f2)):=(blk_cell BK203.out 2).trans rfl;have hcz26_3:w25.cell? ⟨gb203,3,none⟩=some (.int .i64 ((rd_T33 l0 a1).f3)):=(blk_cell BK203.out 3).trans rfl;have hcz26_4:w25.cell? ⟨gb203,4,none⟩=some (.int .i64 ((rd_T33 l0 a1).f4)):=(blk_cell BK203.out 4).trans rfl;have hfz26_0:=blk_frozen BK203.out 0;have hfz26_1:=blk_frozen BK203.out 1;have hfz26_2:=blk_frozen BK203.out 2;have hfz26_3:=blk_frozen BK203.out 3;have hfz26_4:=blk_frozen BK203.out 4)|((with_reducible refine gate_callee (f:=43) rfl ?_);refine goesL_ (some 14) rfl rfl Tryd.func43 (by kernel_rfl) rfl #[.agg #[.int .i64 ((rd_T33 l0 a1).f0),.string ((rd_T33 l0 a1).f1),.int .i64 ((rd_T33 l0 a1).f2),.int .i64 ((rd_T33 l0 a1).f3),.int .i64 ((rd_T33 l0 a1).f4)]] rfl (by (try simp only [List.map_toArray,List.map_cons,List.map_nil]);first|done|rfl|(simp only [List.length_drop,List.length_take];rfl)) ?_;(with_reducible refine (understudyref04_bare.calls k ((rd_T33 l0 a1).f0) ((rd_T33 l0 a1).f1) ((rd_T33 l0 a1).f2) ((rd_T33 l0 a1).f3) ((rd_T33 l0 a1).f4) true _ A5.out).mono ?_);rintro e w27 ⟨rfl,hb⟩;refine ⟨_,rfl,?_⟩;have n0_:=Aside0.mk (blk_below (g:=gb203) (o:=.cells #[.int .i64 ((rd_T33 l0 a1).f0),.string ((rd_T33 l0 a1).f1),.int .i64 ((rd_T33 l0 a1).f2),.int .i64 ((rd_T33 l0 a1).f3),.int .i64 ((rd_T33 l0 a1).f4)] 33 (0,0)) (by (with_reducible repeat (first|refine blk_drewN ?_ _|refine blk_drew ?_|refine blk_alloc ?_ _));exact BK203.out) hb);have n1_:=Aside0.mk (below_step (by repeat (first|(with_reducible first|exact HB.out|apply below_alloc|apply pw_below_drewN|apply below_drew1|refine below_set ?_ GE203.out)|exact HB.out)) hb);clear BK203;clear HB;have BK203:=n0_;have HB:=n1_;clear n0_ n1_;(try clear hb);(try clear hb2);(try clear hk);(try clear hi);have hcz28_0:w27.cell? ⟨gb203,0,none⟩=some (.int .i64 ((rd_T33 l0 a1).f0)):=(blk_cell BK203.out 0).trans rfl;have hcz28_1:w27.cell? ⟨gb203,1,none⟩=some (.string ((rd_T33 l0 a1).f1)):=(blk_cell BK203.out 1).trans rfl;have hcz28_2:w27.cell? ⟨gb203,2,none⟩=some (.int .i64 ((rd_T33 l0 a1).f2)):=(blk_cell BK203.out 2).trans rfl;have hcz28_3:w27.cell? ⟨gb203,3,none⟩=some (.int .i64 ((rd_T33 l0 a1).f3)):=(blk_cell BK203.out 3).trans rfl;have hcz28_4:w27.cell? ⟨gb203,4,none⟩=some (.int .i64 ((rd_T33 l0 a1).f4)):=(blk_cell BK203.out 4).trans rfl;have hfz28_0:=blk_frozen BK203.out 0;have hfz28_1:=blk_frozen BK203.out 1;have hfz28_2:=blk_frozen BK203.out 2;have hfz28_3:=blk_frozen BK203.out 3;have hfz28_4:=blk_frozen BK203.out 4))
        go_ret
        exact ⟨by first|rfl|(simp [errW_none,errW_some] <;> rfl)|(simp [*,errW_none,errW_some] <;> rfl),by repeat (first|(with_reducible first|exact HB.out|apply below_alloc|apply pw_below_drewN|apply below_drew1|refine below_set ?_ GE203.out)|exact HB.out)⟩
       ·rw [if_neg c22] at H
        have c22b0:decide (((rd_T33 l0 a1).f2)≤2147483647)=false:=decide_eq_false c22
        clear c22
        obtain rfl:=Option.some.inj H
        have p202:0≤(a1:Int):=of_decide_eq_true (by first|(with_reducible assumption)|assumption)
        have q202:a1 < (l0.length:Int):=of_decide_eq_true (by first|(with_reducible assumption)|assumption)
        obtain ⟨ad202,e202,hx202_0,hx202_1,hx202_2,hx202_3,hx202_4⟩:=at_T33 HR0.out a1 p202 q202
        cases e202
        replace p202:=eq_true p202
        replace q202:=eq_true q202
        go_enter Tryd.func21,Tryd.ntmps21
        go_wp2_with (first|((with_reducible refine gate_dst (N:=5) rfl ?_);(try (refine gate_guard (by rfl) ?_;dsimp only));refine box_event ?hg (N:=5) ?hd (cs:=#[.int .i64 0,.string (⟨#[]⟩:ByteArray),.int .i64 0,.int .i64 0,.int .i64 0]) (t:=33) ?hr ?_;(case hd => rfl);(case hg => rfl);(case hr => first|(go_simp;done)|(go_simp;rfl));intro gb203 hg w29 hbox hb;have n0_:=Aside0.mk (below_step (by repeat (first|(with_reducible first|exact HB.out|apply below_alloc|apply pw_below_drewN|apply below_drew1)|exact HB.out)) hb);have n1_:=Aside0.mk (hbox);have n2_:=Aside0.mk ((by rw [hg];exact (below_size (by repeat (first|(with_reducible first|exact HB.out|apply below_alloc|apply pw_below_drewN|apply below_drew1)|exact HB.out))):w.heap.size≤gb203));have n3_:=Aside0.mk ((by rw [hg];exact (below_size (by repeat (first|(with_reducible first|exact HB.out|apply below_alloc|apply pw_below_drewN|apply below_drew1)|exact HB.out))):w.heap.size≤gb203));clear HB;have HB:=n0_;have BK203:=n1_;have GW203:=n2_;have GE203:=n3_;clear n0_ n1_ n2_ n3_;clear hb hbox hg;have hcz30_0:w29.cell? ⟨gb203,0,none⟩=some (.int .i64 0):=(blk_cell BK203.out 0).trans rfl;have hcz30_1:w29.cell? ⟨gb203,1,none⟩=some (.string (⟨#[]⟩:ByteArray)):=(blk_cell BK203.out 1).trans rfl;have hcz30_2:w29.cell? ⟨gb203,2,none⟩=some (.int .i64 0):=(blk_cell BK203.out 2).trans rfl;have hcz30_3:w29.cell? ⟨gb203,3,none⟩=some (.int .i64 0):=(blk_cell BK203.out 3).trans rfl;have hcz30_4:w29.cell? ⟨gb203,4,none⟩=some (.int .i64 0):=(blk_cell BK203.out 4).trans rfl;have hfz30_0:=blk_frozen BK203.out 0;have hfz30_1:=blk_frozen BK203.out 1;have hfz30_2:=blk_frozen BK203.out 2;have hfz30_3:=blk_frozen BK203.out 3;have hfz30_4:=blk_frozen BK203.out 4)|((with_reducible refine gate_store (t:=33) (p:=5) rfl ?_);refine store_event (t:=33) (p:=5) (v:=?vo_w31) (w1:=(((((w29.setCell ⟨gb203,0,none⟩ (.int .i64 ((rd_T33 l0 a1).f0))).setCell ⟨gb203,1,none⟩ (.string ((rd_T33 l0 a1).f1))).setCell ⟨gb203,2,none⟩ (.int .i64 ((rd_T33 l0 a1).f2))).setCell ⟨gb203,3,none⟩ (.int .i64 ((rd_T33 l0 a1).f3))).setCell ⟨gb203,4,none⟩ (.int .i64 ((rd_T33 l0 a1).f4)))) ?hg ?ho ?hn ?hr ?_;(case ho => rfl);(case hg => rfl);(case hn => rfl);(case hr => first|(go_simp;done)|(go_simp;rfl));intro w31 hw;have n0_:Aside0 (w31.heap[gb203]?=some (.cells #[.int .i64 ((rd_T33 l0 a1).f0),.string ((rd_T33 l0 a1).f1),.int .i64 ((rd_T33 l0 a1).f2),.int .i64 ((rd_T33 l0 a1).f3),.int .i64 ((rd_T33 l0 a1).f4)] 33 (0,0))):=⟨(by rw [hw];exact (by (with_reducible repeat (first|refine blk_drewN ?_ _|refine blk_drew ?_|refine blk_alloc ?_ _));refine blk_put (cs:=#[.int .i64 ((rd_T33 l0 a1).f0),.string ((rd_T33 l0 a1).f1),.int .i64 ((rd_T33 l0 a1).f2),.int .i64 ((rd_T33 l0 a1).f3),.int .i64 0]) ?_ 4 _ rfl;(with_reducible repeat (first|refine blk_drewN ?_ _|refine blk_drew ?_|refine blk_alloc ?_ _));refine blk_put (cs:=#[.int .i64 ((rd_T33 l0 a1).f0),.string ((rd_T33 l0 a1).f1),.int .i64 ((rd_T33 l0 a1).f2),.int .i64 0,.int .i64 0]) ?_ 3 _ rfl;(with_reducible repeat (first|refine blk_drewN ?_ _|refine blk_drew ?_|refine blk_alloc ?_ _));refine blk_put (cs:=#[.int .i64 ((rd_T33 l0 a1).f0),.string ((rd_T33 l0 a1).f1),.int .i64 0,.int .i64 0,.int .i64 0]) ?_ 2 _ rfl;(with_reducible repeat (first|refine blk_drewN ?_ _|refine blk_drew ?_|refine blk_alloc ?_ _));refine blk_put (cs:=#[.int .i64 ((rd_T33 l0 a1).f0),.string (⟨#[]⟩:ByteArray),.int .i64 0,.int .i64 0,.int .i64 0]) ?_ 1 _ rfl;(with_reducible repeat (first|refine blk_drewN ?_ _|refine blk_drew ?_|refine blk_alloc ?_ _));refine blk_put (cs:=#[.int .i64 0,.string (⟨#[]⟩:ByteArray),.int .i64 0,.int .i64 0,.int .i64 0]) ?_ 0 _ rfl;(with_reducible repeat (first|refine blk_drewN ?_ _|refine blk_drew ?_|refine blk_alloc ?_ _));exact BK203.out))⟩;have n1_:Aside0 (Below w.heap.size w w31):=⟨(by rw [hw];exact (by repeat (first|(with_reducible first|exact HB.out|apply below_alloc|apply pw_below_drewN|apply below_drew1|refine below_set ?_ GE203.out)|exact HB.out)))⟩;clear hw;clear BK203;clear HB;have BK203:=n0_;have HB:=n1_;clear n0_ n1_;have hcz32_0:w31.cell? ⟨gb203,0,none⟩=some (.int .i64 ((rd_T33 l0 a1).f0)):=(blk_cell BK203.out 0).trans rfl;have hcz32_1:w31.cell? ⟨gb203,1,none⟩=some (.string ((rd_T33 l0 a1).f1)):=(blk_cell BK203.out 1).trans rfl;have hcz32_2:w31.cell? ⟨gb203,2,none⟩=some (.int .i64 ((rd_T33 l0 a1).f2)):=(blk_cell BK203.out 2).trans rfl;have hcz32_3:w31.cell? ⟨gb203,3,none⟩=some (.int .i64 ((rd_T33 l0 a1).f3)):=(blk_cell BK203.out 3).trans rfl;have hcz32_4:w31.cell? ⟨gb203,4,none⟩=some (.int .i64 ((rd_T33 l0 a1).f4)):=(blk_cell BK203.out 4).trans rfl;have hfz32_0:=blk_frozen BK203.out 0;have hfz32_1:=blk_frozen BK203.out 1;have hfz32_2:=blk_frozen BK203.out 2;have hfz32_3:=blk_frozen BK203.out 3;have hfz32_4:=blk_frozen BK203.out 4)|((with_reducible refine gate_callee (f:=43) rfl ?_);refine goesL_ (some 14) rfl rfl Tryd.func43 (by kernel_rfl) rfl #[.agg #[.int .i64 ((rd_T33 l0 a1).f0),.string ((rd_T33 l0 a1).f1),.int .i64 ((rd_T33 l0 a1).f2),.int .i64 ((rd_T33 l0 a1).f3),.int .i64 ((rd_T33 l0 a1).f4)]] rfl (by (try simp only [List.map_toArray,List.map_cons,List.map_nil]);first|done|rfl|(simp only [List.length_drop,List.length_take];rfl)) ?_;(with_reducible refine (understudyref04_bare.calls k ((rd_T33 l0 a1).f0) ((rd_T33 l0 a1).f1) ((rd_T33 l0 a1).f2) ((rd_T33 l0 a1).f3) ((rd_T33 l0 a1).f4) true _ A5.out).mono ?_);rintro e w33 ⟨rfl,hb⟩;refine ⟨_,rfl,?_⟩;have n0_:=Aside0.mk (blk_below (g:=gb203) (o:=.cells #[.int .i64 ((rd_T33 l0 a1).f0),.string ((rd_T33 l0 a1).f1),.int .i64 ((rd_T33 l0 a1).f2),.int .i64 ((rd_T33 l0 a1).f3),.int .i64 ((rd_T33 l0 a1).f4)] 33 (0,0)) (by (with_reducible repeat (first|refine blk_drewN ?_ _|refine blk_drew ?_|refine blk_alloc ?_ _));exact BK203.out) hb);have n1_:=Aside0.mk (below_step (by repeat (first|(with_reducible first|exact HB.out|apply below_alloc|apply pw_below_drewN|apply below_drew1|refine below_set ?_ GE203.out)|exact HB.out)) hb);clear BK203;clear HB;have BK203:=n0_;have HB:=n1_;clear n0_ n1_;(try clear hb);(try clear hb2);(try clear hk);(try clear hi);have hcz34_0:w33.cell? ⟨gb203,0,none⟩=some (.int .i64 ((rd_T33 l0 a1).f0)):=(blk_cell BK203.out 0).trans rfl;have hcz34_1:w33.cell? ⟨gb203,1,none⟩=some (.string ((rd_T33 l0 a1).f1)):=(blk_cell BK203.out 1).trans rfl;have hcz34_2:w33.cell? ⟨gb203,2,none⟩=some (.int .i64 ((rd_T33 l0 a1).f2)):=(blk_cell BK203.out 2).trans rfl;have hcz34_3:w33.cell? ⟨gb203,3,none⟩=some (.int .i64 ((rd_T33 l0 a1).f3)):=(blk_cell BK203.out 3).trans rfl;have hcz34_4:w33.cell? ⟨gb203,4,none⟩=some (.int .i64 ((rd_T33 l0 a1).f4)):=(blk_cell BK203.out 4).trans rfl;have hfz34_0:=blk_frozen BK203.out 0;have hfz34_1:=blk_frozen BK203.out 1;have hfz34_2:=blk_frozen BK203.out 2;have hfz34_3:=blk_frozen BK203.out 3;have hfz34_4:=blk_frozen BK203.out 4))
        go_ret
        exact ⟨by first|rfl|(simp [errW_none,errW_some] <;> rfl)|(simp [*,errW_none,errW_some] <;> rfl),by repeat (first|(with_reducible first|exact HB.out|apply below_alloc|apply pw_below_drewN|apply below_drew1|refine below_set ?_ GE203.out)|exact HB.out)⟩
      ·rw [if_neg c21] at H
       have c21b0:decide ((-2147483648)≤((rd_T33 l0 a1).f2))=false:=decide_eq_false c21
       clear c21
       obtain rfl:=Option.some.inj H
       have p202:0≤(a1:Int):=of_decide_eq_true (by first|(with_reducible assumption)|assumption)
       have q202:a1 < (l0.length:Int):=of_decide_eq_true (by first|(with_reducible assumption)|assumption)
       obtain ⟨ad202,e202,hx202_0,hx202_1,hx202_2,hx202_3,hx202_4⟩:=at_T33 HR0.out a1 p202 q202
       cases e202
       replace p202:=eq_true p202
       replace q202:=eq_true q202
       go_enter Tryd.func21,Tryd.ntmps21
       go_wp2_with (first|((with_reducible refine gate_dst (N:=5) rfl ?_);(try (refine gate_guard (by rfl) ?_;dsimp only));refine box_event ?hg (N:=5) ?hd (cs:=#[.int .i64 0,.string (⟨#[]⟩:ByteArray),.int .i64 0,.int .i64 0,.int .i64 0]) (t:=33) ?hr ?_;(case hd => rfl);(case hg => rfl);(case hr => first|(go_simp;done)|(go_simp;rfl));intro gb203 hg w35 hbox hb;have n0_:=Aside0.mk (below_step (by repeat (first|(with_reducible first|exact HB.out|apply below_alloc|apply pw_below_drewN|apply below_drew1)|exact HB.out)) hb);have n1_:=Aside0.mk (hbox);have n2_:=Aside0.mk ((by rw [hg];exact (below_size (by repeat (first|(with_reducible first|exact HB.out|apply below_alloc|apply pw_below_drewN|apply below_drew1)|exact HB.out))):w.heap.size≤gb203));have n3_:=Aside0.mk ((by rw [hg];exact (below_size (by repeat (first|(with_reducible first|exact HB.out|apply below_alloc|apply pw_below_drewN|apply below_drew1)|exact HB.out))):w.heap.size≤gb203));clear HB;have HB:=n0_;have BK203:=n1_;have GW203:=n2_;have GE203:=n3_;clear n0_ n1_ n2_ n3_;clear hb hbox hg;have hcz36_0:w35.cell? ⟨gb203,0,none⟩=some (.int .i64 0):=(blk_cell BK203.out 0).trans rfl;have hcz36_1:w35.cell? ⟨gb203,1,none⟩=some (.string (⟨#[]⟩:ByteArray)):=(blk_cell BK203.out 1).trans rfl;have hcz36_2:w35.cell? ⟨gb203,2,none⟩=some (.int .i64 0):=(blk_cell BK203.out 2).trans rfl;have hcz36_3:w35.cell? ⟨gb203,3,none⟩=some (.int .i64 0):=(blk_cell BK203.out 3).trans rfl;have hcz36_4:w35.cell? ⟨gb203,4,none⟩=some (.int .i64 0):=(blk_cell BK203.out 4).trans rfl;have hfz36_0:=blk_frozen BK203.out 0;have hfz36_1:=blk_frozen BK203.out 1;have hfz36_2:=blk_frozen BK203.out 2;have hfz36_3:=blk_frozen BK203.out 3;have hfz36_4:=blk_frozen BK203.out 4)|((with_reducible refine gate_store (t:=33) (p:=5) rfl ?_);refine store_event (t:=33) (p:=5) (v:=?vo_w37) (w1:=(((((w35.setCell ⟨gb203,0,none⟩ (.int .i64 ((rd_T33 l0 a1).f0))).setCell ⟨gb203,1,none⟩ (.string ((rd_T33 l0 a1).f1))).setCell ⟨gb203,2,none⟩ (.int .i64 ((rd_T33 l0 a1).f2))).setCell ⟨gb203,3,none⟩ (.int .i64 ((rd_T33 l0 a1).f3))).setCell ⟨gb203,4,none⟩ (.int .i64 ((rd_T33 l0 a1).f4)))) ?hg ?ho ?hn ?hr ?_;(case ho => rfl);(case hg => rfl);(case hn => rfl);(case hr => first|(go_simp;done)|(go_simp;rfl));intro w37 hw;have n0_:Aside0 (w37.heap[gb203]?=some (.cells #[.int .i64 ((rd_T33 l0 a1).f0),.string ((rd_T33 l0 a1).f1),.int .i64 ((rd_T33 l0 a1).f2),.int .i64 ((rd_T33 l0 a1).f3),.int .i64 ((rd_T33 l0 a1).f4)] 33 (0,0))):=⟨(by rw [hw];exact (by (with_reducible repeat (first|refine blk_drewN ?_ _|refine blk_drew ?_|refine blk_alloc ?_ _));refine blk_put (cs:=#[.int .i64 ((rd_T33 l0 a1).f0),.string ((rd_T33 l0 a1).f1),.int .i64 ((rd_T33 l0 a1).f2),.int .i64 ((rd_T33 l0 a1).f3),.int .i64 0]) ?_ 4 _ rfl;(with_reducible repeat (first|refine blk_drewN ?_ _|refine blk_drew ?_|refine blk_alloc ?_ _));refine blk_put (cs:=#[.int .i64 ((rd_T33 l0 a1).f0),.string ((rd_T33 l0 a1).f1),.int .i64 ((rd_T33 l0 a1).f2),.int .i64 0,.int .i64 0]) ?_ 3 _ rfl;(with_reducible repeat (first|refine blk_drewN ?_ _|refine blk_drew ?_|refine blk_alloc ?_ _));refine blk_put (cs:=#[.int .i64 ((rd_T33 l0 a1).f0),.string ((rd_T33 l0 a1).f1),.int .i64 0,.int .i64 0,.int .i64 0]) ?_ 2 _ rfl;(with_reducible repeat (first|refine blk_drewN ?_ _|refine blk_drew ?_|refine blk_alloc ?_ _));refine blk_put (cs:=#[.int .i64 ((rd_T33 l0 a1).f0),.string (⟨#[]⟩:ByteArray),.int .i64 0,.int .i64 0,.int .i64 0]) ?_ 1 _ rfl;(with_reducible repeat (first|refine blk_drewN ?_ _|refine blk_drew ?_|refine blk_alloc ?_ _));refine blk_put (cs:=#[.int .i64 0,.string (⟨#[]⟩:ByteArray),.int .i64 0,.int .i64 0,.int .i64 0]) ?_ 0 _ rfl;(with_reducible repeat (first|refine blk_drewN ?_ _|refine blk_drew ?_|refine blk_alloc ?_ _));exact BK203.out))⟩;have n1_:Aside0 (Below w.heap.size w w37):=⟨(by rw [hw];exact (by repeat (first|(with_reducible first|exact HB.out|apply below_alloc|apply pw_below_drewN|apply below_drew1|refine below_set ?_ GE203.out)|exact HB.out)))⟩;clear hw;clear BK203;clear HB;have BK203:=n0_;have HB:=n1_;clear n0_ n1_;have hcz38_0:w37.cell? ⟨gb203,0,none⟩=some (.int .i64 ((rd_T33 l0 a1).f0)):=(blk_cell BK203.out 0).trans rfl;have hcz38_1:w37.cell? ⟨gb203,1,none⟩=some (.string ((rd_T33 l0 a1).f1)):=(blk_cell BK203.out 1).trans rfl;have hcz38_2:w37.cell? ⟨gb203,2,none⟩=some (.int .i64 ((rd_T33 l0 a1).f2)):=(blk_cell BK203.out 2).trans rfl;have hcz38_3:w37.cell? ⟨gb203,3,none⟩=some (.int .i64 ((rd_T33 l0 a1).f3)):=(blk_cell BK203.out 3).trans rfl;have hcz38_4:w37.cell? ⟨gb203,4,none⟩=some (.int .i64 ((rd_T33 l0 a1).f4)):=(blk_cell BK203.out 4).trans rfl;have hfz38_0:=blk_frozen BK203.out 0;have hfz38_1:=blk_frozen BK203.out 1;have hfz38_2:=blk_frozen BK203.out 2;have hfz38_3:=blk_frozen BK203.out 3;have hfz38_4:=blk_frozen BK203.out 4)|((with_reducible refine gate_callee (f:=43) rfl ?_);refine goesL_ (some 14) rfl rfl Tryd.func43 (by kernel_rfl) rfl #[.agg #[.int .i64 ((rd_T33 l0 a1).f0),.string ((rd_T33 l0 a1).f1),.int .i64 ((rd_T33 l0 a1).f2),.int .i64 ((rd_T33 l0 a1).f3),.int .i64 ((rd_T33 l0 a1).f4)]] rfl (by (try simp only [List.map_toArray,List.map_cons,List.map_nil]);first|done|rfl|(simp only [List.length_drop,List.length_take];rfl)) ?_;(with_reducible refine (understudyref04_bare.calls k ((rd_T33 l0 a1).f0) ((rd_T33 l0 a1).f1) ((rd_T33 l0 a1).f2) ((rd_T33 l0 a1).f3) ((rd_T33 l0 a1).f4) true _ A5.out).mono ?_);rintro e w39 ⟨rfl,hb⟩;refine ⟨_,rfl,?_⟩;have n0_:=Aside0.mk (blk_below (g:=gb203) (o:=.cells #[.int .i64 ((rd_T33 l0 a1).f0),.string ((rd_T33 l0 a1).f1),.int .i64 ((rd_T33 l0 a1).f2),.int .i64 ((rd_T33 l0 a1).f3),.int .i64 ((rd_T33 l0 a1).f4)] 33 (0,0)) (by (with_reducible repeat (first|refine blk_drewN ?_ _|refine blk_drew ?_|refine blk_alloc ?_ _));exact BK203.out) hb);have n1_:=Aside0.mk (below_step (by repeat (first|(with_reducible first|exact HB.out|apply below_alloc|apply pw_below_drewN|apply below_drew1|refine below_set ?_ GE203.out)|exact HB.out)) hb);clear BK203;clear HB;have BK203:=n0_;have HB:=n1_;clear n0_ n1_;(try clear hb);(try clear hb2);(try clear hk);(try clear hi);have hcz40_0:w39.cell? ⟨gb203,0,none⟩=some (.int .i64 ((rd_T33 l0 a1).f0)):=(blk_cell BK203.out 0).trans rfl;have hcz40_1:w39.cell? ⟨gb203,1,none⟩=some (.string ((rd_T33 l0 a1).f1)):=(blk_cell BK203.out 1).trans rfl;have hcz40_2:w39.cell? ⟨gb203,2,none⟩=some (.int .i64 ((rd_T33 l0 a1).f2)):=(blk_cell BK203.out 2).trans rfl;have hcz40_3:w39.cell? ⟨gb203,3,none⟩=some (.int .i64 ((rd_T33 l0 a1).f3)):=(blk_cell BK203.out 3).trans rfl;have hcz40_4:w39.cell? ⟨gb203,4,none⟩=some (.int .i64 ((rd_T33 l0 a1).f4)):=(blk_cell BK203.out 4).trans rfl;have hfz40_0:=blk_frozen BK203.out 0;have hfz40_1:=blk_frozen BK203.out 1;have hfz40_2:=blk_frozen BK203.out 2;have hfz40_3:=blk_frozen BK203.out 3;have hfz40_4:=blk_frozen BK203.out 4))
       go_ret
       exact ⟨by first|rfl|(simp [errW_none,errW_some] <;> rfl)|(simp [*,errW_none,errW_some] <;> rfl),by repeat (first|(with_reducible first|exact HB.out|apply below_alloc|apply pw_below_drewN|apply below_drew1|refine below_set ?_ GE203.out)|exact HB.out)⟩
     ·rw [if_neg c20] at H
      have c20b0:(((rd_T33 l0 a1).f0)==3)=false:=beq_eq_false_iff_ne.mpr c20
      have c20b1:(((rd_T33 l0 a1).f0) != 3)=true:=bne_iff_ne.mpr c20
      by_cases c41:((rd_T33 l0 a1).f0)=5
      ·rw [if_pos c41] at H
       have c41b0:(((rd_T33 l0 a1).f0)==5)=true:=beq_iff_eq.mpr c41
       have c41b1:(((rd_T33 l0 a1).f0) != 5)=false:=bne_eq_false_iff_eq.mpr c41
       clear c41
       obtain rfl:=Option.some.inj H
       have p202:0≤(a1:Int):=of_decide_eq_true (by first|(with_reducible assumption)|assumption)
       have q202:a1 < (l0.length:Int):=of_decide_eq_true (by first|(with_reducible assumption)|assumption)
       obtain ⟨ad202,e202,hx202_0,hx202_1,hx202_2,hx202_3,hx202_4⟩:=at_T33 HR0.out a1 p202 q202
       cases e202
       replace p202:=eq_true p202
       replace q202:=eq_true q202
       go_enter Tryd.func21,Tryd.ntmps21
       go_wp2_with (first|((with_reducible refine gate_dst (N:=5) rfl ?_);(try (refine gate_guard (by rfl) ?_;dsimp only));refine box_event ?hg (N:=5) ?hd (cs:=#[.int .i64 0,.string (⟨#[]⟩:ByteArray),.int .i64 0,.int .i64 0,.int .i64 0]) (t:=33) ?hr ?_;(case hd => rfl);(case hg => rfl);(case hr => first|(go_simp;done)|(go_simp;rfl));intro gb203 hg w42 hbox hb;have n0_:=Aside0.mk (below_step (by repeat (first|(with_reducible first|exact HB.out|apply below_alloc|apply pw_below_drewN|apply below_drew1)|exact HB.out)) hb);have n1_:=Aside0.mk (hbox);have n2_:=Aside0.mk ((by rw [hg];exact (below_size (by repeat (first|(with_reducible first|exact HB.out|apply below_alloc|apply pw_below_drewN|apply below_drew1)|exact HB.out))):w.heap.size≤gb203));have n3_:=Aside0.mk ((by rw [hg];exact (below_size (by repeat (first|(with_reducible first|exact HB.out|apply below_alloc|apply pw_below_drewN|apply below_drew1)|exact HB.out))):w.heap.size≤gb203));clear HB;have HB:=n0_;have BK203:=n1_;have GW203:=n2_;have GE203:=n3_;clear n0_ n1_ n2_ n3_;clear hb hbox hg;have hcz43_0:w42.cell? ⟨gb203,0,none⟩=some (.int .i64 0):=(blk_cell BK203.out 0).trans rfl;have hcz43_1:w42.cell? ⟨gb203,1,none⟩=some (.string (⟨#[]⟩:ByteArray)):=(blk_cell BK203.out 1).trans rfl;have hcz43_2:w42.cell? ⟨gb203,2,none⟩=some (.int .i64 0):=(blk_cell BK203.out 2).trans rfl;have hcz43_3:w42.cell? ⟨gb203,3,none⟩=some (.int .i64 0):=(blk_cell BK203.out 3).trans rfl;have hcz43_4:w42.cell? ⟨gb203,4,none⟩=some (.int .i64 0):=(blk_cell BK203.out 4).trans rfl;have hfz43_0:=blk_frozen BK203.out 0;have hfz43_1:=blk_frozen BK203.out 1;have hfz43_2:=blk_frozen BK203.out 2;have hfz43_3:=blk_frozen BK203.out 3;have hfz43_4:=blk_frozen BK203.out 4)|((with_reducible refine gate_store (t:=33) (p:=5) rfl ?_);refine store_event (t:=33) (p:=5) (v:=?vo_w44) (w1:=(((((w42.setCell ⟨gb203,0,none⟩ (.int .i64 ((rd_T33 l0 a1).f0))).setCell ⟨gb203,1,none⟩ (.string ((rd_T33 l0 a1).f1))).setCell ⟨gb203,2,none⟩ (.int .i64 ((rd_T33 l0 a1).f2))).setCell ⟨gb203,3,none⟩ (.int .i64 ((rd_T33 l0 a1).f3))).setCell ⟨gb203,4,none⟩ (.int .i64 ((rd_T33 l0 a1).f4)))) ?hg ?ho ?hn ?hr ?_;(case ho => rfl);(case hg => rfl);(case hn => rfl);(case hr => first|(go_simp;done)|(go_simp;rfl));intro w44 hw;have n0_:Aside0 (w44.heap[gb203]?=some (.cells #[.int .i64 ((rd_T33 l0 a1).f0),.string ((rd_T33 l0 a1).f1),.int .i64 ((rd_T33 l0 a1).f2),.int .i64 ((rd_T33 l0 a1).f3),.int .i64 ((rd_T33 l0 a1).f4)] 33 (0,0))):=⟨(by rw [hw];exact (by (with_reducible repeat (first|refine blk_drewN ?_ _|refine blk_drew ?_|refine blk_alloc ?_ _));refine blk_put (cs:=#[.int .i64 ((rd_T33 l0 a1).f0),.string ((rd_T33 l0 a1).f1),.int .i64 ((rd_T33 l0 a1).f2),.int .i64 ((rd_T33 l0 a1).f3),.int .i64 0]) ?_ 4 _ rfl;(with_reducible repeat (first|refine blk_drewN ?_ _|refine blk_drew ?_|refine blk_alloc ?_ _));refine blk_put (cs:=#[.int .i64 ((rd_T33 l0 a1).f0),.string ((rd_T33 l0 a1).f1),.int .i64 ((rd_T33 l0 a1).f2),.int .i64 0,.int .i64 0]) ?_ 3 _ rfl;(with_reducible repeat (first|refine blk_drewN ?_ _|refine blk_drew ?_|refine blk_alloc ?_ _));refine blk_put (cs:=#[.int .i64 ((rd_T33 l0 a1).f0),.string ((rd_T33 l0 a1).f1),.int .i64 0,.int .i64 0,.int .i64 0]) ?_ 2 _ rfl;(with_reducible repeat (first|refine blk_drewN ?_ _|refine blk_drew ?_|refine blk_alloc ?_ _));refine blk_put (cs:=#[.int .i64 ((rd_T33 l0 a1).f0),.string (⟨#[]⟩:ByteArray),.int .i64 0,.int .i64 0,.int .i64 0]) ?_ 1 _ rfl;(with_reducible repeat (first|refine blk_drewN ?_ _|refine blk_drew ?_|refine blk_alloc ?_ _));refine blk_put (cs:=#[.int .i64 0,.string (⟨#[]⟩:ByteArray),.int .i64 0,.int .i64 0,.int .i64 0]) ?_ 0 _ rfl;(with_reducible repeat (first|refine blk_drewN ?_ _|refine blk_drew ?_|refine blk_alloc ?_ _));exact BK203.out))⟩;have n1_:Aside0 (Below w.heap.size w w44):=⟨(by rw [hw];exact (by repeat (first|(with_reducible first|exact HB.out|apply below_alloc|apply pw_below_drewN|apply below_drew1|refine below_set ?_ GE203.out)|exact HB.out)))⟩;clear hw;clear BK203;clear HB;have BK203:=n0_;have HB:=n1_;clear n0_ n1_;have hcz45_0:w44.cell? ⟨gb203,0,none⟩=some (.int .i64 ((rd_T33 l0 a1).f0)):=(blk_cell BK203.out 0).trans rfl;have hcz45_1:w44.cell? ⟨gb203,1,none⟩=some (.string ((rd_T33 l0 a1).f1)):=(blk_cell BK203.out 1).trans rfl;have hcz45_2:w44.cell? ⟨gb203,2,none⟩=some (.int .i64 ((rd_T33 l0 a1).f2)):=(blk_cell BK203.out 2).trans rfl;have hcz45_3:w44.cell? ⟨gb203,3,none⟩=some (.int .i64 ((rd_T33 l0 a1).f3)):=(blk_cell BK203.out 3).trans rfl;have hcz45_4:w44.cell? ⟨gb203,4,none⟩=some (.int .i64 ((rd_T33 l0 a1).f4)):=(blk_cell BK203.out 4).trans rfl;have hfz45_0:=blk_frozen BK203.out 0;have hfz45_1:=blk_frozen BK203.out 1;have hfz45_2:=blk_frozen BK203.out 2;have hfz45_3:=blk_frozen BK203.out 3;have hfz45_4:=blk_frozen BK203.out 4)|((with_reducible refine gate_callee (f:=43) rfl ?_);refine goesL_ (some 14) rfl rfl Tryd.func43 (by kernel_rfl) rfl #[.agg #[.int .i64 ((rd_T33 l0 a1).f0),.string ((rd_T33 l0 a1).f1),.int .i64 ((rd_T33 l0 a1).f2),.int .i64 ((rd_T33 l0 a1).f3),.int .i64 ((rd_T33 l0 a1).f4)]] rfl (by (try simp only [List.map_toArray,List.map_cons,List.map_nil]);first|done|rfl|(simp only [List.length_drop,List.length_take];rfl)) ?_;(with_reducible refine (understudyref04_bare.calls k ((rd_T33 l0 a1).f0) ((rd_T33 l0 a1).f1) ((rd_T33 l0 a1).f2) ((rd_T33 l0 a1).f3) ((rd_T33 l0 a1).f4) true _ A5.out).mono ?_);rintro e w46 ⟨rfl,hb⟩;refine ⟨_,rfl,?_⟩;have n0_:=Aside0.mk (blk_below (g:=gb203) (o:=.cells #[.int .i64 ((rd_T33 l0 a1).f0),.string ((rd_T33 l0 a1).f1),.int .i64 ((rd_T33 l0 a1).f2),.int .i64 ((rd_T33 l0 a1).f3),.int .i64 ((rd_T33 l0 a1).f4)] 33 (0,0)) (by (with_reducible repeat (first|refine blk_drewN ?_ _|refine blk_drew ?_|refine blk_alloc ?_ _));exact BK203.out) hb);have n1_:=Aside0.mk (below_step (by repeat (first|(with_reducible first|exact HB.out|apply below_alloc|apply pw_below_drewN|apply below_drew1|refine below_set ?_ GE203.out)|exact HB.out)) hb);clear BK203;clear HB;have BK203:=n0_;have HB:=n1_;clear n0_ n1_;(try clear hb);(try clear hb2);(try clear hk);(try clear hi);have hcz47_0:w46.cell? ⟨gb203,0,none⟩=some (.int .i64 ((rd_T33 l0 a1).f0)):=(blk_cell BK203.out 0).trans rfl;have hcz47_1:w46.cell? ⟨gb203,1,none⟩=some (.string ((rd_T33 l0 a1).f1)):=(blk_cell BK203.out 1).trans rfl;have hcz47_2:w46.cell? ⟨gb203,2,none⟩=some (.int .i64 ((rd_T33 l0 a1).f2)):=(blk_cell BK203.out 2).trans rfl;have hcz47_3:w46.cell? ⟨gb203,3,none⟩=some (.int .i64 ((rd_T33 l0 a1).f3)):=(blk_cell BK203.out 3).trans rfl;have hcz47_4:w46.cell? ⟨gb203,4,none⟩=some (.int .i64 ((rd_T33 l0 a1).f4)):=(blk_cell BK203.out 4).trans rfl;have hfz47_0:=blk_frozen BK203.out 0;have hfz47_1:=blk_frozen BK203.out 1;have hfz47_2:=blk_frozen BK203.out 2;have hfz47_3:=blk_frozen BK203.out 3;have hfz47_4:=blk_frozen BK203.out 4))
       go_ret
       exact ⟨by first|rfl|(simp [errW_none,errW_some] <;> rfl)|(simp [*,errW_none,errW_some] <;> rfl),by repeat (first|(with_reducible first|exact HB.out|apply below_alloc|apply pw_below_drewN|apply below_drew1|refine below_set ?_ GE203.out)|exact HB.out)⟩
      ·rw [if_neg c41] at H
       have c41b0:(((rd_T33 l0 a1).f0)==5)=false:=beq_eq_false_iff_ne.mpr c41
       have c41b1:(((rd_T33 l0 a1).f0) != 5)=true:=bne_iff_ne.mpr c41
       by_cases c48:((rd_T33 l0 a1).f0)=7
       ·rw [if_pos c48] at H
        have c48b0:(((rd_T33 l0 a1).f0)==7)=true:=beq_iff_eq.mpr c48
        have c48b1:(((rd_T33 l0 a1).f0) != 7)=false:=bne_eq_false_iff_eq.mpr c48
        clear c48
        replace H:=Option.bind_eq_some_iff.mp H
        obtain ⟨t209,A490,H⟩:=H
        replace H:(if t209=true then (some 0) else (some 40))=some r:=H
        have A49:=Aside0.mk A490
        clear A490
        by_cases c50:t209=true
        ·subst c50
         have H1:(some 0)=some r:=by rw [if_pos rfl] at H;exact H
         clear H
         have H:=H1
         clear H1
         obtain rfl:=Option.some.inj H
         have p202:0≤(a1:Int):=of_decide_eq_true (by first|(with_reducible assumption)|assumption)
         have q202:a1 < (l0.length:Int):=of_decide_eq_true (by first|(with_reducible assumption)|assumption)
         obtain ⟨ad202,e202,hx202_0,hx202_1,hx202_2,hx202_3,hx202_4⟩:=at_T33 HR0.out a1 p202 q202
         cases e202
         replace p202:=eq_true p202
         replace q202:=eq_true q202
         go_enter Tryd.func21,Tryd.ntmps21
         go_wp2_with (first|((with_reducible refine gate_dst (N:=5) rfl ?_);(try (refine gate_guard (by rfl) ?_;dsimp only));refine box_event ?hg (N:=5) ?hd (cs:=#[.int .i64 0,.string (⟨#[]⟩:ByteArray),.int .i64 0,.int .i64 0,.int .i64 0]) (t:=33) ?hr ?_;(case hd => rfl);(case hg => rfl);(case hr => first|(go_simp;done)|(go_simp;rfl));intro gb203 hg w51 hbox hb;have n0_:=Aside0.mk (below_step (by repeat (first|(with_reducible first|exact HB.out|apply below_alloc|apply pw_below_drewN|apply below_drew1)|exact HB.out)) hb);have n1_:=Aside0.mk (hbox);have n2_:=Aside0.mk ((by rw [hg];exact (below_size (by repeat (first|(with_reducible first|exact HB.out|apply below_alloc|apply pw_below_drewN|apply below_drew1)|exact HB.out))):w.heap.size≤gb203));have n3_:=Aside0.mk ((by rw [hg];exact (below_size (by repeat (first|(with_reducible first|exact HB.out|apply below_alloc|apply pw_below_drewN|apply below_drew1)|exact HB.out))):w.heap.size≤gb203));clear HB;have HB:=n0_;have BK203:=n1_;have GW203:=n2_;have GE203:=n3_;clear n0_ n1_ n2_ n3_;clear hb hbox hg;have hcz52_0:w51.cell? ⟨gb203,0,none⟩=some (.int .i64 0):=(blk_cell BK203.out 0).trans rfl;have hcz52_1:w51.cell? ⟨gb203,1,none⟩=some (.string (⟨#[]⟩:ByteArray)):=(blk_cell BK203.out 1).trans rfl;have hcz52_2:w51.cell? ⟨gb203,2,none⟩=some (.int .i64 0):=(blk_cell BK203.out 2).trans rfl;have hcz52_3:w51.cell? ⟨gb203,3,none⟩=some (.int .i64 0):=(blk_cell BK203.out 3).trans rfl;have hcz52_4:w51.cell? ⟨gb203,4,none⟩=some (.int .i64 0):=(blk_cell BK203.out 4).trans rfl;have hfz52_0:=blk_frozen BK203.out 0;have hfz52_1:=blk_frozen BK203.out 1;have hfz52_2:=blk_frozen BK203.out 2;have hfz52_3:=blk_frozen BK203.out 3;have hfz52_4:=blk_frozen BK203.out 4)|((with_reducible refine gate_store (t:=33) (p:=5) rfl ?_);refine store_event (t:=33) (p:=5) (v:=?vo_w53) (w1:=(((((w51.setCell ⟨gb203,0,none⟩ (.int .i64 ((rd_T33 l0 a1).f0))).setCell ⟨gb203,1,none⟩ (.string ((rd_T33 l0 a1).f1))).setCell ⟨gb203,2,none⟩ (.int .i64 ((rd_T33 l0 a1).f2))).setCell ⟨gb203,3,none⟩ (.int .i64 ((rd_T33 l0 a1).f3))).setCell ⟨gb203,4,none⟩ (.int .i64 ((rd_T33 l0 a1).f4)))) ?hg ?ho ?hn ?hr ?_;(case ho => rfl);(case hg => rfl);(case hn => rfl);(case hr => first|(go_simp;done)|(go_simp;rfl));intro w53 hw;have n0_:Aside0 (w53.heap[gb203]?=some (.cells #[.int .i64 ((rd_T33 l0 a1).f0),.string ((rd_T33 l0 a1).f1),.int .i64 ((rd_T33 l0 a1).f2),.int .i64 ((rd_T33 l0 a1).f3),.int .i64 ((rd_T33 l0 a1).f4)] 33 (0,0))):=⟨(by rw [hw];exact (by (with_reducible repeat (first|refine blk_drewN ?_ _|refine blk_drew ?_|refine blk_alloc ?_ _));refine blk_put (cs:=#[.int .i64 ((rd_T33 l0 a1).f0),.string ((rd_T33 l0 a1).f1),.int .i64 ((rd_T33 l0 a1).f2),.int .i64 ((rd_T33 l0 a1).f3),.int .i64 0]) ?_ 4 _ rfl;(with_reducible repeat (first|refine blk_drewN ?_ _|refine blk_drew ?_|refine blk_alloc ?_ _));refine blk_put (cs:=#[.int .i64 ((rd_T33 l0 a1).f0),.string ((rd_T33 l0 a1).f1),.int .i64 ((rd_T33 l0 a1).f2),.int .i64 0,.int .i64 0]) ?_ 3 _ rfl;(with_reducible repeat (first|refine blk_drewN ?_ _|refine blk_drew ?_|refine blk_alloc ?_ _));refine blk_put (cs:=#[.int .i64 ((rd_T33 l0 a1).f0),.string ((rd_T33 l0 a1).f1),.int .i64 0,.int .i64 0,.int .i64 0]) ?_ 2 _ rfl;(with_reducible repeat (first|refine blk_drewN ?_ _|refine blk_drew ?_|refine blk_alloc ?_ _));refine blk_put (cs:=#[.int .i64 ((rd_T33 l0 a1).f0),.string (⟨#[]⟩:ByteArray),.int .i64 0,.int .i64 0,.int .i64 0]) ?_ 1 _ rfl;(with_reducible repeat (first|refine blk_drewN ?_ _|refine blk_drew ?_|refine blk_alloc ?_ _));refine blk_put (cs:=#[.int .i64 0,.string (⟨#[]⟩:ByteArray),.int .i64 0,.int .i64 0,.int .i64 0]) ?_ 0 _ rfl;(with_reducible repeat (first|refine blk_drewN ?_ _|refine blk_drew ?_|refine blk_alloc ?_ _));exact BK203.out))⟩;have n1_:Aside0 (Below w.heap.size w w53):=⟨(by rw [hw];exact (by repeat (first|(with_reducible first|exact HB.out|apply below_alloc|apply pw_below_drewN|apply below_drew1|refine below_set ?_ GE203.out)|exact HB.out)))⟩;clear hw;clear BK203;clear HB;have BK203:=n0_;have HB:=n1_;clear n0_ n1_;have hcz54_0:w53.cell? ⟨gb203,0,none⟩=some (.int .i64 ((rd_T33 l0 a1).f0)):=(blk_cell BK203.out 0).trans rfl;have hcz54_1:w53.cell? ⟨gb203,1,none⟩=some (.string ((rd_T33 l0 a1).f1)):=(blk_cell BK203.out 1).trans rfl;have hcz54_2:w53.cell? ⟨gb203,2,none⟩=some (.int .i64 ((rd_T33 l0 a1).f2)):=(blk_cell BK203.out 2).trans rfl;have hcz54_3:w53.cell? ⟨gb203,3,none⟩=some (.int .i64 ((rd_T33 l0 a1).f3)):=(blk_cell BK203.out 3).trans rfl;have hcz54_4:w53.cell? ⟨gb203,4,none⟩=some (.int .i64 ((rd_T33 l0 a1).f4)):=(blk_cell BK203.out 4).trans rfl;have hfz54_0:=blk_frozen BK203.out 0;have hfz54_1:=blk_frozen BK203.out 1;have hfz54_2:=blk_frozen BK203.out 2;have hfz54_3:=blk_frozen BK203.out 3;have hfz54_4:=blk_frozen BK203.out 4)|((with_reducible refine gate_callee (f:=43) rfl ?_);refine goesL_ (some 14) rfl rfl Tryd.func43 (by kernel_rfl) rfl #[.agg #[.int .i64 ((rd_T33 l0 a1).f0),.string ((rd_T33 l0 a1).f1),.int .i64 ((rd_T33 l0 a1).f2),.int .i64 ((rd_T33 l0 a1).f3),.int .i64 ((rd_T33 l0 a1).f4)]] rfl (by (try simp only [List.map_toArray,List.map_cons,List.map_nil]);first|done|rfl|(simp only [List.length_drop,List.length_take];rfl)) ?_;(with_reducible refine (understudyref04_bare.calls k ((rd_T33 l0 a1).f0) ((rd_T33 l0 a1).f1) ((rd_T33 l0 a1).f2) ((rd_T33 l0 a1).f3) ((rd_T33 l0 a1).f4) true _ A5.out).mono ?_);rintro e w55 ⟨rfl,hb⟩;refine ⟨_,rfl,?_⟩;have n0_:=Aside0.mk (blk_below (g:=gb203) (o:=.cells #[.int .i64 ((rd_T33 l0 a1).f0),.string ((rd_T33 l0 a1).f1),.int .i64 ((rd_T33 l0 a1).f2),.int .i64 ((rd_T33 l0 a1).f3),.int .i64 ((rd_T33 l0 a1).f4)] 33 (0,0)) (by (with_reducible repeat (first|refine blk_drewN ?_ _|refine blk_drew ?_|refine blk_alloc ?_ _));exact BK203.out) hb);have n1_:=Aside0.mk (below_step (by repeat (first|(with_reducible first|exact HB.out|apply below_alloc|apply pw_below_drewN|apply below_drew1|refine below_set ?_ GE203.out)|exact HB.out)) hb);clear BK203;clear HB;have BK203:=n0_;have HB:=n1_;clear n0_ n1_;(try clear hb);(try clear hb2);(try clear hk);(try clear hi);have hcz56_0:w55.cell? ⟨gb203,0,none⟩=some (.int .i64 ((rd_T33 l0 a1).f0)):=(blk_cell BK203.out 0).trans rfl;have hcz56_1:w55.cell? ⟨gb203,1,none⟩=some (.string ((rd_T33 l0 a1).f1)):=(blk_cell BK203.out 1).trans rfl;have hcz56_2:w55.cell? ⟨gb203,2,none⟩=some (.int .i64 ((rd_T33 l0 a1).f2)):=(blk_cell BK203.out 2).trans rfl;have hcz56_3:w55.cell? ⟨gb203,3,none⟩=some (.int .i64 ((rd_T33 l0 a1).f3)):=(blk_cell BK203.out 3).trans rfl;have hcz56_4:w55.cell? ⟨gb203,4,none⟩=some (.int .i64 ((rd_T33 l0 a1).f4)):=(blk_cell BK203.out 4).trans rfl;have hfz56_0:=blk_frozen BK203.out 0;have hfz56_1:=blk_frozen BK203.out 1;have hfz56_2:=blk_frozen BK203.out 2;have hfz56_3:=blk_frozen BK203.out 3;have hfz56_4:=blk_frozen BK203.out 4)|((with_reducible refine gate_callee (f:=44) rfl ?_);refine goesL_ (some 50) rfl rfl Tryd.func44 (by kernel_rfl) rfl #[.slice (some ad202) l0.length c0,.int .i64 ((rd_T33 l0 a1).f3),.int .i64 1] rfl (by (try simp only [List.map_toArray,List.map_cons,List.map_nil]);first|done|rfl|(simp only [List.length_drop,List.length_take];rfl)) ?_;(with_reducible refine (understudyref04_is.calls _ _ l0 ((rd_T33 l0 a1).f3) 1 true _ ?side1 ?side2 A49.out).mono ?_);(case side1 => repeat (first|exact (Kd.C_below HR0.out HB.out)|(with_reducible refine Kd.C_alloc ?_ _)|(with_reducible refine Kd.C_drewN ?_ _)|(with_reducible refine Kd.C_drew ?_)));(case side2 => exact HC0.out);rintro e w' ⟨rfl,⟨nd,rfl⟩⟩;refine ⟨_,rfl,?_⟩))
         go_ret
         exact ⟨by first|rfl|(simp [errW_none,errW_some] <;> rfl)|(simp [*,errW_none,errW_some] <;> rfl),by repeat (first|(with_reducible first|exact HB.out|apply below_alloc|apply pw_below_drewN|apply below_drew1|refine below_set ?_ GE203.out)|exact HB.out)⟩
        ·replace c50:=Bool.eq_false_iff.mpr c50
         subst c50
         have H1:(some 40)=some r:=by rw [if_neg (show ¬ (false=true) by decide)] at H;exact H
         clear H
         have H:=H1
         clear H1
         obtain rfl:=Option.some.inj H
         have p202:0≤(a1:Int):=of_decide_eq_true (by first|(with_reducible assumption)|assumption)
         have q202:a1 < (l0.length:Int):=of_decide_eq_true (by first|(with_reducible assumption)|assumption)
         obtain ⟨ad202,e202,hx202_0,hx202_1,hx202_2,hx202_3,hx202_4⟩:=at_T33 HR0.out a1 p202 q202
         cases e202
         replace p202:=eq_true p202
         replace q202:=eq_true q202
         go_enter Tryd.func21,Tryd.ntmps21
         go_wp2_with (first|((with_reducible refine gate_dst (N:=5) rfl ?_);(try (refine gate_guard (by rfl) ?_;dsimp only));refine box_event ?hg (N:=5) ?hd (cs:=#[.int .i64 0,.string (⟨#[]⟩:ByteArray),.int .i64 0,.int .i64 0,.int .i64 0]) (t:=33) ?hr ?_;(case hd => rfl);(case hg => rfl);(case hr => first|(go_simp;done)|(go_simp;rfl));intro gb203 hg w57 hbox hb;have n0_:=Aside0.mk (below_step (by repeat (first|(with_reducible first|exact HB.out|apply below_alloc|apply pw_below_drewN|apply below_drew1)|exact HB.out)) hb);have n1_:=Aside0.mk (hbox);have n2_:=Aside0.mk ((by rw [hg];exact (below_size (by repeat (first|(with_reducible first|exact HB.out|apply below_alloc|apply pw_below_drewN|apply below_drew1)|exact HB.out))):w.heap.size≤gb203));have n3_:=Aside0.mk ((by rw [hg];exact (below_size (by repeat (first|(with_reducible first|exact HB.out|apply below_alloc|apply pw_below_drewN|apply below_drew1)|exact HB.out))):w.heap.size≤gb203));clear HB;have HB:=n0_;have BK203:=n1_;have GW203:=n2_;have GE203:=n3_;clear n0_ n1_ n2_ n3_;clear hb hbox hg;have hcz58_0:w57.cell? ⟨gb203,0,none⟩=some (.int .i64 0):=(blk_cell BK203.out 0).trans rfl;have hcz58_1:w57.cell? ⟨gb203,1,none⟩=some (.string (⟨#[]⟩:ByteArray)):=(blk_cell BK203.out 1).trans rfl;have hcz58_2:w57.cell? ⟨gb203,2,none⟩=some (.int .i64 0):=(blk_cell BK203.out 2).trans rfl;have hcz58_3:w57.cell? ⟨gb203,3,none⟩=some (.int .i64 0):=(blk_cell BK203.out 3).trans rfl;have hcz58_4:w57.cell? ⟨gb203,4,none⟩=some (.int .i64 0):=(blk_cell BK203.out 4).trans rfl;have hfz58_0:=blk_frozen BK203.out 0;have hfz58_1:=blk_frozen BK203.out 1;have hfz58_2:=blk_frozen BK203.out 2;have hfz58_3:=blk_frozen BK203.out 3;have hfz58_4:=blk_frozen BK203.out 4)|((with_reducible refine gate_store (t:=33) (p:=5) rfl ?_);refine store_event (t:=33) (p:=5) (v:=?vo_w59) (w1:=(((((w57.setCell ⟨gb203,0,none⟩ (.int .i64 ((rd_T33 l0 a1).f0))).setCell ⟨gb203,1,none⟩ (.string ((rd_T33 l0 a1).f1))).setCell ⟨gb203,2,none⟩ (.int .i64 ((rd_T33 l0 a1).f2))).setCell ⟨gb203,3,none⟩ (.int .i64 ((rd_T33 l0 a1).f3))).setCell ⟨gb203,4,none⟩ (.int .i64 ((rd_T33 l0 a1).f4)))) ?hg ?ho ?hn ?hr ?_;(case ho => rfl);(case hg => rfl);(case hn => rfl);(case hr => first|(go_simp;done)|(go_simp;rfl));intro w59 hw;have n0_:Aside0 (w59.heap[gb203]?=some (.cells #[.int .i64 ((rd_T33 l0 a1).f0),.string ((rd_T33 l0 a1).f1),.int .i64 ((rd_T33 l0 a1).f2),.int .i64 ((rd_T33 l0 a1).f3),.int .i64 ((rd_T33 l0 a1).f4)] 33 (0,0))):=⟨(by rw [hw];exact (by (with_reducible repeat (first|refine blk_drewN ?_ _|refine blk_drew ?_|refine blk_alloc ?_ _));refine blk_put (cs:=#[.int .i64 ((rd_T33 l0 a1).f0),.string ((rd_T33 l0 a1).f1),.int .i64 ((rd_T33 l0 a1).f2),.int .i64 ((rd_T33 l0 a1).f3),.int .i64 0]) ?_ 4 _ rfl;(with_reducible repeat (first|refine blk_drewN ?_ _|refine blk_drew ?_|refine blk_alloc ?_ _));refine blk_put (cs:=#[.int .i64 ((rd_T33 l0 a1).f0),.string ((rd_T33 l0 a1).f1),.int .i64 ((rd_T33 l0 a1).f2),.int .i64 0,.int .i64 0]) ?_ 3 _ rfl;(with_reducible repeat (first|refine blk_drewN ?_ _|refine blk_drew ?_|refine blk_alloc ?_ _));refine blk_put (cs:=#[.int .i64 ((rd_T33 l0 a1).f0),.string ((rd_T33 l0 a1).f1),.int .i64 0,.int .i64 0,.int .i64 0]) ?_ 2 _ rfl;(with_reducible repeat (first|refine blk_drewN ?_ _|refine blk_drew ?_|refine blk_alloc ?_ _));refine blk_put (cs:=#[.int .i64 ((rd_T33 l0 a1).f0),.string (⟨#[]⟩:ByteArray),.int .i64 0,.int .i64 0,.int .i64 0]) ?_ 1 _ rfl;(with_reducible repeat (first|refine blk_drewN ?_ _|refine blk_drew ?_|refine blk_alloc ?_ _));refine blk_put (cs:=#[.int .i64 0,.string (⟨#[]⟩:ByteArray),.int .i64 0,.int .i64 0,.int .i64 0]) ?_ 0 _ rfl;(with_reducible repeat (first|refine blk_drewN ?_ _|refine blk_drew ?_|refine blk_alloc ?_ _));exact BK203.out))⟩;have n1_:Aside0 (Below w.heap.size w w59):=⟨(by rw [hw];exact (by repeat (first|(with_reducible first|exact HB.out|apply below_alloc|apply pw_below_drewN|apply below_drew1|refine below_set ?_ GE203.out)|exact HB.out)))⟩;clear hw;clear BK203;clear HB;have BK203:=n0_;have HB:=n1_;clear n0_ n1_;have hcz60_0:w59.cell? ⟨gb203,0,none⟩=some (.int .i64 ((rd_T33 l0 a1).f0)):=(blk_cell BK203.out 0).trans rfl;have hcz60_1:w59.cell? ⟨gb203,1,none⟩=some (.string ((rd_T33 l0 a1).f1)):=(blk_cell BK203.out 1).trans rfl;have hcz60_2:w59.cell? ⟨gb203,2,none⟩=some (.int .i64 ((rd_T33 l0 a1).f2)):=(blk_cell BK203.out 2).trans rfl;have hcz60_3:w59.cell? ⟨gb203,3,none⟩=some (.int .i64 ((rd_T33 l0 a1).f3)):=(blk_cell BK203.out 3).trans rfl;have hcz60_4:w59.cell? ⟨gb203,4,none⟩=some (.int .i64 ((rd_T33 l0 a1).f4)):=(blk_cell BK203.out 4).trans rfl;have hfz60_0:=blk_frozen BK203.out 0;have hfz60_1:=blk_frozen BK203.out 1;have hfz60_2:=blk_frozen BK203.out 2;have hfz60_3:=blk_frozen BK203.out 3;have hfz60_4:=blk_frozen BK203.out 4)|((with_reducible refine gate_callee (f:=43) rfl ?_);refine goesL_ (some 14) rfl rfl Tryd.func43 (by kernel_rfl) rfl #[.agg #[.int .i64 ((rd_T33 l0 a1).f0),.string ((rd_T33 l0 a1).f1),.int .i64 ((rd_T33 l0 a1).f2),.int .i64 ((rd_T33 l0 a1).f3),.int .i64 ((rd_T33 l0 a1).f4)]] rfl (by (try simp only [List.map_toArray,List.map_cons,List.map_nil]);first|done|rfl|(simp only [List.length_drop,List.length_take];rfl)) ?_;(with_reducible refine (understudyref04_bare.calls k ((rd_T33 l0 a1).f0) ((rd_T33 l0 a1).f1) ((rd_T33 l0 a1).f2) ((rd_T33 l0 a1).f3) ((rd_T33 l0 a1).f4) true _ A5.out).mono ?_);rintro e w61 ⟨rfl,hb⟩;refine ⟨_,rfl,?_⟩;have n0_:=Aside0.mk (blk_below (g:=gb203) (o:=.cells #[.int .i64 ((rd_T33 l0 a1).f0),.string ((rd_T33 l0 a1).f1),.int .i64 ((rd_T33 l0 a1).f2),.int .i64 ((rd_T33 l0 a1).f3),.int .i64 ((rd_T33 l0 a1).f4)] 33 (0,0)) (by (with_reducible repeat (first|refine blk_drewN ?_ _|refine blk_drew ?_|refine blk_alloc ?_ _));exact BK203.out) hb);have n1_:=Aside0.mk (below_step (by repeat (first|(with_reducible first|exact HB.out|apply below_alloc|apply pw_below_drewN|apply below_drew1|refine below_set ?_ GE203.out)|exact HB.out)) hb);clear BK203;clear HB;have BK203:=n0_;have HB:=n1_;clear n0_ n1_;(try clear hb);(try clear hb2);(try clear hk);(try clear hi);have hcz62_0:w61.cell? ⟨gb203,0,none⟩=some (.int .i64 ((rd_T33 l0 a1).f0)):=(blk_cell BK203.out 0).trans rfl;have hcz62_1:w61.cell? ⟨gb203,1,none⟩=some (.string ((rd_T33 l0 a1).f1)):=(blk_cell BK203.out 1).trans rfl;have hcz62_2:w61.cell? ⟨gb203,2,none⟩=some (.int .i64 ((rd_T33 l0 a1).f2)):=(blk_cell BK203.out 2).trans rfl;have hcz62_3:w61.cell? ⟨gb203,3,none⟩=some (.int .i64 ((rd_T33 l0 a1).f3)):=(blk_cell BK203.out 3).trans rfl;have hcz62_4:w61.cell? ⟨gb203,4,none⟩=some (.int .i64 ((rd_T33 l0 a1).f4)):=(blk_cell BK203.out 4).trans rfl;have hfz62_0:=blk_frozen BK203.out 0;have hfz62_1:=blk_frozen BK203.out 1;have hfz62_2:=blk_frozen BK203.out 2;have hfz62_3:=blk_frozen BK203.out 3;have hfz62_4:=blk_frozen BK203.out 4)|((with_reducible refine gate_callee (f:=44) rfl ?_);refine goesL_ (some 50) rfl rfl Tryd.func44 (by kernel_rfl) rfl #[.slice (some ad202) l0.length c0,.int .i64 ((rd_T33 l0 a1).f3),.int .i64 1] rfl (by (try simp only [List.map_toArray,List.map_cons,List.map_nil]);first|done|rfl|(simp only [List.length_drop,List.length_take];rfl)) ?_;(with_reducible refine (understudyref04_is.calls _ _ l0 ((rd_T33 l0 a1).f3) 1 false _ ?side1 ?side2 A49.out).mono ?_);(case side1 => repeat (first|exact (Kd.C_below HR0.out HB.out)|(with_reducible refine Kd.C_alloc ?_ _)|(with_reducible refine Kd.C_drewN ?_ _)|(with_reducible refine Kd.C_drew ?_)));(case side2 => exact HC0.out);rintro e w' ⟨rfl,⟨nd,rfl⟩⟩;refine ⟨_,rfl,?_⟩))
         go_ret
         exact ⟨by first|rfl|(simp [errW_none,errW_some] <;> rfl)|(simp [*,errW_none,errW_some] <;> rfl),by repeat (first|(with_reducible first|exact HB.out|apply below_alloc|apply pw_below_drewN|apply below_drew1|refine below_set ?_ GE203.out)|exact HB.out)⟩
       ·rw [if_neg c48] at H
        have c48b0:(((rd_T33 l0 a1).f0)==7)=false:=beq_eq_false_iff_ne.mpr c48
        have c48b1:(((rd_T33 l0 a1).f0) != 7)=true:=bne_iff_ne.mpr c48
        by_cases c63:((rd_T33 l0 a1).f0)=12
        ·rw [if_pos c63] at H
         have c63b0:(((rd_T33 l0 a1).f0)==12)=true:=beq_iff_eq.mpr c63
         have c63b1:(((rd_T33 l0 a1).f0) != 12)=false:=bne_eq_false_iff_eq.mpr c63
         clear c63
         replace H:=Option.bind_eq_some_iff.mp H
         obtain ⟨t210,A640,H⟩:=H
         replace H:(if t210=true then ((understudyref04_is.f l0 ((rd_T33 l0 a1).f4) 1).bind fun t211 => (if t211=true then (some 0) else (some 40))) else (some 40))=some r:=H
         have A64:=Aside0.mk A640
         clear A640
         by_cases c65:t210=true
         ·subst c65
          have H1:((understudyref04_is.f l0 ((rd_T33 l0 a1).f4) 1).bind fun t211 => (if t211=true then (some 0) else (some 40)))=some r:=by rw [if_pos rfl] at H;exact H
          clear H
          have H:=H1
          clear H1
          replace H:=Option.bind_eq_some_iff.mp H
          obtain ⟨t211,A660,H⟩:=H
          replace H:(if t211=true then (some 0) else (some 40))=some r:=H
          have A66:=Aside0.mk A660
          clear A660
          by_cases c67:t211=true
          ·subst c67
           have H1:(some 0)=some r:=by rw [if_pos rfl] at H;exact H
           clear H
           have H:=H1
           clear H1
           obtain rfl:=Option.some.inj H
           have p202:0≤(a1:Int):=of_decide_eq_true (by first|(with_reducible assumption)|assumption)
           have q202:a1 < (l0.length:Int):=of_decide_eq_true (by first|(with_reducible assumption)|assumption)
           obtain ⟨ad202,e202,hx202_0,hx202_1,hx202_2,hx202_3,hx202_4⟩:=at_T33 HR0.out a1 p202 q202
           cases e202
           replace p202:=eq_true p202
           replace q202:=eq_true q202
           go_enter Tryd.func21,Tryd.ntmps21
           go_wp2_with (first|((with_reducible refine gate_dst (N:=5) rfl ?_);(try (refine gate_guard (by rfl) ?_;dsimp only));refine box_event ?hg (N:=5) ?hd (cs:=#[.int .i64 0,.string (⟨#[]⟩:ByteArray),.int .i64 0,.int .i64 0,.int .i64 0]) (t:=33) ?hr ?_;(case hd => rfl);(case hg => rfl);(case hr => first|(go_simp;done)|(go_simp;rfl));intro gb203 hg w68 hbox hb;have n0_:=Aside0.mk (below_step (by repeat (first|(with_reducible first|exact HB.out|apply below_alloc|apply pw_below_drewN|apply below_drew1)|exact HB.out)) hb);have n1_:=Aside0.mk (hbox);have n2_:=Aside0.mk ((by rw [hg];exact (below_size (by repeat (first|(with_reducible first|exact HB.out|apply below_alloc|apply pw_below_drewN|apply below_drew1)|exact HB.out))):w.heap.size≤gb203));have n3_:=Aside0.mk ((by rw [hg];exact (below_size (by repeat (first|(with_reducible first|exact HB.out|apply below_alloc|apply pw_below_drewN|apply below_drew1)|exact HB.out))):w.heap.size≤gb203));clear HB;have HB:=n0_;have BK203:=n1_;have GW203:=n2_;have GE203:=n3_;clear n0_ n1_ n2_ n3_;clear hb hbox hg;have hcz69_0:w68.cell? ⟨gb203,0,none⟩=some (.int .i64 0):=(blk_cell BK203.out 0).trans rfl;have hcz69_1:w68.cell? ⟨gb203,1,none⟩=some (.string (⟨#[]⟩:ByteArray)):=(blk_cell BK203.out 1).trans rfl;have hcz69_2:w68.cell? ⟨gb203,2,none⟩=some (.int .i64 0):=(blk_cell BK203.out 2).trans rfl;have hcz69_3:w68.cell? ⟨gb203,3,none⟩=some (.int .i64 0):=(blk_cell BK203.out 3).trans rfl;have hcz69_4:w68.cell? ⟨gb203,4,none⟩=some (.int .i64 0):=(blk_cell BK203.out 4).trans rfl;have hfz69_0:=blk_frozen BK203.out 0;have hfz69_1:=blk_frozen BK203.out 1;have hfz69_2:=blk_frozen BK203.out 2;have hfz69_3:=blk_frozen BK203.out 3;have hfz69_4:=blk_frozen BK203.out 4)|((with_reducible refine gate_store (t:=33) (p:=5) rfl ?_);refine store_event (t:=33) (p:=5) (v:=?vo_w70) (w1:=(((((w68.setCell ⟨gb203,0,none⟩ (.int .i64 ((rd_T33 l0 a1).f0))).setCell ⟨gb203,1,none⟩ (.string ((rd_T33 l0 a1).f1))).setCell ⟨gb203,2,none⟩ (.int .i64 ((rd_T33 l0 a1).f2))).setCell ⟨gb203,3,none⟩ (.int .i64 ((rd_T33 l0 a1).f3))).setCell ⟨gb203,4,none⟩ (.int .i64 ((rd_T33 l0 a1).f4)))) ?hg ?ho ?hn ?hr ?_;(case ho => rfl);(case hg => rfl);(case hn => rfl);(case hr => first|(go_simp;done)|(go_simp;rfl));intro w70 hw;have n0_:Aside0 (w70.heap[gb203]?=some (.cells #[.int .i64 ((rd_T33 l0 a1).f0),.string ((rd_T33 l0 a1).f1),.int .i64 ((rd_T33 l0 a1).f2),.int .i64 ((rd_T33 l0 a1).f3),.int .i64 ((rd_T33 l0 a1).f4)] 33 (0,0))):=⟨(by rw [hw];exact (by (with_reducible repeat (first|refine blk_drewN ?_ _|refine blk_drew ?_|refine blk_alloc ?_ _));refine blk_put (cs:=#[.int .i64 ((rd_T33 l0 a1).f0),.string ((rd_T33 l0 a1).f1),.int .i64 ((rd_T33 l0 a1).f2),.int .i64 ((rd_T33 l0 a1).f3),.int .i64 0]) ?_ 4 _ rfl;(with_reducible repeat (first|refine blk_drewN ?_ _|refine blk_drew ?_|refine blk_alloc ?_ _));refine blk_put (cs:=#[.int .i64 ((rd_T33 l0 a1).f0),.string ((rd_T33 l0 a1).f1),.int .i64 ((rd_T33 l0 a1).f2),.int .i64 0,.int .i64 0]) ?_ 3 _ rfl;(with_reducible repeat (first|refine blk_drewN ?_ _|refine blk_drew ?_|refine blk_alloc ?_ _));refine blk_put (cs:=#[.int .i64 ((rd_T33 l0 a1).f0),.string ((rd_T33 l0 a1).f1),.int .i64 0,.int .i64 0,.int .i64 0]) ?_ 2 _ rfl;(with_reducible repeat (first|refine blk_drewN ?_ _|refine blk_drew ?_|refine blk_alloc ?_ _));refine blk_put (cs:=#[.int .i64 ((rd_T33 l0 a1).f0),.string (⟨#[]⟩:ByteArray),.int .i64 0,.int .i64 0,.int .i64 0]) ?_ 1 _ rfl;(with_reducible repeat (first|refine blk_drewN ?_ _|refine blk_drew ?_|refine blk_alloc ?_ _));refine blk_put (cs:=#[.int .i64 0,.string (⟨#[]⟩:ByteArray),.int .i64 0,.int .i64 0,.int .i64 0]) ?_ 0 _ rfl;(with_reducible repeat (first|refine blk_drewN ?_ _|refine blk_drew ?_|refine blk_alloc ?_ _));exact BK203.out))⟩;have n1_:Aside0 (Below w.heap.size w w70):=⟨(by rw [hw];exact (by repeat (first|(with_reducible first|exact HB.out|apply below_alloc|apply pw_below_drewN|apply below_drew1|refine below_set ?_ GE203.out)|exact HB.out)))⟩;clear hw;clear BK203;clear HB;have BK203:=n0_;have HB:=n1_;clear n0_ n1_;have hcz71_0:w70.cell? ⟨gb203,0,none⟩=some (.int .i64 ((rd_T33 l0 a1).f0)):=(blk_cell BK203.out 0).trans rfl;have hcz71_1:w70.cell? ⟨gb203,1,none⟩=some (.string ((rd_T33 l0 a1).f1)):=(blk_cell BK203.out 1).trans rfl;have hcz71_2:w70.cell? ⟨gb203,2,none⟩=some (.int .i64 ((rd_T33 l0 a1).f2)):=(blk_cell BK203.out 2).trans rfl;have hcz71_3:w70.cell? ⟨gb203,3,none⟩=some (.int .i64 ((rd_T33 l0 a1).f3)):=(blk_cell BK203.out 3).trans rfl;have hcz71_4:w70.cell? ⟨gb203,4,none⟩=some (.int .i64 ((rd_T33 l0 a1).f4)):=(blk_cell BK203.out 4).trans rfl;have hfz71_0:=blk_frozen BK203.out 0;have hfz71_1:=blk_frozen BK203.out 1;have hfz71_2:=blk_frozen BK203.out 2;have hfz71_3:=blk_frozen BK203.out 3;have hfz71_4:=blk_frozen BK203.out 4)|((with_reducible refine gate_callee (f:=43) rfl ?_);refine goesL_ (some 14) rfl rfl Tryd.func43 (by kernel_rfl) rfl #[.agg #[.int .i64 ((rd_T33 l0 a1).f0),.string ((rd_T33 l0 a1).f1),.int .i64 ((rd_T33 l0 a1).f2),.int .i64 ((rd_T33 l0 a1).f3),.int .i64 ((rd_T33 l0 a1).f4)]] rfl (by (try simp only [List.map_toArray,List.map_cons,List.map_nil]);first|done|rfl|(simp only [List.length_drop,List.length_take];rfl)) ?_;(with_reducible refine (understudyref04_bare.calls k ((rd_T33 l0 a1).f0) ((rd_T33 l0 a1).f1) ((rd_T33 l0 a1).f2) ((rd_T33 l0 a1).f3) ((rd_T33 l0 a1).f4) true _ A5.out).mono ?_);rintro e w72 ⟨rfl,hb⟩;refine ⟨_,rfl,?_⟩;have n0_:=Aside0.mk (blk_below (g:=gb203) (o:=.cells #[.int .i64 ((rd_T33 l0 a1).f0),.string ((rd_T33 l0 a1).f1),.int .i64 ((rd_T33 l0 a1).f2),.int .i64 ((rd_T33 l0 a1).f3),.int .i64 ((rd_T33 l0 a1).f4)] 33 (0,0)) (by (with_reducible repeat (first|refine blk_drewN ?_ _|refine blk_drew ?_|refine blk_alloc ?_ _));exact BK203.out) hb);have n1_:=Aside0.mk (below_step (by repeat (first|(with_reducible first|exact HB.out|apply below_alloc|apply pw_below_drewN|apply below_drew1|refine below_set ?_ GE203.out)|exact HB.out)) hb);clear BK203;clear HB;have BK203:=n0_;have HB:=n1_;clear n0_ n1_;(try clear hb);(try clear hb2);(try clear hk);(try clear hi);have hcz73_0:w72.cell? ⟨gb203,0,none⟩=some (.int .i64 ((rd_T33 l0 a1).f0)):=(blk_cell BK203.out 0).trans rfl;have hcz73_1:w72.cell? ⟨gb203,1,none⟩=some (.string ((rd_T33 l0 a1).f1)):=(blk_cell BK203.out 1).trans rfl;have hcz73_2:w72.cell? ⟨gb203,2,none⟩=some (.int .i64 ((rd_T33 l0 a1).f2)):=(blk_cell BK203.out 2).trans rfl;have hcz73_3:w72.cell? ⟨gb203,3,none⟩=some (.int .i64 ((rd_T33 l0 a1).f3)):=(blk_cell BK203.out 3).trans rfl;have hcz73_4:w72.cell? ⟨gb203,4,none⟩=some (.int .i64 ((rd_T33 l0 a1).f4)):=(blk_cell BK203.out 4).trans rfl;have hfz73_0:=blk_frozen BK203.out 0;have hfz73_1:=blk_frozen BK203.out 1;have hfz73_2:=blk_frozen BK203.out 2;have hfz73_3:=blk_frozen BK203.out 3;have hfz73_4:=blk_frozen BK203.out 4)|((with_reducible refine gate_callee (f:=44) rfl ?_);refine goesL_ (some 56) rfl rfl Tryd.func44 (by kernel_rfl) rfl #[.slice (some ad202) l0.length c0,.int .i64 ((rd_T33 l0 a1).f3),.int .i64 1] rfl (by (try simp only [List.map_toArray,List.map_cons,List.map_nil]);first|done|rfl|(simp only [List.length_drop,List.length_take];rfl)) ?_;(with_reducible refine (understudyref04_is.calls _ _ l0 ((rd_T33 l0 a1).f3) 1 true _ ?side1 ?side2 A64.out).mono ?_);(case side1 => repeat (first|exact (Kd.C_below HR0.out HB.out)|(with_reducible refine Kd.C_alloc ?_ _)|(with_reducible refine Kd.C_drewN ?_ _)|(with_reducible refine Kd.C_drew ?_)));(case side2 => exact HC0.out);rintro e w' ⟨rfl,⟨nd,rfl⟩⟩;refine ⟨_,rfl,?_⟩)|(go_at_call 44;(with_reducible refine (understudyref04_is.calls _ _ l0 ((rd_T33 l0 a1).f4) 1 true _ ?side1 ?side2 A66.out).mono ?_);(case side1 => repeat (first|exact (Kd.C_below HR0.out (by repeat (first|(with_reducible first|exact HB.out|apply below_alloc|apply pw_below_drewN|apply below_drew1|refine below_set ?_ GE203.out)|exact HB.out)))|(with_reducible refine Kd.C_alloc ?_ _)|(with_reducible refine Kd.C_drewN ?_ _)|(with_reducible refine Kd.C_drew ?_)));(case side2 => exact HC0.out);rintro e w' ⟨rfl,⟨nd,rfl⟩⟩))
           go_ret
           exact ⟨by first|rfl|(simp [errW_none,errW_some] <;> rfl)|(simp [*,errW_none,errW_some] <;> rfl),by repeat (first|(with_reducible first|exact HB.out|apply below_alloc|apply pw_below_drewN|apply below_drew1|refine below_set ?_ GE203.out)|exact HB.out)⟩
          ·replace c67:=Bool.eq_false_iff.mpr c67
           subst c67
           have H1:(some 40)=some r:=by rw [if_neg (show ¬ (false=true) by decide)] at H;exact H
           clear H
           have H:=H1
           clear H1
           obtain rfl:=Option.some.inj H
           have p202:0≤(a1:Int):=of_decide_eq_true (by first|(with_reducible assumption)|assumption)
           have q202:a1 < (l0.length:Int):=of_decide_eq_true (by first|(with_reducible assumption)|assumption)
           obtain ⟨ad202,e202,hx202_0,hx202_1,hx202_2,hx202_3,hx202_4⟩:=at_T33 HR0.out a1 p202 q202
           cases e202
           replace p202:=eq_true p202
           replace q202:=eq_true q202
           go_enter Tryd.func21,Tryd.ntmps21
           go_wp2_with (first|((with_reducible refine gate_dst (N:=5) rfl ?_);(try (refine gate_guard (by rfl) ?_;dsimp only));refine box_event ?hg (N:=5) ?hd (cs:=#[.int .i64 0,.string (⟨#[]⟩:ByteArray),.int .i64 0,.int .i64 0,.int .i64 0]) (t:=33) ?hr ?_;(case hd => rfl);(case hg => rfl);(case hr => first|(go_simp;done)|(go_simp;rfl));intro gb203 hg w74 hbox hb;have n0_:=Aside0.mk (below_step (by repeat (first|(with_reducible first|exact HB.out|apply below_alloc|apply pw_below_drewN|apply below_drew1)|exact HB.out)) hb);have n1_:=Aside0.mk (hbox);have n2_:=Aside0.mk ((by rw [hg];exact (below_size (by repeat (first|(with_reducible first|exact HB.out|apply below_alloc|apply pw_below_drewN|apply below_drew1)|exact HB.out))):w.heap.size≤gb203));have n3_:=Aside0.mk ((by rw [hg];exact (below_size (by repeat (first|(with_reducible first|exact HB.out|apply below_alloc|apply pw_below_drewN|apply below_drew1)|exact HB.out))):w.heap.size≤gb203));clear HB;have HB:=n0_;have BK203:=n1_;have GW203:=n2_;have GE203:=n3_;clear n0_ n1_ n2_ n3_;clear hb hbox hg;have hcz75_0:w74.cell? ⟨gb203,0,none⟩=some (.int .i64 0):=(blk_cell BK203.out 0).trans rfl;have hcz75_1:w74.cell? ⟨gb203,1,none⟩=some (.string (⟨#[]⟩:ByteArray)):=(blk_cell BK203.out 1).trans rfl;have hcz75_2:w74.cell? ⟨gb203,2,none⟩=some (.int .i64 0):=(blk_cell BK203.out 2).trans rfl;have hcz75_3:w74.cell? ⟨gb203,3,none⟩=some (.int .i64 0):=(blk_cell BK203.out 3).trans rfl;have hcz75_4:w74.cell? ⟨gb203,4,none⟩=some (.int .i64 0):=(blk_cell BK203.out 4).trans rfl;have hfz75_0:=blk_frozen BK203.out 0;have hfz75_1:=blk_frozen BK203.out 1;have hfz75_2:=blk_frozen BK203.out 2;have hfz75_3:=blk_frozen BK203.out 3;have hfz75_4:=blk_frozen BK203.out 4)|((with_reducible refine gate_store (t:=33) (p:=5) rfl ?_);refine store_event (t:=33) (p:=5) (v:=?vo_w76) (w1:=(((((w74.setCell ⟨gb203,0,none⟩ (.int .i64 ((rd_T33 l0 a1).f0))).setCell ⟨gb203,1,none⟩ (.string ((rd_T33 l0 a1).f1))).setCell ⟨gb203,2,none⟩ (.int .i64 ((rd_T33 l0 a1).f2))).setCell ⟨gb203,3,none⟩ (.int .i64 ((rd_T33 l0 a1).f3))).setCell ⟨gb203,4,none⟩ (.int .i64 ((rd_T33 l0 a1).f4)))) ?hg ?ho ?hn ?hr ?_;(case ho => rfl);(case hg => rfl);(case hn => rfl);(case hr => first|(go_simp;done)|(go_simp;rfl));intro w76 hw;have n0_:Aside0 (w76.heap[gb203]?=some (.cells #[.int .i64 ((rd_T33 l0 a1).f0),.string ((rd_T33 l0 a1).f1),.int .i64 ((rd_T33 l0 a1).f2),.int .i64 ((rd_T33 l0 a1).f3),.int .i64 ((rd_T33 l0 a1).f4)] 33 (0,0))):=⟨(by rw [hw];exact (by (with_reducible repeat (first|refine blk_drewN ?_ _|refine blk_drew ?_|refine blk_alloc ?_ _));refine blk_put (cs:=#[.int .i64 ((rd_T33 l0 a1).f0),.string ((rd_T33 l0 a1).f1),.int .i64 ((rd_T33 l0 a1).f2),.int .i64 ((rd_T33 l0 a1).f3),.int .i64 0]) ?_ 4 _ rfl;(with_reducible repeat (first|refine blk_drewN ?_ _|refine blk_drew ?_|refine blk_alloc ?_ _));refine blk_put (cs:=#[.int .i64 ((rd_T33 l0 a1).f0),.string ((rd_T33 l0 a1).f1),.int .i64 ((rd_T33 l0 a1).f2),.int .i64 0,.int .i64 0]) ?_ 3 _ rfl;(with_reducible repeat (first|refine blk_drewN ?_ _|refine blk_drew ?_|refine blk_alloc ?_ _));refine blk_put (cs:=#[.int .i64 ((rd_T33 l0 a1).f0),.string ((rd_T33 l0 a1).f1),.int .i64 0,.int .i64 0,.int .i64 0]) ?_ 2 _ rfl;(with_reducible repeat (first|refine blk_drewN ?_ _|refine blk_drew ?_|refine blk_alloc ?_ _));refine blk_put (cs:=#[.int .i64 ((rd_T33 l0 a1).f0),.string (⟨#[]⟩:ByteArray),.int .i64 0,.int .i64 0,.int .i64 0]) ?_ 1 _ rfl;(with_reducible repeat (first|refine blk_drewN ?_ _|refine blk_drew ?_|refine blk_alloc ?_ _));refine blk_put (cs:=#[.int .i64 0,.string (⟨#[]⟩:ByteArray),.int .i64 0,.int .i64 0,.int .i64 0]) ?_ 0 _ rfl;(with_reducible repeat (first|refine blk_drewN ?_ _|refine blk_drew ?_|refine blk_alloc ?_ _));exact BK203.out))⟩;have n1_:Aside0 (Below w.heap.size w w76):=⟨(by rw [hw];exact (by repeat (first|(with_reducible first|exact HB.out|apply below_alloc|apply pw_below_drewN|apply below_drew1|refine below_set ?_ GE203.out)|exact HB.out)))⟩;clear hw;clear BK203;clear HB;have BK203:=n0_;have HB:=n1_;clear n0_ n1_;have hcz77_0:w76.cell? ⟨gb203,0,none⟩=some (.int .i64 ((rd_T33 l0 a1).f0)):=(blk_cell BK203.out 0).trans rfl;have hcz77_1:w76.cell? ⟨gb203,1,none⟩=some (.string ((rd_T33 l0 a1).f1)):=(blk_cell BK203.out 1).trans rfl;have hcz77_2:w76.cell? ⟨gb203,2,none⟩=some (.int .i64 ((rd_T33 l0 a1).f2)):=(blk_cell BK203.out 2).trans rfl;have hcz77_3:w76.cell? ⟨gb203,3,none⟩=some (.int .i64 ((rd_T33 l0 a1).f3)):=(blk_cell BK203.out 3).trans rfl;have hcz77_4:w76.cell? ⟨gb203,4,none⟩=some (.int .i64 ((rd_T33 l0 a1).f4)):=(blk_cell BK203.out 4).trans rfl;have hfz77_0:=blk_frozen BK203.out 0;have hfz77_1:=blk_frozen BK203.out 1;have hfz77_2:=blk_frozen BK203.out 2;have hfz77_3:=blk_frozen BK203.out 3;have hfz77_4:=blk_frozen BK203.out 4)|((with_reducible refine gate_callee (f:=43) rfl ?_);refine goesL_ (some 14) rfl rfl Tryd.func43 (by kernel_rfl) rfl #[.agg #[.int .i64 ((rd_T33 l0 a1).f0),.string ((rd_T33 l0 a1).f1),.int .i64 ((rd_T33 l0 a1).f2),.int .i64 ((rd_T33 l0 a1).f3),.int .i64 ((rd_T33 l0 a1).f4)]] rfl (by (try simp only [List.map_toArray,List.map_cons,List.map_nil]);first|done|rfl|(simp only [List.length_drop,List.length_take];rfl)) ?_;(with_reducible refine (understudyref04_bare.calls k ((rd_T33 l0 a1).f0) ((rd_T33 l0 a1).f1) ((rd_T33 l0 a1).f2) ((rd_T33 l0 a1).f3) ((rd_T33 l0 a1).f4) true _ A5.out).mono ?_);rintro e w78 ⟨rfl,hb⟩;refine ⟨_,rfl,?_⟩;have n0_:=Aside0.mk (blk_below (g:=gb203) (o:=.cells #[.int .i64 ((rd_T33 l0 a1).f0),.string ((rd_T33 l0 a1).f1),.int .i64 ((rd_T33 l0 a1).f2),.int .i64 ((rd_T33 l0 a1).f3),.int .i64 ((rd_T33 l0 a1).f4)] 33 (0,0)) (by (with_reducible repeat (first|refine blk_drewN ?_ _|refine blk_drew ?_|refine blk_alloc ?_ _));exact BK203.out) hb);have n1_:=Aside0.mk (below_step (by repeat (first|(with_reducible first|exact HB.out|apply below_alloc|apply pw_below_drewN|apply below_drew1|refine below_set ?_ GE203.out)|exact HB.out)) hb);clear BK203;clear HB;have BK203:=n0_;have HB:=n1_;clear n0_ n1_;(try clear hb);(try clear hb2);(try clear hk);(try clear hi);have hcz79_0:w78.cell? ⟨gb203,0,none⟩=some (.int .i64 ((rd_T33 l0 a1).f0)):=(blk_cell BK203.out 0).trans rfl;have hcz79_1:w78.cell? ⟨gb203,1,none⟩=some (.string ((rd_T33 l0 a1).f1)):=(blk_cell BK203.out 1).trans rfl;have hcz79_2:w78.cell? ⟨gb203,2,none⟩=some (.int .i64 ((rd_T33 l0 a1).f2)):=(blk_cell BK203.out 2).trans rfl;have hcz79_3:w78.cell? ⟨gb203,3,none⟩=some (.int .i64 ((rd_T33 l0 a1).f3)):=(blk_cell BK203.out 3).trans rfl;have hcz79_4:w78.cell? ⟨gb203,4,none⟩=some (.int .i64 ((rd_T33 l0 a1).f4)):=(blk_cell BK203.out 4).trans rfl;have hfz79_0:=blk_frozen BK203.out 0;have hfz79_1:=blk_frozen BK203.out 1;have hfz79_2:=blk_frozen BK203.out 2;have hfz79_3:=blk_frozen BK203.out 3;have hfz79_4:=blk_frozen BK203.out 4)|((with_reducible refine gate_callee (f:=44) rfl ?_);refine goesL_ (some 56) rfl rfl Tryd.func44 (by kernel_rfl) rfl #[.slice (some ad202) l0.length c0,.int .i64 ((rd_T33 l0 a1).f3),.int .i64 1] rfl (by (try simp only [List.map_toArray,List.map_cons,List.map_nil]);first|done|rfl|(simp only [List.length_drop,List.length_take];rfl)) ?_;(with_reducible refine (understudyref04_is.calls _ _ l0 ((rd_T33 l0 a1).f3) 1 true _ ?side1 ?side2 A64.out).mono ?_);(case side1 => repeat (first|exact (Kd.C_below HR0.out HB.out)|(with_reducible refine Kd.C_alloc ?_ _)|(with_reducible refine Kd.C_drewN ?_ _)|(with_reducible refine Kd.C_drew ?_)));(case side2 => exact HC0.out);rintro e w' ⟨rfl,⟨nd,rfl⟩⟩;refine ⟨_,rfl,?_⟩)|(go_at_call 44;(with_reducible refine (understudyref04_is.calls _ _ l0 ((rd_T33 l0 a1).f4) 1 false _ ?side1 ?side2 A66.out).mono ?_);(case side1 => repeat (first|exact (Kd.C_below HR0.out (by repeat (first|(with_reducible first|exact HB.out|apply below_alloc|apply pw_below_drewN|apply below_drew1|refine below_set ?_ GE203.out)|exact HB.out)))|(with_reducible refine Kd.C_alloc ?_ _)|(with_reducible refine Kd.C_drewN ?_ _)|(with_reducible refine Kd.C_drew ?_)));(case side2 => exact HC0.out);rintro e w' ⟨rfl,⟨nd,rfl⟩⟩))
           go_ret
           exact ⟨by first|rfl|(simp [errW_none,errW_some] <;> rfl)|(simp [*,errW_none,errW_some] <;> rfl),by repeat (first|(with_reducible first|exact HB.out|apply below_alloc|apply pw_below_drewN|apply below_drew1|refine below_set ?_ GE203.out)|exact HB.out)⟩
         ·replace c65:=Bool.eq_false_iff.mpr c65
          subst c65
          have H1:(some 40)=some r:=by rw [if_neg (show ¬ (false=true) by decide)] at H;exact H
          clear H
          have H:=H1
          clear H1
          obtain rfl:=Option.some.inj H
          have p202:0≤(a1:Int):=of_decide_eq_true (by first|(with_reducible assumption)|assumption)
          have q202:a1 < (l0.length:Int):=of_decide_eq_true (by first|(with_reducible assumption)|assumption)
          obtain ⟨ad202,e202,hx202_0,hx202_1,hx202_2,hx202_3,hx202_4⟩:=at_T33 HR0.out a1 p202 q202
          cases e202
          replace p202:=eq_true p202
          replace q202:=eq_true q202
          go_enter Tryd.func21,Tryd.ntmps21
          go_wp2_with (first|((with_reducible refine gate_dst (N:=5) rfl ?_);(try (refine gate_guard (by rfl) ?_;dsimp only));refine box_event ?hg (N:=5) ?hd (cs:=#[.int .i64 0,.string (⟨#[]⟩:ByteArray),.int .i64 0,.int .i64 0,.int .i64 0]) (t:=33) ?hr ?_;(case hd => rfl);(case hg => rfl);(case hr => first|(go_simp;done)|(go_simp;rfl));intro gb203 hg w80 hbox hb;have n0_:=Aside0.mk (below_step (by repeat (first|(with_reducible first|exact HB.out|apply below_alloc|apply pw_below_drewN|apply below_drew1)|exact HB.out)) hb);have n1_:=Aside0.mk (hbox);have n2_:=Aside0.mk ((by rw [hg];exact (below_size (by repeat (first|(with_reducible first|exact HB.out|apply below_alloc|apply pw_below_drewN|apply below_drew1)|exact HB.out))):w.heap.size≤gb203));have n3_:=Aside0.mk ((by rw [hg];exact (below_size (by repeat (first|(with_reducible first|exact HB.out|apply below_alloc|apply pw_below_drewN|apply below_drew1)|exact HB.out))):w.heap.size≤gb203));clear HB;have HB:=n0_;have BK203:=n1_;have GW203:=n2_;have GE203:=n3_;clear n0_ n1_ n2_ n3_;clear hb hbox hg;have hcz81_0:w80.cell? ⟨gb203,0,none⟩=some (.int .i64 0):=(blk_cell BK203.out 0).trans rfl;have hcz81_1:w80.cell? ⟨gb203,1,none⟩=some (.string (⟨#[]⟩:ByteArray)):=(blk_cell BK203.out 1).trans rfl;have hcz81_2:w80.cell? ⟨gb203,2,none⟩=some (.int .i64 0):=(blk_cell BK203.out 2).trans rfl;have hcz81_3:w80.cell? ⟨gb203,3,none⟩=some (.int .i64 0):=(blk_cell BK203.out 3).trans rfl;have hcz81_4:w80.cell? ⟨gb203,4,none⟩=some (.int .i64 0):=(blk_cell BK203.out 4).trans rfl;have hfz81_0:=blk_frozen BK203.out 0;have hfz81_1:=blk_frozen BK203.out 1;have hfz81_2:=blk_frozen BK203.out 2;have hfz81_3:=blk_frozen BK203.out 3;have hfz81_4:=blk_frozen BK203.out 4)|((with_reducible refine gate_store (t:=33) (p:=5) rfl ?_);refine store_event (t:=33) (p:=5) (v:=?vo_w82) (w1:=(((((w80.setCell ⟨gb203,0,none⟩ (.int .i64 ((rd_T33 l0 a1).f0))).setCell ⟨gb203,1,none⟩ (.string ((rd_T33 l0 a1).f1))).setCell ⟨gb203,2,none⟩ (.int .i64 ((rd_T33 l0 a1).f2))).setCell ⟨gb203,3,none⟩ (.int .i64 ((rd_T33 l0 a1).f3))).setCell ⟨gb203,4,none⟩ (.int .i64 ((rd_T33 l0 a1).f4)))) ?hg ?ho ?hn ?hr ?_;(case ho => rfl);(case hg => rfl);(case hn => rfl);(case hr => first|(go_simp;done)|(go_simp;rfl));intro w82 hw;have n0_:Aside0 (w82.heap[gb203]?=some (.cells #[.int .i64 ((rd_T33 l0 a1).f0),.string ((rd_T33 l0 a1).f1),.int .i64 ((rd_T33 l0 a1).f2),.int .i64 ((rd_T33 l0 a1).f3),.int .i64 ((rd_T33 l0 a1).f4)] 33 (0,0))):=⟨(by rw [hw];exact (by (with_reducible repeat (first|refine blk_drewN ?_ _|refine blk_drew ?_|refine blk_alloc ?_ _));refine blk_put (cs:=#[.int .i64 ((rd_T33 l0 a1).f0),.string ((rd_T33 l0 a1).f1),.int .i64 ((rd_T33 l0 a1).f2),.int .i64 ((rd_T33 l0 a1).f3),.int .i64 0]) ?_ 4 _ rfl;(with_reducible repeat (first|refine blk_drewN ?_ _|refine blk_drew ?_|refine blk_alloc ?_ _));refine blk_put (cs:=#[.int .i64 ((rd_T33 l0 a1).f0),.string ((rd_T33 l0 a1).f1),.int .i64 ((rd_T33 l0 a1).f2),.int .i64 0,.int .i64 0]) ?_ 3 _ rfl;(with_reducible repeat (first|refine blk_drewN ?_ _|refine blk_drew ?_|refine blk_alloc ?_ _));refine blk_put (cs:=#[.int .i64 ((rd_T33 l0 a1).f0),.string ((rd_T33 l0 a1).f1),.int .i64 0,.int .i64 0,.int .i64 0]) ?_ 2 _ rfl;(with_reducible repeat (first|refine blk_drewN ?_ _|refine blk_drew ?_|refine blk_alloc ?_ _));refine blk_put (cs:=#[.int .i64 ((rd_T33 l0 a1).f0),.string (⟨#[]⟩:ByteArray),.int .i64 0,.int .i64 0,.int .i64 0]) ?_ 1 _ rfl;(with_reducible repeat (first|refine blk_drewN ?_ _|refine blk_drew ?_|refine blk_alloc ?_ _));refine blk_put (cs:=#[.int .i64 0,.string (⟨#[]⟩:ByteArray),.int .i64 0,.int .i64 0,.int .i64 0]) ?_ 0 _ rfl;(with_reducible repeat (first|refine blk_drewN ?_ _|refine blk_drew ?_|refine blk_alloc ?_ _));exact BK203.out))⟩;have n1_:Aside0 (Below w.heap.size w w82):=⟨(by rw [hw];exact (by repeat (first|(with_reducible first|exact HB.out|apply below_alloc|apply pw_below_drewN|apply below_drew1|refine below_set ?_ GE203.out)|exact HB.out)))⟩;clear hw;clear BK203;clear HB;have BK203:=n0_;have HB:=n1_;clear n0_ n1_;have hcz83_0:w82.cell? ⟨gb203,0,none⟩=some (.int .i64 ((rd_T33 l0 a1).f0)):=(blk_cell BK203.out 0).trans rfl;have hcz83_1:w82.cell? ⟨gb203,1,none⟩=some (.string ((rd_T33 l0 a1).f1)):=(blk_cell BK203.out 1).trans rfl;have hcz83_2:w82.cell? ⟨gb203,2,none⟩=some (.int .i64 ((rd_T33 l0 a1).f2)):=(blk_cell BK203.out 2).trans rfl;have hcz83_3:w82.cell? ⟨gb203,3,none⟩=some (.int .i64 ((rd_T33 l0 a1).f3)):=(blk_cell BK203.out 3).trans rfl;have hcz83_4:w82.cell? ⟨gb203,4,none⟩=some (.int .i64 ((rd_T33 l0 a1).f4)):=(blk_cell BK203.out 4).trans rfl;have hfz83_0:=blk_frozen BK203.out 0;have hfz83_1:=blk_frozen BK203.out 1;have hfz83_2:=blk_frozen BK203.out 2;have hfz83_3:=blk_frozen BK203.out 3;have hfz83_4:=blk_frozen BK203.out 4)|((with_reducible refine gate_callee (f:=43) rfl ?_);refine goesL_ (some 14) rfl rfl Tryd.func43 (by kernel_rfl) rfl #[.agg #[.int .i64 ((rd_T33 l0 a1).f0),.string ((rd_T33 l0 a1).f1),.int .i64 ((rd_T33 l0 a1).f2),.int .i64 ((rd_T33 l0 a1).f3),.int .i64 ((rd_T33 l0 a1).f4)]] rfl (by (try simp only [List.map_toArray,List.map_cons,List.map_nil]);first|done|rfl|(simp only [List.length_drop,List.length_take];rfl)) ?_;(with_reducible refine (understudyref04_bare.calls k ((rd_T33 l0 a1).f0) ((rd_T33 l0 a1).f1) ((rd_T33 l0 a1).f2) ((rd_T33 l0 a1).f3) ((rd_T33 l0 a1).f4) true _ A5.out).mono ?_);rintro e w84 ⟨rfl,hb⟩;refine ⟨_,rfl,?_⟩;have n0_:=Aside0.mk (blk_below (g:=gb203) (o:=.cells #[.int .i64 ((rd_T33 l0 a1).f0),.string ((rd_T33 l0 a1).f1),.int .i64 ((rd_T33 l0 a1).f2),.int .i64 ((rd_T33 l0 a1).f3),.int .i64 ((rd_T33 l0 a1).f4)] 33 (0,0)) (by (with_reducible repeat (first|refine blk_drewN ?_ _|refine blk_drew ?_|refine blk_alloc ?_ _));exact BK203.out) hb);have n1_:=Aside0.mk (below_step (by repeat (first|(with_reducible first|exact HB.out|apply below_alloc|apply pw_below_drewN|apply below_drew1|refine below_set ?_ GE203.out)|exact HB.out)) hb);clear BK203;clear HB;have BK203:=n0_;have HB:=n1_;clear n0_ n1_;(try clear hb);(try clear hb2);(try clear hk);(try clear hi);have hcz85_0:w84.cell? ⟨gb203,0,none⟩=some (.int .i64 ((rd_T33 l0 a1).f0)):=(blk_cell BK203.out 0).trans rfl;have hcz85_1:w84.cell? ⟨gb203,1,none⟩=some (.string ((rd_T33 l0 a1).f1)):=(blk_cell BK203.out 1).trans rfl;have hcz85_2:w84.cell? ⟨gb203,2,none⟩=some (.int .i64 ((rd_T33 l0 a1).f2)):=(blk_cell BK203.out 2).trans rfl;have hcz85_3:w84.cell? ⟨gb203,3,none⟩=some (.int .i64 ((rd_T33 l0 a1).f3)):=(blk_cell BK203.out 3).trans rfl;have hcz85_4:w84.cell? ⟨gb203,4,none⟩=some (.int .i64 ((rd_T33 l0 a1).f4)):=(blk_cell BK203.out 4).trans rfl;have hfz85_0:=blk_frozen BK203.out 0;have hfz85_1:=blk_frozen BK203.out 1;have hfz85_2:=blk_frozen BK203.out 2;have hfz85_3:=blk_frozen BK203.out 3;have hfz85_4:=blk_frozen BK203.out 4)|((with_reducible refine gate_callee (f:=44) rfl ?_);refine goesL_ (some 56) rfl rfl Tryd.func44 (by kernel_rfl) rfl #[.slice (some ad202) l0.length c0,.int .i64 ((rd_T33 l0 a1).f3),.int .i64 1] rfl (by (try simp only [List.map_toArray,List.map_cons,List.map_nil]);first|done|rfl|(simp only [List.length_drop,List.length_take];rfl)) ?_;(with_reducible refine (understudyref04_is.calls _ _ l0 ((rd_T33 l0 a1).f3) 1 false _ ?side1 ?side2 A64.out).mono ?_);(case side1 => repeat (first|exact (Kd.C_below HR0.out HB.out)|(with_reducible refine Kd.C_alloc ?_ _)|(with_reducible refine Kd.C_drewN ?_ _)|(with_reducible refine Kd.C_drew ?_)));(case side2 => exact HC0.out);rintro e w' ⟨rfl,⟨nd,rfl⟩⟩;refine ⟨_,rfl,?_⟩))
          go_ret
          exact ⟨by first|rfl|(simp [errW_none,errW_some] <;> rfl)|(simp [*,errW_none,errW_some] <;> rfl),by repeat (first|(with_reducible first|exact HB.out|apply below_alloc|apply pw_below_drewN|apply below_drew1|refine below_set ?_ GE203.out)|exact HB.out)⟩
        ·rw [if_neg c63] at H
         have c63b0:(((rd_T33 l0 a1).f0)==12)=false:=beq_eq_false_iff_ne.mpr c63
         have c63b1:(((rd_T33 l0 a1).f0) != 12)=true:=bne_iff_ne.mpr c63
         have HC86:=Aside0.mk H
         clear H
         have p202:0≤(a1:Int):=of_decide_eq_true (by first|(with_reducible assumption)|assumption)
         have q202:a1 < (l0.length:Int):=of_decide_eq_true (by first|(with_reducible assumption)|assumption)
         obtain ⟨ad202,e202,hx202_0,hx202_1,hx202_2,hx202_3,hx202_4⟩:=at_T33 HR0.out a1 p202 q202
         cases e202
         replace p202:=eq_true p202
         replace q202:=eq_true q202
         go_enter Tryd.func21,Tryd.ntmps21
         go_upto_if 63 with (first|((with_reducible refine gate_dst (N:=5) rfl ?_);(try (refine gate_guard (by rfl) ?_;dsimp only));refine box_event ?hg (N:=5) ?hd (cs:=#[.int .i64 0,.string (⟨#[]⟩:ByteArray),.int .i64 0,.int .i64 0,.int .i64 0]) (t:=33) ?hr ?_;(case hd => rfl);(case hg => rfl);(case hr => first|(go_simp;done)|(go_simp;rfl));intro gb203 hg w87 hbox hb;have n0_:=Aside0.mk (below_step (by repeat (first|(with_reducible first|exact HB.out|apply below_alloc|apply pw_below_drewN|apply below_drew1)|exact HB.out)) hb);have n1_:=Aside0.mk (hbox);have n2_:=Aside0.mk ((by rw [hg];exact (below_size (by repeat (first|(with_reducible first|exact HB.out|apply below_alloc|apply pw_below_drewN|apply below_drew1)|exact HB.out))):w.heap.size≤gb203));have n3_:=Aside0.mk ((by rw [hg];exact (below_size (by repeat (first|(with_reducible first|exact HB.out|apply below_alloc|apply pw_below_drewN|apply below_drew1)|exact HB.out))):w.heap.size≤gb203));clear HB;have HB:=n0_;have BK203:=n1_;have GW203:=n2_;have GE203:=n3_;clear n0_ n1_ n2_ n3_;clear hb hbox hg;have hcz88_0:w87.cell? ⟨gb203,0,none⟩=some (.int .i64 0):=(blk_cell BK203.out 0).trans rfl;have hcz88_1:w87.cell? ⟨gb203,1,none⟩=some (.string (⟨#[]⟩:ByteArray)):=(blk_cell BK203.out 1).trans rfl;have hcz88_2:w87.cell? ⟨gb203,2,none⟩=some (.int .i64 0):=(blk_cell BK203.out 2).trans rfl;have hcz88_3:w87.cell? ⟨gb203,3,none⟩=some (.int .i64 0):=(blk_cell BK203.out 3).trans rfl;have hcz88_4:w87.cell? ⟨gb203,4,none⟩=some (.int .i64 0):=(blk_cell BK203.out 4).trans rfl;have hfz88_0:=blk_frozen BK203.out 0;have hfz88_1:=blk_frozen BK203.out 1;have hfz88_2:=blk_frozen BK203.out 2;have hfz88_3:=blk_frozen BK203.out 3;have hfz88_4:=blk_frozen BK203.out 4)|((with_reducible refine gate_store (t:=33) (p:=5) rfl ?_);refine store_event (t:=33) (p:=5) (v:=?vo_w89) (w1:=(((((w87.setCell ⟨gb203,0,none⟩ (.int .i64 ((rd_T33 l0 a1).f0))).setCell ⟨gb203,1,none⟩ (.string ((rd_T33 l0 a1).f1))).setCell ⟨gb203,2,none⟩ (.int .i64 ((rd_T33 l0 a1).f2))).setCell ⟨gb203,3,none⟩ (.int .i64 ((rd_T33 l0 a1).f3))).setCell ⟨gb203,4,none⟩ (.int .i64 ((rd_T33 l0 a1).f4)))) ?hg ?ho ?hn ?hr ?_;(case ho => rfl);(case hg => rfl);(case hn => rfl);(case hr => first|(go_simp;done)|(go_simp;rfl));intro w89 hw;have n0_:Aside0 (w89.heap[gb203]?=some (.cells #[.int .i64 ((rd_T33 l0 a1).f0),.string ((rd_T33 l0 a1).f1),.int .i64 ((rd_T33 l0 a1).f2),.int .i64 ((rd_T33 l0 a1).f3),.int .i64 ((rd_T33 l0 a1).f4)] 33 (0,0))):=⟨(by rw [hw];exact (by (with_reducible repeat (first|refine blk_drewN ?_ _|refine blk_drew ?_|refine blk_alloc ?_ _));refine blk_put (cs:=#[.int .i64 ((rd_T33 l0 a1).f0),.string ((rd_T33 l0 a1).f1),.int .i64 ((rd_T33 l0 a1).f2),.int .i64 ((rd_T33 l0 a1).f3),.int .i64 0]) ?_ 4 _ rfl;(with_reducible repeat (first|refine blk_drewN ?_ _|refine blk_drew ?_|refine blk_alloc ?_ _));refine blk_put (cs:=#[.int .i64 ((rd_T33 l0 a1).f0),.string ((rd_T33 l0 a1).f1),.int .i64 ((rd_T33 l0 a1).f2),.int .i64 0,.int .i64 0]) ?_ 3 _ rfl;(with_reducible repeat (first|refine blk_drewN ?_ _|refine blk_drew ?_|refine blk_alloc ?_ _));refine blk_put (cs:=#[.int .i64 ((rd_T33 l0 a1).f0),.string ((rd_T33 l0 a1).f1),.int .i64 0,.int .i64 0,.int .i64 0]) ?_ 2 _ rfl;(with_reducible repeat (first|refine blk_drewN ?_ _|refine blk_drew ?_|refine blk_alloc ?_ _));refine blk_put (cs:=#[.int .i64 ((rd_T33 l0 a1).f0),.string (⟨#[]⟩:ByteArray),.int .i64 0,.int .i64 0,.int .i64 0]) ?_ 1 _ rfl;(with_reducible repeat (first|refine blk_drewN ?_ _|refine blk_drew ?_|refine blk_alloc ?_ _));refine blk_put (cs:=#[.int .i64 0,.string (⟨#[]⟩:ByteArray),.int .i64 0,.int .i64 0,.int .i64 0]) ?_ 0 _ rfl;(with_reducible repeat (first|refine blk_drewN ?_ _|refine blk_drew ?_|refine blk_alloc ?_ _));exact BK203.out))⟩;have n1_:Aside0 (Below w.heap.size w w89):=⟨(by rw [hw];exact (by repeat (first|(with_reducible first|exact HB.out|apply below_alloc|apply pw_below_drewN|apply below_drew1|refine below_set ?_ GE203.out)|exact HB.out)))⟩;clear hw;clear BK203;clear HB;have BK203:=n0_;have HB:=n1_;clear n0_ n1_;have hcz90_0:w89.cell? ⟨gb203,0,none⟩=some (.int .i64 ((rd_T33 l0 a1).f0)):=(blk_cell BK203.out 0).trans rfl;have hcz90_1:w89.cell? ⟨gb203,1,none⟩=some (.string ((rd_T33 l0 a1).f1)):=(blk_cell BK203.out 1).trans rfl;have hcz90_2:w89.cell? ⟨gb203,2,none⟩=some (.int .i64 ((rd_T33 l0 a1).f2)):=(blk_cell BK203.out 2).trans rfl;have hcz90_3:w89.cell? ⟨gb203,3,none⟩=some (.int .i64 ((rd_T33 l0 a1).f3)):=(blk_cell BK203.out 3).trans rfl;have hcz90_4:w89.cell? ⟨gb203,4,none⟩=some (.int .i64 ((rd_T33 l0 a1).f4)):=(blk_cell BK203.out 4).trans rfl;have hfz90_0:=blk_frozen BK203.out 0;have hfz90_1:=blk_frozen BK203.out 1;have hfz90_2:=blk_frozen BK203.out 2;have hfz90_3:=blk_frozen BK203.out 3;have hfz90_4:=blk_frozen BK203.out 4)|((with_reducible refine gate_callee (f:=43) rfl ?_);refine goesL_ (some 14) rfl rfl Tryd.func43 (by kernel_rfl) rfl #[.agg #[.int .i64 ((rd_T33 l0 a1).f0),.string ((rd_T33 l0 a1).f1),.int .i64 ((rd_T33 l0 a1).f2),.int .i64 ((rd_T33 l0 a1).f3),.int .i64 ((rd_T33 l0 a1).f4)]] rfl (by (try simp only [List.map_toArray,List.map_cons,List.map_nil]);first|done|rfl|(simp only [List.length_drop,List.length_take];rfl)) ?_;(with_reducible refine (understudyref04_bare.calls k ((rd_T33 l0 a1).f0) ((rd_T33 l0 a1).f1) ((rd_T33 l0 a1).f2) ((rd_T33 l0 a1).f3) ((rd_T33 l0 a1).f4) true _ A5.out).mono ?_);rintro e w91 ⟨rfl,hb⟩;refine ⟨_,rfl,?_⟩;have n0_:=Aside0.mk (blk_below (g:=gb203) (o:=.cells #[.int .i64 ((rd_T33 l0 a1).f0),.string ((rd_T33 l0 a1).f1),.int .i64 ((rd_T33 l0 a1).f2),.int .i64 ((rd_T33 l0 a1).f3),.int .i64 ((rd_T33 l0 a1).f4)] 33 (0,0)) (by (with_reducible repeat (first|refine blk_drewN ?_ _|refine blk_drew ?_|refine blk_alloc ?_ _));exact BK203.out) hb);have n1_:=Aside0.mk (below_step (by repeat (first|(with_reducible first|exact HB.out|apply below_alloc|apply pw_below_drewN|apply below_drew1|refine below_set ?_ GE203.out)|exact HB.out)) hb);clear BK203;clear HB;have BK203:=n0_;have HB:=n1_;clear n0_ n1_;(try clear hb);(try clear hb2);(try clear hk);(try clear hi);have hcz92_0:w91.cell? ⟨gb203,0,none⟩=some (.int .i64 ((rd_T33 l0 a1).f0)):=(blk_cell BK203.out 0).trans rfl;have hcz92_1:w91.cell? ⟨gb203,1,none⟩=some (.string ((rd_T33 l0 a1).f1)):=(blk_cell BK203.out 1).trans rfl;have hcz92_2:w91.cell? ⟨gb203,2,none⟩=some (.int .i64 ((rd_T33 l0 a1).f2)):=(blk_cell BK203.out 2).trans rfl;have hcz92_3:w91.cell? ⟨gb203,3,none⟩=some (.int .i64 ((rd_T33 l0 a1).f3)):=(blk_cell BK203.out 3).trans rfl;have hcz92_4:w91.cell? ⟨gb203,4,none⟩=some (.int .i64 ((rd_T33 l0 a1).f4)):=(blk_cell BK203.out 4).trans rfl;have hfz92_0:=blk_frozen BK203.out 0;have hfz92_1:=blk_frozen BK203.out 1;have hfz92_2:=blk_frozen BK203.out 2;have hfz92_3:=blk_frozen BK203.out 3;have hfz92_4:=blk_frozen BK203.out 4))
         (try simp only [Act.put,List.setIfInBounds_toArray,List.set_cons_zero,List.set_cons_succ])
         go_cut [63] (fun v63 wc => ∃ (kq:Nat) (x63_85:Bool),v63=.bool x63_85∧Aside0 (understudyref04_one.j1 kq l0 x63_85 ((rd_T33 l0 a1).f0) ((rd_T33 l0 a1).f1) ((rd_T33 l0 a1).f2) ((rd_T33 l0 a1).f3) ((rd_T33 l0 a1).f4)=some r)∧Aside0 (kq≤k)∧Aside0 (wc.heap[gb203]?=some (.cells #[.int .i64 ((rd_T33 l0 a1).f0),.string ((rd_T33 l0 a1).f1),.int .i64 ((rd_T33 l0 a1).f2),.int .i64 ((rd_T33 l0 a1).f3),.int .i64 ((rd_T33 l0 a1).f4)] 33 (0,0)))∧Aside0 (Below w.heap.size w wc))
         case first =>
          have H:=HC86.out
          clear HC86
          by_cases c93:((rd_T33 l0 a1).f0)=9
          ·rw [if_pos c93] at H
           have c93b0:(((rd_T33 l0 a1).f0)==9)=true:=beq_iff_eq.mpr c93
           have c93b1:(((rd_T33 l0 a1).f0) != 9)=false:=bne_eq_false_iff_eq.mpr c93
           clear c93
           (first|rw [c93b0]|(simp only [i64_w,i32_w];rw [c93b0])|skip)
           have H':=Aside0.mk H
           clear H
           go_wp2
           go_meet
           case rel => exact ⟨_,((((rd_T33 l0 a1).f0)==9)),(by first|rfl|(simp;done)|(simp [*];done)),H',⟨by first|omega|exact Nat.le_refl _⟩,⟨by (with_reducible repeat (first|refine blk_drewN ?_ _|refine blk_drew ?_|refine blk_alloc ?_ _));exact BK203.out⟩,⟨by repeat (first|(with_reducible first|exact HB.out|apply below_alloc|apply pw_below_drewN|apply below_drew1|refine below_set ?_ GE203.out)|exact HB.out)⟩⟩
          ·rw [if_neg c93] at H
           have c93b0:(((rd_T33 l0 a1).f0)==9)=false:=beq_eq_false_iff_ne.mpr c93
           have c93b1:(((rd_T33 l0 a1).f0) != 9)=true:=bne_iff_ne.mpr c93
           (first|rw [c93b0]|(simp only [i64_w,i32_w];rw [c93b0])|skip)
           have H':=Aside0.mk H
           clear H
           go_wp2
           go_meet
           case rel => exact ⟨_,((((rd_T33 l0 a1).f0)==10)),(by first|rfl|(simp;done)|(simp [*];done)),H',⟨by first|omega|exact Nat.le_refl _⟩,⟨by (with_reducible repeat (first|refine blk_drewN ?_ _|refine blk_drew ?_|refine blk_alloc ?_ _));exact BK203.out⟩,⟨by repeat (first|(with_reducible first|exact HB.out|apply below_alloc|apply pw_below_drewN|apply below_drew1|refine below_set ?_ GE203.out)|exact HB.out)⟩⟩
         case rest =>
          clear HC86
          try clear c1;try clear c2;try clear p2;try clear q2;try clear hx2;try clear c3;try clear c3b0;try clear c4;try clear c4b0;try clear c5;try clear c6;try clear c7;try clear c7b0;try clear c7b1;try clear c9;try clear c17;try clear c17b0;try clear c17b1;try clear c19;try clear c20;try clear c20b0;try clear c20b1;try clear p20;try clear q20;try clear hx20;try clear c21;try clear c21b0;try clear c22;try clear c22b0;try clear c30;try clear c41;try clear c41b0;try clear c41b1;try clear c43;try clear c44;try clear c48;try clear c48b0;try clear c48b1;try clear c50;try clear c63;try clear c63b0;try clear c63b1;try clear c65;try clear c67;try clear c93;try clear c93b0;try clear c93b1;try clear hcz11_0;try clear hcz11_1;try clear hcz11_2;try clear hcz11_3;try clear hcz11_4;try clear hcz13_0;try clear hcz13_1;try clear hcz13_2;try clear hcz13_3;try clear hcz13_4;try clear hcz15_0;try clear hcz15_1;try clear hcz15_2;try clear hcz15_3;try clear hcz15_4;try clear hcz24_0;try clear hcz24_1;try clear hcz24_2;try clear hcz24_3;try clear hcz24_4;try clear hcz26_0;try clear hcz26_1;try clear hcz26_2;try clear hcz26_3;try clear hcz26_4;try clear hcz28_0;try clear hcz28_1;try clear hcz28_2;try clear hcz28_3;try clear hcz28_4;try clear hcz30_0;try clear hcz30_1;try clear hcz30_2;try clear hcz30_3;try clear hcz30_4;try clear hcz32_0;try clear hcz32_1;try clear hcz32_2;try clear hcz32_3;try clear hcz32_4;try clear hcz34_0;try clear hcz34_1;try clear hcz34_2;try clear hcz34_3;try clear hcz34_4;try clear hcz36_0;try clear hcz36_1;try clear hcz36_2;try clear hcz36_3;try clear hcz36_4;try clear hcz38_0;try clear hcz38_1;try clear hcz38_2;try clear hcz38_3;try clear hcz38_4;try clear hcz40_0;try clear hcz40_1;try clear hcz40_2;try clear hcz40_3;try clear hcz40_4;try clear hcz43_0;try clear hcz43_1;try clear hcz43_2;try clear hcz43_3;try clear hcz43_4;try clear hcz45_0;try clear hcz45_1;try clear hcz45_2;try clear hcz45_3;try clear hcz45_4;try clear hcz47_0;try clear hcz47_1;try clear hcz47_2;try clear hcz47_3;try clear hcz47_4;try clear hcz52_0;try clear hcz52_1;try clear hcz52_2;try clear hcz52_3;try clear hcz52_4;try clear hcz54_0;try clear hcz54_1;try clear hcz54_2;try clear hcz54_3;try clear hcz54_4;try clear hcz56_0;try clear hcz56_1;try clear hcz56_2;try clear hcz56_3;try clear hcz56_4;try clear hcz58_0;try clear hcz58_1;try clear hcz58_2;try clear hcz58_3;try clear hcz58_4;try clear hcz60_0;try clear hcz60_1;try clear hcz60_2;try clear hcz60_3;try clear hcz60_4;try clear hcz62_0;try clear hcz62_1;try clear hcz62_2;try clear hcz62_3;try clear hcz62_4;try clear hcz69_0;try clear hcz69_1;try clear hcz69_2;try clear hcz69_3;try clear hcz69_4;try clear hcz71_0;try clear hcz71_1;try clear hcz71_2;try clear hcz71_3;try clear hcz71_4;try clear hcz73_0;try clear hcz73_1;try clear hcz73_2;try clear hcz73_3;try clear hcz73_4;try clear hcz75_0;try clear hcz75_1;try clear hcz75_2;try clear hcz75_3;try clear hcz75_4;try clear hcz77_0;try clear hcz77_1;try clear hcz77_2;try clear hcz77_3;try clear hcz77_4;try clear hcz79_0;try clear hcz79_1;try clear hcz79_2;try clear hcz79_3;try clear hcz79_4;try clear hcz81_0;try clear hcz81_1;try clear hcz81_2;try clear hcz81_3;try clear hcz81_4;try clear hcz83_0;try clear hcz83_1;try clear hcz83_2;try clear hcz83_3;try clear hcz83_4;try clear hcz85_0;try clear hcz85_1;try clear hcz85_2;try clear hcz85_3;try clear hcz85_4;try clear hcz88_0;try clear hcz88_1;try clear hcz88_2;try clear hcz88_3;try clear hcz88_4;try clear hcz90_0;try clear hcz90_1;try clear hcz90_2;try clear hcz90_3;try clear hcz90_4;try clear hcz92_0;try clear hcz92_1;try clear hcz92_2;try clear hcz92_3;try clear hcz92_4;try clear hfz11_0;try clear hfz11_1;try clear hfz11_2;try clear hfz11_3;try clear hfz11_4;try clear hfz13_0;try clear hfz13_1;try clear hfz13_2;try clear hfz13_3;try clear hfz13_4;try clear hfz15_0;try clear hfz15_1;try clear hfz15_2;try clear hfz15_3;try clear hfz15_4;try clear hfz24_0;try clear hfz24_1;try clear hfz24_2;try clear hfz24_3;try clear hfz24_4;try clear hfz26_0;try clear hfz26_1;try clear hfz26_2;try clear hfz26_3;try clear hfz26_4;try clear hfz28_0;try clear hfz28_1;try clear hfz28_2;try clear hfz28_3;try clear hfz28_4;try clear hfz30_0;try clear hfz30_1;try clear hfz30_2;try clear hfz30_3;try clear hfz30_4;try clear hfz32_0;try clear hfz32_1;try clear hfz32_2;try clear hfz32_3;try clear hfz32_4;try clear hfz34_0;try clear hfz34_1;try clear hfz34_2;try clear hfz34_3;try clear hfz34_4;try clear hfz36_0;try clear hfz36_1;try clear hfz36_2;try clear hfz36_3;try clear hfz36_4;try clear hfz38_0;try clear hfz38_1;try clear hfz38_2;try clear hfz38_3;try clear hfz38_4;try clear hfz40_0;try clear hfz40_1;try clear hfz40_2;try clear hfz40_3;try clear hfz40_4;try clear hfz43_0;try clear hfz43_1;try clear hfz43_2;try clear hfz43_3;try clear hfz43_4;try clear hfz45_0;try clear hfz45_1;try clear hfz45_2;try clear hfz45_3;try clear hfz45_4;try clear hfz47_0;try clear hfz47_1;try clear hfz47_2;try clear hfz47_3;try clear hfz47_4;try clear hfz52_0;try clear hfz52_1;try clear hfz52_2;try clear hfz52_3;try clear hfz52_4;try clear hfz54_0;try clear hfz54_1;try clear hfz54_2;try clear hfz54_3;try clear hfz54_4;try clear hfz56_0;try clear hfz56_1;try clear hfz56_2;try clear hfz56_3;try clear hfz56_4;try clear hfz58_0;try clear hfz58_1;try clear hfz58_2;try clear hfz58_3;try clear hfz58_4;try clear hfz60_0;try clear hfz60_1;try clear hfz60_2;try clear hfz60_3;try clear hfz60_4;try clear hfz62_0;try clear hfz62_1;try clear hfz62_2;try clear hfz62_3;try clear hfz62_4;try clear hfz69_0;try clear hfz69_1;try clear hfz69_2;try clear hfz69_3;try clear hfz69_4;try clear hfz71_0;try clear hfz71_1;try clear hfz71_2;try clear hfz71_3;try clear hfz71_4;try clear hfz73_0;try clear hfz73_1;try clear hfz73_2;try clear hfz73_3;try clear hfz73_4;try clear hfz75_0;try clear hfz75_1;try clear hfz75_2;try clear hfz75_3;try clear hfz75_4;try clear hfz77_0;try clear hfz77_1;try clear hfz77_2;try clear hfz77_3;try clear hfz77_4;try clear hfz79_0;try clear hfz79_1;try clear hfz79_2;try clear hfz79_3;try clear hfz79_4;try clear hfz81_0;try clear hfz81_1;try clear hfz81_2;try clear hfz81_3;try clear hfz81_4;try clear hfz83_0;try clear hfz83_1;try clear hfz83_2;try clear hfz83_3;try clear hfz83_4;try clear hfz85_0;try clear hfz85_1;try clear hfz85_2;try clear hfz85_3;try clear hfz85_4;try clear hfz88_0;try clear hfz88_1;try clear hfz88_2;try clear hfz88_3;try clear hfz88_4;try clear hfz90_0;try clear hfz90_1;try clear hfz90_2;try clear hfz90_3;try clear hfz90_4;try clear hfz92_0;try clear hfz92_1;try clear hfz92_2;try clear hfz92_3;try clear hfz92_4;try clear hx202_0;try clear hx202_1;try clear hx202_2;try clear hx202_3;try clear hx202_4;try clear p2;try clear p202;try clear q2;try clear q202
          obtain ⟨kq,x63_85,rfl,HA,HJ85,BK203,HB⟩:=hcut
          cases kq with
          | zero => exact absurd HA.out (by simp [understudyref04_one.j1])
          | succ kj85 =>
           have H:=HA.out
           clear HA
           simp only [understudyref04_one.j1] at H
           by_cases c94:x63_85=true
           ·subst c94
            have H1:((understudyref04_is.f l0 ((rd_T33 l0 a1).f3) 7).bind fun t212 => (if t212=true then ((understudyref04_is.f l0 ((rd_T33 l0 a1).f4) 12).bind fun t213 => (if t213=true then (some 0) else (some 40))) else (some 40)))=some r:=by rw [if_pos rfl] at H;exact H
            clear H
            have H:=H1
            clear H1
            replace H:=Option.bind_eq_some_iff.mp H
            obtain ⟨t212,A950,H⟩:=H
            replace H:(if t212=true then ((understudyref04_is.f l0 ((rd_T33 l0 a1).f4) 12).bind fun t213 => (if t213=true then (some 0) else (some 40))) else (some 40))=some r:=H
            have A95:=Aside0.mk A950
            clear A950
            by_cases c96:t212=true
            ·subst c96
             have H1:((understudyref04_is.f l0 ((rd_T33 l0 a1).f4) 12).bind fun t213 => (if t213=true then (some 0) else (some 40)))=some r:=by rw [if_pos rfl] at H;exact H
             clear H
             have H:=H1
             clear H1
             replace H:=Option.bind_eq_some_iff.mp H
             obtain ⟨t213,A970,H⟩:=H
             replace H:(if t213=true then (some 0) else (some 40))=some r:=H
             have A97:=Aside0.mk A970
             clear A970
             by_cases c98:t213=true
             ·subst c98
              have H1:(some 0)=some r:=by rw [if_pos rfl] at H;exact H
              clear H
              have H:=H1
              clear H1
              obtain rfl:=Option.some.inj H
              have hcz99_0:wc.cell? ⟨gb203,0,none⟩=some (.int .i64 ((rd_T33 l0 a1).f0)):=(blk_cell BK203.out 0).trans rfl
              have hcz99_1:wc.cell? ⟨gb203,1,none⟩=some (.string ((rd_T33 l0 a1).f1)):=(blk_cell BK203.out 1).trans rfl
              have hcz99_2:wc.cell? ⟨gb203,2,none⟩=some (.int .i64 ((rd_T33 l0 a1).f2)):=(blk_cell BK203.out 2).trans rfl
              have hcz99_3:wc.cell? ⟨gb203,3,none⟩=some (.int .i64 ((rd_T33 l0 a1).f3)):=(blk_cell BK203.out 3).trans rfl
              have hcz99_4:wc.cell? ⟨gb203,4,none⟩=some (.int .i64 ((rd_T33 l0 a1).f4)):=(blk_cell BK203.out 4).trans rfl
              have hfz99_0:=blk_frozen BK203.out 0
              have hfz99_1:=blk_frozen BK203.out 1
              have hfz99_2:=blk_frozen BK203.out 2
              have hfz99_3:=blk_frozen BK203.out 3
              have hfz99_4:=blk_frozen BK203.out 4
              go_wp2_with (first|((with_reducible refine gate_callee (f:=44) rfl ?_);refine goesL_ (some 69) rfl rfl Tryd.func44 (by kernel_rfl) rfl #[.slice (some ad202) l0.length c0,.int .i64 ((rd_T33 l0 a1).f3),.int .i64 7] rfl (by (try simp only [List.map_toArray,List.map_cons,List.map_nil]);first|done|rfl|(simp only [List.length_drop,List.length_take];rfl)) ?_;(with_reducible refine (understudyref04_is.calls _ _ l0 ((rd_T33 l0 a1).f3) 7 true _ ?side1 ?side2 A95.out).mono ?_);(case side1 => repeat (first|exact (Kd.C_below HR0.out HB.out)|(with_reducible refine Kd.C_alloc ?_ _)|(with_reducible refine Kd.C_drewN ?_ _)|(with_reducible refine Kd.C_drew ?_)));(case side2 => exact HC0.out);rintro e w' ⟨rfl,⟨nd,rfl⟩⟩;refine ⟨_,rfl,?_⟩)|(go_at_call 44;(with_reducible refine (understudyref04_is.calls _ _ l0 ((rd_T33 l0 a1).f4) 12 true _ ?side1 ?side2 A97.out).mono ?_);(case side1 => repeat (first|exact (Kd.C_below HR0.out (by repeat (first|(with_reducible first|exact HB.out|apply below_alloc|apply pw_below_drewN|apply below_drew1|refine below_set ?_ GE203.out)|exact HB.out)))|(with_reducible refine Kd.C_alloc ?_ _)|(with_reducible refine Kd.C_drewN ?_ _)|(with_reducible refine Kd.C_drew ?_)));(case side2 => exact HC0.out);rintro e w' ⟨rfl,⟨nd,rfl⟩⟩))
              go_ret
              exact ⟨by first|rfl|(simp [errW_none,errW_some] <;> rfl)|(simp [*,errW_none,errW_some] <;> rfl),by repeat (first|(with_reducible first|exact HB.out|apply below_alloc|apply pw_below_drewN|apply below_drew1|refine below_set ?_ GE203.out)|exact HB.out)⟩
             ·replace c98:=Bool.eq_false_iff.mpr c98
              subst c98
              have H1:(some 40)=some r:=by rw [if_neg (show ¬ (false=true) by decide)] at H;exact H
              clear H
              have H:=H1
              clear H1
              obtain rfl:=Option.some.inj H
              have hcz100_0:wc.cell? ⟨gb203,0,none⟩=some (.int .i64 ((rd_T33 l0 a1).f0)):=(blk_cell BK203.out 0).trans rfl
              have hcz100_1:wc.cell? ⟨gb203,1,none⟩=some (.string ((rd_T33 l0 a1).f1)):=(blk_cell BK203.out 1).trans rfl
              have hcz100_2:wc.cell? ⟨gb203,2,none⟩=some (.int .i64 ((rd_T33 l0 a1).f2)):=(blk_cell BK203.out 2).trans rfl
              have hcz100_3:wc.cell? ⟨gb203,3,none⟩=some (.int .i64 ((rd_T33 l0 a1).f3)):=(blk_cell BK203.out 3).trans rfl
              have hcz100_4:wc.cell? ⟨gb203,4,none⟩=some (.int .i64 ((rd_T33 l0 a1).f4)):=(blk_cell BK203.out 4).trans rfl
              have hfz100_0:=blk_frozen BK203.out 0
              have hfz100_1:=blk_frozen BK203.out 1
              have hfz100_2:=blk_frozen BK203.out 2
              have hfz100_3:=blk_frozen BK203.out 3
              have hfz100_4:=blk_frozen BK203.out 4
              go_wp2_with (first|((with_reducible refine gate_callee (f:=44) rfl ?_);refine goesL_ (some 69) rfl rfl Tryd.func44 (by kernel_rfl) rfl #[.slice (some ad202) l0.length c0,.int .i64 ((rd_T33 l0 a1).f3),.int .i64 7] rfl (by (try simp only [List.map_toArray,List.map_cons,List.map_nil]);first|done|rfl|(simp only [List.length_drop,List.length_take];rfl)) ?_;(with_reducible refine (understudyref04_is.calls _ _ l0 ((rd_T33 l0 a1).f3) 7 true _ ?side1 ?side2 A95.out).mono ?_);(case side1 => repeat (first|exact (Kd.C_below HR0.out HB.out)|(with_reducible refine Kd.C_alloc ?_ _)|(with_reducible refine Kd.C_drewN ?_ _)|(with_reducible refine Kd.C_drew ?_)));(case side2 => exact HC0.out);rintro e w' ⟨rfl,⟨nd,rfl⟩⟩;refine ⟨_,rfl,?_⟩)|(go_at_call 44;(with_reducible refine (understudyref04_is.calls _ _ l0 ((rd_T33 l0 a1).f4) 12 false _ ?side1 ?side2 A97.out).mono ?_);(case side1 => repeat (first|exact (Kd.C_below HR0.out (by repeat (first|(with_reducible first|exact HB.out|apply below_alloc|apply pw_below_drewN|apply below_drew1|refine below_set ?_ GE203.out)|exact HB.out)))|(with_reducible refine Kd.C_alloc ?_ _)|(with_reducible refine Kd.C_drewN ?_ _)|(with_reducible refine Kd.C_drew ?_)));(case side2 => exact HC0.out);rintro e w' ⟨rfl,⟨nd,rfl⟩⟩))
              go_ret
              exact ⟨by first|rfl|(simp [errW_none,errW_some] <;> rfl)|(simp [*,errW_none,errW_some] <;> rfl),by repeat (first|(with_reducible first|exact HB.out|apply below_alloc|apply pw_below_drewN|apply below_drew1|refine below_set ?_ GE203.out)|exact HB.out)⟩
            ·replace c96:=Bool.eq_false_iff.mpr c96
             subst c96
             have H1:(some 40)=some r:=by rw [if_neg (show ¬ (false=true) by decide)] at H;exact H
             clear H
             have H:=H1
             clear H1
             obtain rfl:=Option.some.inj H
             have hcz101_0:wc.cell? ⟨gb203,0,none⟩=some (.int .i64 ((rd_T33 l0 a1).f0)):=(blk_cell BK203.out 0).trans rfl
             have hcz101_1:wc.cell? ⟨gb203,1,none⟩=some (.string ((rd_T33 l0 a1).f1)):=(blk_cell BK203.out 1).trans rfl
             have hcz101_2:wc.cell? ⟨gb203,2,none⟩=some (.int .i64 ((rd_T33 l0 a1).f2)):=(blk_cell BK203.out 2).trans rfl
             have hcz101_3:wc.cell? ⟨gb203,3,none⟩=some (.int .i64 ((rd_T33 l0 a1).f3)):=(blk_cell BK203.out 3).trans rfl
             have hcz101_4:wc.cell? ⟨gb203,4,none⟩=some (.int .i64 ((rd_T33 l0 a1).f4)):=(blk_cell BK203.out 4).trans rfl
             have hfz101_0:=blk_frozen BK203.out 0
             have hfz101_1:=blk_frozen BK203.out 1
             have hfz101_2:=blk_frozen BK203.out 2
             have hfz101_3:=blk_frozen BK203.out 3
             have hfz101_4:=blk_frozen BK203.out 4
             go_wp2_with (first|((with_reducible refine gate_callee (f:=44) rfl ?_);refine goesL_ (some 69) rfl rfl Tryd.func44 (by kernel_rfl) rfl #[.slice (some ad202) l0.length c0,.int .i64 ((rd_T33 l0 a1).f3),.int .i64 7] rfl (by (try simp only [List.map_toArray,List.map_cons,List.map_nil]);first|done|rfl|(simp only [List.length_drop,List.length_take];rfl)) ?_;(with_reducible refine (understudyref04_is.calls _ _ l0 ((rd_T33 l0 a1).f3) 7 false _ ?side1 ?side2 A95.out).mono ?_);(case side1 => repeat (first|exact (Kd.C_below HR0.out HB.out)|(with_reducible refine Kd.C_alloc ?_ _)|(with_reducible refine Kd.C_drewN ?_ _)|(with_reducible refine Kd.C_drew ?_)));(case side2 => exact HC0.out);rintro e w' ⟨rfl,⟨nd,rfl⟩⟩;refine ⟨_,rfl,?_⟩))
             go_ret
             exact ⟨by first|rfl|(simp [errW_none,errW_some] <;> rfl)|(simp [*,errW_none,errW_some] <;> rfl),by repeat (first|(with_reducible first|exact HB.out|apply below_alloc|apply pw_below_drewN|apply below_drew1|refine below_set ?_ GE203.out)|exact HB.out)⟩
           ·replace c94:=Bool.eq_false_iff.mpr c94
            subst c94
            have H1:(some 40)=some r:=by rw [if_neg (show ¬ (false=true) by decide)] at H;exact H
            clear H
            have H:=H1
            clear H1
            obtain rfl:=Option.some.inj H
            go_wp2
            go_ret
            exact ⟨by first|rfl|(simp [errW_none,errW_some] <;> rfl)|(simp [*,errW_none,errW_some] <;> rfl),by repeat (first|(with_reducible first|exact HB.out|apply below_alloc|apply pw_below_drewN|apply below_drew1|refine below_set ?_ GE203.out)|exact HB.out)⟩
   ·replace c6:=Bool.eq_false_iff.mpr c6
    subst c6
    have H1:(some 40)=some r:=by rw [if_neg (show ¬ (false=true) by decide)] at H;exact H
    clear H
    have H:=H1
    clear H1
    obtain rfl:=Option.some.inj H
    have p202:0≤(a1:Int):=of_decide_eq_true (by first|(with_reducible assumption)|assumption)
    have q202:a1 < (l0.length:Int):=of_decide_eq_true (by first|(with_reducible assumption)|assumption)
    obtain ⟨ad202,e202,hx202_0,hx202_1,hx202_2,hx202_3,hx202_4⟩:=at_T33 HR0.out a1 p202 q202
    cases e202
    replace p202:=eq_true p202
    replace q202:=eq_true q202
    go_enter Tryd.func21,Tryd.ntmps21
    go_wp2_with (first|((with_reducible refine gate_dst (N:=5) rfl ?_);(try (refine gate_guard (by rfl) ?_;dsimp only));refine box_event ?hg (N:=5) ?hd (cs:=#[.int .i64 0,.string (⟨#[]⟩:ByteArray),.int .i64 0,.int .i64 0,.int .i64 0]) (t:=33) ?hr ?_;(case hd => rfl);(case hg => rfl);(case hr => first|(go_simp;done)|(go_simp;rfl));intro gb203 hg w102 hbox hb;have n0_:=Aside0.mk (below_step (by repeat (first|(with_reducible first|exact HB.out|apply below_alloc|apply pw_below_drewN|apply below_drew1)|exact HB.out)) hb);have n1_:=Aside0.mk (hbox);have n2_:=Aside0.mk ((by rw [hg];exact (below_size (by repeat (first|(with_reducible first|exact HB.out|apply below_alloc|apply pw_below_drewN|apply below_drew1)|exact HB.out))):w.heap.size≤gb203));have n3_:=Aside0.mk ((by rw [hg];exact (below_size (by repeat (first|(with_reducible first|exact HB.out|apply below_alloc|apply pw_below_drewN|apply below_drew1)|exact HB.out))):w.heap.size≤gb203));clear HB;have HB:=n0_;have BK203:=n1_;have GW203:=n2_;have GE203:=n3_;clear n0_ n1_ n2_ n3_;clear hb hbox hg;have hcz103_0:w102.cell? ⟨gb203,0,none⟩=some (.int .i64 0):=(blk_cell BK203.out 0).trans rfl;have hcz103_1:w102.cell? ⟨gb203,1,none⟩=some (.string (⟨#[]⟩:ByteArray)):=(blk_cell BK203.out 1).trans rfl;have hcz103_2:w102.cell? ⟨gb203,2,none⟩=some (.int .i64 0):=(blk_cell BK203.out 2).trans rfl;have hcz103_3:w102.cell? ⟨gb203,3,none⟩=some (.int .i64 0):=(blk_cell BK203.out 3).trans rfl;have hcz103_4:w102.cell? ⟨gb203,4,none⟩=some (.int .i64 0):=(blk_cell BK203.out 4).trans rfl;have hfz103_0:=blk_frozen BK203.out 0;have hfz103_1:=blk_frozen BK203.out 1;have hfz103_2:=blk_frozen BK203.out 2;have hfz103_3:=blk_frozen BK203.out 3;have hfz103_4:=blk_frozen BK203.out 4)|((with_reducible refine gate_store (t:=33) (p:=5) rfl ?_);refine store_event (t:=33) (p:=5) (v:=?vo_w104) (w1:=(((((w102.setCell ⟨gb203,0,none⟩ (.int .i64 ((rd_T33 l0 a1).f0))).setCell ⟨gb203,1,none⟩ (.string ((rd_T33 l0 a1).f1))).setCell ⟨gb203,2,none⟩ (.int .i64 ((rd_T33 l0 a1).f2))).setCell ⟨gb203,3,none⟩ (.int .i64 ((rd_T33 l0 a1).f3))).setCell ⟨gb203,4,none⟩ (.int .i64 ((rd_T33 l0 a1).f4)))) ?hg ?ho ?hn ?hr ?_;(case ho => rfl);(case hg => rfl);(case hn => rfl);(case hr => first|(go_simp;done)|(go_simp;rfl));intro w104 hw;have n0_:Aside0 (w104.heap[gb203]?=some (.cells #[.int .i64 ((rd_T33 l0 a1).f0),.string ((rd_T33 l0 a1).f1),.int .i64 ((rd_T33 l0 a1).f2),.int .i64 ((rd_T33 l0 a1).f3),.int .i64 ((rd_T33 l0 a1).f4)] 33 (0,0))):=⟨(by rw [hw];exact (by (with_reducible repeat (first|refine blk_drewN ?_ _|refine blk_drew ?_|refine blk_alloc ?_ _));refine blk_put (cs:=#[.int .i64 ((rd_T33 l0 a1).f0),.string ((rd_T33 l0 a1).f1),.int .i64 ((rd_T33 l0 a1).f2),.int .i64 ((rd_T33 l0 a1).f3),.int .i64 0]) ?_ 4 _ rfl;(with_reducible repeat (first|refine blk_drewN ?_ _|refine blk_drew ?_|refine blk_alloc ?_ _));refine blk_put (cs:=#[.int .i64 ((rd_T33 l0 a1).f0),.string ((rd_T33 l0 a1).f1),.int .i64 ((rd_T33 l0 a1).f2),.int .i64 0,.int .i64 0]) ?_ 3 _ rfl;(with_reducible repeat (first|refine blk_drewN ?_ _|refine blk_drew ?_|refine blk_alloc ?_ _));refine blk_put (cs:=#[.int .i64 ((rd_T33 l0 a1).f0),.string ((rd_T33 l0 a1).f1),.int .i64 0,.int .i64 0,.int .i64 0]) ?_ 2 _ rfl;(with_reducible repeat (first|refine blk_drewN ?_ _|refine blk_drew ?_|refine blk_alloc ?_ _));refine blk_put (cs:=#[.int .i64 ((rd_T33 l0 a1).f0),.string (⟨#[]⟩:ByteArray),.int .i64 0,.int .i64 0,.int .i64 0]) ?_ 1 _ rfl;(with_reducible repeat (first|refine blk_drewN ?_ _|refine blk_drew ?_|refine blk_alloc ?_ _));refine blk_put (cs:=#[.int .i64 0,.string (⟨#[]⟩:ByteArray),.int .i64 0,.int .i64 0,.int .i64 0]) ?_ 0 _ rfl;(with_reducible repeat (first|refine blk_drewN ?_ _|refine blk_drew ?_|refine blk_alloc ?_ _));exact BK203.out))⟩;have n1_:Aside0 (Below w.heap.size w w104):=⟨(by rw [hw];exact (by repeat (first|(with_reducible first|exact HB.out|apply below_alloc|apply pw_below_drewN|apply below_drew1|refine below_set ?_ GE203.out)|exact HB.out)))⟩;clear hw;clear BK203;clear HB;have BK203:=n0_;have HB:=n1_;clear n0_ n1_;have hcz105_0:w104.cell? ⟨gb203,0,none⟩=some (.int .i64 ((rd_T33 l0 a1).f0)):=(blk_cell BK203.out 0).trans rfl;have hcz105_1:w104.cell? ⟨gb203,1,none⟩=some (.string ((rd_T33 l0 a1).f1)):=(blk_cell BK203.out 1).trans rfl;have hcz105_2:w104.cell? ⟨gb203,2,none⟩=some (.int .i64 ((rd_T33 l0 a1).f2)):=(blk_cell BK203.out 2).trans rfl;have hcz105_3:w104.cell? ⟨gb203,3,none⟩=some (.int .i64 ((rd_T33 l0 a1).f3)):=(blk_cell BK203.out 3).trans rfl;have hcz105_4:w104.cell? ⟨gb203,4,none⟩=some (.int .i64 ((rd_T33 l0 a1).f4)):=(blk_cell BK203.out 4).trans rfl;have hfz105_0:=blk_frozen BK203.out 0;have hfz105_1:=blk_frozen BK203.out 1;have hfz105_2:=blk_frozen BK203.out 2;have hfz105_3:=blk_frozen BK203.out 3;have hfz105_4:=blk_frozen BK203.out 4)|((with_reducible refine gate_callee (f:=43) rfl ?_);refine goesL_ (some 14) rfl rfl Tryd.func43 (by kernel_rfl) rfl #[.agg #[.int .i64 ((rd_T33 l0 a1).f0),.string ((rd_T33 l0 a1).f1),.int .i64 ((rd_T33 l0 a1).f2),.int .i64 ((rd_T33 l0 a1).f3),.int .i64 ((rd_T33 l0 a1).f4)]] rfl (by (try simp only [List.map_toArray,List.map_cons,List.map_nil]);first|done|rfl|(simp only [List.length_drop,List.length_take];rfl)) ?_;(with_reducible refine (understudyref04_bare.calls k ((rd_T33 l0 a1).f0) ((rd_T33 l0 a1).f1) ((rd_T33 l0 a1).f2) ((rd_T33 l0 a1).f3) ((rd_T33 l0 a1).f4) false _ A5.out).mono ?_);rintro e w106 ⟨rfl,hb⟩;refine ⟨_,rfl,?_⟩;have n0_:=Aside0.mk (blk_below (g:=gb203) (o:=.cells #[.int .i64 ((rd_T33 l0 a1).f0),.string ((rd_T33 l0 a1).f1),.int .i64 ((rd_T33 l0 a1).f2),.int .i64 ((rd_T33 l0 a1).f3),.int .i64 ((rd_T33 l0 a1).f4)] 33 (0,0)) (by (with_reducible repeat (first|refine blk_drewN ?_ _|refine blk_drew ?_|refine blk_alloc ?_ _));exact BK203.out) hb);have n1_:=Aside0.mk (below_step (by repeat (first|(with_reducible first|exact HB.out|apply below_alloc|apply pw_below_drewN|apply below_drew1|refine below_set ?_ GE203.out)|exact HB.out)) hb);clear BK203;clear HB;have BK203:=n0_;have HB:=n1_;clear n0_ n1_;(try clear hb);(try clear hb2);(try clear hk);(try clear hi)))
    go_ret
    exact ⟨by first|rfl|(simp [errW_none,errW_some] <;> rfl)|(simp [*,errW_none,errW_some] <;> rfl),by repeat (first|(with_reducible first|exact HB.out|apply below_alloc|apply pw_below_drewN|apply below_drew1|refine below_set ?_ GE203.out)|exact HB.out)⟩
  ·rw [if_neg c4] at H
   exact absurd H (by simp)
 ·rw [if_neg c3] at H
  exact absurd H (by simp)
end Go.Proofs.YtglnhkgodgjepaaDoor.Px
namespace Go.Proofs.YtglnhkgodgjepaaDoor.Px
open Go.RowKit Go.Proofs.YtglnhkgodgjepaaDoorW.PrintWords Go.Proofs.YtglnhkgodgjepaaDoorW.PrintLast Go.Proofs.YtglnhkgodgjepaaDoorW.PrintMore
attribute [local go_sem] max2_int min2_int max_two min_two max_three min_three max_four min_four
set_option linter.unusedVariables false
set_option linter.unusedSimpArgs false
attribute [local go_sem high] eqA33
mutual
def understudyref04_Check.j0:Nat→List (S33)→Bool→Option (Int)
 | 0,_,_ => none
 | k + 1,x0,x17 => if x17=true then (some 40) else (understudyref04_Check.l0 k x0 1)
def understudyref04_Check.l0:Nat→List (S33)→Int→Option (Int)
 | 0,_,_ => none
 | k + 1,x0,x3 => if x3 < (x0.length:Int) then ((understudyref04_one.f k x0 x3).bind fun t215 => (if t215=0 then (understudyref04_Check.l0 k x0 (wrap64 (x3 + 1))) else (some t215))) else (some 0)
end
def understudyref04_Check.f (k:Nat) (l0:List (S33)):Option (Int):=if (l0.length:Int) > 1024 then (some 2) else (if (l0.length:Int)=0 then (understudyref04_Check.j0 k l0 true) else (if 0 < (l0.length:Int) then (understudyref04_Check.j0 k l0 (!(((rd_T33 l0 0).f0)==0) || (!((((rd_T33 l0 0).f1).toList)==([]:List UInt8)) || (!(((rd_T33 l0 0).f2)==0) || (!(((rd_T33 l0 0).f3)==0) || (!(((rd_T33 l0 0).f4)==0))))))) else (none)))
theorem understudyref04_Check.mono_l:∀ k,(∀ y0 y1,LeO (understudyref04_Check.j0 k y0 y1) (understudyref04_Check.j0 (k + 1) y0 y1))∧(∀ y0 y1,LeO (understudyref04_Check.l0 k y0 y1) (understudyref04_Check.l0 (k + 1) y0 y1))
 | 0 => ⟨fun _ _ r h => by simp [understudyref04_Check.j0] at h,fun _ _ r h => by simp [understudyref04_Check.l0] at h⟩
 | k + 1 => by
  obtain ⟨ih0,ih1⟩:=understudyref04_Check.mono_l k
  refine ⟨?_,?_⟩
  ·intro y0 y1
   unfold understudyref04_Check.j0
   repeat' first
   | (with_reducible exact ih0 _ _)
   | (with_reducible exact ih1 _ _)
   | (with_reducible exact understudyref04_one.mono _ _ _)
   | (with_reducible exact LeO.refl _)
   | (with_reducible exact LeO.none _)
   | (with_reducible refine LeO.ite ?_ ?_)
   | (with_reducible refine LeO.bind ?_ (fun _ => ?_))
   | exact ih0 _ _
   | exact ih1 _ _
   | exact understudyref04_one.mono _ _ _
   | exact LeO.none _
   | refine LeO.ite ?_ ?_
   | refine LeO.bind ?_ (fun _ => ?_)
  ·intro y0 y1
   unfold understudyref04_Check.l0
   repeat' first
   | (with_reducible exact ih0 _ _)
   | (with_reducible exact ih1 _ _)
   | (with_reducible exact understudyref04_one.mono _ _ _)
   | (with_reducible exact LeO.refl _)
   | (with_reducible exact LeO.none _)
   | (with_reducible refine LeO.ite ?_ ?_)
   | (with_reducible refine LeO.bind ?_ (fun _ => ?_))
   | exact ih0 _ _
   | exact ih1 _ _
   | exact understudyref04_one.mono _ _ _
   | exact LeO.none _
   | refine LeO.ite ?_ ?_
   | refine LeO.bind ?_ (fun _ => ?_)
theorem understudyref04_Check.mono:∀ a0 k,LeO (understudyref04_Check.f k a0) (understudyref04_Check.f (k + 1) a0):=by
 intro a0 k
 obtain ⟨ih0,ih1⟩:=understudyref04_Check.mono_l k
 unfold understudyref04_Check.f
 repeat' first
   | (with_reducible exact ih0 _ _)
   | (with_reducible exact ih1 _ _)
   | (with_reducible exact understudyref04_one.mono _ _ _)
   | (with_reducible exact LeO.refl _)
   | (with_reducible exact LeO.none _)
   | (with_reducible refine LeO.ite ?_ ?_)
   | (with_reducible refine LeO.bind ?_ (fun _ => ?_))
   | exact ih0 _ _
   | exact ih1 _ _
   | exact understudyref04_one.mono _ _ _
   | exact LeO.none _
   | refine LeO.ite ?_ ?_
   | refine LeO.bind ?_ (fun _ => ?_)
set_option maxHeartbeats 80000000 in
set_option maxRecDepth 100000 in
theorem understudyref04_Check.calls (k:Nat) (A0:Option Addr) (c0:Nat) (l0:List (S33)) (r:Int) (w:World) (hr0:Kd.C k33 w A0 l0.length l0) (hc0:l0.length≤c0) (h:understudyref04_Check.f k l0=some r) :
  Calls Tryd.prog 9 #[.slice A0 l0.length c0] w fun e w' => e=.returned (.int .i64 r)∧Below w.heap.size w w':=by
 have hu33:=Tryd.underlying33
 have HR0:=Aside0.mk hr0
 have HC0:=Aside0.mk hc0
 clear hr0 hc0
 have HB:=Aside0.mk (Below.refl w.heap.size w)
 have H:(if (l0.length:Int) > 1024 then (some 2) else (if (l0.length:Int)=0 then (understudyref04_Check.j0 k l0 true) else (if 0 < (l0.length:Int) then (understudyref04_Check.j0 k l0 (!(((rd_T33 l0 0).f0)==0) || (!((((rd_T33 l0 0).f1).toList)==([]:List UInt8)) || (!(((rd_T33 l0 0).f2)==0) || (!(((rd_T33 l0 0).f3)==0) || (!(((rd_T33 l0 0).f4)==0))))))) else (none))))=some r:=h
 clear h
 by_cases c2:(l0.length:Int) > 1024
 ·rw [if_pos c2] at H
  have c2b0:decide (1024 < (l0.length:Int))=true:=decide_eq_true c2
  have c2b1:decide (1024 < l0.length)=true:=decide_eq_true (by omega)
  clear c2
  obtain rfl:=Option.some.inj H
  go_enter Tryd.func9,Tryd.ntmps9
  go_wp2
  go_ret
  exact ⟨by first|rfl|(simp [errW_none,errW_some] <;> rfl)|(simp [*,errW_none,errW_some] <;> rfl),by repeat (first|(with_reducible first|exact HB.out|apply below_alloc|apply pw_below_drewN|apply below_drew1)|exact HB.out)⟩
 ·rw [if_neg c2] at H
  have c2b0:decide (1024 < (l0.length:Int))=false:=decide_eq_false c2
  have c2b1:decide (1024 < l0.length)=false:=decide_eq_false (by omega)
  clear c2
  have HC3:=Aside0.mk H
  clear H
  go_enter Tryd.func9,Tryd.ntmps9
  go_upto_region 3 with (fail)
  go_cut [17] (fun v17 wc => ∃ (kq:Nat) (x17_2:Bool),v17=.bool x17_2∧Aside0 (understudyref04_Check.j0 kq l0 x17_2=some r)∧Aside0 (kq≤k)∧Aside0 (Below w.heap.size w wc))
  case first =>
   have H:=HC3.out
   clear HC3
   by_cases c4:(l0.length:Int)=0
   ·rw [if_pos c4] at H
    have c4b0:((l0.length:Int)==0)=true:=beq_iff_eq.mpr c4
    have c4b1:((l0.length:Int) != 0)=false:=bne_eq_false_iff_eq.mpr c4
    clear c4
    (first|rw [c4b0]|(simp only [i64_w,i32_w];rw [c4b0])|skip)
    have H':=Aside0.mk H
    clear H
    go_wp2
    go_meet
    case rel => exact ⟨_,(true),(by first|rfl|(simp;done)|(simp [*];done)),H',⟨by first|omega|exact Nat.le_refl _⟩,⟨by repeat (first|(with_reducible first|exact HB.out|apply below_alloc|apply pw_below_drewN|apply below_drew1)|exact HB.out)⟩⟩
   ·rw [if_neg c4] at H
    have c4b0:((l0.length:Int)==0)=false:=beq_eq_false_iff_ne.mpr c4
    have c4b1:((l0.length:Int) != 0)=true:=bne_iff_ne.mpr c4
    have c4b2:¬ (l0=[]):=fun h_ => c4 (by rw [h_];rfl)
    (first|rw [c4b0]|(simp only [i64_w,i32_w];rw [c4b0])|skip)
    by_cases c5:0 < (l0.length:Int)
    ·rw [if_pos c5] at H
     have c5b0:decide (0 < (l0.length:Int))=true:=decide_eq_true c5
     have c5b1:decide (0 < l0.length)=true:=decide_eq_true (by omega)
     clear c5
     have H':=Aside0.mk H
     clear H
     have p214:0≤(0:Int):=(by omega)
     have q214:0 < (l0.length:Int):=of_decide_eq_true (by first|(with_reducible assumption)|assumption)
     obtain ⟨ad214,e214,hx214_0,hx214_1,hx214_2,hx214_3,hx214_4⟩:=at_T33 HR0.out 0 p214 q214
     cases e214
     have qi214:(0 < l0.length)=True:=eq_true (by omega)
     (try rw [show ((0:Int)).toNat=0 from rfl] at hx214_0)
     (try rw [show 0 * 5=0 from rfl] at hx214_0)
     (try rw [Addr.add_zero'] at hx214_0)
     (try rw [show ((0:Int)).toNat=0 from rfl] at hx214_1)
     (try rw [show 0 * 5=0 from rfl] at hx214_1)
     (try rw [Addr.add_zero'] at hx214_1)
     (try rw [show ((0:Int)).toNat=0 from rfl] at hx214_2)
     (try rw [show 0 * 5=0 from rfl] at hx214_2)
     (try rw [Addr.add_zero'] at hx214_2)
     (try rw [show ((0:Int)).toNat=0 from rfl] at hx214_3)
     (try rw [show 0 * 5=0 from rfl] at hx214_3)
     (try rw [Addr.add_zero'] at hx214_3)
     (try rw [show ((0:Int)).toNat=0 from rfl] at hx214_4)
     (try rw [show 0 * 5=0 from rfl] at hx214_4)
     (try rw [Addr.add_zero'] at hx214_4)
     replace hx214_0:=(HB.out.cell (World.block_lt_of_cell? w _ hx214_0)).trans hx214_0
     replace hx214_1:=(HB.out.cell (World.block_lt_of_cell? w _ hx214_1)).trans hx214_1
     replace hx214_2:=(HB.out.cell (World.block_lt_of_cell? w _ hx214_2)).trans hx214_2
     replace hx214_3:=(HB.out.cell (World.block_lt_of_cell? w _ hx214_3)).trans hx214_3
     replace hx214_4:=(HB.out.cell (World.block_lt_of_cell? w _ hx214_4)).trans hx214_4
     replace p214:=eq_true p214
     replace q214:=eq_true q214
     go_wp2
     go_meet
     case rel => exact ⟨_,((!(((rd_T33 l0 0).f0)==0) || (!((((rd_T33 l0 0).f1).toList)==([]:List UInt8)) || (!(((rd_T33 l0 0).f2)==0) || (!(((rd_T33 l0 0).f3)==0) || (!(((rd_T33 l0 0).f4)==0))))))),(by first|rfl|(simp;done)|(simp [*];done)),H',⟨by first|omega|exact Nat.le_refl _⟩,⟨by repeat (first|(with_reducible first|exact HB.out|apply below_alloc|apply pw_below_drewN|apply below_drew1)|exact HB.out)⟩⟩
    ·rw [if_neg c5] at H
     exact absurd H (by simp)
  case rest =>
   clear HC3
   try clear c2;try clear c2b0;try clear c2b1;try clear p2;try clear q2;try clear hx2;try clear qi2;try clear c4;try clear c4b0;try clear c4b1;try clear c4b2;try clear c5;try clear c5b0;try clear c5b1;try clear hx214_0;try clear hx214_1;try clear hx214_2;try clear hx214_3;try clear hx214_4;try clear p214;try clear q214
   obtain ⟨kq,x17_2,rfl,HA,HJ2,HB⟩:=hcut
   cases kq with
   | zero => exact absurd HA.out (by simp [understudyref04_Check.j0])
   | succ kj2 =>
    have H:=HA.out
    clear HA
    simp only [understudyref04_Check.j0] at H
    by_cases c6:x17_2=true
    ·subst c6
     have H1:(some 40)=some r:=by rw [if_pos rfl] at H;exact H
     clear H
     have H:=H1
     clear H1
     obtain rfl:=Option.some.inj H
     go_wp2
     go_ret
     exact ⟨by first|rfl|(simp [errW_none,errW_some] <;> rfl)|(simp [*,errW_none,errW_some] <;> rfl),by repeat (first|(with_reducible first|exact HB.out|apply below_alloc|apply pw_below_drewN|apply below_drew1)|exact HB.out)⟩
    ·replace c6:=Bool.eq_false_iff.mpr c6
     subst c6
     have H1:(understudyref04_Check.l0 kj2 l0 1)=some r:=by rw [if_neg (show ¬ (false=true) by decide)] at H;exact H
     clear H
     have H:=H1
     clear H1
     have H':=Aside0.mk H
     clear H
     go_wp2
     go_loopg [3] kj2 (fun kq v3 w' => ∃ (x3_2:Int),v3=.int .i64 x3_2∧Aside0 (understudyref04_Check.l0 kq l0 x3_2=some r)∧Aside0 (kq≤kj2)∧Aside0 (Below w.heap.size w w'))
     case atStart => exact ⟨(1),(by first|rfl|(simp;done)|(simp [*];done)),H',⟨Nat.le_refl _⟩,⟨by repeat (first|(with_reducible first|exact HB.out|apply below_alloc|apply pw_below_drewN|apply below_drew1)|exact HB.out)⟩⟩
     case round =>
      clear H'
      try clear c2;try clear c2b0;try clear c2b1;try clear p2;try clear q2;try clear hx2;try clear qi2;try clear c4;try clear c4b0;try clear c4b1;try clear c4b2;try clear c5;try clear c5b0;try clear c5b1;try clear c6;try clear hx214_0;try clear hx214_1;try clear hx214_2;try clear hx214_3;try clear hx214_4;try clear p2;try clear p214;try clear q2;try clear q214
      obtain ⟨x3_2,rfl,HA,HK2,HB⟩:=hrel
      cases gk with
      | zero => exact absurd HA.out (by simp [understudyref04_Check.l0])
      | succ k2 =>
       have H:=HA.out
       clear HA
       simp only [understudyref04_Check.l0] at H
       by_cases c7:x3_2 < (l0.length:Int)
       ·rw [if_pos c7] at H
        have c7b0:decide (x3_2 < (l0.length:Int))=true:=decide_eq_true c7
        clear c7
        replace H:=Option.bind_eq_some_iff.mp H
        obtain ⟨t215,A80,H⟩:=H
        replace H:(if t215=0 then (understudyref04_Check.l0 k2 l0 (wrap64 (x3_2 + 1))) else (some t215))=some r:=H
        have A8:=Aside0.mk A80
        clear A80
        by_cases c9:t215=0
        ·rw [if_pos c9] at H
         have c9b0:(t215==0)=true:=beq_iff_eq.mpr c9
         have c9b1:(t215 != 0)=false:=bne_eq_false_iff_eq.mpr c9
         clear c9
         have H':=Aside0.mk H
         clear H
         go_wp2_with (first|((with_reducible refine gate_callee (f:=21) rfl ?_);refine goesL_ (some 26) rfl rfl Tryd.func21 (by kernel_rfl) rfl #[.slice A0 l0.length c0,.int .i64 x3_2] rfl (by (try simp only [List.map_toArray,List.map_cons,List.map_nil]);first|done|rfl|(simp only [List.length_drop,List.length_take];rfl)) ?_;(with_reducible refine (understudyref04_one.calls k2 _ _ l0 x3_2 t215 _ ?side1 ?side2 A8.out).mono ?_);(case side1 => repeat (first|exact (Kd.C_below HR0.out HB.out)|(with_reducible refine Kd.C_alloc ?_ _)|(with_reducible refine Kd.C_drewN ?_ _)|(with_reducible refine Kd.C_drew ?_)));(case side2 => exact HC0.out);rintro e w10 ⟨rfl,hb⟩;refine ⟨_,rfl,?_⟩;have n0_:=Aside0.mk (below_step (by repeat (first|(with_reducible first|exact HB.out|apply below_alloc|apply pw_below_drewN|apply below_drew1)|exact HB.out)) hb);clear HB;have HB:=n0_;clear n0_;(try clear hb);(try clear hb2);(try clear hk);(try clear hi)))
         go_roundg k2
         case measure => have:=HJ2.out;have:=HK2.out;omega
         case rel => exact ⟨(wrap64 (x3_2 + 1)),(by first|rfl|(simp;done)|(simp [*];done)),H',⟨by have:=HJ2.out;have:=HK2.out;omega⟩,⟨by repeat (first|(with_reducible first|exact HB.out|apply below_alloc|apply pw_below_drewN|apply below_drew1)|exact HB.out)⟩⟩
        ·rw [if_neg c9] at H
         have c9b0:(t215==0)=false:=beq_eq_false_iff_ne.mpr c9
         have c9b1:(t215 != 0)=true:=bne_iff_ne.mpr c9
         obtain rfl:=Option.some.inj H
         go_wp2_with (first|((with_reducible refine gate_callee (f:=21) rfl ?_);refine goesL_ (some 26) rfl rfl Tryd.func21 (by kernel_rfl) rfl #[.slice A0 l0.length c0,.int .i64 x3_2] rfl (by (try simp only [List.map_toArray,List.map_cons,List.map_nil]);first|done|rfl|(simp only [List.length_drop,List.length_take];rfl)) ?_;(with_reducible refine (understudyref04_one.calls k2 _ _ l0 x3_2 t215 _ ?side1 ?side2 A8.out).mono ?_);(case side1 => repeat (first|exact (Kd.C_below HR0.out HB.out)|(with_reducible refine Kd.C_alloc ?_ _)|(with_reducible refine Kd.C_drewN ?_ _)|(with_reducible refine Kd.C_drew ?_)));(case side2 => exact HC0.out);rintro e w11 ⟨rfl,hb⟩;refine ⟨_,rfl,?_⟩;have n0_:=Aside0.mk (below_step (by repeat (first|(with_reducible first|exact HB.out|apply below_alloc|apply pw_below_drewN|apply below_drew1)|exact HB.out)) hb);clear HB;have HB:=n0_;clear n0_;(try clear hb);(try clear hb2);(try clear hk);(try clear hi)))
         go_ret
         exact ⟨by first|rfl|(simp [errW_none,errW_some] <;> rfl)|(simp [*,errW_none,errW_some] <;> rfl),by repeat (first|(with_reducible first|exact HB.out|apply below_alloc|apply pw_below_drewN|apply below_drew1)|exact HB.out)⟩
       ·rw [if_neg c7] at H
        have c7b0:decide (x3_2 < (l0.length:Int))=false:=decide_eq_false c7
        clear c7
        obtain rfl:=Option.some.inj H
        go_wp2
        go_ret
        exact ⟨by first|rfl|(simp [errW_none,errW_some] <;> rfl)|(simp [*,errW_none,errW_some] <;> rfl),by repeat (first|(with_reducible first|exact HB.out|apply below_alloc|apply pw_below_drewN|apply below_drew1)|exact HB.out)⟩
def IsS77 (w0 W:World) (g:Nat) (f0:List Int) (f1:Int):Prop:=∃ A0 c0,W.heap[g]?=some (.cells #[.slice A0 f0.length c0,.int .i64 f1] 77 (0,0))∧w0.heap.size≤g∧Kd.C (Kd.int .u8) w0 A0 f0.length f0∧f0.length≤c0
theorem IsS77.grown {w0 W:World} {g:Nat} {f0:List Int} {f1:Int} {W1:World} {row:Option Nat} (h:IsS77 w0 W g f0 f1) (hw:W.grownBy W1 row) (hne:some g ≠ row):IsS77 w0 W1 g f0 f1:=by
 obtain ⟨A0,c0,hb,hg,hr0,hc0⟩:=h
 exact ⟨A0,c0,blk_grown hb hw hne,hg,hr0,hc0⟩
theorem IsS77.kept {w0 W:World} {g:Nat} {f0:List Int} {f1:Int} {W1:World} {S:Nat→Prop} (h:IsS77 w0 W g f0 f1) (hk:Kept W W1 S) (hne:¬ S g):IsS77 w0 W1 g f0 f1:=by
 obtain ⟨A0,c0,hb,hg,hr0,hc0⟩:=h
 exact ⟨A0,c0,blk_kept hb hk hne,hg,hr0,hc0⟩
theorem IsS77.below {w0 W:World} {g:Nat} {f0:List Int} {f1:Int} {W1:World} (h:IsS77 w0 W g f0 f1) (hw:Below W.heap.size W W1):IsS77 w0 W1 g f0 f1:=h.grown (grown_of_below hw none) (by simp)
theorem IsS77.alloc {w0 W:World} {g:Nat} {f0:List Int} {f1:Int} (h:IsS77 w0 W g f0 f1) (o:Obj):IsS77 w0 (W.alloc o) g f0 f1:=h.below (below_alloc (Below.refl _ _) o)
theorem IsS77.drewN {w0 W:World} {g:Nat} {f0:List Int} {f1:Int} (h:IsS77 w0 W g f0 f1) (m:Nat):IsS77 w0 (W.drewN m) g f0 f1:=h
theorem IsS77.drew {w0 W:World} {g:Nat} {f0:List Int} {f1:Int} (h:IsS77 w0 W g f0 f1):IsS77 w0 W.drew g f0 f1:=h
theorem IsS77.at_ {w0 W:World} {g:Nat} {f0:List Int} {f1:Int} {w':World} {m:Nat} (hq:W.drewN m=w') (h:IsS77 w0 W g f0 f1):IsS77 w0 w' g f0 f1:=by subst hq;exact IsS77.drewN h m
theorem IsS77.apart {w0 W:World} {g:Nat} {f0:List Int} {f1:Int} {α:Type} {d:Kd α} {e:Nat} {base:Nat} {ok:Nat→Prop} {v:Value} {xs:List α} (h:IsS77 w0 W g f0 f1) (ho:d.R e W base ok v xs) (ht:∀ q,q ∈ e :: d.E→q ≠ 77):d.R e W base (fun k => ok k∧k ≠ g) v xs:=by
 obtain ⟨A0,c0,hb,hg,hr0,hc0⟩:=h
 exact Kd.R_types ho hb ht
theorem IsS77.own_ne {w0 W:World} {g:Nat} {f0:List Int} {f1:Int} {α:Type} {d:Kd α} {e:Nat} {base:Nat} {ok:Nat→Prop} {v:Value} {xs:List α} (h:IsS77 w0 W g f0 f1) (ho:d.R e W base ok v xs) (ht:e ≠ 77):some g ≠ v.ownBlock:=by
 obtain ⟨A0,c0,hb,hg,hr0,hc0⟩:=h
 exact Kd.R_ne ho hb ht
theorem IsS77.lt {w0 W:World} {g:Nat} {f0:List Int} {f1:Int} (h:IsS77 w0 W g f0 f1):g < W.heap.size:=by
 obtain ⟨A0,c0,hb,hg,hr0,hc0⟩:=h
 exact blk_lt hb
theorem IsS77.ge {w0 W:World} {g:Nat} {f0:List Int} {f1:Int} (h:IsS77 w0 W g f0 f1):w0.heap.size≤g:=by
 obtain ⟨A0,c0,hb,hg,hr0,hc0⟩:=h
 exact hg
theorem IsS77.far {w0 W:World} {g:Nat} {f0:List Int} {f1:Int} {p:Addr} (h:IsS77 w0 W g f0 f1) (hne:g ≠ p.block) (u:Value):IsS77 w0 (W.setCell p u) g f0 f1:=by
 obtain ⟨A0,c0,hb,hg,hr0,hc0⟩:=h
 exact ⟨A0,c0,blk_far hb hne u,hg,hr0,hc0⟩
theorem cellS77_0 {W:World} {g:Nat} {A0:Option Addr} {c0:Nat} {f0:List Int} {f1:Int} (h:W.heap[g]?=some (.cells #[.slice A0 f0.length c0,.int .i64 f1] 77 (0,0))):W.cell? ⟨g,0,none⟩=some (.slice A0 f0.length c0):=(blk_cell h 0).trans rfl
theorem cellS77_1 {W:World} {g:Nat} {A0:Option Addr} {c0:Nat} {f0:List Int} {f1:Int} (h:W.heap[g]?=some (.cells #[.slice A0 f0.length c0,.int .i64 f1] 77 (0,0))):W.cell? ⟨g,1,none⟩=some (.int .i64 f1):=(blk_cell h 1).trans rfl
theorem IsS77.set_1 {w0 W:World} {g:Nat} {f0:List Int} {f1:Int} (h:IsS77 w0 W g f0 f1) (x:Int):IsS77 w0 (W.setCell ⟨g,1,none⟩ (.int .i64 x)) g f0 x:=by
 obtain ⟨A0,c0,hb,hg,hr0,hc0⟩:=h
 exact ⟨A0,c0,by simpa using blk_set hb 1 (.int .i64 x),hg,hr0,hc0⟩
theorem IsS77.new (w0 W:World) (A0:Option Addr) (c0:Nat) (f0:List Int) (f1:Int) (hB:Below w0.heap.size w0 W) (hr0:Kd.C (Kd.int .u8) w0 A0 f0.length f0) (hc0:f0.length≤c0):IsS77 w0 (W.alloc (.cells #[.slice A0 f0.length c0,.int .i64 f1] 77)) W.heap.size f0 f1:=⟨A0,c0,by simpa using heap_alloc_new W _,hB.size,hr0,hc0⟩
mutual
def understudyref01_Reader_Uint.j0:Nat→Int→Bool→List Int→Int→Option (Int × Int × Int)
 | 0,_,_,_,_ => none
 | k + 1,x1,x13,x1000,x1001 => if x13=true then (some (0,1,x1001)) else (if (wrap64 ((x1000.length:Int) - x1001)) < x1 then (some (0,3,x1001)) else (understudyref01_Reader_Uint.l0 k x1 0 0 x1000 x1001))
def understudyref01_Reader_Uint.l0:Nat→Int→Int→Int→List Int→Int→Option (Int × Int × Int)
 | 0,_,_,_,_,_ => none
 | k + 1,x1,x6,x7,x1000,x1001 => if x7 < x1 then (if 0≤(wrap64 (x1001 + x7)) then (if (wrap64 (x1001 + x7)) < (x1000.length:Int) then (understudyref01_Reader_Uint.l0 k x1 (Go.bits .or .u64 (IntKind.u64.wrap (x6 * 256)) (IntKind.u64.wrap (rd x1000 (wrap64 (x1001 + x7))))) (wrap64 (x7 + 1)) x1000 x1001) else (none)) else (none)) else (some (x6,0,wrap64 (x1001 + x1)))
end
def understudyref01_Reader_Uint.f (k:Nat) (s0_0:List Int) (s0_1:Int) (a1:Int):Option (Int × Int × Int):=if a1 < 1 then (understudyref01_Reader_Uint.j0 k a1 true s0_0 s0_1) else (understudyref01_Reader_Uint.j0 k a1 (decide (a1 > 8)) s0_0 s0_1)
theorem understudyref01_Reader_Uint.mono_l:∀ k,(∀ y0 y1 y2 y3,LeO (understudyref01_Reader_Uint.j0 k y0 y1 y2 y3) (understudyref01_Reader_Uint.j0 (k + 1) y0 y1 y2 y3))∧(∀ y0 y1 y2 y3 y4,LeO (understudyref01_Reader_Uint.l0 k y0 y1 y2 y3 y4) (understudyref01_Reader_Uint.l0 (k + 1) y0 y1 y2 y3 y4))
 | 0 => ⟨fun _ _ _ _ r h => by simp [understudyref01_Reader_Uint.j0] at h,fun _ _ _ _ _ r h => by simp [understudyref01_Reader_Uint.l0] at h⟩
 | k + 1 => by
  obtain ⟨ih0,ih1⟩:=understudyref01_Reader_Uint.mono_l k
  refine ⟨?_,?_⟩
  ·intro y0 y1 y2 y3
   unfold understudyref01_Reader_Uint.j0
   repeat' first
   | (with_reducible exact ih0 _ _ _ _)
   | (with_reducible exact ih1 _ _ _ _ _)
   | (with_reducible exact LeO.refl _)
   | (with_reducible exact LeO.none _)
   | (with_reducible refine LeO.ite ?_ ?_)
   | (with_reducible refine LeO.bind ?_ (fun _ => ?_))
   | exact ih0 _ _ _ _
   | exact ih1 _ _ _ _ _
   | exact LeO.none _
   | refine LeO.ite ?_ ?_
   | refine LeO.bind ?_ (fun _ => ?_)
  ·intro y0 y1 y2 y3 y4
   unfold understudyref01_Reader_Uint.l0
   repeat' first
   | (with_reducible exact ih0 _ _ _ _)
   | (with_reducible exact ih1 _ _ _ _ _)
   | (with_reducible exact LeO.refl _)
   | (with_reducible exact LeO.none _)
   | (with_reducible refine LeO.ite ?_ ?_)
   | (with_reducible refine LeO.bind ?_ (fun _ => ?_))
   | exact ih0 _ _ _ _
   | exact ih1 _ _ _ _ _
   | exact LeO.none _
   | refine LeO.ite ?_ ?_
   | refine LeO.bind ?_ (fun _ => ?_)
theorem understudyref01_Reader_Uint.mono:∀ a0 a1 a2 k,LeO (understudyref01_Reader_Uint.f k a0 a1 a2) (understudyref01_Reader_Uint.f (k + 1) a0 a1 a2):=by
 intro a0 a1 a2 k
 obtain ⟨ih0,ih1⟩:=understudyref01_Reader_Uint.mono_l k
 unfold understudyref01_Reader_Uint.f
 repeat' first
   | (with_reducible exact ih0 _ _ _ _)
   | (with_reducible exact ih1 _ _ _ _ _)
   | (with_reducible exact LeO.refl _)
   | (with_reducible exact LeO.none _)
   | (with_reducible refine LeO.ite ?_ ?_)
   | (with_reducible refine LeO.bind ?_ (fun _ => ?_))
   | exact ih0 _ _ _ _
   | exact ih1 _ _ _ _ _
   | exact LeO.none _
   | refine LeO.ite ?_ ?_
   | refine LeO.bind ?_ (fun _ => ?_)
set_option maxHeartbeats 80000000 in
set_option maxRecDepth 100000 in
theorem understudyref01_Reader_Uint.calls (k:Nat) (g:Nat) (s0_0:List Int) (s0_1:Int) (a1:Int) (r1:Int) (r2:Int) (r3:Int) (w0 w:World) (hI:IsS77 w0 w g s0_0 s0_1) (hB:Below w0.heap.size w0 w) (h:understudyref01_Reader_Uint.f k s0_0 s0_1 a1=some (r1,r2,r3)) :
  Calls Tryd.prog 35 #[.pointer (some ⟨g,0,none⟩),.int .i64 a1] w fun e w' => e=.returned (.tuple #[.int .u64 r1,.int .i64 r2])∧IsS77 w0 w' g s0_0 r3∧Below w0.heap.size w0 w'∧KeepBut w w' g none:=by
 have HI0:=Aside0.mk hI
 have HK:=Aside0.mk (KeepBut.refl w g none)
 have HL:=Aside0.mk hB.size
 clear hI
 have HW0:=Aside0.mk hB.size
 have HB:=Aside0.mk hB
 clear hB
 have H:(if a1 < 1 then (understudyref01_Reader_Uint.j0 k a1 true s0_0 s0_1) else (understudyref01_Reader_Uint.j0 k a1 (decide (a1 > 8)) s0_0 s0_1))=some (r1,r2,r3):=h
 clear h
 have HC3:=Aside0.mk H
 clear H
 go_enter Tryd.func35,Tryd.ntmps35
 go_upto_region 1 with (fail)
 repeat (go_quiet (fail);go_upto_region 1 with (fail))
 go_cut [13] (fun v13 wc => ∃ (kq:Nat) (x13_2:Bool),v13=.bool x13_2∧Aside0 (understudyref01_Reader_Uint.j0 kq a1 x13_2 s0_0 s0_1=some (r1,r2,r3))∧Aside0 (kq≤k)∧Aside0 (IsS77 w0 wc g s0_0 s0_1)∧Aside0 (KeepBut w wc g none)∧Aside0 (Below w0.heap.size w0 wc))
 case first =>
  have H:=HC3.out
  clear HC3
  by_cases c4:a1 < 1
  ·rw [if_pos c4] at H
   have c4b0:decide (a1 < 1)=true:=decide_eq_true c4
   clear c4
   (first|rw [c4b0]|(simp only [i64_w,i32_w];rw [c4b0])|skip)
   have H':=Aside0.mk H
   clear H
   go_wp2
   repeat (go_quiet (fail);try go_wp2)
   go_meet
   case rel => exact ⟨_,(true),(by first|rfl|(simp;done)|(simp [*];done)),H',⟨by first|omega|exact Nat.le_refl _⟩,⟨by repeat (first|(with_reducible first|exact HI0.out|apply IsS77.alloc|apply IsS77.drewN|apply IsS77.drew|apply IsS77.set_1)|exact HI0.out|apply IsS77.set_1)⟩,⟨by repeat (first|(with_reducible first|exact HK.out|apply KeepBut.set_|apply keep_drewN|apply keep_drew|apply keep_alloc)|exact HK.out)⟩,⟨by repeat (first|(with_reducible first|exact HB.out|apply below_alloc|apply pw_below_drewN|apply below_drew1|refine below_set ?_ (IsS77.ge HI0.out))|exact HB.out)⟩⟩
  ·rw [if_neg c4] at H
   have c4b0:decide (a1 < 1)=false:=decide_eq_false c4
   clear c4
   (first|rw [c4b0]|(simp only [i64_w,i32_w];rw [c4b0])|skip)
   have H':=Aside0.mk H
   clear H
   go_wp2
   repeat (go_quiet (fail);try go_wp2)
   go_meet
   case rel => exact ⟨_,(decide (a1 > 8)),(by first|rfl|(simp;done)|(simp [*];done)),H',⟨by first|omega|exact Nat.le_refl _⟩,⟨by repeat (first|(with_reducible first|exact HI0.out|apply IsS77.alloc|apply IsS77.drewN|apply IsS77.drew|apply IsS77.set_1)|exact HI0.out|apply IsS77.set_1)⟩,⟨by repeat (first|(with_reducible first|exact HK.out|apply KeepBut.set_|apply keep_drewN|apply keep_drew|apply keep_alloc)|exact HK.out)⟩,⟨by repeat (first|(with_reducible first|exact HB.out|apply below_alloc|apply pw_below_drewN|apply below_drew1|refine below_set ?_ (IsS77.ge HI0.out))|exact HB.out)⟩⟩
 case rest =>
  clear HC3
  try clear p2;try clear c3;try clear c4;try clear c4b0
  obtain ⟨kq,x13_2,rfl,HA,HJ2,HI0,HK,HB⟩:=hcut
  cases kq with
  | zero => exact absurd HA.out (by simp [understudyref01_Reader_Uint.j0])
  | succ kj2 =>
   have H:=HA.out
   clear HA
   simp only [understudyref01_Reader_Uint.j0] at H
   by_cases c5:x13_2=true
   ·subst c5
    have H1:(some (0,1,s0_1))=some (r1,r2,r3):=by rw [if_pos rfl] at H;exact H
    clear H
    have H:=H1
    clear H1
    simp only [Option.some.injEq,Prod.mk.injEq] at H
    obtain ⟨rfl,rfl,rfl⟩:=H
    go_wp2
    repeat (go_quiet (fail);try go_wp2)
    go_ret2
    exact ⟨by first|rfl|(simp [errW_none,errW_some] <;> rfl)|(simp [*,errW_none,errW_some] <;> rfl),by repeat (first|(with_reducible first|exact HI0.out|apply IsS77.alloc|apply IsS77.drewN|apply IsS77.drew|apply IsS77.set_1)|exact HI0.out|apply IsS77.set_1),by repeat (first|(with_reducible first|exact HB.out|apply below_alloc|apply pw_below_drewN|apply below_drew1|refine below_set ?_ (IsS77.ge HI0.out))|exact HB.out),by repeat (first|(with_reducible first|exact HK.out|apply KeepBut.set_|apply keep_drewN|apply keep_drew|apply keep_alloc)|exact HK.out)⟩
   ·replace c5:=Bool.eq_false_iff.mpr c5
    subst c5
    have H1:(if (wrap64 ((s0_0.length:Int) - s0_1)) < a1 then (some (0,3,s0_1)) else (understudyref01_Reader_Uint.l0 kj2 a1 0 0 s0_0 s0_1))=some (r1,r2,r3):=by rw [if_neg (show ¬ (false=true) by decide)] at H;exact H
    clear H
    have H:=H1
    clear H1
    by_cases c6:(wrap64 ((s0_0.length:Int) - s0_1)) < a1
    ·rw [if_pos c6] at H
     have c6b0:decide ((wrap64 ((s0_0.length:Int) - s0_1)) < a1)=true:=decide_eq_true c6
     clear c6
     simp only [Option.some.injEq,Prod.mk.injEq] at H
     obtain ⟨rfl,rfl,rfl⟩:=H
     obtain ⟨ASz7_0,cSz7_0,HGz7,hgz7,HSz7_0,HVz7_0⟩:=HI0.out
     have hcz7_0:=cellS77_0 HGz7
     have hcz7_1:=cellS77_1 HGz7
     have hfz7_1:=blk_frozen HGz7 1
     clear HGz7 hgz7 HVz7_0
     go_wp2
     repeat (go_quiet (fail);try go_wp2)
     go_ret2
     exact ⟨by first|rfl|(simp [errW_none,errW_some] <;> rfl)|(simp [*,errW_none,errW_some] <;> rfl),by repeat (first|(with_reducible first|exact HI0.out|apply IsS77.alloc|apply IsS77.drewN|apply IsS77.drew|apply IsS77.set_1)|exact HI0.out|apply IsS77.set_1),by repeat (first|(with_reducible first|exact HB.out|apply below_alloc|apply pw_below_drewN|apply below_drew1|refine below_set ?_ (IsS77.ge HI0.out))|exact HB.out),by repeat (first|(with_reducible first|exact HK.out|apply KeepBut.set_|apply keep_drewN|apply keep_drew|apply keep_alloc)|exact HK.out)⟩
    ·rw [if_neg c6] at H
     have c6b0:decide ((wrap64 ((s0_0.length:Int) - s0_1)) < a1)=false:=decide_eq_false c6
     clear c6
     have H':=Aside0.mk H
     clear H
     obtain ⟨ASz8_0,cSz8_0,HGz8,hgz8,HSz8_0,HVz8_0⟩:=HI0.out
     have hcz8_0:=cellS77_0 HGz8
     have hcz8_1:=cellS77_1 HGz8
     have hfz8_1:=blk_frozen HGz8 1
     clear HGz8 hgz8 HVz8_0
     go_wp2
     repeat (go_quiet (fail);try go_wp2)
     go_loopg [6,7] kj2 (fun kq v6 v7 w' => ∃ (x6_2:Int) (x7_2:Int),v6=.int .u64 x6_2∧v7=.int .i64 x7_2∧Aside0 (understudyref01_Reader_Uint.l0 kq a1 x6_2 x7_2 s0_0 s0_1=some (r1,r2,r3))∧Aside0 (kq≤kj2)∧Aside0 (IsS77 w0 w' g s0_0 s0_1)∧Aside0 (KeepBut w w' g none)∧Aside0 (Below w0.heap.size w0 w'))
     case atStart => exact ⟨(0),(0),(by first|rfl|(simp;done)|(simp [*];done)),(by first|rfl|(simp;done)|(simp [*];done)),H',⟨Nat.le_refl _⟩,⟨by repeat (first|(with_reducible first|exact HI0.out|apply IsS77.alloc|apply IsS77.drewN|apply IsS77.drew|apply IsS77.set_1)|exact HI0.out|apply IsS77.set_1)⟩,⟨by repeat (first|(with_reducible first|exact HK.out|apply KeepBut.set_|apply keep_drewN|apply keep_drew|apply keep_alloc)|exact HK.out)⟩,⟨by repeat (first|(with_reducible first|exact HB.out|apply below_alloc|apply pw_below_drewN|apply below_drew1|refine below_set ?_ (IsS77.ge HI0.out))|exact HB.out)⟩⟩
     case round =>
      clear H'
      try clear p2;try clear c3;try clear c4;try clear c4b0;try clear c5;try clear c6;try clear c6b0;try clear p6;try clear hcz7_0;try clear hcz7_1;try clear hcz8_0;try clear hcz8_1;try clear hfz7_1;try clear hfz8_1;try clear p2
      obtain ⟨x6_2,x7_2,rfl,rfl,HA,HK2,HI0,HK,HB⟩:=hrel
      cases gk with
      | zero => exact absurd HA.out (by simp [understudyref01_Reader_Uint.l0])
      | succ k2 =>
       have H:=HA.out
       clear HA
       simp only [understudyref01_Reader_Uint.l0] at H
       by_cases c9:x7_2 < a1
       ·rw [if_pos c9] at H
        have c9b0:decide (x7_2 < a1)=true:=decide_eq_true c9
        clear c9
        obtain ⟨ji10,hji10⟩:∃ j_:Int,(wrap64 (s0_1 + x7_2))=j_:=⟨_,rfl⟩
        replace H:(if 0≤(ji10) then (if (ji10) < (s0_0.length:Int) then (understudyref01_Reader_Uint.l0 k2 a1 (Go.bits .or .u64 (IntKind.u64.wrap (x6_2 * 256)) (IntKind.u64.wrap (rd s0_0 (ji10)))) (wrap64 (x7_2 + 1)) s0_0 s0_1) else (none)) else (none))=some (r1,r2,r3):=by first|(rw [hji10] at H;exact H)|(simp only [hji10] at H ⊢;exact H)
        have hji10w:(IntKind.i64.wrap (s0_1 + x7_2))=ji10:=(i64_w _).trans hji10
        by_cases c11:0≤(ji10)
        ·rw [if_pos c11] at H
         have c11b0:decide (0≤(ji10))=true:=decide_eq_true c11
         clear c11
         by_cases c12:(ji10) < (s0_0.length:Int)
         ·rw [if_pos c12] at H
          have c12b0:decide ((ji10) < (s0_0.length:Int))=true:=decide_eq_true c12
          clear c12
          have H':=Aside0.mk H
          clear H
          obtain ⟨ASz13_0,cSz13_0,HGz13,hgz13,HSz13_0,HVz13_0⟩:=HI0.out
          have hcz13_0:=cellS77_0 HGz13
          have hcz13_1:=cellS77_1 HGz13
          have hfz13_1:=blk_frozen HGz13 1
          clear HGz13 hgz13 HVz13_0
          have p216:0≤((ji10):Int):=of_decide_eq_true (by first|(with_reducible assumption)|assumption)
          have q216:(ji10) < (s0_0.length:Int):=of_decide_eq_true (by first|(with_reducible assumption)|assumption)
          obtain ⟨ad216,e216,hx216_0⟩:=Kd.at_int HSz13_0 (ji10) p216 q216
          cases e216
          replace hx216_0:=pw_cell_below HB.out hx216_0
          replace p216:=eq_true p216
          replace q216:=eq_true q216
          go_wp2
          repeat (go_quiet (fail);try go_wp2)
          go_roundg k2
          case measure => have:=HJ2.out;have:=HK2.out;omega
          case rel => exact ⟨(Go.bits .or .u64 (IntKind.u64.wrap (x6_2 * 256)) (IntKind.u64.wrap (rd s0_0 (ji10)))),(wrap64 (x7_2 + 1)),(by first|rfl|(simp;done)|(simp only [← hji10] <;> (first|rfl|simp))|(simp [*];done)),(by first|rfl|(simp;done)|(simp [*];done)),H',⟨by have:=HJ2.out;have:=HK2.out;omega⟩,⟨by repeat (first|(with_reducible first|exact HI0.out|apply IsS77.alloc|apply IsS77.drewN|apply IsS77.drew|apply IsS77.set_1)|exact HI0.out|apply IsS77.set_1)⟩,⟨by repeat (first|(with_reducible first|exact HK.out|apply KeepBut.set_|apply keep_drewN|apply keep_drew|apply keep_alloc)|exact HK.out)⟩,⟨by repeat (first|(with_reducible first|exact HB.out|apply below_alloc|apply pw_below_drewN|apply below_drew1|refine below_set ?_ (IsS77.ge HI0.out))|exact HB.out)⟩⟩
         ·rw [if_neg c12] at H
          exact absurd H (by simp)
        ·rw [if_neg c11] at H
         exact absurd H (by simp)
       ·rw [if_neg c9] at H
        have c9b0:decide (x7_2 < a1)=false:=decide_eq_false c9
        clear c9
        simp only [Option.some.injEq,Prod.mk.injEq] at H
        obtain ⟨rfl,rfl,rfl⟩:=H
        obtain ⟨ASz14_0,cSz14_0,HGz14,hgz14,HSz14_0,HVz14_0⟩:=HI0.out
        have hcz14_0:=cellS77_0 HGz14
        have hcz14_1:=cellS77_1 HGz14
        have hfz14_1:=blk_frozen HGz14 1
        clear HGz14 hgz14 HVz14_0
        go_wp2
        repeat (go_quiet (fail);try go_wp2)
        go_ret2
        exact ⟨by first|rfl|(simp [errW_none,errW_some] <;> rfl)|(simp [*,errW_none,errW_some] <;> rfl),by repeat (first|(with_reducible first|exact HI0.out|apply IsS77.alloc|apply IsS77.drewN|apply IsS77.drew|apply IsS77.set_1)|exact HI0.out|apply IsS77.set_1),by repeat (first|(with_reducible first|exact HB.out|apply below_alloc|apply pw_below_drewN|apply below_drew1|refine below_set ?_ (IsS77.ge HI0.out))|exact HB.out),by repeat (first|(with_reducible first|exact HK.out|apply KeepBut.set_|apply keep_drewN|apply keep_drew|apply keep_alloc)|exact HK.out)⟩
end Go.Proofs.YtglnhkgodgjepaaDoor.Px
namespace Go.Proofs.YtglnhkgodgjepaaDoor.Px
open Go.RowKit Go.Proofs.YtglnhkgodgjepaaDoorW.PrintWords Go.Proofs.YtglnhkgodgjepaaDoorW.PrintLast Go.Proofs.YtglnhkgodgjepaaDoorW.PrintMore
attribute [local go_sem] max2_int min2_int max_two min_two max_three min_three max_four min_four
set_option linter.unusedVariables false
set_option linter.unusedSimpArgs false
mutual
def understudyref02_take.j0:Nat→List Int→Int→Bool→Option (Int × Int)
 | 0,_,_,_ => none
 | k + 1,x0,x4,x11 => if x11=true then (some (x4,1)) else (if x4 ≥ 192 then (if x4≤223 then (if (x0.length:Int) ≥ 2 then (if 1 < (x0.length:Int) then (if (rd x0 1) ≥ 128 then (understudyref02_take.j1 k x0 x4 (decide ((rd x0 1)≤191))) else (understudyref02_take.j1 k x0 x4 false)) else (none)) else (understudyref02_take.j1 k x0 x4 false)) else (understudyref02_take.j1 k x0 x4 false)) else (understudyref02_take.j1 k x0 x4 false))
def understudyref02_take.j1:Nat→List Int→Int→Bool→Option (Int × Int)
 | 0,_,_,_ => none
 | k + 1,x0,x4,x19 => if x19=true then (if 1 < (x0.length:Int) then (if (wrap64 ((wrap64 ((wrap64 ((wrap64 (x4 - 192)) * 64)) + (wrap64 (rd x0 1)))) - 128))=0 then (some (wrap64 ((wrap64 ((wrap64 ((wrap64 (x4 - 192)) * 64)) + (wrap64 (rd x0 1)))) - 128),2)) else (if (wrap64 ((wrap64 ((wrap64 ((wrap64 (x4 - 192)) * 64)) + (wrap64 (rd x0 1)))) - 128)) ≥ 128 then (some (wrap64 ((wrap64 ((wrap64 ((wrap64 (x4 - 192)) * 64)) + (wrap64 (rd x0 1)))) - 128),2)) else (some (0,0)))) else (none)) else (if x4 ≥ 224 then (if x4≤239 then (if (x0.length:Int) ≥ 3 then (if 1 < (x0.length:Int) then (if (rd x0 1) ≥ 128 then (if (rd x0 1)≤191 then (if 2 < (x0.length:Int) then (if (rd x0 2) ≥ 128 then (understudyref02_take.j2 k x0 x4 (decide ((rd x0 2)≤191))) else (understudyref02_take.j2 k x0 x4 false)) else (none)) else (understudyref02_take.j2 k x0 x4 false)) else (understudyref02_take.j2 k x0 x4 false)) else (none)) else (understudyref02_take.j2 k x0 x4 false)) else (understudyref02_take.j2 k x0 x4 false)) else (understudyref02_take.j2 k x0 x4 false))
def understudyref02_take.j2:Nat→List Int→Int→Bool→Option (Int × Int)
 | 0,_,_,_ => none
 | k + 1,x0,x4,x59 => if x59=true then (if 1 < (x0.length:Int) then (if 2 < (x0.length:Int) then (if (wrap64 ((wrap64 ((wrap64 ((wrap64 ((wrap64 (x4 - 224)) * 4096)) + (wrap64 ((wrap64 ((wrap64 (rd x0 1)) - 128)) * 64)))) + (wrap64 (rd x0 2)))) - 128)) ≥ 2048 then (some (wrap64 ((wrap64 ((wrap64 ((wrap64 ((wrap64 (x4 - 224)) * 4096)) + (wrap64 ((wrap64 ((wrap64 (rd x0 1)) - 128)) * 64)))) + (wrap64 (rd x0 2)))) - 128),3)) else (some (0,0))) else (none)) else (none)) else (some (0,0))
end
def understudyref02_take.f (k:Nat) (l0:List Int):Option (Int × Int):=if 0 < (l0.length:Int) then (if (wrap64 (rd l0 0)) ≥ 1 then (understudyref02_take.j0 k l0 (wrap64 (rd l0 0)) (decide ((wrap64 (rd l0 0))≤127))) else (understudyref02_take.j0 k l0 (wrap64 (rd l0 0)) false)) else (none)
theorem understudyref02_take.mono_l:∀ k,(∀ y0 y1 y2,LeO (understudyref02_take.j0 k y0 y1 y2) (understudyref02_take.j0 (k + 1) y0 y1 y2))∧(∀ y0 y1 y2,LeO (understudyref02_take.j1 k y0 y1 y2) (understudyref02_take.j1 (k + 1) y0 y1 y2))∧(∀ y0 y1 y2,LeO (understudyref02_take.j2 k y0 y1 y2) (understudyref02_take.j2 (k + 1) y0 y1 y2))
 | 0 => ⟨fun _ _ _ r h => by simp [understudyref02_take.j0] at h,fun _ _ _ r h => by simp [understudyref02_take.j1] at h,fun _ _ _ r h => by simp [understudyref02_take.j2] at h⟩
 | k + 1 => by
  obtain ⟨ih0,ih1,ih2⟩:=understudyref02_take.mono_l k
  refine ⟨?_,?_,?_⟩
  ·intro y0 y1 y2
   unfold understudyref02_take.j0
   repeat' first
   | (with_reducible exact ih0 _ _ _)
   | (with_reducible exact ih1 _ _ _)
   | (with_reducible exact ih2 _ _ _)
   | (with_reducible exact LeO.refl _)
   | (with_reducible exact LeO.none _)
   | (with_reducible refine LeO.ite ?_ ?_)
   | (with_reducible refine LeO.bind ?_ (fun _ => ?_))
   | exact ih0 _ _ _
   | exact ih1 _ _ _
   | exact ih2 _ _ _
   | exact LeO.none _
   | refine LeO.ite ?_ ?_
   | refine LeO.bind ?_ (fun _ => ?_)
  ·intro y0 y1 y2
   unfold understudyref02_take.j1
   repeat' first
   | (with_reducible exact ih0 _ _ _)
   | (with_reducible exact ih1 _ _ _)
   | (with_reducible exact ih2 _ _ _)
   | (with_reducible exact LeO.refl _)
   | (with_reducible exact LeO.none _)
   | (with_reducible refine LeO.ite ?_ ?_)
   | (with_reducible refine LeO.bind ?_ (fun _ => ?_))
   | exact ih0 _ _ _
   | exact ih1 _ _ _
   | exact ih2 _ _ _
   | exact LeO.none _
   | refine LeO.ite ?_ ?_
   | refine LeO.bind ?_ (fun _ => ?_)
  ·intro y0 y1 y2
   unfold understudyref02_take.j2
   repeat' first
   | (with_reducible exact ih0 _ _ _)
   | (with_reducible exact ih1 _ _ _)
   | (with_reducible exact ih2 _ _ _)
   | (with_reducible exact LeO.refl _)
   | (with_reducible exact LeO.none _)
   | (with_reducible refine LeO.ite ?_ ?_)
   | (with_reducible refine LeO.bind ?_ (fun _ => ?_))
   | exact ih0 _ _ _
   | exact ih1 _ _ _
   | exact ih2 _ _ _
   | exact LeO.none _
   | refine LeO.ite ?_ ?_
   | refine LeO.bind ?_ (fun _ => ?_)
theorem understudyref02_take.mono:∀ a0 k,LeO (understudyref02_take.f k a0) (understudyref02_take.f (k + 1) a0):=by
 intro a0 k
 obtain ⟨ih0,ih1,ih2⟩:=understudyref02_take.mono_l k
 unfold understudyref02_take.f
 repeat' first
   | (with_reducible exact ih0 _ _ _)
   | (with_reducible exact ih1 _ _ _)
   | (with_reducible exact ih2 _ _ _)
   | (with_reducible exact LeO.refl _)
   | (with_reducible exact LeO.none _)
   | (with_reducible refine LeO.ite ?_ ?_)
   | (with_reducible refine LeO.bind ?_ (fun _ => ?_))
   | exact ih0 _ _ _
   | exact ih1 _ _ _
   | exact ih2 _ _ _
   | exact LeO.none _
   | refine LeO.ite ?_ ?_
   | refine LeO.bind ?_ (fun _ => ?_)
set_option maxHeartbeats 80000000 in
set_option maxRecDepth 100000 in
theorem understudyref02_take.calls (k:Nat) (A0:Option Addr) (c0:Nat) (l0:List Int) (r1:Int) (r2:Int) (w:World) (hr0:Kd.C (Kd.int .u8) w A0 l0.length l0) (hc0:l0.length≤c0) (h:understudyref02_take.f k l0=some (r1,r2)) :
  Calls Tryd.prog 71 #[.slice A0 l0.length c0] w fun e w' => e=.returned (.tuple #[.int .i64 r1,.int .i64 r2])∧Drawn0 w w':=by
 have HR0:=Aside0.mk hr0
 have HC0:=Aside0.mk hc0
 clear hr0 hc0
 have H:(if 0 < (l0.length:Int) then (if (wrap64 (rd l0 0)) ≥ 1 then (understudyref02_take.j0 k l0 (wrap64 (rd l0 0)) (decide ((wrap64 (rd l0 0))≤127))) else (understudyref02_take.j0 k l0 (wrap64 (rd l0 0)) false)) else (none))=some (r1,r2):=h
 clear h
 by_cases c2:0 < (l0.length:Int)
 ·rw [if_pos c2] at H
  have c2b0:decide (0 < (l0.length:Int))=true:=decide_eq_true c2
  have c2b1:decide (0 < l0.length)=true:=decide_eq_true (by omega)
  clear c2
  have HC3:=Aside0.mk H
  clear H
  have p217:0≤(0:Int):=(by omega)
  have q217:0 < (l0.length:Int):=of_decide_eq_true (by first|(with_reducible assumption)|assumption)
  obtain ⟨ad217,e217,hx217_0⟩:=Kd.at_int HR0.out 0 p217 q217
  cases e217
  have qi217:(0 < l0.length)=True:=eq_true (by omega)
  (try rw [show ((0:Int)).toNat=0 from rfl] at hx217_0)
  (try rw [Addr.add_zero'] at hx217_0)
  replace p217:=eq_true p217
  replace q217:=eq_true q217
  go_enter Tryd.func71,Tryd.ntmps71
  go_upto_region 2 with (fail)
  repeat (go_quiet (fail);go_upto_region 2 with (fail))
  go_cut [11] (fun v11 wc => ∃ (kq:Nat) (x11_2:Bool),v11=.bool x11_2∧Aside0 (understudyref02_take.j0 kq l0 (wrap64 (rd l0 0)) x11_2=some (r1,r2))∧Aside0 (kq≤k)∧Drawn0 w wc)
  case first =>
   have H:=HC3.out
   clear HC3
   by_cases c4:(wrap64 (rd l0 0)) ≥ 1
   ·rw [if_pos c4] at H
    have c4b0:decide (1≤(wrap64 (rd l0 0)))=true:=decide_eq_true c4
    clear c4
    (first|rw [c4b0]|(simp only [i64_w,i32_w];rw [c4b0])|skip)
    have H':=Aside0.mk H
    clear H
    go_wp2
    repeat (go_quiet (fail);try go_wp2)
    go_meet
    case rel => exact ⟨_,(decide ((wrap64 (rd l0 0))≤127)),(by first|rfl|(simp;done)|(simp [*];done)),H',⟨by first|omega|exact Nat.le_refl _⟩,by repeat (first|exact Drawn0.refl _|apply Drawn0.step)⟩
   ·rw [if_neg c4] at H
    have c4b0:decide (1≤(wrap64 (rd l0 0)))=false:=decide_eq_false c4
    clear c4
    (first|rw [c4b0]|(simp only [i64_w,i32_w];rw [c4b0])|skip)
    have H':=Aside0.mk H
    clear H
    go_wp2
    repeat (go_quiet (fail);try go_wp2)
    go_meet
    case rel => exact ⟨_,(false),(by first|rfl|(simp;done)|(simp [*];done)),H',⟨by first|omega|exact Nat.le_refl _⟩,by repeat (first|exact Drawn0.refl _|apply Drawn0.step)⟩
  case rest =>
   clear HC3
   try clear c2;try clear c2b0;try clear c2b1;try clear p2;try clear q2;try clear hx2;try clear qi2;try clear c4;try clear c4b0;try clear hx217_0;try clear p217;try clear q217
   obtain ⟨kq,x11_2,rfl,HA,HJ2,⟨mc2,rfl⟩⟩:=hcut
   cases kq with
   | zero => exact absurd HA.out (by simp [understudyref02_take.j0])
   | succ kj2 =>
    have H:=HA.out
    clear HA
    simp only [understudyref02_take.j0] at H
    by_cases c5:x11_2=true
    ·subst c5
     have H1:(some ((wrap64 (rd l0 0)),1))=some (r1,r2):=by rw [if_pos rfl] at H;exact H
     clear H
     have H:=H1
     clear H1
     simp only [Option.some.injEq,Prod.mk.injEq] at H
     obtain ⟨rfl,rfl⟩:=H
     go_wp2
     repeat (go_quiet (fail);try go_wp2)
     go_ret2
     exact ⟨by first|rfl|(simp;done)|(simp [*];done),by repeat (first|exact Drawn0.refl _|apply Drawn0.step)⟩
    ·replace c5:=Bool.eq_false_iff.mpr c5
     subst c5
     have H1:(if (wrap64 (rd l0 0)) ≥ 192 then (if (wrap64 (rd l0 0))≤223 then (if (l0.length:Int) ≥ 2 then (if 1 < (l0.length:Int) then (if (rd l0 1) ≥ 128 then (understudyref02_take.j1 kj2 l0 (wrap64 (rd l0 0)) (decide ((rd l0 1)≤191))) else (understudyref02_take.j1 kj2 l0 (wrap64 (rd l0 0)) false)) else (none)) else (understudyref02_take.j1 kj2 l0 (wrap64 (rd l0 0)) false)) else (understudyref02_take.j1 kj2 l0 (wrap64 (rd l0 0)) false)) else (understudyref02_take.j1 kj2 l0 (wrap64 (rd l0 0)) false))=some (r1,r2):=by rw [if_neg (show ¬ (false=true) by decide)] at H;exact H
     clear H
     have H:=H1
     clear H1
     have HC6:=Aside0.mk H
     clear H
     go_upto_region 4 with (fail)
     repeat (go_quiet (fail);go_upto_region 4 with (fail))
     go_cut [19] (fun v19 wc => ∃ (kq:Nat) (x19_5:Bool),v19=.bool x19_5∧Aside0 (understudyref02_take.j1 kq l0 (wrap64 (rd l0 0)) x19_5=some (r1,r2))∧Aside0 (kq≤kj2)∧Drawn0 w wc)
     case first =>
      have H:=HC6.out
      clear HC6
      by_cases c7:(wrap64 (rd l0 0)) ≥ 192
      ·rw [if_pos c7] at H
       have c7b0:decide (192≤(wrap64 (rd l0 0)))=true:=decide_eq_true c7
       clear c7
       (first|rw [c7b0]|(simp only [i64_w,i32_w];rw [c7b0])|skip)
       by_cases c8:(wrap64 (rd l0 0))≤223
       ·rw [if_pos c8] at H
        have c8b0:decide ((wrap64 (rd l0 0))≤223)=true:=decide_eq_true c8
        clear c8
        by_cases c9:(l0.length:Int) ≥ 2
        ·rw [if_pos c9] at H
         have c9b0:decide (2≤(l0.length:Int))=true:=decide_eq_true c9
         have c9b1:decide (2≤l0.length)=true:=decide_eq_true (by omega)
         clear c9
         by_cases c10:1 < (l0.length:Int)
         ·rw [if_pos c10] at H
          have c10b0:decide (1 < (l0.length:Int))=true:=decide_eq_true c10
          have c10b1:decide (1 < l0.length)=true:=decide_eq_true (by omega)
          clear c10
          by_cases c11:(rd l0 1) ≥ 128
          ·rw [if_pos c11] at H
           have c11b0:decide (128≤(rd l0 1))=true:=decide_eq_true c11
           clear c11
           have H':=Aside0.mk H
           clear H
           have p218:0≤(1:Int):=(by omega)
           have q218:1 < (l0.length:Int):=of_decide_eq_true (by first|(with_reducible assumption)|assumption)
           obtain ⟨ad218,e218,hx218_0⟩:=Kd.at_int HR0.out 1 p218 q218
           obtain rfl:ad217=ad218:=(by injection e218)
           (try simp only [show (1:Int).toNat=1 from rfl,Nat.reduceMul,Nat.reduceEqDiff,Go.Addr.add,↓reduceIte] at hx218_0)
           have qi218:(1 < l0.length)=True:=eq_true (by omega)
           (try rw [show ((1:Int)).toNat=1 from rfl] at hx218_0)
           replace p218:=eq_true p218
           replace q218:=eq_true q218
           have p219:0≤(1:Int):=(by omega)
           have q219:1 < (l0.length:Int):=of_decide_eq_true (by first|(with_reducible assumption)|assumption)
           obtain ⟨ad219,e219,hx219_0⟩:=Kd.at_int HR0.out 1 p219 q219
           obtain rfl:ad217=ad219:=(by injection e219)
           (try simp only [show (1:Int).toNat=1 from rfl,Nat.reduceMul,Nat.reduceEqDiff,Go.Addr.add,↓reduceIte] at hx219_0)
           have qi219:(1 < l0.length)=True:=eq_true (by omega)
           (try rw [show ((1:Int)).toNat=1 from rfl] at hx219_0)
           replace p219:=eq_true p219
           replace q219:=eq_true q219
           go_wp2
           repeat (go_quiet (fail);try go_wp2)
           go_meet
           case rel => exact ⟨_,(decide ((rd l0 1)≤191)),(by first|rfl|(simp;done)|(simp [*];done)),H',⟨by have:=HJ2.out;first|omega|exact Nat.le_refl _⟩,by repeat (first|exact Drawn0.refl _|apply Drawn0.step)⟩
          ·rw [if_neg c11] at H
           have c11b0:decide (128≤(rd l0 1))=false:=decide_eq_false c11
           clear c11
           have H':=Aside0.mk H
           clear H
           have p218:0≤(1:Int):=(by omega)
           have q218:1 < (l0.length:Int):=of_decide_eq_true (by first|(with_reducible assumption)|assumption)
           obtain ⟨ad218,e218,hx218_0⟩:=Kd.at_int HR0.out 1 p218 q218
           obtain rfl:ad217=ad218:=(by injection e218)
           (try simp only [show (1:Int).toNat=1 from rfl,Nat.reduceMul,Nat.reduceEqDiff,Go.Addr.add,↓reduceIte] at hx218_0)
           have qi218:(1 < l0.length)=True:=eq_true (by omega)
           (try rw [show ((1:Int)).toNat=1 from rfl] at hx218_0)
           replace p218:=eq_true p218
           replace q218:=eq_true q218
           go_wp2
           repeat (go_quiet (fail);try go_wp2)
           go_meet
           case rel => exact ⟨_,(false),(by first|rfl|(simp;done)|(simp [*];done)),H',⟨by have:=HJ2.out;first|omega|exact Nat.le_refl _⟩,by repeat (first|exact Drawn0.refl _|apply Drawn0.step)⟩
         ·rw [if_neg c10] at H
          exact absurd H (by simp)
        ·rw [if_neg c9] at H
         have c9b0:decide (2≤(l0.length:Int))=false:=decide_eq_false c9
         have c9b1:decide (2≤l0.length)=false:=decide_eq_false (by omega)
         clear c9
         have H':=Aside0.mk H
         clear H
         go_wp2
         repeat (go_quiet (fail);try go_wp2)
         go_meet
         case rel => exact ⟨_,(false),(by first|rfl|(simp;done)|(simp [*];done)),H',⟨by have:=HJ2.out;first|omega|exact Nat.le_refl _⟩,by repeat (first|exact Drawn0.refl _|apply Drawn0.step)⟩
       ·rw [if_neg c8] at H
        have c8b0:decide ((wrap64 (rd l0 0))≤223)=false:=decide_eq_false c8
        clear c8
        have H':=Aside0.mk H
        clear H
        go_wp2
        repeat (go_quiet (fail);try go_wp2)
        go_meet
        case rel => exact ⟨_,(false),(by first|rfl|(simp;done)|(simp [*];done)),H',⟨by have:=HJ2.out;first|omega|exact Nat.le_refl _⟩,by repeat (first|exact Drawn0.refl _|apply Drawn0.step)⟩
      ·rw [if_neg c7] at H
       have c7b0:decide (192≤(wrap64 (rd l0 0)))=false:=decide_eq_false c7
       clear c7
       (first|rw [c7b0]|(simp only [i64_w,i32_w];rw [c7b0])|skip)
       have H':=Aside0.mk H
       clear H
       go_wp2
       repeat (go_quiet (fail);try go_wp2)
       go_meet
       case rel => exact ⟨_,(false),(by first|rfl|(simp;done)|(simp [*];done)),H',⟨by have:=HJ2.out;first|omega|exact Nat.le_refl _⟩,by repeat (first|exact Drawn0.refl _|apply Drawn0.step)⟩
     case rest =>
      clear HC6
      try clear c1;try clear c2;try clear c2b0;try clear c2b1;try clear p2;try clear q2;try clear hx2;try clear qi2;try clear c4;try clear c4b0;try clear c5;try clear p6;try clear c7;try clear c7b0;try clear c8;try clear c8b0;try clear c9;try clear c9b0;try clear c9b1;try clear c10;try clear c10b0;try clear c10b1;try clear c11;try clear c11b0;try clear hx217_0;try clear hx218_0;try clear hx219_0;try clear p2;try clear p217;try clear p218;try clear p219;try clear q2;try clear q217;try clear q218;try clear q219
      obtain ⟨kq,x19_5,rfl,HA,HJ5,⟨mc5,rfl⟩⟩:=hcut
      cases kq with
      | zero => exact absurd HA.out (by simp [understudyref02_take.j1])
      | succ kj5 =>
       have H:=HA.out
       clear HA
       simp only [understudyref02_take.j1] at H
       by_cases c12:x19_5=true
       ·subst c12
        have H1:(if 1 < (l0.length:Int) then (if (wrap64 ((wrap64 ((wrap64 ((wrap64 ((wrap64 (rd l0 0)) - 192)) * 64)) + (wrap64 (rd l0 1)))) - 128))=0 then (some (wrap64 ((wrap64 ((wrap64 ((wrap64 ((wrap64 (rd l0 0)) - 192)) * 64)) + (wrap64 (rd l0 1)))) - 128),2)) else (if (wrap64 ((wrap64 ((wrap64 ((wrap64 ((wrap64 (rd l0 0)) - 192)) * 64)) + (wrap64 (rd l0 1)))) - 128)) ≥ 128 then (some (wrap64 ((wrap64 ((wrap64 ((wrap64 ((wrap64 (rd l0 0)) - 192)) * 64)) + (wrap64 (rd l0 1)))) - 128),2)) else (some (0,0)))) else (none))=some (r1,r2):=by rw [if_pos rfl] at H;exact H
        clear H
        have H:=H1
        clear H1
        by_cases c13:1 < (l0.length:Int)
        ·rw [if_pos c13] at H
         have c13b0:decide (1 < (l0.length:Int))=true:=decide_eq_true c13
         have c13b1:decide (1 < l0.length)=true:=decide_eq_true (by omega)
         clear c13
         by_cases c14:(wrap64 ((wrap64 ((wrap64 ((wrap64 ((wrap64 (rd l0 0)) - 192)) * 64)) + (wrap64 (rd l0 1)))) - 128))=0
         ·rw [if_pos c14] at H
          have c14b0:((wrap64 ((wrap64 ((wrap64 ((wrap64 ((wrap64 (rd l0 0)) - 192)) * 64)) + (wrap64 (rd l0 1)))) - 128))==0)=true:=beq_iff_eq.mpr c14
          have c14b1:((wrap64 ((wrap64 ((wrap64 ((wrap64 ((wrap64 (rd l0 0)) - 192)) * 64)) + (wrap64 (rd l0 1)))) - 128)) != 0)=false:=bne_eq_false_iff_eq.mpr c14
          clear c14
          simp only [Option.some.injEq,Prod.mk.injEq] at H
          obtain ⟨rfl,rfl⟩:=H
          have p220:0≤(1:Int):=(by omega)
          have q220:1 < (l0.length:Int):=of_decide_eq_true (by first|(with_reducible assumption)|assumption)
          obtain ⟨ad220,e220,hx220_0⟩:=Kd.at_int HR0.out 1 p220 q220
          obtain rfl:ad217=ad220:=(by injection e220)
          (try simp only [show (1:Int).toNat=1 from rfl,Nat.reduceMul,Nat.reduceEqDiff,Go.Addr.add,↓reduceIte] at hx220_0)
          have qi220:(1 < l0.length)=True:=eq_true (by omega)
          (try rw [show ((1:Int)).toNat=1 from rfl] at hx220_0)
          replace p220:=eq_true p220
          replace q220:=eq_true q220
          go_wp2
          repeat (go_quiet (fail);try go_wp2)
          go_ret2
          exact ⟨by first|rfl|(simp;done)|(simp [*];done),by repeat (first|exact Drawn0.refl _|apply Drawn0.step)⟩
         ·rw [if_neg c14] at H
          have c14b0:((wrap64 ((wrap64 ((wrap64 ((wrap64 ((wrap64 (rd l0 0)) - 192)) * 64)) + (wrap64 (rd l0 1)))) - 128))==0)=false:=beq_eq_false_iff_ne.mpr c14
          have c14b1:((wrap64 ((wrap64 ((wrap64 ((wrap64 ((wrap64 (rd l0 0)) - 192)) * 64)) + (wrap64 (rd l0 1)))) - 128)) != 0)=true:=bne_iff_ne.mpr c14
          by_cases c15:(wrap64 ((wrap64 ((wrap64 ((wrap64 ((wrap64 (rd l0 0)) - 192)) * 64)) + (wrap64 (rd l0 1)))) - 128)) ≥ 128
          ·rw [if_pos c15] at H
           have c15b0:decide (128≤(wrap64 ((wrap64 ((wrap64 ((wrap64 ((wrap64 (rd l0 0)) - 192)) * 64)) + (wrap64 (rd l0 1)))) - 128)))=true:=decide_eq_true c15
           clear c15
           simp only [Option.some.injEq,Prod.mk.injEq] at H
           obtain ⟨rfl,rfl⟩:=H
           have p220:0≤(1:Int):=(by omega)
           have q220:1 < (l0.length:Int):=of_decide_eq_true (by first|(with_reducible assumption)|assumption)
           obtain ⟨ad220,e220,hx220_0⟩:=Kd.at_int HR0.out 1 p220 q220
           obtain rfl:ad217=ad220:=(by injection e220)
           (try simp only [show (1:Int).toNat=1 from rfl,Nat.reduceMul,Nat.reduceEqDiff,Go.Addr.add,↓reduceIte] at hx220_0)
           have qi220:(1 < l0.length)=True:=eq_true (by omega)
           (try rw [show ((1:Int)).toNat=1 from rfl] at hx220_0)
           replace p220:=eq_true p220
           replace q220:=eq_true q220
           go_wp2
           repeat (go_quiet (fail);try go_wp2)
           go_ret2
           exact ⟨by first|rfl|(simp;done)|(simp [*];done),by repeat (first|exact Drawn0.refl _|apply Drawn0.step)⟩
          ·rw [if_neg c15] at H
           have c15b0:decide (128≤(wrap64 ((wrap64 ((wrap64 ((wrap64 ((wrap64 (rd l0 0)) - 192)) * 64)) + (wrap64 (rd l0 1)))) - 128)))=false:=decide_eq_false c15
           clear c15
           simp only [Option.some.injEq,Prod.mk.injEq] at H
           obtain ⟨rfl,rfl⟩:=H
           have p220:0≤(1:Int):=(by omega)
           have q220:1 < (l0.length:Int):=of_decide_eq_true (by first|(with_reducible assumption)|assumption)
           obtain ⟨ad220,e220,hx220_0⟩:=Kd.at_int HR0.out 1 p220 q220
           obtain rfl:ad217=ad220:=(by injection e220)
           (try simp only [show (1:Int).toNat=1 from rfl,Nat.reduceMul,Nat.reduceEqDiff,Go.Addr.add,↓reduceIte] at hx220_0)
           have qi220:(1 < l0.length)=True:=eq_true (by omega)
           (try rw [show ((1:Int)).toNat=1 from rfl] at hx220_0)
           replace p220:=eq_true p220
           replace q220:=eq_true q220
           go_wp2
           repeat (go_quiet (fail);try go_wp2)
           go_ret2
           exact ⟨by first|rfl|(simp;done)|(simp [*];done),by repeat (first|exact Drawn0.refl _|apply Drawn0.step)⟩
        ·rw [if_neg c13] at H
         exact absurd H (by simp)
       ·replace c12:=Bool.eq_false_iff.mpr c12
        subst c12
        have H1:(if (wrap64 (rd l0 0)) ≥ 224 then (if (wrap64 (rd l0 0))≤239 then (if (l0.length:Int) ≥ 3 then (if 1 < (l0.length:Int) then (if (rd l0 1) ≥ 128 then (if (rd l0 1)≤191 then (if 2 < (l0.length:Int) then (if (rd l0 2) ≥ 128 then (understudyref02_take.j2 kj5 l0 (wrap64 (rd l0 0)) (decide ((rd l0 2)≤191))) else (understudyref02_take.j2 kj5 l0 (wrap64 (rd l0 0)) false)) else (none)) else (understudyref02_take.j2 kj5 l0 (wrap64 (rd l0 0)) false)) else (understudyref02_take.j2 kj5 l0 (wrap64 (rd l0 0)) false)) else (none)) else (understudyref02_take.j2 kj5 l0 (wrap64 (rd l0 0)) false)) else (understudyref02_take.j2 kj5 l0 (wrap64 (rd l0 0)) false)) else (understudyref02_take.j2 kj5 l0 (wrap64 (rd l0 0)) false))=some (r1,r2):=by rw [if_neg (show ¬ (false=true) by decide)] at H;exact H
        clear H
        have H:=H1
        clear H1
        have HC16:=Aside0.mk H
        clear H
        go_upto_region 8 with (fail)
        repeat (go_quiet (fail);go_upto_region 8 with (fail))
        go_cut [59] (fun v59 wc => ∃ (kq:Nat) (x59_15:Bool),v59=.bool x59_15∧Aside0 (understudyref02_take.j2 kq l0 (wrap64 (rd l0 0)) x59_15=some (r1,r2))∧Aside0 (kq≤kj5)∧Drawn0 w wc)
        case first =>
         have H:=HC16.out
         clear HC16
         by_cases c17:(wrap64 (rd l0 0)) ≥ 224
         ·rw [if_pos c17] at H
          have c17b0:decide (224≤(wrap64 (rd l0 0)))=true:=decide_eq_true c17
          clear c17
          (first|rw [c17b0]|(simp only [i64_w,i32_w];rw [c17b0])|skip)
          by_cases c18:(wrap64 (rd l0 0))≤239
          ·rw [if_pos c18] at H
           have c18b0:decide ((wrap64 (rd l0 0))≤239)=true:=decide_eq_true c18
           clear c18
           by_cases c19:(l0.length:Int) ≥ 3
           ·rw [if_pos c19] at H
            have c19b0:decide (3≤(l0.length:Int))=true:=decide_eq_true c19
            have c19b1:decide (3≤l0.length)=true:=decide_eq_true (by omega)
            clear c19
            by_cases c20:1 < (l0.length:Int)
            ·rw [if_pos c20] at H
             have c20b0:decide (1 < (l0.length:Int))=true:=decide_eq_true c20
             have c20b1:decide (1 < l0.length)=true:=decide_eq_true (by omega)
             clear c20
             by_cases c21:(rd l0 1) ≥ 128
             ·rw [if_pos c21] at H
              have c21b0:decide (128≤(rd l0 1))=true:=decide_eq_true c21
              clear c21
              by_cases c22:(rd l0 1)≤191
              ·rw [if_pos c22] at H
               have c22b0:decide ((rd l0 1)≤191)=true:=decide_eq_true c22
               clear c22
               by_cases c23:2 < (l0.length:Int)
               ·rw [if_pos c23] at H
                have c23b0:decide (2 < (l0.length:Int))=true:=decide_eq_true c23
                have c23b1:decide (2 < l0.length)=true:=decide_eq_true (by omega)
                clear c23
                by_cases c24:(rd l0 2) ≥ 128
                ·rw [if_pos c24] at H
                 have c24b0:decide (128≤(rd l0 2))=true:=decide_eq_true c24
                 clear c24
                 have H':=Aside0.mk H
                 clear H
                 have p221:0≤(1:Int):=(by omega)
                 have q221:1 < (l0.length:Int):=of_decide_eq_true (by first|(with_reducible assumption)|assumption)
                 obtain ⟨ad221,e221,hx221_0⟩:=Kd.at_int HR0.out 1 p221 q221
                 obtain rfl:ad217=ad221:=(by injection e221)
                 (try simp only [show (1:Int).toNat=1 from rfl,Nat.reduceMul,Nat.reduceEqDiff,Go.Addr.add,↓reduceIte] at hx221_0)
                 have qi221:(1 < l0.length)=True:=eq_true (by omega)
                 (try rw [show ((1:Int)).toNat=1 from rfl] at hx221_0)
                 replace p221:=eq_true p221
                 replace q221:=eq_true q221
                 have p222:0≤(1:Int):=(by omega)
                 have q222:1 < (l0.length:Int):=of_decide_eq_true (by first|(with_reducible assumption)|assumption)
                 obtain ⟨ad222,e222,hx222_0⟩:=Kd.at_int HR0.out 1 p222 q222
                 obtain rfl:ad217=ad222:=(by injection e222)
                 (try simp only [show (1:Int).toNat=1 from rfl,Nat.reduceMul,Nat.reduceEqDiff,Go.Addr.add,↓reduceIte] at hx222_0)
                 have qi222:(1 < l0.length)=True:=eq_true (by omega)
                 (try rw [show ((1:Int)).toNat=1 from rfl] at hx222_0)
                 replace p222:=eq_true p222
                 replace q222:=eq_true q222
                 have p223:0≤(2:Int):=(by omega)
                 have q223:2 < (l0.length:Int):=of_decide_eq_true (by first|(with_reducible assumption)|assumption)
                 obtain ⟨ad223,e223,hx223_0⟩:=Kd.at_int HR0.out 2 p223 q223
                 obtain rfl:ad217=ad223:=(by injection e223)
                 (try simp only [show (2:Int).toNat=2 from rfl,Nat.reduceMul,Nat.reduceEqDiff,Go.Addr.add,↓reduceIte] at hx223_0)
                 have qi223:(2 < l0.length)=True:=eq_true (by omega)
                 (try rw [show ((2:Int)).toNat=2 from rfl] at hx223_0)
                 replace p223:=eq_true p223
                 replace q223:=eq_true q223
                 have p224:0≤(2:Int):=(by omega)
                 have q224:2 < (l0.length:Int):=of_decide_eq_true (by first|(with_reducible assumption)|assumption)
                 obtain ⟨ad224,e224,hx224_0⟩:=Kd.at_int HR0.out 2 p224 q224
                 obtain rfl:ad217=ad224:=(by injection e224)
                 (try simp only [show (2:Int).toNat=2 from rfl,Nat.reduceMul,Nat.reduceEqDiff,Go.Addr.add,↓reduceIte] at hx224_0)
                 have qi224:(2 < l0.length)=True:=eq_true (by omega)
                 (try rw [show ((2:Int)).toNat=2 from rfl] at hx224_0)
                 replace p224:=eq_true p224
                 replace q224:=eq_true q224
                 go_wp2
                 repeat (go_quiet (fail);try go_wp2)
                 go_meet
                 case rel => exact ⟨_,(decide ((rd l0 2)≤191)),(by first|rfl|(simp;done)|(simp [*];done)),H',⟨by have:=HJ2.out;have:=HJ5.out;first|omega|exact Nat.le_refl _⟩,by repeat (first|exact Drawn0.refl _|apply Drawn0.step)⟩
                ·rw [if_neg c24] at H
                 have c24b0:decide (128≤(rd l0 2))=false:=decide_eq_false c24
                 clear c24
                 have H':=Aside0.mk H
                 clear H
                 have p221:0≤(1:Int):=(by omega)
                 have q221:1 < (l0.length:Int):=of_decide_eq_true (by first|(with_reducible assumption)|assumption)
                 obtain ⟨ad221,e221,hx221_0⟩:=Kd.at_int HR0.out 1 p221 q221
                 obtain rfl:ad217=ad221:=(by injection e221)
                 (try simp only [show (1:Int).toNat=1 from rfl,Nat.reduceMul,Nat.reduceEqDiff,Go.Addr.add,↓reduceIte] at hx221_0)
                 have qi221:(1 < l0.length)=True:=eq_true (by omega)
                 (try rw [show ((1:Int)).toNat=1 from rfl] at hx221_0)
                 replace p221:=eq_true p221
                 replace q221:=eq_true q221
                 have p222:0≤(1:Int):=(by omega)
                 have q222:1 < (l0.length:Int):=of_decide_eq_true (by first|(with_reducible assumption)|assumption)
                 obtain ⟨ad222,e222,hx222_0⟩:=Kd.at_int HR0.out 1 p222 q222
                 obtain rfl:ad217=ad222:=(by injection e222)
                 (try simp only [show (1:Int).toNat=1 from rfl,Nat.reduceMul,Nat.reduceEqDiff,Go.Addr.add,↓reduceIte] at hx222_0)
                 have qi222:(1 < l0.length)=True:=eq_true (by omega)
                 (try rw [show ((1:Int)).toNat=1 from rfl] at hx222_0)
                 replace p222:=eq_true p222
                 replace q222:=eq_true q222
                 have p223:0≤(2:Int):=(by omega)
                 have q223:2 < (l0.length:Int):=of_decide_eq_true (by first|(with_reducible assumption)|assumption)
                 obtain ⟨ad223,e223,hx223_0⟩:=Kd.at_int HR0.out 2 p223 q223
                 obtain rfl:ad217=ad223:=(by injection e223)
                 (try simp only [show (2:Int).toNat=2 from rfl,Nat.reduceMul,Nat.reduceEqDiff,Go.Addr.add,↓reduceIte] at hx223_0)
                 have qi223:(2 < l0.length)=True:=eq_true (by omega)
                 (try rw [show ((2:Int)).toNat=2 from rfl] at hx223_0)
                 replace p223:=eq_true p223
                 replace q223:=eq_true q223
                 go_wp2
                 repeat (go_quiet (fail);try go_wp2)
                 go_meet
                 case rel => exact ⟨_,(false),(by first|rfl|(simp;done)|(simp [*];done)),H',⟨by have:=HJ2.out;have:=HJ5.out;first|omega|exact Nat.le_refl _⟩,by repeat (first|exact Drawn0.refl _|apply Drawn0.step)⟩
               ·rw [if_neg c23] at H
                exact absurd H (by simp)
              ·rw [if_neg c22] at H
               have c22b0:decide ((rd l0 1)≤191)=false:=decide_eq_false c22
               clear c22
               have H':=Aside0.mk H
               clear H
               have p221:0≤(1:Int):=(by omega)
               have q221:1 < (l0.length:Int):=of_decide_eq_true (by first|(with_reducible assumption)|assumption)
               obtain ⟨ad221,e221,hx221_0⟩:=Kd.at_int HR0.out 1 p221 q221
               obtain rfl:ad217=ad221:=(by injection e221)
               (try simp only [show (1:Int).toNat=1 from rfl,Nat.reduceMul,Nat.reduceEqDiff,Go.Addr.add,↓reduceIte] at hx221_0)
               have qi221:(1 < l0.length)=True:=eq_true (by omega)
               (try rw [show ((1:Int)).toNat=1 from rfl] at hx221_0)
               replace p221:=eq_true p221
               replace q221:=eq_true q221
               have p222:0≤(1:Int):=(by omega)
               have q222:1 < (l0.length:Int):=of_decide_eq_true (by first|(with_reducible assumption)|assumption)
               obtain ⟨ad222,e222,hx222_0⟩:=Kd.at_int HR0.out 1 p222 q222
               obtain rfl:ad217=ad222:=(by injection e222)
               (try simp only [show (1:Int).toNat=1 from rfl,Nat.reduceMul,Nat.reduceEqDiff,Go.Addr.add,↓reduceIte] at hx222_0)
               have qi222:(1 < l0.length)=True:=eq_true (by omega)
               (try rw [show ((1:Int)).toNat=1 from rfl] at hx222_0)
               replace p222:=eq_true p222
               replace q222:=eq_true q222
               go_wp2
               repeat (go_quiet (fail);try go_wp2)
               go_meet
               case rel => exact ⟨_,(false),(by first|rfl|(simp;done)|(simp [*];done)),H',⟨by have:=HJ2.out;have:=HJ5.out;first|omega|exact Nat.le_refl _⟩,by repeat (first|exact Drawn0.refl _|apply Drawn0.step)⟩
             ·rw [if_neg c21] at H
              have c21b0:decide (128≤(rd l0 1))=false:=decide_eq_false c21
              clear c21
              have H':=Aside0.mk H
              clear H
              have p221:0≤(1:Int):=(by omega)
              have q221:1 < (l0.length:Int):=of_decide_eq_true (by first|(with_reducible assumption)|assumption)
              obtain ⟨ad221,e221,hx221_0⟩:=Kd.at_int HR0.out 1 p221 q221
              obtain rfl:ad217=ad221:=(by injection e221)
              (try simp only [show (1:Int).toNat=1 from rfl,Nat.reduceMul,Nat.reduceEqDiff,Go.Addr.add,↓reduceIte] at hx221_0)
              have qi221:(1 < l0.length)=True:=eq_true (by omega)
              (try rw [show ((1:Int)).toNat=1 from rfl] at hx221_0)
              replace p221:=eq_true p221
              replace q221:=eq_true q221
              go_wp2
              repeat (go_quiet (fail);try go_wp2)
              go_meet
              case rel => exact ⟨_,(false),(by first|rfl|(simp;done)|(simp [*];done)),H',⟨by have:=HJ2.out;have:=HJ5.out;first|omega|exact Nat.le_refl _⟩,by repeat (first|exact Drawn0.refl _|apply Drawn0.step)⟩
            ·rw [if_neg c20] at H
             exact absurd H (by simp)
           ·rw [if_neg c19] at H
            have c19b0:decide (3≤(l0.length:Int))=false:=decide_eq_false c19
            have c19b1:decide (3≤l0.length)=false:=decide_eq_false (by omega)
            clear c19
            have H':=Aside0.mk H
            clear H
            go_wp2
            repeat (go_quiet (fail);try go_wp2)
            go_meet
            case rel => exact ⟨_,(false),(by first|rfl|(simp;done)|(simp [*];done)),H',⟨by have:=HJ2.out;have:=HJ5.out;first|omega|exact Nat.le_refl _⟩,by repeat (first|exact Drawn0.refl _|apply Drawn0.step)⟩
          ·rw [if_neg c18] at H
           have c18b0:decide ((wrap64 (rd l0 0))≤239)=false:=decide_eq_false c18
           clear c18
           have H':=Aside0.mk H
           clear H
           go_wp2
           repeat (go_quiet (fail);try go_wp2)
           go_meet
           case rel => exact ⟨_,(false),(by first|rfl|(simp;done)|(simp [*];done)),H',⟨by have:=HJ2.out;have:=HJ5.out;first|omega|exact Nat.le_refl _⟩,by repeat (first|exact Drawn0.refl _|apply Drawn0.step)⟩
         ·rw [if_neg c17] at H
          have c17b0:decide (224≤(wrap64 (rd l0 0)))=false:=decide_eq_false c17
          clear c17
          (first|rw [c17b0]|(simp only [i64_w,i32_w];rw [c17b0])|skip)
          have H':=Aside0.mk H
          clear H
          go_wp2
          repeat (go_quiet (fail);try go_wp2)
          go_meet
          case rel => exact ⟨_,(false),(by first|rfl|(simp;done)|(simp [*];done)),H',⟨by have:=HJ2.out;have:=HJ5.out;first|omega|exact Nat.le_refl _⟩,by repeat (first|exact Drawn0.refl _|apply Drawn0.step)⟩
        case rest =>
         clear HC16
         try clear c1;try clear c2;try clear c2b0;try clear c2b1;try clear p2;try clear q2;try clear hx2;try clear qi2;try clear c4;try clear c4b0;try clear c5;try clear p6;try clear c7;try clear c7b0;try clear c8;try clear c8b0;try clear c9;try clear c9b0;try clear c9b1;try clear c10;try clear c10b0;try clear c10b1;try clear c11;try clear c11b0;try clear c12;try clear c13;try clear c13b0;try clear c13b1;try clear c14;try clear c14b0;try clear c14b1;try clear c15;try clear c15b0;try clear c17;try clear c17b0;try clear c18;try clear c18b0;try clear c19;try clear c19b0;try clear c19b1;try clear c20;try clear c20b0;try clear c20b1;try clear c21;try clear c21b0;try clear p21;try clear q21;try clear hx21;try clear qi21;try clear c22;try clear c22b0;try clear p22;try clear q22;try clear hx22;try clear qi22;try clear c23;try clear c23b0;try clear c23b1;try clear c24;try clear c24b0;try clear hx217_0;try clear hx218_0;try clear hx219_0;try clear hx220_0;try clear hx221_0;try clear hx222_0;try clear hx223_0;try clear hx224_0;try clear p2;try clear p217;try clear p218;try clear p219;try clear p220;try clear p221;try clear p222;try clear p223;try clear p224;try clear p6;try clear q2;try clear q217;try clear q218;try clear q219;try clear q220;try clear q221;try clear q222;try clear q223;try clear q224
         obtain ⟨kq,x59_15,rfl,HA,HJ15,⟨mc15,rfl⟩⟩:=hcut
         cases kq with
         | zero => exact absurd HA.out (by simp [understudyref02_take.j2])
         | succ kj15 =>
          have H:=HA.out
          clear HA
          simp only [understudyref02_take.j2] at H
          by_cases c25:x59_15=true
          ·subst c25
           have H1:(if 1 < (l0.length:Int) then (if 2 < (l0.length:Int) then (if (wrap64 ((wrap64 ((wrap64 ((wrap64 ((wrap64 ((wrap64 (rd l0 0)) - 224)) * 4096)) + (wrap64 ((wrap64 ((wrap64 (rd l0 1)) - 128)) * 64)))) + (wrap64 (rd l0 2)))) - 128)) ≥ 2048 then (some (wrap64 ((wrap64 ((wrap64 ((wrap64 ((wrap64 ((wrap64 (rd l0 0)) - 224)) * 4096)) + (wrap64 ((wrap64 ((wrap64 (rd l0 1)) - 128)) * 64)))) + (wrap64 (rd l0 2)))) - 128),3)) else (some (0,0))) else (none)) else (none))=some (r1,r2):=by rw [if_pos rfl] at H;exact H
           clear H
           have H:=H1
           clear H1
           by_cases c26:1 < (l0.length:Int)
           ·rw [if_pos c26] at H
            have c26b0:decide (1 < (l0.length:Int))=true:=decide_eq_true c26
            have c26b1:decide (1 < l0.length)=true:=decide_eq_true (by omega)
            clear c26
            by_cases c27:2 < (l0.length:Int)
            ·rw [if_pos c27] at H
             have c27b0:decide (2 < (l0.length:Int))=true:=decide_eq_true c27
             have c27b1:decide (2 < l0.length)=true:=decide_eq_true (by omega)
             clear c27
             by_cases c28:(wrap64 ((wrap64 ((wrap64 ((wrap64 ((wrap64 ((wrap64 (rd l0 0)) - 224)) * 4096)) + (wrap64 ((wrap64 ((wrap64 (rd l0 1)) - 128)) * 64)))) + (wrap64 (rd l0 2)))) - 128)) ≥ 2048
             ·rw [if_pos c28] at H
              have c28b0:decide (2048≤(wrap64 ((wrap64 ((wrap64 ((wrap64 ((wrap64 ((wrap64 (rd l0 0)) - 224)) * 4096)) + (wrap64 ((wrap64 ((wrap64 (rd l0 1)) - 128)) * 64)))) + (wrap64 (rd l0 2)))) - 128)))=true:=decide_eq_true c28
              clear c28
              simp only [Option.some.injEq,Prod.mk.injEq] at H
              obtain ⟨rfl,rfl⟩:=H
              have p225:0≤(1:Int):=(by omega)
              have q225:1 < (l0.length:Int):=of_decide_eq_true (by first|(with_reducible assumption)|assumption)
              obtain ⟨ad225,e225,hx225_0⟩:=Kd.at_int HR0.out 1 p225 q225
              obtain rfl:ad217=ad225:=(by injection e225)
              (try simp only [show (1:Int).toNat=1 from rfl,Nat.reduceMul,Nat.reduceEqDiff,Go.Addr.add,↓reduceIte] at hx225_0)
              have qi225:(1 < l0.length)=True:=eq_true (by omega)
              (try rw [show ((1:Int)).toNat=1 from rfl] at hx225_0)
              replace p225:=eq_true p225
              replace q225:=eq_true q225
              have p226:0≤(2:Int):=(by omega)
              have q226:2 < (l0.length:Int):=of_decide_eq_true (by first|(with_reducible assumption)|assumption)
              obtain ⟨ad226,e226,hx226_0⟩:=Kd.at_int HR0.out 2 p226 q226
              obtain rfl:ad217=ad226:=(by injection e226)
              (try simp only [show (2:Int).toNat=2 from rfl,Nat.reduceMul,Nat.reduceEqDiff,Go.Addr.add,↓reduceIte] at hx226_0)
              have qi226:(2 < l0.length)=True:=eq_true (by omega)
              (try rw [show ((2:Int)).toNat=2 from rfl] at hx226_0)
              replace p226:=eq_true p226
              replace q226:=eq_true q226
              go_wp2
              repeat (go_quiet (fail);try go_wp2)
              go_ret2
              exact ⟨by first|rfl|(simp;done)|(simp [*];done),by repeat (first|exact Drawn0.refl _|apply Drawn0.step)⟩
             ·rw [if_neg c28] at H
              have c28b0:decide (2048≤(wrap64 ((wrap64 ((wrap64 ((wrap64 ((wrap64 ((wrap64 (rd l0 0)) - 224)) * 4096)) + (wrap64 ((wrap64 ((wrap64 (rd l0 1)) - 128)) * 64)))) + (wrap64 (rd l0 2)))) - 128)))=false:=decide_eq_false c28
              clear c28
              simp only [Option.some.injEq,Prod.mk.injEq] at H
              obtain ⟨rfl,rfl⟩:=H
              have p225:0≤(1:Int):=(by omega)
              have q225:1 < (l0.length:Int):=of_decide_eq_true (by first|(with_reducible assumption)|assumption)
              obtain ⟨ad225,e225,hx225_0⟩:=Kd.at_int HR0.out 1 p225 q225
              obtain rfl:ad217=ad225:=(by injection e225)
              (try simp only [show (1:Int).toNat=1 from rfl,Nat.reduceMul,Nat.reduceEqDiff,Go.Addr.add,↓reduceIte] at hx225_0)
              have qi225:(1 < l0.length)=True:=eq_true (by omega)
              (try rw [show ((1:Int)).toNat=1 from rfl] at hx225_0)
              replace p225:=eq_true p225
              replace q225:=eq_true q225
              have p226:0≤(2:Int):=(by omega)
              have q226:2 < (l0.length:Int):=of_decide_eq_true (by first|(with_reducible assumption)|assumption)
              obtain ⟨ad226,e226,hx226_0⟩:=Kd.at_int HR0.out 2 p226 q226
              obtain rfl:ad217=ad226:=(by injection e226)
              (try simp only [show (2:Int).toNat=2 from rfl,Nat.reduceMul,Nat.reduceEqDiff,Go.Addr.add,↓reduceIte] at hx226_0)
              have qi226:(2 < l0.length)=True:=eq_true (by omega)
              (try rw [show ((2:Int)).toNat=2 from rfl] at hx226_0)
              replace p226:=eq_true p226
              replace q226:=eq_true q226
              go_wp2
              repeat (go_quiet (fail);try go_wp2)
              go_ret2
              exact ⟨by first|rfl|(simp;done)|(simp [*];done),by repeat (first|exact Drawn0.refl _|apply Drawn0.step)⟩
            ·rw [if_neg c27] at H
             exact absurd H (by simp)
           ·rw [if_neg c26] at H
            exact absurd H (by simp)
          ·replace c25:=Bool.eq_false_iff.mpr c25
           subst c25
           have H1:(some (0,0))=some (r1,r2):=by rw [if_neg (show ¬ (false=true) by decide)] at H;exact H
           clear H
           have H:=H1
           clear H1
           simp only [Option.some.injEq,Prod.mk.injEq] at H
           obtain ⟨rfl,rfl⟩:=H
           go_wp2
           repeat (go_quiet (fail);try go_wp2)
           go_ret2
           exact ⟨by first|rfl|(simp;done)|(simp [*];done),by repeat (first|exact Drawn0.refl _|apply Drawn0.step)⟩
 ·rw [if_neg c2] at H
  exact absurd H (by simp)
def understudyref02_utf8.f (a0:Int):Option (List Int):=if a0 < 128 then (some (([(a0) % 256]:List Int))) else (if a0 < 2048 then (some (([(wrap64 (192 + (wrap64 (Int.tdiv a0 64)))) % 256,(wrap64 (128 + (Int.tmod a0 64))) % 256]:List Int))) else (if a0 < 65536 then (some (([(wrap64 (224 + (wrap64 (Int.tdiv a0 4096)))) % 256,(wrap64 (128 + (Int.tmod (wrap64 (Int.tdiv a0 64)) 64))) % 256,(wrap64 (128 + (Int.tmod a0 64))) % 256]:List Int))) else (some (([(wrap64 (240 + (wrap64 (Int.tdiv a0 262144)))) % 256,(wrap64 (128 + (Int.tmod (wrap64 (Int.tdiv a0 4096)) 64))) % 256,(wrap64 (128 + (Int.tmod (wrap64 (Int.tdiv a0 64)) 64))) % 256,(wrap64 (128 + (Int.tmod a0 64))) % 256]:List Int)))))
set_option maxHeartbeats 80000000 in
set_option maxRecDepth 100000 in
theorem understudyref02_utf8.calls (a0:Int) (r:List Int) (w:World) (h:understudyref02_utf8.f a0=some r) :
  Calls Tryd.prog 72 #[.int .i64 a0] w fun e w' => ∃ v0_:Value,e=.returned (v0_)∧Kd.R (Kd.int .u8) 5 w' w.heap.size (fun _ => True) v0_ r∧Below w.heap.size w w':=by
 have HB:=Aside0.mk (Below.refl w.heap.size w)
 have H:(if a0 < 128 then (some (([(a0) % 256]:List Int))) else (if a0 < 2048 then (some (([(wrap64 (192 + (wrap64 (Int.tdiv a0 64)))) % 256,(wrap64 (128 + (Int.tmod a0 64))) % 256]:List Int))) else (if a0 < 65536 then (some (([(wrap64 (224 + (wrap64 (Int.tdiv a0 4096)))) % 256,(wrap64 (128 + (Int.tmod (wrap64 (Int.tdiv a0 64)) 64))) % 256,(wrap64 (128 + (Int.tmod a0 64))) % 256]:List Int))) else (some (([(wrap64 (240 + (wrap64 (Int.tdiv a0 262144)))) % 256,(wrap64 (128 + (Int.tmod (wrap64 (Int.tdiv a0 4096)) 64))) % 256,(wrap64 (128 + (Int.tmod (wrap64 (Int.tdiv a0 64)) 64))) % 256,(wrap64 (128 + (Int.tmod a0 64))) % 256]:List Int))))))=some r:=h
 clear h
 by_cases c2:a0 < 128
 ·rw [if_pos c2] at H
  have c2b0:decide (a0 < 128)=true:=decide_eq_true c2
  clear c2
  obtain ⟨y227,hy227⟩:∃ y_:List Int,y_=(([(a0) % 256]:List Int)):=⟨_,rfl⟩
  replace H:(some y227)=some r:=by first|(rw [hy227];with_reducible exact H)|(have H2_:=(Option.bind_some _ _).symm.trans H;rw [hy227];with_reducible exact H2_)|(have H2_:=(Option.bind_some _ _).symm.trans H;with_reducible exact H2_)|with_reducible exact H|(rw [hy227];exact H)|exact H
  have Ny227:=Aside0.mk hy227
  clear hy227
  obtain rfl:=Option.some.inj H
  go_enter Tryd.func72,Tryd.ntmps72
  go_wp2_with (first|((with_reducible refine gate_dst (N:=8) rfl ?_);refine Kd.R_lit (Kd.int .u8) _ 5 ?hg (N:=8) ?hd (xs:=([(a0) % 256]:List Int)) (inner:=[.int .u8 ((a0) % 256)]) (ok:=fun _ => True) (okp:=fun _ => True) ?hr ?hp (fun _ hk => hk) trivial (Below.refl _ _) (Nat.le_refl _) (by simp) ?_;(case hd => rfl);(case hg => rfl);(case hr => first|(go_simp;done)|(go_simp;rfl));(case hp => exact (Reps.one (show Kd.M (Kd.int .u8) _ _ _ ((a0) % 256) [.int .u8 ((a0) % 256)] from rfl) (Reps.none _ _)));intro v228 w3 ho4 hb hg_ hnew_;clear hg_ hnew_;(first|rw [← Ny227.out] at ho4|(simp only [Int.reduceToNat] at ho4;rw [← Ny227.out] at ho4));have n0_:=Aside0.mk (Kd.R_lower ho4 (below_size (by repeat (first|(with_reducible first|exact HB.out|apply below_alloc|apply pw_below_drewN|apply below_drew1)|exact HB.out))));have n1_:=Aside0.mk (below_step (by repeat (first|(with_reducible first|exact HB.out|apply below_alloc|apply pw_below_drewN|apply below_drew1)|exact HB.out)) hb);clear HB;have HO229:=n0_;have HB:=n1_;clear n0_ n1_;clear hb ho4))
  go_ret
  exact ⟨_,by first|rfl|(simp [errW_none,errW_some] <;> rfl)|(simp [*,errW_none,errW_some] <;> rfl),by (with_reducible repeat (first|apply Kd.R_alloc|apply Kd.R_drewN|apply Kd.R_drew));exact HO229.out,by repeat (first|(with_reducible first|exact HB.out|apply below_alloc|apply pw_below_drewN|apply below_drew1)|exact HB.out)⟩
 ·rw [if_neg c2] at H
  have c2b0:decide (a0 < 128)=false:=decide_eq_false c2
  clear c2
  by_cases c5:a0 < 2048
  ·rw [if_pos c5] at H
   have c5b0:decide (a0 < 2048)=true:=decide_eq_true c5
   clear c5
   obtain ⟨y230,hy230⟩:∃ y_:List Int,y_=(([(wrap64 (192 + (wrap64 (Int.tdiv a0 64)))) % 256,(wrap64 (128 + (Int.tmod a0 64))) % 256]:List Int)):=⟨_,rfl⟩
   replace H:(some y230)=some r:=by first|(rw [hy230];with_reducible exact H)|(have H2_:=(Option.bind_some _ _).symm.trans H;rw [hy230];with_reducible exact H2_)|(have H2_:=(Option.bind_some _ _).symm.trans H;with_reducible exact H2_)|with_reducible exact H|(rw [hy230];exact H)|exact H
   have Ny230:=Aside0.mk hy230
   clear hy230
   obtain rfl:=Option.some.inj H
   go_enter Tryd.func72,Tryd.ntmps72
   go_wp2_with (first|((with_reducible refine gate_dst (N:=20) rfl ?_);refine Kd.R_lit (Kd.int .u8) _ 5 ?hg (N:=20) ?hd (xs:=([(wrap64 (192 + (wrap64 (Int.tdiv a0 64)))) % 256,(wrap64 (128 + (Int.tmod a0 64))) % 256]:List Int)) (inner:=[.int .u8 ((wrap64 (192 + (wrap64 (Int.tdiv a0 64)))) % 256),.int .u8 ((wrap64 (128 + (Int.tmod a0 64))) % 256)]) (ok:=fun _ => True) (okp:=fun _ => True) ?hr ?hp (fun _ hk => hk) trivial (Below.refl _ _) (Nat.le_refl _) (by simp) ?_;(case hd => rfl);(case hg => rfl);(case hr => first|(go_simp;done)|(go_simp;rfl));(case hp => exact (Reps.one (show Kd.M (Kd.int .u8) _ _ _ ((wrap64 (192 + (wrap64 (Int.tdiv a0 64)))) % 256) [.int .u8 ((wrap64 (192 + (wrap64 (Int.tdiv a0 64)))) % 256)] from rfl) (Reps.one (show Kd.M (Kd.int .u8) _ _ _ ((wrap64 (128 + (Int.tmod a0 64))) % 256) [.int .u8 ((wrap64 (128 + (Int.tmod a0 64))) % 256)] from rfl) (Reps.none _ _))));intro v231 w6 ho7 hb hg_ hnew_;clear hg_ hnew_;(first|rw [← Ny230.out] at ho7|(simp only [Int.reduceToNat] at ho7;rw [← Ny230.out] at ho7));have n0_:=Aside0.mk (Kd.R_lower ho7 (below_size (by repeat (first|(with_reducible first|exact HB.out|apply below_alloc|apply pw_below_drewN|apply below_drew1)|exact HB.out))));have n1_:=Aside0.mk (below_step (by repeat (first|(with_reducible first|exact HB.out|apply below_alloc|apply pw_below_drewN|apply below_drew1)|exact HB.out)) hb);clear HB;have HO232:=n0_;have HB:=n1_;clear n0_ n1_;clear hb ho7))
   go_ret
   exact ⟨_,by first|rfl|(simp [errW_none,errW_some] <;> rfl)|(simp [*,errW_none,errW_some] <;> rfl),by (with_reducible repeat (first|apply Kd.R_alloc|apply Kd.R_drewN|apply Kd.R_drew));exact HO232.out,by repeat (first|(with_reducible first|exact HB.out|apply below_alloc|apply pw_below_drewN|apply below_drew1)|exact HB.out)⟩
  ·rw [if_neg c5] at H
   have c5b0:decide (a0 < 2048)=false:=decide_eq_false c5
   clear c5
   by_cases c8:a0 < 65536
   ·rw [if_pos c8] at H
    have c8b0:decide (a0 < 65536)=true:=decide_eq_true c8
    clear c8
    obtain ⟨y233,hy233⟩:∃ y_:List Int,y_=(([(wrap64 (224 + (wrap64 (Int.tdiv a0 4096)))) % 256,(wrap64 (128 + (Int.tmod (wrap64 (Int.tdiv a0 64)) 64))) % 256,(wrap64 (128 + (Int.tmod a0 64))) % 256]:List Int)):=⟨_,rfl⟩
    replace H:(some y233)=some r:=by first|(rw [hy233];with_reducible exact H)|(have H2_:=(Option.bind_some _ _).symm.trans H;rw [hy233];with_reducible exact H2_)|(have H2_:=(Option.bind_some _ _).symm.trans H;with_reducible exact H2_)|with_reducible exact H|(rw [hy233];exact H)|exact H
    have Ny233:=Aside0.mk hy233
    clear hy233
    obtain rfl:=Option.some.inj H
    go_enter Tryd.func72,Tryd.ntmps72
    go_wp2_with (first|((with_reducible refine gate_dst (N:=37) rfl ?_);refine Kd.R_lit (Kd.int .u8) _ 5 ?hg (N:=37) ?hd (xs:=([(wrap64 (224 + (wrap64 (Int.tdiv a0 4096)))) % 256,(wrap64 (128 + (Int.tmod (wrap64 (Int.tdiv a0 64)) 64))) % 256,(wrap64 (128 + (Int.tmod a0 64))) % 256]:List Int)) (inner:=[.int .u8 ((wrap64 (224 + (wrap64 (Int.tdiv a0 4096)))) % 256),.int .u8 ((wrap64 (128 + (Int.tmod (wrap64 (Int.tdiv a0 64)) 64))) % 256),.int .u8 ((wrap64 (128 + (Int.tmod a0 64))) % 256)]) (ok:=fun _ => True) (okp:=fun _ => True) ?hr ?hp (fun _ hk => hk) trivial (Below.refl _ _) (Nat.le_refl _) (by simp) ?_;(case hd => rfl);(case hg => rfl);(case hr => first|(go_simp;done)|(go_simp;rfl));(case hp => exact (Reps.one (show Kd.M (Kd.int .u8) _ _ _ ((wrap64 (224 + (wrap64 (Int.tdiv a0 4096)))) % 256) [.int .u8 ((wrap64 (224 + (wrap64 (Int.tdiv a0 4096)))) % 256)] from rfl) (Reps.one (show Kd.M (Kd.int .u8) _ _ _ ((wrap64 (128 + (Int.tmod (wrap64 (Int.tdiv a0 64)) 64))) % 256) [.int .u8 ((wrap64 (128 + (Int.tmod (wrap64 (Int.tdiv a0 64)) 64))) % 256)] from rfl) (Reps.one (show Kd.M (Kd.int .u8) _ _ _ ((wrap64 (128 + (Int.tmod a0 64))) % 256) [.int .u8 ((wrap64 (128 + (Int.tmod a0 64))) % 256)] from rfl) (Reps.none _ _)))));intro v234 w9 ho10 hb hg_ hnew_;clear hg_ hnew_;(first|rw [← Ny233.out] at ho10|(simp only [Int.reduceToNat] at ho10;rw [← Ny233.out] at ho10));have n0_:=Aside0.mk (Kd.R_lower ho10 (below_size (by repeat (first|(with_reducible first|exact HB.out|apply below_alloc|apply pw_below_drewN|apply below_drew1)|exact HB.out))));have n1_:=Aside0.mk (below_step (by repeat (first|(with_reducible first|exact HB.out|apply below_alloc|apply pw_below_drewN|apply below_drew1)|exact HB.out)) hb);clear HB;have HO235:=n0_;have HB:=n1_;clear n0_ n1_;clear hb ho10))
    go_ret
    exact ⟨_,by first|rfl|(simp [errW_none,errW_some] <;> rfl)|(simp [*,errW_none,errW_some] <;> rfl),by (with_reducible repeat (first|apply Kd.R_alloc|apply Kd.R_drewN|apply Kd.R_drew));exact HO235.out,by repeat (first|(with_reducible first|exact HB.out|apply below_alloc|apply pw_below_drewN|apply below_drew1)|exact HB.out)⟩
   ·rw [if_neg c8] at H
    have c8b0:decide (a0 < 65536)=false:=decide_eq_false c8
    clear c8
    obtain ⟨y236,hy236⟩:∃ y_:List Int,y_=(([(wrap64 (240 + (wrap64 (Int.tdiv a0 262144)))) % 256,(wrap64 (128 + (Int.tmod (wrap64 (Int.tdiv a0 4096)) 64))) % 256,(wrap64 (128 + (Int.tmod (wrap64 (Int.tdiv a0 64)) 64))) % 256,(wrap64 (128 + (Int.tmod a0 64))) % 256]:List Int)):=⟨_,rfl⟩
    replace H:(some y236)=some r:=by first|(rw [hy236];with_reducible exact H)|(have H2_:=(Option.bind_some _ _).symm.trans H;rw [hy236];with_reducible exact H2_)|(have H2_:=(Option.bind_some _ _).symm.trans H;with_reducible exact H2_)|with_reducible exact H|(rw [hy236];exact H)|exact H
    have Ny236:=Aside0.mk hy236
    clear hy236
    obtain rfl:=Option.some.inj H
    go_enter Tryd.func72,Tryd.ntmps72
    go_wp2_with (first|((with_reducible refine gate_dst (N:=56) rfl ?_);refine Kd.R_lit (Kd.int .u8) _ 5 ?hg (N:=56) ?hd (xs:=([(wrap64 (240 + (wrap64 (Int.tdiv a0 262144)))) % 256,(wrap64 (128 + (Int.tmod (wrap64 (Int.tdiv a0 4096)) 64))) % 256,(wrap64 (128 + (Int.tmod (wrap64 (Int.tdiv a0 64)) 64))) % 256,(wrap64 (128 + (Int.tmod a0 64))) % 256]:List Int)) (inner:=[.int .u8 ((wrap64 (240 + (wrap64 (Int.tdiv a0 262144)))) % 256),.int .u8 ((wrap64 (128 + (Int.tmod (wrap64 (Int.tdiv a0 4096)) 64))) % 256),.int .u8 ((wrap64 (128 + (Int.tmod (wrap64 (Int.tdiv a0 64)) 64))) % 256),.int .u8 ((wrap64 (128 + (Int.tmod a0 64))) % 256)]) (ok:=fun _ => True) (okp:=fun _ => True) ?hr ?hp (fun _ hk => hk) trivial (Below.refl _ _) (Nat.le_refl _) (by simp) ?_;(case hd => rfl);(case hg => rfl);(case hr => first|(go_simp;done)|(go_simp;rfl));(case hp => exact (Reps.one (show Kd.M (Kd.int .u8) _ _ _ ((wrap64 (240 + (wrap64 (Int.tdiv a0 262144)))) % 256) [.int .u8 ((wrap64 (240 + (wrap64 (Int.tdiv a0 262144)))) % 256)] from rfl) (Reps.one (show Kd.M (Kd.int .u8) _ _ _ ((wrap64 (128 + (Int.tmod (wrap64 (Int.tdiv a0 4096)) 64))) % 256) [.int .u8 ((wrap64 (128 + (Int.tmod (wrap64 (Int.tdiv a0 4096)) 64))) % 256)] from rfl) (Reps.one (show Kd.M (Kd.int .u8) _ _ _ ((wrap64 (128 + (Int.tmod (wrap64 (Int.tdiv a0 64)) 64))) % 256) [.int .u8 ((wrap64 (128 + (Int.tmod (wrap64 (Int.tdiv a0 64)) 64))) % 256)] from rfl) (Reps.one (show Kd.M (Kd.int .u8) _ _ _ ((wrap64 (128 + (Int.tmod a0 64))) % 256) [.int .u8 ((wrap64 (128 + (Int.tmod a0 64))) % 256)] from rfl) (Reps.none _ _))))));intro v237 w11 ho12 hb hg_ hnew_;clear hg_ hnew_;(first|rw [← Ny236.out] at ho12|(simp only [Int.reduceToNat] at ho12;rw [← Ny236.out] at ho12));have n0_:=Aside0.mk (Kd.R_lower ho12 (below_size (by repeat (first|(with_reducible first|exact HB.out|apply below_alloc|apply pw_below_drewN|apply below_drew1)|exact HB.out))));have n1_:=Aside0.mk (below_step (by repeat (first|(with_reducible first|exact HB.out|apply below_alloc|apply pw_below_drewN|apply below_drew1)|exact HB.out)) hb);clear HB;have HO238:=n0_;have HB:=n1_;clear n0_ n1_;clear hb ho12))
    go_ret
    exact ⟨_,by first|rfl|(simp [errW_none,errW_some] <;> rfl)|(simp [*,errW_none,errW_some] <;> rfl),by (with_reducible repeat (first|apply Kd.R_alloc|apply Kd.R_drewN|apply Kd.R_drew));exact HO238.out,by repeat (first|(with_reducible first|exact HB.out|apply below_alloc|apply pw_below_drewN|apply below_drew1)|exact HB.out)⟩
end Go.Proofs.YtglnhkgodgjepaaDoor.Px
namespace Go.Proofs.YtglnhkgodgjepaaDoor.Px
open Go.RowKit Go.Proofs.YtglnhkgodgjepaaDoorW.PrintWords Go.Proofs.YtglnhkgodgjepaaDoorW.PrintLast Go.Proofs.YtglnhkgodgjepaaDoorW.PrintMore
attribute [local go_sem] max2_int min2_int max_two min_two max_three min_three max_four min_four
set_option linter.unusedVariables false
set_option linter.unusedSimpArgs false
mutual
def understudyref02_Decode.l0:Nat→List Int→List Int→Option (ByteArray × Int)
 | 0,_,_ => none
 | k + 1,x0,x4 => if (x0.length:Int) > 0 then ((understudyref02_take.f k x0).bind fun bt239 => (if bt239.2=0 then (understudyref02_Decode.j1 k x0 x4 bt239.1 bt239.2 true) else (if bt239.1 ≥ 56320 then (understudyref02_Decode.j1 k x0 x4 bt239.1 bt239.2 (decide (bt239.1≤57343))) else (understudyref02_Decode.j1 k x0 x4 bt239.1 bt239.2 false)))) else (some (strOfNums x4,0))
def understudyref02_Decode.j1:Nat→List Int→List Int→Int→Int→Bool→Option (ByteArray × Int)
 | 0,_,_,_,_,_ => none
 | k + 1,x0,x4,x5,x6,x26 => if x26=true then (some ((⟨#[]⟩:ByteArray),20)) else (if 0≤x6 then (if x6≤(x0.length:Int) then ((some (x0.drop (x6:Int).toNat:List Int)).bind fun y241 => (if x5 < 55296 then (understudyref02_Decode.j2 k y241 x4 x5 true) else (understudyref02_Decode.j2 k y241 x4 x5 (decide (x5 > 56319))))) else (none)) else (none))
def understudyref02_Decode.j2:Nat→List Int→List Int→Int→Bool→Option (ByteArray × Int)
 | 0,_,_,_,_ => none
 | k + 1,x0,x4,x5,x35 => if x35=true then ((understudyref02_utf8.f x5).bind fun t246 => (if x4.length + t246.length < 140737488355328 then (understudyref02_Decode.l0 k x0 (x4++t246)) else (none))) else (if (x0.length:Int)=0 then (some ((⟨#[]⟩:ByteArray),20)) else ((understudyref02_take.f k x0).bind fun bt252 => (if bt252.2=0 then (some ((⟨#[]⟩:ByteArray),20)) else (if bt252.1 < 56320 then (some ((⟨#[]⟩:ByteArray),20)) else (if bt252.1 > 57343 then (some ((⟨#[]⟩:ByteArray),20)) else (if 0≤bt252.2 then (if bt252.2≤(x0.length:Int) then ((understudyref02_utf8.f (wrap64 ((wrap64 ((wrap64 (65536 + (wrap64 ((wrap64 (x5 - 55296)) * 1024)))) + bt252.1)) - 56320))).bind fun t259 => (if x4.length + t259.length < 140737488355328 then (understudyref02_Decode.l0 k (x0.drop (bt252.2:Int).toNat) (x4++t259)) else (none))) else (none)) else (none)))))))
end
def understudyref02_Decode.f (k:Nat) (l0:List Int):Option (ByteArray × Int):=understudyref02_Decode.l0 k l0 ([]:List Int)
theorem understudyref02_Decode.mono_l:∀ k,(∀ y0 y1,LeO (understudyref02_Decode.l0 k y0 y1) (understudyref02_Decode.l0 (k + 1) y0 y1))∧(∀ y0 y1 y2 y3 y4,LeO (understudyref02_Decode.j1 k y0 y1 y2 y3 y4) (understudyref02_Decode.j1 (k + 1) y0 y1 y2 y3 y4))∧(∀ y0 y1 y2 y3,LeO (understudyref02_Decode.j2 k y0 y1 y2 y3) (understudyref02_Decode.j2 (k + 1) y0 y1 y2 y3))
 | 0 => ⟨fun _ _ r h => by simp [understudyref02_Decode.l0] at h,fun _ _ _ _ _ r h => by simp [understudyref02_Decode.j1] at h,fun _ _ _ _ r h => by simp [understudyref02_Decode.j2] at h⟩
 | k + 1 => by
  obtain ⟨ih0,ih1,ih2⟩:=understudyref02_Decode.mono_l k
  refine ⟨?_,?_,?_⟩
  ·intro y0 y1
   unfold understudyref02_Decode.l0
   repeat' first
   | (with_reducible exact ih0 _ _)
   | (with_reducible exact ih1 _ _ _ _ _)
   | (with_reducible exact ih2 _ _ _ _)
   | (with_reducible exact understudyref02_take.mono _ _)
   | (with_reducible exact LeO.refl _)
   | (with_reducible exact LeO.none _)
   | (with_reducible refine LeO.ite ?_ ?_)
   | (with_reducible refine LeO.bind ?_ (fun _ => ?_))
   | exact ih0 _ _
   | exact ih1 _ _ _ _ _
   | exact ih2 _ _ _ _
   | exact understudyref02_take.mono _ _
   | exact LeO.none _
   | refine LeO.ite ?_ ?_
   | refine LeO.bind ?_ (fun _ => ?_)
  ·intro y0 y1 y2 y3 y4
   unfold understudyref02_Decode.j1
   repeat' first
   | (with_reducible exact ih0 _ _)
   | (with_reducible exact ih1 _ _ _ _ _)
   | (with_reducible exact ih2 _ _ _ _)
   | (with_reducible exact understudyref02_take.mono _ _)
   | (with_reducible exact LeO.refl _)
   | (with_reducible exact LeO.none _)
   | (with_reducible refine LeO.ite ?_ ?_)
   | (with_reducible refine LeO.bind ?_ (fun _ => ?_))
   | exact ih0 _ _
   | exact ih1 _ _ _ _ _
   | exact ih2 _ _ _ _
   | exact understudyref02_take.mono _ _
   | exact LeO.none _
   | refine LeO.ite ?_ ?_
   | refine LeO.bind ?_ (fun _ => ?_)
  ·intro y0 y1 y2 y3
   unfold understudyref02_Decode.j2
   repeat' first
   | (with_reducible exact ih0 _ _)
   | (with_reducible exact ih1 _ _ _ _ _)
   | (with_reducible exact ih2 _ _ _ _)
   | (with_reducible exact understudyref02_take.mono _ _)
   | (with_reducible exact LeO.refl _)
   | (with_reducible exact LeO.none _)
   | (with_reducible refine LeO.ite ?_ ?_)
   | (with_reducible refine LeO.bind ?_ (fun _ => ?_))
   | exact ih0 _ _
   | exact ih1 _ _ _ _ _
   | exact ih2 _ _ _ _
   | exact understudyref02_take.mono _ _
   | exact LeO.none _
   | refine LeO.ite ?_ ?_
   | refine LeO.bind ?_ (fun _ => ?_)
theorem understudyref02_Decode.mono:∀ a0 k,LeO (understudyref02_Decode.f k a0) (understudyref02_Decode.f (k + 1) a0):=by
 intro a0 k
 obtain ⟨ih0,ih1,ih2⟩:=understudyref02_Decode.mono_l k
 unfold understudyref02_Decode.f
 repeat' first
   | (with_reducible exact ih0 _ _)
   | (with_reducible exact ih1 _ _ _ _ _)
   | (with_reducible exact ih2 _ _ _ _)
   | (with_reducible exact understudyref02_take.mono _ _)
   | (with_reducible exact LeO.refl _)
   | (with_reducible exact LeO.none _)
   | (with_reducible refine LeO.ite ?_ ?_)
   | (with_reducible refine LeO.bind ?_ (fun _ => ?_))
   | exact ih0 _ _
   | exact ih1 _ _ _ _ _
   | exact ih2 _ _ _ _
   | exact understudyref02_take.mono _ _
   | exact LeO.none _
   | refine LeO.ite ?_ ?_
   | refine LeO.bind ?_ (fun _ => ?_)
set_option maxHeartbeats 80000000 in
set_option maxRecDepth 100000 in
theorem understudyref02_Decode.calls (k:Nat) (P0_:Nat→Prop) (A0:Option Addr) (c0:Nat) (l0:List Int) (r1:ByteArray) (r2:Int) (w:World) (hs0:Kd.V (Kd.int .u8) 5 w w.heap.size (fun k_ => P0_ k_) (.slice A0 l0.length c0) l0) (h:understudyref02_Decode.f k l0=some (r1,r2)) :
  Calls Tryd.prog 61 #[.slice A0 l0.length c0] w fun e w' => e=.returned (.tuple #[.string r1,.int .i64 r2])∧Below w.heap.size w w':=by
 have HO0:=Aside0.mk (show Kd.V (Kd.int .u8) 5 w w.heap.size (fun k_ => (P0_ k_ ∨ w.heap.size≤k_)) (.slice A0 l0.length c0) l0 from Kd.V_mono hs0 (fun k_ hk => .inl hk))
 have HB:=Aside0.mk (Below.refl w.heap.size w)
 have H:(understudyref02_Decode.l0 k l0 ([]:List Int))=some (r1,r2):=h
 clear h
 have H':=Aside0.mk H
 clear H
 go_enter Tryd.func61,Tryd.ntmps61
 go_wp2
 go_loopg [0,4] k (fun kq v0 v4 w' => ∃ (x0_1:List Int) (x4_1:List Int),Aside0 (understudyref02_Decode.l0 kq x0_1 x4_1=some (r1,r2))∧Aside0 (kq≤k)∧Aside0 (Kd.V (Kd.int .u8) 5 w' w.heap.size (fun k_ => (P0_ k_ ∨ w.heap.size≤k_)∧some k_ ≠ (v4:Value).ownBlock) v0 x0_1)∧Aside0 (Kd.R (Kd.int .u8) 5 w' w.heap.size (fun k_ => (w.heap.size≤k_)) v4 x4_1)∧Aside0 (Below w.heap.size w w'))
 case atStart => exact ⟨(l0),(([]:List Int)),H',⟨Nat.le_refl _⟩,⟨by (with_reducible repeat (first|apply Kd.V_alloc|apply Kd.V_drewN|apply Kd.V_drew));exact Kd.V_mono HO0.out (fun _ hk => ⟨hk,(by simp [Value.ownBlock])⟩)⟩,⟨by first|exact Kd.R_nil _ _ _ _ _|exact Kd.N_nil _ _ _ _ _|exact Kd.V_nil _ _ _ _ _|exact Kd.Q_nil _ _ _ _ _|exact Kd.S_nil _ _ _ _ _⟩,⟨by repeat (first|(with_reducible first|exact HB.out|apply below_alloc|apply pw_below_drewN|apply below_drew1)|exact HB.out)⟩⟩
 case round =>
  clear H'
  obtain ⟨x0_1,x4_1,HA,HK1,HO_0,HO_4,HB⟩:=hrel
  cases gk with
  | zero => exact absurd HA.out (by simp [understudyref02_Decode.l0])
  | succ k1 =>
   have H:=HA.out
   clear HA
   simp only [understudyref02_Decode.l0] at H
   by_cases c2:(x0_1.length:Int) > 0
   ·rw [if_pos c2] at H
    have c2b0:decide (0 < (x0_1.length:Int))=true:=decide_eq_true c2
    have c2b1:decide (0 < x0_1.length)=true:=decide_eq_true (by omega)
    clear c2
    replace H:=Option.bind_eq_some_iff.mp H
    obtain ⟨⟨t239,t240⟩,A30,H⟩:=H
    replace H:(if t240=0 then (understudyref02_Decode.j1 k1 x0_1 x4_1 t239 t240 true) else (if t239 ≥ 56320 then (understudyref02_Decode.j1 k1 x0_1 x4_1 t239 t240 (decide (t239≤57343))) else (understudyref02_Decode.j1 k1 x0_1 x4_1 t239 t240 false)))=some (r1,r2):=H
    have A3:=Aside0.mk A30
    clear A30
    have HC4:=Aside0.mk H
    clear H
    obtain ⟨Ao5,co5,eo5⟩:=Kd.V_slice HO_0.out
    subst eo5
    go_upto_region 4 with (first|((with_reducible refine gate_callee (f:=71) rfl ?_);refine goesL_ (some 14) rfl rfl Tryd.func71 (by kernel_rfl) rfl #[.slice Ao5 x0_1.length co5] rfl (by (try simp only [List.map_toArray,List.map_cons,List.map_nil]);first|done|rfl|(simp only [List.length_drop,List.length_take];rfl)) ?_;(with_reducible refine (understudyref02_take.calls k1 _ _ x0_1 t239 t240 _ ?side1 ?side2 A3.out).mono ?_);(case side1 => repeat (first|exact (Kd.V_reads' HO_0.out).2.2|(with_reducible refine Kd.C_alloc ?_ _)|(with_reducible refine Kd.C_drewN ?_ _)|(with_reducible refine Kd.C_drew ?_)));(case side2 => exact (Kd.V_reads' HO_0.out).2.1);rintro e w' ⟨rfl,⟨nd,rfl⟩⟩;refine ⟨_,rfl,?_⟩))
    (try simp only [Act.put,List.setIfInBounds_toArray,List.set_cons_zero,List.set_cons_succ])
    go_cut [26] (fun v26 wc => ∃ (kq:Nat) (x26_3:Bool),v26=.bool x26_3∧Aside0 (understudyref02_Decode.j1 kq x0_1 x4_1 t239 t240 x26_3=some (r1,r2))∧Aside0 (kq≤k1)∧Aside0 (Kd.V (Kd.int .u8) 5 wc w.heap.size (fun k_ => (P0_ k_ ∨ w.heap.size≤k_)∧some k_ ≠ (u4:Value).ownBlock) (.slice Ao5 x0_1.length co5) x0_1)∧Aside0 (Kd.R (Kd.int .u8) 5 wc w.heap.size (fun k_ => (w.heap.size≤k_)) u4 x4_1)∧Aside0 (Below w.heap.size w wc))
    case first =>
     have H:=HC4.out
     clear HC4
     by_cases c6:t240=0
     ·rw [if_pos c6] at H
      have c6b0:(t240==0)=true:=beq_iff_eq.mpr c6
      have c6b1:(t240 != 0)=false:=bne_eq_false_iff_eq.mpr c6
      clear c6
      (first|rw [c6b0]|(simp only [i64_w,i32_w];rw [c6b0])|skip)
      have H':=Aside0.mk H
      clear H
      go_wp2
      go_meet
      case rel => exact ⟨_,(true),(by first|rfl|(simp;done)|(simp [*];done)),H',⟨by have:=HK1.out;first|omega|exact Nat.le_refl _⟩,⟨by (with_reducible repeat (first|apply Kd.V_alloc|apply Kd.V_drewN|apply Kd.V_drew));exact HO_0.out⟩,⟨by (with_reducible repeat (first|apply Kd.R_alloc|apply Kd.R_drewN|apply Kd.R_drew));exact HO_4.out⟩,⟨by repeat (first|(with_reducible first|exact HB.out|apply below_alloc|apply pw_below_drewN|apply below_drew1)|exact HB.out)⟩⟩
     ·rw [if_neg c6] at H
      have c6b0:(t240==0)=false:=beq_eq_false_iff_ne.mpr c6
      have c6b1:(t240 != 0)=true:=bne_iff_ne.mpr c6
      (first|rw [c6b0]|(simp only [i64_w,i32_w];rw [c6b0])|skip)
      by_cases c7:t239 ≥ 56320
      ·rw [if_pos c7] at H
       have c7b0:decide (56320≤t239)=true:=decide_eq_true c7
       clear c7
       have H':=Aside0.mk H
       clear H
       go_wp2
       go_meet
       case rel => exact ⟨_,(decide (t239≤57343)),(by first|rfl|(simp;done)|(simp [*];done)),H',⟨by have:=HK1.out;first|omega|exact Nat.le_refl _⟩,⟨by (with_reducible repeat (first|apply Kd.V_alloc|apply Kd.V_drewN|apply Kd.V_drew));exact HO_0.out⟩,⟨by (with_reducible repeat (first|apply Kd.R_alloc|apply Kd.R_drewN|apply Kd.R_drew));exact HO_4.out⟩,⟨by repeat (first|(with_reducible first|exact HB.out|apply below_alloc|apply pw_below_drewN|apply below_drew1)|exact HB.out)⟩⟩
      ·rw [if_neg c7] at H
       have c7b0:decide (56320≤t239)=false:=decide_eq_false c7
       clear c7
       have H':=Aside0.mk H
       clear H
       go_wp2
       go_meet
       case rel => exact ⟨_,(false),(by first|rfl|(simp;done)|(simp [*];done)),H',⟨by have:=HK1.out;first|omega|exact Nat.le_refl _⟩,⟨by (with_reducible repeat (first|apply Kd.V_alloc|apply Kd.V_drewN|apply Kd.V_drew));exact HO_0.out⟩,⟨by (with_reducible repeat (first|apply Kd.R_alloc|apply Kd.R_drewN|apply Kd.R_drew));exact HO_4.out⟩,⟨by repeat (first|(with_reducible first|exact HB.out|apply below_alloc|apply pw_below_drewN|apply below_drew1)|exact HB.out)⟩⟩
    case rest =>
     clear HC4
     try clear c2;try clear c2b0;try clear c2b1;try clear p2;try clear c6;try clear c6b0;try clear c6b1;try clear c7;try clear c7b0
     obtain ⟨kq,x26_3,rfl,HA,HJ3,HO_0,HO_4,HB⟩:=hcut
     cases kq with
     | zero => exact absurd HA.out (by simp [understudyref02_Decode.j1])
     | succ kj3 =>
      have H:=HA.out
      clear HA
      simp only [understudyref02_Decode.j1] at H
      by_cases c8:x26_3=true
      ·subst c8
       have H1:(some ((⟨#[]⟩:ByteArray),20))=some (r1,r2):=by rw [if_pos rfl] at H;exact H
       clear H
       have H:=H1
       clear H1
       simp only [Option.some.injEq,Prod.mk.injEq] at H
       obtain ⟨rfl,rfl⟩:=H
       go_wp2
       go_ret2
       exact ⟨by first|rfl|(simp [errW_none,errW_some] <;> rfl)|(simp [*,errW_none,errW_some] <;> rfl),by repeat (first|(with_reducible first|exact HB.out|apply below_alloc|apply pw_below_drewN|apply below_drew1)|exact HB.out)⟩
      ·replace c8:=Bool.eq_false_iff.mpr c8
       subst c8
       have H1:(if 0≤t240 then (if t240≤(x0_1.length:Int) then ((some (x0_1.drop (t240:Int).toNat:List Int)).bind fun y241 => (if t239 < 55296 then (understudyref02_Decode.j2 kj3 y241 x4_1 t239 true) else (understudyref02_Decode.j2 kj3 y241 x4_1 t239 (decide (t239 > 56319))))) else (none)) else (none))=some (r1,r2):=by rw [if_neg (show ¬ (false=true) by decide)] at H;exact H
       clear H
       have H:=H1
       clear H1
       by_cases c9:0≤t240
       ·rw [if_pos c9] at H
        have c9b0:=eq_true c9
        have c9b1:decide (0≤t240)=true:=decide_eq_true c9
        clear c9
        by_cases c10:t240≤(x0_1.length:Int)
        ·rw [if_pos c10] at H
         have c10b0:=eq_true c10
         have c10b1:decide (t240≤(x0_1.length:Int))=true:=decide_eq_true c10
         clear c10
         obtain ⟨y241,hy241⟩:∃ y_:List Int,y_=(x0_1.drop (t240:Int).toNat):=⟨_,rfl⟩
         replace H:(if t239 < 55296 then (understudyref02_Decode.j2 kj3 y241 x4_1 t239 true) else (understudyref02_Decode.j2 kj3 y241 x4_1 t239 (decide (t239 > 56319))))=some (r1,r2):=by first|(rw [hy241];with_reducible exact H)|(have H2_:=(Option.bind_some _ _).symm.trans H;rw [hy241];with_reducible exact H2_)|(have H2_:=(Option.bind_some _ _).symm.trans H;with_reducible exact H2_)|with_reducible exact H|(rw [hy241];exact H)|exact H
         have Ny241:=Aside0.mk hy241
         clear hy241
         have HC11:=Aside0.mk H
         clear H
         have q12:(t240:Int)≤((x0_1.length:Int):Int):=of_decide_eq_true (by first|(with_reducible assumption)|assumption)
         obtain ⟨i012,hi012,_,hsz12,_⟩:=info_parts info5
         have hroom12:x0_1.length≤co5:=(Kd.V_reads' HO_0.out).2.1
         have hC12:Kd.F (Kd.int .u8) _ _ Ao5 x0_1.length x0_1:=(Kd.V_at (base:=w.heap.size) HO_0.out).2.2
         have q012:(0:Int)≤(t240:Int):=of_decide_eq_true (by first|(with_reducible assumption)|assumption)
         have hcut12:=cut_from (P:=Tryd.prog) 34 5 .i64 Tryd.underlying34 hi012 1 hsz12 Ao5 x0_1.length co5 t240 q012 q12
         have hr12:=Kd.F_cut (m:=(t240:Int).toNat) (c:=co5) hC12 (by omega) hroom12
         obtain ⟨A12,hA12⟩:∃ A1,A1=(if co5=(t240:Int).toNat then Ao5 else (Ao5:Option Addr).map (·.add ((t240:Int).toNat * 1))):=⟨_,rfl⟩
         obtain ⟨c12,hc12⟩:∃ c1,c1=co5 - (t240:Int).toNat:=⟨_,rfl⟩
         have hy12:y241.length=x0_1.length - (t240:Int).toNat:=(by rw [Ny241.out,List.length_drop] <;> omega)
         rw [show (x0_1).drop (t240:Int).toNat=y241 from Ny241.out.symm] at hr12
         replace hr12:Kd.F (Kd.int .u8) _ _ A12 y241.length y241:=(by rw [hA12];exact hr12)
         rw [← hy12,← hA12,← hc12] at hcut12
         have HO245:=Aside0.mk (show Kd.V (Kd.int .u8) 5 _ w.heap.size _ (.slice A12 y241.length c12) y241 from Kd.V_mk (by rw [hy12,hc12];exact Nat.sub_le_sub_right hroom12 _) hr12)
         have HC245:=Aside0.mk (show y241.length≤c12 from by rw [hy12,hc12];exact Nat.sub_le_sub_right hroom12 _)
         clear hr12 hC12 hroom12 hi012 hsz12 hc12
         have KY12:=Aside0.mk hy12
         have KA12:=Aside0.mk hA12
         clear hy12 hA12
         replace q12:=eq_true q12
         go_upto_region 7 with (fail)
         go_cut [35] (fun v35 wc => ∃ (kq:Nat) (x35_10:Bool),v35=.bool x35_10∧Aside0 (understudyref02_Decode.j2 kq y241 x4_1 t239 x35_10=some (r1,r2))∧Aside0 (kq≤kj3)∧Aside0 (Kd.V (Kd.int .u8) 5 wc w.heap.size (fun k_ => (P0_ k_ ∨ w.heap.size≤k_)∧some k_ ≠ (u4:Value).ownBlock) (.slice A12 y241.length c12) y241)∧Aside0 (Kd.R (Kd.int .u8) 5 wc w.heap.size (fun k_ => (w.heap.size≤k_)) u4 x4_1)∧Aside0 (Below w.heap.size w wc))
         case first =>
          have H:=HC11.out
          clear HC11
          by_cases c13:t239 < 55296
          ·rw [if_pos c13] at H
           have c13b0:decide (t239 < 55296)=true:=decide_eq_true c13
           clear c13
           (first|rw [c13b0]|(simp only [i64_w,i32_w];rw [c13b0])|skip)
           have H':=Aside0.mk H
           clear H
           go_wp2
           go_meet
           case rel => exact ⟨_,(true),(by first|rfl|(simp;done)|(simp [*];done)),H',⟨by have:=HK1.out;have:=HJ3.out;first|omega|exact Nat.le_refl _⟩,⟨by (with_reducible repeat (first|apply Kd.V_alloc|apply Kd.V_drewN|apply Kd.V_drew));exact HO245.out⟩,⟨by (with_reducible repeat (first|apply Kd.R_alloc|apply Kd.R_drewN|apply Kd.R_drew));exact HO_4.out⟩,⟨by repeat (first|(with_reducible first|exact HB.out|apply below_alloc|apply pw_below_drewN|apply below_drew1)|exact HB.out)⟩⟩
          ·rw [if_neg c13] at H
           have c13b0:decide (t239 < 55296)=false:=decide_eq_false c13
           clear c13
           (first|rw [c13b0]|(simp only [i64_w,i32_w];rw [c13b0])|skip)
           have H':=Aside0.mk H
           clear H
           go_wp2
           go_meet
           case rel => exact ⟨_,(decide (t239 > 56319)),(by first|rfl|(simp;done)|(simp [*];done)),H',⟨by have:=HK1.out;have:=HJ3.out;first|omega|exact Nat.le_refl _⟩,⟨by (with_reducible repeat (first|apply Kd.V_alloc|apply Kd.V_drewN|apply Kd.V_drew));exact HO245.out⟩,⟨by (with_reducible repeat (first|apply Kd.R_alloc|apply Kd.R_drewN|apply Kd.R_drew));exact HO_4.out⟩,⟨by repeat (first|(with_reducible first|exact HB.out|apply below_alloc|apply pw_below_drewN|apply below_drew1)|exact HB.out)⟩⟩
         case rest =>
          clear HC11
          try clear c1;try clear q1;try clear c2;try clear c2b0;try clear c2b1;try clear p2;try clear c6;try clear c6b0;try clear c6b1;try clear c7;try clear c7b0;try clear c8;try clear c9;try clear c9b0;try clear c9b1;try clear c10;try clear c10b0;try clear c10b1;try clear c12;try clear q12;try clear c13;try clear c13b0;try clear p2;try clear q012;try clear q12
          obtain ⟨kq,x35_10,rfl,HA,HJ10,HO_0,HO_4,HB⟩:=hcut
          cases kq with
          | zero => exact absurd HA.out (by simp [understudyref02_Decode.j2])
          | succ kj10 =>
           have H:=HA.out
           clear HA
           simp only [understudyref02_Decode.j2] at H
           by_cases c14:x35_10=true
           ·subst c14
            have H1:((understudyref02_utf8.f t239).bind fun t246 => (if x4_1.length + t246.length < 140737488355328 then (understudyref02_Decode.l0 kj10 y241 (x4_1++t246)) else (none)))=some (r1,r2):=by rw [if_pos rfl] at H;exact H
            clear H
            have H:=H1
            clear H1
            replace H:=Option.bind_eq_some_iff.mp H
            obtain ⟨t246,A150,H⟩:=H
            replace H:(if x4_1.length + t246.length < 140737488355328 then (understudyref02_Decode.l0 kj10 y241 (x4_1++t246)) else (none))=some (r1,r2):=H
            have A15:=Aside0.mk A150
            clear A150
            by_cases c16:x4_1.length + t246.length < 140737488355328
            ·rw [if_pos c16] at H
             have LMc16:=Aside0.mk c16
             clear c16
             obtain ⟨y249,hy249⟩:∃ y_:List Int,y_=(x4_1++t246):=⟨_,rfl⟩
             replace H:(understudyref02_Decode.l0 kj10 y241 y249)=some (r1,r2):=by first|(rw [hy249];with_reducible exact H)|(have H2_:=(Option.bind_some _ _).symm.trans H;rw [hy249];with_reducible exact H2_)|(have H2_:=(Option.bind_some _ _).symm.trans H;with_reducible exact H2_)|with_reducible exact H|(rw [hy249];exact H)|exact H
             have Ny249:=Aside0.mk hy249
             clear hy249
             have H':=Aside0.mk H
             clear H
             go_wp2_with (first|((with_reducible refine gate_callee (f:=72) rfl ?_);refine goesL_ (some 38) rfl rfl Tryd.func72 (by kernel_rfl) rfl #[.int .i64 t239] rfl (by (try simp only [List.map_toArray,List.map_cons,List.map_nil]);first|done|rfl|(simp only [List.length_drop,List.length_take];rfl)) ?_;(with_reducible refine (understudyref02_utf8.calls t239 t246 _ A15.out).mono ?_);rintro e w17 ⟨v247,rfl,ho0,hb⟩;refine ⟨_,rfl,?_⟩;have n0_:=Aside0.mk (Kd.V_elder' (by (with_reducible repeat (first|apply Kd.V_alloc|apply Kd.V_drewN|apply Kd.V_drew));exact HO_0.out) (Kd.R_base ho0) hb);have n1_:=Aside0.mk (Kd.R_elder' (by (with_reducible repeat (first|apply Kd.R_alloc|apply Kd.R_drewN|apply Kd.R_drew));exact HO_4.out) (Kd.R_base ho0) hb);have n2_:=Aside0.mk (Kd.R_lower (Kd.R_new' (Kd.R_newM (M:=fun k_ => (w.heap.size≤k_)) ho0 (below_size (by repeat (first|(with_reducible first|exact HB.out|apply below_alloc|apply pw_below_drewN|apply below_drew1)|exact HB.out))) (fun k_ h_ => h_)) (Kd.R_lt (by (with_reducible repeat (first|apply Kd.R_alloc|apply Kd.R_drewN|apply Kd.R_drew));exact HO_4.out))) (below_size (by repeat (first|(with_reducible first|exact HB.out|apply below_alloc|apply pw_below_drewN|apply below_drew1)|exact HB.out))));have n3_:=Aside0.mk (below_step (by repeat (first|(with_reducible first|exact HB.out|apply below_alloc|apply pw_below_drewN|apply below_drew1)|exact HB.out)) hb);clear HO_0;clear HO_4;clear HB;have HO_0:=n0_;have HO_4:=n1_;have HO248:=n2_;have HB:=n3_;clear n0_ n1_ n2_ n3_;(try clear hb);(try clear hb2);(try clear hk);(try clear hi);(try clear ho0);obtain ⟨Ao19,co19,eo19⟩:=Kd.R_slice HO248.out;subst eo19)|((with_reducible refine gate_builtin (b:=.append) (xs:=#[.tmp 36,.tmp 38]) rfl ?_);at_builtin;refine Kd.R_append_rows (Kd.int .u8) (w0:=w) w.heap.size rfl (.tmp 36) (.tmp 38) 34 5 (.int .u8 0) 1 rfl Tryd.underlying34 info5 rfl (by decide) (by omega) u4 x4_1 t246 _ _ _ (fun k_ => (w.heap.size≤k_)∧some k_ ≠ (.slice Ao19 t246.length co19:Value).ownBlock) (fun _ => False) rfl rfl ?aO ?aR (fun _ _ h => h) (fun _ h => h.elim) ?aF ?aB ?aS ?aL ?_;(case aR => repeat (first|exact (Kd.R_reads' HO248.out).2.2|(with_reducible refine Kd.C_alloc ?_ _)|(with_reducible refine Kd.C_drewN ?_ _)|(with_reducible refine Kd.C_drew ?_)));(case aB => exact (by repeat (first|(with_reducible first|exact HB.out|apply below_alloc|apply pw_below_drewN|apply below_drew1)|exact HB.out)));(case aF => exact (fun k_ hk => ⟨(Nat.le_trans (below_size (by repeat (first|(with_reducible first|exact HB.out|apply below_alloc|apply pw_below_drewN|apply below_drew1)|exact HB.out))) hk),Kd.fresh' (Kd.R_lt (by (with_reducible repeat (first|apply Kd.R_alloc|apply Kd.R_drewN|apply Kd.R_drew));exact HO248.out)) k_ hk⟩));(case aO => exact (by (with_reducible repeat (first|apply Kd.R_alloc|apply Kd.R_drewN|apply Kd.R_drew));exact HO_4.out));(case aS => exact (below_size (by repeat (first|(with_reducible first|exact HB.out|apply below_alloc|apply pw_below_drewN|apply below_drew1)|exact HB.out))));(case aL => have:=LMc16.out;omega);intro v250 w18 ho hb hg hat;rw [← Ny249.out] at ho;have n0_:=Aside0.mk (Kd.V_afterv (ok:=(fun k_ => (P0_ k_ ∨ w.heap.size≤k_)∧some k_ ≠ (.slice Ao19 t246.length co19:Value).ownBlock)) (by (with_reducible repeat (first|apply Kd.V_alloc|apply Kd.V_drewN|apply Kd.V_drew));exact Kd.V_mono HO_0.out (fun _ hk => ⟨⟨hk.1.1,hk.2⟩,hk.1.2⟩)) hg hat);have n1_:=Aside0.mk (Kd.R_after (ok:=(fun k_ => (w.heap.size≤k_))) (by (with_reducible repeat (first|apply Kd.R_alloc|apply Kd.R_drewN|apply Kd.R_drew));exact Kd.R_mono HO248.out (fun _ hk => ⟨hk.1.1,hk.2⟩)) hg hat);have n2_:=Aside0.mk (hb);have n3_:=Aside0.mk (ho);clear HO_0;clear HO248;clear HB;clear HO_4;have HO_0:=n0_;have HO248:=n1_;have HB:=n2_;have HO251:=n3_;clear n0_ n1_ n2_ n3_;clear ho hb hg hat))
             go_roundg kj10
             case measure => have:=HK1.out;have:=HJ3.out;have:=HJ10.out;omega
             case rel => exact ⟨(y241),(y249),H',⟨by have:=HK1.out;have:=HJ3.out;have:=HJ10.out;omega⟩,⟨by (with_reducible repeat (first|apply Kd.V_alloc|apply Kd.V_drewN|apply Kd.V_drew));exact Kd.V_mono HO_0.out (fun _ hk => ⟨hk.1.1,hk.2⟩)⟩,⟨by (with_reducible repeat (first|apply Kd.R_alloc|apply Kd.R_drewN|apply Kd.R_drew));exact Kd.R_mono HO251.out (fun _ hk => hk.1)⟩,⟨by repeat (first|(with_reducible first|exact HB.out|apply below_alloc|apply pw_below_drewN|apply below_drew1)|exact HB.out)⟩⟩
            ·rw [if_neg c16] at H
             exact absurd H (by simp)
           ·replace c14:=Bool.eq_false_iff.mpr c14
            subst c14
            have H1:(if (y241.length:Int)=0 then (some ((⟨#[]⟩:ByteArray),20)) else ((understudyref02_take.f kj10 y241).bind fun bt252 => (if bt252.2=0 then (some ((⟨#[]⟩:ByteArray),20)) else (if bt252.1 < 56320 then (some ((⟨#[]⟩:ByteArray),20)) else (if bt252.1 > 57343 then (some ((⟨#[]⟩:ByteArray),20)) else (if 0≤bt252.2 then (if bt252.2≤(y241.length:Int) then ((understudyref02_utf8.f (wrap64 ((wrap64 ((wrap64 (65536 + (wrap64 ((wrap64 (t239 - 55296)) * 1024)))) + bt252.1)) - 56320))).bind fun t259 => (if x4_1.length + t259.length < 140737488355328 then (understudyref02_Decode.l0 kj10 (y241.drop (bt252.2:Int).toNat) (x4_1++t259)) else (none))) else (none)) else (none)))))))=some (r1,r2):=by rw [if_neg (show ¬ (false=true) by decide)] at H;exact H
            clear H
            have H:=H1
            clear H1
            by_cases c20:(y241.length:Int)=0
            ·rw [if_pos c20] at H
             have c20b0:((y241.length:Int)==0)=true:=beq_iff_eq.mpr c20
             have c20b1:((y241.length:Int) != 0)=false:=bne_eq_false_iff_eq.mpr c20
             clear c20
             simp only [Option.some.injEq,Prod.mk.injEq] at H
             obtain ⟨rfl,rfl⟩:=H
             go_wp2
             go_ret2
             exact ⟨by first|rfl|(simp [errW_none,errW_some] <;> rfl)|(simp [*,errW_none,errW_some] <;> rfl),by repeat (first|(with_reducible first|exact HB.out|apply below_alloc|apply pw_below_drewN|apply below_drew1)|exact HB.out)⟩
            ·rw [if_neg c20] at H
             have c20b0:((y241.length:Int)==0)=false:=beq_eq_false_iff_ne.mpr c20
             have c20b1:((y241.length:Int) != 0)=true:=bne_iff_ne.mpr c20
             have c20b2:¬ (y241=[]):=fun h_ => c20 (by rw [h_];rfl)
             replace H:=Option.bind_eq_some_iff.mp H
             obtain ⟨⟨t252,t253⟩,A210,H⟩:=H
             replace H:(if t253=0 then (some ((⟨#[]⟩:ByteArray),20)) else (if t252 < 56320 then (some ((⟨#[]⟩:ByteArray),20)) else (if t252 > 57343 then (some ((⟨#[]⟩:ByteArray),20)) else (if 0≤t253 then (if t253≤(y241.length:Int) then ((understudyref02_utf8.f (wrap64 ((wrap64 ((wrap64 (65536 + (wrap64 ((wrap64 (t239 - 55296)) * 1024)))) + t252)) - 56320))).bind fun t259 => (if x4_1.length + t259.length < 140737488355328 then (understudyref02_Decode.l0 kj10 (y241.drop (t253:Int).toNat) (x4_1++t259)) else (none))) else (none)) else (none)))))=some (r1,r2):=H
             have A21:=Aside0.mk A210
             clear A210
             by_cases c22:t253=0
             ·rw [if_pos c22] at H
              have c22b0:(t253==0)=true:=beq_iff_eq.mpr c22
              have c22b1:(t253 != 0)=false:=bne_eq_false_iff_eq.mpr c22
              clear c22
              simp only [Option.some.injEq,Prod.mk.injEq] at H
              obtain ⟨rfl,rfl⟩:=H
              go_wp2_with (first|((with_reducible refine gate_callee (f:=71) rfl ?_);refine goesL_ (some 45) rfl rfl Tryd.func71 (by kernel_rfl) rfl #[.slice A12 y241.length c12] rfl (by (try simp only [List.map_toArray,List.map_cons,List.map_nil]);first|done|rfl|(simp only [List.length_drop,List.length_take];rfl)) ?_;(with_reducible refine (understudyref02_take.calls kj10 _ _ y241 t252 t253 _ ?side1 ?side2 A21.out).mono ?_);(case side1 => repeat (first|exact (Kd.V_reads' HO_0.out).2.2|(with_reducible refine Kd.C_alloc ?_ _)|(with_reducible refine Kd.C_drewN ?_ _)|(with_reducible refine Kd.C_drew ?_)));(case side2 => exact (Kd.V_reads' HO_0.out).2.1);rintro e w' ⟨rfl,⟨nd,rfl⟩⟩;refine ⟨_,rfl,?_⟩))
              go_ret2
              exact ⟨by first|rfl|(simp [errW_none,errW_some] <;> rfl)|(simp [*,errW_none,errW_some] <;> rfl),by repeat (first|(with_reducible first|exact HB.out|apply below_alloc|apply pw_below_drewN|apply below_drew1)|exact HB.out)⟩
             ·rw [if_neg c22] at H
              have c22b0:(t253==0)=false:=beq_eq_false_iff_ne.mpr c22
              have c22b1:(t253 != 0)=true:=bne_iff_ne.mpr c22
              by_cases c23:t252 < 56320
              ·rw [if_pos c23] at H
               have c23b0:decide (t252 < 56320)=true:=decide_eq_true c23
               clear c23
               simp only [Option.some.injEq,Prod.mk.injEq] at H
               obtain ⟨rfl,rfl⟩:=H
               go_wp2_with (first|((with_reducible refine gate_callee (f:=71) rfl ?_);refine goesL_ (some 45) rfl rfl Tryd.func71 (by kernel_rfl) rfl #[.slice A12 y241.length c12] rfl (by (try simp only [List.map_toArray,List.map_cons,List.map_nil]);first|done|rfl|(simp only [List.length_drop,List.length_take];rfl)) ?_;(with_reducible refine (understudyref02_take.calls kj10 _ _ y241 t252 t253 _ ?side1 ?side2 A21.out).mono ?_);(case side1 => repeat (first|exact (Kd.V_reads' HO_0.out).2.2|(with_reducible refine Kd.C_alloc ?_ _)|(with_reducible refine Kd.C_drewN ?_ _)|(with_reducible refine Kd.C_drew ?_)));(case side2 => exact (Kd.V_reads' HO_0.out).2.1);rintro e w' ⟨rfl,⟨nd,rfl⟩⟩;refine ⟨_,rfl,?_⟩))
               go_ret2
               exact ⟨by first|rfl|(simp [errW_none,errW_some] <;> rfl)|(simp [*,errW_none,errW_some] <;> rfl),by repeat (first|(with_reducible first|exact HB.out|apply below_alloc|apply pw_below_drewN|apply below_drew1)|exact HB.out)⟩
              ·rw [if_neg c23] at H
               have c23b0:decide (t252 < 56320)=false:=decide_eq_false c23
               clear c23
               by_cases c24:t252 > 57343
               ·rw [if_pos c24] at H
                have c24b0:decide (57343 < t252)=true:=decide_eq_true c24
                clear c24
                simp only [Option.some.injEq,Prod.mk.injEq] at H
                obtain ⟨rfl,rfl⟩:=H
                go_wp2_with (first|((with_reducible refine gate_callee (f:=71) rfl ?_);refine goesL_ (some 45) rfl rfl Tryd.func71 (by kernel_rfl) rfl #[.slice A12 y241.length c12] rfl (by (try simp only [List.map_toArray,List.map_cons,List.map_nil]);first|done|rfl|(simp only [List.length_drop,List.length_take];rfl)) ?_;(with_reducible refine (understudyref02_take.calls kj10 _ _ y241 t252 t253 _ ?side1 ?side2 A21.out).mono ?_);(case side1 => repeat (first|exact (Kd.V_reads' HO_0.out).2.2|(with_reducible refine Kd.C_alloc ?_ _)|(with_reducible refine Kd.C_drewN ?_ _)|(with_reducible refine Kd.C_drew ?_)));(case side2 => exact (Kd.V_reads' HO_0.out).2.1);rintro e w' ⟨rfl,⟨nd,rfl⟩⟩;refine ⟨_,rfl,?_⟩))
                go_ret2
                exact ⟨by first|rfl|(simp [errW_none,errW_some] <;> rfl)|(simp [*,errW_none,errW_some] <;> rfl),by repeat (first|(with_reducible first|exact HB.out|apply below_alloc|apply pw_below_drewN|apply below_drew1)|exact HB.out)⟩
               ·rw [if_neg c24] at H
                have c24b0:decide (57343 < t252)=false:=decide_eq_false c24
                clear c24
                by_cases c25:0≤t253
                ·rw [if_pos c25] at H
                 have c25b0:=eq_true c25
                 have c25b1:decide (0≤t253)=true:=decide_eq_true c25
                 clear c25
                 by_cases c26:t253≤(y241.length:Int)
                 ·rw [if_pos c26] at H
                  have c26b0:=eq_true c26
                  have c26b1:decide (t253≤(y241.length:Int))=true:=decide_eq_true c26
                  clear c26
                  obtain ⟨y254,hy254⟩:∃ y_:List Int,y_=(y241.drop (t253:Int).toNat):=⟨_,rfl⟩
                  replace H:((understudyref02_utf8.f (wrap64 ((wrap64 ((wrap64 (65536 + (wrap64 ((wrap64 (t239 - 55296)) * 1024)))) + t252)) - 56320))).bind fun t259 => (if x4_1.length + t259.length < 140737488355328 then (understudyref02_Decode.l0 kj10 y254 (x4_1++t259)) else (none)))=some (r1,r2):=by first|(rw [hy254];with_reducible exact H)|(have H2_:=(Option.bind_some _ _).symm.trans H;rw [hy254];with_reducible exact H2_)|(have H2_:=(Option.bind_some _ _).symm.trans H;with_reducible exact H2_)|with_reducible exact H|(rw [hy254];exact H)|exact H
                  have Ny254:=Aside0.mk hy254
                  clear hy254
                  replace H:=Option.bind_eq_some_iff.mp H
                  obtain ⟨t259,A270,H⟩:=H
                  replace H:(if x4_1.length + t259.length < 140737488355328 then (understudyref02_Decode.l0 kj10 y254 (x4_1++t259)) else (none))=some (r1,r2):=H
                  have A27:=Aside0.mk A270
                  clear A270
                  by_cases c28:x4_1.length + t259.length < 140737488355328
                  ·rw [if_pos c28] at H
                   have LMc28:=Aside0.mk c28
                   clear c28
                   obtain ⟨y262,hy262⟩:∃ y_:List Int,y_=(x4_1++t259):=⟨_,rfl⟩
                   replace H:(understudyref02_Decode.l0 kj10 y254 y262)=some (r1,r2):=by first|(rw [hy262];with_reducible exact H)|(have H2_:=(Option.bind_some _ _).symm.trans H;rw [hy262];with_reducible exact H2_)|(have H2_:=(Option.bind_some _ _).symm.trans H;with_reducible exact H2_)|with_reducible exact H|(rw [hy262];exact H)|exact H
                   have Ny262:=Aside0.mk hy262
                   clear hy262
                   have H':=Aside0.mk H
                   clear H
                   go_wp2_with (first|((with_reducible refine gate_callee (f:=71) rfl ?_);refine goesL_ (some 45) rfl rfl Tryd.func71 (by kernel_rfl) rfl #[.slice A12 y241.length c12] rfl (by (try simp only [List.map_toArray,List.map_cons,List.map_nil]);first|done|rfl|(simp only [List.length_drop,List.length_take];rfl)) ?_;(with_reducible refine (understudyref02_take.calls kj10 _ _ y241 t252 t253 _ ?side1 ?side2 A21.out).mono ?_);(case side1 => repeat (first|exact (Kd.V_reads' HO_0.out).2.2|(with_reducible refine Kd.C_alloc ?_ _)|(with_reducible refine Kd.C_drewN ?_ _)|(with_reducible refine Kd.C_drew ?_)));(case side2 => exact (Kd.V_reads' HO_0.out).2.1);rintro e w' ⟨rfl,⟨nd,rfl⟩⟩;refine ⟨_,rfl,?_⟩;have q29:(t253:Int)≤((y241.length:Int):Int):=of_decide_eq_true (by first|(with_reducible assumption)|assumption);obtain ⟨i029,hi029,_,hsz29,_⟩:=info_parts info5;have hroom29:y241.length≤c12:=(Kd.V_reads' HO_0.out).2.1;have hC29:Kd.F (Kd.int .u8) _ _ A12 y241.length y241:=(Kd.V_at (base:=w.heap.size) HO_0.out).2.2;have q029:(0:Int)≤(t253:Int):=of_decide_eq_true (by first|(with_reducible assumption)|assumption);have hcut29:=cut_from (P:=Tryd.prog) 34 5 .i64 Tryd.underlying34 hi029 1 hsz29 A12 y241.length c12 t253 q029 q29;have hr29:=Kd.F_cut (m:=(t253:Int).toNat) (c:=c12) hC29 (by omega) hroom29;obtain ⟨A29,hA29⟩:∃ A1,A1=(if c12=(t253:Int).toNat then A12 else (A12:Option Addr).map (·.add ((t253:Int).toNat * 1))):=⟨_,rfl⟩;obtain ⟨c29,hc29⟩:∃ c1,c1=c12 - (t253:Int).toNat:=⟨_,rfl⟩;have hy29:y254.length=y241.length - (t253:Int).toNat:=(by rw [Ny254.out,List.length_drop] <;> omega);rw [show (y241).drop (t253:Int).toNat=y254 from Ny254.out.symm] at hr29;replace hr29:Kd.F (Kd.int .u8) _ _ A29 y254.length y254:=(by rw [hA29];exact hr29);rw [← hy29,← hA29,← hc29] at hcut29;have HO258:=Aside0.mk (show Kd.V (Kd.int .u8) 5 _ w.heap.size _ (.slice A29 y254.length c29) y254 from Kd.V_mk (by rw [hy29,hc29];exact Nat.sub_le_sub_right hroom29 _) hr29);have HC258:=Aside0.mk (show y254.length≤c29 from by rw [hy29,hc29];exact Nat.sub_le_sub_right hroom29 _);clear hr29 hC29 hroom29 hi029 hsz29 hc29;have KY29:=Aside0.mk hy29;have KA29:=Aside0.mk hA29;clear hy29 hA29;replace q29:=eq_true q29)|((with_reducible refine gate_callee (f:=72) rfl ?_);refine goesL_ (some 69) rfl rfl Tryd.func72 (by kernel_rfl) rfl #[.int .i64 (wrap64 ((wrap64 ((wrap64 (65536 + (wrap64 ((wrap64 (t239 - 55296)) * 1024)))) + t252)) - 56320))] rfl (by (try simp only [List.map_toArray,List.map_cons,List.map_nil]);first|done|rfl|(simp only [List.length_drop,List.length_take];rfl)) ?_;(with_reducible refine (understudyref02_utf8.calls (wrap64 ((wrap64 ((wrap64 (65536 + (wrap64 ((wrap64 (t239 - 55296)) * 1024)))) + t252)) - 56320)) t259 _ A27.out).mono ?_);rintro e w30 ⟨v260,rfl,ho0,hb⟩;refine ⟨_,rfl,?_⟩;have n0_:=Aside0.mk (Kd.V_elder' (by (with_reducible repeat (first|apply Kd.V_alloc|apply Kd.V_drewN|apply Kd.V_drew));exact HO_0.out) (Kd.R_base ho0) hb);have n1_:=Aside0.mk (Kd.R_elder' (by (with_reducible repeat (first|apply Kd.R_alloc|apply Kd.R_drewN|apply Kd.R_drew));exact HO_4.out) (Kd.R_base ho0) hb);have n2_:=Aside0.mk (Kd.V_elder' (by (with_reducible repeat (first|apply Kd.V_alloc|apply Kd.V_drewN|apply Kd.V_drew));exact HO258.out) (Kd.R_base ho0) hb);have n3_:=Aside0.mk (Kd.R_lower (Kd.R_new' (Kd.R_newM (M:=fun k_ => (w.heap.size≤k_)) ho0 (below_size (by repeat (first|(with_reducible first|exact HB.out|apply below_alloc|apply pw_below_drewN|apply below_drew1)|exact HB.out))) (fun k_ h_ => h_)) (Kd.R_lt (by (with_reducible repeat (first|apply Kd.R_alloc|apply Kd.R_drewN|apply Kd.R_drew));exact HO_4.out))) (below_size (by repeat (first|(with_reducible first|exact HB.out|apply below_alloc|apply pw_below_drewN|apply below_drew1)|exact HB.out))));have n4_:=Aside0.mk (below_step (by repeat (first|(with_reducible first|exact HB.out|apply below_alloc|apply pw_below_drewN|apply below_drew1)|exact HB.out)) hb);clear HO_0;clear HO_4;clear HO258;clear HB;have HO_0:=n0_;have HO_4:=n1_;have HO258:=n2_;have HO261:=n3_;have HB:=n4_;clear n0_ n1_ n2_ n3_ n4_;(try clear hb);(try clear hb2);(try clear hk);(try clear hi);(try clear ho0);obtain ⟨Ao32,co32,eo32⟩:=Kd.R_slice HO261.out;subst eo32)|((with_reducible refine gate_builtin (b:=.append) (xs:=#[.tmp 61,.tmp 69]) rfl ?_);at_builtin;refine Kd.R_append_rows (Kd.int .u8) (w0:=w) w.heap.size rfl (.tmp 61) (.tmp 69) 34 5 (.int .u8 0) 1 rfl Tryd.underlying34 info5 rfl (by decide) (by omega) u4 x4_1 t259 _ _ _ (fun k_ => (w.heap.size≤k_)∧some k_ ≠ (.slice Ao32 t259.length co32:Value).ownBlock) (fun _ => False) rfl rfl ?aO ?aR (fun _ _ h => h) (fun _ h => h.elim) ?aF ?aB ?aS ?aL ?_;(case aR => repeat (first|exact (Kd.R_reads' HO261.out).2.2|(with_reducible refine Kd.C_alloc ?_ _)|(with_reducible refine Kd.C_drewN ?_ _)|(with_reducible refine Kd.C_drew ?_)));(case aB => exact (by repeat (first|(with_reducible first|exact HB.out|apply below_alloc|apply pw_below_drewN|apply below_drew1)|exact HB.out)));(case aF => exact (fun k_ hk => ⟨(Nat.le_trans (below_size (by repeat (first|(with_reducible first|exact HB.out|apply below_alloc|apply pw_below_drewN|apply below_drew1)|exact HB.out))) hk),Kd.fresh' (Kd.R_lt (by (with_reducible repeat (first|apply Kd.R_alloc|apply Kd.R_drewN|apply Kd.R_drew));exact HO261.out)) k_ hk⟩));(case aO => exact (by (with_reducible repeat (first|apply Kd.R_alloc|apply Kd.R_drewN|apply Kd.R_drew));exact HO_4.out));(case aS => exact (below_size (by repeat (first|(with_reducible first|exact HB.out|apply below_alloc|apply pw_below_drewN|apply below_drew1)|exact HB.out))));(case aL => have:=LMc28.out;omega);intro v263 w31 ho hb hg hat;rw [← Ny262.out] at ho;have n0_:=Aside0.mk (Kd.V_afterv (ok:=(fun k_ => (P0_ k_ ∨ w.heap.size≤k_)∧some k_ ≠ (.slice Ao32 t259.length co32:Value).ownBlock)) (by (with_reducible repeat (first|apply Kd.V_alloc|apply Kd.V_drewN|apply Kd.V_drew));exact Kd.V_mono HO_0.out (fun _ hk => ⟨⟨hk.1.1,hk.2⟩,hk.1.2⟩)) hg hat);have n1_:=Aside0.mk (Kd.V_afterv (ok:=(fun k_ => (P0_ k_ ∨ w.heap.size≤k_)∧some k_ ≠ (.slice Ao32 t259.length co32:Value).ownBlock)) (by (with_reducible repeat (first|apply Kd.V_alloc|apply Kd.V_drewN|apply Kd.V_drew));exact Kd.V_mono HO258.out (fun _ hk => ⟨⟨hk.1.1,hk.2⟩,hk.1.2⟩)) hg hat);have n2_:=Aside0.mk (Kd.R_after (ok:=(fun k_ => (w.heap.size≤k_))) (by (with_reducible repeat (first|apply Kd.R_alloc|apply Kd.R_drewN|apply Kd.R_drew));exact Kd.R_mono HO261.out (fun _ hk => ⟨hk.1.1,hk.2⟩)) hg hat);have n3_:=Aside0.mk (hb);have n4_:=Aside0.mk (ho);clear HO_0;clear HO258;clear HO261;clear HB;clear HO_4;have HO_0:=n0_;have HO258:=n1_;have HO261:=n2_;have HB:=n3_;have HO264:=n4_;clear n0_ n1_ n2_ n3_ n4_;clear ho hb hg hat))
                   go_roundg kj10
                   case measure => have:=HK1.out;have:=HJ3.out;have:=HJ10.out;omega
                   case rel => exact ⟨(y254),(y262),H',⟨by have:=HK1.out;have:=HJ3.out;have:=HJ10.out;omega⟩,⟨by (with_reducible repeat (first|apply Kd.V_alloc|apply Kd.V_drewN|apply Kd.V_drew));exact Kd.V_mono HO258.out (fun _ hk => ⟨hk.1.1,hk.2⟩)⟩,⟨by (with_reducible repeat (first|apply Kd.R_alloc|apply Kd.R_drewN|apply Kd.R_drew));exact Kd.R_mono HO264.out (fun _ hk => hk.1)⟩,⟨by repeat (first|(with_reducible first|exact HB.out|apply below_alloc|apply pw_below_drewN|apply below_drew1)|exact HB.out)⟩⟩
                  ·rw [if_neg c28] at H
                   exact absurd H (by simp)
                 ·rw [if_neg c26] at H
                  exact absurd H (by simp)
                ·rw [if_neg c25] at H
                 exact absurd H (by simp)
        ·rw [if_neg c10] at H
         exact absurd H (by simp)
       ·rw [if_neg c9] at H
        exact absurd H (by simp)
   ·rw [if_neg c2] at H
    have c2b0:decide (0 < (x0_1.length:Int))=false:=decide_eq_false c2
    have c2b1:decide (0 < x0_1.length)=false:=decide_eq_false (by omega)
    clear c2
    simp only [Option.some.injEq,Prod.mk.injEq] at H
    obtain ⟨rfl,rfl⟩:=H
    obtain ⟨Ao33,co33,eo33⟩:=Kd.V_slice HO_0.out
    subst eo33
    have hcv34:=own_string (P:=Tryd.prog) Tryd.underlying34 Tryd.underlying5 Tryd.underlying9 (Kd.own_of_R HO_4.out)
    go_wp2
    go_ret2
    exact ⟨by first|rfl|(simp [errW_none,errW_some] <;> rfl)|(simp [*,errW_none,errW_some] <;> rfl),by repeat (first|(with_reducible first|exact HB.out|apply below_alloc|apply pw_below_drewN|apply below_drew1)|exact HB.out)⟩
end Go.Proofs.YtglnhkgodgjepaaDoor.Px
