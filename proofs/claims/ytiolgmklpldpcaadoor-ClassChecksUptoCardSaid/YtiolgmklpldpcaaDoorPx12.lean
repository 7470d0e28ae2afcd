-- short. By myprint.py (wip/tools), over the kit's print.
import Derived.Test.YtiolgmklpldpcaaDoorPx0
import Derived.Test.YtiolgmklpldpcaaDoorPx10
import Derived.Test.YtiolgmklpldpcaaDoorPx11
namespace Go.Proofs.YtiolgmklpldpcaaDoor.Px
open Go.RowKit Go.Proofs.YtiolgmklpldpcaaDoorW.PrintWords Go.Proofs.YtiolgmklpldpcaaDoorW.PrintLast Go.Proofs.YtiolgmklpldpcaaDoorW.PrintMore
attribute [local go_sem] max2_int min2_int max_two min_two max_three min_three max_four min_four
set_option linter.unusedVariables false
set_option linter.unusedSimpArgs false
/-! ### understudyref05_Check: function 5 -/
mutual
def understudyref05_Check.j0:Nat→Bool→List (S51)→Int→Int→List (S42)→List (S37)→Option (Int)
 | 0,_,_,_,_,_,_ => none
 | k + 1,x23,x248000,x248001,x248002,x248003,x248004 => if x23=true then (some 2) else (understudyref05_Check.l0 k 0 x248000 x248001 x248002 x248003 x248004)
def understudyref05_Check.l0:Nat→Int→List (S51)→Int→Int→List (S42)→List (S37)→Option (Int)
 | 0,_,_,_,_,_,_ => none
 | k + 1,x4,x248000,x248001,x248002,x248003,x248004 => if x4 < (x248004.length:Int) then (if 0≤x4 then (if (((rd_T37 x248004 x4).f6).length:Int) > 64 then (some 2) else (understudyref05_Check.l0 k (wrap64 (x4 + 1)) x248000 x248001 x248002 x248003 x248004)) else (none)) else ((understudyref05_cls.f x248000 x248001).bind fun t250 => (if t250=true then ((understudyref05_cls.f x248000 x248002).bind fun t251 => (understudyref05_Check.j2 k (!t251) x248000 x248001 x248002 x248003 x248004)) else (understudyref05_Check.j2 k true x248000 x248001 x248002 x248003 x248004)))
def understudyref05_Check.j2:Nat→Bool→List (S51)→Int→Int→List (S42)→List (S37)→Option (Int)
 | 0,_,_,_,_,_,_ => none
 | k + 1,x52,x248000,x248001,x248002,x248003,x248004 => if x52=true then (some 50) else (understudyref05_Check.l1 k 0 x248000 x248001 x248002 x248003 x248004)
def understudyref05_Check.l1:Nat→Int→List (S51)→Int→Int→List (S42)→List (S37)→Option (Int)
 | 0,_,_,_,_,_,_ => none
 | k + 1,x5,x248000,x248001,x248002,x248003,x248004 => if x5 < (x248003.length:Int) then (if 0≤x5 then (if ((rd_T42 x248003 x5).f0)=0 then ((understudyref05_utf.f x248000 ((rd_T42 x248003 x5).f1)).bind fun t254 => (if t254=true then ((understudyref05_utf.f x248000 ((rd_T42 x248003 x5).f2)).bind fun t255 => (understudyref05_Check.j4 k x5 (!t255) x248000 x248001 x248002 x248003 x248004)) else (understudyref05_Check.j4 k x5 true x248000 x248001 x248002 x248003 x248004))) else (if ((rd_T42 x248003 x5).f0)=8 then ((understudyref05_utf.f x248000 ((rd_T42 x248003 x5).f1)).bind fun t256 => (if t256=true then ((understudyref05_utf.f x248000 ((rd_T42 x248003 x5).f2)).bind fun t257 => (understudyref05_Check.j4 k x5 (!t257) x248000 x248001 x248002 x248003 x248004)) else (understudyref05_Check.j4 k x5 true x248000 x248001 x248002 x248003 x248004))) else (understudyref05_Check.j4 k x5 true x248000 x248001 x248002 x248003 x248004))) else (none)) else (understudyref05_Check.l2 k 0 x248000 x248001 x248002 x248003 x248004)
def understudyref05_Check.j4:Nat→Int→Bool→List (S51)→Int→Int→List (S42)→List (S37)→Option (Int)
 | 0,_,_,_,_,_,_,_ => none
 | k + 1,x5,x88,x248000,x248001,x248002,x248003,x248004 => if x88=true then (some 50) else (understudyref05_Check.l1 k (wrap64 (x5 + 1)) x248000 x248001 x248002 x248003 x248004)
def understudyref05_Check.l2:Nat→Int→List (S51)→Int→Int→List (S42)→List (S37)→Option (Int)
 | 0,_,_,_,_,_,_ => none
 | k + 1,x7,x248000,x248001,x248002,x248003,x248004 => if x7 < (x248004.length:Int) then (if 0≤x7 then ((understudyref05_method.f k x248000 ((rd_T37 x248004 x7).f0) ((rd_T37 x248004 x7).f1) ((rd_T37 x248004 x7).f2) ((rd_T37 x248004 x7).f3) ((rd_T37 x248004 x7).f4) ((rd_T37 x248004 x7).f5) ((rd_T37 x248004 x7).f6) ((rd_T37 x248004 x7).f7)).bind fun t259 => (if t259=true then (understudyref05_Check.l2 k (wrap64 (x7 + 1)) x248000 x248001 x248002 x248003 x248004) else (some 50))) else (none)) else (some 0)
end
def understudyref05_Check.f (k:Nat) (l0_0:List (S51)) (a0_1:Int) (a0_2:Int) (l0_3:List (S42)) (l0_4:List (S37)):Option (Int):=(understudyref04_Check.f k l0_0).bind fun t248 => (if t248=0 then (if (l0_3.length:Int) > 64 then (understudyref05_Check.j0 k true l0_0 a0_1 a0_2 l0_3 l0_4) else (understudyref05_Check.j0 k (decide ((l0_4.length:Int) > 64)) l0_0 a0_1 a0_2 l0_3 l0_4)) else (some t248))
theorem understudyref05_Check.mono_l:∀ k,(∀ y0 y1 y2 y3 y4 y5,LeO (understudyref05_Check.j0 k y0 y1 y2 y3 y4 y5) (understudyref05_Check.j0 (k + 1) y0 y1 y2 y3 y4 y5))∧(∀ y0 y1 y2 y3 y4 y5,LeO (understudyref05_Check.l0 k y0 y1 y2 y3 y4 y5) (understudyref05_Check.l0 (k + 1) y0 y1 y2 y3 y4 y5))∧(∀ y0 y1 y2 y3 y4 y5,LeO (understudyref05_Check.j2 k y0 y1 y2 y3 y4 y5) (understudyref05_Check.j2 (k + 1) y0 y1 y2 y3 y4 y5))∧(∀ y0 y1 y2 y3 y4 y5,LeO (understudyref05_Check.l1 k y0 y1 y2 y3 y4 y5) (understudyref05_Check.l1 (k + 1) y0 y1 y2 y3 y4 y5))∧(∀ y0 y1 y2 y3 y4 y5 y6,LeO (understudyref05_Check.j4 k y0 y1 y2 y3 y4 y5 y6) (understudyref05_Check.j4 (k + 1) y0 y1 y2 y3 y4 y5 y6))∧(∀ y0 y1 y2 y3 y4 y5,LeO (understudyref05_Check.l2 k y0 y1 y2 y3 y4 y5) (understudyref05_Check.l2 (k + 1) y0 y1 y2 y3 y4 y5))
 | 0 => ⟨fun _ _ _ _ _ _ r h => by simp [understudyref05_Check.j0] at h,fun _ _ _ _ _ _ r h => by simp [understudyref05_Check.l0] at h,fun _ _ _ _ _ _ r h => by simp [understudyref05_Check.j2] at h,fun _ _ _ _ _ _ r h => by simp [understudyref05_Check.l1] at h,fun _ _ _ _ _ _ _ r h => by simp [understudyref05_Check.j4] at h,fun _ _ _ _ _ _ r h => by simp [understudyref05_Check.l2] at h⟩
 | k + 1 => by
  obtain ⟨ih0,ih1,ih2,ih3,ih4,ih5⟩:=understudyref05_Check.mono_l k
  refine ⟨?_,?_,?_,?_,?_,?_⟩
  ·intro y0 y1 y2 y3 y4 y5
   unfold understudyref05_Check.j0
   repeat' first
   | (with_reducible exact ih0 _ _ _ _ _ _)
   | (with_reducible exact ih1 _ _ _ _ _ _)
   | (with_reducible exact ih2 _ _ _ _ _ _)
   | (with_reducible exact ih3 _ _ _ _ _ _)
   | (with_reducible exact ih4 _ _ _ _ _ _ _)
   | (with_reducible exact ih5 _ _ _ _ _ _)
   | (with_reducible exact understudyref04_Check.mono _ _)
   | (with_reducible exact understudyref05_method.mono _ _ _ _ _ _ _ _ _ _)
   | (with_reducible exact LeO.refl _)
   | (with_reducible exact LeO.none _)
   | (with_reducible refine LeO.ite ?_ ?_)
   | (with_reducible refine LeO.bind ?_ (fun _ => ?_))
   | exact ih0 _ _ _ _ _ _
   | exact ih1 _ _ _ _ _ _
   | exact ih2 _ _ _ _ _ _
   | exact ih3 _ _ _ _ _ _
   | exact ih4 _ _ _ _ _ _ _
   | exact ih5 _ _ _ _ _ _
   | exact understudyref04_Check.mono _ _
   | exact understudyref05_method.mono _ _ _ _ _ _ _ _ _ _
   | exact LeO.none _
   | refine LeO.ite ?_ ?_
   | refine LeO.bind ?_ (fun _ => ?_)
  ·intro y0 y1 y2 y3 y4 y5
   unfold understudyref05_Check.l0
   repeat' first
   | (with_reducible exact ih0 _ _ _ _ _ _)
   | (with_reducible exact ih1 _ _ _ _ _ _)
   | (with_reducible exact ih2 _ _ _ _ _ _)
   | (with_reducible exact ih3 _ _ _ _ _ _)
   | (with_reducible exact ih4 _ _ _ _ _ _ _)
   | (with_reducible exact ih5 _ _ _ _ _ _)
   | (with_reducible exact understudyref04_Check.mono _ _)
   | (with_reducible exact understudyref05_method.mono _ _ _ _ _ _ _ _ _ _)
   | (with_reducible exact LeO.refl _)
   | (with_reducible exact LeO.none _)
   | (with_reducible refine LeO.ite ?_ ?_)
   | (with_reducible refine LeO.bind ?_ (fun _ => ?_))
   | exact ih0 _ _ _ _ _ _
   | exact ih1 _ _ _ _ _ _
   | exact ih2 _ _ _ _ _ _
   | exact ih3 _ _ _ _ _ _
   | exact ih4 _ _ _ _ _ _ _
   | exact ih5 _ _ _ _ _ _
   | exact understudyref04_Check.mono _ _
   | exact understudyref05_method.mono _ _ _ _ _ _ _ _ _ _
   | exact LeO.none _
   | refine LeO.ite ?_ ?_
   | refine LeO.bind ?_ (fun _ => ?_)
  ·intro y0 y1 y2 y3 y4 y5
   unfold understudyref05_Check.j2
   repeat' first
   | (with_reducible exact ih0 _ _ _ _ _ _)
   | (with_reducible exact ih1 _ _ _ _ _ _)
   | (with_reducible exact ih2 _ _ _ _ _ _)
   | (with_reducible exact ih3 _ _ _ _ _ _)
   | (with_reducible exact ih4 _ _ _ _ _ _ _)
   | (with_reducible exact ih5 _ _ _ _ _ _)
   | (with_reducible exact understudyref04_Check.mono _ _)
   | (with_reducible exact understudyref05_method.mono _ _ _ _ _ _ _ _ _ _)
   | (with_reducible exact LeO.refl _)
   | (with_reducible exact LeO.none _)
   | (with_reducible refine LeO.ite ?_ ?_)
   | (with_reducible refine LeO.bind ?_ (fun _ => ?_))
   | exact ih0 _ _ _ _ _ _
   | exact ih1 _ _ _ _ _ _
   | exact ih2 _ _ _ _ _ _
   | exact ih3 _ _ _ _ _ _
   | exact ih4 _ _ _ _ _ _ _
   | exact ih5 _ _ _ _ _ _
   | exact understudyref04_Check.mono _ _
   | exact understudyref05_method.mono _ _ _ _ _ _ _ _ _ _
   | exact LeO.none _
   | refine LeO.ite ?_ ?_
   | refine LeO.bind ?_ (fun _ => ?_)
  ·intro y0 y1 y2 y3 y4 y5
   unfold understudyref05_Check.l1
   repeat' first
   | (with_reducible exact ih0 _ _ _ _ _ _)
   | (with_reducible exact ih1 _ _ _ _ _ _)
   | (with_reducible exact ih2 _ _ _ _ _ _)
   | (with_reducible exact ih3 _ _ _ _ _ _)
   | (with_reducible exact ih4 _ _ _ _ _ _ _)
   | (with_reducible exact ih5 _ _ _ _ _ _)
   | (with_reducible exact understudyref04_Check.mono _ _)
   | (with_reducible exact understudyref05_method.mono _ _ _ _ _ _ _ _ _ _)
   | (with_reducible exact LeO.refl _)
   | (with_reducible exact LeO.none _)
   | (with_reducible refine LeO.ite ?_ ?_)
   | (with_reducible refine LeO.bind ?_ (fun _ => ?_))
   | exact ih0 _ _ _ _ _ _
   | exact ih1 _ _ _ _ _ _
   | exact ih2 _ _ _ _ _ _
   | exact ih3 _ _ _ _ _ _
   | exact ih4 _ _ _ _ _ _ _
   | exact ih5 _ _ _ _ _ _
   | exact understudyref04_Check.mono _ _
   | exact understudyref05_method.mono _ _ _ _ _ _ _ _ _ _
   | exact LeO.none _
   | refine LeO.ite ?_ ?_
   | refine LeO.bind ?_ (fun _ => ?_)
  ·intro y0 y1 y2 y3 y4 y5 y6
   unfold understudyref05_Check.j4
   repeat' first
   | (with_reducible exact ih0 _ _ _ _ _ _)
   | (with_reducible exact ih1 _ _ _ _ _ _)
   | (with_reducible exact ih2 _ _ _ _ _ _)
   | (with_reducible exact ih3 _ _ _ _ _ _)
   | (with_reducible exact ih4 _ _ _ _ _ _ _)
   | (with_reducible exact ih5 _ _ _ _ _ _)
   | (with_reducible exact understudyref04_Check.mono _ _)
   | (with_reducible exact understudyref05_method.mono _ _ _ _ _ _ _ _ _ _)
   | (with_reducible exact LeO.refl _)
   | (with_reducible exact LeO.none _)
   | (with_reducible refine LeO.ite ?_ ?_)
   | (with_reducible refine LeO.bind ?_ (fun _ => ?_))
   | exact ih0 _ _ _ _ _ _
   | exact ih1 _ _ _ _ _ _
   | exact ih2 _ _ _ _ _ _
   | exact ih3 _ _ _ _ _ _
   | exact ih4 _ _ _ _ _ _ _
   | exact ih5 _ _ _ _ _ _
   | exact understudyref04_Check.mono _ _
   | exact understudyref05_method.mono _ _ _ _ _ _ _ _ _ _
   | exact LeO.none _
   | refine LeO.ite ?_ ?_
   | refine LeO.bind ?_ (fun _ => ?_)
  ·intro y0 y1 y2 y3 y4 y5
   unfold understudyref05_Check.l2
   repeat' first
   | (with_reducible exact ih0 _ _ _ _ _ _)
   | (with_reducible exact ih1 _ _ _ _ _ _)
   | (with_reducible exact ih2 _ _ _ _ _ _)
   | (with_reducible exact ih3 _ _ _ _ _ _)
   | (with_reducible exact ih4 _ _ _ _ _ _ _)
   | (with_reducible exact ih5 _ _ _ _ _ _)
   | (with_reducible exact understudyref04_Check.mono _ _)
   | (with_reducible exact understudyref05_method.mono _ _ _ _ _ _ _ _ _ _)
   | (with_reducible exact LeO.refl _)
   | (with_reducible exact LeO.none _)
   | (with_reducible refine LeO.ite ?_ ?_)
   | (with_reducible refine LeO.bind ?_ (fun _ => ?_))
   | exact ih0 _ _ _ _ _ _
   | exact ih1 _ _ _ _ _ _
   | exact ih2 _ _ _ _ _ _
   | exact ih3 _ _ _ _ _ _
   | exact ih4 _ _ _ _ _ _ _
   | exact ih5 _ _ _ _ _ _
   | exact understudyref04_Check.mono _ _
   | exact understudyref05_method.mono _ _ _ _ _ _ _ _ _ _
   | exact LeO.none _
   | refine LeO.ite ?_ ?_
   | refine LeO.bind ?_ (fun _ => ?_)
theorem understudyref05_Check.mono:∀ a0 a1 a2 a3 a4 k,LeO (understudyref05_Check.f k a0 a1 a2 a3 a4) (understudyref05_Check.f (k + 1) a0 a1 a2 a3 a4):=by
 intro a0 a1 a2 a3 a4 k
 obtain ⟨ih0,ih1,ih2,ih3,ih4,ih5⟩:=understudyref05_Check.mono_l k
 unfold understudyref05_Check.f
 repeat' first
   | (with_reducible exact ih0 _ _ _ _ _ _)
   | (with_reducible exact ih1 _ _ _ _ _ _)
   | (with_reducible exact ih2 _ _ _ _ _ _)
   | (with_reducible exact ih3 _ _ _ _ _ _)
   | (with_reducible exact ih4 _ _ _ _ _ _ _)
   | (with_reducible exact ih5 _ _ _ _ _ _)
   | (with_reducible exact understudyref04_Check.mono _ _)
   | (with_reducible exact understudyref05_method.mono _ _ _ _ _ _ _ _ _ _)
   | (with_reducible exact LeO.refl _)
   | (with_reducible exact LeO.none _)
   | (with_reducible refine LeO.ite ?_ ?_)
   | (with_reducible refine LeO.bind ?_ (fun _ => ?_))
   | exact ih0 _ _ _ _ _ _
   | exact ih1 _ _ _ _ _ _
   | exact ih2 _ _ _ _ _ _
   | exact ih3 _ _ _ _ _ _
   | exact ih4 _ _ _ _ _ _ _
   | exact ih5 _ _ _ _ _ _
   | exact understudyref04_Check.mono _ _
   | exact understudyref05_method.mono _ _ _ _ _ _ _ _ _ _
   | exact LeO.none _
   | refine LeO.ite ?_ ?_
   | refine LeO.bind ?_ (fun _ => ?_)
def understudyref05_Check.T22:Bool × List (List Nat × List Nat):=(true,[([],[]),([0],[0]),([],[]),([2],[2]),([],[]),([3,4],[3,4]),([5],[5]),([1,6],[1,6]),([7],[7])])
def understudyref05_Check.B22:List Nat:=[0,1,0,4,0,28,60,127,255]
theorem understudyref05_Check.tab22:rtab .any (opsOf Tryd.f5 22)=understudyref05_Check.T22:=by kernel_rfl
theorem understudyref05_Check.bits22:waitsOk understudyref05_Check.T22.2 understudyref05_Check.B22=true:=by kernel_rfl
set_option maxHeartbeats 80000000 in
set_option maxRecDepth 100000 in
theorem understudyref05_Check.calls (k:Nat) (A0_0:Option Addr) (c0_0:Nat) (l0_0:List (S51)) (a0_1:Int) (a0_2:Int) (A0_3:Option Addr) (c0_3:Nat) (l0_3:List (S42)) (A0_4:Option Addr) (c0_4:Nat) (l0_4:List (S37)) (r:Int) (w:World) (hr0_0:Kd.C k51 w A0_0 l0_0.length l0_0) (hc0_0:l0_0.length≤c0_0) (hr0_3:Kd.C k42 w A0_3 l0_3.length l0_3) (hc0_3:l0_3.length≤c0_3) (hr0_4:Kd.C k37 w A0_4 l0_4.length l0_4) (hc0_4:l0_4.length≤c0_4) (h:understudyref05_Check.f k l0_0 a0_1 a0_2 l0_3 l0_4=some r) :
  Calls Tryd.prog 5 #[.agg #[.slice A0_0 l0_0.length c0_0,.int .i64 a0_1,.int .i64 a0_2,.slice A0_3 l0_3.length c0_3,.slice A0_4 l0_4.length c0_4]] w fun e w' => e=.returned (.int .i64 r)∧Below w.heap.size w w':=by
 have hu26:=Tryd.underlying26
 have hu42:=Tryd.underlying42
 have hu37:=Tryd.underlying37
 have HR0_0:=Aside0.mk hr0_0
 have HC0_0:=Aside0.mk hc0_0
 clear hr0_0 hc0_0
 have HR0_3:=Aside0.mk hr0_3
 have HC0_3:=Aside0.mk hc0_3
 clear hr0_3 hc0_3
 have HR0_4:=Aside0.mk hr0_4
 have HC0_4:=Aside0.mk hc0_4
 clear hr0_4 hc0_4
 have HB:=Aside0.mk (Below.refl w.heap.size w)
 have H:((understudyref04_Check.f k l0_0).bind fun t248 => (if t248=0 then (if (l0_3.length:Int) > 64 then (understudyref05_Check.j0 k true l0_0 a0_1 a0_2 l0_3 l0_4) else (understudyref05_Check.j0 k (decide ((l0_4.length:Int) > 64)) l0_0 a0_1 a0_2 l0_3 l0_4)) else (some t248)))=some r:=h
 clear h
 replace H:=Option.bind_eq_some_iff.mp H
 obtain ⟨t248,A20,H⟩:=H
 replace H:(if t248=0 then (if (l0_3.length:Int) > 64 then (understudyref05_Check.j0 k true l0_0 a0_1 a0_2 l0_3 l0_4) else (understudyref05_Check.j0 k (decide ((l0_4.length:Int) > 64)) l0_0 a0_1 a0_2 l0_3 l0_4)) else (some t248))=some r:=H
 have A2:=Aside0.mk A20
 clear A20
 by_cases c3:t248=0
 ·rw [if_pos c3] at H
  have c3b0:(t248==0)=true:=beq_iff_eq.mpr c3
  have c3b1:(t248 != 0)=false:=bne_eq_false_iff_eq.mpr c3
  clear c3
  have HC4:=Aside0.mk H
  clear H
  go_enter Tryd.func5,Tryd.ntmps5
  go_upto_region 4 with (first|((with_reducible refine gate_dst (N:=1) rfl ?_);(try (refine gate_guard (by rfl) ?_;dsimp only));refine box_event ?hg (N:=1) ?hd (cs:=#[.slice A0_0 l0_0.length c0_0,.int .i64 a0_1,.int .i64 a0_2,.slice A0_3 l0_3.length c0_3,.slice A0_4 l0_4.length c0_4]) (t:=26) ?hr ?_;(case hd => rfl);(case hg => rfl);(case hr => first|(go_simp;done)|(go_simp;rfl));intro gb247 hg w5 hbox hb;have n0_:=Aside0.mk (below_step (by repeat (first|(with_reducible first|exact HB.out|apply below_alloc|apply pw_below_drewN|apply below_drew1)|exact HB.out)) hb);have n1_:=Aside0.mk (hbox);have n2_:=Aside0.mk ((by rw [hg];exact (below_size (by repeat (first|(with_reducible first|exact HB.out|apply below_alloc|apply pw_below_drewN|apply below_drew1)|exact HB.out))):w.heap.size≤gb247));have n3_:=Aside0.mk ((by rw [hg];exact (below_size (by repeat (first|(with_reducible first|exact HB.out|apply below_alloc|apply pw_below_drewN|apply below_drew1)|exact HB.out))):w.heap.size≤gb247));clear HB;have HB:=n0_;have BK247:=n1_;have GW247:=n2_;have GE247:=n3_;clear n0_ n1_ n2_ n3_;clear hb hbox hg;have hcz6_0:w5.cell? ⟨gb247,0,none⟩=some (.slice A0_0 l0_0.length c0_0):=(blk_cell BK247.out 0).trans rfl;have hcz6_1:w5.cell? ⟨gb247,1,none⟩=some (.int .i64 a0_1):=(blk_cell BK247.out 1).trans rfl;have hcz6_2:w5.cell? ⟨gb247,2,none⟩=some (.int .i64 a0_2):=(blk_cell BK247.out 2).trans rfl;have hcz6_3:w5.cell? ⟨gb247,3,none⟩=some (.slice A0_3 l0_3.length c0_3):=(blk_cell BK247.out 3).trans rfl;have hcz6_4:w5.cell? ⟨gb247,4,none⟩=some (.slice A0_4 l0_4.length c0_4):=(blk_cell BK247.out 4).trans rfl;have hfz6_0:=blk_frozen BK247.out 0;have hfz6_1:=blk_frozen BK247.out 1;have hfz6_2:=blk_frozen BK247.out 2;have hfz6_3:=blk_frozen BK247.out 3;have hfz6_4:=blk_frozen BK247.out 4)|((with_reducible refine gate_callee (f:=16) rfl ?_);refine goesL_ (some 10) rfl rfl Tryd.func16 (by kernel_rfl) rfl #[.slice A0_0 l0_0.length c0_0] rfl (by (try simp only [List.map_toArray,List.map_cons,List.map_nil]);first|done|rfl|(simp only [List.length_drop,List.length_take];rfl)) ?_;(with_reducible refine (understudyref04_Check.calls k _ _ l0_0 t248 _ ?side1 ?side2 A2.out).mono ?_);(case side1 => repeat (first|exact (Kd.C_below HR0_0.out HB.out)|(with_reducible refine Kd.C_alloc ?_ _)|(with_reducible refine Kd.C_drewN ?_ _)|(with_reducible refine Kd.C_drew ?_)));(case side2 => exact HC0_0.out);rintro e w7 ⟨rfl,hb⟩;refine ⟨_,rfl,?_⟩;have n0_:=Aside0.mk (blk_below (g:=gb247) (o:=.cells #[.slice A0_0 l0_0.length c0_0,.int .i64 a0_1,.int .i64 a0_2,.slice A0_3 l0_3.length c0_3,.slice A0_4 l0_4.length c0_4] 26 (0,0)) (by (with_reducible repeat (first|refine blk_drewN ?_ _|refine blk_drew ?_|refine blk_alloc ?_ _));exact BK247.out) hb);have n1_:=Aside0.mk (below_step (by repeat (first|(with_reducible first|exact HB.out|apply below_alloc|apply pw_below_drewN|apply below_drew1|refine below_set ?_ GE247.out)|exact HB.out)) hb);clear BK247;clear HB;have BK247:=n0_;have HB:=n1_;clear n0_ n1_;(try clear hb);(try clear hb2);(try clear hk);(try clear hi)))
  (try simp only [Act.put,List.setIfInBounds_toArray,List.set_cons_zero,List.set_cons_succ])
  go_cut [23] (fun v23 wc => ∃ (kq:Nat) (x23_3:Bool),v23=.bool x23_3∧Aside0 (understudyref05_Check.j0 kq x23_3 l0_0 a0_1 a0_2 l0_3 l0_4=some r)∧Aside0 (kq≤k)∧Aside0 (wc.heap[gb247]?=some (.cells #[(.slice A0_0 l0_0.length c0_0),.int .i64 a0_1,.int .i64 a0_2,(.slice A0_3 l0_3.length c0_3),(.slice A0_4 l0_4.length c0_4)] 26 (0,0)))∧Aside0 (Below w.heap.size w wc))
  case first =>
   have H:=HC4.out
   clear HC4
   by_cases c8:(l0_3.length:Int) > 64
   ·rw [if_pos c8] at H
    have c8b0:decide (64 < (l0_3.length:Int))=true:=decide_eq_true c8
    have c8b1:decide (64 < l0_3.length)=true:=decide_eq_true (by omega)
    clear c8
    (first|rw [c8b0]|(simp only [i64_w,i32_w];rw [c8b0])|skip)
    have H':=Aside0.mk H
    clear H
    have hcz9_0:w7.cell? ⟨gb247,0,none⟩=some (.slice A0_0 l0_0.length c0_0):=(blk_cell BK247.out 0).trans rfl
    have hcz9_1:w7.cell? ⟨gb247,1,none⟩=some (.int .i64 a0_1):=(blk_cell BK247.out 1).trans rfl
    have hcz9_2:w7.cell? ⟨gb247,2,none⟩=some (.int .i64 a0_2):=(blk_cell BK247.out 2).trans rfl
    have hcz9_3:w7.cell? ⟨gb247,3,none⟩=some (.slice A0_3 l0_3.length c0_3):=(blk_cell BK247.out 3).trans rfl
    have hcz9_4:w7.cell? ⟨gb247,4,none⟩=some (.slice A0_4 l0_4.length c0_4):=(blk_cell BK247.out 4).trans rfl
    have hfz9_0:=blk_frozen BK247.out 0
    have hfz9_1:=blk_frozen BK247.out 1
    have hfz9_2:=blk_frozen BK247.out 2
    have hfz9_3:=blk_frozen BK247.out 3
    have hfz9_4:=blk_frozen BK247.out 4
    go_wp2
    go_meet
    case rel => exact ⟨_,(true),(by first|rfl|(simp;done)|(simp [*];done)),H',⟨by first|omega|exact Nat.le_refl _⟩,⟨by (with_reducible repeat (first|refine blk_drewN ?_ _|refine blk_drew ?_|refine blk_alloc ?_ _));exact BK247.out⟩,⟨by repeat (first|(with_reducible first|exact HB.out|apply below_alloc|apply pw_below_drewN|apply below_drew1|refine below_set ?_ GE247.out)|exact HB.out)⟩⟩
   ·rw [if_neg c8] at H
    have c8b0:decide (64 < (l0_3.length:Int))=false:=decide_eq_false c8
    have c8b1:decide (64 < l0_3.length)=false:=decide_eq_false (by omega)
    clear c8
    (first|rw [c8b0]|(simp only [i64_w,i32_w];rw [c8b0])|skip)
    have H':=Aside0.mk H
    clear H
    have hcz10_0:w7.cell? ⟨gb247,0,none⟩=some (.slice A0_0 l0_0.length c0_0):=(blk_cell BK247.out 0).trans rfl
    have hcz10_1:w7.cell? ⟨gb247,1,none⟩=some (.int .i64 a0_1):=(blk_cell BK247.out 1).trans rfl
    have hcz10_2:w7.cell? ⟨gb247,2,none⟩=some (.int .i64 a0_2):=(blk_cell BK247.out 2).trans rfl
    have hcz10_3:w7.cell? ⟨gb247,3,none⟩=some (.slice A0_3 l0_3.length c0_3):=(blk_cell BK247.out 3).trans rfl
    have hcz10_4:w7.cell? ⟨gb247,4,none⟩=some (.slice A0_4 l0_4.length c0_4):=(blk_cell BK247.out 4).trans rfl
    have hfz10_0:=blk_frozen BK247.out 0
    have hfz10_1:=blk_frozen BK247.out 1
    have hfz10_2:=blk_frozen BK247.out 2
    have hfz10_3:=blk_frozen BK247.out 3
    have hfz10_4:=blk_frozen BK247.out 4
    go_wp2
    go_meet
    case rel => exact ⟨_,(decide ((l0_4.length:Int) > 64)),(by first|rfl|(simp;done)|(simp [*];done)),H',⟨by first|omega|exact Nat.le_refl _⟩,⟨by (with_reducible repeat (first|refine blk_drewN ?_ _|refine blk_drew ?_|refine blk_alloc ?_ _));exact BK247.out⟩,⟨by repeat (first|(with_reducible first|exact HB.out|apply below_alloc|apply pw_below_drewN|apply below_drew1|refine below_set ?_ GE247.out)|exact HB.out)⟩⟩
  case rest =>
   clear HC4
   try clear c1;try clear p2;try clear c3;try clear c3b0;try clear c3b1;try clear c5;try clear c8;try clear c8b0;try clear c8b1;try clear hcz10_0;try clear hcz10_1;try clear hcz10_2;try clear hcz10_3;try clear hcz10_4;try clear hcz6_0;try clear hcz6_1;try clear hcz6_2;try clear hcz6_3;try clear hcz6_4;try clear hcz9_0;try clear hcz9_1;try clear hcz9_2;try clear hcz9_3;try clear hcz9_4;try clear hfz10_0;try clear hfz10_1;try clear hfz10_2;try clear hfz10_3;try clear hfz10_4;try clear hfz6_0;try clear hfz6_1;try clear hfz6_2;try clear hfz6_3;try clear hfz6_4;try clear hfz9_0;try clear hfz9_1;try clear hfz9_2;try clear hfz9_3;try clear hfz9_4
   obtain ⟨kq,x23_3,rfl,HA,HJ3,BK247,HB⟩:=hcut
   cases kq with
   | zero => exact absurd HA.out (by simp [understudyref05_Check.j0])
   | succ kj3 =>
    have H:=HA.out
    clear HA
    simp only [understudyref05_Check.j0] at H
    by_cases c11:x23_3=true
    ·subst c11
     have H1:(some 2)=some r:=by rw [if_pos rfl] at H;exact H
     clear H
     have H:=H1
     clear H1
     obtain rfl:=Option.some.inj H
     go_wp2
     go_ret
     exact ⟨by first|rfl|(simp [errW_none,errW_some] <;> rfl)|(simp [*,errW_none,errW_some] <;> rfl),by repeat (first|(with_reducible first|exact HB.out|apply below_alloc|apply pw_below_drewN|apply below_drew1|refine below_set ?_ GE247.out)|exact HB.out)⟩
    ·replace c11:=Bool.eq_false_iff.mpr c11
     subst c11
     have H1:(understudyref05_Check.l0 kj3 0 l0_0 a0_1 a0_2 l0_3 l0_4)=some r:=by rw [if_neg (show ¬ (false=true) by decide)] at H;exact H
     clear H
     have H:=H1
     clear H1
     have H':=Aside0.mk H
     clear H
     go_wp2
     go_loopg [4] kj3 (fun kq v4 w' => ∃ (x4_2:Int),v4=.int .i64 x4_2∧Aside0 (understudyref05_Check.l0 kq x4_2 l0_0 a0_1 a0_2 l0_3 l0_4=some r)∧Aside0 (kq≤kj3)∧Aside0 (w'.heap[gb247]?=some (.cells #[(.slice A0_0 l0_0.length c0_0),.int .i64 a0_1,.int .i64 a0_2,(.slice A0_3 l0_3.length c0_3),(.slice A0_4 l0_4.length c0_4)] 26 (0,0)))∧Aside0 (Below w.heap.size w w'))
     case atStart => exact ⟨(0),(by first|rfl|(simp;done)|(simp [*];done)),H',⟨Nat.le_refl _⟩,⟨by (with_reducible repeat (first|refine blk_drewN ?_ _|refine blk_drew ?_|refine blk_alloc ?_ _));exact BK247.out⟩,⟨by repeat (first|(with_reducible first|exact HB.out|apply below_alloc|apply pw_below_drewN|apply below_drew1|refine below_set ?_ GE247.out)|exact HB.out)⟩⟩
     case round =>
      clear H'
      try clear c1;try clear p2;try clear c3;try clear c3b0;try clear c3b1;try clear c5;try clear c8;try clear c8b0;try clear c8b1;try clear c11;try clear hcz10_0;try clear hcz10_1;try clear hcz10_2;try clear hcz10_3;try clear hcz10_4;try clear hcz6_0;try clear hcz6_1;try clear hcz6_2;try clear hcz6_3;try clear hcz6_4;try clear hcz9_0;try clear hcz9_1;try clear hcz9_2;try clear hcz9_3;try clear hcz9_4;try clear hfz10_0;try clear hfz10_1;try clear hfz10_2;try clear hfz10_3;try clear hfz10_4;try clear hfz6_0;try clear hfz6_1;try clear hfz6_2;try clear hfz6_3;try clear hfz6_4;try clear hfz9_0;try clear hfz9_1;try clear hfz9_2;try clear hfz9_3;try clear hfz9_4;try clear p2
      obtain ⟨x4_2,rfl,HA,HK2,BK247,HB⟩:=hrel
      cases gk with
      | zero => exact absurd HA.out (by simp [understudyref05_Check.l0])
      | succ k2 =>
       have H:=HA.out
       clear HA
       simp only [understudyref05_Check.l0] at H
       by_cases c12:x4_2 < (l0_4.length:Int)
       ·rw [if_pos c12] at H
        have c12b0:decide (x4_2 < (l0_4.length:Int))=true:=decide_eq_true c12
        clear c12
        by_cases c13:0≤x4_2
        ·rw [if_pos c13] at H
         have c13b0:decide (0≤x4_2)=true:=decide_eq_true c13
         clear c13
         by_cases c14:(((rd_T37 l0_4 x4_2).f6).length:Int) > 64
         ·rw [if_pos c14] at H
          have c14b0:decide (64 < (((rd_T37 l0_4 x4_2).f6).length:Int))=true:=decide_eq_true c14
          have c14b1:decide (64 < ((rd_T37 l0_4 x4_2).f6).length)=true:=decide_eq_true (by omega)
          clear c14
          obtain rfl:=Option.some.inj H
          have hcz15_0:wr.cell? ⟨gb247,0,none⟩=some (.slice A0_0 l0_0.length c0_0):=(blk_cell BK247.out 0).trans rfl
          have hcz15_1:wr.cell? ⟨gb247,1,none⟩=some (.int .i64 a0_1):=(blk_cell BK247.out 1).trans rfl
          have hcz15_2:wr.cell? ⟨gb247,2,none⟩=some (.int .i64 a0_2):=(blk_cell BK247.out 2).trans rfl
          have hcz15_3:wr.cell? ⟨gb247,3,none⟩=some (.slice A0_3 l0_3.length c0_3):=(blk_cell BK247.out 3).trans rfl
          have hcz15_4:wr.cell? ⟨gb247,4,none⟩=some (.slice A0_4 l0_4.length c0_4):=(blk_cell BK247.out 4).trans rfl
          have hfz15_0:=blk_frozen BK247.out 0
          have hfz15_1:=blk_frozen BK247.out 1
          have hfz15_2:=blk_frozen BK247.out 2
          have hfz15_3:=blk_frozen BK247.out 3
          have hfz15_4:=blk_frozen BK247.out 4
          have p249:0≤(x4_2:Int):=of_decide_eq_true (by first|(with_reducible assumption)|assumption)
          have q249:x4_2 < (l0_4.length:Int):=of_decide_eq_true (by first|(with_reducible assumption)|assumption)
          obtain ⟨ad249,A249_5,c249_5,A249_6,c249_6,A249_7,c249_7,e249,hx249_0,hx249_1,hx249_2,hx249_3,hx249_4,hx249_5,hx249_6,hx249_7,hl249_5,hi249_5,hl249_6,hi249_6,hl249_7,hi249_7⟩:=at_T37 HR0_4.out x4_2 p249 q249
          cases e249
          replace hx249_0:=(HB.out.cell (World.block_lt_of_cell? w _ hx249_0)).trans hx249_0
          replace hx249_1:=(HB.out.cell (World.block_lt_of_cell? w _ hx249_1)).trans hx249_1
          replace hx249_2:=(HB.out.cell (World.block_lt_of_cell? w _ hx249_2)).trans hx249_2
          replace hx249_3:=(HB.out.cell (World.block_lt_of_cell? w _ hx249_3)).trans hx249_3
          replace hx249_4:=(HB.out.cell (World.block_lt_of_cell? w _ hx249_4)).trans hx249_4
          replace hx249_5:=(HB.out.cell (World.block_lt_of_cell? w _ hx249_5)).trans hx249_5
          replace hx249_6:=(HB.out.cell (World.block_lt_of_cell? w _ hx249_6)).trans hx249_6
          replace hx249_7:=(HB.out.cell (World.block_lt_of_cell? w _ hx249_7)).trans hx249_7
          have HR249_5:=Aside0.mk hi249_5
          have HC249_5:=Aside0.mk hl249_5
          clear hi249_5 hl249_5
          have HR249_6:=Aside0.mk hi249_6
          have HC249_6:=Aside0.mk hl249_6
          clear hi249_6 hl249_6
          have HR249_7:=Aside0.mk hi249_7
          have HC249_7:=Aside0.mk hl249_7
          clear hi249_7 hl249_7
          replace p249:=eq_true p249
          replace q249:=eq_true q249
          go_wp2
          go_ret
          exact ⟨by first|rfl|(simp [errW_none,errW_some] <;> rfl)|(simp [*,errW_none,errW_some] <;> rfl),by repeat (first|(with_reducible first|exact HB.out|apply below_alloc|apply pw_below_drewN|apply below_drew1|refine below_set ?_ GE247.out)|exact HB.out)⟩
         ·rw [if_neg c14] at H
          have c14b0:decide (64 < (((rd_T37 l0_4 x4_2).f6).length:Int))=false:=decide_eq_false c14
          have c14b1:decide (64 < ((rd_T37 l0_4 x4_2).f6).length)=false:=decide_eq_false (by omega)
          clear c14
          have H':=Aside0.mk H
          clear H
          have hcz16_0:wr.cell? ⟨gb247,0,none⟩=some (.slice A0_0 l0_0.length c0_0):=(blk_cell BK247.out 0).trans rfl
          have hcz16_1:wr.cell? ⟨gb247,1,none⟩=some (.int .i64 a0_1):=(blk_cell BK247.out 1).trans rfl
          have hcz16_2:wr.cell? ⟨gb247,2,none⟩=some (.int .i64 a0_2):=(blk_cell BK247.out 2).trans rfl
          have hcz16_3:wr.cell? ⟨gb247,3,none⟩=some (.slice A0_3 l0_3.length c0_3):=(blk_cell BK247.out 3).trans rfl
          have hcz16_4:wr.cell? ⟨gb247,4,none⟩=some (.slice A0_4 l0_4.length c0_4):=(blk_cell BK247.out 4).trans rfl
          have hfz16_0:=blk_frozen BK247.out 0
          have hfz16_1:=blk_frozen BK247.out 1
          have hfz16_2:=blk_frozen BK247.out 2
          have hfz16_3:=blk_frozen BK247.out 3
          have hfz16_4:=blk_frozen BK247.out 4
          have p249:0≤(x4_2:Int):=of_decide_eq_true (by first|(with_reducible assumption)|assumption)
          have q249:x4_2 < (l0_4.length:Int):=of_decide_eq_true (by first|(with_reducible assumption)|assumption)
          obtain ⟨ad249,A249_5,c249_5,A249_6,c249_6,A249_7,c249_7,e249,hx249_0,hx249_1,hx249_2,hx249_3,hx249_4,hx249_5,hx249_6,hx249_7,hl249_5,hi249_5,hl249_6,hi249_6,hl249_7,hi249_7⟩:=at_T37 HR0_4.out x4_2 p249 q249
          cases e249
          replace hx249_0:=(HB.out.cell (World.block_lt_of_cell? w _ hx249_0)).trans hx249_0
          replace hx249_1:=(HB.out.cell (World.block_lt_of_cell? w _ hx249_1)).trans hx249_1
          replace hx249_2:=(HB.out.cell (World.block_lt_of_cell? w _ hx249_2)).trans hx249_2
          replace hx249_3:=(HB.out.cell (World.block_lt_of_cell? w _ hx249_3)).trans hx249_3
          replace hx249_4:=(HB.out.cell (World.block_lt_of_cell? w _ hx249_4)).trans hx249_4
          replace hx249_5:=(HB.out.cell (World.block_lt_of_cell? w _ hx249_5)).trans hx249_5
          replace hx249_6:=(HB.out.cell (World.block_lt_of_cell? w _ hx249_6)).trans hx249_6
          replace hx249_7:=(HB.out.cell (World.block_lt_of_cell? w _ hx249_7)).trans hx249_7
          have HR249_5:=Aside0.mk hi249_5
          have HC249_5:=Aside0.mk hl249_5
          clear hi249_5 hl249_5
          have HR249_6:=Aside0.mk hi249_6
          have HC249_6:=Aside0.mk hl249_6
          clear hi249_6 hl249_6
          have HR249_7:=Aside0.mk hi249_7
          have HC249_7:=Aside0.mk hl249_7
          clear hi249_7 hl249_7
          replace p249:=eq_true p249
          replace q249:=eq_true q249
          go_wp2
          go_roundg k2
          case measure => have:=HJ3.out;have:=HK2.out;omega
          case rel => exact ⟨(wrap64 (x4_2 + 1)),(by first|rfl|(simp;done)|(simp [*];done)),H',⟨by have:=HJ3.out;have:=HK2.out;omega⟩,⟨by (with_reducible repeat (first|refine blk_drewN ?_ _|refine blk_drew ?_|refine blk_alloc ?_ _));exact BK247.out⟩,⟨by repeat (first|(with_reducible first|exact HB.out|apply below_alloc|apply pw_below_drewN|apply below_drew1|refine below_set ?_ GE247.out)|exact HB.out)⟩⟩
        ·rw [if_neg c13] at H
         exact absurd H (by simp)
       ·rw [if_neg c12] at H
        have c12b0:decide (x4_2 < (l0_4.length:Int))=false:=decide_eq_false c12
        clear c12
        have HC17:=Aside0.mk H
        clear H
        have hcz18_0:wr.cell? ⟨gb247,0,none⟩=some (.slice A0_0 l0_0.length c0_0):=(blk_cell BK247.out 0).trans rfl
        have hcz18_1:wr.cell? ⟨gb247,1,none⟩=some (.int .i64 a0_1):=(blk_cell BK247.out 1).trans rfl
        have hcz18_2:wr.cell? ⟨gb247,2,none⟩=some (.int .i64 a0_2):=(blk_cell BK247.out 2).trans rfl
        have hcz18_3:wr.cell? ⟨gb247,3,none⟩=some (.slice A0_3 l0_3.length c0_3):=(blk_cell BK247.out 3).trans rfl
        have hcz18_4:wr.cell? ⟨gb247,4,none⟩=some (.slice A0_4 l0_4.length c0_4):=(blk_cell BK247.out 4).trans rfl
        have hfz18_0:=blk_frozen BK247.out 0
        have hfz18_1:=blk_frozen BK247.out 1
        have hfz18_2:=blk_frozen BK247.out 2
        have hfz18_3:=blk_frozen BK247.out 3
        have hfz18_4:=blk_frozen BK247.out 4
        go_upto_region 11 with (fail)
        go_cut [52] (fun v52 wc => ∃ (kq:Nat) (x52_16:Bool),v52=.bool x52_16∧Aside0 (understudyref05_Check.j2 kq x52_16 l0_0 a0_1 a0_2 l0_3 l0_4=some r)∧Aside0 (kq≤k2)∧Aside0 (wc.heap[gb247]?=some (.cells #[(.slice A0_0 l0_0.length c0_0),.int .i64 a0_1,.int .i64 a0_2,(.slice A0_3 l0_3.length c0_3),(.slice A0_4 l0_4.length c0_4)] 26 (0,0)))∧Aside0 (Below w.heap.size w wc))
        case first =>
         have H:=HC17.out
         clear HC17
         replace H:=Option.bind_eq_some_iff.mp H
         obtain ⟨t250,A190,H⟩:=H
         replace H:(if t250=true then ((understudyref05_cls.f l0_0 a0_2).bind fun t251 => (understudyref05_Check.j2 k2 (!t251) l0_0 a0_1 a0_2 l0_3 l0_4)) else (understudyref05_Check.j2 k2 true l0_0 a0_1 a0_2 l0_3 l0_4))=some r:=H
         have A19:=Aside0.mk A190
         clear A190
         by_cases c20:t250=true
         ·subst c20
          have H1:((understudyref05_cls.f l0_0 a0_2).bind fun t251 => (understudyref05_Check.j2 k2 (!t251) l0_0 a0_1 a0_2 l0_3 l0_4))=some r:=by rw [if_pos rfl] at H;exact H
          clear H
          have H:=H1
          clear H1
          replace H:=Option.bind_eq_some_iff.mp H
          obtain ⟨t251,A210,H⟩:=H
          replace H:(understudyref05_Check.j2 k2 (!t251) l0_0 a0_1 a0_2 l0_3 l0_4)=some r:=H
          have A21:=Aside0.mk A210
          clear A210
          have H':=Aside0.mk H
          clear H
          have hcz22_0:wr.cell? ⟨gb247,0,none⟩=some (.slice A0_0 l0_0.length c0_0):=(blk_cell BK247.out 0).trans rfl
          have hcz22_1:wr.cell? ⟨gb247,1,none⟩=some (.int .i64 a0_1):=(blk_cell BK247.out 1).trans rfl
          have hcz22_2:wr.cell? ⟨gb247,2,none⟩=some (.int .i64 a0_2):=(blk_cell BK247.out 2).trans rfl
          have hcz22_3:wr.cell? ⟨gb247,3,none⟩=some (.slice A0_3 l0_3.length c0_3):=(blk_cell BK247.out 3).trans rfl
          have hcz22_4:wr.cell? ⟨gb247,4,none⟩=some (.slice A0_4 l0_4.length c0_4):=(blk_cell BK247.out 4).trans rfl
          have hfz22_0:=blk_frozen BK247.out 0
          have hfz22_1:=blk_frozen BK247.out 1
          have hfz22_2:=blk_frozen BK247.out 2
          have hfz22_3:=blk_frozen BK247.out 3
          have hfz22_4:=blk_frozen BK247.out 4
          go_wp2_with (first|((with_reducible refine gate_callee (f:=17) rfl ?_);refine goesL_ (some 43) rfl rfl Tryd.func17 (by kernel_rfl) rfl #[.slice A0_0 l0_0.length c0_0,.int .i64 a0_1] rfl (by (try simp only [List.map_toArray,List.map_cons,List.map_nil]);first|done|rfl|(simp only [List.length_drop,List.length_take];rfl)) ?_;(with_reducible refine (understudyref05_cls.calls _ _ l0_0 a0_1 true _ ?side1 ?side2 A19.out).mono ?_);(case side1 => repeat (first|exact (Kd.C_below HR0_0.out HB.out)|(with_reducible refine Kd.C_alloc ?_ _)|(with_reducible refine Kd.C_drewN ?_ _)|(with_reducible refine Kd.C_drew ?_)));(case side2 => exact HC0_0.out);rintro e w' ⟨rfl,⟨nd,rfl⟩⟩;refine ⟨_,rfl,?_⟩)|(go_at_call 17;(with_reducible refine (understudyref05_cls.calls _ _ l0_0 a0_2 t251 _ ?side1 ?side2 A21.out).mono ?_);(case side1 => repeat (first|exact (Kd.C_below HR0_0.out (by repeat (first|(with_reducible first|exact HB.out|apply below_alloc|apply pw_below_drewN|apply below_drew1|refine below_set ?_ GE247.out)|exact HB.out)))|(with_reducible refine Kd.C_alloc ?_ _)|(with_reducible refine Kd.C_drewN ?_ _)|(with_reducible refine Kd.C_drew ?_)));(case side2 => exact HC0_0.out);rintro e w' ⟨rfl,⟨nd,rfl⟩⟩))
          go_meet
          case rel => exact ⟨_,(!t251),(by first|rfl|(simp;done)|(simp [*];done)),H',⟨by have:=HJ3.out;have:=HK2.out;first|omega|exact Nat.le_refl _⟩,⟨by (with_reducible repeat (first|refine blk_drewN ?_ _|refine blk_drew ?_|refine blk_alloc ?_ _));exact BK247.out⟩,⟨by repeat (first|(with_reducible first|exact HB.out|apply below_alloc|apply pw_below_drewN|apply below_drew1|refine below_set ?_ GE247.out)|exact HB.out)⟩⟩
         ·replace c20:=Bool.eq_false_iff.mpr c20
          subst c20
          have H1:(understudyref05_Check.j2 k2 true l0_0 a0_1 a0_2 l0_3 l0_4)=some r:=by rw [if_neg (show ¬ (false=true) by decide)] at H;exact H
          clear H
          have H:=H1
          clear H1
          have H':=Aside0.mk H
          clear H
          have hcz23_0:wr.cell? ⟨gb247,0,none⟩=some (.slice A0_0 l0_0.length c0_0):=(blk_cell BK247.out 0).trans rfl
          have hcz23_1:wr.cell? ⟨gb247,1,none⟩=some (.int .i64 a0_1):=(blk_cell BK247.out 1).trans rfl
          have hcz23_2:wr.cell? ⟨gb247,2,none⟩=some (.int .i64 a0_2):=(blk_cell BK247.out 2).trans rfl
          have hcz23_3:wr.cell? ⟨gb247,3,none⟩=some (.slice A0_3 l0_3.length c0_3):=(blk_cell BK247.out 3).trans rfl
          have hcz23_4:wr.cell? ⟨gb247,4,none⟩=some (.slice A0_4 l0_4.length c0_4):=(blk_cell BK247.out 4).trans rfl
          have hfz23_0:=blk_frozen BK247.out 0
          have hfz23_1:=blk_frozen BK247.out 1
          have hfz23_2:=blk_frozen BK247.out 2
          have hfz23_3:=blk_frozen BK247.out 3
          have hfz23_4:=blk_frozen BK247.out 4
          go_wp2_with (first|((with_reducible refine gate_callee (f:=17) rfl ?_);refine goesL_ (some 43) rfl rfl Tryd.func17 (by kernel_rfl) rfl #[.slice A0_0 l0_0.length c0_0,.int .i64 a0_1] rfl (by (try simp only [List.map_toArray,List.map_cons,List.map_nil]);first|done|rfl|(simp only [List.length_drop,List.length_take];rfl)) ?_;(with_reducible refine (understudyref05_cls.calls _ _ l0_0 a0_1 false _ ?side1 ?side2 A19.out).mono ?_);(case side1 => repeat (first|exact (Kd.C_below HR0_0.out HB.out)|(with_reducible refine Kd.C_alloc ?_ _)|(with_reducible refine Kd.C_drewN ?_ _)|(with_reducible refine Kd.C_drew ?_)));(case side2 => exact HC0_0.out);rintro e w' ⟨rfl,⟨nd,rfl⟩⟩;refine ⟨_,rfl,?_⟩))
          go_meet
          case rel => exact ⟨_,(true),(by first|rfl|(simp;done)|(simp [*];done)),H',⟨by have:=HJ3.out;have:=HK2.out;first|omega|exact Nat.le_refl _⟩,⟨by (with_reducible repeat (first|refine blk_drewN ?_ _|refine blk_drew ?_|refine blk_alloc ?_ _));exact BK247.out⟩,⟨by repeat (first|(with_reducible first|exact HB.out|apply below_alloc|apply pw_below_drewN|apply below_drew1|refine below_set ?_ GE247.out)|exact HB.out)⟩⟩
        case rest =>
         clear HC17
         try clear c1;try clear c2;try clear p2;try clear q2;try clear hx2;try clear c3;try clear c3b0;try clear c3b1;try clear c5;try clear p6;try clear c8;try clear c8b0;try clear c8b1;try clear c11;try clear c12;try clear c12b0;try clear c13;try clear c13b0;try clear c14;try clear c14b0;try clear c14b1;try clear c16;try clear c17;try clear c20;try clear hcz10_0;try clear hcz10_1;try clear hcz10_2;try clear hcz10_3;try clear hcz10_4;try clear hcz15_0;try clear hcz15_1;try clear hcz15_2;try clear hcz15_3;try clear hcz15_4;try clear hcz16_0;try clear hcz16_1;try clear hcz16_2;try clear hcz16_3;try clear hcz16_4;try clear hcz18_0;try clear hcz18_1;try clear hcz18_2;try clear hcz18_3;try clear hcz18_4;try clear hcz22_0;try clear hcz22_1;try clear hcz22_2;try clear hcz22_3;try clear hcz22_4;try clear hcz23_0;try clear hcz23_1;try clear hcz23_2;try clear hcz23_3;try clear hcz23_4;try clear hcz6_0;try clear hcz6_1;try clear hcz6_2;try clear hcz6_3;try clear hcz6_4;try clear hcz9_0;try clear hcz9_1;try clear hcz9_2;try clear hcz9_3;try clear hcz9_4;try clear hfz10_0;try clear hfz10_1;try clear hfz10_2;try clear hfz10_3;try clear hfz10_4;try clear hfz15_0;try clear hfz15_1;try clear hfz15_2;try clear hfz15_3;try clear hfz15_4;try clear hfz16_0;try clear hfz16_1;try clear hfz16_2;try clear hfz16_3;try clear hfz16_4;try clear hfz18_0;try clear hfz18_1;try clear hfz18_2;try clear hfz18_3;try clear hfz18_4;try clear hfz22_0;try clear hfz22_1;try clear hfz22_2;try clear hfz22_3;try clear hfz22_4;try clear hfz23_0;try clear hfz23_1;try clear hfz23_2;try clear hfz23_3;try clear hfz23_4;try clear hfz6_0;try clear hfz6_1;try clear hfz6_2;try clear hfz6_3;try clear hfz6_4;try clear hfz9_0;try clear hfz9_1;try clear hfz9_2;try clear hfz9_3;try clear hfz9_4;try clear hx249_0;try clear hx249_1;try clear hx249_2;try clear hx249_3;try clear hx249_4;try clear hx249_5;try clear hx249_6;try clear hx249_7;try clear p2;try clear p249;try clear q249
         obtain ⟨kq,x52_16,rfl,HA,HJ16,BK247,HB⟩:=hcut
         cases kq with
         | zero => exact absurd HA.out (by simp [understudyref05_Check.j2])
         | succ kj16 =>
          have H:=HA.out
          clear HA
          simp only [understudyref05_Check.j2] at H
          by_cases c24:x52_16=true
          ·subst c24
           have H1:(some 50)=some r:=by rw [if_pos rfl] at H;exact H
           clear H
           have H:=H1
           clear H1
           obtain rfl:=Option.some.inj H
           go_wp2
           go_ret
           exact ⟨by first|rfl|(simp [errW_none,errW_some] <;> rfl)|(simp [*,errW_none,errW_some] <;> rfl),by repeat (first|(with_reducible first|exact HB.out|apply below_alloc|apply pw_below_drewN|apply below_drew1|refine below_set ?_ GE247.out)|exact HB.out)⟩
          ·replace c24:=Bool.eq_false_iff.mpr c24
           subst c24
           have H1:(understudyref05_Check.l1 kj16 0 l0_0 a0_1 a0_2 l0_3 l0_4)=some r:=by rw [if_neg (show ¬ (false=true) by decide)] at H;exact H
           clear H
           have H:=H1
           clear H1
           have H':=Aside0.mk H
           clear H
           go_wp2
           go_loopg [5] kj16 (fun kq v5 w' => ∃ (x5_4:Int),v5=.int .i64 x5_4∧Aside0 (understudyref05_Check.l1 kq x5_4 l0_0 a0_1 a0_2 l0_3 l0_4=some r)∧Aside0 (kq≤kj16)∧Aside0 (w'.heap[gb247]?=some (.cells #[(.slice A0_0 l0_0.length c0_0),.int .i64 a0_1,.int .i64 a0_2,(.slice A0_3 l0_3.length c0_3),(.slice A0_4 l0_4.length c0_4)] 26 (0,0)))∧Aside0 (Below w.heap.size w w'))
           case atStart => exact ⟨(0),(by first|rfl|(simp;done)|(simp [*];done)),H',⟨Nat.le_refl _⟩,⟨by (with_reducible repeat (first|refine blk_drewN ?_ _|refine blk_drew ?_|refine blk_alloc ?_ _));exact BK247.out⟩,⟨by repeat (first|(with_reducible first|exact HB.out|apply below_alloc|apply pw_below_drewN|apply below_drew1|refine below_set ?_ GE247.out)|exact HB.out)⟩⟩
           case round =>
            clear H'
            try clear c1;try clear c2;try clear p2;try clear q2;try clear hx2;try clear c3;try clear c3b0;try clear c3b1;try clear c5;try clear p6;try clear c8;try clear c8b0;try clear c8b1;try clear c11;try clear c12;try clear c12b0;try clear c13;try clear c13b0;try clear c14;try clear c14b0;try clear c14b1;try clear c16;try clear c17;try clear c20;try clear c24;try clear p24;try clear q24;try clear hx24;try clear hcz10_0;try clear hcz10_1;try clear hcz10_2;try clear hcz10_3;try clear hcz10_4;try clear hcz15_0;try clear hcz15_1;try clear hcz15_2;try clear hcz15_3;try clear hcz15_4;try clear hcz16_0;try clear hcz16_1;try clear hcz16_2;try clear hcz16_3;try clear hcz16_4;try clear hcz18_0;try clear hcz18_1;try clear hcz18_2;try clear hcz18_3;try clear hcz18_4;try clear hcz22_0;try clear hcz22_1;try clear hcz22_2;try clear hcz22_3;try clear hcz22_4;try clear hcz23_0;try clear hcz23_1;try clear hcz23_2;try clear hcz23_3;try clear hcz23_4;try clear hcz6_0;try clear hcz6_1;try clear hcz6_2;try clear hcz6_3;try clear hcz6_4;try clear hcz9_0;try clear hcz9_1;try clear hcz9_2;try clear hcz9_3;try clear hcz9_4;try clear hfz10_0;try clear hfz10_1;try clear hfz10_2;try clear hfz10_3;try clear hfz10_4;try clear hfz15_0;try clear hfz15_1;try clear hfz15_2;try clear hfz15_3;try clear hfz15_4;try clear hfz16_0;try clear hfz16_1;try clear hfz16_2;try clear hfz16_3;try clear hfz16_4;try clear hfz18_0;try clear hfz18_1;try clear hfz18_2;try clear hfz18_3;try clear hfz18_4;try clear hfz22_0;try clear hfz22_1;try clear hfz22_2;try clear hfz22_3;try clear hfz22_4;try clear hfz23_0;try clear hfz23_1;try clear hfz23_2;try clear hfz23_3;try clear hfz23_4;try clear hfz6_0;try clear hfz6_1;try clear hfz6_2;try clear hfz6_3;try clear hfz6_4;try clear hfz9_0;try clear hfz9_1;try clear hfz9_2;try clear hfz9_3;try clear hfz9_4;try clear hx249_0;try clear hx249_1;try clear hx249_2;try clear hx249_3;try clear hx249_4;try clear hx249_5;try clear hx249_6;try clear hx249_7;try clear p2;try clear p249;try clear p6;try clear q2;try clear q249
            obtain ⟨x5_4,rfl,HA,HK4,BK247,HB⟩:=hrel
            cases gk with
            | zero => exact absurd HA.out (by simp [understudyref05_Check.l1])
            | succ k4 =>
             have H:=HA.out
             clear HA
             simp only [understudyref05_Check.l1] at H
             by_cases c25:x5_4 < (l0_3.length:Int)
             ·rw [if_pos c25] at H
              have c25b0:decide (x5_4 < (l0_3.length:Int))=true:=decide_eq_true c25
              clear c25
              by_cases c26:0≤x5_4
              ·rw [if_pos c26] at H
               have c26b0:decide (0≤x5_4)=true:=decide_eq_true c26
               clear c26
               have HC27:=Aside0.mk H
               clear H
               have hcz28_0:wr.cell? ⟨gb247,0,none⟩=some (.slice A0_0 l0_0.length c0_0):=(blk_cell BK247.out 0).trans rfl
               have hcz28_1:wr.cell? ⟨gb247,1,none⟩=some (.int .i64 a0_1):=(blk_cell BK247.out 1).trans rfl
               have hcz28_2:wr.cell? ⟨gb247,2,none⟩=some (.int .i64 a0_2):=(blk_cell BK247.out 2).trans rfl
               have hcz28_3:wr.cell? ⟨gb247,3,none⟩=some (.slice A0_3 l0_3.length c0_3):=(blk_cell BK247.out 3).trans rfl
               have hcz28_4:wr.cell? ⟨gb247,4,none⟩=some (.slice A0_4 l0_4.length c0_4):=(blk_cell BK247.out 4).trans rfl
               have hfz28_0:=blk_frozen BK247.out 0
               have hfz28_1:=blk_frozen BK247.out 1
               have hfz28_2:=blk_frozen BK247.out 2
               have hfz28_3:=blk_frozen BK247.out 3
               have hfz28_4:=blk_frozen BK247.out 4
               have p252:0≤(x5_4:Int):=of_decide_eq_true (by first|(with_reducible assumption)|assumption)
               have q252:x5_4 < (l0_3.length:Int):=of_decide_eq_true (by first|(with_reducible assumption)|assumption)
               obtain ⟨ad252,e252,hx252_0,hx252_1,hx252_2⟩:=at_T42 HR0_3.out x5_4 p252 q252
               cases e252
               replace hx252_0:=(HB.out.cell (World.block_lt_of_cell? w _ hx252_0)).trans hx252_0
               replace hx252_1:=(HB.out.cell (World.block_lt_of_cell? w _ hx252_1)).trans hx252_1
               replace hx252_2:=(HB.out.cell (World.block_lt_of_cell? w _ hx252_2)).trans hx252_2
               replace p252:=eq_true p252
               replace q252:=eq_true q252
               go_upto_region 17 with (first|((with_reducible refine gate_dst (N:=6) rfl ?_);(try (refine gate_guard (by rfl) ?_;dsimp only));refine box_event ?hg (N:=6) ?hd (cs:=#[.int .i64 0,.int .i64 0,.int .i64 0]) (t:=42) ?hr ?_;(case hd => rfl);(case hg => rfl);(case hr => first|(go_simp;done)|(go_simp;rfl));intro gb253 hg w29 hbox hb;have n0_:=Aside0.mk (blk_below (g:=gb247) (o:=.cells #[.slice A0_0 l0_0.length c0_0,.int .i64 a0_1,.int .i64 a0_2,.slice (some ad252) l0_3.length c0_3,.slice A0_4 l0_4.length c0_4] 26 (0,0)) (by (with_reducible repeat (first|refine blk_drewN ?_ _|refine blk_drew ?_|refine blk_alloc ?_ _));exact BK247.out) hb);have n1_:=Aside0.mk (below_step (by repeat (first|(with_reducible first|exact HB.out|apply below_alloc|apply pw_below_drewN|apply below_drew1|refine below_set ?_ GE247.out)|exact HB.out)) hb);have n2_:=Aside0.mk (hbox);have n3_:=Aside0.mk ((by rw [hg];exact (below_size (by repeat (first|(with_reducible first|exact HB.out|apply below_alloc|apply pw_below_drewN|apply below_drew1|refine below_set ?_ GE247.out)|exact HB.out))):w.heap.size≤gb253));have n4_:=Aside0.mk ((by rw [hg];exact (below_size (by repeat (first|(with_reducible first|exact HB.out|apply below_alloc|apply pw_below_drewN|apply below_drew1|refine below_set ?_ GE247.out)|exact HB.out))):w.heap.size≤gb253));have n5_:=Aside0.mk ((by rw [hg];exact Nat.ne_of_lt (blk_lt (g:=gb247) (o:=.cells #[.slice A0_0 l0_0.length c0_0,.int .i64 a0_1,.int .i64 a0_2,.slice (some ad252) l0_3.length c0_3,.slice A0_4 l0_4.length c0_4] 26 (0,0)) (by (with_reducible repeat (first|refine blk_drewN ?_ _|refine blk_drew ?_|refine blk_alloc ?_ _));exact BK247.out)):gb247 ≠ gb253));have n6_:=Aside0.mk ((by rw [hg];exact Nat.ne_of_gt (blk_lt (g:=gb247) (o:=.cells #[.slice A0_0 l0_0.length c0_0,.int .i64 a0_1,.int .i64 a0_2,.slice (some ad252) l0_3.length c0_3,.slice A0_4 l0_4.length c0_4] 26 (0,0)) (by (with_reducible repeat (first|refine blk_drewN ?_ _|refine blk_drew ?_|refine blk_alloc ?_ _));exact BK247.out)):gb253 ≠ gb247));clear BK247;clear HB;have BK247:=n0_;have HB:=n1_;have BK253:=n2_;have GW253:=n3_;have GE253:=n4_;have NB247_253:=n5_;have NB253_247:=n6_;clear n0_ n1_ n2_ n3_ n4_ n5_ n6_;clear hb hbox hg;have hnb30:=NB253_247.out;have hnc30:=NB247_253.out;have hcz31_0:w29.cell? ⟨gb253,0,none⟩=some (.int .i64 0):=(blk_cell BK253.out 0).trans rfl;have hcz31_1:w29.cell? ⟨gb253,1,none⟩=some (.int .i64 0):=(blk_cell BK253.out 1).trans rfl;have hcz31_2:w29.cell? ⟨gb253,2,none⟩=some (.int .i64 0):=(blk_cell BK253.out 2).trans rfl;have hfz31_0:=blk_frozen BK253.out 0;have hfz31_1:=blk_frozen BK253.out 1;have hfz31_2:=blk_frozen BK253.out 2))
               (try simp only [Act.put,List.setIfInBounds_toArray,List.set_cons_zero,List.set_cons_succ])
               go_cut [88] (fun v88 wc => ∃ (kq:Nat) (x88_26:Bool),v88=.bool x88_26∧Aside0 (understudyref05_Check.j4 kq x5_4 x88_26 l0_0 a0_1 a0_2 l0_3 l0_4=some r)∧Aside0 (kq≤k4)∧Aside0 (wc.heap[gb247]?=some (.cells #[(.slice A0_0 l0_0.length c0_0),.int .i64 a0_1,.int .i64 a0_2,(.slice (some ad252) l0_3.length c0_3),(.slice A0_4 l0_4.length c0_4)] 26 (0,0)))∧Aside0 (wc.heap[gb253]?=some (.cells #[.int .i64 ((rd_T42 l0_3 x5_4).f0),.int .i64 ((rd_T42 l0_3 x5_4).f1),.int .i64 ((rd_T42 l0_3 x5_4).f2)] 42 (0,0)))∧Aside0 (Below w.heap.size w wc))
               case first =>
                have H:=HC27.out
                clear HC27
                by_cases c32:((rd_T42 l0_3 x5_4).f0)=0
                ·rw [if_pos c32] at H
                 have c32b0:(((rd_T42 l0_3 x5_4).f0)==0)=true:=beq_iff_eq.mpr c32
                 have c32b1:(((rd_T42 l0_3 x5_4).f0) != 0)=false:=bne_eq_false_iff_eq.mpr c32
                 clear c32
                 (first|rw [c32b0]|(simp only [i64_w,i32_w];rw [c32b0])|skip)
                 replace H:=Option.bind_eq_some_iff.mp H
                 obtain ⟨t254,A330,H⟩:=H
                 replace H:(if t254=true then ((understudyref05_utf.f l0_0 ((rd_T42 l0_3 x5_4).f2)).bind fun t255 => (understudyref05_Check.j4 k4 x5_4 (!t255) l0_0 a0_1 a0_2 l0_3 l0_4)) else (understudyref05_Check.j4 k4 x5_4 true l0_0 a0_1 a0_2 l0_3 l0_4))=some r:=H
                 have A33:=Aside0.mk A330
                 clear A330
                 by_cases c34:t254=true
                 ·subst c34
                  have H1:((understudyref05_utf.f l0_0 ((rd_T42 l0_3 x5_4).f2)).bind fun t255 => (understudyref05_Check.j4 k4 x5_4 (!t255) l0_0 a0_1 a0_2 l0_3 l0_4))=some r:=by rw [if_pos rfl] at H;exact H
                  clear H
                  have H:=H1
                  clear H1
                  replace H:=Option.bind_eq_some_iff.mp H
                  obtain ⟨t255,A350,H⟩:=H
                  replace H:(understudyref05_Check.j4 k4 x5_4 (!t255) l0_0 a0_1 a0_2 l0_3 l0_4)=some r:=H
                  have A35:=Aside0.mk A350
                  clear A350
                  have H':=Aside0.mk H
                  clear H
                  have hnb36:=NB253_247.out
                  have hnc36:=NB247_253.out
                  have hcz37_0:w29.cell? ⟨gb253,0,none⟩=some (.int .i64 0):=(blk_cell BK253.out 0).trans rfl
                  have hcz37_1:w29.cell? ⟨gb253,1,none⟩=some (.int .i64 0):=(blk_cell BK253.out 1).trans rfl
                  have hcz37_2:w29.cell? ⟨gb253,2,none⟩=some (.int .i64 0):=(blk_cell BK253.out 2).trans rfl
                  have hfz37_0:=blk_frozen BK253.out 0
                  have hfz37_1:=blk_frozen BK253.out 1
                  have hfz37_2:=blk_frozen BK253.out 2
                  have hcz38_0:w29.cell? ⟨gb247,0,none⟩=some (.slice A0_0 l0_0.length c0_0):=(blk_cell BK247.out 0).trans rfl
                  have hcz38_1:w29.cell? ⟨gb247,1,none⟩=some (.int .i64 a0_1):=(blk_cell BK247.out 1).trans rfl
                  have hcz38_2:w29.cell? ⟨gb247,2,none⟩=some (.int .i64 a0_2):=(blk_cell BK247.out 2).trans rfl
                  have hcz38_3:w29.cell? ⟨gb247,3,none⟩=some (.slice (some ad252) l0_3.length c0_3):=(blk_cell BK247.out 3).trans rfl
                  have hcz38_4:w29.cell? ⟨gb247,4,none⟩=some (.slice A0_4 l0_4.length c0_4):=(blk_cell BK247.out 4).trans rfl
                  have hfz38_0:=blk_frozen BK247.out 0
                  have hfz38_1:=blk_frozen BK247.out 1
                  have hfz38_2:=blk_frozen BK247.out 2
                  have hfz38_3:=blk_frozen BK247.out 3
                  have hfz38_4:=blk_frozen BK247.out 4
                  go_wp2_with (first|(go_at_call 18;(with_reducible refine (understudyref05_utf.calls _ _ l0_0 ((rd_T42 l0_3 x5_4).f1) true _ ?side1 ?side2 A33.out).mono ?_);(case side1 => exact Kd.C_below HR0_0.out (by repeat (first|(with_reducible first|exact HB.out|apply below_alloc|apply pw_below_drewN|apply below_drew1|refine below_set ?_ GE247.out|refine below_set ?_ GE253.out)|exact HB.out)));(case side2 => exact HC0_0.out);rintro e w' ⟨rfl,⟨nd,rfl⟩⟩)|(go_at_call 18;(with_reducible refine (understudyref05_utf.calls _ _ l0_0 ((rd_T42 l0_3 x5_4).f2) t255 _ ?side1 ?side2 A35.out).mono ?_);(case side1 => exact Kd.C_below HR0_0.out (by repeat (first|(with_reducible first|exact HB.out|apply below_alloc|apply pw_below_drewN|apply below_drew1|refine below_set ?_ GE247.out|refine below_set ?_ GE253.out)|exact HB.out)));(case side2 => exact HC0_0.out);rintro e w' ⟨rfl,⟨nd,rfl⟩⟩))
                  go_meet
                  case rel => exact ⟨_,(!t255),(by first|rfl|(simp;done)|(simp [*];done)),H',⟨by have:=HJ3.out;have:=HK2.out;have:=HJ16.out;have:=HK4.out;first|omega|exact Nat.le_refl _⟩,⟨by (with_reducible repeat (first|refine blk_drewN ?_ _|refine blk_drew ?_|refine blk_alloc ?_ _));refine blk_far ?_ NB247_253.out _;(with_reducible repeat (first|refine blk_drewN ?_ _|refine blk_drew ?_|refine blk_alloc ?_ _));refine blk_far ?_ NB247_253.out _;(with_reducible repeat (first|refine blk_drewN ?_ _|refine blk_drew ?_|refine blk_alloc ?_ _));refine blk_far ?_ NB247_253.out _;(with_reducible repeat (first|refine blk_drewN ?_ _|refine blk_drew ?_|refine blk_alloc ?_ _));exact BK247.out⟩,⟨by (with_reducible repeat (first|refine blk_drewN ?_ _|refine blk_drew ?_|refine blk_alloc ?_ _));refine blk_put (cs:=#[.int .i64 ((rd_T42 l0_3 x5_4).f0),.int .i64 ((rd_T42 l0_3 x5_4).f1),.int .i64 0]) ?_ 2 _ rfl;(with_reducible repeat (first|refine blk_drewN ?_ _|refine blk_drew ?_|refine blk_alloc ?_ _));refine blk_put (cs:=#[.int .i64 ((rd_T42 l0_3 x5_4).f0),.int .i64 0,.int .i64 0]) ?_ 1 _ rfl;(with_reducible repeat (first|refine blk_drewN ?_ _|refine blk_drew ?_|refine blk_alloc ?_ _));refine blk_put (cs:=#[.int .i64 0,.int .i64 0,.int .i64 0]) ?_ 0 _ rfl;(with_reducible repeat (first|refine blk_drewN ?_ _|refine blk_drew ?_|refine blk_alloc ?_ _));exact BK253.out⟩,⟨by repeat (first|(with_reducible first|exact HB.out|apply below_alloc|apply pw_below_drewN|apply below_drew1|refine below_set ?_ GE247.out|refine below_set ?_ GE253.out)|exact HB.out)⟩⟩
                 ·replace c34:=Bool.eq_false_iff.mpr c34
                  subst c34
                  have H1:(understudyref05_Check.j4 k4 x5_4 true l0_0 a0_1 a0_2 l0_3 l0_4)=some r:=by rw [if_neg (show ¬ (false=true) by decide)] at H;exact H
                  clear H
                  have H:=H1
                  clear H1
                  have H':=Aside0.mk H
                  clear H
                  have hnb39:=NB253_247.out
                  have hnc39:=NB247_253.out
                  have hcz40_0:w29.cell? ⟨gb253,0,none⟩=some (.int .i64 0):=(blk_cell BK253.out 0).trans rfl
                  have hcz40_1:w29.cell? ⟨gb253,1,none⟩=some (.int .i64 0):=(blk_cell BK253.out 1).trans rfl
                  have hcz40_2:w29.cell? ⟨gb253,2,none⟩=some (.int .i64 0):=(blk_cell BK253.out 2).trans rfl
                  have hfz40_0:=blk_frozen BK253.out 0
                  have hfz40_1:=blk_frozen BK253.out 1
                  have hfz40_2:=blk_frozen BK253.out 2
                  have hcz41_0:w29.cell? ⟨gb247,0,none⟩=some (.slice A0_0 l0_0.length c0_0):=(blk_cell BK247.out 0).trans rfl
                  have hcz41_1:w29.cell? ⟨gb247,1,none⟩=some (.int .i64 a0_1):=(blk_cell BK247.out 1).trans rfl
                  have hcz41_2:w29.cell? ⟨gb247,2,none⟩=some (.int .i64 a0_2):=(blk_cell BK247.out 2).trans rfl
                  have hcz41_3:w29.cell? ⟨gb247,3,none⟩=some (.slice (some ad252) l0_3.length c0_3):=(blk_cell BK247.out 3).trans rfl
                  have hcz41_4:w29.cell? ⟨gb247,4,none⟩=some (.slice A0_4 l0_4.length c0_4):=(blk_cell BK247.out 4).trans rfl
                  have hfz41_0:=blk_frozen BK247.out 0
                  have hfz41_1:=blk_frozen BK247.out 1
                  have hfz41_2:=blk_frozen BK247.out 2
                  have hfz41_3:=blk_frozen BK247.out 3
                  have hfz41_4:=blk_frozen BK247.out 4
                  go_wp2_with (first|(go_at_call 18;(with_reducible refine (understudyref05_utf.calls _ _ l0_0 ((rd_T42 l0_3 x5_4).f1) false _ ?side1 ?side2 A33.out).mono ?_);(case side1 => exact Kd.C_below HR0_0.out (by repeat (first|(with_reducible first|exact HB.out|apply below_alloc|apply pw_below_drewN|apply below_drew1|refine below_set ?_ GE247.out|refine below_set ?_ GE253.out)|exact HB.out)));(case side2 => exact HC0_0.out);rintro e w' ⟨rfl,⟨nd,rfl⟩⟩))
                  go_meet
                  case rel => exact ⟨_,(true),(by first|rfl|(simp;done)|(simp [*];done)),H',⟨by have:=HJ3.out;have:=HK2.out;have:=HJ16.out;have:=HK4.out;first|omega|exact Nat.le_refl _⟩,⟨by (with_reducible repeat (first|refine blk_drewN ?_ _|refine blk_drew ?_|refine blk_alloc ?_ _));refine blk_far ?_ NB247_253.out _;(with_reducible repeat (first|refine blk_drewN ?_ _|refine blk_drew ?_|refine blk_alloc ?_ _));refine blk_far ?_ NB247_253.out _;(with_reducible repeat (first|refine blk_drewN ?_ _|refine blk_drew ?_|refine blk_alloc ?_ _));refine blk_far ?_ NB247_253.out _;(with_reducible repeat (first|refine blk_drewN ?_ _|refine blk_drew ?_|refine blk_alloc ?_ _));exact BK247.out⟩,⟨by (with_reducible repeat (first|refine blk_drewN ?_ _|refine blk_drew ?_|refine blk_alloc ?_ _));refine blk_put (cs:=#[.int .i64 ((rd_T42 l0_3 x5_4).f0),.int .i64 ((rd_T42 l0_3 x5_4).f1),.int .i64 0]) ?_ 2 _ rfl;(with_reducible repeat (first|refine blk_drewN ?_ _|refine blk_drew ?_|refine blk_alloc ?_ _));refine blk_put (cs:=#[.int .i64 ((rd_T42 l0_3 x5_4).f0),.int .i64 0,.int .i64 0]) ?_ 1 _ rfl;(with_reducible repeat (first|refine blk_drewN ?_ _|refine blk_drew ?_|refine blk_alloc ?_ _));refine blk_put (cs:=#[.int .i64 0,.int .i64 0,.int .i64 0]) ?_ 0 _ rfl;(with_reducible repeat (first|refine blk_drewN ?_ _|refine blk_drew ?_|refine blk_alloc ?_ _));exact BK253.out⟩,⟨by repeat (first|(with_reducible first|exact HB.out|apply below_alloc|apply pw_below_drewN|apply below_drew1|refine below_set ?_ GE247.out|refine below_set ?_ GE253.out)|exact HB.out)⟩⟩
                ·rw [if_neg c32] at H
                 have c32b0:(((rd_T42 l0_3 x5_4).f0)==0)=false:=beq_eq_false_iff_ne.mpr c32
                 have c32b1:(((rd_T42 l0_3 x5_4).f0) != 0)=true:=bne_iff_ne.mpr c32
                 (first|rw [c32b0]|(simp only [i64_w,i32_w];rw [c32b0])|skip)
                 by_cases c42:((rd_T42 l0_3 x5_4).f0)=8
                 ·rw [if_pos c42] at H
                  have c42b0:(((rd_T42 l0_3 x5_4).f0)==8)=true:=beq_iff_eq.mpr c42
                  have c42b1:(((rd_T42 l0_3 x5_4).f0) != 8)=false:=bne_eq_false_iff_eq.mpr c42
                  clear c42
                  replace H:=Option.bind_eq_some_iff.mp H
                  obtain ⟨t256,A430,H⟩:=H
                  replace H:(if t256=true then ((understudyref05_utf.f l0_0 ((rd_T42 l0_3 x5_4).f2)).bind fun t257 => (understudyref05_Check.j4 k4 x5_4 (!t257) l0_0 a0_1 a0_2 l0_3 l0_4)) else (understudyref05_Check.j4 k4 x5_4 true l0_0 a0_1 a0_2 l0_3 l0_4))=some r:=H
                  have A43:=Aside0.mk A430
                  clear A430
                  by_cases c44:t256=true
                  ·subst c44
                   have H1:((understudyref05_utf.f l0_0 ((rd_T42 l0_3 x5_4).f2)).bind fun t257 => (understudyref05_Check.j4 k4 x5_4 (!t257) l0_0 a0_1 a0_2 l0_3 l0_4))=some r:=by rw [if_pos rfl] at H;exact H
                   clear H
                   have H:=H1
                   clear H1
                   replace H:=Option.bind_eq_some_iff.mp H
                   obtain ⟨t257,A450,H⟩:=H
                   replace H:(understudyref05_Check.j4 k4 x5_4 (!t257) l0_0 a0_1 a0_2 l0_3 l0_4)=some r:=H
                   have A45:=Aside0.mk A450
                   clear A450
                   have H':=Aside0.mk H
                   clear H
                   have hnb46:=NB253_247.out
                   have hnc46:=NB247_253.out
                   have hcz47_0:w29.cell? ⟨gb253,0,none⟩=some (.int .i64 0):=(blk_cell BK253.out 0).trans rfl
                   have hcz47_1:w29.cell? ⟨gb253,1,none⟩=some (.int .i64 0):=(blk_cell BK253.out 1).trans rfl
                   have hcz47_2:w29.cell? ⟨gb253,2,none⟩=some (.int .i64 0):=(blk_cell BK253.out 2).trans rfl
                   have hfz47_0:=blk_frozen BK253.out 0
                   have hfz47_1:=blk_frozen BK253.out 1
                   have hfz47_2:=blk_frozen BK253.out 2
                   have hcz48_0:w29.cell? ⟨gb247,0,none⟩=some (.slice A0_0 l0_0.length c0_0):=(blk_cell BK247.out 0).trans rfl
                   have hcz48_1:w29.cell? ⟨gb247,1,none⟩=some (.int .i64 a0_1):=(blk_cell BK247.out 1).trans rfl
                   have hcz48_2:w29.cell? ⟨gb247,2,none⟩=some (.int .i64 a0_2):=(blk_cell BK247.out 2).trans rfl
                   have hcz48_3:w29.cell? ⟨gb247,3,none⟩=some (.slice (some ad252) l0_3.length c0_3):=(blk_cell BK247.out 3).trans rfl
                   have hcz48_4:w29.cell? ⟨gb247,4,none⟩=some (.slice A0_4 l0_4.length c0_4):=(blk_cell BK247.out 4).trans rfl
                   have hfz48_0:=blk_frozen BK247.out 0
                   have hfz48_1:=blk_frozen BK247.out 1
                   have hfz48_2:=blk_frozen BK247.out 2
                   have hfz48_3:=blk_frozen BK247.out 3
                   have hfz48_4:=blk_frozen BK247.out 4
                   go_wp2_with (first|(go_at_call 18;(with_reducible refine (understudyref05_utf.calls _ _ l0_0 ((rd_T42 l0_3 x5_4).f1) true _ ?side1 ?side2 A43.out).mono ?_);(case side1 => exact Kd.C_below HR0_0.out (by repeat (first|(with_reducible first|exact HB.out|apply below_alloc|apply pw_below_drewN|apply below_drew1|refine below_set ?_ GE247.out|refine below_set ?_ GE253.out)|exact HB.out)));(case side2 => exact HC0_0.out);rintro e w' ⟨rfl,⟨nd,rfl⟩⟩)|(go_at_call 18;(with_reducible refine (understudyref05_utf.calls _ _ l0_0 ((rd_T42 l0_3 x5_4).f2) t257 _ ?side1 ?side2 A45.out).mono ?_);(case side1 => exact Kd.C_below HR0_0.out (by repeat (first|(with_reducible first|exact HB.out|apply below_alloc|apply pw_below_drewN|apply below_drew1|refine below_set ?_ GE247.out|refine below_set ?_ GE253.out)|exact HB.out)));(case side2 => exact HC0_0.out);rintro e w' ⟨rfl,⟨nd,rfl⟩⟩))
                   go_meet
                   case rel => exact ⟨_,(!t257),(by first|rfl|(simp;done)|(simp [*];done)),H',⟨by have:=HJ3.out;have:=HK2.out;have:=HJ16.out;have:=HK4.out;first|omega|exact Nat.le_refl _⟩,⟨by (with_reducible repeat (first|refine blk_drewN ?_ _|refine blk_drew ?_|refine blk_alloc ?_ _));refine blk_far ?_ NB247_253.out _;(with_reducible repeat (first|refine blk_drewN ?_ _|refine blk_drew ?_|refine blk_alloc ?_ _));refine blk_far ?_ NB247_253.out _;(with_reducible repeat (first|refine blk_drewN ?_ _|refine blk_drew ?_|refine blk_alloc ?_ _));refine blk_far ?_ NB247_253.out _;(with_reducible repeat (first|refine blk_drewN ?_ _|refine blk_drew ?_|refine blk_alloc ?_ _));exact BK247.out⟩,⟨by (with_reducible repeat (first|refine blk_drewN ?_ _|refine blk_drew ?_|refine blk_alloc ?_ _));refine blk_put (cs:=#[.int .i64 ((rd_T42 l0_3 x5_4).f0),.int .i64 ((rd_T42 l0_3 x5_4).f1),.int .i64 0]) ?_ 2 _ rfl;(with_reducible repeat (first|refine blk_drewN ?_ _|refine blk_drew ?_|refine blk_alloc ?_ _));refine blk_put (cs:=#[.int .i64 ((rd_T42 l0_3 x5_4).f0),.int .i64 0,.int .i64 0]) ?_ 1 _ rfl;(with_reducible repeat (first|refine blk_drewN ?_ _|refine blk_drew ?_|refine blk_alloc ?_ _));refine blk_put (cs:=#[.int .i64 0,.int .i64 0,.int .i64 0]) ?_ 0 _ rfl;(with_reducible repeat (first|refine blk_drewN ?_ _|refine blk_drew ?_|refine blk_alloc ?_ _));exact BK253.out⟩,⟨by repeat (first|(with_reducible first|exact HB.out|apply below_alloc|apply pw_below_drewN|apply below_drew1|refine below_set ?_ GE247.out|refine below_set ?_ GE253.out)|exact HB.out)⟩⟩
                  ·replace c44:=Bool.eq_false_iff.mpr c44
                   subst c44
                   have H1:(understudyref05_Check.j4 k4 x5_4 true l0_0 a0_1 a0_2 l0_3 l0_4)=some r:=by rw [if_neg (show ¬ (false=true) by decide)] at H;exact H
                   clear H
                   have H:=H1
                   clear H1
                   have H':=Aside0.mk H
                   clear H
                   have hnb49:=NB253_247.out
                   have hnc49:=NB247_253.out
                   have hcz50_0:w29.cell? ⟨gb253,0,none⟩=some (.int .i64 0):=(blk_cell BK253.out 0).trans rfl
                   have hcz50_1:w29.cell? ⟨gb253,1,none⟩=some (.int .i64 0):=(blk_cell BK253.out 1).trans rfl
                   have hcz50_2:w29.cell? ⟨gb253,2,none⟩=some (.int .i64 0):=(blk_cell BK253.out 2).trans rfl
                   have hfz50_0:=blk_frozen BK253.out 0
                   have hfz50_1:=blk_frozen BK253.out 1
                   have hfz50_2:=blk_frozen BK253.out 2
                   have hcz51_0:w29.cell? ⟨gb247,0,none⟩=some (.slice A0_0 l0_0.length c0_0):=(blk_cell BK247.out 0).trans rfl
                   have hcz51_1:w29.cell? ⟨gb247,1,none⟩=some (.int .i64 a0_1):=(blk_cell BK247.out 1).trans rfl
                   have hcz51_2:w29.cell? ⟨gb247,2,none⟩=some (.int .i64 a0_2):=(blk_cell BK247.out 2).trans rfl
                   have hcz51_3:w29.cell? ⟨gb247,3,none⟩=some (.slice (some ad252) l0_3.length c0_3):=(blk_cell BK247.out 3).trans rfl
                   have hcz51_4:w29.cell? ⟨gb247,4,none⟩=some (.slice A0_4 l0_4.length c0_4):=(blk_cell BK247.out 4).trans rfl
                   have hfz51_0:=blk_frozen BK247.out 0
                   have hfz51_1:=blk_frozen BK247.out 1
                   have hfz51_2:=blk_frozen BK247.out 2
                   have hfz51_3:=blk_frozen BK247.out 3
                   have hfz51_4:=blk_frozen BK247.out 4
                   go_wp2_with (first|(go_at_call 18;(with_reducible refine (understudyref05_utf.calls _ _ l0_0 ((rd_T42 l0_3 x5_4).f1) false _ ?side1 ?side2 A43.out).mono ?_);(case side1 => exact Kd.C_below HR0_0.out (by repeat (first|(with_reducible first|exact HB.out|apply below_alloc|apply pw_below_drewN|apply below_drew1|refine below_set ?_ GE247.out|refine below_set ?_ GE253.out)|exact HB.out)));(case side2 => exact HC0_0.out);rintro e w' ⟨rfl,⟨nd,rfl⟩⟩))
                   go_meet
                   case rel => exact ⟨_,(true),(by first|rfl|(simp;done)|(simp [*];done)),H',⟨by have:=HJ3.out;have:=HK2.out;have:=HJ16.out;have:=HK4.out;first|omega|exact Nat.le_refl _⟩,⟨by (with_reducible repeat (first|refine blk_drewN ?_ _|refine blk_drew ?_|refine blk_alloc ?_ _));refine blk_far ?_ NB247_253.out _;(with_reducible repeat (first|refine blk_drewN ?_ _|refine blk_drew ?_|refine blk_alloc ?_ _));refine blk_far ?_ NB247_253.out _;(with_reducible repeat (first|refine blk_drewN ?_ _|refine blk_drew ?_|refine blk_alloc ?_ _));refine blk_far ?_ NB247_253.out _;(with_reducible repeat (first|refine blk_drewN ?_ _|refine blk_drew ?_|refine blk_alloc ?_ _));exact BK247.out⟩,⟨by (with_reducible repeat (first|refine blk_drewN ?_ _|refine blk_drew ?_|refine blk_alloc ?_ _));refine blk_put (cs:=#[.int .i64 ((rd_T42 l0_3 x5_4).f0),.int .i64 ((rd_T42 l0_3 x5_4).f1),.int .i64 0]) ?_ 2 _ rfl;(with_reducible repeat (first|refine blk_drewN ?_ _|refine blk_drew ?_|refine blk_alloc ?_ _));refine blk_put (cs:=#[.int .i64 ((rd_T42 l0_3 x5_4).f0),.int .i64 0,.int .i64 0]) ?_ 1 _ rfl;(with_reducible repeat (first|refine blk_drewN ?_ _|refine blk_drew ?_|refine blk_alloc ?_ _));refine blk_put (cs:=#[.int .i64 0,.int .i64 0,.int .i64 0]) ?_ 0 _ rfl;(with_reducible repeat (first|refine blk_drewN ?_ _|refine blk_drew ?_|refine blk_alloc ?_ _));exact BK253.out⟩,⟨by repeat (first|(with_reducible first|exact HB.out|apply below_alloc|apply pw_below_drewN|apply below_drew1|refine below_set ?_ GE247.out|refine below_set ?_ GE253.out)|exact HB.out)⟩⟩
                 ·rw [if_neg c42] at H
                  have c42b0:(((rd_T42 l0_3 x5_4).f0)==8)=false:=beq_eq_false_iff_ne.mpr c42
                  have c42b1:(((rd_T42 l0_3 x5_4).f0) != 8)=true:=bne_iff_ne.mpr c42
                  have H':=Aside0.mk H
                  clear H
                  have hnb52:=NB253_247.out
                  have hnc52:=NB247_253.out
                  have hcz53_0:w29.cell? ⟨gb253,0,none⟩=some (.int .i64 0):=(blk_cell BK253.out 0).trans rfl
                  have hcz53_1:w29.cell? ⟨gb253,1,none⟩=some (.int .i64 0):=(blk_cell BK253.out 1).trans rfl
                  have hcz53_2:w29.cell? ⟨gb253,2,none⟩=some (.int .i64 0):=(blk_cell BK253.out 2).trans rfl
                  have hfz53_0:=blk_frozen BK253.out 0
                  have hfz53_1:=blk_frozen BK253.out 1
                  have hfz53_2:=blk_frozen BK253.out 2
                  go_wp2
                  go_meet
                  case rel => exact ⟨_,(true),(by first|rfl|(simp;done)|(simp [*];done)),H',⟨by have:=HJ3.out;have:=HK2.out;have:=HJ16.out;have:=HK4.out;first|omega|exact Nat.le_refl _⟩,⟨by (with_reducible repeat (first|refine blk_drewN ?_ _|refine blk_drew ?_|refine blk_alloc ?_ _));refine blk_far ?_ NB247_253.out _;(with_reducible repeat (first|refine blk_drewN ?_ _|refine blk_drew ?_|refine blk_alloc ?_ _));refine blk_far ?_ NB247_253.out _;(with_reducible repeat (first|refine blk_drewN ?_ _|refine blk_drew ?_|refine blk_alloc ?_ _));refine blk_far ?_ NB247_253.out _;(with_reducible repeat (first|refine blk_drewN ?_ _|refine blk_drew ?_|refine blk_alloc ?_ _));exact BK247.out⟩,⟨by (with_reducible repeat (first|refine blk_drewN ?_ _|refine blk_drew ?_|refine blk_alloc ?_ _));refine blk_put (cs:=#[.int .i64 ((rd_T42 l0_3 x5_4).f0),.int .i64 ((rd_T42 l0_3 x5_4).f1),.int .i64 0]) ?_ 2 _ rfl;(with_reducible repeat (first|refine blk_drewN ?_ _|refine blk_drew ?_|refine blk_alloc ?_ _));refine blk_put (cs:=#[.int .i64 ((rd_T42 l0_3 x5_4).f0),.int .i64 0,.int .i64 0]) ?_ 1 _ rfl;(with_reducible repeat (first|refine blk_drewN ?_ _|refine blk_drew ?_|refine blk_alloc ?_ _));refine blk_put (cs:=#[.int .i64 0,.int .i64 0,.int .i64 0]) ?_ 0 _ rfl;(with_reducible repeat (first|refine blk_drewN ?_ _|refine blk_drew ?_|refine blk_alloc ?_ _));exact BK253.out⟩,⟨by repeat (first|(with_reducible first|exact HB.out|apply below_alloc|apply pw_below_drewN|apply below_drew1|refine below_set ?_ GE247.out|refine below_set ?_ GE253.out)|exact HB.out)⟩⟩
               case rest =>
                clear HC27
                try clear c1;try clear c2;try clear p2;try clear q2;try clear hx2;try clear c3;try clear c3b0;try clear c3b1;try clear c4;try clear c5;try clear p6;try clear c8;try clear c8b0;try clear c8b1;try clear c11;try clear c12;try clear c12b0;try clear c13;try clear c13b0;try clear c14;try clear c14b0;try clear c14b1;try clear c16;try clear c17;try clear c20;try clear c24;try clear p24;try clear q24;try clear hx24;try clear c25;try clear c25b0;try clear p25;try clear q25;try clear hx25;try clear c26;try clear c26b0;try clear c30;try clear c32;try clear c32b0;try clear c32b1;try clear c34;try clear c36;try clear c39;try clear c42;try clear c42b0;try clear c42b1;try clear c44;try clear c46;try clear c49;try clear c52;try clear hcz10_0;try clear hcz10_1;try clear hcz10_2;try clear hcz10_3;try clear hcz10_4;try clear hcz15_0;try clear hcz15_1;try clear hcz15_2;try clear hcz15_3;try clear hcz15_4;try clear hcz16_0;try clear hcz16_1;try clear hcz16_2;try clear hcz16_3;try clear hcz16_4;try clear hcz18_0;try clear hcz18_1;try clear hcz18_2;try clear hcz18_3;try clear hcz18_4;try clear hcz22_0;try clear hcz22_1;try clear hcz22_2;try clear hcz22_3;try clear hcz22_4;try clear hcz23_0;try clear hcz23_1;try clear hcz23_2;try clear hcz23_3;try clear hcz23_4;try clear hcz28_0;try clear hcz28_1;try clear hcz28_2;try clear hcz28_3;try clear hcz28_4;try clear hcz31_0;try clear hcz31_1;try clear hcz31_2;try clear hcz37_0;try clear hcz37_1;try clear hcz37_2;try clear hcz38_0;try clear hcz38_1;try clear hcz38_2;try clear hcz38_3;try clear hcz38_4;try clear hcz40_0;try clear hcz40_1;try clear hcz40_2;try clear hcz41_0;try clear hcz41_1;try clear hcz41_2;try clear hcz41_3;try clear hcz41_4;try clear hcz47_0;try clear hcz47_1;try clear hcz47_2;try clear hcz48_0;try clear hcz48_1;try clear hcz48_2;try clear hcz48_3;try clear hcz48_4;try clear hcz50_0;try clear hcz50_1;try clear hcz50_2;try clear hcz51_0;try clear hcz51_1;try clear hcz51_2;try clear hcz51_3;try clear hcz51_4;try clear hcz53_0;try clear hcz53_1;try clear hcz53_2;try clear hcz6_0;try clear hcz6_1;try clear hcz6_2;try clear hcz6_3;try clear hcz6_4;try clear hcz9_0;try clear hcz9_1;try clear hcz9_2;try clear hcz9_3;try clear hcz9_4;try clear hfz10_0;try clear hfz10_1;try clear hfz10_2;try clear hfz10_3;try clear hfz10_4;try clear hfz15_0;try clear hfz15_1;try clear hfz15_2;try clear hfz15_3;try clear hfz15_4;try clear hfz16_0;try clear hfz16_1;try clear hfz16_2;try clear hfz16_3;try clear hfz16_4;try clear hfz18_0;try clear hfz18_1;try clear hfz18_2;try clear hfz18_3;try clear hfz18_4;try clear hfz22_0;try clear hfz22_1;try clear hfz22_2;try clear hfz22_3;try clear hfz22_4;try clear hfz23_0;try clear hfz23_1;try clear hfz23_2;try clear hfz23_3;try clear hfz23_4;try clear hfz28_0;try clear hfz28_1;try clear hfz28_2;try clear hfz28_3;try clear hfz28_4;try clear hfz31_0;try clear hfz31_1;try clear hfz31_2;try clear hfz37_0;try clear hfz37_1;try clear hfz37_2;try clear hfz38_0;try clear hfz38_1;try clear hfz38_2;try clear hfz38_3;try clear hfz38_4;try clear hfz40_0;try clear hfz40_1;try clear hfz40_2;try clear hfz41_0;try clear hfz41_1;try clear hfz41_2;try clear hfz41_3;try clear hfz41_4;try clear hfz47_0;try clear hfz47_1;try clear hfz47_2;try clear hfz48_0;try clear hfz48_1;try clear hfz48_2;try clear hfz48_3;try clear hfz48_4;try clear hfz50_0;try clear hfz50_1;try clear hfz50_2;try clear hfz51_0;try clear hfz51_1;try clear hfz51_2;try clear hfz51_3;try clear hfz51_4;try clear hfz53_0;try clear hfz53_1;try clear hfz53_2;try clear hfz6_0;try clear hfz6_1;try clear hfz6_2;try clear hfz6_3;try clear hfz6_4;try clear hfz9_0;try clear hfz9_1;try clear hfz9_2;try clear hfz9_3;try clear hfz9_4;try clear hx249_0;try clear hx249_1;try clear hx249_2;try clear hx249_3;try clear hx249_4;try clear hx249_5;try clear hx249_6;try clear hx249_7;try clear hx252_0;try clear hx252_1;try clear hx252_2;try clear p2;try clear p24;try clear p249;try clear p252;try clear p6;try clear q2;try clear q24;try clear q249;try clear q252
                obtain ⟨kq,x88_26,rfl,HA,HJ26,BK247,BK253,HB⟩:=hcut
                cases kq with
                | zero => exact absurd HA.out (by simp [understudyref05_Check.j4])
                | succ kj26 =>
                 have H:=HA.out
                 clear HA
                 simp only [understudyref05_Check.j4] at H
                 by_cases c54:x88_26=true
                 ·subst c54
                  have H1:(some 50)=some r:=by rw [if_pos rfl] at H;exact H
                  clear H
                  have H:=H1
                  clear H1
                  obtain rfl:=Option.some.inj H
                  go_wp2
                  go_ret
                  exact ⟨by first|rfl|(simp [errW_none,errW_some] <;> rfl)|(simp [*,errW_none,errW_some] <;> rfl),by repeat (first|(with_reducible first|exact HB.out|apply below_alloc|apply pw_below_drewN|apply below_drew1|refine below_set ?_ GE247.out|refine below_set ?_ GE253.out)|exact HB.out)⟩
                 ·replace c54:=Bool.eq_false_iff.mpr c54
                  subst c54
                  have H1:(understudyref05_Check.l1 kj26 (wrap64 (x5_4 + 1)) l0_0 a0_1 a0_2 l0_3 l0_4)=some r:=by rw [if_neg (show ¬ (false=true) by decide)] at H;exact H
                  clear H
                  have H:=H1
                  clear H1
                  have H':=Aside0.mk H
                  clear H
                  go_wp2
                  go_roundg kj26
                  case measure => have:=HJ3.out;have:=HK2.out;have:=HJ16.out;have:=HK4.out;have:=HJ26.out;omega
                  case rel => exact ⟨(wrap64 (x5_4 + 1)),(by first|rfl|(simp;done)|(simp [*];done)),H',⟨by have:=HJ3.out;have:=HK2.out;have:=HJ16.out;have:=HK4.out;have:=HJ26.out;omega⟩,⟨by (with_reducible repeat (first|refine blk_drewN ?_ _|refine blk_drew ?_|refine blk_alloc ?_ _));exact BK247.out⟩,⟨by repeat (first|(with_reducible first|exact HB.out|apply below_alloc|apply pw_below_drewN|apply below_drew1|refine below_set ?_ GE247.out|refine below_set ?_ GE253.out)|exact HB.out)⟩⟩
              ·rw [if_neg c26] at H
               exact absurd H (by simp)
             ·rw [if_neg c25] at H
              have c25b0:decide (x5_4 < (l0_3.length:Int))=false:=decide_eq_false c25
              clear c25
              have H':=Aside0.mk H
              clear H
              have hcz55_0:wr.cell? ⟨gb247,0,none⟩=some (.slice A0_0 l0_0.length c0_0):=(blk_cell BK247.out 0).trans rfl
              have hcz55_1:wr.cell? ⟨gb247,1,none⟩=some (.int .i64 a0_1):=(blk_cell BK247.out 1).trans rfl
              have hcz55_2:wr.cell? ⟨gb247,2,none⟩=some (.int .i64 a0_2):=(blk_cell BK247.out 2).trans rfl
              have hcz55_3:wr.cell? ⟨gb247,3,none⟩=some (.slice A0_3 l0_3.length c0_3):=(blk_cell BK247.out 3).trans rfl
              have hcz55_4:wr.cell? ⟨gb247,4,none⟩=some (.slice A0_4 l0_4.length c0_4):=(blk_cell BK247.out 4).trans rfl
              have hfz55_0:=blk_frozen BK247.out 0
              have hfz55_1:=blk_frozen BK247.out 1
              have hfz55_2:=blk_frozen BK247.out 2
              have hfz55_3:=blk_frozen BK247.out 3
              have hfz55_4:=blk_frozen BK247.out 4
              go_wp2
              go_loopg [7] k4 (fun kq v7 w' => ∃ (x7_5:Int),v7=.int .i64 x7_5∧Aside0 (understudyref05_Check.l2 kq x7_5 l0_0 a0_1 a0_2 l0_3 l0_4=some r)∧Aside0 (kq≤k4)∧Aside0 (w'.heap[gb247]?=some (.cells #[(.slice A0_0 l0_0.length c0_0),.int .i64 a0_1,.int .i64 a0_2,(.slice A0_3 l0_3.length c0_3),(.slice A0_4 l0_4.length c0_4)] 26 (0,0)))∧Aside0 (Below w.heap.size w w'))
              case atStart => exact ⟨(0),(by first|rfl|(simp;done)|(simp [*];done)),H',⟨Nat.le_refl _⟩,⟨by (with_reducible repeat (first|refine blk_drewN ?_ _|refine blk_drew ?_|refine blk_alloc ?_ _));exact BK247.out⟩,⟨by repeat (first|(with_reducible first|exact HB.out|apply below_alloc|apply pw_below_drewN|apply below_drew1|refine below_set ?_ GE247.out)|exact HB.out)⟩⟩
              case round =>
               clear H'
               try clear c1;try clear c2;try clear p2;try clear q2;try clear hx2;try clear c3;try clear c3b0;try clear c3b1;try clear c4;try clear c5;try clear p6;try clear c8;try clear c8b0;try clear c8b1;try clear c11;try clear c12;try clear c12b0;try clear c13;try clear c13b0;try clear c14;try clear c14b0;try clear c14b1;try clear c16;try clear c17;try clear c20;try clear c24;try clear p24;try clear q24;try clear hx24;try clear c25;try clear c25b0;try clear p25;try clear q25;try clear hx25;try clear c26;try clear c26b0;try clear c30;try clear c32;try clear c32b0;try clear c32b1;try clear c34;try clear c36;try clear c39;try clear c42;try clear c42b0;try clear c42b1;try clear c44;try clear c46;try clear c49;try clear c52;try clear c54;try clear hcz10_0;try clear hcz10_1;try clear hcz10_2;try clear hcz10_3;try clear hcz10_4;try clear hcz15_0;try clear hcz15_1;try clear hcz15_2;try clear hcz15_3;try clear hcz15_4;try clear hcz16_0;try clear hcz16_1;try clear hcz16_2;try clear hcz16_3;try clear hcz16_4;try clear hcz18_0;try clear hcz18_1;try clear hcz18_2;try clear hcz18_3;try clear hcz18_4;try clear hcz22_0;try clear hcz22_1;try clear hcz22_2;try clear hcz22_3;try clear hcz22_4;try clear hcz23_0;try clear hcz23_1;try clear hcz23_2;try clear hcz23_3;try clear hcz23_4;try clear hcz28_0;try clear hcz28_1;try clear hcz28_2;try clear hcz28_3;try clear hcz28_4;try clear hcz31_0;try clear hcz31_1;try clear hcz31_2;try clear hcz37_0;try clear hcz37_1;try clear hcz37_2;try clear hcz38_0;try clear hcz38_1;try clear hcz38_2;try clear hcz38_3;try clear hcz38_4;try clear hcz40_0;try clear hcz40_1;try clear hcz40_2;try clear hcz41_0;try clear hcz41_1;try clear hcz41_2;try clear hcz41_3;try clear hcz41_4;try clear hcz47_0;try clear hcz47_1;try clear hcz47_2;try clear hcz48_0;try clear hcz48_1;try clear hcz48_2;try clear hcz48_3;try clear hcz48_4;try clear hcz50_0;try clear hcz50_1;try clear hcz50_2;try clear hcz51_0;try clear hcz51_1;try clear hcz51_2;try clear hcz51_3;try clear hcz51_4;try clear hcz53_0;try clear hcz53_1;try clear hcz53_2;try clear hcz55_0;try clear hcz55_1;try clear hcz55_2;try clear hcz55_3;try clear hcz55_4;try clear hcz6_0;try clear hcz6_1;try clear hcz6_2;try clear hcz6_3;try clear hcz6_4;try clear hcz9_0;try clear hcz9_1;try clear hcz9_2;try clear hcz9_3;try clear hcz9_4;try clear hfz10_0;try clear hfz10_1;try clear hfz10_2;try clear hfz10_3;try clear hfz10_4;try clear hfz15_0;try clear hfz15_1;try clear hfz15_2;try clear hfz15_3;try clear hfz15_4;try clear hfz16_0;try clear hfz16_1;try clear hfz16_2;try clear hfz16_3;try clear hfz16_4;try clear hfz18_0;try clear hfz18_1;try clear hfz18_2;try clear hfz18_3;try clear hfz18_4;try clear hfz22_0;try clear hfz22_1;try clear hfz22_2;try clear hfz22_3;try clear hfz22_4;try clear hfz23_0;try clear hfz23_1;try clear hfz23_2;try clear hfz23_3;try clear hfz23_4;try clear hfz28_0;try clear hfz28_1;try clear hfz28_2;try clear hfz28_3;try clear hfz28_4;try clear hfz31_0;try clear hfz31_1;try clear hfz31_2;try clear hfz37_0;try clear hfz37_1;try clear hfz37_2;try clear hfz38_0;try clear hfz38_1;try clear hfz38_2;try clear hfz38_3;try clear hfz38_4;try clear hfz40_0;try clear hfz40_1;try clear hfz40_2;try clear hfz41_0;try clear hfz41_1;try clear hfz41_2;try clear hfz41_3;try clear hfz41_4;try clear hfz47_0;try clear hfz47_1;try clear hfz47_2;try clear hfz48_0;try clear hfz48_1;try clear hfz48_2;try clear hfz48_3;try clear hfz48_4;try clear hfz50_0;try clear hfz50_1;try clear hfz50_2;try clear hfz51_0;try clear hfz51_1;try clear hfz51_2;try clear hfz51_3;try clear hfz51_4;try clear hfz53_0;try clear hfz53_1;try clear hfz53_2;try clear hfz55_0;try clear hfz55_1;try clear hfz55_2;try clear hfz55_3;try clear hfz55_4;try clear hfz6_0;try clear hfz6_1;try clear hfz6_2;try clear hfz6_3;try clear hfz6_4;try clear hfz9_0;try clear hfz9_1;try clear hfz9_2;try clear hfz9_3;try clear hfz9_4;try clear hx249_0;try clear hx249_1;try clear hx249_2;try clear hx249_3;try clear hx249_4;try clear hx249_5;try clear hx249_6;try clear hx249_7;try clear hx252_0;try clear hx252_1;try clear hx252_2;try clear p2;try clear p24;try clear p249;try clear p25;try clear p252;try clear p6;try clear q2;try clear q24;try clear q249;try clear q25;try clear q252
               obtain ⟨x7_5,rfl,HA,HK5,BK247,HB⟩:=hrel
               cases gk with
               | zero => exact absurd HA.out (by simp [understudyref05_Check.l2])
               | succ k5 =>
                have H:=HA.out
                clear HA
                simp only [understudyref05_Check.l2] at H
                by_cases c56:x7_5 < (l0_4.length:Int)
                ·rw [if_pos c56] at H
                 have c56b0:decide (x7_5 < (l0_4.length:Int))=true:=decide_eq_true c56
                 clear c56
                 by_cases c57:0≤x7_5
                 ·rw [if_pos c57] at H
                  have c57b0:decide (0≤x7_5)=true:=decide_eq_true c57
                  clear c57
                  replace H:=Option.bind_eq_some_iff.mp H
                  obtain ⟨t259,A580,H⟩:=H
                  replace H:(if t259=true then (understudyref05_Check.l2 k5 (wrap64 (x7_5 + 1)) l0_0 a0_1 a0_2 l0_3 l0_4) else (some 50))=some r:=H
                  have A58:=Aside0.mk A580
                  clear A580
                  by_cases c59:t259=true
                  ·subst c59
                   have H1:(understudyref05_Check.l2 k5 (wrap64 (x7_5 + 1)) l0_0 a0_1 a0_2 l0_3 l0_4)=some r:=by rw [if_pos rfl] at H;exact H
                   clear H
                   have H:=H1
                   clear H1
                   have H':=Aside0.mk H
                   clear H
                   have hcz60_0:wr.cell? ⟨gb247,0,none⟩=some (.slice A0_0 l0_0.length c0_0):=(blk_cell BK247.out 0).trans rfl
                   have hcz60_1:wr.cell? ⟨gb247,1,none⟩=some (.int .i64 a0_1):=(blk_cell BK247.out 1).trans rfl
                   have hcz60_2:wr.cell? ⟨gb247,2,none⟩=some (.int .i64 a0_2):=(blk_cell BK247.out 2).trans rfl
                   have hcz60_3:wr.cell? ⟨gb247,3,none⟩=some (.slice A0_3 l0_3.length c0_3):=(blk_cell BK247.out 3).trans rfl
                   have hcz60_4:wr.cell? ⟨gb247,4,none⟩=some (.slice A0_4 l0_4.length c0_4):=(blk_cell BK247.out 4).trans rfl
                   have hfz60_0:=blk_frozen BK247.out 0
                   have hfz60_1:=blk_frozen BK247.out 1
                   have hfz60_2:=blk_frozen BK247.out 2
                   have hfz60_3:=blk_frozen BK247.out 3
                   have hfz60_4:=blk_frozen BK247.out 4
                   try go_wp2
                   have n0_:=Aside0.mk (blk_drew BK247.out)
                   have n1_:=Aside0.mk (below_drew1 HB.out)
                   clear BK247
                   clear HB
                   have BK247:=n0_
                   have HB:=n1_
                   clear n0_ n1_
                   have p258:0≤(x7_5:Int):=of_decide_eq_true (by first|(with_reducible assumption)|assumption)
                   have q258:x7_5 < (l0_4.length:Int):=of_decide_eq_true (by first|(with_reducible assumption)|assumption)
                   obtain ⟨ad258,A258_5,c258_5,A258_6,c258_6,A258_7,c258_7,e258,hx258_0,hx258_1,hx258_2,hx258_3,hx258_4,hx258_5,hx258_6,hx258_7,hl258_5,hi258_5,hl258_6,hi258_6,hl258_7,hi258_7⟩:=at_T37 HR0_4.out x7_5 p258 q258
                   have hw258_7:=hx258_7
                   have hw258_6:=hx258_6
                   have hw258_5:=hx258_5
                   have hw258_4:=hx258_4
                   have hw258_3:=hx258_3
                   have hw258_2:=hx258_2
                   have hw258_1:=hx258_1
                   have hw258_0:=hx258_0
                   cases e258
                   replace hx258_0:=(HB.out.cell (World.block_lt_of_cell? w _ hx258_0)).trans hx258_0
                   replace hx258_1:=(HB.out.cell (World.block_lt_of_cell? w _ hx258_1)).trans hx258_1
                   replace hx258_2:=(HB.out.cell (World.block_lt_of_cell? w _ hx258_2)).trans hx258_2
                   replace hx258_3:=(HB.out.cell (World.block_lt_of_cell? w _ hx258_3)).trans hx258_3
                   replace hx258_4:=(HB.out.cell (World.block_lt_of_cell? w _ hx258_4)).trans hx258_4
                   replace hx258_5:=(HB.out.cell (World.block_lt_of_cell? w _ hx258_5)).trans hx258_5
                   replace hx258_6:=(HB.out.cell (World.block_lt_of_cell? w _ hx258_6)).trans hx258_6
                   replace hx258_7:=(HB.out.cell (World.block_lt_of_cell? w _ hx258_7)).trans hx258_7
                   have HR258_5:=Aside0.mk hi258_5
                   have HC258_5:=Aside0.mk hl258_5
                   clear hi258_5 hl258_5
                   have HR258_6:=Aside0.mk hi258_6
                   have HC258_6:=Aside0.mk hl258_6
                   clear hi258_6 hl258_6
                   have HR258_7:=Aside0.mk hi258_7
                   have HC258_7:=Aside0.mk hl258_7
                   clear hi258_7 hl258_7
                   replace p258:=eq_true p258
                   replace q258:=eq_true q258
                   refine start_ (n:=9) (S:=fun w' => w'.cell? ⟨gb247,0,none⟩=some (.slice A0_0 l0_0.length c0_0)∧w'.cell? ⟨gb247,1,none⟩=some (.int .i64 a0_1)∧w'.cell? ⟨gb247,2,none⟩=some (.int .i64 a0_2)∧w'.cell? ⟨gb247,3,none⟩=some (.slice A0_3 l0_3.length c0_3)∧w'.cell? ⟨gb247,4,none⟩=some (.slice (some ad258) l0_4.length c0_4)∧w'.cell? (ad258.add ((x7_5).toNat * 8))=some (.int .i64 ((rd_T37 l0_4 x7_5).f0))∧w'.cell? ⟨(ad258.add ((x7_5).toNat * 8)).block,(ad258.add ((x7_5).toNat * 8)).off + 1,none⟩=some (.int .i64 ((rd_T37 l0_4 x7_5).f1))∧w'.cell? ⟨(ad258.add ((x7_5).toNat * 8)).block,(ad258.add ((x7_5).toNat * 8)).off + 2,none⟩=some (.int .i64 ((rd_T37 l0_4 x7_5).f2))∧w'.cell? ⟨(ad258.add ((x7_5).toNat * 8)).block,(ad258.add ((x7_5).toNat * 8)).off + 3,none⟩=some (.int .i64 ((rd_T37 l0_4 x7_5).f3))∧w'.cell? ⟨(ad258.add ((x7_5).toNat * 8)).block,(ad258.add ((x7_5).toNat * 8)).off + 4,none⟩=some (.int .i64 ((rd_T37 l0_4 x7_5).f4))∧w'.cell? ⟨(ad258.add ((x7_5).toNat * 8)).block,(ad258.add ((x7_5).toNat * 8)).off + 5,none⟩=some (.slice A258_5 ((rd_T37 l0_4 x7_5).f5).length c258_5)∧w'.cell? ⟨(ad258.add ((x7_5).toNat * 8)).block,(ad258.add ((x7_5).toNat * 8)).off + 6,none⟩=some (.slice A258_6 ((rd_T37 l0_4 x7_5).f6).length c258_6)∧w'.cell? ⟨(ad258.add ((x7_5).toNat * 8)).block,(ad258.add ((x7_5).toNat * 8)).off + 7,none⟩=some (.slice A258_7 ((rd_T37 l0_4 x7_5).f7).length c258_7)) (ds:=[]) #[false,false,false,false,false,false,false,false,false] (by kernel_rfl) rfl rfl ⟨(blk_cell BK247.out 0).trans rfl,(blk_cell BK247.out 1).trans rfl,(blk_cell BK247.out 2).trans rfl,(blk_cell BK247.out 3).trans rfl,(blk_cell BK247.out 4).trans rfl,((HB.out.cell (World.block_lt_of_cell? w _ hw258_0)).trans hw258_0),((HB.out.cell (World.block_lt_of_cell? w _ hw258_1)).trans hw258_1),((HB.out.cell (World.block_lt_of_cell? w _ hw258_2)).trans hw258_2),((HB.out.cell (World.block_lt_of_cell? w _ hw258_3)).trans hw258_3),((HB.out.cell (World.block_lt_of_cell? w _ hw258_4)).trans hw258_4),((HB.out.cell (World.block_lt_of_cell? w _ hw258_5)).trans hw258_5),((HB.out.cell (World.block_lt_of_cell? w _ hw258_6)).trans hw258_6),((HB.out.cell (World.block_lt_of_cell? w _ hw258_7)).trans hw258_7)⟩ (fun hHeld => ?_);refine with_tabW understudyref05_Check.tab22 understudyref05_Check.bits22 (fun HT_ HW_ => ?_)
                   generalize wr.drew=w61 at BK247 HB HR258_5 HR258_6 HR258_7 hx258_0 hx258_1 hx258_2 hx258_3 hx258_4 hx258_5 hx258_6 hx258_7 hHeld ⊢
                   refine pure_ (i:=0) (N:=some 96) (v:=?_) (a':=?_) #[true,false,false,false,false,false,false,false,false] rfl rfl (any_of HT_.out (by kernel_rfl)) (fun _ _ _ h => h) (Or.inl ⟨by rfl,?_⟩) ?_ ?_
                   rotate_left
                   ·intro w'
                    go_simp
                    with_reducible rfl
                   rotate_left
                   ·simp only [Act.put,List.setIfInBounds_toArray,List.set_cons_zero,List.set_cons_succ,i64_w,i32_w]
                    rfl
                   refine pure_ (i:=2) (N:=some 98) (v:=?_) (a':=?_) #[true,false,true,false,false,false,false,false,false] rfl rfl (any_of HT_.out (by kernel_rfl)) (fun _ _ _ h => h) (Or.inl ⟨by rfl,?_⟩) ?_ ?_
                   rotate_left
                   ·intro w'
                    go_simp
                    with_reducible rfl
                   rotate_left
                   ·simp only [Act.put,List.setIfInBounds_toArray,List.set_cons_zero,List.set_cons_succ,i64_w,i32_w]
                    rfl
                   refine pure_ (i:=4) (N:=some 100) (v:=?_) (a':=?_) #[true,false,true,false,true,false,false,false,false] rfl rfl (any_of HT_.out (by kernel_rfl)) (fun _ _ _ h => h) (Or.inl ⟨by rfl,?_⟩) ?_ ?_
                   rotate_left
                   ·intro w'
                    go_simp
                    with_reducible rfl
                   rotate_left
                   ·simp only [Act.put,List.setIfInBounds_toArray,List.set_cons_zero,List.set_cons_succ,i64_w,i32_w]
                    rfl
                   refine take_ (i:=1) (N:=some 97) (v:=?_) (a':=?_) #[true,true,true,false,true,false,false,false,false] rfl rfl (take_ofW HT_.out HW_.out (by kernel_rfl)) (fun _ _ _ h => h) (Or.inl ⟨by rfl,?_⟩) hHeld ?_ ?_
                   rotate_left
                   ·rintro w' ⟨s0,s1,s2,s3,s4,s5,s6,s7,s8,s9,s10,s11,s12⟩
                    go_simp
                    with_reducible rfl
                   rotate_left
                   ·simp only [Act.put,List.setIfInBounds_toArray,List.set_cons_zero,List.set_cons_succ,i64_w,i32_w]
                    rfl
                   refine take_ (i:=3) (N:=some 99) (v:=?_) (a':=?_) #[true,true,true,true,true,false,false,false,false] rfl rfl (take_ofW HT_.out HW_.out (by kernel_rfl)) (fun _ _ _ h => h) (Or.inl ⟨by rfl,?_⟩) hHeld ?_ ?_
                   rotate_left
                   ·rintro w' ⟨s0,s1,s2,s3,s4,s5,s6,s7,s8,s9,s10,s11,s12⟩
                    go_simp
                    with_reducible rfl
                   rotate_left
                   ·simp only [Act.put,List.setIfInBounds_toArray,List.set_cons_zero,List.set_cons_succ,i64_w,i32_w]
                    rfl
                   refine pure_ (i:=5) (N:=some 101) (v:=?_) (a':=?_) #[true,true,true,true,true,true,false,false,false] rfl rfl (any_of HT_.out (by kernel_rfl)) (fun _ _ _ h => h) (Or.inl ⟨by rfl,?_⟩) ?_ ?_
                   rotate_left
                   ·intro w'
                    go_simp
                    with_reducible rfl
                   rotate_left
                   ·simp only [Act.put,List.setIfInBounds_toArray,List.set_cons_zero,List.set_cons_succ,i64_w,i32_w]
                    rfl
                   refine take_ (i:=6) (N:=some 102) (v:=?_) (a':=?_) #[true,true,true,true,true,true,true,false,false] rfl rfl (take_ofW HT_.out HW_.out (by kernel_rfl)) (fun _ _ _ h => h) (Or.inl ⟨by rfl,?_⟩) hHeld ?_ ?_
                   rotate_left
                   ·rintro w' ⟨s0,s1,s2,s3,s4,s5,s6,s7,s8,s9,s10,s11,s12⟩
                    go_simp
                    with_reducible rfl
                   rotate_left
                   ·simp only [Act.put,List.setIfInBounds_toArray,List.set_cons_zero,List.set_cons_succ,i64_w,i32_w]
                    rfl
                   refine one_ (i:=7) (N:=some 103) #[true,true,true,true,true,true,true,true,false] rfl rfl (one_of HT_.out (by kernel_rfl)) (by decide) (fun K hK => ?_)
                   refine goes_ Tryd.func19 (by kernel_rfl) rfl #[.slice A0_0 l0_0.length c0_0,.agg #[.int .i64 ((rd_T37 l0_4 x7_5).f0),.int .i64 ((rd_T37 l0_4 x7_5).f1),.int .i64 ((rd_T37 l0_4 x7_5).f2),.int .i64 ((rd_T37 l0_4 x7_5).f3),.int .i64 ((rd_T37 l0_4 x7_5).f4),.slice A258_5 ((rd_T37 l0_4 x7_5).f5).length c258_5,.slice A258_6 ((rd_T37 l0_4 x7_5).f6).length c258_6,.slice A258_7 ((rd_T37 l0_4 x7_5).f7).length c258_7]] (by rfl) rfl rfl (by (try simp only [List.map_toArray,List.map_cons,List.map_nil]);first|done|rfl|(simp only [List.length_drop,List.length_take];rfl)) ?_
                   with_reducible refine (understudyref05_method.calls k5 _ _ l0_0 ((rd_T37 l0_4 x7_5).f0) ((rd_T37 l0_4 x7_5).f1) ((rd_T37 l0_4 x7_5).f2) ((rd_T37 l0_4 x7_5).f3) ((rd_T37 l0_4 x7_5).f4) _ _ ((rd_T37 l0_4 x7_5).f5) _ _ ((rd_T37 l0_4 x7_5).f6) _ _ ((rd_T37 l0_4 x7_5).f7) true _ ?side1 ?side2 ?side3 ?side4 ?side5 ?side6 ?side7 ?side8 A58.out).mono ?_
                   (case side1 => repeat (first|exact (Kd.C_below HR0_0.out HB.out)|(with_reducible refine Kd.C_alloc ?_ _)|(with_reducible refine Kd.C_drewN ?_ _)|(with_reducible refine Kd.C_drew ?_)))
                   (case side2 => exact HC0_0.out)
                   (case side3 => repeat (first|exact (Kd.C_below HR258_5.out HB.out)|(with_reducible refine Kd.C_alloc ?_ _)|(with_reducible refine Kd.C_drewN ?_ _)|(with_reducible refine Kd.C_drew ?_)))
                   (case side4 => exact HC258_5.out)
                   (case side5 => repeat (first|exact (Kd.C_below HR258_6.out HB.out)|(with_reducible refine Kd.C_alloc ?_ _)|(with_reducible refine Kd.C_drewN ?_ _)|(with_reducible refine Kd.C_drew ?_)))
                   (case side6 => exact HC258_6.out)
                   (case side7 => repeat (first|exact (Kd.C_below HR258_7.out HB.out)|(with_reducible refine Kd.C_alloc ?_ _)|(with_reducible refine Kd.C_drewN ?_ _)|(with_reducible refine Kd.C_drew ?_)))
                   (case side8 => exact HC258_7.out)
                   rintro e w62 ⟨rfl,hb⟩
                   refine ⟨_,rfl,?_⟩
                   have n0_:=Aside0.mk (blk_below (g:=gb247) (o:=.cells #[.slice A0_0 l0_0.length c0_0,.int .i64 a0_1,.int .i64 a0_2,.slice A0_3 l0_3.length c0_3,.slice (some ad258) l0_4.length c0_4] 26 (0,0)) (by (with_reducible repeat (first|refine blk_drewN ?_ _|refine blk_drew ?_|refine blk_alloc ?_ _));exact BK247.out) hb)
                   have n1_:=Aside0.mk (below_step (by repeat (first|(with_reducible first|exact HB.out|apply below_alloc|apply pw_below_drewN|apply below_drew1|refine below_set ?_ GE247.out)|exact HB.out)) hb)
                   clear BK247
                   clear HB
                   have BK247:=n0_
                   have HB:=n1_
                   clear n0_ n1_
                   (try clear hb)
                   (try clear hb2)
                   (try clear hk)
                   (try clear hi)
                   refine hK.out _ _ ⟨(blk_cell BK247.out 0).trans rfl,(blk_cell BK247.out 1).trans rfl,(blk_cell BK247.out 2).trans rfl,(blk_cell BK247.out 3).trans rfl,(blk_cell BK247.out 4).trans rfl,((HB.out.cell (World.block_lt_of_cell? w _ hw258_0)).trans hw258_0),((HB.out.cell (World.block_lt_of_cell? w _ hw258_1)).trans hw258_1),((HB.out.cell (World.block_lt_of_cell? w _ hw258_2)).trans hw258_2),((HB.out.cell (World.block_lt_of_cell? w _ hw258_3)).trans hw258_3),((HB.out.cell (World.block_lt_of_cell? w _ hw258_4)).trans hw258_4),((HB.out.cell (World.block_lt_of_cell? w _ hw258_5)).trans hw258_5),((HB.out.cell (World.block_lt_of_cell? w _ hw258_6)).trans hw258_6),((HB.out.cell (World.block_lt_of_cell? w _ hw258_7)).trans hw258_7)⟩ (fun hHeld => ?_)
                   clear hK K
                   refine norm_ (a':=?_) ?_ ?_
                   rotate_left
                   ·show Act.put _ (some 103) _=_
                    simp only [Act.put,List.setIfInBounds_toArray,List.set_cons_zero,List.set_cons_succ,i64_w,i32_w]
                    rfl
                   refine pure_ (i:=8) (N:=some 104) (v:=?_) (a':=?_) #[true,true,true,true,true,true,true,true,true] rfl rfl (any_of HT_.out (by kernel_rfl)) (fun _ _ _ h => h) (Or.inl ⟨by rfl,?_⟩) ?_ ?_
                   rotate_left
                   ·intro w'
                    go_simp
                    with_reducible rfl
                   rotate_left
                   ·simp only [Act.put,List.setIfInBounds_toArray,List.set_cons_zero,List.set_cons_succ,i64_w,i32_w]
                    rfl
                   refine done_ (done_of HT_.out (by kernel_rfl)) ?_
                   try go_wp2
                   go_roundg k5
                   case measure => have:=HJ3.out;have:=HK2.out;have:=HJ16.out;have:=HK4.out;have:=HK5.out;omega
                   case rel => exact ⟨(wrap64 (x7_5 + 1)),(by first|rfl|(simp;done)|(simp [*];done)),H',⟨by have:=HJ3.out;have:=HK2.out;have:=HJ16.out;have:=HK4.out;have:=HK5.out;omega⟩,⟨by (with_reducible repeat (first|refine blk_drewN ?_ _|refine blk_drew ?_|refine blk_alloc ?_ _));exact BK247.out⟩,⟨by repeat (first|(with_reducible first|exact HB.out|apply below_alloc|apply pw_below_drewN|apply below_drew1|refine below_set ?_ GE247.out)|exact HB.out)⟩⟩
                  ·replace c59:=Bool.eq_false_iff.mpr c59
                   subst c59
                   have H1:(some 50)=some r:=by rw [if_neg (show ¬ (false=true) by decide)] at H;exact H
                   clear H
                   have H:=H1
                   clear H1
                   obtain rfl:=Option.some.inj H
                   have hcz63_0:wr.cell? ⟨gb247,0,none⟩=some (.slice A0_0 l0_0.length c0_0):=(blk_cell BK247.out 0).trans rfl
                   have hcz63_1:wr.cell? ⟨gb247,1,none⟩=some (.int .i64 a0_1):=(blk_cell BK247.out 1).trans rfl
                   have hcz63_2:wr.cell? ⟨gb247,2,none⟩=some (.int .i64 a0_2):=(blk_cell BK247.out 2).trans rfl
                   have hcz63_3:wr.cell? ⟨gb247,3,none⟩=some (.slice A0_3 l0_3.length c0_3):=(blk_cell BK247.out 3).trans rfl
                   have hcz63_4:wr.cell? ⟨gb247,4,none⟩=some (.slice A0_4 l0_4.length c0_4):=(blk_cell BK247.out 4).trans rfl
                   have hfz63_0:=blk_frozen BK247.out 0
                   have hfz63_1:=blk_frozen BK247.out 1
                   have hfz63_2:=blk_frozen BK247.out 2
                   have hfz63_3:=blk_frozen BK247.out 3
                   have hfz63_4:=blk_frozen BK247.out 4
                   try go_wp2
                   have n0_:=Aside0.mk (blk_drew BK247.out)
                   have n1_:=Aside0.mk (below_drew1 HB.out)
                   clear BK247
                   clear HB
                   have BK247:=n0_
                   have HB:=n1_
                   clear n0_ n1_
                   have p258:0≤(x7_5:Int):=of_decide_eq_true (by first|(with_reducible assumption)|assumption)
                   have q258:x7_5 < (l0_4.length:Int):=of_decide_eq_true (by first|(with_reducible assumption)|assumption)
                   obtain ⟨ad258,A258_5,c258_5,A258_6,c258_6,A258_7,c258_7,e258,hx258_0,hx258_1,hx258_2,hx258_3,hx258_4,hx258_5,hx258_6,hx258_7,hl258_5,hi258_5,hl258_6,hi258_6,hl258_7,hi258_7⟩:=at_T37 HR0_4.out x7_5 p258 q258
                   have hw258_7:=hx258_7
                   have hw258_6:=hx258_6
                   have hw258_5:=hx258_5
                   have hw258_4:=hx258_4
                   have hw258_3:=hx258_3
                   have hw258_2:=hx258_2
                   have hw258_1:=hx258_1
                   have hw258_0:=hx258_0
                   cases e258
                   replace hx258_0:=(HB.out.cell (World.block_lt_of_cell? w _ hx258_0)).trans hx258_0
                   replace hx258_1:=(HB.out.cell (World.block_lt_of_cell? w _ hx258_1)).trans hx258_1
                   replace hx258_2:=(HB.out.cell (World.block_lt_of_cell? w _ hx258_2)).trans hx258_2
                   replace hx258_3:=(HB.out.cell (World.block_lt_of_cell? w _ hx258_3)).trans hx258_3
                   replace hx258_4:=(HB.out.cell (World.block_lt_of_cell? w _ hx258_4)).trans hx258_4
                   replace hx258_5:=(HB.out.cell (World.block_lt_of_cell? w _ hx258_5)).trans hx258_5
                   replace hx258_6:=(HB.out.cell (World.block_lt_of_cell? w _ hx258_6)).trans hx258_6
                   replace hx258_7:=(HB.out.cell (World.block_lt_of_cell? w _ hx258_7)).trans hx258_7
                   have HR258_5:=Aside0.mk hi258_5
                   have HC258_5:=Aside0.mk hl258_5
                   clear hi258_5 hl258_5
                   have HR258_6:=Aside0.mk hi258_6
                   have HC258_6:=Aside0.mk hl258_6
                   clear hi258_6 hl258_6
                   have HR258_7:=Aside0.mk hi258_7
                   have HC258_7:=Aside0.mk hl258_7
                   clear hi258_7 hl258_7
                   replace p258:=eq_true p258
                   replace q258:=eq_true q258
                   refine start_ (n:=9) (S:=fun w' => w'.cell? ⟨gb247,0,none⟩=some (.slice A0_0 l0_0.length c0_0)∧w'.cell? ⟨gb247,1,none⟩=some (.int .i64 a0_1)∧w'.cell? ⟨gb247,2,none⟩=some (.int .i64 a0_2)∧w'.cell? ⟨gb247,3,none⟩=some (.slice A0_3 l0_3.length c0_3)∧w'.cell? ⟨gb247,4,none⟩=some (.slice (some ad258) l0_4.length c0_4)∧w'.cell? (ad258.add ((x7_5).toNat * 8))=some (.int .i64 ((rd_T37 l0_4 x7_5).f0))∧w'.cell? ⟨(ad258.add ((x7_5).toNat * 8)).block,(ad258.add ((x7_5).toNat * 8)).off + 1,none⟩=some (.int .i64 ((rd_T37 l0_4 x7_5).f1))∧w'.cell? ⟨(ad258.add ((x7_5).toNat * 8)).block,(ad258.add ((x7_5).toNat * 8)).off + 2,none⟩=some (.int .i64 ((rd_T37 l0_4 x7_5).f2))∧w'.cell? ⟨(ad258.add ((x7_5).toNat * 8)).block,(ad258.add ((x7_5).toNat * 8)).off + 3,none⟩=some (.int .i64 ((rd_T37 l0_4 x7_5).f3))∧w'.cell? ⟨(ad258.add ((x7_5).toNat * 8)).block,(ad258.add ((x7_5).toNat * 8)).off + 4,none⟩=some (.int .i64 ((rd_T37 l0_4 x7_5).f4))∧w'.cell? ⟨(ad258.add ((x7_5).toNat * 8)).block,(ad258.add ((x7_5).toNat * 8)).off + 5,none⟩=some (.slice A258_5 ((rd_T37 l0_4 x7_5).f5).length c258_5)∧w'.cell? ⟨(ad258.add ((x7_5).toNat * 8)).block,(ad258.add ((x7_5).toNat * 8)).off + 6,none⟩=some (.slice A258_6 ((rd_T37 l0_4 x7_5).f6).length c258_6)∧w'.cell? ⟨(ad258.add ((x7_5).toNat * 8)).block,(ad258.add ((x7_5).toNat * 8)).off + 7,none⟩=some (.slice A258_7 ((rd_T37 l0_4 x7_5).f7).length c258_7)) (ds:=[]) #[false,false,false,false,false,false,false,false,false] (by kernel_rfl) rfl rfl ⟨(blk_cell BK247.out 0).trans rfl,(blk_cell BK247.out 1).trans rfl,(blk_cell BK247.out 2).trans rfl,(blk_cell BK247.out 3).trans rfl,(blk_cell BK247.out 4).trans rfl,((HB.out.cell (World.block_lt_of_cell? w _ hw258_0)).trans hw258_0),((HB.out.cell (World.block_lt_of_cell? w _ hw258_1)).trans hw258_1),((HB.out.cell (World.block_lt_of_cell? w _ hw258_2)).trans hw258_2),((HB.out.cell (World.block_lt_of_cell? w _ hw258_3)).trans hw258_3),((HB.out.cell (World.block_lt_of_cell? w _ hw258_4)).trans hw258_4),((HB.out.cell (World.block_lt_of_cell? w _ hw258_5)).trans hw258_5),((HB.out.cell (World.block_lt_of_cell? w _ hw258_6)).trans hw258_6),((HB.out.cell (World.block_lt_of_cell? w _ hw258_7)).trans hw258_7)⟩ (fun hHeld => ?_);refine with_tabW understudyref05_Check.tab22 understudyref05_Check.bits22 (fun HT_ HW_ => ?_)
                   generalize wr.drew=w64 at BK247 HB HR258_5 HR258_6 HR258_7 hx258_0 hx258_1 hx258_2 hx258_3 hx258_4 hx258_5 hx258_6 hx258_7 hHeld ⊢
                   refine pure_ (i:=0) (N:=some 96) (v:=?_) (a':=?_) #[true,false,false,false,false,false,false,false,false] rfl rfl (any_of HT_.out (by kernel_rfl)) (fun _ _ _ h => h) (Or.inl ⟨by rfl,?_⟩) ?_ ?_
                   rotate_left
                   ·intro w'
                    go_simp
                    with_reducible rfl
                   rotate_left
                   ·simp only [Act.put,List.setIfInBounds_toArray,List.set_cons_zero,List.set_cons_succ,i64_w,i32_w]
                    rfl
                   refine pure_ (i:=2) (N:=some 98) (v:=?_) (a':=?_) #[true,false,true,false,false,false,false,false,false] rfl rfl (any_of HT_.out (by kernel_rfl)) (fun _ _ _ h => h) (Or.inl ⟨by rfl,?_⟩) ?_ ?_
                   rotate_left
                   ·intro w'
                    go_simp
                    with_reducible rfl
                   rotate_left
                   ·simp only [Act.put,List.setIfInBounds_toArray,List.set_cons_zero,List.set_cons_succ,i64_w,i32_w]
                    rfl
                   refine pure_ (i:=4) (N:=some 100) (v:=?_) (a':=?_) #[true,false,true,false,true,false,false,false,false] rfl rfl (any_of HT_.out (by kernel_rfl)) (fun _ _ _ h => h) (Or.inl ⟨by rfl,?_⟩) ?_ ?_
                   rotate_left
                   ·intro w'
                    go_simp
                    with_reducible rfl
                   rotate_left
                   ·simp only [Act.put,List.setIfInBounds_toArray,List.set_cons_zero,List.set_cons_succ,i64_w,i32_w]
                    rfl
                   refine take_ (i:=1) (N:=some 97) (v:=?_) (a':=?_) #[true,true,true,false,true,false,false,false,false] rfl rfl (take_ofW HT_.out HW_.out (by kernel_rfl)) (fun _ _ _ h => h) (Or.inl ⟨by rfl,?_⟩) hHeld ?_ ?_
                   rotate_left
                   ·rintro w' ⟨s0,s1,s2,s3,s4,s5,s6,s7,s8,s9,s10,s11,s12⟩
                    go_simp
                    with_reducible rfl
                   rotate_left
                   ·simp only [Act.put,List.setIfInBounds_toArray,List.set_cons_zero,List.set_cons_succ,i64_w,i32_w]
                    rfl
                   refine take_ (i:=3) (N:=some 99) (v:=?_) (a':=?_) #[true,true,true,true,true,false,false,false,false] rfl rfl (take_ofW HT_.out HW_.out (by kernel_rfl)) (fun _ _ _ h => h) (Or.inl ⟨by rfl,?_⟩) hHeld ?_ ?_
                   rotate_left
                   ·rintro w' ⟨s0,s1,s2,s3,s4,s5,s6,s7,s8,s9,s10,s11,s12⟩
                    go_simp
                    with_reducible rfl
                   rotate_left
                   ·simp only [Act.put,List.setIfInBounds_toArray,List.set_cons_zero,List.set_cons_succ,i64_w,i32_w]
                    rfl
                   refine pure_ (i:=5) (N:=some 101) (v:=?_) (a':=?_) #[true,true,true,true,true,true,false,false,false] rfl rfl (any_of HT_.out (by kernel_rfl)) (fun _ _ _ h => h) (Or.inl ⟨by rfl,?_⟩) ?_ ?_
                   rotate_left
                   ·intro w'
                    go_simp
                    with_reducible rfl
                   rotate_left
                   ·simp only [Act.put,List.setIfInBounds_toArray,List.set_cons_zero,List.set_cons_succ,i64_w,i32_w]
                    rfl
                   refine take_ (i:=6) (N:=some 102) (v:=?_) (a':=?_) #[true,true,true,true,true,true,true,false,false] rfl rfl (take_ofW HT_.out HW_.out (by kernel_rfl)) (fun _ _ _ h => h) (Or.inl ⟨by rfl,?_⟩) hHeld ?_ ?_
                   rotate_left
                   ·rintro w' ⟨s0,s1,s2,s3,s4,s5,s6,s7,s8,s9,s10,s11,s12⟩
                    go_simp
                    with_reducible rfl
                   rotate_left
                   ·simp only [Act.put,List.setIfInBounds_toArray,List.set_cons_zero,List.set_cons_succ,i64_w,i32_w]
                    rfl
                   refine one_ (i:=7) (N:=some 103) #[true,true,true,true,true,true,true,true,false] rfl rfl (one_of HT_.out (by kernel_rfl)) (by decide) (fun K hK => ?_)
                   refine goes_ Tryd.func19 (by kernel_rfl) rfl #[.slice A0_0 l0_0.length c0_0,.agg #[.int .i64 ((rd_T37 l0_4 x7_5).f0),.int .i64 ((rd_T37 l0_4 x7_5).f1),.int .i64 ((rd_T37 l0_4 x7_5).f2),.int .i64 ((rd_T37 l0_4 x7_5).f3),.int .i64 ((rd_T37 l0_4 x7_5).f4),.slice A258_5 ((rd_T37 l0_4 x7_5).f5).length c258_5,.slice A258_6 ((rd_T37 l0_4 x7_5).f6).length c258_6,.slice A258_7 ((rd_T37 l0_4 x7_5).f7).length c258_7]] (by rfl) rfl rfl (by (try simp only [List.map_toArray,List.map_cons,List.map_nil]);first|done|rfl|(simp only [List.length_drop,List.length_take];rfl)) ?_
                   with_reducible refine (understudyref05_method.calls k5 _ _ l0_0 ((rd_T37 l0_4 x7_5).f0) ((rd_T37 l0_4 x7_5).f1) ((rd_T37 l0_4 x7_5).f2) ((rd_T37 l0_4 x7_5).f3) ((rd_T37 l0_4 x7_5).f4) _ _ ((rd_T37 l0_4 x7_5).f5) _ _ ((rd_T37 l0_4 x7_5).f6) _ _ ((rd_T37 l0_4 x7_5).f7) false _ ?side1 ?side2 ?side3 ?side4 ?side5 ?side6 ?side7 ?side8 A58.out).mono ?_
                   (case side1 => repeat (first|exact (Kd.C_below HR0_0.out HB.out)|(with_reducible refine Kd.C_alloc ?_ _)|(with_reducible refine Kd.C_drewN ?_ _)|(with_reducible refine Kd.C_drew ?_)))
                   (case side2 => exact HC0_0.out)
                   (case side3 => repeat (first|exact (Kd.C_below HR258_5.out HB.out)|(with_reducible refine Kd.C_alloc ?_ _)|(with_reducible refine Kd.C_drewN ?_ _)|(with_reducible refine Kd.C_drew ?_)))
                   (case side4 => exact HC258_5.out)
                   (case side5 => repeat (first|exact (Kd.C_below HR258_6.out HB.out)|(with_reducible refine Kd.C_alloc ?_ _)|(with_reducible refine Kd.C_drewN ?_ _)|(with_reducible refine Kd.C_drew ?_)))
                   (case side6 => exact HC258_6.out)
                   (case side7 => repeat (first|exact (Kd.C_below HR258_7.out HB.out)|(with_reducible refine Kd.C_alloc ?_ _)|(with_reducible refine Kd.C_drewN ?_ _)|(with_reducible refine Kd.C_drew ?_)))
                   (case side8 => exact HC258_7.out)
                   rintro e w65 ⟨rfl,hb⟩
                   refine ⟨_,rfl,?_⟩
                   have n0_:=Aside0.mk (blk_below (g:=gb247) (o:=.cells #[.slice A0_0 l0_0.length c0_0,.int .i64 a0_1,.int .i64 a0_2,.slice A0_3 l0_3.length c0_3,.slice (some ad258) l0_4.length c0_4] 26 (0,0)) (by (with_reducible repeat (first|refine blk_drewN ?_ _|refine blk_drew ?_|refine blk_alloc ?_ _));exact BK247.out) hb)
                   have n1_:=Aside0.mk (below_step (by repeat (first|(with_reducible first|exact HB.out|apply below_alloc|apply pw_below_drewN|apply below_drew1|refine below_set ?_ GE247.out)|exact HB.out)) hb)
                   clear BK247
                   clear HB
                   have BK247:=n0_
                   have HB:=n1_
                   clear n0_ n1_
                   (try clear hb)
                   (try clear hb2)
                   (try clear hk)
                   (try clear hi)
                   refine hK.out _ _ ⟨(blk_cell BK247.out 0).trans rfl,(blk_cell BK247.out 1).trans rfl,(blk_cell BK247.out 2).trans rfl,(blk_cell BK247.out 3).trans rfl,(blk_cell BK247.out 4).trans rfl,((HB.out.cell (World.block_lt_of_cell? w _ hw258_0)).trans hw258_0),((HB.out.cell (World.block_lt_of_cell? w _ hw258_1)).trans hw258_1),((HB.out.cell (World.block_lt_of_cell? w _ hw258_2)).trans hw258_2),((HB.out.cell (World.block_lt_of_cell? w _ hw258_3)).trans hw258_3),((HB.out.cell (World.block_lt_of_cell? w _ hw258_4)).trans hw258_4),((HB.out.cell (World.block_lt_of_cell? w _ hw258_5)).trans hw258_5),((HB.out.cell (World.block_lt_of_cell? w _ hw258_6)).trans hw258_6),((HB.out.cell (World.block_lt_of_cell? w _ hw258_7)).trans hw258_7)⟩ (fun hHeld => ?_)
                   clear hK K
                   refine norm_ (a':=?_) ?_ ?_
                   rotate_left
                   ·show Act.put _ (some 103) _=_
                    simp only [Act.put,List.setIfInBounds_toArray,List.set_cons_zero,List.set_cons_succ,i64_w,i32_w]
                    rfl
                   refine pure_ (i:=8) (N:=some 104) (v:=?_) (a':=?_) #[true,true,true,true,true,true,true,true,true] rfl rfl (any_of HT_.out (by kernel_rfl)) (fun _ _ _ h => h) (Or.inl ⟨by rfl,?_⟩) ?_ ?_
                   rotate_left
                   ·intro w'
                    go_simp
                    with_reducible rfl
                   rotate_left
                   ·simp only [Act.put,List.setIfInBounds_toArray,List.set_cons_zero,List.set_cons_succ,i64_w,i32_w]
                    rfl
                   refine done_ (done_of HT_.out (by kernel_rfl)) ?_
                   try go_wp2
                   go_ret
                   exact ⟨by first|rfl|(simp [errW_none,errW_some] <;> rfl)|(simp [*,errW_none,errW_some] <;> rfl),by repeat (first|(with_reducible first|exact HB.out|apply below_alloc|apply pw_below_drewN|apply below_drew1|refine below_set ?_ GE247.out)|exact HB.out)⟩
                 ·rw [if_neg c57] at H
                  exact absurd H (by simp)
                ·rw [if_neg c56] at H
                 have c56b0:decide (x7_5 < (l0_4.length:Int))=false:=decide_eq_false c56
                 clear c56
                 obtain rfl:=Option.some.inj H
                 have hcz66_0:wr.cell? ⟨gb247,0,none⟩=some (.slice A0_0 l0_0.length c0_0):=(blk_cell BK247.out 0).trans rfl
                 have hcz66_1:wr.cell? ⟨gb247,1,none⟩=some (.int .i64 a0_1):=(blk_cell BK247.out 1).trans rfl
                 have hcz66_2:wr.cell? ⟨gb247,2,none⟩=some (.int .i64 a0_2):=(blk_cell BK247.out 2).trans rfl
                 have hcz66_3:wr.cell? ⟨gb247,3,none⟩=some (.slice A0_3 l0_3.length c0_3):=(blk_cell BK247.out 3).trans rfl
                 have hcz66_4:wr.cell? ⟨gb247,4,none⟩=some (.slice A0_4 l0_4.length c0_4):=(blk_cell BK247.out 4).trans rfl
                 have hfz66_0:=blk_frozen BK247.out 0
                 have hfz66_1:=blk_frozen BK247.out 1
                 have hfz66_2:=blk_frozen BK247.out 2
                 have hfz66_3:=blk_frozen BK247.out 3
                 have hfz66_4:=blk_frozen BK247.out 4
                 go_wp2
                 go_ret
                 exact ⟨by first|rfl|(simp [errW_none,errW_some] <;> rfl)|(simp [*,errW_none,errW_some] <;> rfl),by repeat (first|(with_reducible first|exact HB.out|apply below_alloc|apply pw_below_drewN|apply below_drew1|refine below_set ?_ GE247.out)|exact HB.out)⟩
 ·rw [if_neg c3] at H
  have c3b0:(t248==0)=false:=beq_eq_false_iff_ne.mpr c3
  have c3b1:(t248 != 0)=true:=bne_iff_ne.mpr c3
  obtain rfl:=Option.some.inj H
  go_enter Tryd.func5,Tryd.ntmps5
  go_wp2_with (first|((with_reducible refine gate_dst (N:=1) rfl ?_);(try (refine gate_guard (by rfl) ?_;dsimp only));refine box_event ?hg (N:=1) ?hd (cs:=#[.slice A0_0 l0_0.length c0_0,.int .i64 a0_1,.int .i64 a0_2,.slice A0_3 l0_3.length c0_3,.slice A0_4 l0_4.length c0_4]) (t:=26) ?hr ?_;(case hd => rfl);(case hg => rfl);(case hr => first|(go_simp;done)|(go_simp;rfl));intro gb247 hg w67 hbox hb;have n0_:=Aside0.mk (below_step (by repeat (first|(with_reducible first|exact HB.out|apply below_alloc|apply pw_below_drewN|apply below_drew1)|exact HB.out)) hb);have n1_:=Aside0.mk (hbox);have n2_:=Aside0.mk ((by rw [hg];exact (below_size (by repeat (first|(with_reducible first|exact HB.out|apply below_alloc|apply pw_below_drewN|apply below_drew1)|exact HB.out))):w.heap.size≤gb247));have n3_:=Aside0.mk ((by rw [hg];exact (below_size (by repeat (first|(with_reducible first|exact HB.out|apply below_alloc|apply pw_below_drewN|apply below_drew1)|exact HB.out))):w.heap.size≤gb247));clear HB;have HB:=n0_;have BK247:=n1_;have GW247:=n2_;have GE247:=n3_;clear n0_ n1_ n2_ n3_;clear hb hbox hg;have hcz68_0:w67.cell? ⟨gb247,0,none⟩=some (.slice A0_0 l0_0.length c0_0):=(blk_cell BK247.out 0).trans rfl;have hcz68_1:w67.cell? ⟨gb247,1,none⟩=some (.int .i64 a0_1):=(blk_cell BK247.out 1).trans rfl;have hcz68_2:w67.cell? ⟨gb247,2,none⟩=some (.int .i64 a0_2):=(blk_cell BK247.out 2).trans rfl;have hcz68_3:w67.cell? ⟨gb247,3,none⟩=some (.slice A0_3 l0_3.length c0_3):=(blk_cell BK247.out 3).trans rfl;have hcz68_4:w67.cell? ⟨gb247,4,none⟩=some (.slice A0_4 l0_4.length c0_4):=(blk_cell BK247.out 4).trans rfl;have hfz68_0:=blk_frozen BK247.out 0;have hfz68_1:=blk_frozen BK247.out 1;have hfz68_2:=blk_frozen BK247.out 2;have hfz68_3:=blk_frozen BK247.out 3;have hfz68_4:=blk_frozen BK247.out 4)|((with_reducible refine gate_callee (f:=16) rfl ?_);refine goesL_ (some 10) rfl rfl Tryd.func16 (by kernel_rfl) rfl #[.slice A0_0 l0_0.length c0_0] rfl (by (try simp only [List.map_toArray,List.map_cons,List.map_nil]);first|done|rfl|(simp only [List.length_drop,List.length_take];rfl)) ?_;(with_reducible refine (understudyref04_Check.calls k _ _ l0_0 t248 _ ?side1 ?side2 A2.out).mono ?_);(case side1 => repeat (first|exact (Kd.C_below HR0_0.out HB.out)|(with_reducible refine Kd.C_alloc ?_ _)|(with_reducible refine Kd.C_drewN ?_ _)|(with_reducible refine Kd.C_drew ?_)));(case side2 => exact HC0_0.out);rintro e w69 ⟨rfl,hb⟩;refine ⟨_,rfl,?_⟩;have n0_:=Aside0.mk (blk_below (g:=gb247) (o:=.cells #[.slice A0_0 l0_0.length c0_0,.int .i64 a0_1,.int .i64 a0_2,.slice A0_3 l0_3.length c0_3,.slice A0_4 l0_4.length c0_4] 26 (0,0)) (by (with_reducible repeat (first|refine blk_drewN ?_ _|refine blk_drew ?_|refine blk_alloc ?_ _));exact BK247.out) hb);have n1_:=Aside0.mk (below_step (by repeat (first|(with_reducible first|exact HB.out|apply below_alloc|apply pw_below_drewN|apply below_drew1|refine below_set ?_ GE247.out)|exact HB.out)) hb);clear BK247;clear HB;have BK247:=n0_;have HB:=n1_;clear n0_ n1_;(try clear hb);(try clear hb2);(try clear hk);(try clear hi)))
  go_ret
  exact ⟨by first|rfl|(simp [errW_none,errW_some] <;> rfl)|(simp [*,errW_none,errW_some] <;> rfl),by repeat (first|(with_reducible first|exact HB.out|apply below_alloc|apply pw_below_drewN|apply below_drew1|refine below_set ?_ GE247.out)|exact HB.out)⟩
end Go.Proofs.YtiolgmklpldpcaaDoor.Px
