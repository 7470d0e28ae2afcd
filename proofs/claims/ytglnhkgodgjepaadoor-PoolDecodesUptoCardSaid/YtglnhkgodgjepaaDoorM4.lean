/- errors.As at the target that pool.Check hands it: the worked example toyas, turned to this program. -/
/- text.Encode: what the Go function computes, as a Lean function, and the walk of it; utf8.ValidString by the shelf's contract, text.split and text.unit by the printed contracts. -/
import Derived.Test.YtglnhkgodgjepaaDoorM1
import Derived.Test.YtglnhkgodgjepaaDoorM2
import Derived.Test.YtglnhkgodgjepaaDoorM3
import Derived.WalkKit
import Derived.LaidEql
import Derived.Stop.Asserts
import Derived.RowKitTokens
import Derived.Lib.OthersKept
import Derived.BigCall
import Derived.Shelf.Unicode.ValidAny
namespace Go.Proofs.YtglnhkgodgjepaaDoor.Px
open Go.RowKit Go.Proofs.YtglnhkgodgjepaaDoorW.PrintWords Go.Proofs.YtglnhkgodgjepaaDoorW.PrintLast Go.Proofs.YtglnhkgodgjepaaDoorW.PrintMore
attribute [local go_sem] max2_int min2_int max_two min_two max_three min_three max_four min_four
set_option linter.unusedVariables false
set_option linter.unusedSimpArgs false
attribute [local go_sem high] eqA33
def understudyref04_Decode.l0:Nat→Int→List (S33)→Int→List Int→Int→Option ((List (S33)) × Int × Int)
 | 0,_,_,_,_,_ => none
 | k + 1,x6,x8,x9,x293000,x293001 => if x9 < (wrap64 (x6)) then ((understudyref01_Reader_Uint.f k x293000 x293001 1).bind fun bt300 => (if bt300.2.1=0 then ((understudyref04_read.f k x293000 bt300.2.2 (wrap64 (bt300.1))).bind fun bt303 => (if bt303.2.2.2.2.2.1=0 then (if x8.length < 2932031007402 then (understudyref04_Decode.l0 k x6 (x8++[(⟨bt303.1,bt303.2.1,bt303.2.2.1,bt303.2.2.2.1,bt303.2.2.2.2.1⟩:S33)]) (wrap64 (x9 + 1)) x293000 bt303.2.2.2.2.2.2) else (none)) else (some (([]:List (S33)),0,bt303.2.2.2.2.2.1)))) else (some (([]:List (S33)),0,bt300.2.1)))) else ((understudyref04_Check.f k x8).bind fun t299 => (if t299=0 then (some (x8,x293001,0)) else (some (([]:List (S33)),0,t299))))
def understudyref04_Decode.f (k:Nat) (l0:List Int):Option ((List (S33)) × Int × Int):=(understudyref01_Reader_Uint.f k l0 0 2).bind fun bt293 => (if bt293.2.1=0 then (if bt293.1 > 1024 then (some (([]:List (S33)),0,2)) else (if bt293.1=0 then (some (([]:List (S33)),0,40)) else (understudyref04_Decode.l0 k bt293.1 (([(⟨0,(⟨#[]⟩:ByteArray),0,0,0⟩:S33)]:List (S33))) 1 l0 bt293.2.2))) else (some (([]:List (S33)),0,bt293.2.1)))
theorem understudyref04_Decode.mono_l:∀ k,(∀ y0 y1 y2 y3 y4,LeO (understudyref04_Decode.l0 k y0 y1 y2 y3 y4) (understudyref04_Decode.l0 (k + 1) y0 y1 y2 y3 y4))
 | 0 => fun _ _ _ _ _ r h => by simp [understudyref04_Decode.l0] at h
 | k + 1 => by
  have ih0:=understudyref04_Decode.mono_l k
  ·intro y0 y1 y2 y3 y4
   unfold understudyref04_Decode.l0
   repeat' first
   | (with_reducible exact ih0 _ _ _ _ _)
   | (with_reducible exact understudyref01_Reader_Uint.mono _ _ _ _)
   | (with_reducible exact understudyref04_Check.mono _ _)
   | (with_reducible exact understudyref04_read.mono _ _ _ _)
   | (with_reducible exact LeO.refl _)
   | (with_reducible exact LeO.none _)
   | (with_reducible refine LeO.ite ?_ ?_)
   | (with_reducible refine LeO.bind ?_ (fun _ => ?_))
   | exact ih0 _ _ _ _ _
   | exact understudyref01_Reader_Uint.mono _ _ _ _
   | exact understudyref04_Check.mono _ _
   | exact understudyref04_read.mono _ _ _ _
   | exact LeO.none _
   | refine LeO.ite ?_ ?_
   | refine LeO.bind ?_ (fun _ => ?_)
theorem understudyref04_Decode.mono:∀ a0 k,LeO (understudyref04_Decode.f k a0) (understudyref04_Decode.f (k + 1) a0):=by
 intro a0 k
 have ih0:=understudyref04_Decode.mono_l k
 unfold understudyref04_Decode.f
 repeat' first
   | (with_reducible exact ih0 _ _ _ _ _)
   | (with_reducible exact understudyref01_Reader_Uint.mono _ _ _ _)
   | (with_reducible exact understudyref04_Check.mono _ _)
   | (with_reducible exact understudyref04_read.mono _ _ _ _)
   | (with_reducible exact LeO.refl _)
   | (with_reducible exact LeO.none _)
   | (with_reducible refine LeO.ite ?_ ?_)
   | (with_reducible refine LeO.bind ?_ (fun _ => ?_))
   | exact ih0 _ _ _ _ _
   | exact understudyref01_Reader_Uint.mono _ _ _ _
   | exact understudyref04_Check.mono _ _
   | exact understudyref04_read.mono _ _ _ _
   | exact LeO.none _
   | refine LeO.ite ?_ ?_
   | refine LeO.bind ?_ (fun _ => ?_)
set_option maxHeartbeats 80000000 in
set_option maxRecDepth 100000 in
theorem understudyref04_Decode.calls (k:Nat) (A0:Option Addr) (c0:Nat) (l0:List Int) (r1:List (S33)) (r2:Int) (r3:Int) (w:World) (hr0:Kd.C (Kd.int .u8) w A0 l0.length l0) (hc0:l0.length≤c0) (h:understudyref04_Decode.f k l0=some (r1,r2,r3)) :
  Calls Tryd.prog 17 #[.slice A0 l0.length c0] w fun e w' => ∃ v0_:Value,e=.returned (.tuple #[v0_,.int .i64 r2,.int .i64 r3])∧Kd.R k33 33 w' w.heap.size (fun _ => True) v0_ r1∧Below w.heap.size w w':=by
 have hu77:=Tryd.underlying77
 have hu33:=Tryd.underlying33
 have HR0:=Aside0.mk hr0
 have HC0:=Aside0.mk hc0
 clear hr0 hc0
 have HB:=Aside0.mk (Below.refl w.heap.size w)
 have H:((understudyref01_Reader_Uint.f k l0 0 2).bind fun bt293 => (if bt293.2.1=0 then (if bt293.1 > 1024 then (some (([]:List (S33)),0,2)) else (if bt293.1=0 then (some (([]:List (S33)),0,40)) else (understudyref04_Decode.l0 k bt293.1 (([(⟨0,(⟨#[]⟩:ByteArray),0,0,0⟩:S33)]:List (S33))) 1 l0 bt293.2.2))) else (some (([]:List (S33)),0,bt293.2.1))))=some (r1,r2,r3):=h
 clear h
 replace H:=Option.bind_eq_some_iff.mp H
 obtain ⟨⟨t293,t294,t295⟩,A20,H⟩:=H
 replace H:(if t294=0 then (if t293 > 1024 then (some (([]:List (S33)),0,2)) else (if t293=0 then (some (([]:List (S33)),0,40)) else (understudyref04_Decode.l0 k t293 (([(⟨0,(⟨#[]⟩:ByteArray),0,0,0⟩:S33)]:List (S33))) 1 l0 t295))) else (some (([]:List (S33)),0,t294)))=some (r1,r2,r3):=H
 have A2:=Aside0.mk A20
 clear A20
 by_cases c3:t294=0
 ·rw [if_pos c3] at H
  have c3b0:(t294==0)=true:=beq_iff_eq.mpr c3
  have c3b1:(t294 != 0)=false:=bne_eq_false_iff_eq.mpr c3
  clear c3
  by_cases c4:t293 > 1024
  ·rw [if_pos c4] at H
   have c4b0:decide (1024 < t293)=true:=decide_eq_true c4
   clear c4
   simp only [Option.some.injEq,Prod.mk.injEq] at H
   obtain ⟨rfl,rfl,rfl⟩:=H
   go_enter Tryd.func17,Tryd.ntmps17
   go_wp2_with (first|((with_reducible refine gate_dst (N:=15) rfl ?_);refine box_event ?hg (N:=15) ?hd (cs:=#[.slice A0 l0.length c0,.int .i64 0]) (t:=77) ?hr ?_;(case hd => rfl);(case hg => rfl);(case hr => first|(go_simp;done)|(go_simp;rfl));intro gb292 hg w5 hbox hb;have n0_:=Aside0.mk (below_step (by repeat (first|(with_reducible first|exact HB.out|apply below_alloc|apply pw_below_drewN|apply below_drew1)|exact HB.out)) hb);have n1_:=Aside0.mk (hbox);have n2_:=Aside0.mk ((by rw [hg];exact (below_size (by repeat (first|(with_reducible first|exact HB.out|apply below_alloc|apply pw_below_drewN|apply below_drew1)|exact HB.out))):w.heap.size≤gb292));have n3_:=Aside0.mk ((by rw [hg];exact (below_size (by repeat (first|(with_reducible first|exact HB.out|apply below_alloc|apply pw_below_drewN|apply below_drew1)|exact HB.out))):w.heap.size≤gb292));clear HB;have HB:=n0_;have BK292:=n1_;have GW292:=n2_;have GE292:=n3_;clear n0_ n1_ n2_ n3_;clear hb hbox hg;have HI292:=Aside0.mk (show IsS77 w w5 gb292 l0 0 from ⟨_,_,BK292.out,GE292.out,HR0.out,HC0.out⟩);clear BK292)|(go_at_call 35;(with_reducible refine (understudyref01_Reader_Uint.calls k gb292 l0 0 2 t293 t294 t295 w _ ?side1 ?side2 A2.out).mono ?_);(case side1 => repeat (first|(with_reducible first|exact HI292.out|apply IsS77.alloc|apply IsS77.drewN|apply IsS77.drew|apply IsS77.set_1)|exact HI292.out|apply IsS77.set_1));(case side2 => repeat (first|(with_reducible first|exact HB.out|apply below_alloc|apply pw_below_drewN|apply below_drew1|refine below_set ?_ (IsS77.ge HI292.out))|exact HB.out));rintro e w6 ⟨rfl,hi,hb,hk⟩;have n0_:=Aside0.mk (hb);have n1_:=Aside0.mk (hi);clear HB;clear HI292;have HB:=n0_;have HI292:=n1_;clear n0_ n1_;(try clear hb);(try clear hb2);(try clear hk);(try clear hi)))
   repeat (go_quiet (first|((with_reducible refine gate_dst (N:=15) rfl ?_);refine box_event ?hg (N:=15) ?hd (cs:=#[.slice A0 l0.length c0,.int .i64 0]) (t:=77) ?hr ?_;(case hd => rfl);(case hg => rfl);(case hr => first|(go_simp;done)|(go_simp;rfl));intro gb292 hg w5 hbox hb;have n0_:=Aside0.mk (below_step (by repeat (first|(with_reducible first|exact HB.out|apply below_alloc|apply pw_below_drewN|apply below_drew1)|exact HB.out)) hb);have n1_:=Aside0.mk (hbox);have n2_:=Aside0.mk ((by rw [hg];exact (below_size (by repeat (first|(with_reducible first|exact HB.out|apply below_alloc|apply pw_below_drewN|apply below_drew1)|exact HB.out))):w.heap.size≤gb292));have n3_:=Aside0.mk ((by rw [hg];exact (below_size (by repeat (first|(with_reducible first|exact HB.out|apply below_alloc|apply pw_below_drewN|apply below_drew1)|exact HB.out))):w.heap.size≤gb292));clear HB;have HB:=n0_;have BK292:=n1_;have GW292:=n2_;have GE292:=n3_;clear n0_ n1_ n2_ n3_;clear hb hbox hg;have HI292:=Aside0.mk (show IsS77 w w5 gb292 l0 0 from ⟨_,_,BK292.out,GE292.out,HR0.out,HC0.out⟩);clear BK292)|(go_at_call 35;(with_reducible refine (understudyref01_Reader_Uint.calls k gb292 l0 0 2 t293 t294 t295 w _ ?side1 ?side2 A2.out).mono ?_);(case side1 => repeat (first|(with_reducible first|exact HI292.out|apply IsS77.alloc|apply IsS77.drewN|apply IsS77.drew|apply IsS77.set_1)|exact HI292.out|apply IsS77.set_1));(case side2 => repeat (first|(with_reducible first|exact HB.out|apply below_alloc|apply pw_below_drewN|apply below_drew1|refine below_set ?_ (IsS77.ge HI292.out))|exact HB.out));rintro e w6 ⟨rfl,hi,hb,hk⟩;have n0_:=Aside0.mk (hb);have n1_:=Aside0.mk (hi);clear HB;clear HI292;have HB:=n0_;have HI292:=n1_;clear n0_ n1_;(try clear hb);(try clear hb2);(try clear hk);(try clear hi)));try go_wp2_with (first|((with_reducible refine gate_dst (N:=15) rfl ?_);refine box_event ?hg (N:=15) ?hd (cs:=#[.slice A0 l0.length c0,.int .i64 0]) (t:=77) ?hr ?_;(case hd => rfl);(case hg => rfl);(case hr => first|(go_simp;done)|(go_simp;rfl));intro gb292 hg w5 hbox hb;have n0_:=Aside0.mk (below_step (by repeat (first|(with_reducible first|exact HB.out|apply below_alloc|apply pw_below_drewN|apply below_drew1)|exact HB.out)) hb);have n1_:=Aside0.mk (hbox);have n2_:=Aside0.mk ((by rw [hg];exact (below_size (by repeat (first|(with_reducible first|exact HB.out|apply below_alloc|apply pw_below_drewN|apply below_drew1)|exact HB.out))):w.heap.size≤gb292));have n3_:=Aside0.mk ((by rw [hg];exact (below_size (by repeat (first|(with_reducible first|exact HB.out|apply below_alloc|apply pw_below_drewN|apply below_drew1)|exact HB.out))):w.heap.size≤gb292));clear HB;have HB:=n0_;have BK292:=n1_;have GW292:=n2_;have GE292:=n3_;clear n0_ n1_ n2_ n3_;clear hb hbox hg;have HI292:=Aside0.mk (show IsS77 w w5 gb292 l0 0 from ⟨_,_,BK292.out,GE292.out,HR0.out,HC0.out⟩);clear BK292)|(go_at_call 35;(with_reducible refine (understudyref01_Reader_Uint.calls k gb292 l0 0 2 t293 t294 t295 w _ ?side1 ?side2 A2.out).mono ?_);(case side1 => repeat (first|(with_reducible first|exact HI292.out|apply IsS77.alloc|apply IsS77.drewN|apply IsS77.drew|apply IsS77.set_1)|exact HI292.out|apply IsS77.set_1));(case side2 => repeat (first|(with_reducible first|exact HB.out|apply below_alloc|apply pw_below_drewN|apply below_drew1|refine below_set ?_ (IsS77.ge HI292.out))|exact HB.out));rintro e w6 ⟨rfl,hi,hb,hk⟩;have n0_:=Aside0.mk (hb);have n1_:=Aside0.mk (hi);clear HB;clear HI292;have HB:=n0_;have HI292:=n1_;clear n0_ n1_;(try clear hb);(try clear hb2);(try clear hk);(try clear hi))))
   go_ret3
   exact ⟨_,by first|rfl|(simp [errW_none,errW_some] <;> rfl)|(simp [*,errW_none,errW_some] <;> rfl),by first|exact Kd.R_nil _ _ _ _ _|exact Kd.N_nil _ _ _ _ _|exact Kd.V_nil _ _ _ _ _|exact Kd.Q_nil _ _ _ _ _|exact Kd.S_nil _ _ _ _ _,by repeat (first|(with_reducible first|exact HB.out|apply below_alloc|apply pw_below_drewN|apply below_drew1|refine below_set ?_ (IsS77.ge HI292.out))|exact HB.out)⟩
  ·rw [if_neg c4] at H
   have c4b0:decide (1024 < t293)=false:=decide_eq_false c4
   clear c4
   by_cases c7:t293=0
   ·rw [if_pos c7] at H
    have c7b0:(t293==0)=true:=beq_iff_eq.mpr c7
    have c7b1:(t293 != 0)=false:=bne_eq_false_iff_eq.mpr c7
    clear c7
    simp only [Option.some.injEq,Prod.mk.injEq] at H
    obtain ⟨rfl,rfl,rfl⟩:=H
    go_enter Tryd.func17,Tryd.ntmps17
    go_wp2_with (first|((with_reducible refine gate_dst (N:=15) rfl ?_);refine box_event ?hg (N:=15) ?hd (cs:=#[.slice A0 l0.length c0,.int .i64 0]) (t:=77) ?hr ?_;(case hd => rfl);(case hg => rfl);(case hr => first|(go_simp;done)|(go_simp;rfl));intro gb292 hg w8 hbox hb;have n0_:=Aside0.mk (below_step (by repeat (first|(with_reducible first|exact HB.out|apply below_alloc|apply pw_below_drewN|apply below_drew1)|exact HB.out)) hb);have n1_:=Aside0.mk (hbox);have n2_:=Aside0.mk ((by rw [hg];exact (below_size (by repeat (first|(with_reducible first|exact HB.out|apply below_alloc|apply pw_below_drewN|apply below_drew1)|exact HB.out))):w.heap.size≤gb292));have n3_:=Aside0.mk ((by rw [hg];exact (below_size (by repeat (first|(with_reducible first|exact HB.out|apply below_alloc|apply pw_below_drewN|apply below_drew1)|exact HB.out))):w.heap.size≤gb292));clear HB;have HB:=n0_;have BK292:=n1_;have GW292:=n2_;have GE292:=n3_;clear n0_ n1_ n2_ n3_;clear hb hbox hg;have HI292:=Aside0.mk (show IsS77 w w8 gb292 l0 0 from ⟨_,_,BK292.out,GE292.out,HR0.out,HC0.out⟩);clear BK292)|(go_at_call 35;(with_reducible refine (understudyref01_Reader_Uint.calls k gb292 l0 0 2 t293 t294 t295 w _ ?side1 ?side2 A2.out).mono ?_);(case side1 => repeat (first|(with_reducible first|exact HI292.out|apply IsS77.alloc|apply IsS77.drewN|apply IsS77.drew|apply IsS77.set_1)|exact HI292.out|apply IsS77.set_1));(case side2 => repeat (first|(with_reducible first|exact HB.out|apply below_alloc|apply pw_below_drewN|apply below_drew1|refine below_set ?_ (IsS77.ge HI292.out))|exact HB.out));rintro e w9 ⟨rfl,hi,hb,hk⟩;have n0_:=Aside0.mk (hb);have n1_:=Aside0.mk (hi);clear HB;clear HI292;have HB:=n0_;have HI292:=n1_;clear n0_ n1_;(try clear hb);(try clear hb2);(try clear hk);(try clear hi)))
    repeat (go_quiet (first|((with_reducible refine gate_dst (N:=15) rfl ?_);refine box_event ?hg (N:=15) ?hd (cs:=#[.slice A0 l0.length c0,.int .i64 0]) (t:=77) ?hr ?_;(case hd => rfl);(case hg => rfl);(case hr => first|(go_simp;done)|(go_simp;rfl));intro gb292 hg w8 hbox hb;have n0_:=Aside0.mk (below_step (by repeat (first|(with_reducible first|exact HB.out|apply below_alloc|apply pw_below_drewN|apply below_drew1)|exact HB.out)) hb);have n1_:=Aside0.mk (hbox);have n2_:=Aside0.mk ((by rw [hg];exact (below_size (by repeat (first|(with_reducible first|exact HB.out|apply below_alloc|apply pw_below_drewN|apply below_drew1)|exact HB.out))):w.heap.size≤gb292));have n3_:=Aside0.mk ((by rw [hg];exact (below_size (by repeat (first|(with_reducible first|exact HB.out|apply below_alloc|apply pw_below_drewN|apply below_drew1)|exact HB.out))):w.heap.size≤gb292));clear HB;have HB:=n0_;have BK292:=n1_;have GW292:=n2_;have GE292:=n3_;clear n0_ n1_ n2_ n3_;clear hb hbox hg;have HI292:=Aside0.mk (show IsS77 w w8 gb292 l0 0 from ⟨_,_,BK292.out,GE292.out,HR0.out,HC0.out⟩);clear BK292)|(go_at_call 35;(with_reducible refine (understudyref01_Reader_Uint.calls k gb292 l0 0 2 t293 t294 t295 w _ ?side1 ?side2 A2.out).mono ?_);(case side1 => repeat (first|(with_reducible first|exact HI292.out|apply IsS77.alloc|apply IsS77.drewN|apply IsS77.drew|apply IsS77.set_1)|exact HI292.out|apply IsS77.set_1));(case side2 => repeat (first|(with_reducible first|exact HB.out|apply below_alloc|apply pw_below_drewN|apply below_drew1|refine below_set ?_ (IsS77.ge HI292.out))|exact HB.out));rintro e w9 ⟨rfl,hi,hb,hk⟩;have n0_:=Aside0.mk (hb);have n1_:=Aside0.mk (hi);clear HB;clear HI292;have HB:=n0_;have HI292:=n1_;clear n0_ n1_;(try clear hb);(try clear hb2);(try clear hk);(try clear hi)));try go_wp2_with (first|((with_reducible refine gate_dst (N:=15) rfl ?_);refine box_event ?hg (N:=15) ?hd (cs:=#[.slice A0 l0.length c0,.int .i64 0]) (t:=77) ?hr ?_;(case hd => rfl);(case hg => rfl);(case hr => first|(go_simp;done)|(go_simp;rfl));intro gb292 hg w8 hbox hb;have n0_:=Aside0.mk (below_step (by repeat (first|(with_reducible first|exact HB.out|apply below_alloc|apply pw_below_drewN|apply below_drew1)|exact HB.out)) hb);have n1_:=Aside0.mk (hbox);have n2_:=Aside0.mk ((by rw [hg];exact (below_size (by repeat (first|(with_reducible first|exact HB.out|apply below_alloc|apply pw_below_drewN|apply below_drew1)|exact HB.out))):w.heap.size≤gb292));have n3_:=Aside0.mk ((by rw [hg];exact (below_size (by repeat (first|(with_reducible first|exact HB.out|apply below_alloc|apply pw_below_drewN|apply below_drew1)|exact HB.out))):w.heap.size≤gb292));clear HB;have HB:=n0_;have BK292:=n1_;have GW292:=n2_;have GE292:=n3_;clear n0_ n1_ n2_ n3_;clear hb hbox hg;have HI292:=Aside0.mk (show IsS77 w w8 gb292 l0 0 from ⟨_,_,BK292.out,GE292.out,HR0.out,HC0.out⟩);clear BK292)|(go_at_call 35;(with_reducible refine (understudyref01_Reader_Uint.calls k gb292 l0 0 2 t293 t294 t295 w _ ?side1 ?side2 A2.out).mono ?_);(case side1 => repeat (first|(with_reducible first|exact HI292.out|apply IsS77.alloc|apply IsS77.drewN|apply IsS77.drew|apply IsS77.set_1)|exact HI292.out|apply IsS77.set_1));(case side2 => repeat (first|(with_reducible first|exact HB.out|apply below_alloc|apply pw_below_drewN|apply below_drew1|refine below_set ?_ (IsS77.ge HI292.out))|exact HB.out));rintro e w9 ⟨rfl,hi,hb,hk⟩;have n0_:=Aside0.mk (hb);have n1_:=Aside0.mk (hi);clear HB;clear HI292;have HB:=n0_;have HI292:=n1_;clear n0_ n1_;(try clear hb);(try clear hb2);(try clear hk);(try clear hi))))
    go_ret3
    exact ⟨_,by first|rfl|(simp [errW_none,errW_some] <;> rfl)|(simp [*,errW_none,errW_some] <;> rfl),by first|exact Kd.R_nil _ _ _ _ _|exact Kd.N_nil _ _ _ _ _|exact Kd.V_nil _ _ _ _ _|exact Kd.Q_nil _ _ _ _ _|exact Kd.S_nil _ _ _ _ _,by repeat (first|(with_reducible first|exact HB.out|apply below_alloc|apply pw_below_drewN|apply below_drew1|refine below_set ?_ (IsS77.ge HI292.out))|exact HB.out)⟩
   ·rw [if_neg c7] at H
    have c7b0:(t293==0)=false:=beq_eq_false_iff_ne.mpr c7
    have c7b1:(t293 != 0)=true:=bne_iff_ne.mpr c7
    obtain ⟨y296,hy296⟩:∃ y_:List (S33),y_=(([(⟨0,(⟨#[]⟩:ByteArray),0,0,0⟩:S33)]:List (S33))):=⟨_,rfl⟩
    replace H:(understudyref04_Decode.l0 k t293 y296 1 l0 t295)=some (r1,r2,r3):=by first|(rw [hy296];with_reducible exact H)|(have H2_:=(Option.bind_some _ _).symm.trans H;rw [hy296];with_reducible exact H2_)|(have H2_:=(Option.bind_some _ _).symm.trans H;with_reducible exact H2_)|with_reducible exact H|(rw [hy296];exact H)|exact H
    have Ny296:=Aside0.mk hy296
    clear hy296
    have H':=Aside0.mk H
    clear H
    go_enter Tryd.func17,Tryd.ntmps17
    go_wp2_with (first|((with_reducible refine gate_dst (N:=15) rfl ?_);refine box_event ?hg (N:=15) ?hd (cs:=#[.slice A0 l0.length c0,.int .i64 0]) (t:=77) ?hr ?_;(case hd => rfl);(case hg => rfl);(case hr => first|(go_simp;done)|(go_simp;rfl));intro gb292 hg w10 hbox hb;have n0_:=Aside0.mk (below_step (by repeat (first|(with_reducible first|exact HB.out|apply below_alloc|apply pw_below_drewN|apply below_drew1)|exact HB.out)) hb);have n1_:=Aside0.mk (hbox);have n2_:=Aside0.mk ((by rw [hg];exact (below_size (by repeat (first|(with_reducible first|exact HB.out|apply below_alloc|apply pw_below_drewN|apply below_drew1)|exact HB.out))):w.heap.size≤gb292));have n3_:=Aside0.mk ((by rw [hg];exact (below_size (by repeat (first|(with_reducible first|exact HB.out|apply below_alloc|apply pw_below_drewN|apply below_drew1)|exact HB.out))):w.heap.size≤gb292));clear HB;have HB:=n0_;have BK292:=n1_;have GW292:=n2_;have GE292:=n3_;clear n0_ n1_ n2_ n3_;clear hb hbox hg;have HI292:=Aside0.mk (show IsS77 w w10 gb292 l0 0 from ⟨_,_,BK292.out,GE292.out,HR0.out,HC0.out⟩);clear BK292)|(go_at_call 35;(with_reducible refine (understudyref01_Reader_Uint.calls k gb292 l0 0 2 t293 t294 t295 w _ ?side1 ?side2 A2.out).mono ?_);(case side1 => repeat (first|(with_reducible first|exact HI292.out|apply IsS77.alloc|apply IsS77.drewN|apply IsS77.drew|apply IsS77.set_1)|exact HI292.out|apply IsS77.set_1));(case side2 => repeat (first|(with_reducible first|exact HB.out|apply below_alloc|apply pw_below_drewN|apply below_drew1|refine below_set ?_ (IsS77.ge HI292.out))|exact HB.out));rintro e w11 ⟨rfl,hi,hb,hk⟩;have n0_:=Aside0.mk (hb);have n1_:=Aside0.mk (hi);clear HB;clear HI292;have HB:=n0_;have HI292:=n1_;clear n0_ n1_;(try clear hb);(try clear hb2);(try clear hk);(try clear hi))|((with_reducible refine gate_dst (N:=29) rfl ?_);refine Kd.R_lit k33 _ 33 ?hg (N:=29) ?hd (xs:=([(⟨0,(⟨#[]⟩:ByteArray),0,0,0⟩:S33)]:List (S33))) (inner:=[.int .i64 0,.string (⟨#[]⟩:ByteArray),.int .i64 0,.int .i64 0,.int .i64 0]) (ok:=fun _ => True) (okp:=fun _ => True) ?hr ?hp (fun _ hk => hk) trivial (Below.refl _ _) (Nat.le_refl _) (by simp) ?_;(case hd => rfl);(case hg => rfl);(case hr => first|(go_simp;done)|(go_simp;rfl));(case hp => exact (Reps.c5 (show Kd.M k33 _ _ _ (⟨0,(⟨#[]⟩:ByteArray),0,0,0⟩:S33) [.int .i64 0,.string (⟨#[]⟩:ByteArray),.int .i64 0,.int .i64 0,.int .i64 0] from (k33_mkM _ _ _ (⟨0,(⟨#[]⟩:ByteArray),0,0,0⟩:S33) )) (Reps.none _ _)));intro v297 w12 ho13 hb hg_ hnew_;clear hg_ hnew_;(first|rw [← Ny296.out] at ho13|(simp only [Int.reduceToNat] at ho13;rw [← Ny296.out] at ho13));have n0_:=Aside0.mk (Kd.R_lower ho13 (below_size (by repeat (first|(with_reducible first|exact HB.out|apply below_alloc|apply pw_below_drewN|apply below_drew1|refine below_set ?_ (IsS77.ge HI292.out))|exact HB.out))));have n1_:=Aside0.mk (IsS77.below (by repeat (first|(with_reducible first|exact HI292.out|apply IsS77.alloc|apply IsS77.drewN|apply IsS77.drew|apply IsS77.set_1)|exact HI292.out|apply IsS77.set_1)) hb);have n2_:=Aside0.mk (below_step (by repeat (first|(with_reducible first|exact HB.out|apply below_alloc|apply pw_below_drewN|apply below_drew1|refine below_set ?_ (IsS77.ge HI292.out))|exact HB.out)) hb);clear HI292;clear HB;have HO298:=n0_;have HI292:=n1_;have HB:=n2_;clear n0_ n1_ n2_;clear hb ho13))
    repeat (go_quiet (first|((with_reducible refine gate_dst (N:=15) rfl ?_);refine box_event ?hg (N:=15) ?hd (cs:=#[.slice A0 l0.length c0,.int .i64 0]) (t:=77) ?hr ?_;(case hd => rfl);(case hg => rfl);(case hr => first|(go_simp;done)|(go_simp;rfl));intro gb292 hg w10 hbox hb;have n0_:=Aside0.mk (below_step (by repeat (first|(with_reducible first|exact HB.out|apply below_alloc|apply pw_below_drewN|apply below_drew1)|exact HB.out)) hb);have n1_:=Aside0.mk (hbox);have n2_:=Aside0.mk ((by rw [hg];exact (below_size (by repeat (first|(with_reducible first|exact HB.out|apply below_alloc|apply pw_below_drewN|apply below_drew1)|exact HB.out))):w.heap.size≤gb292));have n3_:=Aside0.mk ((by rw [hg];exact (below_size (by repeat (first|(with_reducible first|exact HB.out|apply below_alloc|apply pw_below_drewN|apply below_drew1)|exact HB.out))):w.heap.size≤gb292));clear HB;have HB:=n0_;have BK292:=n1_;have GW292:=n2_;have GE292:=n3_;clear n0_ n1_ n2_ n3_;clear hb hbox hg;have HI292:=Aside0.mk (show IsS77 w w10 gb292 l0 0 from ⟨_,_,BK292.out,GE292.out,HR0.out,HC0.out⟩);clear BK292)|(go_at_call 35;(with_reducible refine (understudyref01_Reader_Uint.calls k gb292 l0 0 2 t293 t294 t295 w _ ?side1 ?side2 A2.out).mono ?_);(case side1 => repeat (first|(with_reducible first|exact HI292.out|apply IsS77.alloc|apply IsS77.drewN|apply IsS77.drew|apply IsS77.set_1)|exact HI292.out|apply IsS77.set_1));(case side2 => repeat (first|(with_reducible first|exact HB.out|apply below_alloc|apply pw_below_drewN|apply below_drew1|refine below_set ?_ (IsS77.ge HI292.out))|exact HB.out));rintro e w11 ⟨rfl,hi,hb,hk⟩;have n0_:=Aside0.mk (hb);have n1_:=Aside0.mk (hi);clear HB;clear HI292;have HB:=n0_;have HI292:=n1_;clear n0_ n1_;(try clear hb);(try clear hb2);(try clear hk);(try clear hi))|((with_reducible refine gate_dst (N:=29) rfl ?_);refine Kd.R_lit k33 _ 33 ?hg (N:=29) ?hd (xs:=([(⟨0,(⟨#[]⟩:ByteArray),0,0,0⟩:S33)]:List (S33))) (inner:=[.int .i64 0,.string (⟨#[]⟩:ByteArray),.int .i64 0,.int .i64 0,.int .i64 0]) (ok:=fun _ => True) (okp:=fun _ => True) ?hr ?hp (fun _ hk => hk) trivial (Below.refl _ _) (Nat.le_refl _) (by simp) ?_;(case hd => rfl);(case hg => rfl);(case hr => first|(go_simp;done)|(go_simp;rfl));(case hp => exact (Reps.c5 (show Kd.M k33 _ _ _ (⟨0,(⟨#[]⟩:ByteArray),0,0,0⟩:S33) [.int .i64 0,.string (⟨#[]⟩:ByteArray),.int .i64 0,.int .i64 0,.int .i64 0] from (k33_mkM _ _ _ (⟨0,(⟨#[]⟩:ByteArray),0,0,0⟩:S33) )) (Reps.none _ _)));intro v297 w12 ho13 hb hg_ hnew_;clear hg_ hnew_;(first|rw [← Ny296.out] at ho13|(simp only [Int.reduceToNat] at ho13;rw [← Ny296.out] at ho13));have n0_:=Aside0.mk (Kd.R_lower ho13 (below_size (by repeat (first|(with_reducible first|exact HB.out|apply below_alloc|apply pw_below_drewN|apply below_drew1|refine below_set ?_ (IsS77.ge HI292.out))|exact HB.out))));have n1_:=Aside0.mk (IsS77.below (by repeat (first|(with_reducible first|exact HI292.out|apply IsS77.alloc|apply IsS77.drewN|apply IsS77.drew|apply IsS77.set_1)|exact HI292.out|apply IsS77.set_1)) hb);have n2_:=Aside0.mk (below_step (by repeat (first|(with_reducible first|exact HB.out|apply below_alloc|apply pw_below_drewN|apply below_drew1|refine below_set ?_ (IsS77.ge HI292.out))|exact HB.out)) hb);clear HI292;clear HB;have HO298:=n0_;have HI292:=n1_;have HB:=n2_;clear n0_ n1_ n2_;clear hb ho13));try go_wp2_with (first|((with_reducible refine gate_dst (N:=15) rfl ?_);refine box_event ?hg (N:=15) ?hd (cs:=#[.slice A0 l0.length c0,.int .i64 0]) (t:=77) ?hr ?_;(case hd => rfl);(case hg => rfl);(case hr => first|(go_simp;done)|(go_simp;rfl));intro gb292 hg w10 hbox hb;have n0_:=Aside0.mk (below_step (by repeat (first|(with_reducible first|exact HB.out|apply below_alloc|apply pw_below_drewN|apply below_drew1)|exact HB.out)) hb);have n1_:=Aside0.mk (hbox);have n2_:=Aside0.mk ((by rw [hg];exact (below_size (by repeat (first|(with_reducible first|exact HB.out|apply below_alloc|apply pw_below_drewN|apply below_drew1)|exact HB.out))):w.heap.size≤gb292));have n3_:=Aside0.mk ((by rw [hg];exact (below_size (by repeat (first|(with_reducible first|exact HB.out|apply below_alloc|apply pw_below_drewN|apply below_drew1)|exact HB.out))):w.heap.size≤gb292));clear HB;have HB:=n0_;have BK292:=n1_;have GW292:=n2_;have GE292:=n3_;clear n0_ n1_ n2_ n3_;clear hb hbox hg;have HI292:=Aside0.mk (show IsS77 w w10 gb292 l0 0 from ⟨_,_,BK292.out,GE292.out,HR0.out,HC0.out⟩);clear BK292)|(go_at_call 35;(with_reducible refine (understudyref01_Reader_Uint.calls k gb292 l0 0 2 t293 t294 t295 w _ ?side1 ?side2 A2.out).mono ?_);(case side1 => repeat (first|(with_reducible first|exact HI292.out|apply IsS77.alloc|apply IsS77.drewN|apply IsS77.drew|apply IsS77.set_1)|exact HI292.out|apply IsS77.set_1));(case side2 => repeat (first|(with_reducible first|exact HB.out|apply below_alloc|apply pw_below_drewN|apply below_drew1|refine below_set ?_ (IsS77.ge HI292.out))|exact HB.out));rintro e w11 ⟨rfl,hi,hb,hk⟩;have n0_:=Aside0.mk (hb);have n1_:=Aside0.mk (hi);clear HB;clear HI292;have HB:=n0_;have HI292:=n1_;clear n0_ n1_;(try clear hb);(try clear hb2);(try clear hk);(try clear hi))|((with_reducible refine gate_dst (N:=29) rfl ?_);refine Kd.R_lit k33 _ 33 ?hg (N:=29) ?hd (xs:=([(⟨0,(⟨#[]⟩:ByteArray),0,0,0⟩:S33)]:List (S33))) (inner:=[.int .i64 0,.string (⟨#[]⟩:ByteArray),.int .i64 0,.int .i64 0,.int .i64 0]) (ok:=fun _ => True) (okp:=fun _ => True) ?hr ?hp (fun _ hk => hk) trivial (Below.refl _ _) (Nat.le_refl _) (by simp) ?_;(case hd => rfl);(case hg => rfl);(case hr => first|(go_simp;done)|(go_simp;rfl));(case hp => exact (Reps.c5 (show Kd.M k33 _ _ _ (⟨0,(⟨#[]⟩:ByteArray),0,0,0⟩:S33) [.int .i64 0,.string (⟨#[]⟩:ByteArray),.int .i64 0,.int .i64 0,.int .i64 0] from (k33_mkM _ _ _ (⟨0,(⟨#[]⟩:ByteArray),0,0,0⟩:S33) )) (Reps.none _ _)));intro v297 w12 ho13 hb hg_ hnew_;clear hg_ hnew_;(first|rw [← Ny296.out] at ho13|(simp only [Int.reduceToNat] at ho13;rw [← Ny296.out] at ho13));have n0_:=Aside0.mk (Kd.R_lower ho13 (below_size (by repeat (first|(with_reducible first|exact HB.out|apply below_alloc|apply pw_below_drewN|apply below_drew1|refine below_set ?_ (IsS77.ge HI292.out))|exact HB.out))));have n1_:=Aside0.mk (IsS77.below (by repeat (first|(with_reducible first|exact HI292.out|apply IsS77.alloc|apply IsS77.drewN|apply IsS77.drew|apply IsS77.set_1)|exact HI292.out|apply IsS77.set_1)) hb);have n2_:=Aside0.mk (below_step (by repeat (first|(with_reducible first|exact HB.out|apply below_alloc|apply pw_below_drewN|apply below_drew1|refine below_set ?_ (IsS77.ge HI292.out))|exact HB.out)) hb);clear HI292;clear HB;have HO298:=n0_;have HI292:=n1_;have HB:=n2_;clear n0_ n1_ n2_;clear hb ho13)))
    go_loopg [8,9] k (fun kq v8 v9 w' => ∃ (x8_1:List (S33)) (x9_1:Int) (x293001_1:Int),v9=.int .i64 x9_1∧Aside0 (understudyref04_Decode.l0 kq t293 x8_1 x9_1 l0 x293001_1=some (r1,r2,r3))∧Aside0 (kq≤k)∧Aside0 (Kd.R k33 33 w' w.heap.size (fun _ => True) v8 x8_1)∧Aside0 (IsS77 w w' gb292 l0 x293001_1)∧Aside0 (Below w.heap.size w w'))
    case atStart => exact ⟨(y296),(1),(t295),(by first|rfl|(simp;done)|(simp [*];done)),H',⟨Nat.le_refl _⟩,⟨by (with_reducible repeat (first|apply Kd.R_alloc|apply Kd.R_drewN|apply Kd.R_drew));exact HO298.out⟩,⟨by repeat (first|(with_reducible first|exact HI292.out|apply IsS77.alloc|apply IsS77.drewN|apply IsS77.drew|apply IsS77.set_1)|exact HI292.out|apply IsS77.set_1)⟩,⟨by repeat (first|(with_reducible first|exact HB.out|apply below_alloc|apply pw_below_drewN|apply below_drew1|refine below_set ?_ (IsS77.ge HI292.out))|exact HB.out)⟩⟩
    case round =>
     clear H'
     try clear c1;try clear p2;try clear c3;try clear c3b0;try clear c3b1;try clear c4;try clear c4b0;try clear c5;try clear c7;try clear c7b0;try clear c7b1
     obtain ⟨x8_1,x9_1,x293001_1,rfl,HA,HK1,HO_8,HI292,HB⟩:=hrel
     cases gk with
     | zero => exact absurd HA.out (by simp [understudyref04_Decode.l0])
     | succ k1 =>
      have H:=HA.out
      clear HA
      simp only [understudyref04_Decode.l0] at H
      by_cases c14:x9_1 < (wrap64 (t293))
      ·rw [if_pos c14] at H
       have c14b0:decide (x9_1 < (wrap64 (t293)))=true:=decide_eq_true c14
       clear c14
       replace H:=Option.bind_eq_some_iff.mp H
       obtain ⟨⟨t300,t301,t302⟩,A150,H⟩:=H
       replace H:(if t301=0 then ((understudyref04_read.f k1 l0 t302 (wrap64 (t300))).bind fun bt303 => (if bt303.2.2.2.2.2.1=0 then (if x8_1.length < 2932031007402 then (understudyref04_Decode.l0 k1 t293 (x8_1++[(⟨bt303.1,bt303.2.1,bt303.2.2.1,bt303.2.2.2.1,bt303.2.2.2.2.1⟩:S33)]) (wrap64 (x9_1 + 1)) l0 bt303.2.2.2.2.2.2) else (none)) else (some (([]:List (S33)),0,bt303.2.2.2.2.2.1)))) else (some (([]:List (S33)),0,t301)))=some (r1,r2,r3):=H
       have A15:=Aside0.mk A150
       clear A150
       by_cases c16:t301=0
       ·rw [if_pos c16] at H
        have c16b0:(t301==0)=true:=beq_iff_eq.mpr c16
        have c16b1:(t301 != 0)=false:=bne_eq_false_iff_eq.mpr c16
        clear c16
        replace H:=Option.bind_eq_some_iff.mp H
        obtain ⟨⟨t303,t304,t305,t306,t307,t308,t309⟩,A170,H⟩:=H
        replace H:(if t308=0 then (if x8_1.length < 2932031007402 then (understudyref04_Decode.l0 k1 t293 (x8_1++[(⟨t303,t304,t305,t306,t307⟩:S33)]) (wrap64 (x9_1 + 1)) l0 t309) else (none)) else (some (([]:List (S33)),0,t308)))=some (r1,r2,r3):=H
        have A17:=Aside0.mk A170
        clear A170
        by_cases c18:t308=0
        ·rw [if_pos c18] at H
         have c18b0:(t308==0)=true:=beq_iff_eq.mpr c18
         have c18b1:(t308 != 0)=false:=bne_eq_false_iff_eq.mpr c18
         clear c18
         by_cases c19:x8_1.length < 2932031007402
         ·rw [if_pos c19] at H
          have LMc19:=Aside0.mk c19
          clear c19
          obtain ⟨y311,hy311⟩:∃ y_:List (S33),y_=(x8_1++[(⟨t303,t304,t305,t306,t307⟩:S33)]):=⟨_,rfl⟩
          replace H:(understudyref04_Decode.l0 k1 t293 y311 (wrap64 (x9_1 + 1)) l0 t309)=some (r1,r2,r3):=by first|(rw [hy311];with_reducible exact H)|(have H2_:=(Option.bind_some _ _).symm.trans H;rw [hy311];with_reducible exact H2_)|(have H2_:=(Option.bind_some _ _).symm.trans H;with_reducible exact H2_)|with_reducible exact H|(rw [hy311];exact H)|exact H
          have Ny311:=Aside0.mk hy311
          clear hy311
          have H':=Aside0.mk H
          clear H
          go_wp2_with (first|(go_at_call 35;(with_reducible refine (understudyref01_Reader_Uint.calls k1 gb292 l0 x293001_1 1 t300 t301 t302 w _ ?side1 ?side2 A15.out).mono ?_);(case side1 => repeat (first|(with_reducible first|exact HI292.out|apply IsS77.alloc|apply IsS77.drewN|apply IsS77.drew|apply IsS77.set_1)|exact HI292.out|apply IsS77.set_1));(case side2 => repeat (first|(with_reducible first|exact HB.out|apply below_alloc|apply pw_below_drewN|apply below_drew1|refine below_set ?_ (IsS77.ge HI292.out))|exact HB.out));rintro e w20 ⟨rfl,hi,hb,hk⟩;have n0_:=Aside0.mk (Kd.R_mono (Kd.R_keep (IsS77.apart (show IsS77 w _ gb292 l0 x293001_1 from by repeat (first|(with_reducible first|exact HI292.out|apply IsS77.alloc|apply IsS77.drewN|apply IsS77.drew|apply IsS77.set_1)|exact HI292.out|apply IsS77.set_1)) (by (with_reducible repeat (first|apply Kd.R_alloc|apply Kd.R_drewN|apply Kd.R_drew));exact HO_8.out) (by decide)) hk (fun _ h => h.2)) (fun _ h => h.1));have n1_:=Aside0.mk (hb);have n2_:=Aside0.mk (hi);clear HO_8;clear HB;clear HI292;have HO_8:=n0_;have HB:=n1_;have HI292:=n2_;clear n0_ n1_ n2_;(try clear hb);(try clear hb2);(try clear hk);(try clear hi))|(go_at_call 36;(with_reducible refine (understudyref04_read.calls k1 gb292 l0 t302 (wrap64 (t300)) t303 t304 t305 t306 t307 t308 t309 w _ ?side1 ?side2 A17.out).mono ?_);(case side1 => repeat (first|(with_reducible first|exact HI292.out|apply IsS77.alloc|apply IsS77.drewN|apply IsS77.drew|apply IsS77.set_1)|exact HI292.out|apply IsS77.set_1));(case side2 => repeat (first|(with_reducible first|exact HB.out|apply below_alloc|apply pw_below_drewN|apply below_drew1|refine below_set ?_ (IsS77.ge HI292.out))|exact HB.out));rintro e w21 ⟨rfl,hi,hb,hk⟩;have n0_:=Aside0.mk (Kd.R_mono (Kd.R_keep (IsS77.apart (show IsS77 w _ gb292 l0 t302 from by repeat (first|(with_reducible first|exact HI292.out|apply IsS77.alloc|apply IsS77.drewN|apply IsS77.drew|apply IsS77.set_1)|exact HI292.out|apply IsS77.set_1)) (by (with_reducible repeat (first|apply Kd.R_alloc|apply Kd.R_drewN|apply Kd.R_drew));exact HO_8.out) (by decide)) hk (fun _ h => h.2)) (fun _ h => h.1));have n1_:=Aside0.mk (hb);have n2_:=Aside0.mk (hi);clear HO_8;clear HB;clear HI292;have HO_8:=n0_;have HB:=n1_;have HI292:=n2_;clear n0_ n1_ n2_;(try clear hb);(try clear hb2);(try clear hk);(try clear hi))|((with_reducible refine gate_dst (N:=12) rfl ?_);refine box_event ?hg (N:=12) ?hd (cs:=#[.int .i64 0,.string (⟨#[]⟩:ByteArray),.int .i64 0,.int .i64 0,.int .i64 0]) (t:=33) ?hr ?_;(case hd => rfl);(case hg => rfl);(case hr => first|(go_simp;done)|(go_simp;rfl));intro gb310 hg w22 hbox hb;have n0_:=Aside0.mk (Kd.R_below (Kd.R_elderB (by (with_reducible repeat (first|apply Kd.R_alloc|apply Kd.R_drewN|apply Kd.R_drew));exact HO_8.out) gb310 (Nat.le_of_eq hg.symm)) hb);have n1_:=Aside0.mk (IsS77.below (by repeat (first|(with_reducible first|exact HI292.out|apply IsS77.alloc|apply IsS77.drewN|apply IsS77.drew|apply IsS77.set_1)|exact HI292.out|apply IsS77.set_1)) hb);have n2_:=Aside0.mk (below_step (by repeat (first|(with_reducible first|exact HB.out|apply below_alloc|apply pw_below_drewN|apply below_drew1|refine below_set ?_ (IsS77.ge HI292.out))|exact HB.out)) hb);have n3_:=Aside0.mk (hbox);have n4_:=Aside0.mk ((by rw [hg];exact (below_size (by repeat (first|(with_reducible first|exact HB.out|apply below_alloc|apply pw_below_drewN|apply below_drew1|refine below_set ?_ (IsS77.ge HI292.out))|exact HB.out))):w.heap.size≤gb310));have n5_:=Aside0.mk ((by rw [hg];exact (below_size (by repeat (first|(with_reducible first|exact HB.out|apply below_alloc|apply pw_below_drewN|apply below_drew1|refine below_set ?_ (IsS77.ge HI292.out))|exact HB.out))):w.heap.size≤gb310));have n6_:=Aside0.mk ((by rw [hg];exact Nat.ne_of_lt (IsS77.lt (show IsS77 w _ gb292 l0 t309 from by repeat (first|(with_reducible first|exact HI292.out|apply IsS77.alloc|apply IsS77.drewN|apply IsS77.drew|apply IsS77.set_1)|exact HI292.out|apply IsS77.set_1))):gb292 ≠ gb310));have n7_:=Aside0.mk ((by rw [hg];exact Nat.ne_of_gt (IsS77.lt (show IsS77 w _ gb292 l0 t309 from by repeat (first|(with_reducible first|exact HI292.out|apply IsS77.alloc|apply IsS77.drewN|apply IsS77.drew|apply IsS77.set_1)|exact HI292.out|apply IsS77.set_1))):gb310 ≠ gb292));clear HO_8;clear HI292;clear HB;have HO_8:=n0_;have HI292:=n1_;have HB:=n2_;have BK310:=n3_;have GW310:=n4_;have GE310:=n5_;have NB292_310:=n6_;have NB310_292:=n7_;clear n0_ n1_ n2_ n3_ n4_ n5_ n6_ n7_;clear hb hbox hg;have hnb23:=NB310_292.out;have hnc23:=NB292_310.out;have hcz24_0:w22.cell? ⟨gb310,0,none⟩=some (.int .i64 0):=(blk_cell BK310.out 0).trans rfl;have hcz24_1:w22.cell? ⟨gb310,1,none⟩=some (.string (⟨#[]⟩:ByteArray)):=(blk_cell BK310.out 1).trans rfl;have hcz24_2:w22.cell? ⟨gb310,2,none⟩=some (.int .i64 0):=(blk_cell BK310.out 2).trans rfl;have hcz24_3:w22.cell? ⟨gb310,3,none⟩=some (.int .i64 0):=(blk_cell BK310.out 3).trans rfl;have hcz24_4:w22.cell? ⟨gb310,4,none⟩=some (.int .i64 0):=(blk_cell BK310.out 4).trans rfl;have hfz24_0:=blk_frozen BK310.out 0;have hfz24_1:=blk_frozen BK310.out 1;have hfz24_2:=blk_frozen BK310.out 2;have hfz24_3:=blk_frozen BK310.out 3;have hfz24_4:=blk_frozen BK310.out 4)|((with_reducible refine gate_store (t:=33) (p:=12) rfl ?_);(try (rw [drewN_self w22];generalize hq_:World.drewN w22 _=w22;have n0_:=Aside0.mk (Kd.R_at hq_ HO_8.out);have n1_:=Aside0.mk (blk_at hq_ BK310.out);have n2_:=Aside0.mk (IsS77.at_ hq_ HI292.out);have n3_:=Aside0.mk (below_at hq_ HB.out);clear hq_ HO_8 BK310 HI292 HB;have HO_8:=n0_;have BK310:=n1_;have HI292:=n2_;have HB:=n3_;clear n0_ n1_ n2_ n3_));refine store_event (t:=33) (p:=12) (v:=?vo_w25) (w1:=(((((w22.setCell ⟨gb310,0,none⟩ (.int .i64 t303)).setCell ⟨gb310,1,none⟩ (.string t304)).setCell ⟨gb310,2,none⟩ (.int .i64 t305)).setCell ⟨gb310,3,none⟩ (.int .i64 t306)).setCell ⟨gb310,4,none⟩ (.int .i64 t307))) ?hg ?ho ?hn ?hr ?_;(case ho => rfl);(case hg => rfl);(case hn => rfl);(case hr => first|(go_simp;done)|(go_simp;rfl));intro w25 hw;have n0_:Aside0 (Kd.R k33 33 w25 w.heap.size (fun k_ => k_ ≠ gb310) u8 x8_1):=⟨(by rw [hw];exact (by (with_reducible repeat (first|apply Kd.R_alloc|apply Kd.R_drewN|apply Kd.R_drew));exact Kd.R_mono (Kd.R_far (p:=⟨gb310,4,none⟩) (Kd.R_far (p:=⟨gb310,3,none⟩) (Kd.R_far (p:=⟨gb310,2,none⟩) (Kd.R_far (p:=⟨gb310,1,none⟩) (Kd.R_far (p:=⟨gb310,0,none⟩) (Kd.R_mono HO_8.out (fun k_ hk => (⟨hk,hk.2⟩:_∧k_ ≠ gb310))) (fun _ hk => hk.2) (.int .i64 t303)) (fun _ hk => hk.2) (.string t304)) (fun _ hk => hk.2) (.int .i64 t305)) (fun _ hk => hk.2) (.int .i64 t306)) (fun _ hk => hk.2) (.int .i64 t307)) (fun _ hk => hk.1.2)))⟩;have n1_:Aside0 (w25.heap[gb310]?=some (.cells #[.int .i64 t303,.string t304,.int .i64 t305,.int .i64 t306,.int .i64 t307] 33 (0,0))):=⟨(by rw [hw];exact (by (with_reducible repeat (first|refine blk_drewN ?_ _|refine blk_drew ?_|refine blk_alloc ?_ _));refine blk_put (cs:=#[.int .i64 t303,.string t304,.int .i64 t305,.int .i64 t306,.int .i64 0]) ?_ 4 _ rfl;(with_reducible repeat (first|refine blk_drewN ?_ _|refine blk_drew ?_|refine blk_alloc ?_ _));refine blk_put (cs:=#[.int .i64 t303,.string t304,.int .i64 t305,.int .i64 0,.int .i64 0]) ?_ 3 _ rfl;(with_reducible repeat (first|refine blk_drewN ?_ _|refine blk_drew ?_|refine blk_alloc ?_ _));refine blk_put (cs:=#[.int .i64 t303,.string t304,.int .i64 0,.int .i64 0,.int .i64 0]) ?_ 2 _ rfl;(with_reducible repeat (first|refine blk_drewN ?_ _|refine blk_drew ?_|refine blk_alloc ?_ _));refine blk_put (cs:=#[.int .i64 t303,.string (⟨#[]⟩:ByteArray),.int .i64 0,.int .i64 0,.int .i64 0]) ?_ 1 _ rfl;(with_reducible repeat (first|refine blk_drewN ?_ _|refine blk_drew ?_|refine blk_alloc ?_ _));refine blk_put (cs:=#[.int .i64 0,.string (⟨#[]⟩:ByteArray),.int .i64 0,.int .i64 0,.int .i64 0]) ?_ 0 _ rfl;(with_reducible repeat (first|refine blk_drewN ?_ _|refine blk_drew ?_|refine blk_alloc ?_ _));exact BK310.out))⟩;have n2_:Aside0 (IsS77 w w25 gb292 l0 t309):=⟨(by rw [hw];exact (by repeat (first|(with_reducible first|exact HI292.out|apply IsS77.alloc|apply IsS77.drewN|apply IsS77.drew|apply IsS77.set_1|apply IsS77.far (hne:=NB292_310.out))|exact HI292.out|apply IsS77.set_1)))⟩;have n3_:Aside0 (Below w.heap.size w w25):=⟨(by rw [hw];exact (by repeat (first|(with_reducible first|exact HB.out|apply below_alloc|apply pw_below_drewN|apply below_drew1|refine below_set ?_ (IsS77.ge HI292.out)|refine below_set ?_ GE310.out)|exact HB.out)))⟩;clear hw;clear HO_8;clear BK310;clear HI292;clear HB;have HO_8:=n0_;have BK310:=n1_;have HI292:=n2_;have HB:=n3_;clear n0_ n1_ n2_ n3_;have hcz26_0:w25.cell? ⟨gb310,0,none⟩=some (.int .i64 t303):=(blk_cell BK310.out 0).trans rfl;have hcz26_1:w25.cell? ⟨gb310,1,none⟩=some (.string t304):=(blk_cell BK310.out 1).trans rfl;have hcz26_2:w25.cell? ⟨gb310,2,none⟩=some (.int .i64 t305):=(blk_cell BK310.out 2).trans rfl;have hcz26_3:w25.cell? ⟨gb310,3,none⟩=some (.int .i64 t306):=(blk_cell BK310.out 3).trans rfl;have hcz26_4:w25.cell? ⟨gb310,4,none⟩=some (.int .i64 t307):=(blk_cell BK310.out 4).trans rfl;have hfz26_0:=blk_frozen BK310.out 0;have hfz26_1:=blk_frozen BK310.out 1;have hfz26_2:=blk_frozen BK310.out 2;have hfz26_3:=blk_frozen BK310.out 3;have hfz26_4:=blk_frozen BK310.out 4)|((with_reducible refine gate_builtin (b:=.append) (xs:=#[.tmp 54,.tmp 56]) rfl ?_);at_builtin;refine Kd.R_append k33 (w0:=w) w.heap.size rfl (.tmp 54) (.tmp 56) 22 33 (.agg #[(.int .i64 0),(.string ⟨#[]⟩),(.int .i64 0),(.int .i64 0),(.int .i64 0)]) 48 rfl Tryd.underlying22 info33 rfl (by decide) (by omega) u8 x8_1 (⟨t303,t304,t305,t306,t307⟩:S33) [.int .i64 t303,.string t304,.int .i64 t305,.int .i64 t306,.int .i64 t307] (fun k_ => k_ ≠ gb310) (fun _ => False) rfl rfl ?aP (fun _ hk => hk.elim) ?aF ?aO ?aB ?aS ?aL ?_;(case aP => exact k33_mkM _ _ _ (⟨t303,t304,t305,t306,t307⟩:S33));(case aB => exact (by repeat (first|(with_reducible first|exact HB.out|apply below_alloc|apply pw_below_drewN|apply below_drew1|refine below_set ?_ (IsS77.ge HI292.out)|refine below_set ?_ GE310.out)|exact HB.out)));(case aF => exact (fun k_ hk => Kd.freshB (g:=gb310) (o:=.cells #[.int .i64 t303,.string t304,.int .i64 t305,.int .i64 t306,.int .i64 t307] 33 (0,0)) (by (with_reducible repeat (first|refine blk_drewN ?_ _|refine blk_drew ?_|refine blk_alloc ?_ _));exact BK310.out) k_ hk));(case aO => exact (by (with_reducible repeat (first|apply Kd.R_alloc|apply Kd.R_drewN|apply Kd.R_drew));exact HO_8.out));(case aS => exact (below_size (by repeat (first|(with_reducible first|exact HB.out|apply below_alloc|apply pw_below_drewN|apply below_drew1|refine below_set ?_ (IsS77.ge HI292.out)|refine below_set ?_ GE310.out)|exact HB.out))));(case aL => have:=LMc19.out;omega);intro v312 w27 ho hb hg hat;rw [← Ny311.out] at ho;have n0_:=Aside0.mk (IsS77.grown (by repeat (first|(with_reducible first|exact HI292.out|apply IsS77.alloc|apply IsS77.drewN|apply IsS77.drew|apply IsS77.set_1|apply IsS77.far (hne:=NB292_310.out))|exact HI292.out|apply IsS77.set_1)) hg (IsS77.own_ne HI292.out HO_8.out (by decide)));have n1_:=Aside0.mk (blk_grown (g:=gb310) (o:=.cells #[.int .i64 t303,.string t304,.int .i64 t305,.int .i64 t306,.int .i64 t307] 33 (0,0)) (by (with_reducible repeat (first|refine blk_drewN ?_ _|refine blk_drew ?_|refine blk_alloc ?_ _));exact BK310.out) hg (Kd.R_away HO_8.out (fun _ hk => hk)));have n2_:=Aside0.mk (hb);have n3_:=Aside0.mk (ho);clear HI292;clear BK310;clear HB;clear HO_8;have HI292:=n0_;have BK310:=n1_;have HB:=n2_;have HO313:=n3_;clear n0_ n1_ n2_ n3_;clear ho hb hg hat))
          repeat (go_quiet (first|(go_at_call 35;(with_reducible refine (understudyref01_Reader_Uint.calls k1 gb292 l0 x293001_1 1 t300 t301 t302 w _ ?side1 ?side2 A15.out).mono ?_);(case side1 => repeat (first|(with_reducible first|exact HI292.out|apply IsS77.alloc|apply IsS77.drewN|apply IsS77.drew|apply IsS77.set_1)|exact HI292.out|apply IsS77.set_1));(case side2 => repeat (first|(with_reducible first|exact HB.out|apply below_alloc|apply pw_below_drewN|apply below_drew1|refine below_set ?_ (IsS77.ge HI292.out))|exact HB.out));rintro e w20 ⟨rfl,hi,hb,hk⟩;have n0_:=Aside0.mk (Kd.R_mono (Kd.R_keep (IsS77.apart (show IsS77 w _ gb292 l0 x293001_1 from by repeat (first|(with_reducible first|exact HI292.out|apply IsS77.alloc|apply IsS77.drewN|apply IsS77.drew|apply IsS77.set_1)|exact HI292.out|apply IsS77.set_1)) (by (with_reducible repeat (first|apply Kd.R_alloc|apply Kd.R_drewN|apply Kd.R_drew));exact HO_8.out) (by decide)) hk (fun _ h => h.2)) (fun _ h => h.1));have n1_:=Aside0.mk (hb);have n2_:=Aside0.mk (hi);clear HO_8;clear HB;clear HI292;have HO_8:=n0_;have HB:=n1_;have HI292:=n2_;clear n0_ n1_ n2_;(try clear hb);(try clear hb2);(try clear hk);(try clear hi))|(go_at_call 36;(with_reducible refine (understudyref04_read.calls k1 gb292 l0 t302 (wrap64 (t300)) t303 t304 t305 t306 t307 t308 t309 w _ ?side1 ?side2 A17.out).mono ?_);(case side1 => repeat (first|(with_reducible first|exact HI292.out|apply IsS77.alloc|apply IsS77.drewN|apply IsS77.drew|apply IsS77.set_1)|exact HI292.out|apply IsS77.set_1));(case side2 => repeat (first|(with_reducible first|exact HB.out|apply below_alloc|apply pw_below_drewN|apply below_drew1|refine below_set ?_ (IsS77.ge HI292.out))|exact HB.out));rintro e w21 ⟨rfl,hi,hb,hk⟩;have n0_:=Aside0.mk (Kd.R_mono (Kd.R_keep (IsS77.apart (show IsS77 w _ gb292 l0 t302 from by repeat (first|(with_reducible first|exact HI292.out|apply IsS77.alloc|apply IsS77.drewN|apply IsS77.drew|apply IsS77.set_1)|exact HI292.out|apply IsS77.set_1)) (by (with_reducible repeat (first|apply Kd.R_alloc|apply Kd.R_drewN|apply Kd.R_drew));exact HO_8.out) (by decide)) hk (fun _ h => h.2)) (fun _ h => h.1));have n1_:=Aside0.mk (hb);have n2_:=Aside0.mk (hi);clear HO_8;clear HB;clear HI292;have HO_8:=n0_;have HB:=n1_;have HI292:=n2_;clear n0_ n1_ n2_;(try clear hb);(try clear hb2);(try clear hk);(try clear hi))|((with_reducible refine gate_dst (N:=12) rfl ?_);refine box_event ?hg (N:=12) ?hd (cs:=#[.int .i64 0,.string (⟨#[]⟩:ByteArray),.int .i64 0,.int .i64 0,.int .i64 0]) (t:=33) ?hr ?_;(case hd => rfl);(case hg => rfl);(case hr => first|(go_simp;done)|(go_simp;rfl));intro gb310 hg w22 hbox hb;have n0_:=Aside0.mk (Kd.R_below (Kd.R_elderB (by (with_reducible repeat (first|apply Kd.R_alloc|apply Kd.R_drewN|apply Kd.R_drew));exact HO_8.out) gb310 (Nat.le_of_eq hg.symm)) hb);have n1_:=Aside0.mk (IsS77.below (by repeat (first|(with_reducible first|exact HI292.out|apply IsS77.alloc|apply IsS77.drewN|apply IsS77.drew|apply IsS77.set_1)|exact HI292.out|apply IsS77.set_1)) hb);have n2_:=Aside0.mk (below_step (by repeat (first|(with_reducible first|exact HB.out|apply below_alloc|apply pw_below_drewN|apply below_drew1|refine below_set ?_ (IsS77.ge HI292.out))|exact HB.out)) hb);have n3_:=Aside0.mk (hbox);have n4_:=Aside0.mk ((by rw [hg];exact (below_size (by repeat (first|(with_reducible first|exact HB.out|apply below_alloc|apply pw_below_drewN|apply below_drew1|refine below_set ?_ (IsS77.ge HI292.out))|exact HB.out))):w.heap.size≤gb310));have n5_:=Aside0.mk ((by rw [hg];exact (below_size (by repeat (first|(with_reducible first|exact HB.out|apply below_alloc|apply pw_below_drewN|apply below_drew1|refine below_set ?_ (IsS77.ge HI292.out))|exact HB.out))):w.heap.size≤gb310));have n6_:=Aside0.mk ((by rw [hg];exact Nat.ne_of_lt (IsS77.lt (show IsS77 w _ gb292 l0 t309 from by repeat (first|(with_reducible first|exact HI292.out|apply IsS77.alloc|apply IsS77.drewN|apply IsS77.drew|apply IsS77.set_1)|exact HI292.out|apply IsS77.set_1))):gb292 ≠ gb310));have n7_:=Aside0.mk ((by rw [hg];exact Nat.ne_of_gt (IsS77.lt (show IsS77 w _ gb292 l0 t309 from by repeat (first|(with_reducible first|exact HI292.out|apply IsS77.alloc|apply IsS77.drewN|apply IsS77.drew|apply IsS77.set_1)|exact HI292.out|apply IsS77.set_1))):gb310 ≠ gb292));clear HO_8;clear HI292;clear HB;have HO_8:=n0_;have HI292:=n1_;have HB:=n2_;have BK310:=n3_;have GW310:=n4_;have GE310:=n5_;have NB292_310:=n6_;have NB310_292:=n7_;clear n0_ n1_ n2_ n3_ n4_ n5_ n6_ n7_;clear hb hbox hg;have hnb23:=NB310_292.out;have hnc23:=NB292_310.out;have hcz24_0:w22.cell? ⟨gb310,0,none⟩=some (.int .i64 0):=(blk_cell BK310.out 0).trans rfl;have hcz24_1:w22.cell? ⟨gb310,1,none⟩=some (.string (⟨#[]⟩:ByteArray)):=(blk_cell BK310.out 1).trans rfl;have hcz24_2:w22.cell? ⟨gb310,2,none⟩=some (.int .i64 0):=(blk_cell BK310.out 2).trans rfl;have hcz24_3:w22.cell? ⟨gb310,3,none⟩=some (.int .i64 0):=(blk_cell BK310.out 3).trans rfl;have hcz24_4:w22.cell? ⟨gb310,4,none⟩=some (.int .i64 0):=(blk_cell BK310.out 4).trans rfl;have hfz24_0:=blk_frozen BK310.out 0;have hfz24_1:=blk_frozen BK310.out 1;have hfz24_2:=blk_frozen BK310.out 2;have hfz24_3:=blk_frozen BK310.out 3;have hfz24_4:=blk_frozen BK310.out 4)|((with_reducible refine gate_store (t:=33) (p:=12) rfl ?_);(try (rw [drewN_self w22];generalize hq_:World.drewN w22 _=w22;have n0_:=Aside0.mk (Kd.R_at hq_ HO_8.out);have n1_:=Aside0.mk (blk_at hq_ BK310.out);have n2_:=Aside0.mk (IsS77.at_ hq_ HI292.out);have n3_:=Aside0.mk (below_at hq_ HB.out);clear hq_ HO_8 BK310 HI292 HB;have HO_8:=n0_;have BK310:=n1_;have HI292:=n2_;have HB:=n3_;clear n0_ n1_ n2_ n3_));refine store_event (t:=33) (p:=12) (v:=?vo_w25) (w1:=(((((w22.setCell ⟨gb310,0,none⟩ (.int .i64 t303)).setCell ⟨gb310,1,none⟩ (.string t304)).setCell ⟨gb310,2,none⟩ (.int .i64 t305)).setCell ⟨gb310,3,none⟩ (.int .i64 t306)).setCell ⟨gb310,4,none⟩ (.int .i64 t307))) ?hg ?ho ?hn ?hr ?_;(case ho => rfl);(case hg => rfl);(case hn => rfl);(case hr => first|(go_simp;done)|(go_simp;rfl));intro w25 hw;have n0_:Aside0 (Kd.R k33 33 w25 w.heap.size (fun k_ => k_ ≠ gb310) u8 x8_1):=⟨(by rw [hw];exact (by (with_reducible repeat (first|apply Kd.R_alloc|apply Kd.R_drewN|apply Kd.R_drew));exact Kd.R_mono (Kd.R_far (p:=⟨gb310,4,none⟩) (Kd.R_far (p:=⟨gb310,3,none⟩) (Kd.R_far (p:=⟨gb310,2,none⟩) (Kd.R_far (p:=⟨gb310,1,none⟩) (Kd.R_far (p:=⟨gb310,0,none⟩) (Kd.R_mono HO_8.out (fun k_ hk => (⟨hk,hk.2⟩:_∧k_ ≠ gb310))) (fun _ hk => hk.2) (.int .i64 t303)) (fun _ hk => hk.2) (.string t304)) (fun _ hk => hk.2) (.int .i64 t305)) (fun _ hk => hk.2) (.int .i64 t306)) (fun _ hk => hk.2) (.int .i64 t307)) (fun _ hk => hk.1.2)))⟩;have n1_:Aside0 (w25.heap[gb310]?=some (.cells #[.int .i64 t303,.string t304,.int .i64 t305,.int .i64 t306,.int .i64 t307] 33 (0,0))):=⟨(by rw [hw];exact (by (with_reducible repeat (first|refine blk_drewN ?_ _|refine blk_drew ?_|refine blk_alloc ?_ _));refine blk_put (cs:=#[.int .i64 t303,.string t304,.int .i64 t305,.int .i64 t306,.int .i64 0]) ?_ 4 _ rfl;(with_reducible repeat (first|refine blk_drewN ?_ _|refine blk_drew ?_|refine blk_alloc ?_ _));refine blk_put (cs:=#[.int .i64 t303,.string t304,.int .i64 t305,.int .i64 0,.int .i64 0]) ?_ 3 _ rfl;(with_reducible repeat (first|refine blk_drewN ?_ _|refine blk_drew ?_|refine blk_alloc ?_ _));refine blk_put (cs:=#[.int .i64 t303,.string t304,.int .i64 0,.int .i64 0,.int .i64 0]) ?_ 2 _ rfl;(with_reducible repeat (first|refine blk_drewN ?_ _|refine blk_drew ?_|refine blk_alloc ?_ _));refine blk_put (cs:=#[.int .i64 t303,.string (⟨#[]⟩:ByteArray),.int .i64 0,.int .i64 0,.int .i64 0]) ?_ 1 _ rfl;(with_reducible repeat (first|refine blk_drewN ?_ _|refine blk_drew ?_|refine blk_alloc ?_ _));refine blk_put (cs:=#[.int .i64 0,.string (⟨#[]⟩:ByteArray),.int .i64 0,.int .i64 0,.int .i64 0]) ?_ 0 _ rfl;(with_reducible repeat (first|refine blk_drewN ?_ _|refine blk_drew ?_|refine blk_alloc ?_ _));exact BK310.out))⟩;have n2_:Aside0 (IsS77 w w25 gb292 l0 t309):=⟨(by rw [hw];exact (by repeat (first|(with_reducible first|exact HI292.out|apply IsS77.alloc|apply IsS77.drewN|apply IsS77.drew|apply IsS77.set_1|apply IsS77.far (hne:=NB292_310.out))|exact HI292.out|apply IsS77.set_1)))⟩;have n3_:Aside0 (Below w.heap.size w w25):=⟨(by rw [hw];exact (by repeat (first|(with_reducible first|exact HB.out|apply below_alloc|apply pw_below_drewN|apply below_drew1|refine below_set ?_ (IsS77.ge HI292.out)|refine below_set ?_ GE310.out)|exact HB.out)))⟩;clear hw;clear HO_8;clear BK310;clear HI292;clear HB;have HO_8:=n0_;have BK310:=n1_;have HI292:=n2_;have HB:=n3_;clear n0_ n1_ n2_ n3_;have hcz26_0:w25.cell? ⟨gb310,0,none⟩=some (.int .i64 t303):=(blk_cell BK310.out 0).trans rfl;have hcz26_1:w25.cell? ⟨gb310,1,none⟩=some (.string t304):=(blk_cell BK310.out 1).trans rfl;have hcz26_2:w25.cell? ⟨gb310,2,none⟩=some (.int .i64 t305):=(blk_cell BK310.out 2).trans rfl;have hcz26_3:w25.cell? ⟨gb310,3,none⟩=some (.int .i64 t306):=(blk_cell BK310.out 3).trans rfl;have hcz26_4:w25.cell? ⟨gb310,4,none⟩=some (.int .i64 t307):=(blk_cell BK310.out 4).trans rfl;have hfz26_0:=blk_frozen BK310.out 0;have hfz26_1:=blk_frozen BK310.out 1;have hfz26_2:=blk_frozen BK310.out 2;have hfz26_3:=blk_frozen BK310.out 3;have hfz26_4:=blk_frozen BK310.out 4)|((with_reducible refine gate_builtin (b:=.append) (xs:=#[.tmp 54,.tmp 56]) rfl ?_);at_builtin;refine Kd.R_append k33 (w0:=w) w.heap.size rfl (.tmp 54) (.tmp 56) 22 33 (.agg #[(.int .i64 0),(.string ⟨#[]⟩),(.int .i64 0),(.int .i64 0),(.int .i64 0)]) 48 rfl Tryd.underlying22 info33 rfl (by decide) (by omega) u8 x8_1 (⟨t303,t304,t305,t306,t307⟩:S33) [.int .i64 t303,.string t304,.int .i64 t305,.int .i64 t306,.int .i64 t307] (fun k_ => k_ ≠ gb310) (fun _ => False) rfl rfl ?aP (fun _ hk => hk.elim) ?aF ?aO ?aB ?aS ?aL ?_;(case aP => exact k33_mkM _ _ _ (⟨t303,t304,t305,t306,t307⟩:S33));(case aB => exact (by repeat (first|(with_reducible first|exact HB.out|apply below_alloc|apply pw_below_drewN|apply below_drew1|refine below_set ?_ (IsS77.ge HI292.out)|refine below_set ?_ GE310.out)|exact HB.out)));(case aF => exact (fun k_ hk => Kd.freshB (g:=gb310) (o:=.cells #[.int .i64 t303,.string t304,.int .i64 t305,.int .i64 t306,.int .i64 t307] 33 (0,0)) (by (with_reducible repeat (first|refine blk_drewN ?_ _|refine blk_drew ?_|refine blk_alloc ?_ _));exact BK310.out) k_ hk));(case aO => exact (by (with_reducible repeat (first|apply Kd.R_alloc|apply Kd.R_drewN|apply Kd.R_drew));exact HO_8.out));(case aS => exact (below_size (by repeat (first|(with_reducible first|exact HB.out|apply below_alloc|apply pw_below_drewN|apply below_drew1|refine below_set ?_ (IsS77.ge HI292.out)|refine below_set ?_ GE310.out)|exact HB.out))));(case aL => have:=LMc19.out;omega);intro v312 w27 ho hb hg hat;rw [← Ny311.out] at ho;have n0_:=Aside0.mk (IsS77.grown (by repeat (first|(with_reducible first|exact HI292.out|apply IsS77.alloc|apply IsS77.drewN|apply IsS77.drew|apply IsS77.set_1|apply IsS77.far (hne:=NB292_310.out))|exact HI292.out|apply IsS77.set_1)) hg (IsS77.own_ne HI292.out HO_8.out (by decide)));have n1_:=Aside0.mk (blk_grown (g:=gb310) (o:=.cells #[.int .i64 t303,.string t304,.int .i64 t305,.int .i64 t306,.int .i64 t307] 33 (0,0)) (by (with_reducible repeat (first|refine blk_drewN ?_ _|refine blk_drew ?_|refine blk_alloc ?_ _));exact BK310.out) hg (Kd.R_away HO_8.out (fun _ hk => hk)));have n2_:=Aside0.mk (hb);have n3_:=Aside0.mk (ho);clear HI292;clear BK310;clear HB;clear HO_8;have HI292:=n0_;have BK310:=n1_;have HB:=n2_;have HO313:=n3_;clear n0_ n1_ n2_ n3_;clear ho hb hg hat));try go_wp2_with (first|(go_at_call 35;(with_reducible refine (understudyref01_Reader_Uint.calls k1 gb292 l0 x293001_1 1 t300 t301 t302 w _ ?side1 ?side2 A15.out).mono ?_);(case side1 => repeat (first|(with_reducible first|exact HI292.out|apply IsS77.alloc|apply IsS77.drewN|apply IsS77.drew|apply IsS77.set_1)|exact HI292.out|apply IsS77.set_1));(case side2 => repeat (first|(with_reducible first|exact HB.out|apply below_alloc|apply pw_below_drewN|apply below_drew1|refine below_set ?_ (IsS77.ge HI292.out))|exact HB.out));rintro e w20 ⟨rfl,hi,hb,hk⟩;have n0_:=Aside0.mk (Kd.R_mono (Kd.R_keep (IsS77.apart (show IsS77 w _ gb292 l0 x293001_1 from by repeat (first|(with_reducible first|exact HI292.out|apply IsS77.alloc|apply IsS77.drewN|apply IsS77.drew|apply IsS77.set_1)|exact HI292.out|apply IsS77.set_1)) (by (with_reducible repeat (first|apply Kd.R_alloc|apply Kd.R_drewN|apply Kd.R_drew));exact HO_8.out) (by decide)) hk (fun _ h => h.2)) (fun _ h => h.1));have n1_:=Aside0.mk (hb);have n2_:=Aside0.mk (hi);clear HO_8;clear HB;clear HI292;have HO_8:=n0_;have HB:=n1_;have HI292:=n2_;clear n0_ n1_ n2_;(try clear hb);(try clear hb2);(try clear hk);(try clear hi))|(go_at_call 36;(with_reducible refine (understudyref04_read.calls k1 gb292 l0 t302 (wrap64 (t300)) t303 t304 t305 t306 t307 t308 t309 w _ ?side1 ?side2 A17.out).mono ?_);(case side1 => repeat (first|(with_reducible first|exact HI292.out|apply IsS77.alloc|apply IsS77.drewN|apply IsS77.drew|apply IsS77.set_1)|exact HI292.out|apply IsS77.set_1));(case side2 => repeat (first|(with_reducible first|exact HB.out|apply below_alloc|apply pw_below_drewN|apply below_drew1|refine below_set ?_ (IsS77.ge HI292.out))|exact HB.out));rintro e w21 ⟨rfl,hi,hb,hk⟩;have n0_:=Aside0.mk (Kd.R_mono (Kd.R_keep (IsS77.apart (show IsS77 w _ gb292 l0 t302 from by repeat (first|(with_reducible first|exact HI292.out|apply IsS77.alloc|apply IsS77.drewN|apply IsS77.drew|apply IsS77.set_1)|exact HI292.out|apply IsS77.set_1)) (by (with_reducible repeat (first|apply Kd.R_alloc|apply Kd.R_drewN|apply Kd.R_drew));exact HO_8.out) (by decide)) hk (fun _ h => h.2)) (fun _ h => h.1));have n1_:=Aside0.mk (hb);have n2_:=Aside0.mk (hi);clear HO_8;clear HB;clear HI292;have HO_8:=n0_;have HB:=n1_;have HI292:=n2_;clear n0_ n1_ n2_;(try clear hb);(try clear hb2);(try clear hk);(try clear hi))|((with_reducible refine gate_dst (N:=12) rfl ?_);refine box_event ?hg (N:=12) ?hd (cs:=#[.int .i64 0,.string (⟨#[]⟩:ByteArray),.int .i64 0,.int .i64 0,.int .i64 0]) (t:=33) ?hr ?_;(case hd => rfl);(case hg => rfl);(case hr => first|(go_simp;done)|(go_simp;rfl));intro gb310 hg w22 hbox hb;have n0_:=Aside0.mk (Kd.R_below (Kd.R_elderB (by (with_reducible repeat (first|apply Kd.R_alloc|apply Kd.R_drewN|apply Kd.R_drew));exact HO_8.out) gb310 (Nat.le_of_eq hg.symm)) hb);have n1_:=Aside0.mk (IsS77.below (by repeat (first|(with_reducible first|exact HI292.out|apply IsS77.alloc|apply IsS77.drewN|apply IsS77.drew|apply IsS77.set_1)|exact HI292.out|apply IsS77.set_1)) hb);have n2_:=Aside0.mk (below_step (by repeat (first|(with_reducible first|exact HB.out|apply below_alloc|apply pw_below_drewN|apply below_drew1|refine below_set ?_ (IsS77.ge HI292.out))|exact HB.out)) hb);have n3_:=Aside0.mk (hbox);have n4_:=Aside0.mk ((by rw [hg];exact (below_size (by repeat (first|(with_reducible first|exact HB.out|apply below_alloc|apply pw_below_drewN|apply below_drew1|refine below_set ?_ (IsS77.ge HI292.out))|exact HB.out))):w.heap.size≤gb310));have n5_:=Aside0.mk ((by rw [hg];exact (below_size (by repeat (first|(with_reducible first|exact HB.out|apply below_alloc|apply pw_below_drewN|apply below_drew1|refine below_set ?_ (IsS77.ge HI292.out))|exact HB.out))):w.heap.size≤gb310));have n6_:=Aside0.mk ((by rw [hg];exact Nat.ne_of_lt (IsS77.lt (show IsS77 w _ gb292 l0 t309 from by repeat (first|(with_reducible first|exact HI292.out|apply IsS77.alloc|apply IsS77.drewN|apply IsS77.drew|apply IsS77.set_1)|exact HI292.out|apply IsS77.set_1))):gb292 ≠ gb310));have n7_:=Aside0.mk ((by rw [hg];exact Nat.ne_of_gt (IsS77.lt (show IsS77 w _ gb292 l0 t309 from by repeat (first|(with_reducible first|exact HI292.out|apply IsS77.alloc|apply IsS77.drewN|apply IsS77.drew|apply IsS77.set_1)|exact HI292.out|apply IsS77.set_1))):gb310 ≠ gb292));clear HO_8;clear HI292;clear HB;have HO_8:=n0_;have HI292:=n1_;have HB:=n2_;have BK310:=n3_;have GW310:=n4_;have GE310:=n5_;have NB292_310:=n6_;have NB310_292:=n7_;clear n0_ n1_ n2_ n3_ n4_ n5_ n6_ n7_;clear hb hbox hg;have hnb23:=NB310_292.out;have hnc23:=NB292_310.out;have hcz24_0:w22.cell? ⟨gb310,0,none⟩=some (.int .i64 0):=(blk_cell BK310.out 0).trans rfl;have hcz24_1:w22.cell? ⟨gb310,1,none⟩=some (.string (⟨#[]⟩:ByteArray)):=(blk_cell BK310.out 1).trans rfl;have hcz24_2:w22.cell? ⟨gb310,2,none⟩=some (.int .i64 0):=(blk_cell BK310.out 2).trans rfl;have hcz24_3:w22.cell? ⟨gb310,3,none⟩=some (.int .i64 0):=(blk_cell BK310.out 3).trans rfl;have hcz24_4:w22.cell? ⟨gb310,4,none⟩=some (.int .i64 0):=(blk_cell BK310.out 4).trans rfl;have hfz24_0:=blk_frozen BK310.out 0;have hfz24_1:=blk_frozen BK310.out 1;have hfz24_2:=blk_frozen BK310.out 2;have hfz24_3:=blk_frozen BK310.out 3;have hfz24_4:=blk_frozen BK310.out 4)|((with_reducible refine gate_store (t:=33) (p:=12) rfl ?_);(try (rw [drewN_self w22];generalize hq_:World.drewN w22 _=w22;have n0_:=Aside0.mk (Kd.R_at hq_ HO_8.out);have n1_:=Aside0.mk (blk_at hq_ BK310.out);have n2_:=Aside0.mk (IsS77.at_ hq_ HI292.out);have n3_:=Aside0.mk (below_at hq_ HB.out);clear hq_ HO_8 BK310 HI292 HB;have HO_8:=n0_;have BK310:=n1_;have HI292:=n2_;have HB:=n3_;clear n0_ n1_ n2_ n3_));refine store_event (t:=33) (p:=12) (v:=?vo_w25) (w1:=(((((w22.setCell ⟨gb310,0,none⟩ (.int .i64 t303)).setCell ⟨gb310,1,none⟩ (.string t304)).setCell ⟨gb310,2,none⟩ (.int .i64 t305)).setCell ⟨gb310,3,none⟩ (.int .i64 t306)).setCell ⟨gb310,4,none⟩ (.int .i64 t307))) ?hg ?ho ?hn ?hr ?_;(case ho => rfl);(case hg => rfl);(case hn => rfl);(case hr => first|(go_simp;done)|(go_simp;rfl));intro w25 hw;have n0_:Aside0 (Kd.R k33 33 w25 w.heap.size (fun k_ => k_ ≠ gb310) u8 x8_1):=⟨(by rw [hw];exact (by (with_reducible repeat (first|apply Kd.R_alloc|apply Kd.R_drewN|apply Kd.R_drew));exact Kd.R_mono (Kd.R_far (p:=⟨gb310,4,none⟩) (Kd.R_far (p:=⟨gb310,3,none⟩) (Kd.R_far (p:=⟨gb310,2,none⟩) (Kd.R_far (p:=⟨gb310,1,none⟩) (Kd.R_far (p:=⟨gb310,0,none⟩) (Kd.R_mono HO_8.out (fun k_ hk => (⟨hk,hk.2⟩:_∧k_ ≠ gb310))) (fun _ hk => hk.2) (.int .i64 t303)) (fun _ hk => hk.2) (.string t304)) (fun _ hk => hk.2) (.int .i64 t305)) (fun _ hk => hk.2) (.int .i64 t306)) (fun _ hk => hk.2) (.int .i64 t307)) (fun _ hk => hk.1.2)))⟩;have n1_:Aside0 (w25.heap[gb310]?=some (.cells #[.int .i64 t303,.string t304,.int .i64 t305,.int .i64 t306,.int .i64 t307] 33 (0,0))):=⟨(by rw [hw];exact (by (with_reducible repeat (first|refine blk_drewN ?_ _|refine blk_drew ?_|refine blk_alloc ?_ _));refine blk_put (cs:=#[.int .i64 t303,.string t304,.int .i64 t305,.int .i64 t306,.int .i64 0]) ?_ 4 _ rfl;(with_reducible repeat (first|refine blk_drewN ?_ _|refine blk_drew ?_|refine blk_alloc ?_ _));refine blk_put (cs:=#[.int .i64 t303,.string t304,.int .i64 t305,.int .i64 0,.int .i64 0]) ?_ 3 _ rfl;(with_reducible repeat (first|refine blk_drewN ?_ _|refine blk_drew ?_|refine blk_alloc ?_ _));refine blk_put (cs:=#[.int .i64 t303,.string t304,.int .i64 0,.int .i64 0,.int .i64 0]) ?_ 2 _ rfl;(with_reducible repeat (first|refine blk_drewN ?_ _|refine blk_drew ?_|refine blk_alloc ?_ _));refine blk_put (cs:=#[.int .i64 t303,.string (⟨#[]⟩:ByteArray),.int .i64 0,.int .i64 0,.int .i64 0]) ?_ 1 _ rfl;(with_reducible repeat (first|refine blk_drewN ?_ _|refine blk_drew ?_|refine blk_alloc ?_ _));refine blk_put (cs:=#[.int .i64 0,.string (⟨#[]⟩:ByteArray),.int .i64 0,.int .i64 0,.int .i64 0]) ?_ 0 _ rfl;(with_reducible repeat (first|refine blk_drewN ?_ _|refine blk_drew ?_|refine blk_alloc ?_ _));exact BK310.out))⟩;have n2_:Aside0 (IsS77 w w25 gb292 l0 t309):=⟨(by rw [hw];exact (by repeat (first|(with_reducible first|exact HI292.out|apply IsS77.alloc|apply IsS77.drewN|apply IsS77.drew|apply IsS77.set_1|apply IsS77.far (hne:=NB292_310.out))|exact HI292.out|apply IsS77.set_1)))⟩;have n3_:Aside0 (Below w.heap.size w w25):=⟨(by rw [hw];exact (by repeat (first|(with_reducible first|exact HB.out|apply below_alloc|apply pw_below_drewN|apply below_drew1|refine below_set ?_ (IsS77.ge HI292.out)|refine below_set ?_ GE310.out)|exact HB.out)))⟩;clear hw;clear HO_8;clear BK310;clear HI292;clear HB;have HO_8:=n0_;have BK310:=n1_;have HI292:=n2_;have HB:=n3_;clear n0_ n1_ n2_ n3_;have hcz26_0:w25.cell? ⟨gb310,0,none⟩=some (.int .i64 t303):=(blk_cell BK310.out 0).trans rfl;have hcz26_1:w25.cell? ⟨gb310,1,none⟩=some (.string t304):=(blk_cell BK310.out 1).trans rfl;have hcz26_2:w25.cell? ⟨gb310,2,none⟩=some (.int .i64 t305):=(blk_cell BK310.out 2).trans rfl;have hcz26_3:w25.cell? ⟨gb310,3,none⟩=some (.int .i64 t306):=(blk_cell BK310.out 3).trans rfl;have hcz26_4:w25.cell? ⟨gb310,4,none⟩=some (.int .i64 t307):=(blk_cell BK310.out 4).trans rfl;have hfz26_0:=blk_frozen BK310.out 0;have hfz26_1:=blk_frozen BK310.out 1;have hfz26_2:=blk_frozen BK310.out 2;have hfz26_3:=blk_frozen BK310.out 3;have hfz26_4:=blk_frozen BK310.out 4)|((with_reducible refine gate_builtin (b:=.append) (xs:=#[.tmp 54,.tmp 56]) rfl ?_);at_builtin;refine Kd.R_append k33 (w0:=w) w.heap.size rfl (.tmp 54) (.tmp 56) 22 33 (.agg #[(.int .i64 0),(.string ⟨#[]⟩),(.int .i64 0),(.int .i64 0),(.int .i64 0)]) 48 rfl Tryd.underlying22 info33 rfl (by decide) (by omega) u8 x8_1 (⟨t303,t304,t305,t306,t307⟩:S33) [.int .i64 t303,.string t304,.int .i64 t305,.int .i64 t306,.int .i64 t307] (fun k_ => k_ ≠ gb310) (fun _ => False) rfl rfl ?aP (fun _ hk => hk.elim) ?aF ?aO ?aB ?aS ?aL ?_;(case aP => exact k33_mkM _ _ _ (⟨t303,t304,t305,t306,t307⟩:S33));(case aB => exact (by repeat (first|(with_reducible first|exact HB.out|apply below_alloc|apply pw_below_drewN|apply below_drew1|refine below_set ?_ (IsS77.ge HI292.out)|refine below_set ?_ GE310.out)|exact HB.out)));(case aF => exact (fun k_ hk => Kd.freshB (g:=gb310) (o:=.cells #[.int .i64 t303,.string t304,.int .i64 t305,.int .i64 t306,.int .i64 t307] 33 (0,0)) (by (with_reducible repeat (first|refine blk_drewN ?_ _|refine blk_drew ?_|refine blk_alloc ?_ _));exact BK310.out) k_ hk));(case aO => exact (by (with_reducible repeat (first|apply Kd.R_alloc|apply Kd.R_drewN|apply Kd.R_drew));exact HO_8.out));(case aS => exact (below_size (by repeat (first|(with_reducible first|exact HB.out|apply below_alloc|apply pw_below_drewN|apply below_drew1|refine below_set ?_ (IsS77.ge HI292.out)|refine below_set ?_ GE310.out)|exact HB.out))));(case aL => have:=LMc19.out;omega);intro v312 w27 ho hb hg hat;rw [← Ny311.out] at ho;have n0_:=Aside0.mk (IsS77.grown (by repeat (first|(with_reducible first|exact HI292.out|apply IsS77.alloc|apply IsS77.drewN|apply IsS77.drew|apply IsS77.set_1|apply IsS77.far (hne:=NB292_310.out))|exact HI292.out|apply IsS77.set_1)) hg (IsS77.own_ne HI292.out HO_8.out (by decide)));have n1_:=Aside0.mk (blk_grown (g:=gb310) (o:=.cells #[.int .i64 t303,.string t304,.int .i64 t305,.int .i64 t306,.int .i64 t307] 33 (0,0)) (by (with_reducible repeat (first|refine blk_drewN ?_ _|refine blk_drew ?_|refine blk_alloc ?_ _));exact BK310.out) hg (Kd.R_away HO_8.out (fun _ hk => hk)));have n2_:=Aside0.mk (hb);have n3_:=Aside0.mk (ho);clear HI292;clear BK310;clear HB;clear HO_8;have HI292:=n0_;have BK310:=n1_;have HB:=n2_;have HO313:=n3_;clear n0_ n1_ n2_ n3_;clear ho hb hg hat)))
          go_roundg k1
          case measure => have:=HK1.out;omega
          case rel => exact ⟨(y311),(wrap64 (x9_1 + 1)),(t309),(by first|rfl|(simp;done)|(simp [*];done)),H',⟨by have:=HK1.out;omega⟩,⟨by (with_reducible repeat (first|apply Kd.R_alloc|apply Kd.R_drewN|apply Kd.R_drew));exact Kd.R_mono HO313.out (fun _ hk => trivial)⟩,⟨by repeat (first|(with_reducible first|exact HI292.out|apply IsS77.alloc|apply IsS77.drewN|apply IsS77.drew|apply IsS77.set_1|apply IsS77.far (hne:=NB292_310.out))|exact HI292.out|apply IsS77.set_1)⟩,⟨by repeat (first|(with_reducible first|exact HB.out|apply below_alloc|apply pw_below_drewN|apply below_drew1|refine below_set ?_ (IsS77.ge HI292.out)|refine below_set ?_ GE310.out)|exact HB.out)⟩⟩
         ·rw [if_neg c19] at H
          exact absurd H (by simp)
        ·rw [if_neg c18] at H
         have c18b0:(t308==0)=false:=beq_eq_false_iff_ne.mpr c18
         have c18b1:(t308 != 0)=true:=bne_iff_ne.mpr c18
         simp only [Option.some.injEq,Prod.mk.injEq] at H
         obtain ⟨rfl,rfl,rfl⟩:=H
         go_wp2_with (first|(go_at_call 35;(with_reducible refine (understudyref01_Reader_Uint.calls k1 gb292 l0 x293001_1 1 t300 t301 t302 w _ ?side1 ?side2 A15.out).mono ?_);(case side1 => repeat (first|(with_reducible first|exact HI292.out|apply IsS77.alloc|apply IsS77.drewN|apply IsS77.drew|apply IsS77.set_1)|exact HI292.out|apply IsS77.set_1));(case side2 => repeat (first|(with_reducible first|exact HB.out|apply below_alloc|apply pw_below_drewN|apply below_drew1|refine below_set ?_ (IsS77.ge HI292.out))|exact HB.out));rintro e w28 ⟨rfl,hi,hb,hk⟩;have n0_:=Aside0.mk (Kd.R_mono (Kd.R_keep (IsS77.apart (show IsS77 w _ gb292 l0 x293001_1 from by repeat (first|(with_reducible first|exact HI292.out|apply IsS77.alloc|apply IsS77.drewN|apply IsS77.drew|apply IsS77.set_1)|exact HI292.out|apply IsS77.set_1)) (by (with_reducible repeat (first|apply Kd.R_alloc|apply Kd.R_drewN|apply Kd.R_drew));exact HO_8.out) (by decide)) hk (fun _ h => h.2)) (fun _ h => h.1));have n1_:=Aside0.mk (hb);have n2_:=Aside0.mk (hi);clear HO_8;clear HB;clear HI292;have HO_8:=n0_;have HB:=n1_;have HI292:=n2_;clear n0_ n1_ n2_;(try clear hb);(try clear hb2);(try clear hk);(try clear hi))|(go_at_call 36;(with_reducible refine (understudyref04_read.calls k1 gb292 l0 t302 (wrap64 (t300)) t303 t304 t305 t306 t307 t308 t309 w _ ?side1 ?side2 A17.out).mono ?_);(case side1 => repeat (first|(with_reducible first|exact HI292.out|apply IsS77.alloc|apply IsS77.drewN|apply IsS77.drew|apply IsS77.set_1)|exact HI292.out|apply IsS77.set_1));(case side2 => repeat (first|(with_reducible first|exact HB.out|apply below_alloc|apply pw_below_drewN|apply below_drew1|refine below_set ?_ (IsS77.ge HI292.out))|exact HB.out));rintro e w29 ⟨rfl,hi,hb,hk⟩;have n0_:=Aside0.mk (Kd.R_mono (Kd.R_keep (IsS77.apart (show IsS77 w _ gb292 l0 t302 from by repeat (first|(with_reducible first|exact HI292.out|apply IsS77.alloc|apply IsS77.drewN|apply IsS77.drew|apply IsS77.set_1)|exact HI292.out|apply IsS77.set_1)) (by (with_reducible repeat (first|apply Kd.R_alloc|apply Kd.R_drewN|apply Kd.R_drew));exact HO_8.out) (by decide)) hk (fun _ h => h.2)) (fun _ h => h.1));have n1_:=Aside0.mk (hb);have n2_:=Aside0.mk (hi);clear HO_8;clear HB;clear HI292;have HO_8:=n0_;have HB:=n1_;have HI292:=n2_;clear n0_ n1_ n2_;(try clear hb);(try clear hb2);(try clear hk);(try clear hi))|((with_reducible refine gate_dst (N:=12) rfl ?_);refine box_event ?hg (N:=12) ?hd (cs:=#[.int .i64 0,.string (⟨#[]⟩:ByteArray),.int .i64 0,.int .i64 0,.int .i64 0]) (t:=33) ?hr ?_;(case hd => rfl);(case hg => rfl);(case hr => first|(go_simp;done)|(go_simp;rfl));intro gb310 hg w30 hbox hb;have n0_:=Aside0.mk (Kd.R_below (Kd.R_elderB (by (with_reducible repeat (first|apply Kd.R_alloc|apply Kd.R_drewN|apply Kd.R_drew));exact HO_8.out) gb310 (Nat.le_of_eq hg.symm)) hb);have n1_:=Aside0.mk (IsS77.below (by repeat (first|(with_reducible first|exact HI292.out|apply IsS77.alloc|apply IsS77.drewN|apply IsS77.drew|apply IsS77.set_1)|exact HI292.out|apply IsS77.set_1)) hb);have n2_:=Aside0.mk (below_step (by repeat (first|(with_reducible first|exact HB.out|apply below_alloc|apply pw_below_drewN|apply below_drew1|refine below_set ?_ (IsS77.ge HI292.out))|exact HB.out)) hb);have n3_:=Aside0.mk (hbox);have n4_:=Aside0.mk ((by rw [hg];exact (below_size (by repeat (first|(with_reducible first|exact HB.out|apply below_alloc|apply pw_below_drewN|apply below_drew1|refine below_set ?_ (IsS77.ge HI292.out))|exact HB.out))):w.heap.size≤gb310));have n5_:=Aside0.mk ((by rw [hg];exact (below_size (by repeat (first|(with_reducible first|exact HB.out|apply below_alloc|apply pw_below_drewN|apply below_drew1|refine below_set ?_ (IsS77.ge HI292.out))|exact HB.out))):w.heap.size≤gb310));have n6_:=Aside0.mk ((by rw [hg];exact Nat.ne_of_lt (IsS77.lt (show IsS77 w _ gb292 l0 t309 from by repeat (first|(with_reducible first|exact HI292.out|apply IsS77.alloc|apply IsS77.drewN|apply IsS77.drew|apply IsS77.set_1)|exact HI292.out|apply IsS77.set_1))):gb292 ≠ gb310));have n7_:=Aside0.mk ((by rw [hg];exact Nat.ne_of_gt (IsS77.lt (show IsS77 w _ gb292 l0 t309 from by repeat (first|(with_reducible first|exact HI292.out|apply IsS77.alloc|apply IsS77.drewN|apply IsS77.drew|apply IsS77.set_1)|exact HI292.out|apply IsS77.set_1))):gb310 ≠ gb292));clear HO_8;clear HI292;clear HB;have HO_8:=n0_;have HI292:=n1_;have HB:=n2_;have BK310:=n3_;have GW310:=n4_;have GE310:=n5_;have NB292_310:=n6_;have NB310_292:=n7_;clear n0_ n1_ n2_ n3_ n4_ n5_ n6_ n7_;clear hb hbox hg;have hnb31:=NB310_292.out;have hnc31:=NB292_310.out;have hcz32_0:w30.cell? ⟨gb310,0,none⟩=some (.int .i64 0):=(blk_cell BK310.out 0).trans rfl;have hcz32_1:w30.cell? ⟨gb310,1,none⟩=some (.string (⟨#[]⟩:ByteArray)):=(blk_cell BK310.out 1).trans rfl;have hcz32_2:w30.cell? ⟨gb310,2,none⟩=some (.int .i64 0):=(blk_cell BK310.out 2).trans rfl;have hcz32_3:w30.cell? ⟨gb310,3,none⟩=some (.int .i64 0):=(blk_cell BK310.out 3).trans rfl;have hcz32_4:w30.cell? ⟨gb310,4,none⟩=some (.int .i64 0):=(blk_cell BK310.out 4).trans rfl;have hfz32_0:=blk_frozen BK310.out 0;have hfz32_1:=blk_frozen BK310.out 1;have hfz32_2:=blk_frozen BK310.out 2;have hfz32_3:=blk_frozen BK310.out 3;have hfz32_4:=blk_frozen BK310.out 4)|((with_reducible refine gate_store (t:=33) (p:=12) rfl ?_);(try (rw [drewN_self w30];generalize hq_:World.drewN w30 _=w30;have n0_:=Aside0.mk (Kd.R_at hq_ HO_8.out);have n1_:=Aside0.mk (blk_at hq_ BK310.out);have n2_:=Aside0.mk (IsS77.at_ hq_ HI292.out);have n3_:=Aside0.mk (below_at hq_ HB.out);clear hq_ HO_8 BK310 HI292 HB;have HO_8:=n0_;have BK310:=n1_;have HI292:=n2_;have HB:=n3_;clear n0_ n1_ n2_ n3_));refine store_event (t:=33) (p:=12) (v:=?vo_w33) (w1:=(((((w30.setCell ⟨gb310,0,none⟩ (.int .i64 t303)).setCell ⟨gb310,1,none⟩ (.string t304)).setCell ⟨gb310,2,none⟩ (.int .i64 t305)).setCell ⟨gb310,3,none⟩ (.int .i64 t306)).setCell ⟨gb310,4,none⟩ (.int .i64 t307))) ?hg ?ho ?hn ?hr ?_;(case ho => rfl);(case hg => rfl);(case hn => rfl);(case hr => first|(go_simp;done)|(go_simp;rfl));intro w33 hw;have n0_:Aside0 (Kd.R k33 33 w33 w.heap.size (fun k_ => k_ ≠ gb310) u8 x8_1):=⟨(by rw [hw];exact (by (with_reducible repeat (first|apply Kd.R_alloc|apply Kd.R_drewN|apply Kd.R_drew));exact Kd.R_mono (Kd.R_far (p:=⟨gb310,4,none⟩) (Kd.R_far (p:=⟨gb310,3,none⟩) (Kd.R_far (p:=⟨gb310,2,none⟩) (Kd.R_far (p:=⟨gb310,1,none⟩) (Kd.R_far (p:=⟨gb310,0,none⟩) (Kd.R_mono HO_8.out (fun k_ hk => (⟨hk,hk.2⟩:_∧k_ ≠ gb310))) (fun _ hk => hk.2) (.int .i64 t303)) (fun _ hk => hk.2) (.string t304)) (fun _ hk => hk.2) (.int .i64 t305)) (fun _ hk => hk.2) (.int .i64 t306)) (fun _ hk => hk.2) (.int .i64 t307)) (fun _ hk => hk.1.2)))⟩;have n1_:Aside0 (w33.heap[gb310]?=some (.cells #[.int .i64 t303,.string t304,.int .i64 t305,.int .i64 t306,.int .i64 t307] 33 (0,0))):=⟨(by rw [hw];exact (by (with_reducible repeat (first|refine blk_drewN ?_ _|refine blk_drew ?_|refine blk_alloc ?_ _));refine blk_put (cs:=#[.int .i64 t303,.string t304,.int .i64 t305,.int .i64 t306,.int .i64 0]) ?_ 4 _ rfl;(with_reducible repeat (first|refine blk_drewN ?_ _|refine blk_drew ?_|refine blk_alloc ?_ _));refine blk_put (cs:=#[.int .i64 t303,.string t304,.int .i64 t305,.int .i64 0,.int .i64 0]) ?_ 3 _ rfl;(with_reducible repeat (first|refine blk_drewN ?_ _|refine blk_drew ?_|refine blk_alloc ?_ _));refine blk_put (cs:=#[.int .i64 t303,.string t304,.int .i64 0,.int .i64 0,.int .i64 0]) ?_ 2 _ rfl;(with_reducible repeat (first|refine blk_drewN ?_ _|refine blk_drew ?_|refine blk_alloc ?_ _));refine blk_put (cs:=#[.int .i64 t303,.string (⟨#[]⟩:ByteArray),.int .i64 0,.int .i64 0,.int .i64 0]) ?_ 1 _ rfl;(with_reducible repeat (first|refine blk_drewN ?_ _|refine blk_drew ?_|refine blk_alloc ?_ _));refine blk_put (cs:=#[.int .i64 0,.string (⟨#[]⟩:ByteArray),.int .i64 0,.int .i64 0,.int .i64 0]) ?_ 0 _ rfl;(with_reducible repeat (first|refine blk_drewN ?_ _|refine blk_drew ?_|refine blk_alloc ?_ _));exact BK310.out))⟩;have n2_:Aside0 (IsS77 w w33 gb292 l0 t309):=⟨(by rw [hw];exact (by repeat (first|(with_reducible first|exact HI292.out|apply IsS77.alloc|apply IsS77.drewN|apply IsS77.drew|apply IsS77.set_1|apply IsS77.far (hne:=NB292_310.out))|exact HI292.out|apply IsS77.set_1)))⟩;have n3_:Aside0 (Below w.heap.size w w33):=⟨(by rw [hw];exact (by repeat (first|(with_reducible first|exact HB.out|apply below_alloc|apply pw_below_drewN|apply below_drew1|refine below_set ?_ (IsS77.ge HI292.out)|refine below_set ?_ GE310.out)|exact HB.out)))⟩;clear hw;clear HO_8;clear BK310;clear HI292;clear HB;have HO_8:=n0_;have BK310:=n1_;have HI292:=n2_;have HB:=n3_;clear n0_ n1_ n2_ n3_))
         repeat (go_quiet (first|(go_at_call 35;(with_reducible refine (understudyref01_Reader_Uint.calls k1 gb292 l0 x293001_1 1 t300 t301 t302 w _ ?side1 ?side2 A15.out).mono ?_);(case side1 => repeat (first|(with_reducible first|exact HI292.out|apply IsS77.alloc|apply IsS77.drewN|apply IsS77.drew|apply IsS77.set_1)|exact HI292.out|apply IsS77.set_1));(case side2 => repeat (first|(with_reducible first|exact HB.out|apply below_alloc|apply pw_below_drewN|apply below_drew1|refine below_set ?_ (IsS77.ge HI292.out))|exact HB.out));rintro e w28 ⟨rfl,hi,hb,hk⟩;have n0_:=Aside0.mk (Kd.R_mono (Kd.R_keep (IsS77.apart (show IsS77 w _ gb292 l0 x293001_1 from by repeat (first|(with_reducible first|exact HI292.out|apply IsS77.alloc|apply IsS77.drewN|apply IsS77.drew|apply IsS77.set_1)|exact HI292.out|apply IsS77.set_1)) (by (with_reducible repeat (first|apply Kd.R_alloc|apply Kd.R_drewN|apply Kd.R_drew));exact HO_8.out) (by decide)) hk (fun _ h => h.2)) (fun _ h => h.1));have n1_:=Aside0.mk (hb);have n2_:=Aside0.mk (hi);clear HO_8;clear HB;clear HI292;have HO_8:=n0_;have HB:=n1_;have HI292:=n2_;clear n0_ n1_ n2_;(try clear hb);(try clear hb2);(try clear hk);(try clear hi))|(go_at_call 36;(with_reducible refine (understudyref04_read.calls k1 gb292 l0 t302 (wrap64 (t300)) t303 t304 t305 t306 t307 t308 t309 w _ ?side1 ?side2 A17.out).mono ?_);(case side1 => repeat (first|(with_reducible first|exact HI292.out|apply IsS77.alloc|apply IsS77.drewN|apply IsS77.drew|apply IsS77.set_1)|exact HI292.out|apply IsS77.set_1));(case side2 => repeat (first|(with_reducible first|exact HB.out|apply below_alloc|apply pw_below_drewN|apply below_drew1|refine below_set ?_ (IsS77.ge HI292.out))|exact HB.out));rintro e w29 ⟨rfl,hi,hb,hk⟩;have n0_:=Aside0.mk (Kd.R_mono (Kd.R_keep (IsS77.apart (show IsS77 w _ gb292 l0 t302 from by repeat (first|(with_reducible first|exact HI292.out|apply IsS77.alloc|apply IsS77.drewN|apply IsS77.drew|apply IsS77.set_1)|exact HI292.out|apply IsS77.set_1)) (by (with_reducible repeat (first|apply Kd.R_alloc|apply Kd.R_drewN|apply Kd.R_drew));exact HO_8.out) (by decide)) hk (fun _ h => h.2)) (fun _ h => h.1));have n1_:=Aside0.mk (hb);have n2_:=Aside0.mk (hi);clear HO_8;clear HB;clear HI292;have HO_8:=n0_;have HB:=n1_;have HI292:=n2_;clear n0_ n1_ n2_;(try clear hb);(try clear hb2);(try clear hk);(try clear hi))|((with_reducible refine gate_dst (N:=12) rfl ?_);refine box_event ?hg (N:=12) ?hd (cs:=#[.int .i64 0,.string (⟨#[]⟩:ByteArray),.int .i64 0,.int .i64 0,.int .i64 0]) (t:=33) ?hr ?_;(case hd => rfl);(case hg => rfl);(case hr => first|(go_simp;done)|(go_simp;rfl));intro gb310 hg w30 hbox hb;have n0_:=Aside0.mk (Kd.R_below (Kd.R_elderB (by (with_reducible repeat (first|apply Kd.R_alloc|apply Kd.R_drewN|apply Kd.R_drew));exact HO_8.out) gb310 (Nat.le_of_eq hg.symm)) hb);have n1_:=Aside0.mk (IsS77.below (by repeat (first|(with_reducible first|exact HI292.out|apply IsS77.alloc|apply IsS77.drewN|apply IsS77.drew|apply IsS77.set_1)|exact HI292.out|apply IsS77.set_1)) hb);have n2_:=Aside0.mk (below_step (by repeat (first|(with_reducible first|exact HB.out|apply below_alloc|apply pw_below_drewN|apply below_drew1|refine below_set ?_ (IsS77.ge HI292.out))|exact HB.out)) hb);have n3_:=Aside0.mk (hbox);have n4_:=Aside0.mk ((by rw [hg];exact (below_size (by repeat (first|(with_reducible first|exact HB.out|apply below_alloc|apply pw_below_drewN|apply below_drew1|refine below_set ?_ (IsS77.ge HI292.out))|exact HB.out))):w.heap.size≤gb310));have n5_:=Aside0.mk ((by rw [hg];exact (below_size (by repeat (first|(with_reducible first|exact HB.out|apply below_alloc|apply pw_below_drewN|apply below_drew1|refine below_set ?_ (IsS77.ge HI292.out))|exact HB.out))):w.heap.size≤gb310));have n6_:=Aside0.mk ((by rw [hg];exact Nat.ne_of_lt (IsS77.lt (show IsS77 w _ gb292 l0 t309 from by repeat (first|(with_reducible first|exact HI292.out|apply IsS77.alloc|apply IsS77.drewN|apply IsS77.drew|apply IsS77.set_1)|exact HI292.out|apply IsS77.set_1))):gb292 ≠ gb310));have n7_:=Aside0.mk ((by rw [hg];exact Nat.ne_of_gt (IsS77.lt (show IsS77 w _ gb292 l0 t309 from by repeat (first|(with_reducible first|exact HI292.out|apply IsS77.alloc|apply IsS77.drewN|apply IsS77.drew|apply IsS77.set_1)|exact HI292.out|apply IsS77.set_1))):gb310 ≠ gb292));clear HO_8;clear HI292;clear HB;have HO_8:=n0_;have HI292:=n1_;have HB:=n2_;have BK310:=n3_;have GW310:=n4_;have GE310:=n5_;have NB292_310:=n6_;have NB310_292:=n7_;clear n0_ n1_ n2_ n3_ n4_ n5_ n6_ n7_;clear hb hbox hg;have hnb31:=NB310_292.out;have hnc31:=NB292_310.out;have hcz32_0:w30.cell? ⟨gb310,0,none⟩=some (.int .i64 0):=(blk_cell BK310.out 0).trans rfl;have hcz32_1:w30.cell? ⟨gb310,1,none⟩=some (.string (⟨#[]⟩:ByteArray)):=(blk_cell BK310.out 1).trans rfl;have hcz32_2:w30.cell? ⟨gb310,2,none⟩=some (.int .i64 0):=(blk_cell BK310.out 2).trans rfl;have hcz32_3:w30.cell? ⟨gb310,3,none⟩=some (.int .i64 0):=(blk_cell BK310.out 3).trans rfl;have hcz32_4:w30.cell? ⟨gb310,4,none⟩=some (.int .i64 0):=(blk_cell BK310.out 4).trans rfl;have hfz32_0:=blk_frozen BK310.out 0;have hfz32_1:=blk_frozen BK310.out 1;have hfz32_2:=blk_frozen BK310.out 2;have hfz32_3:=blk_frozen BK310.out 3;have hfz32_4:=blk_frozen BK310.out 4)|((with_reducible refine gate_store (t:=33) (p:=12) rfl ?_);(try (rw [drewN_self w30];generalize hq_:World.drewN w30 _=w30;have n0_:=Aside0.mk (Kd.R_at hq_ HO_8.out);have n1_:=Aside0.mk (blk_at hq_ BK310.out);have n2_:=Aside0.mk (IsS77.at_ hq_ HI292.out);have n3_:=Aside0.mk (below_at hq_ HB.out);clear hq_ HO_8 BK310 HI292 HB;have HO_8:=n0_;have BK310:=n1_;have HI292:=n2_;have HB:=n3_;clear n0_ n1_ n2_ n3_));refine store_event (t:=33) (p:=12) (v:=?vo_w33) (w1:=(((((w30.setCell ⟨gb310,0,none⟩ (.int .i64 t303)).setCell ⟨gb310,1,none⟩ (.string t304)).setCell ⟨gb310,2,none⟩ (.int .i64 t305)).setCell ⟨gb310,3,none⟩ (.int .i64 t306)).setCell ⟨gb310,4,none⟩ (.int .i64 t307))) ?hg ?ho ?hn ?hr ?_;(case ho => rfl);(case hg => rfl);(case hn => rfl);(case hr => first|(go_simp;done)|(go_simp;rfl));intro w33 hw;have n0_:Aside0 (Kd.R k33 33 w33 w.heap.size (fun k_ => k_ ≠ gb310) u8 x8_1):=⟨(by rw [hw];exact (by (with_reducible repeat (first|apply Kd.R_alloc|apply Kd.R_drewN|apply Kd.R_drew));exact Kd.R_mono (Kd.R_far (p:=⟨gb310,4,none⟩) (Kd.R_far (p:=⟨gb310,3,none⟩) (Kd.R_far (p:=⟨gb310,2,none⟩) (Kd.R_far (p:=⟨gb310,1,none⟩) (Kd.R_far (p:=⟨gb310,0,none⟩) (Kd.R_mono HO_8.out (fun k_ hk => (⟨hk,hk.2⟩:_∧k_ ≠ gb310))) (fun _ hk => hk.2) (.int .i64 t303)) (fun _ hk => hk.2) (.string t304)) (fun _ hk => hk.2) (.int .i64 t305)) (fun _ hk => hk.2) (.int .i64 t306)) (fun _ hk => hk.2) (.int .i64 t307)) (fun _ hk => hk.1.2)))⟩;have n1_:Aside0 (w33.heap[gb310]?=some (.cells #[.int .i64 t303,.string t304,.int .i64 t305,.int .i64 t306,.int .i64 t307] 33 (0,0))):=⟨(by rw [hw];exact (by (with_reducible repeat (first|refine blk_drewN ?_ _|refine blk_drew ?_|refine blk_alloc ?_ _));refine blk_put (cs:=#[.int .i64 t303,.string t304,.int .i64 t305,.int .i64 t306,.int .i64 0]) ?_ 4 _ rfl;(with_reducible repeat (first|refine blk_drewN ?_ _|refine blk_drew ?_|refine blk_alloc ?_ _));refine blk_put (cs:=#[.int .i64 t303,.string t304,.int .i64 t305,.int .i64 0,.int .i64 0]) ?_ 3 _ rfl;(with_reducible repeat (first|refine blk_drewN ?_ _|refine blk_drew ?_|refine blk_alloc ?_ _));refine blk_put (cs:=#[.int .i64 t303,.string t304,.int .i64 0,.int .i64 0,.int .i64 0]) ?_ 2 _ rfl;(with_reducible repeat (first|refine blk_drewN ?_ _|refine blk_drew ?_|refine blk_alloc ?_ _));refine blk_put (cs:=#[.int .i64 t303,.string (⟨#[]⟩:ByteArray),.int .i64 0,.int .i64 0,.int .i64 0]) ?_ 1 _ rfl;(with_reducible repeat (first|refine blk_drewN ?_ _|refine blk_drew ?_|refine blk_alloc ?_ _));refine blk_put (cs:=#[.int .i64 0,.string (⟨#[]⟩:ByteArray),.int .i64 0,.int .i64 0,.int .i64 0]) ?_ 0 _ rfl;(with_reducible repeat (first|refine blk_drewN ?_ _|refine blk_drew ?_|refine blk_alloc ?_ _));exact BK310.out))⟩;have n2_:Aside0 (IsS77 w w33 gb292 l0 t309):=⟨(by rw [hw];exact (by repeat (first|(with_reducible first|exact HI292.out|apply IsS77.alloc|apply IsS77.drewN|apply IsS77.drew|apply IsS77.set_1|apply IsS77.far (hne:=NB292_310.out))|exact HI292.out|apply IsS77.set_1)))⟩;have n3_:Aside0 (Below w.heap.size w w33):=⟨(by rw [hw];exact (by repeat (first|(with_reducible first|exact HB.out|apply below_alloc|apply pw_below_drewN|apply below_drew1|refine below_set ?_ (IsS77.ge HI292.out)|refine below_set ?_ GE310.out)|exact HB.out)))⟩;clear hw;clear HO_8;clear BK310;clear HI292;clear HB;have HO_8:=n0_;have BK310:=n1_;have HI292:=n2_;have HB:=n3_;clear n0_ n1_ n2_ n3_));try go_wp2_with (first|(go_at_call 35;(with_reducible refine (understudyref01_Reader_Uint.calls k1 gb292 l0 x293001_1 1 t300 t301 t302 w _ ?side1 ?side2 A15.out).mono ?_);(case side1 => repeat (first|(with_reducible first|exact HI292.out|apply IsS77.alloc|apply IsS77.drewN|apply IsS77.drew|apply IsS77.set_1)|exact HI292.out|apply IsS77.set_1));(case side2 => repeat (first|(with_reducible first|exact HB.out|apply below_alloc|apply pw_below_drewN|apply below_drew1|refine below_set ?_ (IsS77.ge HI292.out))|exact HB.out));rintro e w28 ⟨rfl,hi,hb,hk⟩;have n0_:=Aside0.mk (Kd.R_mono (Kd.R_keep (IsS77.apart (show IsS77 w _ gb292 l0 x293001_1 from by repeat (first|(with_reducible first|exact HI292.out|apply IsS77.alloc|apply IsS77.drewN|apply IsS77.drew|apply IsS77.set_1)|exact HI292.out|apply IsS77.set_1)) (by (with_reducible repeat (first|apply Kd.R_alloc|apply Kd.R_drewN|apply Kd.R_drew));exact HO_8.out) (by decide)) hk (fun _ h => h.2)) (fun _ h => h.1));have n1_:=Aside0.mk (hb);have n2_:=Aside0.mk (hi);clear HO_8;clear HB;clear HI292;have HO_8:=n0_;have HB:=n1_;have HI292:=n2_;clear n0_ n1_ n2_;(try clear hb);(try clear hb2);(try clear hk);(try clear hi))|(go_at_call 36;(with_reducible refine (understudyref04_read.calls k1 gb292 l0 t302 (wrap64 (t300)) t303 t304 t305 t306 t307 t308 t309 w _ ?side1 ?side2 A17.out).mono ?_);(case side1 => repeat (first|(with_reducible first|exact HI292.out|apply IsS77.alloc|apply IsS77.drewN|apply IsS77.drew|apply IsS77.set_1)|exact HI292.out|apply IsS77.set_1));(case side2 => repeat (first|(with_reducible first|exact HB.out|apply below_alloc|apply pw_below_drewN|apply below_drew1|refine below_set ?_ (IsS77.ge HI292.out))|exact HB.out));rintro e w29 ⟨rfl,hi,hb,hk⟩;have n0_:=Aside0.mk (Kd.R_mono (Kd.R_keep (IsS77.apart (show IsS77 w _ gb292 l0 t302 from by repeat (first|(with_reducible first|exact HI292.out|apply IsS77.alloc|apply IsS77.drewN|apply IsS77.drew|apply IsS77.set_1)|exact HI292.out|apply IsS77.set_1)) (by (with_reducible repeat (first|apply Kd.R_alloc|apply Kd.R_drewN|apply Kd.R_drew));exact HO_8.out) (by decide)) hk (fun _ h => h.2)) (fun _ h => h.1));have n1_:=Aside0.mk (hb);have n2_:=Aside0.mk (hi);clear HO_8;clear HB;clear HI292;have HO_8:=n0_;have HB:=n1_;have HI292:=n2_;clear n0_ n1_ n2_;(try clear hb);(try clear hb2);(try clear hk);(try clear hi))|((with_reducible refine gate_dst (N:=12) rfl ?_);refine box_event ?hg (N:=12) ?hd (cs:=#[.int .i64 0,.string (⟨#[]⟩:ByteArray),.int .i64 0,.int .i64 0,.int .i64 0]) (t:=33) ?hr ?_;(case hd => rfl);(case hg => rfl);(case hr => first|(go_simp;done)|(go_simp;rfl));intro gb310 hg w30 hbox hb;have n0_:=Aside0.mk (Kd.R_below (Kd.R_elderB (by (with_reducible repeat (first|apply Kd.R_alloc|apply Kd.R_drewN|apply Kd.R_drew));exact HO_8.out) gb310 (Nat.le_of_eq hg.symm)) hb);have n1_:=Aside0.mk (IsS77.below (by repeat (first|(with_reducible first|exact HI292.out|apply IsS77.alloc|apply IsS77.drewN|apply IsS77.drew|apply IsS77.set_1)|exact HI292.out|apply IsS77.set_1)) hb);have n2_:=Aside0.mk (below_step (by repeat (first|(with_reducible first|exact HB.out|apply below_alloc|apply pw_below_drewN|apply below_drew1|refine below_set ?_ (IsS77.ge HI292.out))|exact HB.out)) hb);have n3_:=Aside0.mk (hbox);have n4_:=Aside0.mk ((by rw [hg];exact (below_size (by repeat (first|(with_reducible first|exact HB.out|apply below_alloc|apply pw_below_drewN|apply below_drew1|refine below_set ?_ (IsS77.ge HI292.out))|exact HB.out))):w.heap.size≤gb310));have n5_:=Aside0.mk ((by rw [hg];exact (below_size (by repeat (first|(with_reducible first|exact HB.out|apply below_alloc|apply pw_below_drewN|apply below_drew1|refine below_set ?_ (IsS77.ge HI292.out))|exact HB.out))):w.heap.size≤gb310));have n6_:=Aside0.mk ((by rw [hg];exact Nat.ne_of_lt (IsS77.lt (show IsS77 w _ gb292 l0 t309 from by repeat (first|(with_reducible first|exact HI292.out|apply IsS77.alloc|apply IsS77.drewN|apply IsS77.drew|apply IsS77.set_1)|exact HI292.out|apply IsS77.set_1))):gb292 ≠ gb310));have n7_:=Aside0.mk ((by rw [hg];exact Nat.ne_of_gt (IsS77.lt (show IsS77 w _ gb292 l0 t309 from by repeat (first|(with_reducible first|exact HI292.out|apply IsS77.alloc|apply IsS77.drewN|apply IsS77.drew|apply IsS77.set_1)|exact HI292.out|apply IsS77.set_1))):gb310 ≠ gb292));clear HO_8;clear HI292;clear HB;have HO_8:=n0_;have HI292:=n1_;have HB:=n2_;have BK310:=n3_;have GW310:=n4_;have GE310:=n5_;have NB292_310:=n6_;have NB310_292:=n7_;clear n0_ n1_ n2_ n3_ n4_ n5_ n6_ n7_;clear hb hbox hg;have hnb31:=NB310_292.out;have hnc31:=NB292_310.out;have hcz32_0:w30.cell? ⟨gb310,0,none⟩=some (.int .i64 0):=(blk_cell BK310.out 0).trans rfl;have hcz32_1:w30.cell? ⟨gb310,1,none⟩=some (.string (⟨#[]⟩:ByteArray)):=(blk_cell BK310.out 1).trans rfl;have hcz32_2:w30.cell? ⟨gb310,2,none⟩=some (.int .i64 0):=(blk_cell BK310.out 2).trans rfl;have hcz32_3:w30.cell? ⟨gb310,3,none⟩=some (.int .i64 0):=(blk_cell BK310.out 3).trans rfl;have hcz32_4:w30.cell? ⟨gb310,4,none⟩=some (.int .i64 0):=(blk_cell BK310.out 4).trans rfl;have hfz32_0:=blk_frozen BK310.out 0;have hfz32_1:=blk_frozen BK310.out 1;have hfz32_2:=blk_frozen BK310.out 2;have hfz32_3:=blk_frozen BK310.out 3;have hfz32_4:=blk_frozen BK310.out 4)|((with_reducible refine gate_store (t:=33) (p:=12) rfl ?_);(try (rw [drewN_self w30];generalize hq_:World.drewN w30 _=w30;have n0_:=Aside0.mk (Kd.R_at hq_ HO_8.out);have n1_:=Aside0.mk (blk_at hq_ BK310.out);have n2_:=Aside0.mk (IsS77.at_ hq_ HI292.out);have n3_:=Aside0.mk (below_at hq_ HB.out);clear hq_ HO_8 BK310 HI292 HB;have HO_8:=n0_;have BK310:=n1_;have HI292:=n2_;have HB:=n3_;clear n0_ n1_ n2_ n3_));refine store_event (t:=33) (p:=12) (v:=?vo_w33) (w1:=(((((w30.setCell ⟨gb310,0,none⟩ (.int .i64 t303)).setCell ⟨gb310,1,none⟩ (.string t304)).setCell ⟨gb310,2,none⟩ (.int .i64 t305)).setCell ⟨gb310,3,none⟩ (.int .i64 t306)).setCell ⟨gb310,4,none⟩ (.int .i64 t307))) ?hg ?ho ?hn ?hr ?_;(case ho => rfl);(case hg => rfl);(case hn => rfl);(case hr => first|(go_simp;done)|(go_simp;rfl));intro w33 hw;have n0_:Aside0 (Kd.R k33 33 w33 w.heap.size (fun k_ => k_ ≠ gb310) u8 x8_1):=⟨(by rw [hw];exact (by (with_reducible repeat (first|apply Kd.R_alloc|apply Kd.R_drewN|apply Kd.R_drew));exact Kd.R_mono (Kd.R_far (p:=⟨gb310,4,none⟩) (Kd.R_far (p:=⟨gb310,3,none⟩) (Kd.R_far (p:=⟨gb310,2,none⟩) (Kd.R_far (p:=⟨gb310,1,none⟩) (Kd.R_far (p:=⟨gb310,0,none⟩) (Kd.R_mono HO_8.out (fun k_ hk => (⟨hk,hk.2⟩:_∧k_ ≠ gb310))) (fun _ hk => hk.2) (.int .i64 t303)) (fun _ hk => hk.2) (.string t304)) (fun _ hk => hk.2) (.int .i64 t305)) (fun _ hk => hk.2) (.int .i64 t306)) (fun _ hk => hk.2) (.int .i64 t307)) (fun _ hk => hk.1.2)))⟩;have n1_:Aside0 (w33.heap[gb310]?=some (.cells #[.int .i64 t303,.string t304,.int .i64 t305,.int .i64 t306,.int .i64 t307] 33 (0,0))):=⟨(by rw [hw];exact (by (with_reducible repeat (first|refine blk_drewN ?_ _|refine blk_drew ?_|refine blk_alloc ?_ _));refine blk_put (cs:=#[.int .i64 t303,.string t304,.int .i64 t305,.int .i64 t306,.int .i64 0]) ?_ 4 _ rfl;(with_reducible repeat (first|refine blk_drewN ?_ _|refine blk_drew ?_|refine blk_alloc ?_ _));refine blk_put (cs:=#[.int .i64 t303,.string t304,.int .i64 t305,.int .i64 0,.int .i64 0]) ?_ 3 _ rfl;(with_reducible repeat (first|refine blk_drewN ?_ _|refine blk_drew ?_|refine blk_alloc ?_ _));refine blk_put (cs:=#[.int .i64 t303,.string t304,.int .i64 0,.int .i64 0,.int .i64 0]) ?_ 2 _ rfl;(with_reducible repeat (first|refine blk_drewN ?_ _|refine blk_drew ?_|refine blk_alloc ?_ _));refine blk_put (cs:=#[.int .i64 t303,.string (⟨#[]⟩:ByteArray),.int .i64 0,.int .i64 0,.int .i64 0]) ?_ 1 _ rfl;(with_reducible repeat (first|refine blk_drewN ?_ _|refine blk_drew ?_|refine blk_alloc ?_ _));refine blk_put (cs:=#[.int .i64 0,.string (⟨#[]⟩:ByteArray),.int .i64 0,.int .i64 0,.int .i64 0]) ?_ 0 _ rfl;(with_reducible repeat (first|refine blk_drewN ?_ _|refine blk_drew ?_|refine blk_alloc ?_ _));exact BK310.out))⟩;have n2_:Aside0 (IsS77 w w33 gb292 l0 t309):=⟨(by rw [hw];exact (by repeat (first|(with_reducible first|exact HI292.out|apply IsS77.alloc|apply IsS77.drewN|apply IsS77.drew|apply IsS77.set_1|apply IsS77.far (hne:=NB292_310.out))|exact HI292.out|apply IsS77.set_1)))⟩;have n3_:Aside0 (Below w.heap.size w w33):=⟨(by rw [hw];exact (by repeat (first|(with_reducible first|exact HB.out|apply below_alloc|apply pw_below_drewN|apply below_drew1|refine below_set ?_ (IsS77.ge HI292.out)|refine below_set ?_ GE310.out)|exact HB.out)))⟩;clear hw;clear HO_8;clear BK310;clear HI292;clear HB;have HO_8:=n0_;have BK310:=n1_;have HI292:=n2_;have HB:=n3_;clear n0_ n1_ n2_ n3_)))
         go_ret3
         exact ⟨_,by first|rfl|(simp [errW_none,errW_some] <;> rfl)|(simp [*,errW_none,errW_some] <;> rfl),by first|exact Kd.R_nil _ _ _ _ _|exact Kd.N_nil _ _ _ _ _|exact Kd.V_nil _ _ _ _ _|exact Kd.Q_nil _ _ _ _ _|exact Kd.S_nil _ _ _ _ _,by repeat (first|(with_reducible first|exact HB.out|apply below_alloc|apply pw_below_drewN|apply below_drew1|refine below_set ?_ (IsS77.ge HI292.out)|refine below_set ?_ GE310.out)|exact HB.out)⟩
       ·rw [if_neg c16] at H
        have c16b0:(t301==0)=false:=beq_eq_false_iff_ne.mpr c16
        have c16b1:(t301 != 0)=true:=bne_iff_ne.mpr c16
        simp only [Option.some.injEq,Prod.mk.injEq] at H
        obtain ⟨rfl,rfl,rfl⟩:=H
        go_wp2_with (first|(go_at_call 35;(with_reducible refine (understudyref01_Reader_Uint.calls k1 gb292 l0 x293001_1 1 t300 t301 t302 w _ ?side1 ?side2 A15.out).mono ?_);(case side1 => repeat (first|(with_reducible first|exact HI292.out|apply IsS77.alloc|apply IsS77.drewN|apply IsS77.drew|apply IsS77.set_1)|exact HI292.out|apply IsS77.set_1));(case side2 => repeat (first|(with_reducible first|exact HB.out|apply below_alloc|apply pw_below_drewN|apply below_drew1|refine below_set ?_ (IsS77.ge HI292.out))|exact HB.out));rintro e w34 ⟨rfl,hi,hb,hk⟩;have n0_:=Aside0.mk (Kd.R_mono (Kd.R_keep (IsS77.apart (show IsS77 w _ gb292 l0 x293001_1 from by repeat (first|(with_reducible first|exact HI292.out|apply IsS77.alloc|apply IsS77.drewN|apply IsS77.drew|apply IsS77.set_1)|exact HI292.out|apply IsS77.set_1)) (by (with_reducible repeat (first|apply Kd.R_alloc|apply Kd.R_drewN|apply Kd.R_drew));exact HO_8.out) (by decide)) hk (fun _ h => h.2)) (fun _ h => h.1));have n1_:=Aside0.mk (hb);have n2_:=Aside0.mk (hi);clear HO_8;clear HB;clear HI292;have HO_8:=n0_;have HB:=n1_;have HI292:=n2_;clear n0_ n1_ n2_;(try clear hb);(try clear hb2);(try clear hk);(try clear hi)))
        repeat (go_quiet (first|(go_at_call 35;(with_reducible refine (understudyref01_Reader_Uint.calls k1 gb292 l0 x293001_1 1 t300 t301 t302 w _ ?side1 ?side2 A15.out).mono ?_);(case side1 => repeat (first|(with_reducible first|exact HI292.out|apply IsS77.alloc|apply IsS77.drewN|apply IsS77.drew|apply IsS77.set_1)|exact HI292.out|apply IsS77.set_1));(case side2 => repeat (first|(with_reducible first|exact HB.out|apply below_alloc|apply pw_below_drewN|apply below_drew1|refine below_set ?_ (IsS77.ge HI292.out))|exact HB.out));rintro e w34 ⟨rfl,hi,hb,hk⟩;have n0_:=Aside0.mk (Kd.R_mono (Kd.R_keep (IsS77.apart (show IsS77 w _ gb292 l0 x293001_1 from by repeat (first|(with_reducible first|exact HI292.out|apply IsS77.alloc|apply IsS77.drewN|apply IsS77.drew|apply IsS77.set_1)|exact HI292.out|apply IsS77.set_1)) (by (with_reducible repeat (first|apply Kd.R_alloc|apply Kd.R_drewN|apply Kd.R_drew));exact HO_8.out) (by decide)) hk (fun _ h => h.2)) (fun _ h => h.1));have n1_:=Aside0.mk (hb);have n2_:=Aside0.mk (hi);clear HO_8;clear HB;clear HI292;have HO_8:=n0_;have HB:=n1_;have HI292:=n2_;clear n0_ n1_ n2_;(try clear hb);(try clear hb2);(try clear hk);(try clear hi)));try go_wp2_with (first|(go_at_call 35;(with_reducible refine (understudyref01_Reader_Uint.calls k1 gb292 l0 x293001_1 1 t300 t301 t302 w _ ?side1 ?side2 A15.out).mono ?_);(case side1 => repeat (first|(with_reducible first|exact HI292.out|apply IsS77.alloc|apply IsS77.drewN|apply IsS77.drew|apply IsS77.set_1)|exact HI292.out|apply IsS77.set_1));(case side2 => repeat (first|(with_reducible first|exact HB.out|apply below_alloc|apply pw_below_drewN|apply below_drew1|refine below_set ?_ (IsS77.ge HI292.out))|exact HB.out));rintro e w34 ⟨rfl,hi,hb,hk⟩;have n0_:=Aside0.mk (Kd.R_mono (Kd.R_keep (IsS77.apart (show IsS77 w _ gb292 l0 x293001_1 from by repeat (first|(with_reducible first|exact HI292.out|apply IsS77.alloc|apply IsS77.drewN|apply IsS77.drew|apply IsS77.set_1)|exact HI292.out|apply IsS77.set_1)) (by (with_reducible repeat (first|apply Kd.R_alloc|apply Kd.R_drewN|apply Kd.R_drew));exact HO_8.out) (by decide)) hk (fun _ h => h.2)) (fun _ h => h.1));have n1_:=Aside0.mk (hb);have n2_:=Aside0.mk (hi);clear HO_8;clear HB;clear HI292;have HO_8:=n0_;have HB:=n1_;have HI292:=n2_;clear n0_ n1_ n2_;(try clear hb);(try clear hb2);(try clear hk);(try clear hi))))
        go_ret3
        exact ⟨_,by first|rfl|(simp [errW_none,errW_some] <;> rfl)|(simp [*,errW_none,errW_some] <;> rfl),by first|exact Kd.R_nil _ _ _ _ _|exact Kd.N_nil _ _ _ _ _|exact Kd.V_nil _ _ _ _ _|exact Kd.Q_nil _ _ _ _ _|exact Kd.S_nil _ _ _ _ _,by repeat (first|(with_reducible first|exact HB.out|apply below_alloc|apply pw_below_drewN|apply below_drew1|refine below_set ?_ (IsS77.ge HI292.out))|exact HB.out)⟩
      ·rw [if_neg c14] at H
       have c14b0:decide (x9_1 < (wrap64 (t293)))=false:=decide_eq_false c14
       clear c14
       replace H:=Option.bind_eq_some_iff.mp H
       obtain ⟨t299,A350,H⟩:=H
       replace H:(if t299=0 then (some (x8_1,x293001_1,0)) else (some (([]:List (S33)),0,t299)))=some (r1,r2,r3):=H
       have A35:=Aside0.mk A350
       clear A350
       by_cases c36:t299=0
       ·rw [if_pos c36] at H
        have c36b0:(t299==0)=true:=beq_iff_eq.mpr c36
        have c36b1:(t299 != 0)=false:=bne_eq_false_iff_eq.mpr c36
        clear c36
        simp only [Option.some.injEq,Prod.mk.injEq] at H
        obtain ⟨rfl,rfl,rfl⟩:=H
        obtain ⟨Ao37,co37,eo37⟩:=Kd.R_slice HO_8.out
        subst eo37
        go_wp2_with (first|(go_at_call 9;(with_reducible refine (understudyref04_Check.calls k1 _ _ x8_1 t299 _ ?side1 ?side2 A35.out).mono ?_);(case side1 => repeat (first|exact (Kd.R_reads' HO_8.out).2.2|(with_reducible refine Kd.C_alloc ?_ _)|(with_reducible refine Kd.C_drewN ?_ _)|(with_reducible refine Kd.C_drew ?_)));(case side2 => exact (Kd.R_reads' HO_8.out).2.1);rintro e w38 ⟨rfl,hb⟩;have n0_:=Aside0.mk (Kd.R_below (by (with_reducible repeat (first|apply Kd.R_alloc|apply Kd.R_drewN|apply Kd.R_drew));exact HO_8.out) hb);have n1_:=Aside0.mk (IsS77.below (by repeat (first|(with_reducible first|exact HI292.out|apply IsS77.alloc|apply IsS77.drewN|apply IsS77.drew|apply IsS77.set_1)|exact HI292.out|apply IsS77.set_1)) hb);have n2_:=Aside0.mk (below_step (by repeat (first|(with_reducible first|exact HB.out|apply below_alloc|apply pw_below_drewN|apply below_drew1|refine below_set ?_ (IsS77.ge HI292.out))|exact HB.out)) hb);clear HO_8;clear HI292;clear HB;have HO_8:=n0_;have HI292:=n1_;have HB:=n2_;clear n0_ n1_ n2_;(try clear hb);(try clear hb2);(try clear hk);(try clear hi);obtain ⟨ASz39_0,cSz39_0,HGz39,hgz39,HSz39_0,HVz39_0⟩:=HI292.out;have hcz39_0:=cellS77_0 HGz39;have hcz39_1:=cellS77_1 HGz39;have hfz39_1:=blk_frozen HGz39 1;clear HGz39 hgz39 HVz39_0))
        repeat (go_quiet (first|(go_at_call 9;(with_reducible refine (understudyref04_Check.calls k1 _ _ x8_1 t299 _ ?side1 ?side2 A35.out).mono ?_);(case side1 => repeat (first|exact (Kd.R_reads' HO_8.out).2.2|(with_reducible refine Kd.C_alloc ?_ _)|(with_reducible refine Kd.C_drewN ?_ _)|(with_reducible refine Kd.C_drew ?_)));(case side2 => exact (Kd.R_reads' HO_8.out).2.1);rintro e w38 ⟨rfl,hb⟩;have n0_:=Aside0.mk (Kd.R_below (by (with_reducible repeat (first|apply Kd.R_alloc|apply Kd.R_drewN|apply Kd.R_drew));exact HO_8.out) hb);have n1_:=Aside0.mk (IsS77.below (by repeat (first|(with_reducible first|exact HI292.out|apply IsS77.alloc|apply IsS77.drewN|apply IsS77.drew|apply IsS77.set_1)|exact HI292.out|apply IsS77.set_1)) hb);have n2_:=Aside0.mk (below_step (by repeat (first|(with_reducible first|exact HB.out|apply below_alloc|apply pw_below_drewN|apply below_drew1|refine below_set ?_ (IsS77.ge HI292.out))|exact HB.out)) hb);clear HO_8;clear HI292;clear HB;have HO_8:=n0_;have HI292:=n1_;have HB:=n2_;clear n0_ n1_ n2_;(try clear hb);(try clear hb2);(try clear hk);(try clear hi);obtain ⟨ASz39_0,cSz39_0,HGz39,hgz39,HSz39_0,HVz39_0⟩:=HI292.out;have hcz39_0:=cellS77_0 HGz39;have hcz39_1:=cellS77_1 HGz39;have hfz39_1:=blk_frozen HGz39 1;clear HGz39 hgz39 HVz39_0));try go_wp2_with (first|(go_at_call 9;(with_reducible refine (understudyref04_Check.calls k1 _ _ x8_1 t299 _ ?side1 ?side2 A35.out).mono ?_);(case side1 => repeat (first|exact (Kd.R_reads' HO_8.out).2.2|(with_reducible refine Kd.C_alloc ?_ _)|(with_reducible refine Kd.C_drewN ?_ _)|(with_reducible refine Kd.C_drew ?_)));(case side2 => exact (Kd.R_reads' HO_8.out).2.1);rintro e w38 ⟨rfl,hb⟩;have n0_:=Aside0.mk (Kd.R_below (by (with_reducible repeat (first|apply Kd.R_alloc|apply Kd.R_drewN|apply Kd.R_drew));exact HO_8.out) hb);have n1_:=Aside0.mk (IsS77.below (by repeat (first|(with_reducible first|exact HI292.out|apply IsS77.alloc|apply IsS77.drewN|apply IsS77.drew|apply IsS77.set_1)|exact HI292.out|apply IsS77.set_1)) hb);have n2_:=Aside0.mk (below_step (by repeat (first|(with_reducible first|exact HB.out|apply below_alloc|apply pw_below_drewN|apply below_drew1|refine below_set ?_ (IsS77.ge HI292.out))|exact HB.out)) hb);clear HO_8;clear HI292;clear HB;have HO_8:=n0_;have HI292:=n1_;have HB:=n2_;clear n0_ n1_ n2_;(try clear hb);(try clear hb2);(try clear hk);(try clear hi);obtain ⟨ASz39_0,cSz39_0,HGz39,hgz39,HSz39_0,HVz39_0⟩:=HI292.out;have hcz39_0:=cellS77_0 HGz39;have hcz39_1:=cellS77_1 HGz39;have hfz39_1:=blk_frozen HGz39 1;clear HGz39 hgz39 HVz39_0)))
        go_ret3
        exact ⟨_,by first|rfl|(simp [errW_none,errW_some] <;> rfl)|(simp [*,errW_none,errW_some] <;> rfl),by (with_reducible repeat (first|apply Kd.R_alloc|apply Kd.R_drewN|apply Kd.R_drew));exact HO_8.out,by repeat (first|(with_reducible first|exact HB.out|apply below_alloc|apply pw_below_drewN|apply below_drew1|refine below_set ?_ (IsS77.ge HI292.out))|exact HB.out)⟩
       ·rw [if_neg c36] at H
        have c36b0:(t299==0)=false:=beq_eq_false_iff_ne.mpr c36
        have c36b1:(t299 != 0)=true:=bne_iff_ne.mpr c36
        simp only [Option.some.injEq,Prod.mk.injEq] at H
        obtain ⟨rfl,rfl,rfl⟩:=H
        obtain ⟨Ao40,co40,eo40⟩:=Kd.R_slice HO_8.out
        subst eo40
        go_wp2_with (first|(go_at_call 9;(with_reducible refine (understudyref04_Check.calls k1 _ _ x8_1 t299 _ ?side1 ?side2 A35.out).mono ?_);(case side1 => repeat (first|exact (Kd.R_reads' HO_8.out).2.2|(with_reducible refine Kd.C_alloc ?_ _)|(with_reducible refine Kd.C_drewN ?_ _)|(with_reducible refine Kd.C_drew ?_)));(case side2 => exact (Kd.R_reads' HO_8.out).2.1);rintro e w41 ⟨rfl,hb⟩;have n0_:=Aside0.mk (Kd.R_below (by (with_reducible repeat (first|apply Kd.R_alloc|apply Kd.R_drewN|apply Kd.R_drew));exact HO_8.out) hb);have n1_:=Aside0.mk (IsS77.below (by repeat (first|(with_reducible first|exact HI292.out|apply IsS77.alloc|apply IsS77.drewN|apply IsS77.drew|apply IsS77.set_1)|exact HI292.out|apply IsS77.set_1)) hb);have n2_:=Aside0.mk (below_step (by repeat (first|(with_reducible first|exact HB.out|apply below_alloc|apply pw_below_drewN|apply below_drew1|refine below_set ?_ (IsS77.ge HI292.out))|exact HB.out)) hb);clear HO_8;clear HI292;clear HB;have HO_8:=n0_;have HI292:=n1_;have HB:=n2_;clear n0_ n1_ n2_;(try clear hb);(try clear hb2);(try clear hk);(try clear hi)))
        repeat (go_quiet (first|(go_at_call 9;(with_reducible refine (understudyref04_Check.calls k1 _ _ x8_1 t299 _ ?side1 ?side2 A35.out).mono ?_);(case side1 => repeat (first|exact (Kd.R_reads' HO_8.out).2.2|(with_reducible refine Kd.C_alloc ?_ _)|(with_reducible refine Kd.C_drewN ?_ _)|(with_reducible refine Kd.C_drew ?_)));(case side2 => exact (Kd.R_reads' HO_8.out).2.1);rintro e w41 ⟨rfl,hb⟩;have n0_:=Aside0.mk (Kd.R_below (by (with_reducible repeat (first|apply Kd.R_alloc|apply Kd.R_drewN|apply Kd.R_drew));exact HO_8.out) hb);have n1_:=Aside0.mk (IsS77.below (by repeat (first|(with_reducible first|exact HI292.out|apply IsS77.alloc|apply IsS77.drewN|apply IsS77.drew|apply IsS77.set_1)|exact HI292.out|apply IsS77.set_1)) hb);have n2_:=Aside0.mk (below_step (by repeat (first|(with_reducible first|exact HB.out|apply below_alloc|apply pw_below_drewN|apply below_drew1|refine below_set ?_ (IsS77.ge HI292.out))|exact HB.out)) hb);clear HO_8;clear HI292;clear HB;have HO_8:=n0_;have HI292:=n1_;have HB:=n2_;clear n0_ n1_ n2_;(try clear hb);(try clear hb2);(try clear hk);(try clear hi)));try go_wp2_with (first|(go_at_call 9;(with_reducible refine (understudyref04_Check.calls k1 _ _ x8_1 t299 _ ?side1 ?side2 A35.out).mono ?_);(case side1 => repeat (first|exact (Kd.R_reads' HO_8.out).2.2|(with_reducible refine Kd.C_alloc ?_ _)|(with_reducible refine Kd.C_drewN ?_ _)|(with_reducible refine Kd.C_drew ?_)));(case side2 => exact (Kd.R_reads' HO_8.out).2.1);rintro e w41 ⟨rfl,hb⟩;have n0_:=Aside0.mk (Kd.R_below (by (with_reducible repeat (first|apply Kd.R_alloc|apply Kd.R_drewN|apply Kd.R_drew));exact HO_8.out) hb);have n1_:=Aside0.mk (IsS77.below (by repeat (first|(with_reducible first|exact HI292.out|apply IsS77.alloc|apply IsS77.drewN|apply IsS77.drew|apply IsS77.set_1)|exact HI292.out|apply IsS77.set_1)) hb);have n2_:=Aside0.mk (below_step (by repeat (first|(with_reducible first|exact HB.out|apply below_alloc|apply pw_below_drewN|apply below_drew1|refine below_set ?_ (IsS77.ge HI292.out))|exact HB.out)) hb);clear HO_8;clear HI292;clear HB;have HO_8:=n0_;have HI292:=n1_;have HB:=n2_;clear n0_ n1_ n2_;(try clear hb);(try clear hb2);(try clear hk);(try clear hi))))
        go_ret3
        exact ⟨_,by first|rfl|(simp [errW_none,errW_some] <;> rfl)|(simp [*,errW_none,errW_some] <;> rfl),by first|exact Kd.R_nil _ _ _ _ _|exact Kd.N_nil _ _ _ _ _|exact Kd.V_nil _ _ _ _ _|exact Kd.Q_nil _ _ _ _ _|exact Kd.S_nil _ _ _ _ _,by repeat (first|(with_reducible first|exact HB.out|apply below_alloc|apply pw_below_drewN|apply below_drew1|refine below_set ?_ (IsS77.ge HI292.out))|exact HB.out)⟩
 ·rw [if_neg c3] at H
  have c3b0:(t294==0)=false:=beq_eq_false_iff_ne.mpr c3
  have c3b1:(t294 != 0)=true:=bne_iff_ne.mpr c3
  simp only [Option.some.injEq,Prod.mk.injEq] at H
  obtain ⟨rfl,rfl,rfl⟩:=H
  go_enter Tryd.func17,Tryd.ntmps17
  go_wp2_with (first|((with_reducible refine gate_dst (N:=15) rfl ?_);refine box_event ?hg (N:=15) ?hd (cs:=#[.slice A0 l0.length c0,.int .i64 0]) (t:=77) ?hr ?_;(case hd => rfl);(case hg => rfl);(case hr => first|(go_simp;done)|(go_simp;rfl));intro gb292 hg w42 hbox hb;have n0_:=Aside0.mk (below_step (by repeat (first|(with_reducible first|exact HB.out|apply below_alloc|apply pw_below_drewN|apply below_drew1)|exact HB.out)) hb);have n1_:=Aside0.mk (hbox);have n2_:=Aside0.mk ((by rw [hg];exact (below_size (by repeat (first|(with_reducible first|exact HB.out|apply below_alloc|apply pw_below_drewN|apply below_drew1)|exact HB.out))):w.heap.size≤gb292));have n3_:=Aside0.mk ((by rw [hg];exact (below_size (by repeat (first|(with_reducible first|exact HB.out|apply below_alloc|apply pw_below_drewN|apply below_drew1)|exact HB.out))):w.heap.size≤gb292));clear HB;have HB:=n0_;have BK292:=n1_;have GW292:=n2_;have GE292:=n3_;clear n0_ n1_ n2_ n3_;clear hb hbox hg;have HI292:=Aside0.mk (show IsS77 w w42 gb292 l0 0 from ⟨_,_,BK292.out,GE292.out,HR0.out,HC0.out⟩);clear BK292)|(go_at_call 35;(with_reducible refine (understudyref01_Reader_Uint.calls k gb292 l0 0 2 t293 t294 t295 w _ ?side1 ?side2 A2.out).mono ?_);(case side1 => repeat (first|(with_reducible first|exact HI292.out|apply IsS77.alloc|apply IsS77.drewN|apply IsS77.drew|apply IsS77.set_1)|exact HI292.out|apply IsS77.set_1));(case side2 => repeat (first|(with_reducible first|exact HB.out|apply below_alloc|apply pw_below_drewN|apply below_drew1|refine below_set ?_ (IsS77.ge HI292.out))|exact HB.out));rintro e w43 ⟨rfl,hi,hb,hk⟩;have n0_:=Aside0.mk (hb);have n1_:=Aside0.mk (hi);clear HB;clear HI292;have HB:=n0_;have HI292:=n1_;clear n0_ n1_;(try clear hb);(try clear hb2);(try clear hk);(try clear hi)))
  repeat (go_quiet (first|((with_reducible refine gate_dst (N:=15) rfl ?_);refine box_event ?hg (N:=15) ?hd (cs:=#[.slice A0 l0.length c0,.int .i64 0]) (t:=77) ?hr ?_;(case hd => rfl);(case hg => rfl);(case hr => first|(go_simp;done)|(go_simp;rfl));intro gb292 hg w42 hbox hb;have n0_:=Aside0.mk (below_step (by repeat (first|(with_reducible first|exact HB.out|apply below_alloc|apply pw_below_drewN|apply below_drew1)|exact HB.out)) hb);have n1_:=Aside0.mk (hbox);have n2_:=Aside0.mk ((by rw [hg];exact (below_size (by repeat (first|(with_reducible first|exact HB.out|apply below_alloc|apply pw_below_drewN|apply below_drew1)|exact HB.out))):w.heap.size≤gb292));have n3_:=Aside0.mk ((by rw [hg];exact (below_size (by repeat (first|(with_reducible first|exact HB.out|apply below_alloc|apply pw_below_drewN|apply below_drew1)|exact HB.out))):w.heap.size≤gb292));clear HB;have HB:=n0_;have BK292:=n1_;have GW292:=n2_;have GE292:=n3_;clear n0_ n1_ n2_ n3_;clear hb hbox hg;have HI292:=Aside0.mk (show IsS77 w w42 gb292 l0 0 from ⟨_,_,BK292.out,GE292.out,HR0.out,HC0.out⟩);clear BK292)|(go_at_call 35;(with_reducible refine (understudyref01_Reader_Uint.calls k gb292 l0 0 2 t293 t294 t295 w _ ?side1 ?side2 A2.out).mono ?_);(case side1 => repeat (first|(with_reducible first|exact HI292.out|apply IsS77.alloc|apply IsS77.drewN|apply IsS77.drew|apply IsS77.set_1)|exact HI292.out|apply IsS77.set_1));(case side2 => repeat (first|(with_reducible first|exact HB.out|apply below_alloc|apply pw_below_drewN|apply below_drew1|refine below_set ?_ (IsS77.ge HI292.out))|exact HB.out));rintro e w43 ⟨rfl,hi,hb,hk⟩;have n0_:=Aside0.mk (hb);have n1_:=Aside0.mk (hi);clear HB;clear HI292;have HB:=n0_;have HI292:=n1_;clear n0_ n1_;(try clear hb);(try clear hb2);(try clear hk);(try clear hi)));try go_wp2_with (first|((with_reducible refine gate_dst (N:=15) rfl ?_);refine box_event ?hg (N:=15) ?hd (cs:=#[.slice A0 l0.length c0,.int .i64 0]) (t:=77) ?hr ?_;(case hd => rfl);(case hg => rfl);(case hr => first|(go_simp;done)|(go_simp;rfl));intro gb292 hg w42 hbox hb;have n0_:=Aside0.mk (below_step (by repeat (first|(with_reducible first|exact HB.out|apply below_alloc|apply pw_below_drewN|apply below_drew1)|exact HB.out)) hb);have n1_:=Aside0.mk (hbox);have n2_:=Aside0.mk ((by rw [hg];exact (below_size (by repeat (first|(with_reducible first|exact HB.out|apply below_alloc|apply pw_below_drewN|apply below_drew1)|exact HB.out))):w.heap.size≤gb292));have n3_:=Aside0.mk ((by rw [hg];exact (below_size (by repeat (first|(with_reducible first|exact HB.out|apply below_alloc|apply pw_below_drewN|apply below_drew1)|exact HB.out))):w.heap.size≤gb292));clear HB;have HB:=n0_;have BK292:=n1_;have GW292:=n2_;have GE292:=n3_;clear n0_ n1_ n2_ n3_;clear hb hbox hg;have HI292:=Aside0.mk (show IsS77 w w42 gb292 l0 0 from ⟨_,_,BK292.out,GE292.out,HR0.out,HC0.out⟩);clear BK292)|(go_at_call 35;(with_reducible refine (understudyref01_Reader_Uint.calls k gb292 l0 0 2 t293 t294 t295 w _ ?side1 ?side2 A2.out).mono ?_);(case side1 => repeat (first|(with_reducible first|exact HI292.out|apply IsS77.alloc|apply IsS77.drewN|apply IsS77.drew|apply IsS77.set_1)|exact HI292.out|apply IsS77.set_1));(case side2 => repeat (first|(with_reducible first|exact HB.out|apply below_alloc|apply pw_below_drewN|apply below_drew1|refine below_set ?_ (IsS77.ge HI292.out))|exact HB.out));rintro e w43 ⟨rfl,hi,hb,hk⟩;have n0_:=Aside0.mk (hb);have n1_:=Aside0.mk (hi);clear HB;clear HI292;have HB:=n0_;have HI292:=n1_;clear n0_ n1_;(try clear hb);(try clear hb2);(try clear hk);(try clear hi))))
  go_ret3
  exact ⟨_,by first|rfl|(simp [errW_none,errW_some] <;> rfl)|(simp [*,errW_none,errW_some] <;> rfl),by first|exact Kd.R_nil _ _ _ _ _|exact Kd.N_nil _ _ _ _ _|exact Kd.V_nil _ _ _ _ _|exact Kd.Q_nil _ _ _ _ _|exact Kd.S_nil _ _ _ _ _,by repeat (first|(with_reducible first|exact HB.out|apply below_alloc|apply pw_below_drewN|apply below_drew1|refine below_set ?_ (IsS77.ge HI292.out))|exact HB.out)⟩
def understudylaw04_same.l0:Nat→List (S33)→List (S33)→Int→Option (Bool)
 | 0,_,_,_ => none
 | k + 1,x0,x1,x5 => if x5 < (x0.length:Int) then (if 0≤x5 then (if x5 < (x1.length:Int) then (if (!(((rd_T33 x0 x5).f0)==((rd_T33 x1 x5).f0)) || (!((((rd_T33 x0 x5).f1).toList)==(((rd_T33 x1 x5).f1).toList)) || (!(((rd_T33 x0 x5).f2)==((rd_T33 x1 x5).f2)) || (!(((rd_T33 x0 x5).f3)==((rd_T33 x1 x5).f3)) || (!(((rd_T33 x0 x5).f4)==((rd_T33 x1 x5).f4)))))))=true then (some false) else (understudylaw04_same.l0 k x0 x1 (wrap64 (x5 + 1)))) else (none)) else (none)) else (some true)
def understudylaw04_same.f (k:Nat) (l0:List (S33)) (l1:List (S33)):Option (Bool):=if (l0.length:Int)=(l1.length:Int) then (understudylaw04_same.l0 k l0 l1 0) else (some false)
theorem understudylaw04_same.mono_l:∀ k,(∀ y0 y1 y2,LeO (understudylaw04_same.l0 k y0 y1 y2) (understudylaw04_same.l0 (k + 1) y0 y1 y2))
 | 0 => fun _ _ _ r h => by simp [understudylaw04_same.l0] at h
 | k + 1 => by
  have ih0:=understudylaw04_same.mono_l k
  ·intro y0 y1 y2
   unfold understudylaw04_same.l0
   repeat' first
   | (with_reducible exact ih0 _ _ _)
   | (with_reducible exact LeO.refl _)
   | (with_reducible exact LeO.none _)
   | (with_reducible refine LeO.ite ?_ ?_)
   | (with_reducible refine LeO.bind ?_ (fun _ => ?_))
   | exact ih0 _ _ _
   | exact LeO.none _
   | refine LeO.ite ?_ ?_
   | refine LeO.bind ?_ (fun _ => ?_)
theorem understudylaw04_same.mono:∀ a0 a1 k,LeO (understudylaw04_same.f k a0 a1) (understudylaw04_same.f (k + 1) a0 a1):=by
 intro a0 a1 k
 have ih0:=understudylaw04_same.mono_l k
 unfold understudylaw04_same.f
 repeat' first
   | (with_reducible exact ih0 _ _ _)
   | (with_reducible exact LeO.refl _)
   | (with_reducible exact LeO.none _)
   | (with_reducible refine LeO.ite ?_ ?_)
   | (with_reducible refine LeO.bind ?_ (fun _ => ?_))
   | exact ih0 _ _ _
   | exact LeO.none _
   | refine LeO.ite ?_ ?_
   | refine LeO.bind ?_ (fun _ => ?_)
set_option maxHeartbeats 80000000 in
set_option maxRecDepth 100000 in
theorem understudylaw04_same.calls (k:Nat) (A0:Option Addr) (c0:Nat) (l0:List (S33)) (A1:Option Addr) (c1:Nat) (l1:List (S33)) (r:Bool) (w:World) (hr0:Kd.C k33 w A0 l0.length l0) (hc0:l0.length≤c0) (hr1:Kd.C k33 w A1 l1.length l1) (hc1:l1.length≤c1) (h:understudylaw04_same.f k l0 l1=some r) :
  Calls Tryd.prog 18 #[.slice A0 l0.length c0,.slice A1 l1.length c1] w fun e w' => e=.returned (.bool r)∧Drawn0 w w':=by
 have hu33:=Tryd.underlying33
 have HR0:=Aside0.mk hr0
 have HC0:=Aside0.mk hc0
 clear hr0 hc0
 have HR1:=Aside0.mk hr1
 have HC1:=Aside0.mk hc1
 clear hr1 hc1
 have H:(if (l0.length:Int)=(l1.length:Int) then (understudylaw04_same.l0 k l0 l1 0) else (some false))=some r:=h
 clear h
 by_cases c3:(l0.length:Int)=(l1.length:Int)
 ·rw [if_pos c3] at H
  have c3b0:((l0.length:Int)==(l1.length:Int))=true:=beq_iff_eq.mpr c3
  have c3b1:((l0.length:Int) != (l1.length:Int))=false:=bne_eq_false_iff_eq.mpr c3
  have c3b2:(l0.length==l1.length)=true:=by first|simpa using c3|(simp at c3 ⊢;omega)
  clear c3
  have H':=Aside0.mk H
  clear H
  go_enter Tryd.func18,Tryd.ntmps18
  go_wp2
  repeat (go_quiet (fail);try go_wp2)
  go_loopg [5] k (fun kq v5 w' => ∃ (x5_1:Int),v5=.int .i64 x5_1∧Aside0 (understudylaw04_same.l0 kq l0 l1 x5_1=some r)∧Aside0 (kq≤k)∧Drawn0 w w')
  case atStart => exact ⟨(0),(by first|rfl|(simp;done)|(simp [*];done)),H',⟨Nat.le_refl _⟩,by repeat (first|exact Drawn0.refl _|apply Drawn0.step)⟩
  case round =>
   clear H'
   try clear c1;try clear p2;try clear c3;try clear c3b0;try clear c3b1;try clear c3b2
   obtain ⟨x5_1,rfl,HA,HK1,⟨m1,rfl⟩⟩:=hrel
   cases gk with
   | zero => exact absurd HA.out (by simp [understudylaw04_same.l0])
   | succ k1 =>
    have H:=HA.out
    clear HA
    simp only [understudylaw04_same.l0] at H
    by_cases c4:x5_1 < (l0.length:Int)
    ·rw [if_pos c4] at H
     have c4b0:decide (x5_1 < (l0.length:Int))=true:=decide_eq_true c4
     clear c4
     by_cases c5:0≤x5_1
     ·rw [if_pos c5] at H
      have c5b0:decide (0≤x5_1)=true:=decide_eq_true c5
      clear c5
      by_cases c6:x5_1 < (l1.length:Int)
      ·rw [if_pos c6] at H
       have c6b0:decide (x5_1 < (l1.length:Int))=true:=decide_eq_true c6
       clear c6
       by_cases c7:(!(((rd_T33 l0 x5_1).f0)==((rd_T33 l1 x5_1).f0)) || (!((((rd_T33 l0 x5_1).f1).toList)==(((rd_T33 l1 x5_1).f1).toList)) || (!(((rd_T33 l0 x5_1).f2)==((rd_T33 l1 x5_1).f2)) || (!(((rd_T33 l0 x5_1).f3)==((rd_T33 l1 x5_1).f3)) || (!(((rd_T33 l0 x5_1).f4)==((rd_T33 l1 x5_1).f4)))))))=true
       ·rw [if_pos c7] at H
        have c7b0:(!(((rd_T33 l0 x5_1).f0)==((rd_T33 l1 x5_1).f0)) || (!((((rd_T33 l0 x5_1).f1).toList)==(((rd_T33 l1 x5_1).f1).toList)) || (!(((rd_T33 l0 x5_1).f2)==((rd_T33 l1 x5_1).f2)) || (!(((rd_T33 l0 x5_1).f3)==((rd_T33 l1 x5_1).f3)) || (!(((rd_T33 l0 x5_1).f4)==((rd_T33 l1 x5_1).f4)))))))=true:=c7
        clear c7
        obtain rfl:=Option.some.inj H
        have p314:0≤(x5_1:Int):=of_decide_eq_true (by first|(with_reducible assumption)|assumption)
        have q314:x5_1 < (l0.length:Int):=of_decide_eq_true (by first|(with_reducible assumption)|assumption)
        obtain ⟨ad314,e314,hx314_0,hx314_1,hx314_2,hx314_3,hx314_4⟩:=at_T33 HR0.out x5_1 p314 q314
        cases e314
        replace p314:=eq_true p314
        replace q314:=eq_true q314
        have p315:0≤(x5_1:Int):=of_decide_eq_true (by first|(with_reducible assumption)|assumption)
        have q315:x5_1 < (l1.length:Int):=of_decide_eq_true (by first|(with_reducible assumption)|assumption)
        obtain ⟨ad315,e315,hx315_0,hx315_1,hx315_2,hx315_3,hx315_4⟩:=at_T33 HR1.out x5_1 p315 q315
        cases e315
        replace p315:=eq_true p315
        replace q315:=eq_true q315
        go_wp2
        repeat (go_quiet (fail);try go_wp2)
        go_ret
        exact ⟨by first|rfl|(simp;done)|(simp [*];done),by repeat (first|exact Drawn0.refl _|apply Drawn0.step)⟩
       ·rw [if_neg c7] at H
        have c7b0:(!(((rd_T33 l0 x5_1).f0)==((rd_T33 l1 x5_1).f0)) || (!((((rd_T33 l0 x5_1).f1).toList)==(((rd_T33 l1 x5_1).f1).toList)) || (!(((rd_T33 l0 x5_1).f2)==((rd_T33 l1 x5_1).f2)) || (!(((rd_T33 l0 x5_1).f3)==((rd_T33 l1 x5_1).f3)) || (!(((rd_T33 l0 x5_1).f4)==((rd_T33 l1 x5_1).f4)))))))=false:=by simpa using c7
        clear c7
        have H':=Aside0.mk H
        clear H
        have p314:0≤(x5_1:Int):=of_decide_eq_true (by first|(with_reducible assumption)|assumption)
        have q314:x5_1 < (l0.length:Int):=of_decide_eq_true (by first|(with_reducible assumption)|assumption)
        obtain ⟨ad314,e314,hx314_0,hx314_1,hx314_2,hx314_3,hx314_4⟩:=at_T33 HR0.out x5_1 p314 q314
        cases e314
        replace p314:=eq_true p314
        replace q314:=eq_true q314
        have p315:0≤(x5_1:Int):=of_decide_eq_true (by first|(with_reducible assumption)|assumption)
        have q315:x5_1 < (l1.length:Int):=of_decide_eq_true (by first|(with_reducible assumption)|assumption)
        obtain ⟨ad315,e315,hx315_0,hx315_1,hx315_2,hx315_3,hx315_4⟩:=at_T33 HR1.out x5_1 p315 q315
        cases e315
        replace p315:=eq_true p315
        replace q315:=eq_true q315
        go_wp2
        repeat (go_quiet (fail);try go_wp2)
        go_roundg k1
        case measure => have:=HK1.out;omega
        case rel => exact ⟨(wrap64 (x5_1 + 1)),(by first|rfl|(simp;done)|(simp [*];done)),H',⟨by have:=HK1.out;omega⟩,by repeat (first|exact Drawn0.refl _|apply Drawn0.step)⟩
      ·rw [if_neg c6] at H
       exact absurd H (by simp)
     ·rw [if_neg c5] at H
      exact absurd H (by simp)
    ·rw [if_neg c4] at H
     have c4b0:decide (x5_1 < (l0.length:Int))=false:=decide_eq_false c4
     clear c4
     obtain rfl:=Option.some.inj H
     go_wp2
     repeat (go_quiet (fail);try go_wp2)
     go_ret
     exact ⟨by first|rfl|(simp;done)|(simp [*];done),by repeat (first|exact Drawn0.refl _|apply Drawn0.step)⟩
 ·rw [if_neg c3] at H
  have c3b0:((l0.length:Int)==(l1.length:Int))=false:=beq_eq_false_iff_ne.mpr c3
  have c3b1:((l0.length:Int) != (l1.length:Int))=true:=bne_iff_ne.mpr c3
  have c3b2:(l0.length==l1.length)=false:=by first|simpa using c3|(simp at c3 ⊢;omega)
  obtain rfl:=Option.some.inj H
  go_enter Tryd.func18,Tryd.ntmps18
  go_wp2
  repeat (go_quiet (fail);try go_wp2)
  go_ret
  exact ⟨by first|rfl|(simp;done)|(simp [*];done),by repeat (first|exact Drawn0.refl _|apply Drawn0.step)⟩
end Go.Proofs.YtglnhkgodgjepaaDoor.Px
namespace Go.Proofs.YtglnhkgodgjepaaDoor.Px
open Go.RowKit Go.Extern.Stop Go.Stop Go.Extern
set_option linter.unusedVariables false
set_option linter.unusedSimpArgs false
theorem as_nil (t:Value) (w:World) :
  Calls Tryd.prog 19 #[.nilIface,t] w fun e w' => e=.returned (.bool false)∧w'=w:=by
 go_enter Tryd.func19,Tryd.ntmps19
 go_wp2
 go_ret
 exact ⟨rfl,rfl⟩
theorem as_valueOf27 (t:Addr) (w:World):(ReflectliteValue.unpack (.iface 51 (.pointer (some t)))).run Tryd.prog w
  = .ok (.agg #[.pointer (some ⟨3,51,none⟩),.pointer (some ⟨w.heap.size,0,none⟩),.int .u64 150]) (w.alloc (.cells #[.pointer (some t)] 51)):=by kernel_rfl
theorem as_type27 (a : Addr) (w : World) : (ReflectliteValue.methodAny (ReflectliteValue.valueError "reflectlite.Value.Type" 0) (fun t _ _ _ => ReflectliteType.toType t) #[.agg #[.pointer (some ⟨3, 51, none⟩), .pointer (some a), .int .u64 150]]).run Tryd.prog w
  = .ok (.iface 122 (.agg #[.pointer (some ⟨3,51,none⟩)])) w:=by kernel_rfl
theorem as_methodKind (h : Value) (w : World) : (Go.method 280 122 (.agg #[h]) "Kind").run Tryd.prog w = .ok (91, h) w := by kernel_rfl
theorem as_kind27 (w:World):((ReflectliteType.abiMethod fun t => (fun a:Nat => Value.int IntKind.u8 (a:Int)) <$> Rtype.kind t) #[.pointer (some ⟨3,51,none⟩)]).run Tryd.prog w=.ok (.int .u8 22) w:=by kernel_rfl
theorem as_kind25 (w:World):((ReflectliteType.abiMethod fun t => (fun a:Nat => Value.int IntKind.u8 (a:Int)) <$> Rtype.kind t) #[.pointer (some ⟨3,46,none⟩)]).run Tryd.prog w=.ok (.int .u8 22) w:=by kernel_rfl
theorem rlm (z:Sem Value) (f:TypeId→Addr→Nat→Nat→Sem Value) (v:Value) :
  ReflectliteValue.method z f #[v]=(do match ← ReflectliteValue.parts v with|none => z|some (t,a,fl) => f t a fl (fl % 32)):=rfl
theorem as_parts27 (a:Addr) (w:World):(ReflectliteValue.parts (.agg #[.pointer (some ⟨3,51,none⟩),.pointer (some a),.int .u64 150])).run Tryd.prog w=.ok (some (51,a,150)) w:=by kernel_rfl
theorem as_isNil27 (a p:Addr) (W:World) (ha:W.cell? a=some (.pointer (some p))) :
  (ReflectliteValue.method (ReflectliteValue.valueError "reflectlite.Value.IsNil" 0) ReflectliteValue.isNil #[.agg #[.pointer (some ⟨3, 51, none⟩), .pointer (some a), .int .u64 150]]).run Tryd.prog W = .ok (.bool false) W := by
 rw [rlm]
 simp only [Sem.run_bind,as_parts27,Result.andThen]
 simp [ReflectliteValue.isNil,loadVar,isAgg,underlying,Tryd.underlying51,ha,Result.andThen]
theorem as_methodElem (h : Value) (w : World) : (Go.method 280 122 (.agg #[h]) "Elem").run Tryd.prog w = .ok (103, .agg #[h]) w := by kernel_rfl
theorem as_methodImplements (h : Value) (w : World) : (Go.method 280 122 (.agg #[h]) "Implements").run Tryd.prog w = .ok (104, .agg #[h]) w := by kernel_rfl
theorem as_methodAssignableTo (h : Value) (w : World) : (Go.method 280 122 (.agg #[h]) "AssignableTo").run Tryd.prog w = .ok (101, .agg #[h]) w := by kernel_rfl
theorem as_elem27 (w:World):(ReflectliteType.method ReflectliteType.elem #[.agg #[.pointer (some ⟨3,51,none⟩)]]).run Tryd.prog w=.ok (.iface 122 (.agg #[.pointer (some ⟨3,46,none⟩)])) w:=by kernel_rfl
theorem as_implements25 (w : World) : (ReflectliteType.relation "Implements" ReflectliteType.implements_ #[.agg #[.pointer (some ⟨3, 46, none⟩)], .iface 122 (.agg #[.pointer (some ⟨3, 49, none⟩)])]).run Tryd.prog w = .ok (.bool true) w := by kernel_rfl
theorem as_typeOf25 (v:Value) (w:World):(ReflectliteType.typeOf #[.iface 46 v]).run Tryd.prog w=.ok (.iface 122 (.agg #[.pointer (some ⟨3,46,none⟩)])) w:=by kernel_rfl
theorem as_assignable25 (w : World) : (ReflectliteType.relation "AssignableTo" ReflectliteType.assignableTo #[.agg #[.pointer (some ⟨3, 46, none⟩)], .iface 122 (.agg #[.pointer (some ⟨3, 46, none⟩)])]).run Tryd.prog w = .ok (.bool true) w := by kernel_rfl
theorem as_valueOf25 (e:Addr) (w:World):(ReflectliteValue.unpack (.iface 46 (.pointer (some e)))).run Tryd.prog w
  = .ok (.agg #[.pointer (some ⟨3,46,none⟩),.pointer (some ⟨w.heap.size,0,none⟩),.int .u64 150]) (w.alloc (.cells #[.pointer (some e)] 46)):=by kernel_rfl
theorem as_elemOf27 (w:World):(Rtype.elem? 51).run Tryd.prog w=.ok (some 46) w:=by kernel_rfl
theorem as_mk25 (p:Addr) (w:World):(ReflectliteValue.mk 46 p ReflectliteValue.flagAddr).run Tryd.prog w=.ok (.agg #[.pointer (some ⟨3,46,none⟩),.pointer (some p),.int .u64 406]) w:=by kernel_rfl
theorem as_elemV27 (a p:Addr) (W:World) (ha:W.cell? a=some (.pointer (some p))) :
  (ReflectliteValue.method (ReflectliteValue.valueError "reflectlite.Value.Elem" 0) ReflectliteValue.elem #[.agg #[.pointer (some ⟨3, 51, none⟩), .pointer (some a), .int .u64 150]]).run Tryd.prog W
   = .ok (.agg #[.pointer (some ⟨3,46,none⟩),.pointer (some p),.int .u64 406]) W:=by
 rw [rlm]
 simp only [Sem.run_bind,as_parts27,Result.andThen]
 simp [ReflectliteValue.elem,loadVar,isAgg,underlying,Tryd.underlying51,ha,Result.andThen,as_elemOf27,as_mk25]
theorem rls (v x:Value):ReflectliteValue.set #[v,x]=(do
  let (some (dst,a,fl),some (src,b,_)):=(← ReflectliteValue.parts v,← ReflectliteValue.parts x)
   | unsupported (.noEntry "extern/(internal/reflectlite.Value).Set.zeroValue")
  if fl / ReflectliteValue.flagAddr % 2 == 0 then unsupported (.noEntry "extern/(internal/reflectlite.Value).Set.unaddressable")
  let val ← loadVar src b
  if ← Rtype.directlyAssignable dst src then storeVar dst a val
  else if ← Rtype.implements dst src then
   if (← Rtype.kind src)==20 then
    match val with
    | .nilIface => unsupported (.noEntry "extern/reflectlite: a nil value of one interface type handed on as a value of another")
    | _ => storeVar dst a val
   else storeVar dst a (.iface src val)
  else panicString ("reflectlite.Set: value of type " ++ (← Rtype.spelt src) ++ " is not assignable to type " ++ (← Rtype.spelt dst))
  pure (.tuple #[])):=rfl
theorem as_parts25a (a:Addr) (w:World):(ReflectliteValue.parts (.agg #[.pointer (some ⟨3,46,none⟩),.pointer (some a),.int .u64 406])).run Tryd.prog w=.ok (some (46,a,406)) w:=by kernel_rfl
theorem as_parts25 (a:Addr) (w:World):(ReflectliteValue.parts (.agg #[.pointer (some ⟨3,46,none⟩),.pointer (some a),.int .u64 150])).run Tryd.prog w=.ok (some (46,a,150)) w:=by kernel_rfl
theorem as_direct25 (w:World):(Rtype.directlyAssignable 46 46).run Tryd.prog w=.ok true w:=by kernel_rfl
theorem as_set25 (ta b e:Addr) (old:Value) (W:World) (hb:W.cell? b=some (.pointer (some e))) (ht:W.cell? ta=some old) (hf:W.frozen? ta=false) :
  (ReflectliteValue.set #[.agg #[.pointer (some ⟨3,46,none⟩),.pointer (some ta),.int .u64 406],.agg #[.pointer (some ⟨3,46,none⟩),.pointer (some b),.int .u64 150]]).run Tryd.prog W
   = .ok (.tuple #[]) (W.setCell ta (.pointer (some e))):=by
 rw [rls]
 simp only [Sem.run_bind,as_parts25a,as_parts25,Result.andThen]
 simp [ReflectliteValue.flagAddr,loadVar,isAgg,underlying,Tryd.underlying46,hb,Result.andThen,as_direct25,storeVar,Value.cells,storeCells,Addr.add]
 rw [run_store Tryd.prog W ta _ _ (by rfl)]
 simp [ht,hf]
set_option maxHeartbeats 4000000 in
theorem as_hit (e t:Addr) (old:Value) (w:World) (hg:w.cell? ⟨0,0,none⟩=some (.iface 122 (.agg #[.pointer (some ⟨3,49,none⟩)]))) (ht0:w.cell? t=some old) (hf0:w.frozen? t=false) :
  Calls Tryd.prog 19 #[.iface 46 (.pointer (some e)),.iface 51 (.pointer (some t))] w fun ev w' => ev=.returned (.bool true)∧w'=((((w.alloc (.cells #[.pointer (some t)] 51)).alloc (.cells #[.pointer (some ⟨3,51,none⟩),.pointer (some ⟨w.heap.size,0,none⟩),.int .u64 150] 85)).alloc (.cells #[.pointer (some ⟨3,51,none⟩),.pointer (some ⟨w.heap.size,0,none⟩),.int .u64 150] 85)).alloc (.cells #[.pointer (some e)] 46)).setCell t (.pointer (some e)):=by
 have h6:=@run_callFunc_extern Tryd.prog 37 _ (fun args => ReflectliteValue.unpack (args.getD 0 (.tuple #[]))) Tryd.func37 (by kernel_rfl) (by kernel_rfl) (by kernel_rfl) (by kernel_rfl)
 have h7 := @run_callFunc_extern Tryd.prog 38 _ (ReflectliteValue.methodAny (ReflectliteValue.valueError "reflectlite.Value.Type" 0) (fun t _ _ _ => ReflectliteType.toType t)) Tryd.func38 (by kernel_rfl) (by kernel_rfl) (by kernel_rfl) (by kernel_rfl)
 have h8 := @run_callFunc_extern Tryd.prog 39 _ (ReflectliteValue.method (ReflectliteValue.valueError "reflectlite.Value.IsNil" 0) ReflectliteValue.isNil) Tryd.func39 (by kernel_rfl) (by kernel_rfl) (by kernel_rfl) (by kernel_rfl)
 have h27:=@run_callFunc_extern Tryd.prog 91 _ (ReflectliteType.abiMethod fun t => do pure (.int .u8 (← Rtype.kind t))) Tryd.func91 (by kernel_rfl) (by kernel_rfl) (by kernel_rfl) (by kernel_rfl)
 have h37:=@run_callFunc_extern Tryd.prog 103 _ (ReflectliteType.method ReflectliteType.elem) Tryd.func103 (by kernel_rfl) (by kernel_rfl) (by kernel_rfl) (by kernel_rfl)
 have h38 := @run_callFunc_extern Tryd.prog 104 _ (ReflectliteType.relation "Implements" ReflectliteType.implements_) Tryd.func104 (by kernel_rfl) (by kernel_rfl) (by kernel_rfl) (by kernel_rfl)
 have h10:=@run_callFunc_extern Tryd.prog 63 _ ReflectliteType.typeOf Tryd.func63 (by kernel_rfl) (by kernel_rfl) (by kernel_rfl) (by kernel_rfl)
 have h35 := @run_callFunc_extern Tryd.prog 101 _ (ReflectliteType.relation "AssignableTo" ReflectliteType.assignableTo) Tryd.func101 (by kernel_rfl) (by kernel_rfl) (by kernel_rfl) (by kernel_rfl)
 have h11 := @run_callFunc_extern Tryd.prog 64 _ (ReflectliteValue.method (ReflectliteValue.valueError "reflectlite.Value.Elem" 0) ReflectliteValue.elem) Tryd.func64 (by kernel_rfl) (by kernel_rfl) (by kernel_rfl) (by kernel_rfl)
 have h12:=@run_callFunc_extern Tryd.prog 65 _ ReflectliteValue.set Tryd.func65 (by kernel_rfl) (by kernel_rfl) (by kernel_rfl) (by kernel_rfl)
 have tO:=as_typeOf25
 have mA:=as_methodAssignableTo
 have a25:=as_assignable25
 have v25:=as_valueOf25
 have f6:=as_valueOf27
 have f7:=as_type27
 have mK:=as_methodKind
 have mE:=as_methodElem
 have mI:=as_methodImplements
 have k27:=as_kind27
 have k25:=as_kind25
 have e27:=as_elem27
 have i25:=as_implements25
 have n8:=as_isNil27 ⟨w.heap.size,0,none⟩ t ((w.alloc (.cells #[.pointer (some t)] 51)).alloc (.cells #[.pointer (some ⟨3,51,none⟩),.pointer (some ⟨w.heap.size,0,none⟩),.int .u64 150] 85)) (by simp)
 have hlt:0 < w.heap.size:=by
  rcases Nat.lt_or_ge 0 w.heap.size with h|h
  ·exact h
  ·simp [World.cell?,Array.getElem?_eq_none h] at hg
 have hg2:((w.alloc (.cells #[.pointer (some t)] 51)).alloc (.cells #[.pointer (some ⟨3,51,none⟩),.pointer (some ⟨w.heap.size,0,none⟩),.int .u64 150] 85)).cell? ⟨0,0,none⟩=some (.iface 122 (.agg #[.pointer (some ⟨3,49,none⟩)])):=by
  rw [World.cell?_alloc_lt _ _ ⟨0,0,none⟩ (by simp <;> omega),World.cell?_alloc_lt _ _ ⟨0,0,none⟩ hlt];exact hg
 have htl:t.block < w.heap.size:=by
  rcases Nat.lt_or_ge t.block w.heap.size with h|h
  ·exact h
  ·simp [World.cell?,Array.getElem?_eq_none h] at ht0
 have el:=as_elemV27 ⟨w.heap.size,0,none⟩ t (((w.alloc (.cells #[.pointer (some t)] 51)).alloc (.cells #[.pointer (some ⟨3,51,none⟩),.pointer (some ⟨w.heap.size,0,none⟩),.int .u64 150] 85)).alloc (.cells #[.pointer (some ⟨3,51,none⟩),.pointer (some ⟨w.heap.size,0,none⟩),.int .u64 150] 85)) (by rw [World.cell?_alloc_lt _ _ ⟨w.heap.size,0,none⟩ (by simp <;> omega)];simp)
 have st:=as_set25 t ⟨w.heap.size + 1 + 1 + 1,0,none⟩ e old ((((w.alloc (.cells #[.pointer (some t)] 51)).alloc (.cells #[.pointer (some ⟨3,51,none⟩),.pointer (some ⟨w.heap.size,0,none⟩),.int .u64 150] 85)).alloc (.cells #[.pointer (some ⟨3,51,none⟩),.pointer (some ⟨w.heap.size,0,none⟩),.int .u64 150] 85)).alloc (.cells #[.pointer (some e)] 46))
  (by rw [World.cell?_alloc_at _ _ _ _ (by simp)];rfl)
  (by rw [World.cell?_alloc_lt _ _ t (by simp <;> omega),World.cell?_alloc_lt _ _ t (by simp <;> omega),World.cell?_alloc_lt _ _ t (by simp <;> omega),World.cell?_alloc_lt _ _ t htl];exact ht0)
  (by rw [World.frozen?_alloc_old _ _ t (by simp <;> omega),World.frozen?_alloc_old _ _ t (by simp <;> omega),World.frozen?_alloc_old _ _ t (by simp <;> omega),World.frozen?_alloc_old _ _ t (Nat.ne_of_lt htl)];exact hf0)
 go_enter Tryd.func19,Tryd.ntmps19
 go_wp2
 refine wp_loop_rounds 1 ?_
 rw [rounds_succ]
 go_wp2
 go_ret
 exact ⟨rfl,rfl⟩
end Go.Proofs.YtglnhkgodgjepaaDoor.Px
namespace Go.Proofs.YtglnhkgodgjepaaDoor.Px
open Go.RowKit Go.Proofs.YtglnhkgodgjepaaDoorW.PrintWords Go.Proofs.YtglnhkgodgjepaaDoorW.PrintLast Go.Proofs.YtglnhkgodgjepaaDoorW.PrintMore
set_option linter.unusedVariables false
set_option linter.unusedSimpArgs false
def text_Encode.one (k:Nat) (b:List Int) (c:Int):Option (List Int) :=
 (text_split.f c).bind fun t => if t.1=0 then text_unit.f k b t.2 else (text_unit.f k b t.1).bind fun b1 => text_unit.f k b1 t.2
def text_Encode.l0:Nat→ByteArray→Nat→List Int→Option (List Int × Int)
 | 0,_,_,_ => none
 | k + 1,s,p,b => if p < s.size then (text_Encode.one k b ((Utf8.decode s p).1:Int)).bind fun b1 => text_Encode.l0 k s (p + (Utf8.decode s p).2) b1 else some (b,0)
def text_Encode.f (k:Nat) (a0:ByteArray):Option (List Int × Int) :=
 if a0.size≤9223372036854775807 then (if Lib.validD a0.data.toList=true then text_Encode.l0 k a0 0 [] else some ([],20)) else none
theorem text_Encode.mono_one (k:Nat) (b:List Int) (c:Int):LeO (text_Encode.one k b c) (text_Encode.one (k + 1) b c):=by
 unfold text_Encode.one
 refine LeO.bind (LeO.refl _) (fun _ => LeO.ite (text_unit.mono _ _ _) (LeO.bind (text_unit.mono _ _ _) (fun _ => text_unit.mono _ _ _)))
theorem text_Encode.mono_l:∀ k s p b,LeO (text_Encode.l0 k s p b) (text_Encode.l0 (k + 1) s p b)
 | 0 => fun _ _ _ r h => by simp [text_Encode.l0] at h
 | k + 1 => fun s p b => by
  unfold text_Encode.l0
  exact LeO.ite (LeO.bind (text_Encode.mono_one _ _ _) (fun _ => text_Encode.mono_l k _ _ _)) (LeO.refl _)
theorem text_Encode.mono:∀ a0 k,LeO (text_Encode.f k a0) (text_Encode.f (k + 1) a0):=by
 intro a0 k
 unfold text_Encode.f
 exact LeO.ite (LeO.ite (text_Encode.mono_l _ _ _ _) (LeO.refl _)) (LeO.refl _)
theorem text_Encode.width (s:ByteArray) (pos:Nat) (h:pos < s.size):1≤(Utf8.decode s pos).2:=by
 by_cases ha:(s[pos]'h).toNat < 128
 ·rw [decode_ascii s pos h ha];exact Nat.le_refl _
 ·exact (decode_high s pos h (by omega)).2
theorem R_iterAt {w:World} {base:Nat} {v:Value} {xs:List Int} {k:Nat} {s:ByteArray} {p:Nat} (h:Kd.R (Kd.int .u8) 5 w base (fun _ => True) v xs) (hk:w.heap[k]?=some (.stringIter s p)) (p':Nat) :
  Kd.R (Kd.int .u8) 5 (w.iterAt k s p') base (fun _ => True) v xs:=by
 refine Kd.R_step (Kd.R_mono (Kd.R_bound h) (fun _ hk => hk.2)) (fun j hj _ => ?_) |> fun z => Kd.R_mono z (fun _ _ => trivial)
 obtain ⟨_,_,q,_,cells,hc⟩:=hj
 refine Lib.iterAt_other w k j s p' ?_
 rintro rfl
 rw [hk] at hc
 cases hc
theorem R_noIter {w:World} {base:Nat} {ok:Nat→Prop} {v:Value} {xs:List Int} {it:Nat} {s:ByteArray} {p:Nat} (h:Kd.R (Kd.int .u8) 5 w base ok v xs) (hk:w.heap[it]?=some (.stringIter s p)) :
  Kd.R (Kd.int .u8) 5 w base (fun k => k ≠ it) v xs:=by
 refine Kd.R_mono (Kd.R_bound h) (fun j hj => ?_)
 obtain ⟨_,_,_,q,_,cells,hc⟩:=hj
 rintro rfl
 rw [hk] at hc
 cases hc
theorem valid_calls (s:ByteArray) (w:World) (hs:s.size≤9223372036854775807) (hG:GG w) :
  Calls Tryd.prog 46 #[.string s] w fun e w' => e=.returned (.bool (Lib.validD s.data.toList))∧Below w.heap.size w w' :=
 Any.utf8_ValidString Tryd.laysValid s w hs hG.tabs
theorem R_mk (w w1:World) (h:w.heap.size≤w1.heap.size) (s:ByteArray):Kd.R (Kd.int .u8) 5 ((w1.alloc (.cells #[] 5)).iter s 0) w.heap.size (fun _ => True) (.slice (some ⟨w1.heap.size,0,none⟩) 0 0) []:=by
 have h1:=World.ownsRow_lit (base:=w.heap.size) (e:=5) (size:=1) w1 #[] 0 h (by simp [maxLen]) (by simp)
 have h2:Kd.R (Kd.int .u8) 5 (w1.alloc (.cells #[] 5)) w.heap.size (fun _ => True) (.slice (some ⟨w1.heap.size,0,none⟩) 0 0) [] :=
  ⟨fun _ _ => trivial,[],by simp only [List.length_nil];exact (by simpa using h1:World.ownsRow _ _ _ 1 _ 0 []),Reps.none _ _⟩
 exact Kd.R_below h2 (((Below.refl _ _).alloc (Nat.le_refl _) _))
set_option maxHeartbeats 4000000 in
set_option maxRecDepth 100000 in
theorem text_Encode.calls (k:Nat) (a0:ByteArray) (r1:List Int) (r2:Int) (w:World) (hG:Aside0 (GG w)) (h:text_Encode.f k a0=some (r1,r2)) :
  Calls Tryd.prog 25 #[.string a0] w fun e w' => ∃ v0_:Value,e=.returned (.tuple #[v0_,.int .i64 r2])∧Kd.R (Kd.int .u8) 5 w' w.heap.size (fun _ => True) v0_ r1∧Below w.heap.size w w':=by
 unfold text_Encode.f at h
 by_cases hs:a0.size≤9223372036854775807
 ·rw [if_pos hs] at h
  have cV:=valid_calls a0 w hs hG.out
  by_cases hv:Lib.validD a0.data.toList=true
  ·rw [if_pos hv] at h
   rw [hv] at cV
   have H0:=Aside0.mk h
   clear h hv hs
   go_enter Tryd.func25,Tryd.ntmps25
   go_wp2_with (go_at_call 46;refine cV.mono ?_;rintro e w1 ⟨rfl,hb1⟩)
   have hz1:w.heap.size≤w1.heap.size:=hb1.size
   go_loopg [4] k (fun kq v wr => ∃ (pos:Nat) (b:List Int),Aside0 (text_Encode.l0 kq a0 pos b=some (r1,r2))∧Aside0 (kq≤k)∧Aside0 (Kd.R (Kd.int .u8) 5 wr w.heap.size (fun _ => True) v b)∧Aside0 (wr.heap[w1.heap.size + 1]?=some (.stringIter a0 pos))∧Aside0 (Below w.heap.size w wr))
   case atStart =>
    refine ⟨0,[],H0,⟨Nat.le_refl _⟩,⟨R_mk w w1 hz1 a0⟩,⟨?_⟩,⟨below_then hb1 hz1 (((Below.refl _ w1).alloc (Nat.le_refl _) _).alloc (by simp) _)⟩⟩
    have:=World.iter_heap (w1.alloc (.cells #[] 5)) a0 0
    simpa using this
   case round =>
    obtain ⟨pos,b,HA,HK,HR,HI,HB⟩:=hrel
    cases gk with
    | zero => exact absurd HA.out (by simp [text_Encode.l0])
    | succ k1 =>
    have hlt:w1.heap.size + 1 < wr.heap.size:=(Array.getElem?_eq_some_iff.1 HI.out).1
    have H:=HA.out
    clear HA
    simp only [text_Encode.l0] at H
    by_cases hp:pos < a0.size
    ·rw [if_pos hp] at H
     replace H:=Option.bind_eq_some_iff.mp H
     obtain ⟨b1,h1,H⟩:=H
     have H':=Aside0.mk H
     clear H
     unfold text_Encode.one at h1
     replace h1:=Option.bind_eq_some_iff.mp h1
     obtain ⟨⟨t1,t2⟩,hsp,h1⟩:=h1
     have HS:=Aside0.mk hsp
     clear hsp
     have hnx:∀ ty,(Instr.next (.pointer (some ⟨w1.heap.size + 1,0,none⟩)) true ty).run Tryd.prog wr=_:=fun ty => Lib.run_next_any_at wr (w1.heap.size + 1) a0 pos ty HI.out hp
     have hz:w.heap.size≤wr.heap.size:=HB.out.size
     by_cases hc:t1=0
     ·rw [if_pos hc] at h1
      have hc0:(t1 != 0)=false:=bne_eq_false_iff_eq.mpr hc
      clear hc
      have H1:=Aside0.mk h1
      clear h1
      go_wp2_with fail
      refine (text_split.calls _ t1 t2 _ HS.out).mono ?_
      rintro e w' ⟨rfl,⟨⟨nd,rfl⟩⟩⟩
      go_wp2_with fail
      refine (text_unit.calls k1 (fun j => j ≠ w1.heap.size + 1) _ b t2 b1 w _ ?side1 ?side2 H1.out).mono ?_
      case side1 => exact pw_below_drewN (Lib.below_iterAt HB.out (by omega) _ _) _
      case side2 => exact R_noIter (Kd.R_drewN (R_iterAt HR.out HI.out _) _) (Lib.iterAt_heap _ _ _ _ _ HI.out)
      rintro e w2 ⟨v1,rfl,ho,hb2,hk2⟩
      have hi2:w2.heap[w1.heap.size + 1]?=some (.stringIter a0 (pos + (Utf8.decode a0 pos).2)):=(hk2.2 _ (by simpa [Lib.iterAt_size] using hlt) (by simp)).trans (Lib.iterAt_heap _ _ _ _ _ HI.out)
      go_wp2
      go_roundg k1
      case measure => have:=HK.out;omega
      case rel => exact ⟨_,b1,H',⟨by have:=HK.out;omega⟩,⟨Kd.R_mono ho (fun _ _ => trivial)⟩,⟨hi2⟩,⟨hb2⟩⟩
     ·rw [if_neg hc] at h1
      replace h1:=Option.bind_eq_some_iff.mp h1
      obtain ⟨b2,h2,h1⟩:=h1
      have hc0:(t1 != 0)=true:=bne_iff_ne.mpr hc
      clear hc
      have H1:=Aside0.mk h1
      have H2:=Aside0.mk h2
      clear h1 h2
      go_wp2_with fail
      refine (text_split.calls _ t1 t2 _ HS.out).mono ?_
      rintro e w' ⟨rfl,⟨⟨nd,rfl⟩⟩⟩
      go_wp2_with fail
      refine (text_unit.calls k1 (fun j => j ≠ w1.heap.size + 1) _ b t1 b2 w _ ?side1 ?side2 H2.out).mono ?_
      case side1 => exact pw_below_drewN (Lib.below_iterAt HB.out (by omega) _ _) _
      case side2 => exact R_noIter (Kd.R_drewN (R_iterAt HR.out HI.out _) _) (Lib.iterAt_heap _ _ _ _ _ HI.out)
      rintro e w2 ⟨v1,rfl,ho,hb2,hk2⟩
      have hi2:=Aside0.mk (show w2.heap[w1.heap.size + 1]?=some (.stringIter a0 (pos + (Utf8.decode a0 pos).2)) from (hk2.2 _ (by simpa [Lib.iterAt_size] using hlt) (by simp)).trans (Lib.iterAt_heap _ _ _ _ _ HI.out))
      have ho2:=Aside0.mk ho
      clear hk2 ho
      go_wp2_with fail
      refine (text_unit.calls k1 (fun j => j ≠ w1.heap.size + 1) _ b2 t2 b1 w _ ?side1 ?side2 H1.out).mono ?_
      case side1 => exact hb2
      case side2 => exact R_noIter ho2.out hi2.out
      rintro e w3 ⟨v2,rfl,ho,hb3,hk3⟩
      have hi3:=(hk3.2 _ (Array.getElem?_eq_some_iff.1 hi2.out).1 (by simp)).trans hi2.out
      go_wp2
      go_roundg k1
      case measure => have:=HK.out;omega
      case rel => exact ⟨_,b1,H',⟨by have:=HK.out;omega⟩,⟨Kd.R_mono ho (fun _ _ => trivial)⟩,⟨hi3⟩,⟨hb3⟩⟩
    ·rw [if_neg hp] at H
     simp only [Option.some.injEq,Prod.mk.injEq] at H
     obtain ⟨rfl,rfl⟩:=H
     have hnx:∀ ty,(Instr.next (.pointer (some ⟨w1.heap.size + 1,0,none⟩)) true ty).run Tryd.prog wr=_:=fun ty => Lib.run_next_end_at wr (w1.heap.size + 1) a0 pos ty HI.out hp
     go_wp2
     go_ret2
     exact ⟨_,rfl,HR.out,HB.out⟩
  ·rw [if_neg hv] at h
   have hv':Lib.validD a0.data.toList=false:=by simpa using hv
   rw [hv'] at cV
   simp only [Option.some.injEq,Prod.mk.injEq] at h
   obtain ⟨rfl,rfl⟩:=h
   clear hv hv' hs
   go_enter Tryd.func25,Tryd.ntmps25
   go_wp2_with (go_at_call 46;refine cV.mono ?_;rintro e w1 ⟨rfl,hb1⟩)
   go_ret2
   exact ⟨_,rfl,Kd.R_nil _ _ _ _ _,hb1⟩
 ·rw [if_neg hs] at h
  exact absurd h (by simp)
end Go.Proofs.YtglnhkgodgjepaaDoor.Px
namespace Go.Proofs.YtglnhkgodgjepaaDoor.Px
open Go.RowKit Go.Proofs.YtglnhkgodgjepaaDoorW.PrintWords Go.Proofs.YtglnhkgodgjepaaDoorW.PrintLast Go.Proofs.YtglnhkgodgjepaaDoorW.PrintMore
attribute [local go_sem] max2_int min2_int max_two min_two max_three min_three max_four min_four
set_option linter.unusedVariables false
set_option linter.unusedSimpArgs false
mutual
def pool_fields.j0:Nat→Int→Bool→Int→ByteArray→Int→Int→Int→Int→ByteArray→Int→Int→Int→Option (Int × ByteArray × Int × Int × Int)
 | 0,_,_,_,_,_,_,_,_,_,_,_,_ => none
 | k + 1,x8,x11,x125000,x125001,x125002,x125003,x125004,x127000,x127001,x127002,x127003,x127004 => if x11=true then (some (x127000,x127001,x125002,x127003,x127004)) else (if x8=9 then (pool_fields.j1 k x8 (x8==9) x125000 x125001 x125002 x125003 x125004 x127000 x127001 x127002 x127003 x127004) else (if x8=10 then (pool_fields.j1 k x8 (x8==10) x125000 x125001 x125002 x125003 x125004 x127000 x127001 x127002 x127003 x127004) else (pool_fields.j1 k x8 (x8==12) x125000 x125001 x125002 x125003 x125004 x127000 x127001 x127002 x127003 x127004)))
def pool_fields.j1:Nat→Int→Bool→Int→ByteArray→Int→Int→Int→Int→ByteArray→Int→Int→Int→Option (Int × ByteArray × Int × Int × Int)
 | 0,_,_,_,_,_,_,_,_,_,_,_,_ => none
 | k + 1,x8,x14,x125000,x125001,x125002,x125003,x125004,x127000,x127001,x127002,x127003,x127004 => if x14=true then (some (x127000,x127001,x127002,x125003,x125004)) else (if x8=7 then (some (x127000,x127001,x127002,x125003,x127004)) else (some (x127000,x127001,x127002,x127003,x127004)))
end
def pool_fields.f (k:Nat) (a0_0:Int) (a0_1:ByteArray) (a0_2:Int) (a0_3:Int) (a0_4:Int):Option (Int × ByteArray × Int × Int × Int):=if a0_0=1 then (some (a0_0,a0_1,0,0,0)) else (if a0_0=3 then (pool_fields.j0 k a0_0 (a0_0==3) a0_0 a0_1 a0_2 a0_3 a0_4 a0_0 (⟨#[]⟩:ByteArray) 0 0 0) else (pool_fields.j0 k a0_0 (a0_0==5) a0_0 a0_1 a0_2 a0_3 a0_4 a0_0 (⟨#[]⟩:ByteArray) 0 0 0))
theorem pool_fields.mono_l:∀ k,(∀ y0 y1 y2 y3 y4 y5 y6 y7 y8 y9 y10 y11,LeO (pool_fields.j0 k y0 y1 y2 y3 y4 y5 y6 y7 y8 y9 y10 y11) (pool_fields.j0 (k + 1) y0 y1 y2 y3 y4 y5 y6 y7 y8 y9 y10 y11))∧(∀ y0 y1 y2 y3 y4 y5 y6 y7 y8 y9 y10 y11,LeO (pool_fields.j1 k y0 y1 y2 y3 y4 y5 y6 y7 y8 y9 y10 y11) (pool_fields.j1 (k + 1) y0 y1 y2 y3 y4 y5 y6 y7 y8 y9 y10 y11))
 | 0 => ⟨fun _ _ _ _ _ _ _ _ _ _ _ _ r h => by simp [pool_fields.j0] at h,fun _ _ _ _ _ _ _ _ _ _ _ _ r h => by simp [pool_fields.j1] at h⟩
 | k + 1 => by
  obtain ⟨ih0,ih1⟩:=pool_fields.mono_l k
  refine ⟨?_,?_⟩
  ·intro y0 y1 y2 y3 y4 y5 y6 y7 y8 y9 y10 y11
   unfold pool_fields.j0
   repeat' first
   | (with_reducible exact ih0 _ _ _ _ _ _ _ _ _ _ _ _)
   | (with_reducible exact ih1 _ _ _ _ _ _ _ _ _ _ _ _)
   | (with_reducible exact LeO.refl _)
   | (with_reducible exact LeO.none _)
   | (with_reducible refine LeO.ite ?_ ?_)
   | (with_reducible refine LeO.bind ?_ (fun _ => ?_))
   | exact ih0 _ _ _ _ _ _ _ _ _ _ _ _
   | exact ih1 _ _ _ _ _ _ _ _ _ _ _ _
   | exact LeO.none _
   | refine LeO.ite ?_ ?_
   | refine LeO.bind ?_ (fun _ => ?_)
  ·intro y0 y1 y2 y3 y4 y5 y6 y7 y8 y9 y10 y11
   unfold pool_fields.j1
   repeat' first
   | (with_reducible exact ih0 _ _ _ _ _ _ _ _ _ _ _ _)
   | (with_reducible exact ih1 _ _ _ _ _ _ _ _ _ _ _ _)
   | (with_reducible exact LeO.refl _)
   | (with_reducible exact LeO.none _)
   | (with_reducible refine LeO.ite ?_ ?_)
   | (with_reducible refine LeO.bind ?_ (fun _ => ?_))
   | exact ih0 _ _ _ _ _ _ _ _ _ _ _ _
   | exact ih1 _ _ _ _ _ _ _ _ _ _ _ _
   | exact LeO.none _
   | refine LeO.ite ?_ ?_
   | refine LeO.bind ?_ (fun _ => ?_)
theorem pool_fields.mono:∀ a0 a1 a2 a3 a4 k,LeO (pool_fields.f k a0 a1 a2 a3 a4) (pool_fields.f (k + 1) a0 a1 a2 a3 a4):=by
 intro a0 a1 a2 a3 a4 k
 obtain ⟨ih0,ih1⟩:=pool_fields.mono_l k
 unfold pool_fields.f
 repeat' first
   | (with_reducible exact ih0 _ _ _ _ _ _ _ _ _ _ _ _)
   | (with_reducible exact ih1 _ _ _ _ _ _ _ _ _ _ _ _)
   | (with_reducible exact LeO.refl _)
   | (with_reducible exact LeO.none _)
   | (with_reducible refine LeO.ite ?_ ?_)
   | (with_reducible refine LeO.bind ?_ (fun _ => ?_))
   | exact ih0 _ _ _ _ _ _ _ _ _ _ _ _
   | exact ih1 _ _ _ _ _ _ _ _ _ _ _ _
   | exact LeO.none _
   | refine LeO.ite ?_ ?_
   | refine LeO.bind ?_ (fun _ => ?_)
set_option maxHeartbeats 80000000 in
set_option maxRecDepth 100000 in
theorem pool_fields.calls (k:Nat) (a0_0:Int) (a0_1:ByteArray) (a0_2:Int) (a0_3:Int) (a0_4:Int) (r1:Int) (r2:ByteArray) (r3:Int) (r4:Int) (r5:Int) (w:World) (h:pool_fields.f k a0_0 a0_1 a0_2 a0_3 a0_4=some (r1,r2,r3,r4,r5)) :
  Calls Tryd.prog 41 #[.agg #[.int .i64 a0_0,.string a0_1,.int .i64 a0_2,.int .i64 a0_3,.int .i64 a0_4]] w fun e w' => e=.returned (.agg #[.int .i64 r1,.string r2,.int .i64 r3,.int .i64 r4,.int .i64 r5])∧Below w.heap.size w w':=by
 have hu33:=Tryd.underlying33
 have HB:=Aside0.mk (Below.refl w.heap.size w)
 have H:(if a0_0=1 then (some (a0_0,a0_1,0,0,0)) else (if a0_0=3 then (pool_fields.j0 k a0_0 (a0_0==3) a0_0 a0_1 a0_2 a0_3 a0_4 a0_0 (⟨#[]⟩:ByteArray) 0 0 0) else (pool_fields.j0 k a0_0 (a0_0==5) a0_0 a0_1 a0_2 a0_3 a0_4 a0_0 (⟨#[]⟩:ByteArray) 0 0 0)))=some (r1,r2,r3,r4,r5):=h
 clear h
 by_cases c2:a0_0=1
 ·rw [if_pos c2] at H
  have c2b0:(a0_0==1)=true:=beq_iff_eq.mpr c2
  have c2b1:(a0_0 != 1)=false:=bne_eq_false_iff_eq.mpr c2
  clear c2
  simp only [Option.some.injEq,Prod.mk.injEq] at H
  obtain ⟨rfl,rfl,rfl,rfl,rfl⟩:=H
  go_enter Tryd.func41,Tryd.ntmps41
  go_wp2_with (first|((with_reducible refine gate_dst (N:=1) rfl ?_);refine box_event ?hg (N:=1) ?hd (cs:=#[.int .i64 a0_0,.string a0_1,.int .i64 a0_2,.int .i64 a0_3,.int .i64 a0_4]) (t:=33) ?hr ?_;(case hd => rfl);(case hg => rfl);(case hr => first|(go_simp;done)|(go_simp;rfl));intro gb124 hg w3 hbox hb;have n0_:=Aside0.mk (below_step (by repeat (first|(with_reducible first|exact HB.out|apply below_alloc|apply pw_below_drewN|apply below_drew1)|exact HB.out)) hb);have n1_:=Aside0.mk (hbox);have n2_:=Aside0.mk ((by rw [hg];exact (below_size (by repeat (first|(with_reducible first|exact HB.out|apply below_alloc|apply pw_below_drewN|apply below_drew1)|exact HB.out))):w.heap.size≤gb124));have n3_:=Aside0.mk ((by rw [hg];exact (below_size (by repeat (first|(with_reducible first|exact HB.out|apply below_alloc|apply pw_below_drewN|apply below_drew1)|exact HB.out))):w.heap.size≤gb124));clear HB;have HB:=n0_;have BK124:=n1_;have GW124:=n2_;have GE124:=n3_;clear n0_ n1_ n2_ n3_;clear hb hbox hg)|((with_reducible refine gate_dst (N:=2) rfl ?_);refine box_event ?hg (N:=2) ?hd (cs:=#[.int .i64 0,.string (⟨#[]⟩:ByteArray),.int .i64 0,.int .i64 0,.int .i64 0]) (t:=33) ?hr ?_;(case hd => rfl);(case hg => rfl);(case hr => first|(go_simp;done)|(go_simp;rfl));intro gb125 hg w4 hbox hb;have n0_:=Aside0.mk (blk_below (g:=gb124) (o:=.cells #[.int .i64 a0_0,.string a0_1,.int .i64 a0_2,.int .i64 a0_3,.int .i64 a0_4] 33 (0,0)) (by (with_reducible repeat (first|refine blk_drewN ?_ _|refine blk_drew ?_|refine blk_alloc ?_ _));exact BK124.out) hb);have n1_:=Aside0.mk (below_step (by repeat (first|(with_reducible first|exact HB.out|apply below_alloc|apply pw_below_drewN|apply below_drew1|refine below_set ?_ GE124.out)|exact HB.out)) hb);have n2_:=Aside0.mk (hbox);have n3_:=Aside0.mk ((by rw [hg];exact (below_size (by repeat (first|(with_reducible first|exact HB.out|apply below_alloc|apply pw_below_drewN|apply below_drew1|refine below_set ?_ GE124.out)|exact HB.out))):w.heap.size≤gb125));have n4_:=Aside0.mk ((by rw [hg];exact (below_size (by repeat (first|(with_reducible first|exact HB.out|apply below_alloc|apply pw_below_drewN|apply below_drew1|refine below_set ?_ GE124.out)|exact HB.out))):w.heap.size≤gb125));have n5_:=Aside0.mk ((by rw [hg];exact Nat.ne_of_lt (blk_lt (g:=gb124) (o:=.cells #[.int .i64 a0_0,.string a0_1,.int .i64 a0_2,.int .i64 a0_3,.int .i64 a0_4] 33 (0,0)) (by (with_reducible repeat (first|refine blk_drewN ?_ _|refine blk_drew ?_|refine blk_alloc ?_ _));exact BK124.out)):gb124 ≠ gb125));have n6_:=Aside0.mk ((by rw [hg];exact Nat.ne_of_gt (blk_lt (g:=gb124) (o:=.cells #[.int .i64 a0_0,.string a0_1,.int .i64 a0_2,.int .i64 a0_3,.int .i64 a0_4] 33 (0,0)) (by (with_reducible repeat (first|refine blk_drewN ?_ _|refine blk_drew ?_|refine blk_alloc ?_ _));exact BK124.out)):gb125 ≠ gb124));clear BK124;clear HB;have BK124:=n0_;have HB:=n1_;have BK125:=n2_;have GW125:=n3_;have GE125:=n4_;have NB124_125:=n5_;have NB125_124:=n6_;clear n0_ n1_ n2_ n3_ n4_ n5_ n6_;clear hb hbox hg;have hnb5:=NB124_125.out;have hnc5:=NB125_124.out;have hcz6_0:w4.cell? ⟨gb124,0,none⟩=some (.int .i64 a0_0):=(blk_cell BK124.out 0).trans rfl;have hcz6_1:w4.cell? ⟨gb124,1,none⟩=some (.string a0_1):=(blk_cell BK124.out 1).trans rfl;have hcz6_2:w4.cell? ⟨gb124,2,none⟩=some (.int .i64 a0_2):=(blk_cell BK124.out 2).trans rfl;have hcz6_3:w4.cell? ⟨gb124,3,none⟩=some (.int .i64 a0_3):=(blk_cell BK124.out 3).trans rfl;have hcz6_4:w4.cell? ⟨gb124,4,none⟩=some (.int .i64 a0_4):=(blk_cell BK124.out 4).trans rfl;have hfz6_0:=blk_frozen BK124.out 0;have hfz6_1:=blk_frozen BK124.out 1;have hfz6_2:=blk_frozen BK124.out 2;have hfz6_3:=blk_frozen BK124.out 3;have hfz6_4:=blk_frozen BK124.out 4)|((with_reducible refine gate_dst (N:=3) rfl ?_);refine box_event ?hg (N:=3) ?hd (cs:=#[.int .i64 0,.string (⟨#[]⟩:ByteArray),.int .i64 0,.int .i64 0,.int .i64 0]) (t:=33) ?hr ?_;(case hd => rfl);(case hg => rfl);(case hr => first|(go_simp;done)|(go_simp;rfl));intro gb126 hg w7 hbox hb;have n0_:=Aside0.mk (blk_below (g:=gb124) (o:=.cells #[.int .i64 a0_0,.string a0_1,.int .i64 a0_2,.int .i64 a0_3,.int .i64 a0_4] 33 (0,0)) (by (with_reducible repeat (first|refine blk_drewN ?_ _|refine blk_drew ?_|refine blk_alloc ?_ _));exact BK124.out) hb);have n1_:=Aside0.mk (blk_below (g:=gb125) (o:=.cells #[.int .i64 0,.string (⟨#[]⟩:ByteArray),.int .i64 0,.int .i64 0,.int .i64 0] 33 (0,0)) (by (with_reducible repeat (first|refine blk_drewN ?_ _|refine blk_drew ?_|refine blk_alloc ?_ _));exact BK125.out) hb);have n2_:=Aside0.mk (below_step (by repeat (first|(with_reducible first|exact HB.out|apply below_alloc|apply pw_below_drewN|apply below_drew1|refine below_set ?_ GE124.out|refine below_set ?_ GE125.out)|exact HB.out)) hb);have n3_:=Aside0.mk (hbox);have n4_:=Aside0.mk ((by rw [hg];exact (below_size (by repeat (first|(with_reducible first|exact HB.out|apply below_alloc|apply pw_below_drewN|apply below_drew1|refine below_set ?_ GE124.out|refine below_set ?_ GE125.out)|exact HB.out))):w.heap.size≤gb126));have n5_:=Aside0.mk ((by rw [hg];exact (below_size (by repeat (first|(with_reducible first|exact HB.out|apply below_alloc|apply pw_below_drewN|apply below_drew1|refine below_set ?_ GE124.out|refine below_set ?_ GE125.out)|exact HB.out))):w.heap.size≤gb126));have n6_:=Aside0.mk ((by rw [hg];exact Nat.ne_of_lt (blk_lt (g:=gb124) (o:=.cells #[.int .i64 a0_0,.string a0_1,.int .i64 a0_2,.int .i64 a0_3,.int .i64 a0_4] 33 (0,0)) (by (with_reducible repeat (first|refine blk_drewN ?_ _|refine blk_drew ?_|refine blk_alloc ?_ _));exact BK124.out)):gb124 ≠ gb126));have n7_:=Aside0.mk ((by rw [hg];exact Nat.ne_of_gt (blk_lt (g:=gb124) (o:=.cells #[.int .i64 a0_0,.string a0_1,.int .i64 a0_2,.int .i64 a0_3,.int .i64 a0_4] 33 (0,0)) (by (with_reducible repeat (first|refine blk_drewN ?_ _|refine blk_drew ?_|refine blk_alloc ?_ _));exact BK124.out)):gb126 ≠ gb124));have n8_:=Aside0.mk ((by rw [hg];exact Nat.ne_of_lt (blk_lt (g:=gb125) (o:=.cells #[.int .i64 0,.string (⟨#[]⟩:ByteArray),.int .i64 0,.int .i64 0,.int .i64 0] 33 (0,0)) (by (with_reducible repeat (first|refine blk_drewN ?_ _|refine blk_drew ?_|refine blk_alloc ?_ _));exact BK125.out)):gb125 ≠ gb126));have n9_:=Aside0.mk ((by rw [hg];exact Nat.ne_of_gt (blk_lt (g:=gb125) (o:=.cells #[.int .i64 0,.string (⟨#[]⟩:ByteArray),.int .i64 0,.int .i64 0,.int .i64 0] 33 (0,0)) (by (with_reducible repeat (first|refine blk_drewN ?_ _|refine blk_drew ?_|refine blk_alloc ?_ _));exact BK125.out)):gb126 ≠ gb125));clear BK124;clear BK125;clear HB;have BK124:=n0_;have BK125:=n1_;have HB:=n2_;have BK126:=n3_;have GW126:=n4_;have GE126:=n5_;have NB124_126:=n6_;have NB126_124:=n7_;have NB125_126:=n8_;have NB126_125:=n9_;clear n0_ n1_ n2_ n3_ n4_ n5_ n6_ n7_ n8_ n9_;clear hb hbox hg;have hnb8:=NB126_124.out;have hnc8:=NB124_126.out;have hnb9:=NB126_125.out;have hnc9:=NB125_126.out;have hcz10_0:w7.cell? ⟨gb126,0,none⟩=some (.int .i64 0):=(blk_cell BK126.out 0).trans rfl;have hcz10_1:w7.cell? ⟨gb126,1,none⟩=some (.string (⟨#[]⟩:ByteArray)):=(blk_cell BK126.out 1).trans rfl;have hcz10_2:w7.cell? ⟨gb126,2,none⟩=some (.int .i64 0):=(blk_cell BK126.out 2).trans rfl;have hcz10_3:w7.cell? ⟨gb126,3,none⟩=some (.int .i64 0):=(blk_cell BK126.out 3).trans rfl;have hcz10_4:w7.cell? ⟨gb126,4,none⟩=some (.int .i64 0):=(blk_cell BK126.out 4).trans rfl;have hfz10_0:=blk_frozen BK126.out 0;have hfz10_1:=blk_frozen BK126.out 1;have hfz10_2:=blk_frozen BK126.out 2;have hfz10_3:=blk_frozen BK126.out 3;have hfz10_4:=blk_frozen BK126.out 4)|((with_reducible refine gate_store (t:=33) (p:=3) rfl ?_);refine store_event (t:=33) (p:=3) (v:=?vo_w11) (w1:=(((((w7.setCell ⟨gb126,0,none⟩ (.int .i64 a0_0)).setCell ⟨gb126,1,none⟩ (.string (⟨#[]⟩:ByteArray))).setCell ⟨gb126,2,none⟩ (.int .i64 0)).setCell ⟨gb126,3,none⟩ (.int .i64 0)).setCell ⟨gb126,4,none⟩ (.int .i64 0))) ?hg ?ho ?hn ?hr ?_;(case ho => rfl);(case hg => rfl);(case hn => rfl);(case hr => first|(go_simp;done)|(go_simp;rfl));intro w11 hw;have n0_:Aside0 (w11.heap[gb124]?=some (.cells #[.int .i64 a0_0,.string a0_1,.int .i64 a0_2,.int .i64 a0_3,.int .i64 a0_4] 33 (0,0))):=⟨(by rw [hw];exact (by (with_reducible repeat (first|refine blk_drewN ?_ _|refine blk_drew ?_|refine blk_alloc ?_ _));refine blk_far ?_ NB124_126.out _;(with_reducible repeat (first|refine blk_drewN ?_ _|refine blk_drew ?_|refine blk_alloc ?_ _));refine blk_far ?_ NB124_126.out _;(with_reducible repeat (first|refine blk_drewN ?_ _|refine blk_drew ?_|refine blk_alloc ?_ _));refine blk_far ?_ NB124_126.out _;(with_reducible repeat (first|refine blk_drewN ?_ _|refine blk_drew ?_|refine blk_alloc ?_ _));refine blk_far ?_ NB124_126.out _;(with_reducible repeat (first|refine blk_drewN ?_ _|refine blk_drew ?_|refine blk_alloc ?_ _));refine blk_far ?_ NB124_126.out _;(with_reducible repeat (first|refine blk_drewN ?_ _|refine blk_drew ?_|refine blk_alloc ?_ _));exact BK124.out))⟩;have n1_:Aside0 (w11.heap[gb125]?=some (.cells #[.int .i64 0,.string (⟨#[]⟩:ByteArray),.int .i64 0,.int .i64 0,.int .i64 0] 33 (0,0))):=⟨(by rw [hw];exact (by (with_reducible repeat (first|refine blk_drewN ?_ _|refine blk_drew ?_|refine blk_alloc ?_ _));refine blk_far ?_ NB125_126.out _;(with_reducible repeat (first|refine blk_drewN ?_ _|refine blk_drew ?_|refine blk_alloc ?_ _));refine blk_far ?_ NB125_126.out _;(with_reducible repeat (first|refine blk_drewN ?_ _|refine blk_drew ?_|refine blk_alloc ?_ _));refine blk_far ?_ NB125_126.out _;(with_reducible repeat (first|refine blk_drewN ?_ _|refine blk_drew ?_|refine blk_alloc ?_ _));refine blk_far ?_ NB125_126.out _;(with_reducible repeat (first|refine blk_drewN ?_ _|refine blk_drew ?_|refine blk_alloc ?_ _));refine blk_far ?_ NB125_126.out _;(with_reducible repeat (first|refine blk_drewN ?_ _|refine blk_drew ?_|refine blk_alloc ?_ _));exact BK125.out))⟩;have n2_:Aside0 (w11.heap[gb126]?=some (.cells #[.int .i64 a0_0,.string (⟨#[]⟩:ByteArray),.int .i64 0,.int .i64 0,.int .i64 0] 33 (0,0))):=⟨(by rw [hw];exact (by (with_reducible repeat (first|refine blk_drewN ?_ _|refine blk_drew ?_|refine blk_alloc ?_ _));refine blk_put (cs:=#[.int .i64 a0_0,.string (⟨#[]⟩:ByteArray),.int .i64 0,.int .i64 0,.int .i64 0]) ?_ 4 _ rfl;(with_reducible repeat (first|refine blk_drewN ?_ _|refine blk_drew ?_|refine blk_alloc ?_ _));refine blk_put (cs:=#[.int .i64 a0_0,.string (⟨#[]⟩:ByteArray),.int .i64 0,.int .i64 0,.int .i64 0]) ?_ 3 _ rfl;(with_reducible repeat (first|refine blk_drewN ?_ _|refine blk_drew ?_|refine blk_alloc ?_ _));refine blk_put (cs:=#[.int .i64 a0_0,.string (⟨#[]⟩:ByteArray),.int .i64 0,.int .i64 0,.int .i64 0]) ?_ 2 _ rfl;(with_reducible repeat (first|refine blk_drewN ?_ _|refine blk_drew ?_|refine blk_alloc ?_ _));refine blk_put (cs:=#[.int .i64 a0_0,.string (⟨#[]⟩:ByteArray),.int .i64 0,.int .i64 0,.int .i64 0]) ?_ 1 _ rfl;(with_reducible repeat (first|refine blk_drewN ?_ _|refine blk_drew ?_|refine blk_alloc ?_ _));refine blk_put (cs:=#[.int .i64 0,.string (⟨#[]⟩:ByteArray),.int .i64 0,.int .i64 0,.int .i64 0]) ?_ 0 _ rfl;(with_reducible repeat (first|refine blk_drewN ?_ _|refine blk_drew ?_|refine blk_alloc ?_ _));exact BK126.out))⟩;have n3_:Aside0 (Below w.heap.size w w11):=⟨(by rw [hw];exact (by repeat (first|(with_reducible first|exact HB.out|apply below_alloc|apply pw_below_drewN|apply below_drew1|refine below_set ?_ GE124.out|refine below_set ?_ GE125.out|refine below_set ?_ GE126.out)|exact HB.out)))⟩;clear hw;clear BK124;clear BK125;clear BK126;clear HB;have BK124:=n0_;have BK125:=n1_;have BK126:=n2_;have HB:=n3_;clear n0_ n1_ n2_ n3_;have hcz12_0:w11.cell? ⟨gb124,0,none⟩=some (.int .i64 a0_0):=(blk_cell BK124.out 0).trans rfl;have hcz12_1:w11.cell? ⟨gb124,1,none⟩=some (.string a0_1):=(blk_cell BK124.out 1).trans rfl;have hcz12_2:w11.cell? ⟨gb124,2,none⟩=some (.int .i64 a0_2):=(blk_cell BK124.out 2).trans rfl;have hcz12_3:w11.cell? ⟨gb124,3,none⟩=some (.int .i64 a0_3):=(blk_cell BK124.out 3).trans rfl;have hcz12_4:w11.cell? ⟨gb124,4,none⟩=some (.int .i64 a0_4):=(blk_cell BK124.out 4).trans rfl;have hfz12_0:=blk_frozen BK124.out 0;have hfz12_1:=blk_frozen BK124.out 1;have hfz12_2:=blk_frozen BK124.out 2;have hfz12_3:=blk_frozen BK124.out 3;have hfz12_4:=blk_frozen BK124.out 4;have hcz13_0:w11.cell? ⟨gb126,0,none⟩=some (.int .i64 a0_0):=(blk_cell BK126.out 0).trans rfl;have hcz13_1:w11.cell? ⟨gb126,1,none⟩=some (.string (⟨#[]⟩:ByteArray)):=(blk_cell BK126.out 1).trans rfl;have hcz13_2:w11.cell? ⟨gb126,2,none⟩=some (.int .i64 0):=(blk_cell BK126.out 2).trans rfl;have hcz13_3:w11.cell? ⟨gb126,3,none⟩=some (.int .i64 0):=(blk_cell BK126.out 3).trans rfl;have hcz13_4:w11.cell? ⟨gb126,4,none⟩=some (.int .i64 0):=(blk_cell BK126.out 4).trans rfl;have hfz13_0:=blk_frozen BK126.out 0;have hfz13_1:=blk_frozen BK126.out 1;have hfz13_2:=blk_frozen BK126.out 2;have hfz13_3:=blk_frozen BK126.out 3;have hfz13_4:=blk_frozen BK126.out 4;have hcz14_0:w11.cell? ⟨gb125,0,none⟩=some (.int .i64 0):=(blk_cell BK125.out 0).trans rfl;have hcz14_1:w11.cell? ⟨gb125,1,none⟩=some (.string (⟨#[]⟩:ByteArray)):=(blk_cell BK125.out 1).trans rfl;have hcz14_2:w11.cell? ⟨gb125,2,none⟩=some (.int .i64 0):=(blk_cell BK125.out 2).trans rfl;have hcz14_3:w11.cell? ⟨gb125,3,none⟩=some (.int .i64 0):=(blk_cell BK125.out 3).trans rfl;have hcz14_4:w11.cell? ⟨gb125,4,none⟩=some (.int .i64 0):=(blk_cell BK125.out 4).trans rfl;have hfz14_0:=blk_frozen BK125.out 0;have hfz14_1:=blk_frozen BK125.out 1;have hfz14_2:=blk_frozen BK125.out 2;have hfz14_3:=blk_frozen BK125.out 3;have hfz14_4:=blk_frozen BK125.out 4)|((with_reducible refine gate_store (t:=33) (p:=2) rfl ?_);refine store_event (t:=33) (p:=2) (v:=?vo_w15) (w1:=((((((w11.setCell ⟨gb126,1,none⟩ (.string a0_1)).setCell ⟨gb125,0,none⟩ (.int .i64 a0_0)).setCell ⟨gb125,1,none⟩ (.string a0_1)).setCell ⟨gb125,2,none⟩ (.int .i64 0)).setCell ⟨gb125,3,none⟩ (.int .i64 0)).setCell ⟨gb125,4,none⟩ (.int .i64 0))) ?hg ?ho ?hn ?hr ?_;(case ho => rfl);(case hg => rfl);(case hn => rfl);(case hr => first|(go_simp;done)|(go_simp;rfl));intro w15 hw;have n0_:Aside0 (w15.heap[gb124]?=some (.cells #[.int .i64 a0_0,.string a0_1,.int .i64 a0_2,.int .i64 a0_3,.int .i64 a0_4] 33 (0,0))):=⟨(by rw [hw];exact (by (with_reducible repeat (first|refine blk_drewN ?_ _|refine blk_drew ?_|refine blk_alloc ?_ _));refine blk_far ?_ NB124_125.out _;(with_reducible repeat (first|refine blk_drewN ?_ _|refine blk_drew ?_|refine blk_alloc ?_ _));refine blk_far ?_ NB124_125.out _;(with_reducible repeat (first|refine blk_drewN ?_ _|refine blk_drew ?_|refine blk_alloc ?_ _));refine blk_far ?_ NB124_125.out _;(with_reducible repeat (first|refine blk_drewN ?_ _|refine blk_drew ?_|refine blk_alloc ?_ _));refine blk_far ?_ NB124_125.out _;(with_reducible repeat (first|refine blk_drewN ?_ _|refine blk_drew ?_|refine blk_alloc ?_ _));refine blk_far ?_ NB124_125.out _;(with_reducible repeat (first|refine blk_drewN ?_ _|refine blk_drew ?_|refine blk_alloc ?_ _));refine blk_far ?_ NB124_126.out _;(with_reducible repeat (first|refine blk_drewN ?_ _|refine blk_drew ?_|refine blk_alloc ?_ _));exact BK124.out))⟩;have n1_:Aside0 (w15.heap[gb125]?=some (.cells #[.int .i64 a0_0,.string a0_1,.int .i64 0,.int .i64 0,.int .i64 0] 33 (0,0))):=⟨(by rw [hw];exact (by (with_reducible repeat (first|refine blk_drewN ?_ _|refine blk_drew ?_|refine blk_alloc ?_ _));refine blk_put (cs:=#[.int .i64 a0_0,.string a0_1,.int .i64 0,.int .i64 0,.int .i64 0]) ?_ 4 _ rfl;(with_reducible repeat (first|refine blk_drewN ?_ _|refine blk_drew ?_|refine blk_alloc ?_ _));refine blk_put (cs:=#[.int .i64 a0_0,.string a0_1,.int .i64 0,.int .i64 0,.int .i64 0]) ?_ 3 _ rfl;(with_reducible repeat (first|refine blk_drewN ?_ _|refine blk_drew ?_|refine blk_alloc ?_ _));refine blk_put (cs:=#[.int .i64 a0_0,.string a0_1,.int .i64 0,.int .i64 0,.int .i64 0]) ?_ 2 _ rfl;(with_reducible repeat (first|refine blk_drewN ?_ _|refine blk_drew ?_|refine blk_alloc ?_ _));refine blk_put (cs:=#[.int .i64 a0_0,.string (⟨#[]⟩:ByteArray),.int .i64 0,.int .i64 0,.int .i64 0]) ?_ 1 _ rfl;(with_reducible repeat (first|refine blk_drewN ?_ _|refine blk_drew ?_|refine blk_alloc ?_ _));refine blk_put (cs:=#[.int .i64 0,.string (⟨#[]⟩:ByteArray),.int .i64 0,.int .i64 0,.int .i64 0]) ?_ 0 _ rfl;(with_reducible repeat (first|refine blk_drewN ?_ _|refine blk_drew ?_|refine blk_alloc ?_ _));refine blk_far ?_ NB125_126.out _;(with_reducible repeat (first|refine blk_drewN ?_ _|refine blk_drew ?_|refine blk_alloc ?_ _));exact BK125.out))⟩;have n2_:Aside0 (w15.heap[gb126]?=some (.cells #[.int .i64 a0_0,.string a0_1,.int .i64 0,.int .i64 0,.int .i64 0] 33 (0,0))):=⟨(by rw [hw];exact (by (with_reducible repeat (first|refine blk_drewN ?_ _|refine blk_drew ?_|refine blk_alloc ?_ _));refine blk_far ?_ NB126_125.out _;(with_reducible repeat (first|refine blk_drewN ?_ _|refine blk_drew ?_|refine blk_alloc ?_ _));refine blk_far ?_ NB126_125.out _;(with_reducible repeat (first|refine blk_drewN ?_ _|refine blk_drew ?_|refine blk_alloc ?_ _));refine blk_far ?_ NB126_125.out _;(with_reducible repeat (first|refine blk_drewN ?_ _|refine blk_drew ?_|refine blk_alloc ?_ _));refine blk_far ?_ NB126_125.out _;(with_reducible repeat (first|refine blk_drewN ?_ _|refine blk_drew ?_|refine blk_alloc ?_ _));refine blk_far ?_ NB126_125.out _;(with_reducible repeat (first|refine blk_drewN ?_ _|refine blk_drew ?_|refine blk_alloc ?_ _));refine blk_put (cs:=#[.int .i64 a0_0,.string (⟨#[]⟩:ByteArray),.int .i64 0,.int .i64 0,.int .i64 0]) ?_ 1 _ rfl;(with_reducible repeat (first|refine blk_drewN ?_ _|refine blk_drew ?_|refine blk_alloc ?_ _));exact BK126.out))⟩;have n3_:Aside0 (Below w.heap.size w w15):=⟨(by rw [hw];exact (by repeat (first|(with_reducible first|exact HB.out|apply below_alloc|apply pw_below_drewN|apply below_drew1|refine below_set ?_ GE124.out|refine below_set ?_ GE125.out|refine below_set ?_ GE126.out)|exact HB.out)))⟩;clear hw;clear BK124;clear BK125;clear BK126;clear HB;have BK124:=n0_;have BK125:=n1_;have BK126:=n2_;have HB:=n3_;clear n0_ n1_ n2_ n3_))
  refine bodyPost_ret (results_cell_row rfl _ _ gb125 33 #[.int .i64 a0_0,.string a0_1,.int .i64 0,.int .i64 0,.int .i64 0] (0,0) _ rfl (by (with_reducible repeat (first|refine blk_drewN ?_ _|refine blk_drew ?_|refine blk_alloc ?_ _));exact BK125.out) Tryd.underlying33 rfl (by kernel_rfl)) rfl ?_
  exact ⟨by first|rfl|(simp [errW_none,errW_some] <;> rfl)|(simp [*,errW_none,errW_some] <;> rfl),by repeat (first|(with_reducible first|exact HB.out|apply below_alloc|apply pw_below_drewN|apply below_drew1|refine below_set ?_ GE124.out|refine below_set ?_ GE125.out|refine below_set ?_ GE126.out)|exact HB.out)⟩
 ·rw [if_neg c2] at H
  have c2b0:(a0_0==1)=false:=beq_eq_false_iff_ne.mpr c2
  have c2b1:(a0_0 != 1)=true:=bne_iff_ne.mpr c2
  have HC16:=Aside0.mk H
  clear H
  go_enter Tryd.func41,Tryd.ntmps41
  go_upto_if 11 with (first|((with_reducible refine gate_dst (N:=1) rfl ?_);refine box_event ?hg (N:=1) ?hd (cs:=#[.int .i64 a0_0,.string a0_1,.int .i64 a0_2,.int .i64 a0_3,.int .i64 a0_4]) (t:=33) ?hr ?_;(case hd => rfl);(case hg => rfl);(case hr => first|(go_simp;done)|(go_simp;rfl));intro gb124 hg w17 hbox hb;have n0_:=Aside0.mk (below_step (by repeat (first|(with_reducible first|exact HB.out|apply below_alloc|apply pw_below_drewN|apply below_drew1)|exact HB.out)) hb);have n1_:=Aside0.mk (hbox);have n2_:=Aside0.mk ((by rw [hg];exact (below_size (by repeat (first|(with_reducible first|exact HB.out|apply below_alloc|apply pw_below_drewN|apply below_drew1)|exact HB.out))):w.heap.size≤gb124));have n3_:=Aside0.mk ((by rw [hg];exact (below_size (by repeat (first|(with_reducible first|exact HB.out|apply below_alloc|apply pw_below_drewN|apply below_drew1)|exact HB.out))):w.heap.size≤gb124));clear HB;have HB:=n0_;have BK124:=n1_;have GW124:=n2_;have GE124:=n3_;clear n0_ n1_ n2_ n3_;clear hb hbox hg)|((with_reducible refine gate_dst (N:=2) rfl ?_);refine box_event ?hg (N:=2) ?hd (cs:=#[.int .i64 0,.string (⟨#[]⟩:ByteArray),.int .i64 0,.int .i64 0,.int .i64 0]) (t:=33) ?hr ?_;(case hd => rfl);(case hg => rfl);(case hr => first|(go_simp;done)|(go_simp;rfl));intro gb125 hg w18 hbox hb;have n0_:=Aside0.mk (blk_below (g:=gb124) (o:=.cells #[.int .i64 a0_0,.string a0_1,.int .i64 a0_2,.int .i64 a0_3,.int .i64 a0_4] 33 (0,0)) (by (with_reducible repeat (first|refine blk_drewN ?_ _|refine blk_drew ?_|refine blk_alloc ?_ _));exact BK124.out) hb);have n1_:=Aside0.mk (below_step (by repeat (first|(with_reducible first|exact HB.out|apply below_alloc|apply pw_below_drewN|apply below_drew1|refine below_set ?_ GE124.out)|exact HB.out)) hb);have n2_:=Aside0.mk (hbox);have n3_:=Aside0.mk ((by rw [hg];exact (below_size (by repeat (first|(with_reducible first|exact HB.out|apply below_alloc|apply pw_below_drewN|apply below_drew1|refine below_set ?_ GE124.out)|exact HB.out))):w.heap.size≤gb125));have n4_:=Aside0.mk ((by rw [hg];exact (below_size (by repeat (first|(with_reducible first|exact HB.out|apply below_alloc|apply pw_below_drewN|apply below_drew1|refine below_set ?_ GE124.out)|exact HB.out))):w.heap.size≤gb125));have n5_:=Aside0.mk ((by rw [hg];exact Nat.ne_of_lt (blk_lt (g:=gb124) (o:=.cells #[.int .i64 a0_0,.string a0_1,.int .i64 a0_2,.int .i64 a0_3,.int .i64 a0_4] 33 (0,0)) (by (with_reducible repeat (first|refine blk_drewN ?_ _|refine blk_drew ?_|refine blk_alloc ?_ _));exact BK124.out)):gb124 ≠ gb125));have n6_:=Aside0.mk ((by rw [hg];exact Nat.ne_of_gt (blk_lt (g:=gb124) (o:=.cells #[.int .i64 a0_0,.string a0_1,.int .i64 a0_2,.int .i64 a0_3,.int .i64 a0_4] 33 (0,0)) (by (with_reducible repeat (first|refine blk_drewN ?_ _|refine blk_drew ?_|refine blk_alloc ?_ _));exact BK124.out)):gb125 ≠ gb124));clear BK124;clear HB;have BK124:=n0_;have HB:=n1_;have BK125:=n2_;have GW125:=n3_;have GE125:=n4_;have NB124_125:=n5_;have NB125_124:=n6_;clear n0_ n1_ n2_ n3_ n4_ n5_ n6_;clear hb hbox hg;have hnb19:=NB124_125.out;have hnc19:=NB125_124.out;have hcz20_0:w18.cell? ⟨gb124,0,none⟩=some (.int .i64 a0_0):=(blk_cell BK124.out 0).trans rfl;have hcz20_1:w18.cell? ⟨gb124,1,none⟩=some (.string a0_1):=(blk_cell BK124.out 1).trans rfl;have hcz20_2:w18.cell? ⟨gb124,2,none⟩=some (.int .i64 a0_2):=(blk_cell BK124.out 2).trans rfl;have hcz20_3:w18.cell? ⟨gb124,3,none⟩=some (.int .i64 a0_3):=(blk_cell BK124.out 3).trans rfl;have hcz20_4:w18.cell? ⟨gb124,4,none⟩=some (.int .i64 a0_4):=(blk_cell BK124.out 4).trans rfl;have hfz20_0:=blk_frozen BK124.out 0;have hfz20_1:=blk_frozen BK124.out 1;have hfz20_2:=blk_frozen BK124.out 2;have hfz20_3:=blk_frozen BK124.out 3;have hfz20_4:=blk_frozen BK124.out 4)|((with_reducible refine gate_dst (N:=3) rfl ?_);refine box_event ?hg (N:=3) ?hd (cs:=#[.int .i64 0,.string (⟨#[]⟩:ByteArray),.int .i64 0,.int .i64 0,.int .i64 0]) (t:=33) ?hr ?_;(case hd => rfl);(case hg => rfl);(case hr => first|(go_simp;done)|(go_simp;rfl));intro gb126 hg w21 hbox hb;have n0_:=Aside0.mk (blk_below (g:=gb124) (o:=.cells #[.int .i64 a0_0,.string a0_1,.int .i64 a0_2,.int .i64 a0_3,.int .i64 a0_4] 33 (0,0)) (by (with_reducible repeat (first|refine blk_drewN ?_ _|refine blk_drew ?_|refine blk_alloc ?_ _));exact BK124.out) hb);have n1_:=Aside0.mk (blk_below (g:=gb125) (o:=.cells #[.int .i64 0,.string (⟨#[]⟩:ByteArray),.int .i64 0,.int .i64 0,.int .i64 0] 33 (0,0)) (by (with_reducible repeat (first|refine blk_drewN ?_ _|refine blk_drew ?_|refine blk_alloc ?_ _));exact BK125.out) hb);have n2_:=Aside0.mk (below_step (by repeat (first|(with_reducible first|exact HB.out|apply below_alloc|apply pw_below_drewN|apply below_drew1|refine below_set ?_ GE124.out|refine below_set ?_ GE125.out)|exact HB.out)) hb);have n3_:=Aside0.mk (hbox);have n4_:=Aside0.mk ((by rw [hg];exact (below_size (by repeat (first|(with_reducible first|exact HB.out|apply below_alloc|apply pw_below_drewN|apply below_drew1|refine below_set ?_ GE124.out|refine below_set ?_ GE125.out)|exact HB.out))):w.heap.size≤gb126));have n5_:=Aside0.mk ((by rw [hg];exact (below_size (by repeat (first|(with_reducible first|exact HB.out|apply below_alloc|apply pw_below_drewN|apply below_drew1|refine below_set ?_ GE124.out|refine below_set ?_ GE125.out)|exact HB.out))):w.heap.size≤gb126));have n6_:=Aside0.mk ((by rw [hg];exact Nat.ne_of_lt (blk_lt (g:=gb124) (o:=.cells #[.int .i64 a0_0,.string a0_1,.int .i64 a0_2,.int .i64 a0_3,.int .i64 a0_4] 33 (0,0)) (by (with_reducible repeat (first|refine blk_drewN ?_ _|refine blk_drew ?_|refine blk_alloc ?_ _));exact BK124.out)):gb124 ≠ gb126));have n7_:=Aside0.mk ((by rw [hg];exact Nat.ne_of_gt (blk_lt (g:=gb124) (o:=.cells #[.int .i64 a0_0,.string a0_1,.int .i64 a0_2,.int .i64 a0_3,.int .i64 a0_4] 33 (0,0)) (by (with_reducible repeat (first|refine blk_drewN ?_ _|refine blk_drew ?_|refine blk_alloc ?_ _));exact BK124.out)):gb126 ≠ gb124));have n8_:=Aside0.mk ((by rw [hg];exact Nat.ne_of_lt (blk_lt (g:=gb125) (o:=.cells #[.int .i64 0,.string (⟨#[]⟩:ByteArray),.int .i64 0,.int .i64 0,.int .i64 0] 33 (0,0)) (by (with_reducible repeat (first|refine blk_drewN ?_ _|refine blk_drew ?_|refine blk_alloc ?_ _));exact BK125.out)):gb125 ≠ gb126));have n9_:=Aside0.mk ((by rw [hg];exact Nat.ne_of_gt (blk_lt (g:=gb125) (o:=.cells #[.int .i64 0,.string (⟨#[]⟩:ByteArray),.int .i64 0,.int .i64 0,.int .i64 0] 33 (0,0)) (by (with_reducible repeat (first|refine blk_drewN ?_ _|refine blk_drew ?_|refine blk_alloc ?_ _));exact BK125.out)):gb126 ≠ gb125));clear BK124;clear BK125;clear HB;have BK124:=n0_;have BK125:=n1_;have HB:=n2_;have BK126:=n3_;have GW126:=n4_;have GE126:=n5_;have NB124_126:=n6_;have NB126_124:=n7_;have NB125_126:=n8_;have NB126_125:=n9_;clear n0_ n1_ n2_ n3_ n4_ n5_ n6_ n7_ n8_ n9_;clear hb hbox hg;have hnb22:=NB126_124.out;have hnc22:=NB124_126.out;have hnb23:=NB126_125.out;have hnc23:=NB125_126.out;have hcz24_0:w21.cell? ⟨gb126,0,none⟩=some (.int .i64 0):=(blk_cell BK126.out 0).trans rfl;have hcz24_1:w21.cell? ⟨gb126,1,none⟩=some (.string (⟨#[]⟩:ByteArray)):=(blk_cell BK126.out 1).trans rfl;have hcz24_2:w21.cell? ⟨gb126,2,none⟩=some (.int .i64 0):=(blk_cell BK126.out 2).trans rfl;have hcz24_3:w21.cell? ⟨gb126,3,none⟩=some (.int .i64 0):=(blk_cell BK126.out 3).trans rfl;have hcz24_4:w21.cell? ⟨gb126,4,none⟩=some (.int .i64 0):=(blk_cell BK126.out 4).trans rfl;have hfz24_0:=blk_frozen BK126.out 0;have hfz24_1:=blk_frozen BK126.out 1;have hfz24_2:=blk_frozen BK126.out 2;have hfz24_3:=blk_frozen BK126.out 3;have hfz24_4:=blk_frozen BK126.out 4)|((with_reducible refine gate_store (t:=33) (p:=3) rfl ?_);refine store_event (t:=33) (p:=3) (v:=?vo_w25) (w1:=(((((w21.setCell ⟨gb126,0,none⟩ (.int .i64 a0_0)).setCell ⟨gb126,1,none⟩ (.string (⟨#[]⟩:ByteArray))).setCell ⟨gb126,2,none⟩ (.int .i64 0)).setCell ⟨gb126,3,none⟩ (.int .i64 0)).setCell ⟨gb126,4,none⟩ (.int .i64 0))) ?hg ?ho ?hn ?hr ?_;(case ho => rfl);(case hg => rfl);(case hn => rfl);(case hr => first|(go_simp;done)|(go_simp;rfl));intro w25 hw;have n0_:Aside0 (w25.heap[gb124]?=some (.cells #[.int .i64 a0_0,.string a0_1,.int .i64 a0_2,.int .i64 a0_3,.int .i64 a0_4] 33 (0,0))):=⟨(by rw [hw];exact (by (with_reducible repeat (first|refine blk_drewN ?_ _|refine blk_drew ?_|refine blk_alloc ?_ _));refine blk_far ?_ NB124_126.out _;(with_reducible repeat (first|refine blk_drewN ?_ _|refine blk_drew ?_|refine blk_alloc ?_ _));refine blk_far ?_ NB124_126.out _;(with_reducible repeat (first|refine blk_drewN ?_ _|refine blk_drew ?_|refine blk_alloc ?_ _));refine blk_far ?_ NB124_126.out _;(with_reducible repeat (first|refine blk_drewN ?_ _|refine blk_drew ?_|refine blk_alloc ?_ _));refine blk_far ?_ NB124_126.out _;(with_reducible repeat (first|refine blk_drewN ?_ _|refine blk_drew ?_|refine blk_alloc ?_ _));refine blk_far ?_ NB124_126.out _;(with_reducible repeat (first|refine blk_drewN ?_ _|refine blk_drew ?_|refine blk_alloc ?_ _));exact BK124.out))⟩;have n1_:Aside0 (w25.heap[gb125]?=some (.cells #[.int .i64 0,.string (⟨#[]⟩:ByteArray),.int .i64 0,.int .i64 0,.int .i64 0] 33 (0,0))):=⟨(by rw [hw];exact (by (with_reducible repeat (first|refine blk_drewN ?_ _|refine blk_drew ?_|refine blk_alloc ?_ _));refine blk_far ?_ NB125_126.out _;(with_reducible repeat (first|refine blk_drewN ?_ _|refine blk_drew ?_|refine blk_alloc ?_ _));refine blk_far ?_ NB125_126.out _;(with_reducible repeat (first|refine blk_drewN ?_ _|refine blk_drew ?_|refine blk_alloc ?_ _));refine blk_far ?_ NB125_126.out _;(with_reducible repeat (first|refine blk_drewN ?_ _|refine blk_drew ?_|refine blk_alloc ?_ _));refine blk_far ?_ NB125_126.out _;(with_reducible repeat (first|refine blk_drewN ?_ _|refine blk_drew ?_|refine blk_alloc ?_ _));refine blk_far ?_ NB125_126.out _;(with_reducible repeat (first|refine blk_drewN ?_ _|refine blk_drew ?_|refine blk_alloc ?_ _));exact BK125.out))⟩;have n2_:Aside0 (w25.heap[gb126]?=some (.cells #[.int .i64 a0_0,.string (⟨#[]⟩:ByteArray),.int .i64 0,.int .i64 0,.int .i64 0] 33 (0,0))):=⟨(by rw [hw];exact (by (with_reducible repeat (first|refine blk_drewN ?_ _|refine blk_drew ?_|refine blk_alloc ?_ _));refine blk_put (cs:=#[.int .i64 a0_0,.string (⟨#[]⟩:ByteArray),.int .i64 0,.int .i64 0,.int .i64 0]) ?_ 4 _ rfl;(with_reducible repeat (first|refine blk_drewN ?_ _|refine blk_drew ?_|refine blk_alloc ?_ _));refine blk_put (cs:=#[.int .i64 a0_0,.string (⟨#[]⟩:ByteArray),.int .i64 0,.int .i64 0,.int .i64 0]) ?_ 3 _ rfl;(with_reducible repeat (first|refine blk_drewN ?_ _|refine blk_drew ?_|refine blk_alloc ?_ _));refine blk_put (cs:=#[.int .i64 a0_0,.string (⟨#[]⟩:ByteArray),.int .i64 0,.int .i64 0,.int .i64 0]) ?_ 2 _ rfl;(with_reducible repeat (first|refine blk_drewN ?_ _|refine blk_drew ?_|refine blk_alloc ?_ _));refine blk_put (cs:=#[.int .i64 a0_0,.string (⟨#[]⟩:ByteArray),.int .i64 0,.int .i64 0,.int .i64 0]) ?_ 1 _ rfl;(with_reducible repeat (first|refine blk_drewN ?_ _|refine blk_drew ?_|refine blk_alloc ?_ _));refine blk_put (cs:=#[.int .i64 0,.string (⟨#[]⟩:ByteArray),.int .i64 0,.int .i64 0,.int .i64 0]) ?_ 0 _ rfl;(with_reducible repeat (first|refine blk_drewN ?_ _|refine blk_drew ?_|refine blk_alloc ?_ _));exact BK126.out))⟩;have n3_:Aside0 (Below w.heap.size w w25):=⟨(by rw [hw];exact (by repeat (first|(with_reducible first|exact HB.out|apply below_alloc|apply pw_below_drewN|apply below_drew1|refine below_set ?_ GE124.out|refine below_set ?_ GE125.out|refine below_set ?_ GE126.out)|exact HB.out)))⟩;clear hw;clear BK124;clear BK125;clear BK126;clear HB;have BK124:=n0_;have BK125:=n1_;have BK126:=n2_;have HB:=n3_;clear n0_ n1_ n2_ n3_;have hcz26_0:w25.cell? ⟨gb124,0,none⟩=some (.int .i64 a0_0):=(blk_cell BK124.out 0).trans rfl;have hcz26_1:w25.cell? ⟨gb124,1,none⟩=some (.string a0_1):=(blk_cell BK124.out 1).trans rfl;have hcz26_2:w25.cell? ⟨gb124,2,none⟩=some (.int .i64 a0_2):=(blk_cell BK124.out 2).trans rfl;have hcz26_3:w25.cell? ⟨gb124,3,none⟩=some (.int .i64 a0_3):=(blk_cell BK124.out 3).trans rfl;have hcz26_4:w25.cell? ⟨gb124,4,none⟩=some (.int .i64 a0_4):=(blk_cell BK124.out 4).trans rfl;have hfz26_0:=blk_frozen BK124.out 0;have hfz26_1:=blk_frozen BK124.out 1;have hfz26_2:=blk_frozen BK124.out 2;have hfz26_3:=blk_frozen BK124.out 3;have hfz26_4:=blk_frozen BK124.out 4))
  (try simp only [Act.put,List.setIfInBounds_toArray,List.set_cons_zero,List.set_cons_succ])
  go_cut [11] (fun v11 wc => ∃ (kq:Nat) (x11_15:Bool),v11=.bool x11_15∧Aside0 (pool_fields.j0 kq a0_0 x11_15 a0_0 a0_1 a0_2 a0_3 a0_4 a0_0 (⟨#[]⟩:ByteArray) 0 0 0=some (r1,r2,r3,r4,r5))∧Aside0 (kq≤k)∧Aside0 (wc.heap[gb124]?=some (.cells #[.int .i64 a0_0,.string a0_1,.int .i64 a0_2,.int .i64 a0_3,.int .i64 a0_4] 33 (0,0)))∧Aside0 (wc.heap[gb125]?=some (.cells #[.int .i64 0,.string (⟨#[]⟩:ByteArray),.int .i64 0,.int .i64 0,.int .i64 0] 33 (0,0)))∧Aside0 (wc.heap[gb126]?=some (.cells #[.int .i64 a0_0,.string (⟨#[]⟩:ByteArray),.int .i64 0,.int .i64 0,.int .i64 0] 33 (0,0)))∧Aside0 (Below w.heap.size w wc))
  case first =>
   have H:=HC16.out
   clear HC16
   by_cases c27:a0_0=3
   ·rw [if_pos c27] at H
    have c27b0:(a0_0==3)=true:=beq_iff_eq.mpr c27
    have c27b1:(a0_0 != 3)=false:=bne_eq_false_iff_eq.mpr c27
    clear c27
    (first|rw [c27b0]|(simp only [i64_w,i32_w];rw [c27b0])|skip)
    have H':=Aside0.mk H
    clear H
    go_wp2
    go_meet
    case rel => exact ⟨_,((a0_0==3)),(by first|rfl|(simp;done)|(simp [*];done)),H',⟨by first|omega|exact Nat.le_refl _⟩,⟨by (with_reducible repeat (first|refine blk_drewN ?_ _|refine blk_drew ?_|refine blk_alloc ?_ _));exact BK124.out⟩,⟨by (with_reducible repeat (first|refine blk_drewN ?_ _|refine blk_drew ?_|refine blk_alloc ?_ _));exact BK125.out⟩,⟨by (with_reducible repeat (first|refine blk_drewN ?_ _|refine blk_drew ?_|refine blk_alloc ?_ _));exact BK126.out⟩,⟨by repeat (first|(with_reducible first|exact HB.out|apply below_alloc|apply pw_below_drewN|apply below_drew1|refine below_set ?_ GE124.out|refine below_set ?_ GE125.out|refine below_set ?_ GE126.out)|exact HB.out)⟩⟩
   ·rw [if_neg c27] at H
    have c27b0:(a0_0==3)=false:=beq_eq_false_iff_ne.mpr c27
    have c27b1:(a0_0 != 3)=true:=bne_iff_ne.mpr c27
    (first|rw [c27b0]|(simp only [i64_w,i32_w];rw [c27b0])|skip)
    have H':=Aside0.mk H
    clear H
    go_wp2
    go_meet
    case rel => exact ⟨_,((a0_0==5)),(by first|rfl|(simp;done)|(simp [*];done)),H',⟨by first|omega|exact Nat.le_refl _⟩,⟨by (with_reducible repeat (first|refine blk_drewN ?_ _|refine blk_drew ?_|refine blk_alloc ?_ _));exact BK124.out⟩,⟨by (with_reducible repeat (first|refine blk_drewN ?_ _|refine blk_drew ?_|refine blk_alloc ?_ _));exact BK125.out⟩,⟨by (with_reducible repeat (first|refine blk_drewN ?_ _|refine blk_drew ?_|refine blk_alloc ?_ _));exact BK126.out⟩,⟨by repeat (first|(with_reducible first|exact HB.out|apply below_alloc|apply pw_below_drewN|apply below_drew1|refine below_set ?_ GE124.out|refine below_set ?_ GE125.out|refine below_set ?_ GE126.out)|exact HB.out)⟩⟩
  case rest =>
   clear HC16
   try clear c1;try clear c2;try clear c2b0;try clear c2b1;try clear p2;try clear c4;try clear c5;try clear c8;try clear c9;try clear c19;try clear c22;try clear c23;try clear c27;try clear c27b0;try clear c27b1;try clear hcz10_0;try clear hcz10_1;try clear hcz10_2;try clear hcz10_3;try clear hcz10_4;try clear hcz12_0;try clear hcz12_1;try clear hcz12_2;try clear hcz12_3;try clear hcz12_4;try clear hcz13_0;try clear hcz13_1;try clear hcz13_2;try clear hcz13_3;try clear hcz13_4;try clear hcz14_0;try clear hcz14_1;try clear hcz14_2;try clear hcz14_3;try clear hcz14_4;try clear hcz20_0;try clear hcz20_1;try clear hcz20_2;try clear hcz20_3;try clear hcz20_4;try clear hcz24_0;try clear hcz24_1;try clear hcz24_2;try clear hcz24_3;try clear hcz24_4;try clear hcz26_0;try clear hcz26_1;try clear hcz26_2;try clear hcz26_3;try clear hcz26_4;try clear hcz6_0;try clear hcz6_1;try clear hcz6_2;try clear hcz6_3;try clear hcz6_4;try clear hfz10_0;try clear hfz10_1;try clear hfz10_2;try clear hfz10_3;try clear hfz10_4;try clear hfz12_0;try clear hfz12_1;try clear hfz12_2;try clear hfz12_3;try clear hfz12_4;try clear hfz13_0;try clear hfz13_1;try clear hfz13_2;try clear hfz13_3;try clear hfz13_4;try clear hfz14_0;try clear hfz14_1;try clear hfz14_2;try clear hfz14_3;try clear hfz14_4;try clear hfz20_0;try clear hfz20_1;try clear hfz20_2;try clear hfz20_3;try clear hfz20_4;try clear hfz24_0;try clear hfz24_1;try clear hfz24_2;try clear hfz24_3;try clear hfz24_4;try clear hfz26_0;try clear hfz26_1;try clear hfz26_2;try clear hfz26_3;try clear hfz26_4;try clear hfz6_0;try clear hfz6_1;try clear hfz6_2;try clear hfz6_3;try clear hfz6_4
   obtain ⟨kq,x11_15,rfl,HA,HJ15,BK124,BK125,BK126,HB⟩:=hcut
   cases kq with
   | zero => exact absurd HA.out (by simp [pool_fields.j0])
   | succ kj15 =>
    have H:=HA.out
    clear HA
    simp only [pool_fields.j0] at H
    by_cases c28:x11_15=true
    ·subst c28
     have H1:(some (a0_0,(⟨#[]⟩:ByteArray),a0_2,0,0))=some (r1,r2,r3,r4,r5):=by rw [if_pos rfl] at H;exact H
     clear H
     have H:=H1
     clear H1
     simp only [Option.some.injEq,Prod.mk.injEq] at H
     obtain ⟨rfl,rfl,rfl,rfl,rfl⟩:=H
     have hnb29:=NB124_125.out
     have hnc29:=NB125_124.out
     have hnb30:=NB124_126.out
     have hnc30:=NB126_124.out
     have hcz31_0:wc.cell? ⟨gb124,0,none⟩=some (.int .i64 a0_0):=(blk_cell BK124.out 0).trans rfl
     have hcz31_1:wc.cell? ⟨gb124,1,none⟩=some (.string a0_1):=(blk_cell BK124.out 1).trans rfl
     have hcz31_2:wc.cell? ⟨gb124,2,none⟩=some (.int .i64 a0_2):=(blk_cell BK124.out 2).trans rfl
     have hcz31_3:wc.cell? ⟨gb124,3,none⟩=some (.int .i64 a0_3):=(blk_cell BK124.out 3).trans rfl
     have hcz31_4:wc.cell? ⟨gb124,4,none⟩=some (.int .i64 a0_4):=(blk_cell BK124.out 4).trans rfl
     have hfz31_0:=blk_frozen BK124.out 0
     have hfz31_1:=blk_frozen BK124.out 1
     have hfz31_2:=blk_frozen BK124.out 2
     have hfz31_3:=blk_frozen BK124.out 3
     have hfz31_4:=blk_frozen BK124.out 4
     have hnb32:=NB126_125.out
     have hnc32:=NB125_126.out
     have hcz33_0:wc.cell? ⟨gb126,0,none⟩=some (.int .i64 a0_0):=(blk_cell BK126.out 0).trans rfl
     have hcz33_1:wc.cell? ⟨gb126,1,none⟩=some (.string (⟨#[]⟩:ByteArray)):=(blk_cell BK126.out 1).trans rfl
     have hcz33_2:wc.cell? ⟨gb126,2,none⟩=some (.int .i64 0):=(blk_cell BK126.out 2).trans rfl
     have hcz33_3:wc.cell? ⟨gb126,3,none⟩=some (.int .i64 0):=(blk_cell BK126.out 3).trans rfl
     have hcz33_4:wc.cell? ⟨gb126,4,none⟩=some (.int .i64 0):=(blk_cell BK126.out 4).trans rfl
     have hfz33_0:=blk_frozen BK126.out 0
     have hfz33_1:=blk_frozen BK126.out 1
     have hfz33_2:=blk_frozen BK126.out 2
     have hfz33_3:=blk_frozen BK126.out 3
     have hfz33_4:=blk_frozen BK126.out 4
     have hcz34_0:wc.cell? ⟨gb125,0,none⟩=some (.int .i64 0):=(blk_cell BK125.out 0).trans rfl
     have hcz34_1:wc.cell? ⟨gb125,1,none⟩=some (.string (⟨#[]⟩:ByteArray)):=(blk_cell BK125.out 1).trans rfl
     have hcz34_2:wc.cell? ⟨gb125,2,none⟩=some (.int .i64 0):=(blk_cell BK125.out 2).trans rfl
     have hcz34_3:wc.cell? ⟨gb125,3,none⟩=some (.int .i64 0):=(blk_cell BK125.out 3).trans rfl
     have hcz34_4:wc.cell? ⟨gb125,4,none⟩=some (.int .i64 0):=(blk_cell BK125.out 4).trans rfl
     have hfz34_0:=blk_frozen BK125.out 0
     have hfz34_1:=blk_frozen BK125.out 1
     have hfz34_2:=blk_frozen BK125.out 2
     have hfz34_3:=blk_frozen BK125.out 3
     have hfz34_4:=blk_frozen BK125.out 4
     go_wp2_with (first|((with_reducible refine gate_store (t:=33) (p:=2) rfl ?_);refine store_event (t:=33) (p:=2) (v:=?vo_w35) (w1:=((((((wc.setCell ⟨gb126,2,none⟩ (.int .i64 a0_2)).setCell ⟨gb125,0,none⟩ (.int .i64 a0_0)).setCell ⟨gb125,1,none⟩ (.string (⟨#[]⟩:ByteArray))).setCell ⟨gb125,2,none⟩ (.int .i64 a0_2)).setCell ⟨gb125,3,none⟩ (.int .i64 0)).setCell ⟨gb125,4,none⟩ (.int .i64 0))) ?hg ?ho ?hn ?hr ?_;(case ho => rfl);(case hg => rfl);(case hn => rfl);(case hr => first|(go_simp;done)|(go_simp;rfl));intro w35 hw;have n0_:Aside0 (w35.heap[gb124]?=some (.cells #[.int .i64 a0_0,.string a0_1,.int .i64 a0_2,.int .i64 a0_3,.int .i64 a0_4] 33 (0,0))):=⟨(by rw [hw];exact (by (with_reducible repeat (first|refine blk_drewN ?_ _|refine blk_drew ?_|refine blk_alloc ?_ _));refine blk_far ?_ NB124_125.out _;(with_reducible repeat (first|refine blk_drewN ?_ _|refine blk_drew ?_|refine blk_alloc ?_ _));refine blk_far ?_ NB124_125.out _;(with_reducible repeat (first|refine blk_drewN ?_ _|refine blk_drew ?_|refine blk_alloc ?_ _));refine blk_far ?_ NB124_125.out _;(with_reducible repeat (first|refine blk_drewN ?_ _|refine blk_drew ?_|refine blk_alloc ?_ _));refine blk_far ?_ NB124_125.out _;(with_reducible repeat (first|refine blk_drewN ?_ _|refine blk_drew ?_|refine blk_alloc ?_ _));refine blk_far ?_ NB124_125.out _;(with_reducible repeat (first|refine blk_drewN ?_ _|refine blk_drew ?_|refine blk_alloc ?_ _));refine blk_far ?_ NB124_126.out _;(with_reducible repeat (first|refine blk_drewN ?_ _|refine blk_drew ?_|refine blk_alloc ?_ _));exact BK124.out))⟩;have n1_:Aside0 (w35.heap[gb125]?=some (.cells #[.int .i64 a0_0,.string (⟨#[]⟩:ByteArray),.int .i64 a0_2,.int .i64 0,.int .i64 0] 33 (0,0))):=⟨(by rw [hw];exact (by (with_reducible repeat (first|refine blk_drewN ?_ _|refine blk_drew ?_|refine blk_alloc ?_ _));refine blk_put (cs:=#[.int .i64 a0_0,.string (⟨#[]⟩:ByteArray),.int .i64 a0_2,.int .i64 0,.int .i64 0]) ?_ 4 _ rfl;(with_reducible repeat (first|refine blk_drewN ?_ _|refine blk_drew ?_|refine blk_alloc ?_ _));refine blk_put (cs:=#[.int .i64 a0_0,.string (⟨#[]⟩:ByteArray),.int .i64 a0_2,.int .i64 0,.int .i64 0]) ?_ 3 _ rfl;(with_reducible repeat (first|refine blk_drewN ?_ _|refine blk_drew ?_|refine blk_alloc ?_ _));refine blk_put (cs:=#[.int .i64 a0_0,.string (⟨#[]⟩:ByteArray),.int .i64 0,.int .i64 0,.int .i64 0]) ?_ 2 _ rfl;(with_reducible repeat (first|refine blk_drewN ?_ _|refine blk_drew ?_|refine blk_alloc ?_ _));refine blk_put (cs:=#[.int .i64 a0_0,.string (⟨#[]⟩:ByteArray),.int .i64 0,.int .i64 0,.int .i64 0]) ?_ 1 _ rfl;(with_reducible repeat (first|refine blk_drewN ?_ _|refine blk_drew ?_|refine blk_alloc ?_ _));refine blk_put (cs:=#[.int .i64 0,.string (⟨#[]⟩:ByteArray),.int .i64 0,.int .i64 0,.int .i64 0]) ?_ 0 _ rfl;(with_reducible repeat (first|refine blk_drewN ?_ _|refine blk_drew ?_|refine blk_alloc ?_ _));refine blk_far ?_ NB125_126.out _;(with_reducible repeat (first|refine blk_drewN ?_ _|refine blk_drew ?_|refine blk_alloc ?_ _));exact BK125.out))⟩;have n2_:Aside0 (w35.heap[gb126]?=some (.cells #[.int .i64 a0_0,.string (⟨#[]⟩:ByteArray),.int .i64 a0_2,.int .i64 0,.int .i64 0] 33 (0,0))):=⟨(by rw [hw];exact (by (with_reducible repeat (first|refine blk_drewN ?_ _|refine blk_drew ?_|refine blk_alloc ?_ _));refine blk_far ?_ NB126_125.out _;(with_reducible repeat (first|refine blk_drewN ?_ _|refine blk_drew ?_|refine blk_alloc ?_ _));refine blk_far ?_ NB126_125.out _;(with_reducible repeat (first|refine blk_drewN ?_ _|refine blk_drew ?_|refine blk_alloc ?_ _));refine blk_far ?_ NB126_125.out _;(with_reducible repeat (first|refine blk_drewN ?_ _|refine blk_drew ?_|refine blk_alloc ?_ _));refine blk_far ?_ NB126_125.out _;(with_reducible repeat (first|refine blk_drewN ?_ _|refine blk_drew ?_|refine blk_alloc ?_ _));refine blk_far ?_ NB126_125.out _;(with_reducible repeat (first|refine blk_drewN ?_ _|refine blk_drew ?_|refine blk_alloc ?_ _));refine blk_put (cs:=#[.int .i64 a0_0,.string (⟨#[]⟩:ByteArray),.int .i64 0,.int .i64 0,.int .i64 0]) ?_ 2 _ rfl;(with_reducible repeat (first|refine blk_drewN ?_ _|refine blk_drew ?_|refine blk_alloc ?_ _));exact BK126.out))⟩;have n3_:Aside0 (Below w.heap.size w w35):=⟨(by rw [hw];exact (by repeat (first|(with_reducible first|exact HB.out|apply below_alloc|apply pw_below_drewN|apply below_drew1|refine below_set ?_ GE124.out|refine below_set ?_ GE125.out|refine below_set ?_ GE126.out)|exact HB.out)))⟩;clear hw;clear BK124;clear BK125;clear BK126;clear HB;have BK124:=n0_;have BK125:=n1_;have BK126:=n2_;have HB:=n3_;clear n0_ n1_ n2_ n3_))
     refine bodyPost_ret (results_cell_row rfl _ _ gb125 33 #[.int .i64 a0_0,.string (⟨#[]⟩:ByteArray),.int .i64 a0_2,.int .i64 0,.int .i64 0] (0,0) _ rfl (by (with_reducible repeat (first|refine blk_drewN ?_ _|refine blk_drew ?_|refine blk_alloc ?_ _));exact BK125.out) Tryd.underlying33 rfl (by kernel_rfl)) rfl ?_
     exact ⟨by first|rfl|(simp [errW_none,errW_some] <;> rfl)|(simp [*,errW_none,errW_some] <;> rfl),by repeat (first|(with_reducible first|exact HB.out|apply below_alloc|apply pw_below_drewN|apply below_drew1|refine below_set ?_ GE124.out|refine below_set ?_ GE125.out|refine below_set ?_ GE126.out)|exact HB.out)⟩
    ·replace c28:=Bool.eq_false_iff.mpr c28
     subst c28
     have H1:(if a0_0=9 then (pool_fields.j1 kj15 a0_0 (a0_0==9) a0_0 a0_1 a0_2 a0_3 a0_4 a0_0 (⟨#[]⟩:ByteArray) 0 0 0) else (if a0_0=10 then (pool_fields.j1 kj15 a0_0 (a0_0==10) a0_0 a0_1 a0_2 a0_3 a0_4 a0_0 (⟨#[]⟩:ByteArray) 0 0 0) else (pool_fields.j1 kj15 a0_0 (a0_0==12) a0_0 a0_1 a0_2 a0_3 a0_4 a0_0 (⟨#[]⟩:ByteArray) 0 0 0)))=some (r1,r2,r3,r4,r5):=by rw [if_neg (show ¬ (false=true) by decide)] at H;exact H
     clear H
     have H:=H1
     clear H1
     have HC36:=Aside0.mk H
     clear H
     go_upto_if 14 with (fail)
     go_cut [14] (fun v14 wc => ∃ (kq:Nat) (x14_35:Bool),v14=.bool x14_35∧Aside0 (pool_fields.j1 kq a0_0 x14_35 a0_0 a0_1 a0_2 a0_3 a0_4 a0_0 (⟨#[]⟩:ByteArray) 0 0 0=some (r1,r2,r3,r4,r5))∧Aside0 (kq≤kj15)∧Aside0 (wc.heap[gb124]?=some (.cells #[.int .i64 a0_0,.string a0_1,.int .i64 a0_2,.int .i64 a0_3,.int .i64 a0_4] 33 (0,0)))∧Aside0 (wc.heap[gb125]?=some (.cells #[.int .i64 0,.string (⟨#[]⟩:ByteArray),.int .i64 0,.int .i64 0,.int .i64 0] 33 (0,0)))∧Aside0 (wc.heap[gb126]?=some (.cells #[.int .i64 a0_0,.string (⟨#[]⟩:ByteArray),.int .i64 0,.int .i64 0,.int .i64 0] 33 (0,0)))∧Aside0 (Below w.heap.size w wc))
     case first =>
      have H:=HC36.out
      clear HC36
      by_cases c37:a0_0=9
      ·rw [if_pos c37] at H
       have c37b0:(a0_0==9)=true:=beq_iff_eq.mpr c37
       have c37b1:(a0_0 != 9)=false:=bne_eq_false_iff_eq.mpr c37
       clear c37
       (first|rw [c37b0]|(simp only [i64_w,i32_w];rw [c37b0])|skip)
       have H':=Aside0.mk H
       clear H
       go_wp2
       go_meet
       case rel => exact ⟨_,((a0_0==9)),(by first|rfl|(simp;done)|(simp [*];done)),H',⟨by have:=HJ15.out;first|omega|exact Nat.le_refl _⟩,⟨by (with_reducible repeat (first|refine blk_drewN ?_ _|refine blk_drew ?_|refine blk_alloc ?_ _));exact BK124.out⟩,⟨by (with_reducible repeat (first|refine blk_drewN ?_ _|refine blk_drew ?_|refine blk_alloc ?_ _));exact BK125.out⟩,⟨by (with_reducible repeat (first|refine blk_drewN ?_ _|refine blk_drew ?_|refine blk_alloc ?_ _));exact BK126.out⟩,⟨by repeat (first|(with_reducible first|exact HB.out|apply below_alloc|apply pw_below_drewN|apply below_drew1|refine below_set ?_ GE124.out|refine below_set ?_ GE125.out|refine below_set ?_ GE126.out)|exact HB.out)⟩⟩
      ·rw [if_neg c37] at H
       have c37b0:(a0_0==9)=false:=beq_eq_false_iff_ne.mpr c37
       have c37b1:(a0_0 != 9)=true:=bne_iff_ne.mpr c37
       (first|rw [c37b0]|(simp only [i64_w,i32_w];rw [c37b0])|skip)
       by_cases c38:a0_0=10
       ·rw [if_pos c38] at H
        have c38b0:(a0_0==10)=true:=beq_iff_eq.mpr c38
        have c38b1:(a0_0 != 10)=false:=bne_eq_false_iff_eq.mpr c38
        clear c38
        have H':=Aside0.mk H
        clear H
        go_wp2
        go_meet
        case rel => exact ⟨_,((a0_0==10)),(by first|rfl|(simp;done)|(simp [*];done)),H',⟨by have:=HJ15.out;first|omega|exact Nat.le_refl _⟩,⟨by (with_reducible repeat (first|refine blk_drewN ?_ _|refine blk_drew ?_|refine blk_alloc ?_ _));exact BK124.out⟩,⟨by (with_reducible repeat (first|refine blk_drewN ?_ _|refine blk_drew ?_|refine blk_alloc ?_ _));exact BK125.out⟩,⟨by (with_reducible repeat (first|refine blk_drewN ?_ _|refine blk_drew ?_|refine blk_alloc ?_ _));exact BK126.out⟩,⟨by repeat (first|(with_reducible first|exact HB.out|apply below_alloc|apply pw_below_drewN|apply below_drew1|refine below_set ?_ GE124.out|refine below_set ?_ GE125.out|refine below_set ?_ GE126.out)|exact HB.out)⟩⟩
       ·rw [if_neg c38] at H
        have c38b0:(a0_0==10)=false:=beq_eq_false_iff_ne.mpr c38
        have c38b1:(a0_0 != 10)=true:=bne_iff_ne.mpr c38
        have H':=Aside0.mk H
        clear H
        go_wp2
        go_meet
        case rel => exact ⟨_,((a0_0==12)),(by first|rfl|(simp;done)|(simp [*];done)),H',⟨by have:=HJ15.out;first|omega|exact Nat.le_refl _⟩,⟨by (with_reducible repeat (first|refine blk_drewN ?_ _|refine blk_drew ?_|refine blk_alloc ?_ _));exact BK124.out⟩,⟨by (with_reducible repeat (first|refine blk_drewN ?_ _|refine blk_drew ?_|refine blk_alloc ?_ _));exact BK125.out⟩,⟨by (with_reducible repeat (first|refine blk_drewN ?_ _|refine blk_drew ?_|refine blk_alloc ?_ _));exact BK126.out⟩,⟨by repeat (first|(with_reducible first|exact HB.out|apply below_alloc|apply pw_below_drewN|apply below_drew1|refine below_set ?_ GE124.out|refine below_set ?_ GE125.out|refine below_set ?_ GE126.out)|exact HB.out)⟩⟩
     case rest =>
      clear HC36
      try clear c1;try clear c2;try clear c2b0;try clear c2b1;try clear p2;try clear c3;try clear c4;try clear c5;try clear c8;try clear c9;try clear c19;try clear c22;try clear c23;try clear c27;try clear c27b0;try clear c27b1;try clear c28;try clear c29;try clear c30;try clear c32;try clear c37;try clear c37b0;try clear c37b1;try clear c38;try clear c38b0;try clear c38b1;try clear hcz10_0;try clear hcz10_1;try clear hcz10_2;try clear hcz10_3;try clear hcz10_4;try clear hcz12_0;try clear hcz12_1;try clear hcz12_2;try clear hcz12_3;try clear hcz12_4;try clear hcz13_0;try clear hcz13_1;try clear hcz13_2;try clear hcz13_3;try clear hcz13_4;try clear hcz14_0;try clear hcz14_1;try clear hcz14_2;try clear hcz14_3;try clear hcz14_4;try clear hcz20_0;try clear hcz20_1;try clear hcz20_2;try clear hcz20_3;try clear hcz20_4;try clear hcz24_0;try clear hcz24_1;try clear hcz24_2;try clear hcz24_3;try clear hcz24_4;try clear hcz26_0;try clear hcz26_1;try clear hcz26_2;try clear hcz26_3;try clear hcz26_4;try clear hcz31_0;try clear hcz31_1;try clear hcz31_2;try clear hcz31_3;try clear hcz31_4;try clear hcz33_0;try clear hcz33_1;try clear hcz33_2;try clear hcz33_3;try clear hcz33_4;try clear hcz34_0;try clear hcz34_1;try clear hcz34_2;try clear hcz34_3;try clear hcz34_4;try clear hcz6_0;try clear hcz6_1;try clear hcz6_2;try clear hcz6_3;try clear hcz6_4;try clear hfz10_0;try clear hfz10_1;try clear hfz10_2;try clear hfz10_3;try clear hfz10_4;try clear hfz12_0;try clear hfz12_1;try clear hfz12_2;try clear hfz12_3;try clear hfz12_4;try clear hfz13_0;try clear hfz13_1;try clear hfz13_2;try clear hfz13_3;try clear hfz13_4;try clear hfz14_0;try clear hfz14_1;try clear hfz14_2;try clear hfz14_3;try clear hfz14_4;try clear hfz20_0;try clear hfz20_1;try clear hfz20_2;try clear hfz20_3;try clear hfz20_4;try clear hfz24_0;try clear hfz24_1;try clear hfz24_2;try clear hfz24_3;try clear hfz24_4;try clear hfz26_0;try clear hfz26_1;try clear hfz26_2;try clear hfz26_3;try clear hfz26_4;try clear hfz31_0;try clear hfz31_1;try clear hfz31_2;try clear hfz31_3;try clear hfz31_4;try clear hfz33_0;try clear hfz33_1;try clear hfz33_2;try clear hfz33_3;try clear hfz33_4;try clear hfz34_0;try clear hfz34_1;try clear hfz34_2;try clear hfz34_3;try clear hfz34_4;try clear hfz6_0;try clear hfz6_1;try clear hfz6_2;try clear hfz6_3;try clear hfz6_4;try clear p2
      obtain ⟨kq,x14_35,rfl,HA,HJ35,BK124,BK125,BK126,HB⟩:=hcut
      cases kq with
      | zero => exact absurd HA.out (by simp [pool_fields.j1])
      | succ kj35 =>
       have H:=HA.out
       clear HA
       simp only [pool_fields.j1] at H
       by_cases c39:x14_35=true
       ·subst c39
        have H1:(some (a0_0,(⟨#[]⟩:ByteArray),0,a0_3,a0_4))=some (r1,r2,r3,r4,r5):=by rw [if_pos rfl] at H;exact H
        clear H
        have H:=H1
        clear H1
        simp only [Option.some.injEq,Prod.mk.injEq] at H
        obtain ⟨rfl,rfl,rfl,rfl,rfl⟩:=H
        have hnb40:=NB124_125.out
        have hnc40:=NB125_124.out
        have hnb41:=NB124_126.out
        have hnc41:=NB126_124.out
        have hcz42_0:wc.cell? ⟨gb124,0,none⟩=some (.int .i64 a0_0):=(blk_cell BK124.out 0).trans rfl
        have hcz42_1:wc.cell? ⟨gb124,1,none⟩=some (.string a0_1):=(blk_cell BK124.out 1).trans rfl
        have hcz42_2:wc.cell? ⟨gb124,2,none⟩=some (.int .i64 a0_2):=(blk_cell BK124.out 2).trans rfl
        have hcz42_3:wc.cell? ⟨gb124,3,none⟩=some (.int .i64 a0_3):=(blk_cell BK124.out 3).trans rfl
        have hcz42_4:wc.cell? ⟨gb124,4,none⟩=some (.int .i64 a0_4):=(blk_cell BK124.out 4).trans rfl
        have hfz42_0:=blk_frozen BK124.out 0
        have hfz42_1:=blk_frozen BK124.out 1
        have hfz42_2:=blk_frozen BK124.out 2
        have hfz42_3:=blk_frozen BK124.out 3
        have hfz42_4:=blk_frozen BK124.out 4
        have hnb43:=NB126_125.out
        have hnc43:=NB125_126.out
        have hcz44_0:wc.cell? ⟨gb126,0,none⟩=some (.int .i64 a0_0):=(blk_cell BK126.out 0).trans rfl
        have hcz44_1:wc.cell? ⟨gb126,1,none⟩=some (.string (⟨#[]⟩:ByteArray)):=(blk_cell BK126.out 1).trans rfl
        have hcz44_2:wc.cell? ⟨gb126,2,none⟩=some (.int .i64 0):=(blk_cell BK126.out 2).trans rfl
        have hcz44_3:wc.cell? ⟨gb126,3,none⟩=some (.int .i64 0):=(blk_cell BK126.out 3).trans rfl
        have hcz44_4:wc.cell? ⟨gb126,4,none⟩=some (.int .i64 0):=(blk_cell BK126.out 4).trans rfl
        have hfz44_0:=blk_frozen BK126.out 0
        have hfz44_1:=blk_frozen BK126.out 1
        have hfz44_2:=blk_frozen BK126.out 2
        have hfz44_3:=blk_frozen BK126.out 3
        have hfz44_4:=blk_frozen BK126.out 4
        have hcz45_0:wc.cell? ⟨gb125,0,none⟩=some (.int .i64 0):=(blk_cell BK125.out 0).trans rfl
        have hcz45_1:wc.cell? ⟨gb125,1,none⟩=some (.string (⟨#[]⟩:ByteArray)):=(blk_cell BK125.out 1).trans rfl
        have hcz45_2:wc.cell? ⟨gb125,2,none⟩=some (.int .i64 0):=(blk_cell BK125.out 2).trans rfl
        have hcz45_3:wc.cell? ⟨gb125,3,none⟩=some (.int .i64 0):=(blk_cell BK125.out 3).trans rfl
        have hcz45_4:wc.cell? ⟨gb125,4,none⟩=some (.int .i64 0):=(blk_cell BK125.out 4).trans rfl
        have hfz45_0:=blk_frozen BK125.out 0
        have hfz45_1:=blk_frozen BK125.out 1
        have hfz45_2:=blk_frozen BK125.out 2
        have hfz45_3:=blk_frozen BK125.out 3
        have hfz45_4:=blk_frozen BK125.out 4
        go_wp2_with (first|((with_reducible refine gate_store (t:=33) (p:=2) rfl ?_);refine store_event (t:=33) (p:=2) (v:=?vo_w46) (w1:=(((((((wc.setCell ⟨gb126,4,none⟩ (.int .i64 a0_4)).setCell ⟨gb126,3,none⟩ (.int .i64 a0_3)).setCell ⟨gb125,0,none⟩ (.int .i64 a0_0)).setCell ⟨gb125,1,none⟩ (.string (⟨#[]⟩:ByteArray))).setCell ⟨gb125,2,none⟩ (.int .i64 0)).setCell ⟨gb125,3,none⟩ (.int .i64 a0_3)).setCell ⟨gb125,4,none⟩ (.int .i64 a0_4))) ?hg ?ho ?hn ?hr ?_;(case ho => rfl);(case hg => rfl);(case hn => rfl);(case hr => first|(go_simp;done)|(go_simp;rfl));intro w46 hw;have n0_:Aside0 (w46.heap[gb124]?=some (.cells #[.int .i64 a0_0,.string a0_1,.int .i64 a0_2,.int .i64 a0_3,.int .i64 a0_4] 33 (0,0))):=⟨(by rw [hw];exact (by (with_reducible repeat (first|refine blk_drewN ?_ _|refine blk_drew ?_|refine blk_alloc ?_ _));refine blk_far ?_ NB124_125.out _;(with_reducible repeat (first|refine blk_drewN ?_ _|refine blk_drew ?_|refine blk_alloc ?_ _));refine blk_far ?_ NB124_125.out _;(with_reducible repeat (first|refine blk_drewN ?_ _|refine blk_drew ?_|refine blk_alloc ?_ _));refine blk_far ?_ NB124_125.out _;(with_reducible repeat (first|refine blk_drewN ?_ _|refine blk_drew ?_|refine blk_alloc ?_ _));refine blk_far ?_ NB124_125.out _;(with_reducible repeat (first|refine blk_drewN ?_ _|refine blk_drew ?_|refine blk_alloc ?_ _));refine blk_far ?_ NB124_125.out _;(with_reducible repeat (first|refine blk_drewN ?_ _|refine blk_drew ?_|refine blk_alloc ?_ _));refine blk_far ?_ NB124_126.out _;(with_reducible repeat (first|refine blk_drewN ?_ _|refine blk_drew ?_|refine blk_alloc ?_ _));refine blk_far ?_ NB124_126.out _;(with_reducible repeat (first|refine blk_drewN ?_ _|refine blk_drew ?_|refine blk_alloc ?_ _));exact BK124.out))⟩;have n1_:Aside0 (w46.heap[gb125]?=some (.cells #[.int .i64 a0_0,.string (⟨#[]⟩:ByteArray),.int .i64 0,.int .i64 a0_3,.int .i64 a0_4] 33 (0,0))):=⟨(by rw [hw];exact (by (with_reducible repeat (first|refine blk_drewN ?_ _|refine blk_drew ?_|refine blk_alloc ?_ _));refine blk_put (cs:=#[.int .i64 a0_0,.string (⟨#[]⟩:ByteArray),.int .i64 0,.int .i64 a0_3,.int .i64 0]) ?_ 4 _ rfl;(with_reducible repeat (first|refine blk_drewN ?_ _|refine blk_drew ?_|refine blk_alloc ?_ _));refine blk_put (cs:=#[.int .i64 a0_0,.string (⟨#[]⟩:ByteArray),.int .i64 0,.int .i64 0,.int .i64 0]) ?_ 3 _ rfl;(with_reducible repeat (first|refine blk_drewN ?_ _|refine blk_drew ?_|refine blk_alloc ?_ _));refine blk_put (cs:=#[.int .i64 a0_0,.string (⟨#[]⟩:ByteArray),.int .i64 0,.int .i64 0,.int .i64 0]) ?_ 2 _ rfl;(with_reducible repeat (first|refine blk_drewN ?_ _|refine blk_drew ?_|refine blk_alloc ?_ _));refine blk_put (cs:=#[.int .i64 a0_0,.string (⟨#[]⟩:ByteArray),.int .i64 0,.int .i64 0,.int .i64 0]) ?_ 1 _ rfl;(with_reducible repeat (first|refine blk_drewN ?_ _|refine blk_drew ?_|refine blk_alloc ?_ _));refine blk_put (cs:=#[.int .i64 0,.string (⟨#[]⟩:ByteArray),.int .i64 0,.int .i64 0,.int .i64 0]) ?_ 0 _ rfl;(with_reducible repeat (first|refine blk_drewN ?_ _|refine blk_drew ?_|refine blk_alloc ?_ _));refine blk_far ?_ NB125_126.out _;(with_reducible repeat (first|refine blk_drewN ?_ _|refine blk_drew ?_|refine blk_alloc ?_ _));refine blk_far ?_ NB125_126.out _;(with_reducible repeat (first|refine blk_drewN ?_ _|refine blk_drew ?_|refine blk_alloc ?_ _));exact BK125.out))⟩;have n2_:Aside0 (w46.heap[gb126]?=some (.cells #[.int .i64 a0_0,.string (⟨#[]⟩:ByteArray),.int .i64 0,.int .i64 a0_3,.int .i64 a0_4] 33 (0,0))):=⟨(by rw [hw];exact (by (with_reducible repeat (first|refine blk_drewN ?_ _|refine blk_drew ?_|refine blk_alloc ?_ _));refine blk_far ?_ NB126_125.out _;(with_reducible repeat (first|refine blk_drewN ?_ _|refine blk_drew ?_|refine blk_alloc ?_ _));refine blk_far ?_ NB126_125.out _;(with_reducible repeat (first|refine blk_drewN ?_ _|refine blk_drew ?_|refine blk_alloc ?_ _));refine blk_far ?_ NB126_125.out _;(with_reducible repeat (first|refine blk_drewN ?_ _|refine blk_drew ?_|refine blk_alloc ?_ _));refine blk_far ?_ NB126_125.out _;(with_reducible repeat (first|refine blk_drewN ?_ _|refine blk_drew ?_|refine blk_alloc ?_ _));refine blk_far ?_ NB126_125.out _;(with_reducible repeat (first|refine blk_drewN ?_ _|refine blk_drew ?_|refine blk_alloc ?_ _));refine blk_put (cs:=#[.int .i64 a0_0,.string (⟨#[]⟩:ByteArray),.int .i64 0,.int .i64 0,.int .i64 a0_4]) ?_ 3 _ rfl;(with_reducible repeat (first|refine blk_drewN ?_ _|refine blk_drew ?_|refine blk_alloc ?_ _));refine blk_put (cs:=#[.int .i64 a0_0,.string (⟨#[]⟩:ByteArray),.int .i64 0,.int .i64 0,.int .i64 0]) ?_ 4 _ rfl;(with_reducible repeat (first|refine blk_drewN ?_ _|refine blk_drew ?_|refine blk_alloc ?_ _));exact BK126.out))⟩;have n3_:Aside0 (Below w.heap.size w w46):=⟨(by rw [hw];exact (by repeat (first|(with_reducible first|exact HB.out|apply below_alloc|apply pw_below_drewN|apply below_drew1|refine below_set ?_ GE124.out|refine below_set ?_ GE125.out|refine below_set ?_ GE126.out)|exact HB.out)))⟩;clear hw;clear BK124;clear BK125;clear BK126;clear HB;have BK124:=n0_;have BK125:=n1_;have BK126:=n2_;have HB:=n3_;clear n0_ n1_ n2_ n3_))
        refine bodyPost_ret (results_cell_row rfl _ _ gb125 33 #[.int .i64 a0_0,.string (⟨#[]⟩:ByteArray),.int .i64 0,.int .i64 a0_3,.int .i64 a0_4] (0,0) _ rfl (by (with_reducible repeat (first|refine blk_drewN ?_ _|refine blk_drew ?_|refine blk_alloc ?_ _));exact BK125.out) Tryd.underlying33 rfl (by kernel_rfl)) rfl ?_
        exact ⟨by first|rfl|(simp [errW_none,errW_some] <;> rfl)|(simp [*,errW_none,errW_some] <;> rfl),by repeat (first|(with_reducible first|exact HB.out|apply below_alloc|apply pw_below_drewN|apply below_drew1|refine below_set ?_ GE124.out|refine below_set ?_ GE125.out|refine below_set ?_ GE126.out)|exact HB.out)⟩
       ·replace c39:=Bool.eq_false_iff.mpr c39
        subst c39
        have H1:(if a0_0=7 then (some (a0_0,(⟨#[]⟩:ByteArray),0,a0_3,0)) else (some (a0_0,(⟨#[]⟩:ByteArray),0,0,0)))=some (r1,r2,r3,r4,r5):=by rw [if_neg (show ¬ (false=true) by decide)] at H;exact H
        clear H
        have H:=H1
        clear H1
        by_cases c47:a0_0=7
        ·rw [if_pos c47] at H
         have c47b0:(a0_0==7)=true:=beq_iff_eq.mpr c47
         have c47b1:(a0_0 != 7)=false:=bne_eq_false_iff_eq.mpr c47
         clear c47
         simp only [Option.some.injEq,Prod.mk.injEq] at H
         obtain ⟨rfl,rfl,rfl,rfl,rfl⟩:=H
         have hnb48:=NB124_125.out
         have hnc48:=NB125_124.out
         have hnb49:=NB124_126.out
         have hnc49:=NB126_124.out
         have hcz50_0:wc.cell? ⟨gb124,0,none⟩=some (.int .i64 a0_0):=(blk_cell BK124.out 0).trans rfl
         have hcz50_1:wc.cell? ⟨gb124,1,none⟩=some (.string a0_1):=(blk_cell BK124.out 1).trans rfl
         have hcz50_2:wc.cell? ⟨gb124,2,none⟩=some (.int .i64 a0_2):=(blk_cell BK124.out 2).trans rfl
         have hcz50_3:wc.cell? ⟨gb124,3,none⟩=some (.int .i64 a0_3):=(blk_cell BK124.out 3).trans rfl
         have hcz50_4:wc.cell? ⟨gb124,4,none⟩=some (.int .i64 a0_4):=(blk_cell BK124.out 4).trans rfl
         have hfz50_0:=blk_frozen BK124.out 0
         have hfz50_1:=blk_frozen BK124.out 1
         have hfz50_2:=blk_frozen BK124.out 2
         have hfz50_3:=blk_frozen BK124.out 3
         have hfz50_4:=blk_frozen BK124.out 4
         have hnb51:=NB126_125.out
         have hnc51:=NB125_126.out
         have hcz52_0:wc.cell? ⟨gb126,0,none⟩=some (.int .i64 a0_0):=(blk_cell BK126.out 0).trans rfl
         have hcz52_1:wc.cell? ⟨gb126,1,none⟩=some (.string (⟨#[]⟩:ByteArray)):=(blk_cell BK126.out 1).trans rfl
         have hcz52_2:wc.cell? ⟨gb126,2,none⟩=some (.int .i64 0):=(blk_cell BK126.out 2).trans rfl
         have hcz52_3:wc.cell? ⟨gb126,3,none⟩=some (.int .i64 0):=(blk_cell BK126.out 3).trans rfl
         have hcz52_4:wc.cell? ⟨gb126,4,none⟩=some (.int .i64 0):=(blk_cell BK126.out 4).trans rfl
         have hfz52_0:=blk_frozen BK126.out 0
         have hfz52_1:=blk_frozen BK126.out 1
         have hfz52_2:=blk_frozen BK126.out 2
         have hfz52_3:=blk_frozen BK126.out 3
         have hfz52_4:=blk_frozen BK126.out 4
         have hcz53_0:wc.cell? ⟨gb125,0,none⟩=some (.int .i64 0):=(blk_cell BK125.out 0).trans rfl
         have hcz53_1:wc.cell? ⟨gb125,1,none⟩=some (.string (⟨#[]⟩:ByteArray)):=(blk_cell BK125.out 1).trans rfl
         have hcz53_2:wc.cell? ⟨gb125,2,none⟩=some (.int .i64 0):=(blk_cell BK125.out 2).trans rfl
         have hcz53_3:wc.cell? ⟨gb125,3,none⟩=some (.int .i64 0):=(blk_cell BK125.out 3).trans rfl
         have hcz53_4:wc.cell? ⟨gb125,4,none⟩=some (.int .i64 0):=(blk_cell BK125.out 4).trans rfl
         have hfz53_0:=blk_frozen BK125.out 0
         have hfz53_1:=blk_frozen BK125.out 1
         have hfz53_2:=blk_frozen BK125.out 2
         have hfz53_3:=blk_frozen BK125.out 3
         have hfz53_4:=blk_frozen BK125.out 4
         go_wp2_with (first|((with_reducible refine gate_store (t:=33) (p:=2) rfl ?_);refine store_event (t:=33) (p:=2) (v:=?vo_w54) (w1:=((((((wc.setCell ⟨gb126,3,none⟩ (.int .i64 a0_3)).setCell ⟨gb125,0,none⟩ (.int .i64 a0_0)).setCell ⟨gb125,1,none⟩ (.string (⟨#[]⟩:ByteArray))).setCell ⟨gb125,2,none⟩ (.int .i64 0)).setCell ⟨gb125,3,none⟩ (.int .i64 a0_3)).setCell ⟨gb125,4,none⟩ (.int .i64 0))) ?hg ?ho ?hn ?hr ?_;(case ho => rfl);(case hg => rfl);(case hn => rfl);(case hr => first|(go_simp;done)|(go_simp;rfl));intro w54 hw;have n0_:Aside0 (w54.heap[gb124]?=some (.cells #[.int .i64 a0_0,.string a0_1,.int .i64 a0_2,.int .i64 a0_3,.int .i64 a0_4] 33 (0,0))):=⟨(by rw [hw];exact (by (with_reducible repeat (first|refine blk_drewN ?_ _|refine blk_drew ?_|refine blk_alloc ?_ _));refine blk_far ?_ NB124_125.out _;(with_reducible repeat (first|refine blk_drewN ?_ _|refine blk_drew ?_|refine blk_alloc ?_ _));refine blk_far ?_ NB124_125.out _;(with_reducible repeat (first|refine blk_drewN ?_ _|refine blk_drew ?_|refine blk_alloc ?_ _));refine blk_far ?_ NB124_125.out _;(with_reducible repeat (first|refine blk_drewN ?_ _|refine blk_drew ?_|refine blk_alloc ?_ _));refine blk_far ?_ NB124_125.out _;(with_reducible repeat (first|refine blk_drewN ?_ _|refine blk_drew ?_|refine blk_alloc ?_ _));refine blk_far ?_ NB124_125.out _;(with_reducible repeat (first|refine blk_drewN ?_ _|refine blk_drew ?_|refine blk_alloc ?_ _));refine blk_far ?_ NB124_126.out _;(with_reducible repeat (first|refine blk_drewN ?_ _|refine blk_drew ?_|refine blk_alloc ?_ _));exact BK124.out))⟩;have n1_:Aside0 (w54.heap[gb125]?=some (.cells #[.int .i64 a0_0,.string (⟨#[]⟩:ByteArray),.int .i64 0,.int .i64 a0_3,.int .i64 0] 33 (0,0))):=⟨(by rw [hw];exact (by (with_reducible repeat (first|refine blk_drewN ?_ _|refine blk_drew ?_|refine blk_alloc ?_ _));refine blk_put (cs:=#[.int .i64 a0_0,.string (⟨#[]⟩:ByteArray),.int .i64 0,.int .i64 a0_3,.int .i64 0]) ?_ 4 _ rfl;(with_reducible repeat (first|refine blk_drewN ?_ _|refine blk_drew ?_|refine blk_alloc ?_ _));refine blk_put (cs:=#[.int .i64 a0_0,.string (⟨#[]⟩:ByteArray),.int .i64 0,.int .i64 0,.int .i64 0]) ?_ 3 _ rfl;(with_reducible repeat (first|refine blk_drewN ?_ _|refine blk_drew ?_|refine blk_alloc ?_ _));refine blk_put (cs:=#[.int .i64 a0_0,.string (⟨#[]⟩:ByteArray),.int .i64 0,.int .i64 0,.int .i64 0]) ?_ 2 _ rfl;(with_reducible repeat (first|refine blk_drewN ?_ _|refine blk_drew ?_|refine blk_alloc ?_ _));refine blk_put (cs:=#[.int .i64 a0_0,.string (⟨#[]⟩:ByteArray),.int .i64 0,.int .i64 0,.int .i64 0]) ?_ 1 _ rfl;(with_reducible repeat (first|refine blk_drewN ?_ _|refine blk_drew ?_|refine blk_alloc ?_ _));refine blk_put (cs:=#[.int .i64 0,.string (⟨#[]⟩:ByteArray),.int .i64 0,.int .i64 0,.int .i64 0]) ?_ 0 _ rfl;(with_reducible repeat (first|refine blk_drewN ?_ _|refine blk_drew ?_|refine blk_alloc ?_ _));refine blk_far ?_ NB125_126.out _;(with_reducible repeat (first|refine blk_drewN ?_ _|refine blk_drew ?_|refine blk_alloc ?_ _));exact BK125.out))⟩;have n2_:Aside0 (w54.heap[gb126]?=some (.cells #[.int .i64 a0_0,.string (⟨#[]⟩:ByteArray),.int .i64 0,.int .i64 a0_3,.int .i64 0] 33 (0,0))):=⟨(by rw [hw];exact (by (with_reducible repeat (first|refine blk_drewN ?_ _|refine blk_drew ?_|refine blk_alloc ?_ _));refine blk_far ?_ NB126_125.out _;(with_reducible repeat (first|refine blk_drewN ?_ _|refine blk_drew ?_|refine blk_alloc ?_ _));refine blk_far ?_ NB126_125.out _;(with_reducible repeat (first|refine blk_drewN ?_ _|refine blk_drew ?_|refine blk_alloc ?_ _));refine blk_far ?_ NB126_125.out _;(with_reducible repeat (first|refine blk_drewN ?_ _|refine blk_drew ?_|refine blk_alloc ?_ _));refine blk_far ?_ NB126_125.out _;(with_reducible repeat (first|refine blk_drewN ?_ _|refine blk_drew ?_|refine blk_alloc ?_ _));refine blk_far ?_ NB126_125.out _;(with_reducible repeat (first|refine blk_drewN ?_ _|refine blk_drew ?_|refine blk_alloc ?_ _));refine blk_put (cs:=#[.int .i64 a0_0,.string (⟨#[]⟩:ByteArray),.int .i64 0,.int .i64 0,.int .i64 0]) ?_ 3 _ rfl;(with_reducible repeat (first|refine blk_drewN ?_ _|refine blk_drew ?_|refine blk_alloc ?_ _));exact BK126.out))⟩;have n3_:Aside0 (Below w.heap.size w w54):=⟨(by rw [hw];exact (by repeat (first|(with_reducible first|exact HB.out|apply below_alloc|apply pw_below_drewN|apply below_drew1|refine below_set ?_ GE124.out|refine below_set ?_ GE125.out|refine below_set ?_ GE126.out)|exact HB.out)))⟩;clear hw;clear BK124;clear BK125;clear BK126;clear HB;have BK124:=n0_;have BK125:=n1_;have BK126:=n2_;have HB:=n3_;clear n0_ n1_ n2_ n3_))
         refine bodyPost_ret (results_cell_row rfl _ _ gb125 33 #[.int .i64 a0_0,.string (⟨#[]⟩:ByteArray),.int .i64 0,.int .i64 a0_3,.int .i64 0] (0,0) _ rfl (by (with_reducible repeat (first|refine blk_drewN ?_ _|refine blk_drew ?_|refine blk_alloc ?_ _));exact BK125.out) Tryd.underlying33 rfl (by kernel_rfl)) rfl ?_
         exact ⟨by first|rfl|(simp [errW_none,errW_some] <;> rfl)|(simp [*,errW_none,errW_some] <;> rfl),by repeat (first|(with_reducible first|exact HB.out|apply below_alloc|apply pw_below_drewN|apply below_drew1|refine below_set ?_ GE124.out|refine below_set ?_ GE125.out|refine below_set ?_ GE126.out)|exact HB.out)⟩
        ·rw [if_neg c47] at H
         have c47b0:(a0_0==7)=false:=beq_eq_false_iff_ne.mpr c47
         have c47b1:(a0_0 != 7)=true:=bne_iff_ne.mpr c47
         simp only [Option.some.injEq,Prod.mk.injEq] at H
         obtain ⟨rfl,rfl,rfl,rfl,rfl⟩:=H
         have hnb55:=NB126_124.out
         have hnc55:=NB124_126.out
         have hnb56:=NB126_125.out
         have hnc56:=NB125_126.out
         have hcz57_0:wc.cell? ⟨gb126,0,none⟩=some (.int .i64 a0_0):=(blk_cell BK126.out 0).trans rfl
         have hcz57_1:wc.cell? ⟨gb126,1,none⟩=some (.string (⟨#[]⟩:ByteArray)):=(blk_cell BK126.out 1).trans rfl
         have hcz57_2:wc.cell? ⟨gb126,2,none⟩=some (.int .i64 0):=(blk_cell BK126.out 2).trans rfl
         have hcz57_3:wc.cell? ⟨gb126,3,none⟩=some (.int .i64 0):=(blk_cell BK126.out 3).trans rfl
         have hcz57_4:wc.cell? ⟨gb126,4,none⟩=some (.int .i64 0):=(blk_cell BK126.out 4).trans rfl
         have hfz57_0:=blk_frozen BK126.out 0
         have hfz57_1:=blk_frozen BK126.out 1
         have hfz57_2:=blk_frozen BK126.out 2
         have hfz57_3:=blk_frozen BK126.out 3
         have hfz57_4:=blk_frozen BK126.out 4
         have hnb58:=NB125_124.out
         have hnc58:=NB124_125.out
         have hcz59_0:wc.cell? ⟨gb125,0,none⟩=some (.int .i64 0):=(blk_cell BK125.out 0).trans rfl
         have hcz59_1:wc.cell? ⟨gb125,1,none⟩=some (.string (⟨#[]⟩:ByteArray)):=(blk_cell BK125.out 1).trans rfl
         have hcz59_2:wc.cell? ⟨gb125,2,none⟩=some (.int .i64 0):=(blk_cell BK125.out 2).trans rfl
         have hcz59_3:wc.cell? ⟨gb125,3,none⟩=some (.int .i64 0):=(blk_cell BK125.out 3).trans rfl
         have hcz59_4:wc.cell? ⟨gb125,4,none⟩=some (.int .i64 0):=(blk_cell BK125.out 4).trans rfl
         have hfz59_0:=blk_frozen BK125.out 0
         have hfz59_1:=blk_frozen BK125.out 1
         have hfz59_2:=blk_frozen BK125.out 2
         have hfz59_3:=blk_frozen BK125.out 3
         have hfz59_4:=blk_frozen BK125.out 4
         go_wp2_with (first|((with_reducible refine gate_store (t:=33) (p:=2) rfl ?_);refine store_event (t:=33) (p:=2) (v:=?vo_w60) (w1:=(((((wc.setCell ⟨gb125,0,none⟩ (.int .i64 a0_0)).setCell ⟨gb125,1,none⟩ (.string (⟨#[]⟩:ByteArray))).setCell ⟨gb125,2,none⟩ (.int .i64 0)).setCell ⟨gb125,3,none⟩ (.int .i64 0)).setCell ⟨gb125,4,none⟩ (.int .i64 0))) ?hg ?ho ?hn ?hr ?_;(case ho => rfl);(case hg => rfl);(case hn => rfl);(case hr => first|(go_simp;done)|(go_simp;rfl));intro w60 hw;have n0_:Aside0 (w60.heap[gb124]?=some (.cells #[.int .i64 a0_0,.string a0_1,.int .i64 a0_2,.int .i64 a0_3,.int .i64 a0_4] 33 (0,0))):=⟨(by rw [hw];exact (by (with_reducible repeat (first|refine blk_drewN ?_ _|refine blk_drew ?_|refine blk_alloc ?_ _));refine blk_far ?_ NB124_125.out _;(with_reducible repeat (first|refine blk_drewN ?_ _|refine blk_drew ?_|refine blk_alloc ?_ _));refine blk_far ?_ NB124_125.out _;(with_reducible repeat (first|refine blk_drewN ?_ _|refine blk_drew ?_|refine blk_alloc ?_ _));refine blk_far ?_ NB124_125.out _;(with_reducible repeat (first|refine blk_drewN ?_ _|refine blk_drew ?_|refine blk_alloc ?_ _));refine blk_far ?_ NB124_125.out _;(with_reducible repeat (first|refine blk_drewN ?_ _|refine blk_drew ?_|refine blk_alloc ?_ _));refine blk_far ?_ NB124_125.out _;(with_reducible repeat (first|refine blk_drewN ?_ _|refine blk_drew ?_|refine blk_alloc ?_ _));exact BK124.out))⟩;have n1_:Aside0 (w60.heap[gb125]?=some (.cells #[.int .i64 a0_0,.string (⟨#[]⟩:ByteArray),.int .i64 0,.int .i64 0,.int .i64 0] 33 (0,0))):=⟨(by rw [hw];exact (by (with_reducible repeat (first|refine blk_drewN ?_ _|refine blk_drew ?_|refine blk_alloc ?_ _));refine blk_put (cs:=#[.int .i64 a0_0,.string (⟨#[]⟩:ByteArray),.int .i64 0,.int .i64 0,.int .i64 0]) ?_ 4 _ rfl;(with_reducible repeat (first|refine blk_drewN ?_ _|refine blk_drew ?_|refine blk_alloc ?_ _));refine blk_put (cs:=#[.int .i64 a0_0,.string (⟨#[]⟩:ByteArray),.int .i64 0,.int .i64 0,.int .i64 0]) ?_ 3 _ rfl;(with_reducible repeat (first|refine blk_drewN ?_ _|refine blk_drew ?_|refine blk_alloc ?_ _));refine blk_put (cs:=#[.int .i64 a0_0,.string (⟨#[]⟩:ByteArray),.int .i64 0,.int .i64 0,.int .i64 0]) ?_ 2 _ rfl;(with_reducible repeat (first|refine blk_drewN ?_ _|refine blk_drew ?_|refine blk_alloc ?_ _));refine blk_put (cs:=#[.int .i64 a0_0,.string (⟨#[]⟩:ByteArray),.int .i64 0,.int .i64 0,.int .i64 0]) ?_ 1 _ rfl;(with_reducible repeat (first|refine blk_drewN ?_ _|refine blk_drew ?_|refine blk_alloc ?_ _));refine blk_put (cs:=#[.int .i64 0,.string (⟨#[]⟩:ByteArray),.int .i64 0,.int .i64 0,.int .i64 0]) ?_ 0 _ rfl;(with_reducible repeat (first|refine blk_drewN ?_ _|refine blk_drew ?_|refine blk_alloc ?_ _));exact BK125.out))⟩;have n2_:Aside0 (w60.heap[gb126]?=some (.cells #[.int .i64 a0_0,.string (⟨#[]⟩:ByteArray),.int .i64 0,.int .i64 0,.int .i64 0] 33 (0,0))):=⟨(by rw [hw];exact (by (with_reducible repeat (first|refine blk_drewN ?_ _|refine blk_drew ?_|refine blk_alloc ?_ _));refine blk_far ?_ NB126_125.out _;(with_reducible repeat (first|refine blk_drewN ?_ _|refine blk_drew ?_|refine blk_alloc ?_ _));refine blk_far ?_ NB126_125.out _;(with_reducible repeat (first|refine blk_drewN ?_ _|refine blk_drew ?_|refine blk_alloc ?_ _));refine blk_far ?_ NB126_125.out _;(with_reducible repeat (first|refine blk_drewN ?_ _|refine blk_drew ?_|refine blk_alloc ?_ _));refine blk_far ?_ NB126_125.out _;(with_reducible repeat (first|refine blk_drewN ?_ _|refine blk_drew ?_|refine blk_alloc ?_ _));refine blk_far ?_ NB126_125.out _;(with_reducible repeat (first|refine blk_drewN ?_ _|refine blk_drew ?_|refine blk_alloc ?_ _));exact BK126.out))⟩;have n3_:Aside0 (Below w.heap.size w w60):=⟨(by rw [hw];exact (by repeat (first|(with_reducible first|exact HB.out|apply below_alloc|apply pw_below_drewN|apply below_drew1|refine below_set ?_ GE124.out|refine below_set ?_ GE125.out|refine below_set ?_ GE126.out)|exact HB.out)))⟩;clear hw;clear BK124;clear BK125;clear BK126;clear HB;have BK124:=n0_;have BK125:=n1_;have BK126:=n2_;have HB:=n3_;clear n0_ n1_ n2_ n3_))
         refine bodyPost_ret (results_cell_row rfl _ _ gb125 33 #[.int .i64 a0_0,.string (⟨#[]⟩:ByteArray),.int .i64 0,.int .i64 0,.int .i64 0] (0,0) _ rfl (by (with_reducible repeat (first|refine blk_drewN ?_ _|refine blk_drew ?_|refine blk_alloc ?_ _));exact BK125.out) Tryd.underlying33 rfl (by kernel_rfl)) rfl ?_
         exact ⟨by first|rfl|(simp [errW_none,errW_some] <;> rfl)|(simp [*,errW_none,errW_some] <;> rfl),by repeat (first|(with_reducible first|exact HB.out|apply below_alloc|apply pw_below_drewN|apply below_drew1|refine below_set ?_ GE124.out|refine below_set ?_ GE125.out|refine below_set ?_ GE126.out)|exact HB.out)⟩
end Go.Proofs.YtglnhkgodgjepaaDoor.Px
namespace Go.Proofs.YtglnhkgodgjepaaDoor.Px
open Go.RowKit Go.Proofs.YtglnhkgodgjepaaDoorW.PrintWords Go.Proofs.YtglnhkgodgjepaaDoorW.PrintLast Go.Proofs.YtglnhkgodgjepaaDoorW.PrintMore
attribute [local go_sem] max2_int min2_int max_two min_two max_three min_three max_four min_four
set_option linter.unusedVariables false
set_option linter.unusedSimpArgs false
mutual
def pool_leads.j0:Nat→List (S33)→Int→Bool→Int→ByteArray→Int→Int→Int→Option (Bool)
 | 0,_,_,_,_,_,_,_,_ => none
 | k + 1,x0,x6,x7,x128000,x128001,x128002,x128003,x128004 => if x7=true then (some true) else (if x6=3 then (some ((wrap64 (wrap32 (x128002)))==x128002)) else (if x6=7 then ((pool_is.f x0 x128003 1).bind fun t128 => (some t128)) else (if x6=12 then ((pool_is.f x0 x128003 1).bind fun t129 => (if t129=true then ((pool_is.f x0 x128004 1).bind fun t130 => (some t130)) else (some false))) else (if x6=9 then (pool_leads.j1 k x0 (x6==9) x128000 x128001 x128002 x128003 x128004) else (pool_leads.j1 k x0 (x6==10) x128000 x128001 x128002 x128003 x128004)))))
def pool_leads.j1:Nat→List (S33)→Bool→Int→ByteArray→Int→Int→Int→Option (Bool)
 | 0,_,_,_,_,_,_,_ => none
 | k + 1,x0,x37,x128000,x128001,x128002,x128003,x128004 => if x37=true then ((pool_is.f x0 x128003 7).bind fun t131 => (if t131=true then ((pool_is.f x0 x128004 12).bind fun t132 => (some t132)) else (some false))) else (some false)
end
def pool_leads.f (k:Nat) (l0:List (S33)) (a1_0:Int) (a1_1:ByteArray) (a1_2:Int) (a1_3:Int) (a1_4:Int):Option (Bool):=if a1_0=1 then (pool_leads.j0 k l0 a1_0 (a1_0==1) a1_0 a1_1 a1_2 a1_3 a1_4) else (pool_leads.j0 k l0 a1_0 (a1_0==5) a1_0 a1_1 a1_2 a1_3 a1_4)
theorem pool_leads.mono_l:∀ k,(∀ y0 y1 y2 y3 y4 y5 y6 y7,LeO (pool_leads.j0 k y0 y1 y2 y3 y4 y5 y6 y7) (pool_leads.j0 (k + 1) y0 y1 y2 y3 y4 y5 y6 y7))∧(∀ y0 y1 y2 y3 y4 y5 y6,LeO (pool_leads.j1 k y0 y1 y2 y3 y4 y5 y6) (pool_leads.j1 (k + 1) y0 y1 y2 y3 y4 y5 y6))
 | 0 => ⟨fun _ _ _ _ _ _ _ _ r h => by simp [pool_leads.j0] at h,fun _ _ _ _ _ _ _ r h => by simp [pool_leads.j1] at h⟩
 | k + 1 => by
  obtain ⟨ih0,ih1⟩:=pool_leads.mono_l k
  refine ⟨?_,?_⟩
  ·intro y0 y1 y2 y3 y4 y5 y6 y7
   unfold pool_leads.j0
   repeat' first
   | (with_reducible exact ih0 _ _ _ _ _ _ _ _)
   | (with_reducible exact ih1 _ _ _ _ _ _ _)
   | (with_reducible exact LeO.refl _)
   | (with_reducible exact LeO.none _)
   | (with_reducible refine LeO.ite ?_ ?_)
   | (with_reducible refine LeO.bind ?_ (fun _ => ?_))
   | exact ih0 _ _ _ _ _ _ _ _
   | exact ih1 _ _ _ _ _ _ _
   | exact LeO.none _
   | refine LeO.ite ?_ ?_
   | refine LeO.bind ?_ (fun _ => ?_)
  ·intro y0 y1 y2 y3 y4 y5 y6
   unfold pool_leads.j1
   repeat' first
   | (with_reducible exact ih0 _ _ _ _ _ _ _ _)
   | (with_reducible exact ih1 _ _ _ _ _ _ _)
   | (with_reducible exact LeO.refl _)
   | (with_reducible exact LeO.none _)
   | (with_reducible refine LeO.ite ?_ ?_)
   | (with_reducible refine LeO.bind ?_ (fun _ => ?_))
   | exact ih0 _ _ _ _ _ _ _ _
   | exact ih1 _ _ _ _ _ _ _
   | exact LeO.none _
   | refine LeO.ite ?_ ?_
   | refine LeO.bind ?_ (fun _ => ?_)
theorem pool_leads.mono:∀ a0 a1 a2 a3 a4 a5 k,LeO (pool_leads.f k a0 a1 a2 a3 a4 a5) (pool_leads.f (k + 1) a0 a1 a2 a3 a4 a5):=by
 intro a0 a1 a2 a3 a4 a5 k
 obtain ⟨ih0,ih1⟩:=pool_leads.mono_l k
 unfold pool_leads.f
 repeat' first
   | (with_reducible exact ih0 _ _ _ _ _ _ _ _)
   | (with_reducible exact ih1 _ _ _ _ _ _ _)
   | (with_reducible exact LeO.refl _)
   | (with_reducible exact LeO.none _)
   | (with_reducible refine LeO.ite ?_ ?_)
   | (with_reducible refine LeO.bind ?_ (fun _ => ?_))
   | exact ih0 _ _ _ _ _ _ _ _
   | exact ih1 _ _ _ _ _ _ _
   | exact LeO.none _
   | refine LeO.ite ?_ ?_
   | refine LeO.bind ?_ (fun _ => ?_)
set_option maxHeartbeats 80000000 in
set_option maxRecDepth 100000 in
theorem pool_leads.calls (k:Nat) (A0:Option Addr) (c0:Nat) (l0:List (S33)) (a1_0:Int) (a1_1:ByteArray) (a1_2:Int) (a1_3:Int) (a1_4:Int) (r:Bool) (w:World) (hr0:Kd.C k33 w A0 l0.length l0) (hc0:l0.length≤c0) (h:pool_leads.f k l0 a1_0 a1_1 a1_2 a1_3 a1_4=some r) :
  Calls Tryd.prog 42 #[.slice A0 l0.length c0,.agg #[.int .i64 a1_0,.string a1_1,.int .i64 a1_2,.int .i64 a1_3,.int .i64 a1_4]] w fun e w' => e=.returned (.bool r)∧Below w.heap.size w w':=by
 have hu33:=Tryd.underlying33
 have HR0:=Aside0.mk hr0
 have HC0:=Aside0.mk hc0
 clear hr0 hc0
 have HB:=Aside0.mk (Below.refl w.heap.size w)
 have H:(if a1_0=1 then (pool_leads.j0 k l0 a1_0 (a1_0==1) a1_0 a1_1 a1_2 a1_3 a1_4) else (pool_leads.j0 k l0 a1_0 (a1_0==5) a1_0 a1_1 a1_2 a1_3 a1_4))=some r:=h
 clear h
 have HC3:=Aside0.mk H
 clear H
 go_enter Tryd.func42,Tryd.ntmps42
 go_upto_if 7 with (first|((with_reducible refine gate_dst (N:=3) rfl ?_);refine box_event ?hg (N:=3) ?hd (cs:=#[.int .i64 a1_0,.string a1_1,.int .i64 a1_2,.int .i64 a1_3,.int .i64 a1_4]) (t:=33) ?hr ?_;(case hd => rfl);(case hg => rfl);(case hr => first|(go_simp;done)|(go_simp;rfl));intro gb127 hg w4 hbox hb;have n0_:=Aside0.mk (below_step (by repeat (first|(with_reducible first|exact HB.out|apply below_alloc|apply pw_below_drewN|apply below_drew1)|exact HB.out)) hb);have n1_:=Aside0.mk (hbox);have n2_:=Aside0.mk ((by rw [hg];exact (below_size (by repeat (first|(with_reducible first|exact HB.out|apply below_alloc|apply pw_below_drewN|apply below_drew1)|exact HB.out))):w.heap.size≤gb127));have n3_:=Aside0.mk ((by rw [hg];exact (below_size (by repeat (first|(with_reducible first|exact HB.out|apply below_alloc|apply pw_below_drewN|apply below_drew1)|exact HB.out))):w.heap.size≤gb127));clear HB;have HB:=n0_;have BK127:=n1_;have GW127:=n2_;have GE127:=n3_;clear n0_ n1_ n2_ n3_;clear hb hbox hg;have hcz5_0:w4.cell? ⟨gb127,0,none⟩=some (.int .i64 a1_0):=(blk_cell BK127.out 0).trans rfl;have hcz5_1:w4.cell? ⟨gb127,1,none⟩=some (.string a1_1):=(blk_cell BK127.out 1).trans rfl;have hcz5_2:w4.cell? ⟨gb127,2,none⟩=some (.int .i64 a1_2):=(blk_cell BK127.out 2).trans rfl;have hcz5_3:w4.cell? ⟨gb127,3,none⟩=some (.int .i64 a1_3):=(blk_cell BK127.out 3).trans rfl;have hcz5_4:w4.cell? ⟨gb127,4,none⟩=some (.int .i64 a1_4):=(blk_cell BK127.out 4).trans rfl;have hfz5_0:=blk_frozen BK127.out 0;have hfz5_1:=blk_frozen BK127.out 1;have hfz5_2:=blk_frozen BK127.out 2;have hfz5_3:=blk_frozen BK127.out 3;have hfz5_4:=blk_frozen BK127.out 4))
 (try simp only [Act.put,List.setIfInBounds_toArray,List.set_cons_zero,List.set_cons_succ])
 go_cut [7] (fun v7 wc => ∃ (kq:Nat) (x7_2:Bool),v7=.bool x7_2∧Aside0 (pool_leads.j0 kq l0 a1_0 x7_2 a1_0 a1_1 a1_2 a1_3 a1_4=some r)∧Aside0 (kq≤k)∧Aside0 (wc.heap[gb127]?=some (.cells #[.int .i64 a1_0,.string a1_1,.int .i64 a1_2,.int .i64 a1_3,.int .i64 a1_4] 33 (0,0)))∧Aside0 (Below w.heap.size w wc))
 case first =>
  have H:=HC3.out
  clear HC3
  by_cases c6:a1_0=1
  ·rw [if_pos c6] at H
   have c6b0:(a1_0==1)=true:=beq_iff_eq.mpr c6
   have c6b1:(a1_0 != 1)=false:=bne_eq_false_iff_eq.mpr c6
   clear c6
   (first|rw [c6b0]|(simp only [i64_w,i32_w];rw [c6b0])|skip)
   have H':=Aside0.mk H
   clear H
   go_wp2
   go_meet
   case rel => exact ⟨_,((a1_0==1)),(by first|rfl|(simp;done)|(simp [*];done)),H',⟨by first|omega|exact Nat.le_refl _⟩,⟨by (with_reducible repeat (first|refine blk_drewN ?_ _|refine blk_drew ?_|refine blk_alloc ?_ _));exact BK127.out⟩,⟨by repeat (first|(with_reducible first|exact HB.out|apply below_alloc|apply pw_below_drewN|apply below_drew1|refine below_set ?_ GE127.out)|exact HB.out)⟩⟩
  ·rw [if_neg c6] at H
   have c6b0:(a1_0==1)=false:=beq_eq_false_iff_ne.mpr c6
   have c6b1:(a1_0 != 1)=true:=bne_iff_ne.mpr c6
   (first|rw [c6b0]|(simp only [i64_w,i32_w];rw [c6b0])|skip)
   have H':=Aside0.mk H
   clear H
   go_wp2
   go_meet
   case rel => exact ⟨_,((a1_0==5)),(by first|rfl|(simp;done)|(simp [*];done)),H',⟨by first|omega|exact Nat.le_refl _⟩,⟨by (with_reducible repeat (first|refine blk_drewN ?_ _|refine blk_drew ?_|refine blk_alloc ?_ _));exact BK127.out⟩,⟨by repeat (first|(with_reducible first|exact HB.out|apply below_alloc|apply pw_below_drewN|apply below_drew1|refine below_set ?_ GE127.out)|exact HB.out)⟩⟩
 case rest =>
  clear HC3
  try clear p2;try clear c4;try clear c6;try clear c6b0;try clear c6b1;try clear hcz5_0;try clear hcz5_1;try clear hcz5_2;try clear hcz5_3;try clear hcz5_4;try clear hfz5_0;try clear hfz5_1;try clear hfz5_2;try clear hfz5_3;try clear hfz5_4
  obtain ⟨kq,x7_2,rfl,HA,HJ2,BK127,HB⟩:=hcut
  cases kq with
  | zero => exact absurd HA.out (by simp [pool_leads.j0])
  | succ kj2 =>
   have H:=HA.out
   clear HA
   simp only [pool_leads.j0] at H
   by_cases c7:x7_2=true
   ·subst c7
    have H1:(some true)=some r:=by rw [if_pos rfl] at H;exact H
    clear H
    have H:=H1
    clear H1
    obtain rfl:=Option.some.inj H
    go_wp2
    go_ret
    exact ⟨by first|rfl|(simp [errW_none,errW_some] <;> rfl)|(simp [*,errW_none,errW_some] <;> rfl),by repeat (first|(with_reducible first|exact HB.out|apply below_alloc|apply pw_below_drewN|apply below_drew1|refine below_set ?_ GE127.out)|exact HB.out)⟩
   ·replace c7:=Bool.eq_false_iff.mpr c7
    subst c7
    have H1:(if a1_0=3 then (some ((wrap64 (wrap32 (a1_2)))==a1_2)) else (if a1_0=7 then ((pool_is.f l0 a1_3 1).bind fun t128 => (some t128)) else (if a1_0=12 then ((pool_is.f l0 a1_3 1).bind fun t129 => (if t129=true then ((pool_is.f l0 a1_4 1).bind fun t130 => (some t130)) else (some false))) else (if a1_0=9 then (pool_leads.j1 kj2 l0 (a1_0==9) a1_0 a1_1 a1_2 a1_3 a1_4) else (pool_leads.j1 kj2 l0 (a1_0==10) a1_0 a1_1 a1_2 a1_3 a1_4)))))=some r:=by rw [if_neg (show ¬ (false=true) by decide)] at H;exact H
    clear H
    have H:=H1
    clear H1
    by_cases c8:a1_0=3
    ·rw [if_pos c8] at H
     have c8b0:(a1_0==3)=true:=beq_iff_eq.mpr c8
     have c8b1:(a1_0 != 3)=false:=bne_eq_false_iff_eq.mpr c8
     clear c8
     obtain rfl:=Option.some.inj H
     have hcz9_0:wc.cell? ⟨gb127,0,none⟩=some (.int .i64 a1_0):=(blk_cell BK127.out 0).trans rfl
     have hcz9_1:wc.cell? ⟨gb127,1,none⟩=some (.string a1_1):=(blk_cell BK127.out 1).trans rfl
     have hcz9_2:wc.cell? ⟨gb127,2,none⟩=some (.int .i64 a1_2):=(blk_cell BK127.out 2).trans rfl
     have hcz9_3:wc.cell? ⟨gb127,3,none⟩=some (.int .i64 a1_3):=(blk_cell BK127.out 3).trans rfl
     have hcz9_4:wc.cell? ⟨gb127,4,none⟩=some (.int .i64 a1_4):=(blk_cell BK127.out 4).trans rfl
     have hfz9_0:=blk_frozen BK127.out 0
     have hfz9_1:=blk_frozen BK127.out 1
     have hfz9_2:=blk_frozen BK127.out 2
     have hfz9_3:=blk_frozen BK127.out 3
     have hfz9_4:=blk_frozen BK127.out 4
     go_wp2
     go_ret
     exact ⟨by first|rfl|(simp [errW_none,errW_some] <;> rfl)|(simp [*,errW_none,errW_some] <;> rfl),by repeat (first|(with_reducible first|exact HB.out|apply below_alloc|apply pw_below_drewN|apply below_drew1|refine below_set ?_ GE127.out)|exact HB.out)⟩
    ·rw [if_neg c8] at H
     have c8b0:(a1_0==3)=false:=beq_eq_false_iff_ne.mpr c8
     have c8b1:(a1_0 != 3)=true:=bne_iff_ne.mpr c8
     by_cases c10:a1_0=7
     ·rw [if_pos c10] at H
      have c10b0:(a1_0==7)=true:=beq_iff_eq.mpr c10
      have c10b1:(a1_0 != 7)=false:=bne_eq_false_iff_eq.mpr c10
      clear c10
      replace H:=Option.bind_eq_some_iff.mp H
      obtain ⟨t128,A110,H⟩:=H
      replace H:(some t128)=some r:=H
      have A11:=Aside0.mk A110
      clear A110
      obtain rfl:=Option.some.inj H
      have hcz12_0:wc.cell? ⟨gb127,0,none⟩=some (.int .i64 a1_0):=(blk_cell BK127.out 0).trans rfl
      have hcz12_1:wc.cell? ⟨gb127,1,none⟩=some (.string a1_1):=(blk_cell BK127.out 1).trans rfl
      have hcz12_2:wc.cell? ⟨gb127,2,none⟩=some (.int .i64 a1_2):=(blk_cell BK127.out 2).trans rfl
      have hcz12_3:wc.cell? ⟨gb127,3,none⟩=some (.int .i64 a1_3):=(blk_cell BK127.out 3).trans rfl
      have hcz12_4:wc.cell? ⟨gb127,4,none⟩=some (.int .i64 a1_4):=(blk_cell BK127.out 4).trans rfl
      have hfz12_0:=blk_frozen BK127.out 0
      have hfz12_1:=blk_frozen BK127.out 1
      have hfz12_2:=blk_frozen BK127.out 2
      have hfz12_3:=blk_frozen BK127.out 3
      have hfz12_4:=blk_frozen BK127.out 4
      go_wp2_with (first|((with_reducible refine gate_callee (f:=22) rfl ?_);refine goesL_ (some 24) rfl rfl Tryd.func22 (by kernel_rfl) rfl #[.slice A0 l0.length c0,.int .i64 a1_3,.int .i64 1] rfl (by (try simp only [List.map_toArray,List.map_cons,List.map_nil]);first|done|rfl|(simp only [List.length_drop,List.length_take];rfl)) ?_;(with_reducible refine (pool_is.calls _ _ l0 a1_3 1 t128 _ ?side1 ?side2 A11.out).mono ?_);(case side1 => repeat (first|exact (Kd.C_below HR0.out HB.out)|(with_reducible refine Kd.C_alloc ?_ _)|(with_reducible refine Kd.C_drewN ?_ _)|(with_reducible refine Kd.C_drew ?_)));(case side2 => exact HC0.out);rintro e w' ⟨rfl,⟨nd,rfl⟩⟩;refine ⟨_,rfl,?_⟩))
      go_ret
      exact ⟨by first|rfl|(simp [errW_none,errW_some] <;> rfl)|(simp [*,errW_none,errW_some] <;> rfl),by repeat (first|(with_reducible first|exact HB.out|apply below_alloc|apply pw_below_drewN|apply below_drew1|refine below_set ?_ GE127.out)|exact HB.out)⟩
     ·rw [if_neg c10] at H
      have c10b0:(a1_0==7)=false:=beq_eq_false_iff_ne.mpr c10
      have c10b1:(a1_0 != 7)=true:=bne_iff_ne.mpr c10
      by_cases c13:a1_0=12
      ·rw [if_pos c13] at H
       have c13b0:(a1_0==12)=true:=beq_iff_eq.mpr c13
       have c13b1:(a1_0 != 12)=false:=bne_eq_false_iff_eq.mpr c13
       clear c13
       replace H:=Option.bind_eq_some_iff.mp H
       obtain ⟨t129,A140,H⟩:=H
       replace H:(if t129=true then ((pool_is.f l0 a1_4 1).bind fun t130 => (some t130)) else (some false))=some r:=H
       have A14:=Aside0.mk A140
       clear A140
       by_cases c15:t129=true
       ·subst c15
        have H1:((pool_is.f l0 a1_4 1).bind fun t130 => (some t130))=some r:=by rw [if_pos rfl] at H;exact H
        clear H
        have H:=H1
        clear H1
        replace H:=Option.bind_eq_some_iff.mp H
        obtain ⟨t130,A160,H⟩:=H
        replace H:(some t130)=some r:=H
        have A16:=Aside0.mk A160
        clear A160
        obtain rfl:=Option.some.inj H
        have hcz17_0:wc.cell? ⟨gb127,0,none⟩=some (.int .i64 a1_0):=(blk_cell BK127.out 0).trans rfl
        have hcz17_1:wc.cell? ⟨gb127,1,none⟩=some (.string a1_1):=(blk_cell BK127.out 1).trans rfl
        have hcz17_2:wc.cell? ⟨gb127,2,none⟩=some (.int .i64 a1_2):=(blk_cell BK127.out 2).trans rfl
        have hcz17_3:wc.cell? ⟨gb127,3,none⟩=some (.int .i64 a1_3):=(blk_cell BK127.out 3).trans rfl
        have hcz17_4:wc.cell? ⟨gb127,4,none⟩=some (.int .i64 a1_4):=(blk_cell BK127.out 4).trans rfl
        have hfz17_0:=blk_frozen BK127.out 0
        have hfz17_1:=blk_frozen BK127.out 1
        have hfz17_2:=blk_frozen BK127.out 2
        have hfz17_3:=blk_frozen BK127.out 3
        have hfz17_4:=blk_frozen BK127.out 4
        go_wp2_with (first|((with_reducible refine gate_callee (f:=22) rfl ?_);refine goesL_ (some 30) rfl rfl Tryd.func22 (by kernel_rfl) rfl #[.slice A0 l0.length c0,.int .i64 a1_3,.int .i64 1] rfl (by (try simp only [List.map_toArray,List.map_cons,List.map_nil]);first|done|rfl|(simp only [List.length_drop,List.length_take];rfl)) ?_;(with_reducible refine (pool_is.calls _ _ l0 a1_3 1 true _ ?side1 ?side2 A14.out).mono ?_);(case side1 => repeat (first|exact (Kd.C_below HR0.out HB.out)|(with_reducible refine Kd.C_alloc ?_ _)|(with_reducible refine Kd.C_drewN ?_ _)|(with_reducible refine Kd.C_drew ?_)));(case side2 => exact HC0.out);rintro e w' ⟨rfl,⟨nd,rfl⟩⟩;refine ⟨_,rfl,?_⟩)|(go_at_call 22;(with_reducible refine (pool_is.calls _ _ l0 a1_4 1 t130 _ ?side1 ?side2 A16.out).mono ?_);(case side1 => repeat (first|exact (Kd.C_below HR0.out (by repeat (first|(with_reducible first|exact HB.out|apply below_alloc|apply pw_below_drewN|apply below_drew1|refine below_set ?_ GE127.out)|exact HB.out)))|(with_reducible refine Kd.C_alloc ?_ _)|(with_reducible refine Kd.C_drewN ?_ _)|(with_reducible refine Kd.C_drew ?_)));(case side2 => exact HC0.out);rintro e w' ⟨rfl,⟨nd,rfl⟩⟩))
        go_ret
        exact ⟨by first|rfl|(simp [errW_none,errW_some] <;> rfl)|(simp [*,errW_none,errW_some] <;> rfl),by repeat (first|(with_reducible first|exact HB.out|apply below_alloc|apply pw_below_drewN|apply below_drew1|refine below_set ?_ GE127.out)|exact HB.out)⟩
       ·replace c15:=Bool.eq_false_iff.mpr c15
        subst c15
        have H1:(some false)=some r:=by rw [if_neg (show ¬ (false=true) by decide)] at H;exact H
        clear H
        have H:=H1
        clear H1
        obtain rfl:=Option.some.inj H
        have hcz18_0:wc.cell? ⟨gb127,0,none⟩=some (.int .i64 a1_0):=(blk_cell BK127.out 0).trans rfl
        have hcz18_1:wc.cell? ⟨gb127,1,none⟩=some (.string a1_1):=(blk_cell BK127.out 1).trans rfl
        have hcz18_2:wc.cell? ⟨gb127,2,none⟩=some (.int .i64 a1_2):=(blk_cell BK127.out 2).trans rfl
        have hcz18_3:wc.cell? ⟨gb127,3,none⟩=some (.int .i64 a1_3):=(blk_cell BK127.out 3).trans rfl
        have hcz18_4:wc.cell? ⟨gb127,4,none⟩=some (.int .i64 a1_4):=(blk_cell BK127.out 4).trans rfl
        have hfz18_0:=blk_frozen BK127.out 0
        have hfz18_1:=blk_frozen BK127.out 1
        have hfz18_2:=blk_frozen BK127.out 2
        have hfz18_3:=blk_frozen BK127.out 3
        have hfz18_4:=blk_frozen BK127.out 4
        go_wp2_with (first|((with_reducible refine gate_callee (f:=22) rfl ?_);refine goesL_ (some 30) rfl rfl Tryd.func22 (by kernel_rfl) rfl #[.slice A0 l0.length c0,.int .i64 a1_3,.int .i64 1] rfl (by (try simp only [List.map_toArray,List.map_cons,List.map_nil]);first|done|rfl|(simp only [List.length_drop,List.length_take];rfl)) ?_;(with_reducible refine (pool_is.calls _ _ l0 a1_3 1 false _ ?side1 ?side2 A14.out).mono ?_);(case side1 => repeat (first|exact (Kd.C_below HR0.out HB.out)|(with_reducible refine Kd.C_alloc ?_ _)|(with_reducible refine Kd.C_drewN ?_ _)|(with_reducible refine Kd.C_drew ?_)));(case side2 => exact HC0.out);rintro e w' ⟨rfl,⟨nd,rfl⟩⟩;refine ⟨_,rfl,?_⟩))
        go_ret
        exact ⟨by first|rfl|(simp [errW_none,errW_some] <;> rfl)|(simp [*,errW_none,errW_some] <;> rfl),by repeat (first|(with_reducible first|exact HB.out|apply below_alloc|apply pw_below_drewN|apply below_drew1|refine below_set ?_ GE127.out)|exact HB.out)⟩
      ·rw [if_neg c13] at H
       have c13b0:(a1_0==12)=false:=beq_eq_false_iff_ne.mpr c13
       have c13b1:(a1_0 != 12)=true:=bne_iff_ne.mpr c13
       have HC19:=Aside0.mk H
       clear H
       go_upto_if 37 with (fail)
       go_cut [37] (fun v37 wc => ∃ (kq:Nat) (x37_18:Bool),v37=.bool x37_18∧Aside0 (pool_leads.j1 kq l0 x37_18 a1_0 a1_1 a1_2 a1_3 a1_4=some r)∧Aside0 (kq≤kj2)∧Aside0 (wc.heap[gb127]?=some (.cells #[.int .i64 a1_0,.string a1_1,.int .i64 a1_2,.int .i64 a1_3,.int .i64 a1_4] 33 (0,0)))∧Aside0 (Below w.heap.size w wc))
       case first =>
        have H:=HC19.out
        clear HC19
        by_cases c20:a1_0=9
        ·rw [if_pos c20] at H
         have c20b0:(a1_0==9)=true:=beq_iff_eq.mpr c20
         have c20b1:(a1_0 != 9)=false:=bne_eq_false_iff_eq.mpr c20
         clear c20
         (first|rw [c20b0]|(simp only [i64_w,i32_w];rw [c20b0])|skip)
         have H':=Aside0.mk H
         clear H
         go_wp2
         go_meet
         case rel => exact ⟨_,((a1_0==9)),(by first|rfl|(simp;done)|(simp [*];done)),H',⟨by have:=HJ2.out;first|omega|exact Nat.le_refl _⟩,⟨by (with_reducible repeat (first|refine blk_drewN ?_ _|refine blk_drew ?_|refine blk_alloc ?_ _));exact BK127.out⟩,⟨by repeat (first|(with_reducible first|exact HB.out|apply below_alloc|apply pw_below_drewN|apply below_drew1|refine below_set ?_ GE127.out)|exact HB.out)⟩⟩
        ·rw [if_neg c20] at H
         have c20b0:(a1_0==9)=false:=beq_eq_false_iff_ne.mpr c20
         have c20b1:(a1_0 != 9)=true:=bne_iff_ne.mpr c20
         (first|rw [c20b0]|(simp only [i64_w,i32_w];rw [c20b0])|skip)
         have H':=Aside0.mk H
         clear H
         go_wp2
         go_meet
         case rel => exact ⟨_,((a1_0==10)),(by first|rfl|(simp;done)|(simp [*];done)),H',⟨by have:=HJ2.out;first|omega|exact Nat.le_refl _⟩,⟨by (with_reducible repeat (first|refine blk_drewN ?_ _|refine blk_drew ?_|refine blk_alloc ?_ _));exact BK127.out⟩,⟨by repeat (first|(with_reducible first|exact HB.out|apply below_alloc|apply pw_below_drewN|apply below_drew1|refine below_set ?_ GE127.out)|exact HB.out)⟩⟩
       case rest =>
        clear HC19
        try clear c1;try clear c2;try clear p2;try clear p3;try clear c4;try clear c6;try clear c6b0;try clear c6b1;try clear p6;try clear c7;try clear c8;try clear c8b0;try clear c8b1;try clear c10;try clear c10b0;try clear c10b1;try clear c13;try clear c13b0;try clear c13b1;try clear c15;try clear c20;try clear c20b0;try clear c20b1;try clear hcz12_0;try clear hcz12_1;try clear hcz12_2;try clear hcz12_3;try clear hcz12_4;try clear hcz17_0;try clear hcz17_1;try clear hcz17_2;try clear hcz17_3;try clear hcz17_4;try clear hcz18_0;try clear hcz18_1;try clear hcz18_2;try clear hcz18_3;try clear hcz18_4;try clear hcz5_0;try clear hcz5_1;try clear hcz5_2;try clear hcz5_3;try clear hcz5_4;try clear hcz9_0;try clear hcz9_1;try clear hcz9_2;try clear hcz9_3;try clear hcz9_4;try clear hfz12_0;try clear hfz12_1;try clear hfz12_2;try clear hfz12_3;try clear hfz12_4;try clear hfz17_0;try clear hfz17_1;try clear hfz17_2;try clear hfz17_3;try clear hfz17_4;try clear hfz18_0;try clear hfz18_1;try clear hfz18_2;try clear hfz18_3;try clear hfz18_4;try clear hfz5_0;try clear hfz5_1;try clear hfz5_2;try clear hfz5_3;try clear hfz5_4;try clear hfz9_0;try clear hfz9_1;try clear hfz9_2;try clear hfz9_3;try clear hfz9_4;try clear p2
        obtain ⟨kq,x37_18,rfl,HA,HJ18,BK127,HB⟩:=hcut
        cases kq with
        | zero => exact absurd HA.out (by simp [pool_leads.j1])
        | succ kj18 =>
         have H:=HA.out
         clear HA
         simp only [pool_leads.j1] at H
         by_cases c21:x37_18=true
         ·subst c21
          have H1:((pool_is.f l0 a1_3 7).bind fun t131 => (if t131=true then ((pool_is.f l0 a1_4 12).bind fun t132 => (some t132)) else (some false)))=some r:=by rw [if_pos rfl] at H;exact H
          clear H
          have H:=H1
          clear H1
          replace H:=Option.bind_eq_some_iff.mp H
          obtain ⟨t131,A220,H⟩:=H
          replace H:(if t131=true then ((pool_is.f l0 a1_4 12).bind fun t132 => (some t132)) else (some false))=some r:=H
          have A22:=Aside0.mk A220
          clear A220
          by_cases c23:t131=true
          ·subst c23
           have H1:((pool_is.f l0 a1_4 12).bind fun t132 => (some t132))=some r:=by rw [if_pos rfl] at H;exact H
           clear H
           have H:=H1
           clear H1
           replace H:=Option.bind_eq_some_iff.mp H
           obtain ⟨t132,A240,H⟩:=H
           replace H:(some t132)=some r:=H
           have A24:=Aside0.mk A240
           clear A240
           obtain rfl:=Option.some.inj H
           have hcz25_0:wc.cell? ⟨gb127,0,none⟩=some (.int .i64 a1_0):=(blk_cell BK127.out 0).trans rfl
           have hcz25_1:wc.cell? ⟨gb127,1,none⟩=some (.string a1_1):=(blk_cell BK127.out 1).trans rfl
           have hcz25_2:wc.cell? ⟨gb127,2,none⟩=some (.int .i64 a1_2):=(blk_cell BK127.out 2).trans rfl
           have hcz25_3:wc.cell? ⟨gb127,3,none⟩=some (.int .i64 a1_3):=(blk_cell BK127.out 3).trans rfl
           have hcz25_4:wc.cell? ⟨gb127,4,none⟩=some (.int .i64 a1_4):=(blk_cell BK127.out 4).trans rfl
           have hfz25_0:=blk_frozen BK127.out 0
           have hfz25_1:=blk_frozen BK127.out 1
           have hfz25_2:=blk_frozen BK127.out 2
           have hfz25_3:=blk_frozen BK127.out 3
           have hfz25_4:=blk_frozen BK127.out 4
           go_wp2_with (first|((with_reducible refine gate_callee (f:=22) rfl ?_);refine goesL_ (some 43) rfl rfl Tryd.func22 (by kernel_rfl) rfl #[.slice A0 l0.length c0,.int .i64 a1_3,.int .i64 7] rfl (by (try simp only [List.map_toArray,List.map_cons,List.map_nil]);first|done|rfl|(simp only [List.length_drop,List.length_take];rfl)) ?_;(with_reducible refine (pool_is.calls _ _ l0 a1_3 7 true _ ?side1 ?side2 A22.out).mono ?_);(case side1 => repeat (first|exact (Kd.C_below HR0.out HB.out)|(with_reducible refine Kd.C_alloc ?_ _)|(with_reducible refine Kd.C_drewN ?_ _)|(with_reducible refine Kd.C_drew ?_)));(case side2 => exact HC0.out);rintro e w' ⟨rfl,⟨nd,rfl⟩⟩;refine ⟨_,rfl,?_⟩)|(go_at_call 22;(with_reducible refine (pool_is.calls _ _ l0 a1_4 12 t132 _ ?side1 ?side2 A24.out).mono ?_);(case side1 => repeat (first|exact (Kd.C_below HR0.out (by repeat (first|(with_reducible first|exact HB.out|apply below_alloc|apply pw_below_drewN|apply below_drew1|refine below_set ?_ GE127.out)|exact HB.out)))|(with_reducible refine Kd.C_alloc ?_ _)|(with_reducible refine Kd.C_drewN ?_ _)|(with_reducible refine Kd.C_drew ?_)));(case side2 => exact HC0.out);rintro e w' ⟨rfl,⟨nd,rfl⟩⟩))
           go_ret
           exact ⟨by first|rfl|(simp [errW_none,errW_some] <;> rfl)|(simp [*,errW_none,errW_some] <;> rfl),by repeat (first|(with_reducible first|exact HB.out|apply below_alloc|apply pw_below_drewN|apply below_drew1|refine below_set ?_ GE127.out)|exact HB.out)⟩
          ·replace c23:=Bool.eq_false_iff.mpr c23
           subst c23
           have H1:(some false)=some r:=by rw [if_neg (show ¬ (false=true) by decide)] at H;exact H
           clear H
           have H:=H1
           clear H1
           obtain rfl:=Option.some.inj H
           have hcz26_0:wc.cell? ⟨gb127,0,none⟩=some (.int .i64 a1_0):=(blk_cell BK127.out 0).trans rfl
           have hcz26_1:wc.cell? ⟨gb127,1,none⟩=some (.string a1_1):=(blk_cell BK127.out 1).trans rfl
           have hcz26_2:wc.cell? ⟨gb127,2,none⟩=some (.int .i64 a1_2):=(blk_cell BK127.out 2).trans rfl
           have hcz26_3:wc.cell? ⟨gb127,3,none⟩=some (.int .i64 a1_3):=(blk_cell BK127.out 3).trans rfl
           have hcz26_4:wc.cell? ⟨gb127,4,none⟩=some (.int .i64 a1_4):=(blk_cell BK127.out 4).trans rfl
           have hfz26_0:=blk_frozen BK127.out 0
           have hfz26_1:=blk_frozen BK127.out 1
           have hfz26_2:=blk_frozen BK127.out 2
           have hfz26_3:=blk_frozen BK127.out 3
           have hfz26_4:=blk_frozen BK127.out 4
           go_wp2_with (first|((with_reducible refine gate_callee (f:=22) rfl ?_);refine goesL_ (some 43) rfl rfl Tryd.func22 (by kernel_rfl) rfl #[.slice A0 l0.length c0,.int .i64 a1_3,.int .i64 7] rfl (by (try simp only [List.map_toArray,List.map_cons,List.map_nil]);first|done|rfl|(simp only [List.length_drop,List.length_take];rfl)) ?_;(with_reducible refine (pool_is.calls _ _ l0 a1_3 7 false _ ?side1 ?side2 A22.out).mono ?_);(case side1 => repeat (first|exact (Kd.C_below HR0.out HB.out)|(with_reducible refine Kd.C_alloc ?_ _)|(with_reducible refine Kd.C_drewN ?_ _)|(with_reducible refine Kd.C_drew ?_)));(case side2 => exact HC0.out);rintro e w' ⟨rfl,⟨nd,rfl⟩⟩;refine ⟨_,rfl,?_⟩))
           go_ret
           exact ⟨by first|rfl|(simp [errW_none,errW_some] <;> rfl)|(simp [*,errW_none,errW_some] <;> rfl),by repeat (first|(with_reducible first|exact HB.out|apply below_alloc|apply pw_below_drewN|apply below_drew1|refine below_set ?_ GE127.out)|exact HB.out)⟩
         ·replace c21:=Bool.eq_false_iff.mpr c21
          subst c21
          have H1:(some false)=some r:=by rw [if_neg (show ¬ (false=true) by decide)] at H;exact H
          clear H
          have H:=H1
          clear H1
          obtain rfl:=Option.some.inj H
          go_wp2
          go_ret
          exact ⟨by first|rfl|(simp [errW_none,errW_some] <;> rfl)|(simp [*,errW_none,errW_some] <;> rfl),by repeat (first|(with_reducible first|exact HB.out|apply below_alloc|apply pw_below_drewN|apply below_drew1|refine below_set ?_ GE127.out)|exact HB.out)⟩
end Go.Proofs.YtglnhkgodgjepaaDoor.Px
