/- wire.Writer: NewWriter, put, Uint, Int, Bytes, Out: what they leave, as contracts over a writer's block and row. -/
/- Words for wire's readers and writers. -/
/- pool.Encode: what it computes, as a Lean function, and the walk: pool.Check, text.Encode and wire.Writer by their contracts. -/
/- class.fresh, file.two, file.long: what they leave of a writer. -/
/- class.body: a method's code as bytes: what it computes, as a Lean function, and the walk. -/
/- class.Encode: what it computes, as a Lean function, and the walk. -/
/- Arithmetic of modified UTF-8: a unit's bytes. -/
/- Plain law of modified UTF-8: what a text's bytes are ('encL'), and that the program's Encode comes to them. -/
/- Plain law of a pool's places: does a place lead to a tag, and to which text. -/
/- Plain law of pool.Check: what the program's check comes to. -/
/- Plain law of class.Check: what the program's check comes to. -/
/- class.Check comes to 'classCheckV'. -/
/- Plain law of pool.Encode: the bytes of a pool that may be. -/
import Derived.Test.YtmloaijagkebpaaDoorM1
import Derived.Test.YtmloaijagkebpaaDoorM2
import Derived.Test.YtmloaijagkebpaaDoorM3
import Derived.BigCall
import Derived.Deep.CutBlock
import Derived.Deep.RegionHeld3
import Derived.Laws.BitsLemmas
import Derived.WalkKit
import Derived.Lib.ValidLaws
import Derived.Lib.DecodeN
import Derived.Lib.MapLaws
import Derived.Lib.Strings
namespace Go.Proofs.YtmloaijagkebpaaDoor.Px
open Go.RowKit Go.Proofs.YtmloaijagkebpaaDoorW.PrintWords Go.Proofs.YtmloaijagkebpaaDoorW.PrintLast Go.Proofs.YtmloaijagkebpaaDoorW.PrintMore
attribute [local go_sem] max2_int min2_int max_two min_two max_three min_three max_four min_four
set_option linter.unusedVariables false
set_option linter.unusedSimpArgs false
mutual
def understudyref05_Encode.l0:Nat→List Int→Int→List (S60)→Int→Int→List (S46)→List (S49)→Option (List Int × Int)
 | 0,_,_,_,_,_,_,_ => none
 | k + 1,x5,x8,x373000,x373001,x373002,x373003,x373004 => if x8 < (x373003.length:Int) then (if 0≤x8 then ((understudyref05_put.f k x5 (([(rd_T46 x373003 x8).f0,(rd_T46 x373003 x8).f1,(rd_T46 x373003 x8).f2,0]:List Int))).bind fun t395 => (understudyref05_Encode.l0 k t395 (wrap64 (x8 + 1)) x373000 x373001 x373002 x373003 x373004)) else (none)) else ((understudyref05_put.f k x5 (([(x373004.length:Int)]:List Int))).bind fun t401 => (understudyref05_Encode.l1 k t401 0 x373000 x373001 x373002 x373003 x373004))
def understudyref05_Encode.l1:Nat→List Int→Int→List (S60)→Int→Int→List (S46)→List (S49)→Option (List Int × Int)
 | 0,_,_,_,_,_,_,_ => none
 | k + 1,x5,x10,x373000,x373001,x373002,x373003,x373004 => if x10 < (x373004.length:Int) then (if 0≤x10 then ((understudyref05_code.f k x373000 ((rd_T49 x373004 x10).f0) ((rd_T49 x373004 x10).f1) ((rd_T49 x373004 x10).f2) ((rd_T49 x373004 x10).f3) ((rd_T49 x373004 x10).f4) ((rd_T49 x373004 x10).f5) ((rd_T49 x373004 x10).f6) ((rd_T49 x373004 x10).f7)).bind fun t412 => ((understudyref05_text.f k x373000 (⟨#[67,111,100,101]⟩:ByteArray)).bind fun t415 => ((understudyref05_put.f k x5 (([(rd_T49 x373004 x10).f0,(rd_T49 x373004 x10).f1,(rd_T49 x373004 x10).f2,1,t415]:List Int))).bind fun t419 => ((understudyref05_four.f t419 (t412.length:Int)).bind fun t422 => (if t422.length + t412.length < 140737488355328 then (understudyref05_Encode.l1 k (t422++t412) (wrap64 (x10 + 1)) x373000 x373001 x373002 x373003 x373004) else (none)))))) else (none)) else ((understudyref05_put.f k x5 (([0]:List Int))).bind fun t407 => (some (t407,0)))
end
def understudyref05_Encode.f (k:Nat) (l0_0:List (S60)) (a0_1:Int) (a0_2:Int) (l0_3:List (S46)) (l0_4:List (S49)):Option (List Int × Int):=(understudyref05_Check.f k l0_0 a0_1 a0_2 l0_3 l0_4).bind fun t373 => (if t373=0 then ((some (([202,254,186,190,0,0,0,61]:List Int):List Int)).bind fun y374 => ((understudyref04_Encode.f k l0_0).bind fun bt377 => (if y374.length + bt377.1.length < 140737488355328 then ((understudyref05_put.f k (y374++bt377.1) (([0,a0_1,a0_2,0,(l0_3.length:Int)]:List Int))).bind fun t387 => (understudyref05_Encode.l0 k t387 0 l0_0 a0_1 a0_2 l0_3 l0_4)) else (none)))) else (some (([]:List Int),t373)))
theorem understudyref05_Encode.mono_l:∀ k,(∀ y0 y1 y2 y3 y4 y5 y6,LeO (understudyref05_Encode.l0 k y0 y1 y2 y3 y4 y5 y6) (understudyref05_Encode.l0 (k + 1) y0 y1 y2 y3 y4 y5 y6))∧(∀ y0 y1 y2 y3 y4 y5 y6,LeO (understudyref05_Encode.l1 k y0 y1 y2 y3 y4 y5 y6) (understudyref05_Encode.l1 (k + 1) y0 y1 y2 y3 y4 y5 y6))
 | 0 => ⟨fun _ _ _ _ _ _ _ r h => by simp [understudyref05_Encode.l0] at h,fun _ _ _ _ _ _ _ r h => by simp [understudyref05_Encode.l1] at h⟩
 | k + 1 => by
  obtain ⟨ih0,ih1⟩:=understudyref05_Encode.mono_l k
  refine ⟨?_,?_⟩
  ·intro y0 y1 y2 y3 y4 y5 y6
   unfold understudyref05_Encode.l0
   repeat' first
   | (with_reducible exact ih0 _ _ _ _ _ _ _)
   | (with_reducible exact ih1 _ _ _ _ _ _ _)
   | (with_reducible exact understudyref04_Encode.mono _ _)
   | (with_reducible exact understudyref05_Check.mono _ _ _ _ _ _)
   | (with_reducible exact understudyref05_code.mono _ _ _ _ _ _ _ _ _ _)
   | (with_reducible exact understudyref05_put.mono _ _ _)
   | (with_reducible exact understudyref05_text.mono _ _ _)
   | (with_reducible exact LeO.refl _)
   | (with_reducible exact LeO.none _)
   | (with_reducible refine LeO.ite ?_ ?_)
   | (with_reducible refine LeO.bind ?_ (fun _ => ?_))
   | exact ih0 _ _ _ _ _ _ _
   | exact ih1 _ _ _ _ _ _ _
   | exact understudyref04_Encode.mono _ _
   | exact understudyref05_Check.mono _ _ _ _ _ _
   | exact understudyref05_code.mono _ _ _ _ _ _ _ _ _ _
   | exact understudyref05_put.mono _ _ _
   | exact understudyref05_text.mono _ _ _
   | exact LeO.none _
   | refine LeO.ite ?_ ?_
   | refine LeO.bind ?_ (fun _ => ?_)
  ·intro y0 y1 y2 y3 y4 y5 y6
   unfold understudyref05_Encode.l1
   repeat' first
   | (with_reducible exact ih0 _ _ _ _ _ _ _)
   | (with_reducible exact ih1 _ _ _ _ _ _ _)
   | (with_reducible exact understudyref04_Encode.mono _ _)
   | (with_reducible exact understudyref05_Check.mono _ _ _ _ _ _)
   | (with_reducible exact understudyref05_code.mono _ _ _ _ _ _ _ _ _ _)
   | (with_reducible exact understudyref05_put.mono _ _ _)
   | (with_reducible exact understudyref05_text.mono _ _ _)
   | (with_reducible exact LeO.refl _)
   | (with_reducible exact LeO.none _)
   | (with_reducible refine LeO.ite ?_ ?_)
   | (with_reducible refine LeO.bind ?_ (fun _ => ?_))
   | exact ih0 _ _ _ _ _ _ _
   | exact ih1 _ _ _ _ _ _ _
   | exact understudyref04_Encode.mono _ _
   | exact understudyref05_Check.mono _ _ _ _ _ _
   | exact understudyref05_code.mono _ _ _ _ _ _ _ _ _ _
   | exact understudyref05_put.mono _ _ _
   | exact understudyref05_text.mono _ _ _
   | exact LeO.none _
   | refine LeO.ite ?_ ?_
   | refine LeO.bind ?_ (fun _ => ?_)
theorem understudyref05_Encode.mono:∀ a0 a1 a2 a3 a4 k,LeO (understudyref05_Encode.f k a0 a1 a2 a3 a4) (understudyref05_Encode.f (k + 1) a0 a1 a2 a3 a4):=by
 intro a0 a1 a2 a3 a4 k
 obtain ⟨ih0,ih1⟩:=understudyref05_Encode.mono_l k
 unfold understudyref05_Encode.f
 repeat' first
   | (with_reducible exact ih0 _ _ _ _ _ _ _)
   | (with_reducible exact ih1 _ _ _ _ _ _ _)
   | (with_reducible exact understudyref04_Encode.mono _ _)
   | (with_reducible exact understudyref05_Check.mono _ _ _ _ _ _)
   | (with_reducible exact understudyref05_code.mono _ _ _ _ _ _ _ _ _ _)
   | (with_reducible exact understudyref05_put.mono _ _ _)
   | (with_reducible exact understudyref05_text.mono _ _ _)
   | (with_reducible exact LeO.refl _)
   | (with_reducible exact LeO.none _)
   | (with_reducible refine LeO.ite ?_ ?_)
   | (with_reducible refine LeO.bind ?_ (fun _ => ?_))
   | exact ih0 _ _ _ _ _ _ _
   | exact ih1 _ _ _ _ _ _ _
   | exact understudyref04_Encode.mono _ _
   | exact understudyref05_Check.mono _ _ _ _ _ _
   | exact understudyref05_code.mono _ _ _ _ _ _ _ _ _ _
   | exact understudyref05_put.mono _ _ _
   | exact understudyref05_text.mono _ _ _
   | exact LeO.none _
   | refine LeO.ite ?_ ?_
   | refine LeO.bind ?_ (fun _ => ?_)
def understudyref05_Encode.T19:Bool × List (List Nat × List Nat):=(true,[([],[]),([],[]),([1],[1]),([],[]),([3],[3]),([],[]),([5],[5]),([],[]),([7],[7]),([8],[8]),([2,4,6,9],[2,4,6,9]),([0,10,9],[0,10]),([11,11,0,1,2,3,4,5,6,7,8,9,10,11],[0,11])])
def understudyref05_Encode.B19:List Nat:=[0,0,2,0,8,0,32,0,128,384,1022,2047,4095]
theorem understudyref05_Encode.tab19:rtab .any (opsOf Tryd.f5 19)=understudyref05_Encode.T19:=by kernel_rfl
theorem understudyref05_Encode.bits19:waitsOk understudyref05_Encode.T19.2 understudyref05_Encode.B19=true:=by kernel_rfl
set_option maxHeartbeats 80000000 in
set_option maxRecDepth 100000 in
theorem understudyref05_Encode.calls (k:Nat) (A0_0:Option Addr) (c0_0:Nat) (l0_0:List (S60)) (a0_1:Int) (a0_2:Int) (A0_3:Option Addr) (c0_3:Nat) (l0_3:List (S46)) (A0_4:Option Addr) (c0_4:Nat) (l0_4:List (S49)) (r1:List Int) (r2:Int) (w:World) (hr0_0:Kd.C k60 w A0_0 l0_0.length l0_0) (hc0_0:l0_0.length≤c0_0) (hr0_3:Kd.C k46 w A0_3 l0_3.length l0_3) (hc0_3:l0_3.length≤c0_3) (hr0_4:Kd.C k49 w A0_4 l0_4.length l0_4) (hc0_4:l0_4.length≤c0_4) (h:understudyref05_Encode.f k l0_0 a0_1 a0_2 l0_3 l0_4=some (r1,r2)) :
  Calls Tryd.prog 5 #[.agg #[.slice A0_0 l0_0.length c0_0,.int .i64 a0_1,.int .i64 a0_2,.slice A0_3 l0_3.length c0_3,.slice A0_4 l0_4.length c0_4]] w fun e w' => ∃ v0_:Value,e=.returned (.tuple #[v0_,.int .i64 r2])∧Kd.R (Kd.int .u8) 5 w' w.heap.size (fun _ => True) v0_ r1∧Below w.heap.size w w':=by
 have hu26:=Tryd.underlying26
 have hu46:=Tryd.underlying46
 have hu49:=Tryd.underlying49
 have HR0_0:=Aside0.mk hr0_0
 have HC0_0:=Aside0.mk hc0_0
 clear hr0_0 hc0_0
 have HR0_3:=Aside0.mk hr0_3
 have HC0_3:=Aside0.mk hc0_3
 clear hr0_3 hc0_3
 have HR0_4:=Aside0.mk hr0_4
 have HC0_4:=Aside0.mk hc0_4
 clear hr0_4 hc0_4
 have HB:=Aside0.mk (Below.refl w.heap.size w)
 have H:((understudyref05_Check.f k l0_0 a0_1 a0_2 l0_3 l0_4).bind fun t373 => (if t373=0 then ((some (([202,254,186,190,0,0,0,61]:List Int):List Int)).bind fun y374 => ((understudyref04_Encode.f k l0_0).bind fun bt377 => (if y374.length + bt377.1.length < 140737488355328 then ((understudyref05_put.f k (y374++bt377.1) (([0,a0_1,a0_2,0,(l0_3.length:Int)]:List Int))).bind fun t387 => (understudyref05_Encode.l0 k t387 0 l0_0 a0_1 a0_2 l0_3 l0_4)) else (none)))) else (some (([]:List Int),t373))))=some (r1,r2):=h
 clear h
 replace H:=Option.bind_eq_some_iff.mp H
 obtain ⟨t373,A20,H⟩:=H
 try dsimp only at H
 have A2:=Aside0.mk A20
 clear A20
 by_cases c3:t373=0
 ·rw [if_pos c3] at H
  have c3b0:(t373==0)=true:=beq_iff_eq.mpr c3
  have c3b1:(t373 != 0)=false:=bne_eq_false_iff_eq.mpr c3
  clear c3
  obtain ⟨y374,hy374⟩:∃ y_:List Int,y_=(([202,254,186,190,0,0,0,61]:List Int)):=⟨_,rfl⟩
  replace H:((understudyref04_Encode.f k l0_0).bind fun bt377 => (if y374.length + bt377.1.length < 140737488355328 then ((understudyref05_put.f k (y374++bt377.1) (([0,a0_1,a0_2,0,(l0_3.length:Int)]:List Int))).bind fun t387 => (understudyref05_Encode.l0 k t387 0 l0_0 a0_1 a0_2 l0_3 l0_4)) else (none)))=some (r1,r2):=by first|(rw [hy374];with_reducible exact H)|(have H2_:=(Option.bind_some _ _).symm.trans H;rw [hy374];with_reducible exact H2_)|(have H2_:=(Option.bind_some _ _).symm.trans H;with_reducible exact H2_)|with_reducible exact H|(rw [hy374];exact H)|exact H
  have Ny374:=Aside0.mk hy374
  clear hy374
  replace H:=Option.bind_eq_some_iff.mp H
  obtain ⟨⟨t377,t378⟩,A40,H⟩:=H
  try dsimp only at H
  have A4:=Aside0.mk A40
  clear A40
  by_cases c5:y374.length + t377.length < 140737488355328
  ·rw [if_pos c5] at H
   have LMc5:=Aside0.mk c5
   clear c5
   obtain ⟨y381,hy381⟩:∃ y_:List Int,y_=(y374++t377):=⟨_,rfl⟩
   replace H:((understudyref05_put.f k y381 (([0,a0_1,a0_2,0,(l0_3.length:Int)]:List Int))).bind fun t387 => (understudyref05_Encode.l0 k t387 0 l0_0 a0_1 a0_2 l0_3 l0_4))=some (r1,r2):=by first|(rw [hy381];with_reducible exact H)|(have H2_:=(Option.bind_some _ _).symm.trans H;rw [hy381];with_reducible exact H2_)|(have H2_:=(Option.bind_some _ _).symm.trans H;with_reducible exact H2_)|with_reducible exact H|(rw [hy381];exact H)|exact H
   have Ny381:=Aside0.mk hy381
   clear hy381
   obtain ⟨y384,hy384⟩:∃ y_:List Int,y_=(([0,a0_1,a0_2,0,(l0_3.length:Int)]:List Int)):=⟨_,rfl⟩
   replace H:((understudyref05_put.f k y381 y384).bind fun t387 => (understudyref05_Encode.l0 k t387 0 l0_0 a0_1 a0_2 l0_3 l0_4))=some (r1,r2):=by first|(rw [hy384];with_reducible exact H)|(have H2_:=(Option.bind_some _ _).symm.trans H;rw [hy384];with_reducible exact H2_)|(have H2_:=(Option.bind_some _ _).symm.trans H;with_reducible exact H2_)|with_reducible exact H|(rw [hy384];exact H)|exact H
   have Ny384:=Aside0.mk hy384
   clear hy384
   replace H:=Option.bind_eq_some_iff.mp H
   obtain ⟨t387,A60,H⟩:=H
   try dsimp only at H
   have A6:=Aside0.mk A60
   clear A60
   have H':=Aside0.mk H
   clear H
   go_enter Tryd.func5,Tryd.ntmps5
   go_wp2_with (first|((with_reducible refine gate_dst (N:=1) rfl ?_);refine box_event ?hg (N:=1) ?hd (cs:=#[.slice A0_0 l0_0.length c0_0,.int .i64 a0_1,.int .i64 a0_2,.slice A0_3 l0_3.length c0_3,.slice A0_4 l0_4.length c0_4]) (t:=26) ?hr ?_;(case hd => rfl);(case hg => rfl);(case hr => first|(go_simp;done)|(go_simp;rfl));intro gb372 hg w7 hbox hb;have n0_:=Aside0.mk (below_step bl_ hb);have n1_:=Aside0.mk (hbox);have n2_:=Aside0.mk ((by rw [hg];exact (below_size bl_):w.heap.size≤gb372));have n3_:=Aside0.mk ((by rw [hg];exact (below_size bl_):w.heap.size≤gb372));clear HB;have HB:=n0_;have BK372:=n1_;have GW372:=n2_;have GE372:=n3_;clear n0_ n1_ n2_ n3_;clear hb hbox hg;obtain ⟨hcz8_0,hcz8_1,hcz8_2,hcz8_3,hcz8_4⟩:=blc5_ BK372.out;have hfz8_0:=blk_frozen BK372.out 0;have hfz8_1:=blk_frozen BK372.out 1;have hfz8_2:=blk_frozen BK372.out 2;have hfz8_3:=blk_frozen BK372.out 3;have hfz8_4:=blk_frozen BK372.out 4)|(refine callA_ (f:=17) (some 14) Tryd.func17 #[.agg #[.slice A0_0 l0_0.length c0_0,.int .i64 a0_1,.int .i64 a0_2,.slice A0_3 l0_3.length c0_3,.slice A0_4 l0_4.length c0_4]] ?_;(with_reducible refine (understudyref05_Check.calls k _ _ l0_0 a0_1 a0_2 _ _ l0_3 _ _ l0_4 t373 _ ?side1 ?side2 ?side3 ?side4 ?side5 ?side6 A2.out).mono ?_);(case side1 => exact kc_ (Kd.C_below HR0_0.out HB.out));(case side2 => exact HC0_0.out);(case side3 => exact kc_ (Kd.C_below HR0_3.out HB.out));(case side4 => exact HC0_3.out);(case side5 => exact kc_ (Kd.C_below HR0_4.out HB.out));(case side6 => exact HC0_4.out);rintro e w9 ⟨rfl,hb⟩;refine ⟨_,rfl,?_⟩;have n0_:=Aside0.mk (blk_below (g:=gb372) (o:=.cells #[.slice A0_0 l0_0.length c0_0,.int .i64 a0_1,.int .i64 a0_2,.slice A0_3 l0_3.length c0_3,.slice A0_4 l0_4.length c0_4] 26 (0,0)) bk_ hb);have n1_:=Aside0.mk (below_step bl_ hb);clear BK372;clear HB;have BK372:=n0_;have HB:=n1_;clear n0_ n1_;(try clear hb);(try clear hb2);(try clear hk);(try clear hi))|((with_reducible refine gate_dst (N:=18) rfl ?_);refine Kd.R_lit (Kd.int .u8) _ 5 ?hg (N:=18) ?hd (xs:=([202,254,186,190,0,0,0,61]:List Int)) (inner:=[.int .u8 202,.int .u8 254,.int .u8 186,.int .u8 190,.int .u8 0,.int .u8 0,.int .u8 0,.int .u8 61]) (ok:=fun _ => True) (okp:=fun _ => True) ?hr ?hp (fun _ hk => hk) trivial (Below.refl _ _) (Nat.le_refl _) (by simp) ?_;(case hd => rfl);(case hg => rfl);(case hr => first|(go_simp;done)|(go_simp;rfl));(case hp => exact (Reps.one (show Kd.M (Kd.int .u8) _ _ _ 202 [.int .u8 202] from rfl) (Reps.one (show Kd.M (Kd.int .u8) _ _ _ 254 [.int .u8 254] from rfl) (Reps.one (show Kd.M (Kd.int .u8) _ _ _ 186 [.int .u8 186] from rfl) (Reps.one (show Kd.M (Kd.int .u8) _ _ _ 190 [.int .u8 190] from rfl) (Reps.one (show Kd.M (Kd.int .u8) _ _ _ 0 [.int .u8 0] from rfl) (Reps.one (show Kd.M (Kd.int .u8) _ _ _ 0 [.int .u8 0] from rfl) (Reps.one (show Kd.M (Kd.int .u8) _ _ _ 0 [.int .u8 0] from rfl) (Reps.one (show Kd.M (Kd.int .u8) _ _ _ 61 [.int .u8 61] from rfl) (Reps.none _ _))))))))));intro v375 w10 ho11 hb hg_ hnew_;clear hg_ hnew_;(first|rw [← Ny374.out] at ho11|(simp only [Int.reduceToNat] at ho11;rw [← Ny374.out] at ho11));have n0_:=Aside0.mk (Kd.R_lower ho11 (below_size bl_));have n1_:=Aside0.mk (blk_below (g:=gb372) (o:=.cells #[.slice A0_0 l0_0.length c0_0,.int .i64 a0_1,.int .i64 a0_2,.slice A0_3 l0_3.length c0_3,.slice A0_4 l0_4.length c0_4] 26 (0,0)) bk_ hb);have n2_:=Aside0.mk (below_step bl_ hb);clear BK372;clear HB;have HO376:=n0_;have BK372:=n1_;have HB:=n2_;clear n0_ n1_ n2_;clear hb ho11;obtain ⟨hcz12_0,hcz12_1,hcz12_2,hcz12_3,hcz12_4⟩:=blc5_ BK372.out;have hfz12_0:=blk_frozen BK372.out 0;have hfz12_1:=blk_frozen BK372.out 1;have hfz12_2:=blk_frozen BK372.out 2;have hfz12_3:=blk_frozen BK372.out 3;have hfz12_4:=blk_frozen BK372.out 4)|(refine callA_ (f:=18) (some 22) Tryd.func18 #[.slice A0_0 l0_0.length c0_0] ?_;(with_reducible refine (understudyref04_Encode.calls k _ _ l0_0 t377 t378 _ ?side1 ?side2 A4.out).mono ?_);(case side1 => exact kc_ (Kd.C_below HR0_0.out HB.out));(case side2 => exact HC0_0.out);rintro e w13 ⟨v379,rfl,ho0,hb⟩;refine ⟨_,rfl,?_⟩;have n0_:=Aside0.mk (Kd.R_elder' (kr_ HO376.out) (Kd.R_base ho0) hb);have n1_:=Aside0.mk (Kd.R_lower (Kd.R_new' ho0 (Kd.R_lt (kr_ HO376.out))) (below_size bl_));have n2_:=Aside0.mk (blk_below (g:=gb372) (o:=.cells #[.slice A0_0 l0_0.length c0_0,.int .i64 a0_1,.int .i64 a0_2,.slice A0_3 l0_3.length c0_3,.slice A0_4 l0_4.length c0_4] 26 (0,0)) bk_ hb);have n3_:=Aside0.mk (below_step bl_ hb);clear HO376;clear BK372;clear HB;have HO376:=n0_;have HO380:=n1_;have BK372:=n2_;have HB:=n3_;clear n0_ n1_ n2_ n3_;(try clear hb);(try clear hb2);(try clear hk);(try clear hi);(try clear ho0);obtain ⟨Ao15,co15,eo15⟩:=Kd.R_slice HO380.out;subst eo15)|((with_reducible refine gate_builtin (b:=.append) (xs:=#[.tmp 25,.tmp 26]) rfl ?_);at_builtin;refine Kd.R_append_rows (Kd.int .u8) (w0:=w) w.heap.size rfl (.tmp 25) (.tmp 26) 27 5 (.int .u8 0) 1 rfl Tryd.underlying27 info5 rfl (by decide) (by omega) v375 y374 t377 _ _ _ (fun k_ => some k_ ≠ (.slice Ao15 t377.length co15:Value).ownBlock) (fun _ => False) rfl rfl ?aO ?aR (fun _ _ h => h) (fun _ h => h.elim) ?aF ?aB ?aS ?aL ?_;(case aR => exact kc_ (Kd.R_reads' HO380.out).2.2);(case aB => exact bl_);(case aF => exact (fun k_ hk => Kd.fresh' (Kd.R_lt (kr_ HO380.out)) k_ hk));(case aO => exact (by (with_reducible repeat (first|apply Kd.R_alloc|apply Kd.R_drewN|apply Kd.R_drew));exact Kd.R_mono HO376.out (fun _ hk => hk.2)));(case aS => exact (below_size bl_));(case aL => have:=LMc5.out;omega);intro v382 w14 ho hb hg hat;rw [← Ny381.out] at ho;have n0_:=Aside0.mk (blk_grown (g:=gb372) (o:=.cells #[.slice A0_0 l0_0.length c0_0,.int .i64 a0_1,.int .i64 a0_2,.slice A0_3 l0_3.length c0_3,.slice A0_4 l0_4.length c0_4] 26 (0,0)) bk_ hg (Kd.R_ne HO376.out BK372.out (by decide)));have n1_:=Aside0.mk (Kd.R_after (ok:=(fun _ => True)) (kr_ HO380.out) hg hat);have n2_:=Aside0.mk (hb);have n3_:=Aside0.mk (ho);clear BK372;clear HO380;clear HB;clear HO376;have BK372:=n0_;have HO380:=n1_;have HB:=n2_;have HO383:=n3_;clear n0_ n1_ n2_ n3_;clear ho hb hg hat;obtain ⟨hcz16_0,hcz16_1,hcz16_2,hcz16_3,hcz16_4⟩:=blc5_ BK372.out;have hfz16_0:=blk_frozen BK372.out 0;have hfz16_1:=blk_frozen BK372.out 1;have hfz16_2:=blk_frozen BK372.out 2;have hfz16_3:=blk_frozen BK372.out 3;have hfz16_4:=blk_frozen BK372.out 4)|((with_reducible refine gate_dst (N:=36) rfl ?_);refine Kd.R_lit (Kd.int .i64) _ 3 ?hg (N:=36) ?hd (xs:=([0,a0_1,a0_2,0,(l0_3.length:Int)]:List Int)) (inner:=[.int .i64 0,.int .i64 a0_1,.int .i64 a0_2,.int .i64 0,.int .i64 (l0_3.length:Int)]) (ok:=fun _ => True) (okp:=fun _ => True) ?hr ?hp (fun _ hk => hk) trivial (Below.refl _ _) (Nat.le_refl _) (by simp) ?_;(case hd => rfl);(case hg => rfl);(case hr => first|(go_simp;done)|(go_simp;rfl));(case hp => exact (Reps.one (show Kd.M (Kd.int .i64) _ _ _ 0 [.int .i64 0] from rfl) (Reps.one (show Kd.M (Kd.int .i64) _ _ _ a0_1 [.int .i64 a0_1] from rfl) (Reps.one (show Kd.M (Kd.int .i64) _ _ _ a0_2 [.int .i64 a0_2] from rfl) (Reps.one (show Kd.M (Kd.int .i64) _ _ _ 0 [.int .i64 0] from rfl) (Reps.one (show Kd.M (Kd.int .i64) _ _ _ (l0_3.length:Int) [.int .i64 (l0_3.length:Int)] from rfl) (Reps.none _ _)))))));intro v385 w17 ho18 hb hg_ hnew_;clear hg_ hnew_;(first|rw [← Ny384.out] at ho18|(simp only [Int.reduceToNat] at ho18;rw [← Ny384.out] at ho18));have n0_:=Aside0.mk (Kd.R_below (kr_ HO380.out) hb);have n1_:=Aside0.mk (Kd.R_below (kr_ HO383.out) hb);have n2_:=Aside0.mk (Kd.R_lower ho18 (below_size bl_));have n3_:=Aside0.mk (blk_below (g:=gb372) (o:=.cells #[.slice A0_0 l0_0.length c0_0,.int .i64 a0_1,.int .i64 a0_2,.slice A0_3 l0_3.length c0_3,.slice A0_4 l0_4.length c0_4] 26 (0,0)) bk_ hb);have n4_:=Aside0.mk (below_step bl_ hb);clear HO380;clear HO383;clear BK372;clear HB;have HO380:=n0_;have HO383:=n1_;have HO386:=n2_;have BK372:=n3_;have HB:=n4_;clear n0_ n1_ n2_ n3_ n4_;clear hb ho18;obtain ⟨Ao19,co19,eo19⟩:=Kd.R_slice HO383.out;subst eo19;obtain ⟨Ao20,co20,eo20⟩:=Kd.R_slice HO386.out;subst eo20)|(refine callA_ (f:=19) (some 37) Tryd.func19 #[.slice Ao19 y381.length co19,.slice Ao20 y384.length co20] ?_;(with_reducible refine (understudyref05_put.calls k (fun k_ => some k_=(.slice Ao19 y381.length co19:Value).ownBlock) (.slice Ao19 y381.length co19) y381 _ _ y384 t387 w _ ?side1 ?side2 ?side3 ?side4 A6.out).mono ?_);(case side1 => repeat (first|(with_reducible first|exact HB.out|apply below_alloc|apply pw_below_drewN|apply below_drew1|refine below_set ?_ GE372.out)|exact HB.out));(case side2 => exact Kd.R_tight rfl HO383.out);(case side3 => exact Kd.C_kept_own ((Kd.R_apart' HO386.out (Kd.R_typed HO383.out) (by decide))) (fun k_ hk_ hs_ => (hk_.2) hs_));(case side4 => exact (Kd.R_reads' HO386.out).2.1);rintro e w21 ⟨v388,rfl,ho0,hb,hkp⟩;refine ⟨_,rfl,?_⟩;have n0_:=Aside0.mk (blk_kept bk_ hkp (fun hs_ => (fun e_ => (Kd.R_ne HO383.out BK372.out (by decide)) e_) hs_));have n1_:=Aside0.mk (Kd.R_mono (ok':=fun k_ => some k_ ≠ (v388:Value).ownBlock) (Kd.R_keptB (HO380.out) hkp (fun k_ hk_ hs_ => (hk_.2) hs_)) (fun k_ hk_ => fun e_ => Or.elim (ho0.1 k_ e_.symm) (fun hs_ => hk_.2.1 hs_) (fun hn_ => Nat.not_le.2 hk_.2.2 hn_)));have n2_:=Aside0.mk (Kd.R_mono (ok':=fun k_ => True) (Kd.R_keptB ((Kd.R_apart' HO386.out (Kd.R_typed HO383.out) (by decide))) hkp (fun k_ hk_ hs_ => (hk_.2) hs_)) (fun k_ hk_ => trivial));have n3_:=Aside0.mk (Kd.R_mono (ok':=fun k_ => some k_ ≠ (.slice Ao15 t377.length co15:Value).ownBlock) ho0 (fun k_ hk_ => Or.elim hk_ (fun hs_ => fun e_ => (((HO380.out).1 k_ e_.symm).2) hs_) (fun hn_ => (Kd.fresh' (Kd.R_lt (kr_ HO380.out)) k_ hn_))));have n4_:=Aside0.mk (hb);clear BK372;clear HO380;clear HO386;clear HB;clear HO383;have BK372:=n0_;have HO380:=n1_;have HO386:=n2_;have HO389:=n3_;have HB:=n4_;clear n0_ n1_ n2_ n3_ n4_;(try clear hb);(try clear hkp);(try clear ho0)))
   go_loopg [5,8] k (fun kq v5 v8 w' => ∃ (x5_1:List Int) (x8_1:Int),v8=.int .i64 x8_1∧Aside0 (understudyref05_Encode.l0 kq x5_1 x8_1 l0_0 a0_1 a0_2 l0_3 l0_4=some (r1,r2))∧Aside0 (kq≤k)∧Aside0 (Kd.R (Kd.int .u8) 5 w' w.heap.size (fun _ => True) v5 x5_1)∧Aside0 (w'.heap[gb372]?=some (.cells #[(.slice A0_0 l0_0.length c0_0),.int .i64 a0_1,.int .i64 a0_2,(.slice A0_3 l0_3.length c0_3),(.slice A0_4 l0_4.length c0_4)] 26 (0,0)))∧Aside0 (Below w.heap.size w w'))
   case atStart => exact ⟨(t387),(0),r3_,H',⟨Nat.le_refl _⟩,⟨by (with_reducible repeat (first|apply Kd.R_alloc|apply Kd.R_drewN|apply Kd.R_drew));exact Kd.R_mono HO389.out (fun _ hk => trivial)⟩,⟨bk_⟩,⟨bl_⟩⟩
   case round =>
    clear H'
    try clear c3;try clear c3b0;try clear c3b1;try clear c5;try clear hcz12_0;try clear hcz12_1;try clear hcz12_2;try clear hcz12_3;try clear hcz12_4;try clear hcz16_0;try clear hcz16_1;try clear hcz16_2;try clear hcz16_3;try clear hcz16_4;try clear hcz8_0;try clear hcz8_1;try clear hcz8_2;try clear hcz8_3;try clear hcz8_4;try clear hfz12_0;try clear hfz12_1;try clear hfz12_2;try clear hfz12_3;try clear hfz12_4;try clear hfz16_0;try clear hfz16_1;try clear hfz16_2;try clear hfz16_3;try clear hfz16_4;try clear hfz8_0;try clear hfz8_1;try clear hfz8_2;try clear hfz8_3;try clear hfz8_4
    obtain ⟨x5_1,x8_1,rfl,HA,HK1,HO_5,BK372,HB⟩:=hrel
    cases gk with
    | zero => exact absurd HA.out (by simp [understudyref05_Encode.l0])
    | succ k1 =>
     have H:=HA.out
     clear HA
     simp only [understudyref05_Encode.l0] at H
     by_cases c22:x8_1 < (l0_3.length:Int)
     ·rw [if_pos c22] at H
      have c22b0:decide (x8_1 < (l0_3.length:Int))=true:=decide_eq_true c22
      clear c22
      by_cases c23:0≤x8_1
      ·rw [if_pos c23] at H
       have c23b0:decide (0≤x8_1)=true:=decide_eq_true c23
       clear c23
       obtain ⟨y392,hy392⟩:∃ y_:List Int,y_=(([(rd_T46 l0_3 x8_1).f0,(rd_T46 l0_3 x8_1).f1,(rd_T46 l0_3 x8_1).f2,0]:List Int)):=⟨_,rfl⟩
       replace H:((understudyref05_put.f k1 x5_1 y392).bind fun t395 => (understudyref05_Encode.l0 k1 t395 (wrap64 (x8_1 + 1)) l0_0 a0_1 a0_2 l0_3 l0_4))=some (r1,r2):=by first|(rw [hy392];with_reducible exact H)|(have H2_:=(Option.bind_some _ _).symm.trans H;rw [hy392];with_reducible exact H2_)|(have H2_:=(Option.bind_some _ _).symm.trans H;with_reducible exact H2_)|with_reducible exact H|(rw [hy392];exact H)|exact H
       have Ny392:=Aside0.mk hy392
       clear hy392
       replace H:=Option.bind_eq_some_iff.mp H
       obtain ⟨t395,A240,H⟩:=H
       try dsimp only at H
       have A24:=Aside0.mk A240
       clear A240
       have H':=Aside0.mk H
       clear H
       obtain ⟨hcz25_0,hcz25_1,hcz25_2,hcz25_3,hcz25_4,hfz25_0,hfz25_1,hfz25_2,hfz25_3,hfz25_4⟩:=blk5_ BK372.out
       have p390:0≤(x8_1:Int):=od_
       have q390:x8_1 < (l0_3.length:Int):=od_
       obtain ⟨ad390,e390,hx390_0,hx390_1,hx390_2⟩:=at_T46 HR0_3.out x8_1 p390 q390
       cases e390
       replace hx390_0:=hb_ HB hx390_0
       replace hx390_1:=hb_ HB hx390_1
       replace hx390_2:=hb_ HB hx390_2
       replace p390:=eq_true p390
       replace q390:=eq_true q390
       go_wp2_with (first|((with_reducible refine gate_dst (N:=9) rfl ?_);refine box_event ?hg (N:=9) ?hd (cs:=#[.int .i64 0,.int .i64 0,.int .i64 0]) (t:=46) ?hr ?_;(case hd => rfl);(case hg => rfl);(case hr => first|(go_simp;done)|(go_simp;rfl));intro gb391 hg w26 hbox hb;have n0_:=Aside0.mk (Kd.R_below (kr_ HO_5.out) hb);have n1_:=Aside0.mk (blk_below (g:=gb372) (o:=.cells #[.slice A0_0 l0_0.length c0_0,.int .i64 a0_1,.int .i64 a0_2,.slice (some ad390) l0_3.length c0_3,.slice A0_4 l0_4.length c0_4] 26 (0,0)) bk_ hb);have n2_:=Aside0.mk (below_step bl_ hb);have n3_:=Aside0.mk (hbox);have n4_:=Aside0.mk ((by rw [hg];exact (below_size bl_):w.heap.size≤gb391));have n5_:=Aside0.mk ((by rw [hg];exact (below_size bl_):w.heap.size≤gb391));have n6_:=Aside0.mk ((by rw [hg];exact Nat.ne_of_lt (blk_lt (g:=gb372) (o:=.cells #[.slice A0_0 l0_0.length c0_0,.int .i64 a0_1,.int .i64 a0_2,.slice (some ad390) l0_3.length c0_3,.slice A0_4 l0_4.length c0_4] 26 (0,0)) bk_):gb372 ≠ gb391));have n7_:=Aside0.mk ((by rw [hg];exact Nat.ne_of_gt (blk_lt (g:=gb372) (o:=.cells #[.slice A0_0 l0_0.length c0_0,.int .i64 a0_1,.int .i64 a0_2,.slice (some ad390) l0_3.length c0_3,.slice A0_4 l0_4.length c0_4] 26 (0,0)) bk_):gb391 ≠ gb372));clear HO_5;clear BK372;clear HB;have HO_5:=n0_;have BK372:=n1_;have HB:=n2_;have BK391:=n3_;have GW391:=n4_;have GE391:=n5_;have NB372_391:=n6_;have NB391_372:=n7_;clear n0_ n1_ n2_ n3_ n4_ n5_ n6_ n7_;clear hb hbox hg;have hnb27:=NB391_372.out;have hnc27:=NB372_391.out;obtain ⟨hcz28_0,hcz28_1,hcz28_2⟩:=blc3_ BK391.out;have hfz28_0:=blk_frozen BK391.out 0;have hfz28_1:=blk_frozen BK391.out 1;have hfz28_2:=blk_frozen BK391.out 2)|((with_reducible refine gate_dst (N:=57) rfl ?_);refine Kd.R_lit (Kd.int .i64) _ 3 ?hg (N:=57) ?hd (xs:=([(rd_T46 l0_3 x8_1).f0,(rd_T46 l0_3 x8_1).f1,(rd_T46 l0_3 x8_1).f2,0]:List Int)) (inner:=[.int .i64 ((rd_T46 l0_3 x8_1).f0),.int .i64 ((rd_T46 l0_3 x8_1).f1),.int .i64 ((rd_T46 l0_3 x8_1).f2),.int .i64 0]) (ok:=fun _ => True) (okp:=fun _ => True) ?hr ?hp (fun _ hk => hk) trivial (Below.refl _ _) (Nat.le_refl _) (by simp) ?_;(case hd => rfl);(case hg => rfl);(case hr => first|(go_simp;done)|(go_simp;rfl));(case hp => exact (Reps.one (show Kd.M (Kd.int .i64) _ _ _ ((rd_T46 l0_3 x8_1).f0) [.int .i64 ((rd_T46 l0_3 x8_1).f0)] from rfl) (Reps.one (show Kd.M (Kd.int .i64) _ _ _ ((rd_T46 l0_3 x8_1).f1) [.int .i64 ((rd_T46 l0_3 x8_1).f1)] from rfl) (Reps.one (show Kd.M (Kd.int .i64) _ _ _ ((rd_T46 l0_3 x8_1).f2) [.int .i64 ((rd_T46 l0_3 x8_1).f2)] from rfl) (Reps.one (show Kd.M (Kd.int .i64) _ _ _ 0 [.int .i64 0] from rfl) (Reps.none _ _))))));intro v393 w29 ho30 hb hg_ hnew_;clear hg_ hnew_;(first|rw [← Ny392.out] at ho30|(simp only [Int.reduceToNat] at ho30;rw [← Ny392.out] at ho30));have n0_:=Aside0.mk (Kd.R_below (by (with_reducible repeat (first|apply Kd.R_alloc|apply Kd.R_drewN|apply Kd.R_drew));exact (Kd.R_mono (Kd.R_far (p:=⟨gb391,2,none⟩) (Kd.R_far (p:=⟨gb391,1,none⟩) (Kd.R_far (p:=⟨gb391,0,none⟩) (Kd.R_types HO_5.out BK391.out (by decide)) (fun _ hk => hk.2) (.int .i64 ((rd_T46 l0_3 x8_1).f0))) (fun _ hk => hk.2) (.int .i64 ((rd_T46 l0_3 x8_1).f1))) (fun _ hk => hk.2) (.int .i64 ((rd_T46 l0_3 x8_1).f2))) (fun _ h_ => h_.1))) hb);have n1_:=Aside0.mk (Kd.R_lower ho30 (below_size bl_));have n2_:=Aside0.mk (blk_below (g:=gb372) (o:=.cells #[.slice A0_0 l0_0.length c0_0,.int .i64 a0_1,.int .i64 a0_2,.slice (some ad390) l0_3.length c0_3,.slice A0_4 l0_4.length c0_4] 26 (0,0)) bk_ hb);have n3_:=Aside0.mk (blk_below (g:=gb391) (o:=.cells #[.int .i64 ((rd_T46 l0_3 x8_1).f0),.int .i64 ((rd_T46 l0_3 x8_1).f1),.int .i64 ((rd_T46 l0_3 x8_1).f2)] 46 (0,0)) (st3_ BK391.out) hb);have n4_:=Aside0.mk (below_step bl_ hb);clear HO_5;clear BK372;clear BK391;clear HB;have HO_5:=n0_;have HO394:=n1_;have BK372:=n2_;have BK391:=n3_;have HB:=n4_;clear n0_ n1_ n2_ n3_ n4_;clear hb ho30;obtain ⟨Ao31,co31,eo31⟩:=Kd.R_slice HO_5.out;subst eo31;obtain ⟨Ao32,co32,eo32⟩:=Kd.R_slice HO394.out;subst eo32)|(refine callA_ (f:=19) (some 58) Tryd.func19 #[.slice Ao31 x5_1.length co31,.slice Ao32 y392.length co32] ?_;(with_reducible refine (understudyref05_put.calls k1 (fun k_ => some k_=(.slice Ao31 x5_1.length co31:Value).ownBlock) (.slice Ao31 x5_1.length co31) x5_1 _ _ y392 t395 w _ ?side1 ?side2 ?side3 ?side4 A24.out).mono ?_);(case side1 => repeat (first|(with_reducible first|exact HB.out|apply below_alloc|apply pw_below_drewN|apply below_drew1|refine below_set ?_ GE372.out|refine below_set ?_ GE391.out)|exact HB.out));(case side2 => exact Kd.R_tight rfl HO_5.out);(case side3 => exact Kd.C_kept_own ((Kd.R_apart' HO394.out (Kd.R_typed HO_5.out) (by decide))) (fun k_ hk_ hs_ => (hk_.2) hs_));(case side4 => exact (Kd.R_reads' HO394.out).2.1);rintro e w33 ⟨v396,rfl,ho0,hb,hkp⟩;refine ⟨_,rfl,?_⟩;have n0_:=Aside0.mk (blk_kept bk_ hkp (fun hs_ => (fun e_ => (Kd.R_ne HO_5.out BK372.out (by decide)) e_) hs_));have n1_:=Aside0.mk (blk_kept bk_ hkp (fun hs_ => (fun e_ => (Kd.R_ne HO_5.out BK391.out (by decide)) e_) hs_));have n2_:=Aside0.mk (Kd.R_mono (ok':=fun k_ => True) (Kd.R_keptB ((Kd.R_apart' HO394.out (Kd.R_typed HO_5.out) (by decide))) hkp (fun k_ hk_ hs_ => (hk_.2) hs_)) (fun k_ hk_ => trivial));have n3_:=Aside0.mk (Kd.R_mono (ok':=fun k_ => True) ho0 (fun k_ hk_ => trivial));have n4_:=Aside0.mk (hb);clear BK372;clear BK391;clear HO394;clear HB;clear HO_5;have BK372:=n0_;have BK391:=n1_;have HO394:=n2_;have HO397:=n3_;have HB:=n4_;clear n0_ n1_ n2_ n3_ n4_;(try clear hb);(try clear hkp);(try clear ho0)))
       go_roundg k1
       case measure => have:=HK1.out;omega
       case rel => exact ⟨(t395),(wrap64 (x8_1 + 1)),r3_,H',⟨by have:=HK1.out;omega⟩,⟨kr_ HO397.out⟩,⟨bk_⟩,⟨bl_⟩⟩
      ·rw [if_neg c23] at H
       exact absurd H (by simp)
     ·rw [if_neg c22] at H
      have c22b0:decide (x8_1 < (l0_3.length:Int))=false:=decide_eq_false c22
      clear c22
      obtain ⟨y398,hy398⟩:∃ y_:List Int,y_=(([(l0_4.length:Int)]:List Int)):=⟨_,rfl⟩
      replace H:((understudyref05_put.f k1 x5_1 y398).bind fun t401 => (understudyref05_Encode.l1 k1 t401 0 l0_0 a0_1 a0_2 l0_3 l0_4))=some (r1,r2):=by first|(rw [hy398];with_reducible exact H)|(have H2_:=(Option.bind_some _ _).symm.trans H;rw [hy398];with_reducible exact H2_)|(have H2_:=(Option.bind_some _ _).symm.trans H;with_reducible exact H2_)|with_reducible exact H|(rw [hy398];exact H)|exact H
      have Ny398:=Aside0.mk hy398
      clear hy398
      replace H:=Option.bind_eq_some_iff.mp H
      obtain ⟨t401,A340,H⟩:=H
      try dsimp only at H
      have A34:=Aside0.mk A340
      clear A340
      have H':=Aside0.mk H
      clear H
      obtain ⟨hcz35_0,hcz35_1,hcz35_2,hcz35_3,hcz35_4,hfz35_0,hfz35_1,hfz35_2,hfz35_3,hfz35_4⟩:=blk5_ BK372.out
      go_wp2_with (first|((with_reducible refine gate_dst (N:=63) rfl ?_);refine Kd.R_lit (Kd.int .i64) _ 3 ?hg (N:=63) ?hd (xs:=([(l0_4.length:Int)]:List Int)) (inner:=[.int .i64 (l0_4.length:Int)]) (ok:=fun _ => True) (okp:=fun _ => True) ?hr ?hp (fun _ hk => hk) trivial (Below.refl _ _) (Nat.le_refl _) (by simp) ?_;(case hd => rfl);(case hg => rfl);(case hr => first|(go_simp;done)|(go_simp;rfl));(case hp => exact (Reps.one (show Kd.M (Kd.int .i64) _ _ _ (l0_4.length:Int) [.int .i64 (l0_4.length:Int)] from rfl) (Reps.none _ _)));intro v399 w36 ho37 hb hg_ hnew_;clear hg_ hnew_;(first|rw [← Ny398.out] at ho37|(simp only [Int.reduceToNat] at ho37;rw [← Ny398.out] at ho37));have n0_:=Aside0.mk (Kd.R_below (kr_ HO_5.out) hb);have n1_:=Aside0.mk (Kd.R_lower ho37 (below_size bl_));have n2_:=Aside0.mk (blk_below (g:=gb372) (o:=.cells #[.slice A0_0 l0_0.length c0_0,.int .i64 a0_1,.int .i64 a0_2,.slice A0_3 l0_3.length c0_3,.slice A0_4 l0_4.length c0_4] 26 (0,0)) bk_ hb);have n3_:=Aside0.mk (below_step bl_ hb);clear HO_5;clear BK372;clear HB;have HO_5:=n0_;have HO400:=n1_;have BK372:=n2_;have HB:=n3_;clear n0_ n1_ n2_ n3_;clear hb ho37;obtain ⟨Ao38,co38,eo38⟩:=Kd.R_slice HO_5.out;subst eo38;obtain ⟨Ao39,co39,eo39⟩:=Kd.R_slice HO400.out;subst eo39)|(refine callA_ (f:=19) (some 64) Tryd.func19 #[.slice Ao38 x5_1.length co38,.slice Ao39 y398.length co39] ?_;(with_reducible refine (understudyref05_put.calls k1 (fun k_ => some k_=(.slice Ao38 x5_1.length co38:Value).ownBlock) (.slice Ao38 x5_1.length co38) x5_1 _ _ y398 t401 w _ ?side1 ?side2 ?side3 ?side4 A34.out).mono ?_);(case side1 => repeat (first|(with_reducible first|exact HB.out|apply below_alloc|apply pw_below_drewN|apply below_drew1|refine below_set ?_ GE372.out)|exact HB.out));(case side2 => exact Kd.R_tight rfl HO_5.out);(case side3 => exact Kd.C_kept_own ((Kd.R_apart' HO400.out (Kd.R_typed HO_5.out) (by decide))) (fun k_ hk_ hs_ => (hk_.2) hs_));(case side4 => exact (Kd.R_reads' HO400.out).2.1);rintro e w40 ⟨v402,rfl,ho0,hb,hkp⟩;refine ⟨_,rfl,?_⟩;have n0_:=Aside0.mk (blk_kept bk_ hkp (fun hs_ => (fun e_ => (Kd.R_ne HO_5.out BK372.out (by decide)) e_) hs_));have n1_:=Aside0.mk (Kd.R_mono (ok':=fun k_ => True) (Kd.R_keptB ((Kd.R_apart' HO400.out (Kd.R_typed HO_5.out) (by decide))) hkp (fun k_ hk_ hs_ => (hk_.2) hs_)) (fun k_ hk_ => trivial));have n2_:=Aside0.mk (Kd.R_mono (ok':=fun k_ => True) ho0 (fun k_ hk_ => trivial));have n3_:=Aside0.mk (hb);clear BK372;clear HO400;clear HB;clear HO_5;have BK372:=n0_;have HO400:=n1_;have HO403:=n2_;have HB:=n3_;clear n0_ n1_ n2_ n3_;(try clear hb);(try clear hkp);(try clear ho0)))
      go_loopg [5,10] k1 (fun kq v5 v10 w' => ∃ (x5_2:List Int) (x10_2:Int),v10=.int .i64 x10_2∧Aside0 (understudyref05_Encode.l1 kq x5_2 x10_2 l0_0 a0_1 a0_2 l0_3 l0_4=some (r1,r2))∧Aside0 (kq≤k1)∧Aside0 (Kd.R (Kd.int .u8) 5 w' w.heap.size (fun _ => True) v5 x5_2)∧Aside0 (w'.heap[gb372]?=some (.cells #[(.slice A0_0 l0_0.length c0_0),.int .i64 a0_1,.int .i64 a0_2,(.slice A0_3 l0_3.length c0_3),(.slice A0_4 l0_4.length c0_4)] 26 (0,0)))∧Aside0 (Below w.heap.size w w'))
      case atStart => exact ⟨(t401),(0),r3_,H',⟨Nat.le_refl _⟩,⟨kr_ HO403.out⟩,⟨bk_⟩,⟨bl_⟩⟩
      case round =>
       clear H'
       try clear c22;try clear c22b0;try clear hcz35_0;try clear hcz35_1;try clear hcz35_2;try clear hcz35_3;try clear hcz35_4;try clear hfz35_0;try clear hfz35_1;try clear hfz35_2;try clear hfz35_3;try clear hfz35_4
       obtain ⟨x5_2,x10_2,rfl,HA,HK2,HO_5,BK372,HB⟩:=hrel
       cases gk with
       | zero => exact absurd HA.out (by simp [understudyref05_Encode.l1])
       | succ k2 =>
        have H:=HA.out
        clear HA
        simp only [understudyref05_Encode.l1] at H
        by_cases c41:x10_2 < (l0_4.length:Int)
        ·rw [if_pos c41] at H
         have c41b0:decide (x10_2 < (l0_4.length:Int))=true:=decide_eq_true c41
         clear c41
         by_cases c42:0≤x10_2
         ·rw [if_pos c42] at H
          have c42b0:decide (0≤x10_2)=true:=decide_eq_true c42
          clear c42
          replace H:=Option.bind_eq_some_iff.mp H
          obtain ⟨t412,A430,H⟩:=H
          try dsimp only at H
          have A43:=Aside0.mk A430
          clear A430
          replace H:=Option.bind_eq_some_iff.mp H
          obtain ⟨t415,A440,H⟩:=H
          try dsimp only at H
          have A44:=Aside0.mk A440
          clear A440
          obtain ⟨y416,hy416⟩:∃ y_:List Int,y_=(([(rd_T49 l0_4 x10_2).f0,(rd_T49 l0_4 x10_2).f1,(rd_T49 l0_4 x10_2).f2,1,t415]:List Int)):=⟨_,rfl⟩
          replace H:((understudyref05_put.f k2 x5_2 y416).bind fun t419 => ((understudyref05_four.f t419 (t412.length:Int)).bind fun t422 => (if t422.length + t412.length < 140737488355328 then (understudyref05_Encode.l1 k2 (t422++t412) (wrap64 (x10_2 + 1)) l0_0 a0_1 a0_2 l0_3 l0_4) else (none))))=some (r1,r2):=by first|(rw [hy416];with_reducible exact H)|(have H2_:=(Option.bind_some _ _).symm.trans H;rw [hy416];with_reducible exact H2_)|(have H2_:=(Option.bind_some _ _).symm.trans H;with_reducible exact H2_)|with_reducible exact H|(rw [hy416];exact H)|exact H
          have Ny416:=Aside0.mk hy416
          clear hy416
          replace H:=Option.bind_eq_some_iff.mp H
          obtain ⟨t419,A450,H⟩:=H
          try dsimp only at H
          have A45:=Aside0.mk A450
          clear A450
          replace H:=Option.bind_eq_some_iff.mp H
          obtain ⟨t422,A460,H⟩:=H
          try dsimp only at H
          have A46:=Aside0.mk A460
          clear A460
          by_cases c47:t422.length + t412.length < 140737488355328
          ·rw [if_pos c47] at H
           have LMc47:=Aside0.mk c47
           clear c47
           obtain ⟨y425,hy425⟩:∃ y_:List Int,y_=(t422++t412):=⟨_,rfl⟩
           replace H:(understudyref05_Encode.l1 k2 y425 (wrap64 (x10_2 + 1)) l0_0 a0_1 a0_2 l0_3 l0_4)=some (r1,r2):=by first|(rw [hy425];with_reducible exact H)|(have H2_:=(Option.bind_some _ _).symm.trans H;rw [hy425];with_reducible exact H2_)|(have H2_:=(Option.bind_some _ _).symm.trans H;with_reducible exact H2_)|with_reducible exact H|(rw [hy425];exact H)|exact H
           have Ny425:=Aside0.mk hy425
           clear hy425
           have H':=Aside0.mk H
           clear H
           obtain ⟨hcz48_0,hcz48_1,hcz48_2,hcz48_3,hcz48_4,hfz48_0,hfz48_1,hfz48_2,hfz48_3,hfz48_4⟩:=blk5_ BK372.out
           have p410:0≤(x10_2:Int):=od_
           have q410:x10_2 < (l0_4.length:Int):=od_
           obtain ⟨ad410,A410_5,c410_5,A410_6,c410_6,A410_7,c410_7,e410,hx410_0,hx410_1,hx410_2,hx410_3,hx410_4,hx410_5,hx410_6,hx410_7,hl410_5,hi410_5,hl410_6,hi410_6,hl410_7,hi410_7⟩:=at_T49 HR0_4.out x10_2 p410 q410
           cases e410
           replace hx410_0:=hb_ HB hx410_0
           replace hx410_1:=hb_ HB hx410_1
           replace hx410_2:=hb_ HB hx410_2
           replace hx410_3:=hb_ HB hx410_3
           replace hx410_4:=hb_ HB hx410_4
           replace hx410_5:=hb_ HB hx410_5
           replace hx410_6:=hb_ HB hx410_6
           replace hx410_7:=hb_ HB hx410_7
           have HR410_5:=Aside0.mk hi410_5
           have HC410_5:=Aside0.mk hl410_5
           clear hi410_5 hl410_5
           have HR410_6:=Aside0.mk hi410_6
           have HC410_6:=Aside0.mk hl410_6
           clear hi410_6 hl410_6
           have HR410_7:=Aside0.mk hi410_7
           have HC410_7:=Aside0.mk hl410_7
           clear hi410_7 hl410_7
           replace p410:=eq_true p410
           replace q410:=eq_true q410
           try go_wp2_with (first|((with_reducible refine gate_dst (N:=11) rfl ?_);refine box_event ?hg (N:=11) ?hd (cs:=#[.int .i64 0,.int .i64 0,.int .i64 0,.int .i64 0,.int .i64 0,.slice none 0 0,.slice none 0 0,.slice none 0 0]) (t:=49) ?hr ?_;(case hd => rfl);(case hg => rfl);(case hr => first|(go_simp;done)|(go_simp;rfl));intro gb411 hg w49 hbox hb;have n0_:=Aside0.mk (Kd.R_below (kr_ HO_5.out) hb);have n1_:=Aside0.mk (blk_below (g:=gb372) (o:=.cells #[.slice A0_0 l0_0.length c0_0,.int .i64 a0_1,.int .i64 a0_2,.slice A0_3 l0_3.length c0_3,.slice (some ad410) l0_4.length c0_4] 26 (0,0)) bk_ hb);have n2_:=Aside0.mk (below_step bl_ hb);have n3_:=Aside0.mk (hbox);have n4_:=Aside0.mk ((by rw [hg];exact (below_size bl_):w.heap.size≤gb411));have n5_:=Aside0.mk ((by rw [hg];exact (below_size bl_):w.heap.size≤gb411));have n6_:=Aside0.mk ((by rw [hg];exact Nat.ne_of_lt (blk_lt (g:=gb372) (o:=.cells #[.slice A0_0 l0_0.length c0_0,.int .i64 a0_1,.int .i64 a0_2,.slice A0_3 l0_3.length c0_3,.slice (some ad410) l0_4.length c0_4] 26 (0,0)) bk_):gb372 ≠ gb411));have n7_:=Aside0.mk ((by rw [hg];exact Nat.ne_of_gt (blk_lt (g:=gb372) (o:=.cells #[.slice A0_0 l0_0.length c0_0,.int .i64 a0_1,.int .i64 a0_2,.slice A0_3 l0_3.length c0_3,.slice (some ad410) l0_4.length c0_4] 26 (0,0)) bk_):gb411 ≠ gb372));clear HO_5;clear BK372;clear HB;have HO_5:=n0_;have BK372:=n1_;have HB:=n2_;have BK411:=n3_;have GW411:=n4_;have GE411:=n5_;have NB372_411:=n6_;have NB411_372:=n7_;clear n0_ n1_ n2_ n3_ n4_ n5_ n6_ n7_;clear hb hbox hg;have hnb50:=NB411_372.out;have hnc50:=NB372_411.out;obtain ⟨hcz51_0,hcz51_1,hcz51_2,hcz51_3,hcz51_4,hcz51_5,hcz51_6,hcz51_7⟩:=blc8_ BK411.out;have hfz51_0:=blk_frozen BK411.out 0;have hfz51_1:=blk_frozen BK411.out 1;have hfz51_2:=blk_frozen BK411.out 2;have hfz51_3:=blk_frozen BK411.out 3;have hfz51_4:=blk_frozen BK411.out 4;have hfz51_5:=blk_frozen BK411.out 5;have hfz51_6:=blk_frozen BK411.out 6;have hfz51_7:=blk_frozen BK411.out 7)|((with_reducible refine gate_store (t:=49) (p:=11) rfl ?_);refine store_event (t:=49) (p:=11) (v:=?vo_w52) (w1:=((((((((w49.setCell ⟨gb411,0,none⟩ (.int .i64 ((rd_T49 l0_4 x10_2).f0))).setCell ⟨gb411,1,none⟩ (.int .i64 ((rd_T49 l0_4 x10_2).f1))).setCell ⟨gb411,2,none⟩ (.int .i64 ((rd_T49 l0_4 x10_2).f2))).setCell ⟨gb411,3,none⟩ (.int .i64 ((rd_T49 l0_4 x10_2).f3))).setCell ⟨gb411,4,none⟩ (.int .i64 ((rd_T49 l0_4 x10_2).f4))).setCell ⟨gb411,5,none⟩ (.slice A410_5 ((rd_T49 l0_4 x10_2).f5).length c410_5)).setCell ⟨gb411,6,none⟩ (.slice A410_6 ((rd_T49 l0_4 x10_2).f6).length c410_6)).setCell ⟨gb411,7,none⟩ (.slice A410_7 ((rd_T49 l0_4 x10_2).f7).length c410_7))) ?hg ?ho ?hn ?hr ?_;(case ho => rfl);(case hg => rfl);(case hn => rfl);(case hr => first|(go_simp;done)|(go_simp;rfl));intro w52 hw;have n0_:Aside0 (Kd.R (Kd.int .u8) 5 w52 w.heap.size (fun _ => True) u5 x5_2):=⟨(by rw [hw];exact (by (with_reducible repeat (first|apply Kd.R_alloc|apply Kd.R_drewN|apply Kd.R_drew));exact Kd.R_mono (Kd.R_far (p:=⟨gb411,7,none⟩) (Kd.R_far (p:=⟨gb411,6,none⟩) (Kd.R_far (p:=⟨gb411,5,none⟩) (Kd.R_far (p:=⟨gb411,4,none⟩) (Kd.R_far (p:=⟨gb411,3,none⟩) (Kd.R_far (p:=⟨gb411,2,none⟩) (Kd.R_far (p:=⟨gb411,1,none⟩) (Kd.R_far (p:=⟨gb411,0,none⟩) (Kd.R_types HO_5.out BK411.out (by decide)) (fun _ hk => hk.2) (.int .i64 ((rd_T49 l0_4 x10_2).f0))) (fun _ hk => hk.2) (.int .i64 ((rd_T49 l0_4 x10_2).f1))) (fun _ hk => hk.2) (.int .i64 ((rd_T49 l0_4 x10_2).f2))) (fun _ hk => hk.2) (.int .i64 ((rd_T49 l0_4 x10_2).f3))) (fun _ hk => hk.2) (.int .i64 ((rd_T49 l0_4 x10_2).f4))) (fun _ hk => hk.2) (.slice A410_5 ((rd_T49 l0_4 x10_2).f5).length c410_5)) (fun _ hk => hk.2) (.slice A410_6 ((rd_T49 l0_4 x10_2).f6).length c410_6)) (fun _ hk => hk.2) (.slice A410_7 ((rd_T49 l0_4 x10_2).f7).length c410_7)) (fun _ hk => trivial)))⟩;have n1_:Aside0 (w52.heap[gb372]?=some (.cells #[.slice A0_0 l0_0.length c0_0,.int .i64 a0_1,.int .i64 a0_2,.slice A0_3 l0_3.length c0_3,.slice (some ad410) l0_4.length c0_4] 26 (0,0))):=⟨(by rw [hw];exact bk_)⟩;have n2_:Aside0 (w52.heap[gb411]?=some (.cells #[.int .i64 ((rd_T49 l0_4 x10_2).f0),.int .i64 ((rd_T49 l0_4 x10_2).f1),.int .i64 ((rd_T49 l0_4 x10_2).f2),.int .i64 ((rd_T49 l0_4 x10_2).f3),.int .i64 ((rd_T49 l0_4 x10_2).f4),.slice A410_5 ((rd_T49 l0_4 x10_2).f5).length c410_5,.slice A410_6 ((rd_T49 l0_4 x10_2).f6).length c410_6,.slice A410_7 ((rd_T49 l0_4 x10_2).f7).length c410_7] 49 (0,0))):=⟨(by rw [hw];exact (st8_ BK411.out))⟩;have n3_:Aside0 (Below w.heap.size w w52):=⟨(by rw [hw];exact bl_)⟩;clear hw;clear HO_5;clear BK372;clear BK411;clear HB;have HO_5:=n0_;have BK372:=n1_;have BK411:=n2_;have HB:=n3_;clear n0_ n1_ n2_ n3_;obtain ⟨hcz53_0,hcz53_1,hcz53_2,hcz53_3,hcz53_4,hfz53_0,hfz53_1,hfz53_2,hfz53_3,hfz53_4⟩:=blk5_ BK372.out;obtain ⟨hcz54_0,hcz54_1,hcz54_2,hcz54_3,hcz54_4,hcz54_5,hcz54_6,hcz54_7⟩:=blc8_ BK411.out;have hfz54_0:=blk_frozen BK411.out 0;have hfz54_1:=blk_frozen BK411.out 1;have hfz54_2:=blk_frozen BK411.out 2;have hfz54_3:=blk_frozen BK411.out 3;have hfz54_4:=blk_frozen BK411.out 4;have hfz54_5:=blk_frozen BK411.out 5;have hfz54_6:=blk_frozen BK411.out 6;have hfz54_7:=blk_frozen BK411.out 7)|(refine callA_ (f:=20) (some 80) Tryd.func20 #[.slice A0_0 l0_0.length c0_0,.agg #[.int .i64 ((rd_T49 l0_4 x10_2).f0),.int .i64 ((rd_T49 l0_4 x10_2).f1),.int .i64 ((rd_T49 l0_4 x10_2).f2),.int .i64 ((rd_T49 l0_4 x10_2).f3),.int .i64 ((rd_T49 l0_4 x10_2).f4),.slice A410_5 ((rd_T49 l0_4 x10_2).f5).length c410_5,.slice A410_6 ((rd_T49 l0_4 x10_2).f6).length c410_6,.slice A410_7 ((rd_T49 l0_4 x10_2).f7).length c410_7]] ?_;(with_reducible refine (understudyref05_code.calls k2 _ _ l0_0 ((rd_T49 l0_4 x10_2).f0) ((rd_T49 l0_4 x10_2).f1) ((rd_T49 l0_4 x10_2).f2) ((rd_T49 l0_4 x10_2).f3) ((rd_T49 l0_4 x10_2).f4) _ _ ((rd_T49 l0_4 x10_2).f5) _ _ ((rd_T49 l0_4 x10_2).f6) _ _ ((rd_T49 l0_4 x10_2).f7) t412 _ ?side1 ?side2 ?side3 ?side4 ?side5 ?side6 ?side7 ?side8 A43.out).mono ?_);(case side1 => exact kc_ (Kd.C_below HR0_0.out HB.out));(case side2 => exact HC0_0.out);(case side3 => exact kc_ (Kd.C_below HR410_5.out HB.out));(case side4 => exact HC410_5.out);(case side5 => exact kc_ (Kd.C_below HR410_6.out HB.out));(case side6 => exact HC410_6.out);(case side7 => exact kc_ (Kd.C_below HR410_7.out HB.out));(case side8 => exact HC410_7.out);rintro e w55 ⟨v413,rfl,ho0,hb⟩;refine ⟨_,rfl,?_⟩;have n0_:=Aside0.mk (Kd.R_elder' (kr_ HO_5.out) (Kd.R_base ho0) hb);have n1_:=Aside0.mk (Kd.R_lower (Kd.R_new' ho0 (Kd.R_lt (kr_ HO_5.out))) (below_size bl_));have n2_:=Aside0.mk (blk_below (g:=gb372) (o:=.cells #[.slice A0_0 l0_0.length c0_0,.int .i64 a0_1,.int .i64 a0_2,.slice A0_3 l0_3.length c0_3,.slice (some ad410) l0_4.length c0_4] 26 (0,0)) bk_ hb);have n3_:=Aside0.mk (blk_below (g:=gb411) (o:=.cells #[.int .i64 ((rd_T49 l0_4 x10_2).f0),.int .i64 ((rd_T49 l0_4 x10_2).f1),.int .i64 ((rd_T49 l0_4 x10_2).f2),.int .i64 ((rd_T49 l0_4 x10_2).f3),.int .i64 ((rd_T49 l0_4 x10_2).f4),.slice A410_5 ((rd_T49 l0_4 x10_2).f5).length c410_5,.slice A410_6 ((rd_T49 l0_4 x10_2).f6).length c410_6,.slice A410_7 ((rd_T49 l0_4 x10_2).f7).length c410_7] 49 (0,0)) bk_ hb);have n4_:=Aside0.mk (below_step bl_ hb);clear HO_5;clear BK372;clear BK411;clear HB;have HO_5:=n0_;have HO414:=n1_;have BK372:=n2_;have BK411:=n3_;have HB:=n4_;clear n0_ n1_ n2_ n3_ n4_;(try clear hb);(try clear hb2);(try clear hk);(try clear hi);(try clear ho0)))
           have n0_:=Aside0.mk (Kd.R_drew HO_5.out)
           have n1_:=Aside0.mk (Kd.R_drew HO414.out)
           have n2_:=Aside0.mk (blk_drew BK372.out)
           have n3_:=Aside0.mk (blk_drew BK411.out)
           have n4_:=Aside0.mk (below_drew1 HB.out)
           clear HO_5
           clear HO414
           clear BK372
           clear BK411
           clear HB
           have HO_5:=n0_
           have HO414:=n1_
           have BK372:=n2_
           have BK411:=n3_
           have HB:=n4_
           clear n0_ n1_ n2_ n3_ n4_
           refine start_ (n:=13) (S:=fun w' => w'.cell? ⟨gb411,0,none⟩=some (.int .i64 ((rd_T49 l0_4 x10_2).f0))∧w'.cell? ⟨gb411,1,none⟩=some (.int .i64 ((rd_T49 l0_4 x10_2).f1))∧w'.cell? ⟨gb411,2,none⟩=some (.int .i64 ((rd_T49 l0_4 x10_2).f2))∧w'.cell? ⟨gb411,3,none⟩=some (.int .i64 ((rd_T49 l0_4 x10_2).f3))∧w'.cell? ⟨gb411,4,none⟩=some (.int .i64 ((rd_T49 l0_4 x10_2).f4))∧w'.cell? ⟨gb411,5,none⟩=some (.slice A410_5 ((rd_T49 l0_4 x10_2).f5).length c410_5)∧w'.cell? ⟨gb411,6,none⟩=some (.slice A410_6 ((rd_T49 l0_4 x10_2).f6).length c410_6)∧w'.cell? ⟨gb411,7,none⟩=some (.slice A410_7 ((rd_T49 l0_4 x10_2).f7).length c410_7)∧w'.cell? ⟨gb372,0,none⟩=some (.slice A0_0 l0_0.length c0_0)∧w'.cell? ⟨gb372,1,none⟩=some (.int .i64 a0_1)∧w'.cell? ⟨gb372,2,none⟩=some (.int .i64 a0_2)∧w'.cell? ⟨gb372,3,none⟩=some (.slice A0_3 l0_3.length c0_3)∧w'.cell? ⟨gb372,4,none⟩=some (.slice (some ad410) l0_4.length c0_4)) (ds:=[]) #[false,false,false,false,false,false,false,false,false,false,false,false,false] (by kernel_rfl) rfl rfl ⟨(blk_cell BK411.out 0).trans rfl,(blk_cell BK411.out 1).trans rfl,(blk_cell BK411.out 2).trans rfl,(blk_cell BK411.out 3).trans rfl,(blk_cell BK411.out 4).trans rfl,(blk_cell BK411.out 5).trans rfl,(blk_cell BK411.out 6).trans rfl,(blk_cell BK411.out 7).trans rfl,(blk_cell BK372.out 0).trans rfl,(blk_cell BK372.out 1).trans rfl,(blk_cell BK372.out 2).trans rfl,(blk_cell BK372.out 3).trans rfl,(blk_cell BK372.out 4).trans rfl⟩ (fun hHeld => ?_);refine with_tabW understudyref05_Encode.tab19 understudyref05_Encode.bits19 (fun HT_ HW_ => ?_)
           generalize w55.drew=w56 at HO_5 HO414 BK372 BK411 HB hHeld ⊢
           refine pure_ (i:=0) (N:=some 81) (v:=?_) (a':=?_) #[true,false,false,false,false,false,false,false,false,false,false,false,false] rfl rfl (any_of HT_.out (by kernel_rfl)) (fun _ _ _ h => h) (Or.inl ⟨by rfl,?_⟩) ?_ ?_
           rotate_left
           ·intro w'
            go_simp
            with_reducible rfl
           rotate_left
           ·simp only [Act.put,List.setIfInBounds_toArray,List.set_cons_zero,List.set_cons_succ,i64_w,i32_w]
            rfl
           refine pure_ (i:=1) (N:=some 82) (v:=?_) (a':=?_) #[true,true,false,false,false,false,false,false,false,false,false,false,false] rfl rfl (any_of HT_.out (by kernel_rfl)) (fun _ _ _ h => h) (Or.inl ⟨by rfl,?_⟩) ?_ ?_
           rotate_left
           ·intro w'
            go_simp
            with_reducible rfl
           rotate_left
           ·simp only [Act.put,List.setIfInBounds_toArray,List.set_cons_zero,List.set_cons_succ,i64_w,i32_w]
            rfl
           refine pure_ (i:=3) (N:=some 84) (v:=?_) (a':=?_) #[true,true,false,true,false,false,false,false,false,false,false,false,false] rfl rfl (any_of HT_.out (by kernel_rfl)) (fun _ _ _ h => h) (Or.inl ⟨by rfl,?_⟩) ?_ ?_
           rotate_left
           ·intro w'
            go_simp
            with_reducible rfl
           rotate_left
           ·simp only [Act.put,List.setIfInBounds_toArray,List.set_cons_zero,List.set_cons_succ,i64_w,i32_w]
            rfl
           refine pure_ (i:=5) (N:=some 86) (v:=?_) (a':=?_) #[true,true,false,true,false,true,false,false,false,false,false,false,false] rfl rfl (any_of HT_.out (by kernel_rfl)) (fun _ _ _ h => h) (Or.inl ⟨by rfl,?_⟩) ?_ ?_
           rotate_left
           ·intro w'
            go_simp
            with_reducible rfl
           rotate_left
           ·simp only [Act.put,List.setIfInBounds_toArray,List.set_cons_zero,List.set_cons_succ,i64_w,i32_w]
            rfl
           refine pure_ (i:=7) (N:=some 88) (v:=?_) (a':=?_) #[true,true,false,true,false,true,false,true,false,false,false,false,false] rfl rfl (any_of HT_.out (by kernel_rfl)) (fun _ _ _ h => h) (Or.inl ⟨by rfl,?_⟩) ?_ ?_
           rotate_left
           ·intro w'
            go_simp
            with_reducible rfl
           rotate_left
           ·simp only [Act.put,List.setIfInBounds_toArray,List.set_cons_zero,List.set_cons_succ,i64_w,i32_w]
            rfl
           refine take_ (i:=2) (N:=some 83) (v:=?_) (a':=?_) #[true,true,true,true,false,true,false,true,false,false,false,false,false] rfl rfl (take_ofW HT_.out HW_.out (by kernel_rfl)) (fun _ _ _ h => h) (Or.inl ⟨by rfl,?_⟩) hHeld ?_ ?_
           rotate_left
           ·rintro w' ⟨s0,s1,s2,s3,s4,s5,s6,s7,s8,s9,s10,s11,s12⟩
            go_simp
            with_reducible rfl
           rotate_left
           ·simp only [Act.put,List.setIfInBounds_toArray,List.set_cons_zero,List.set_cons_succ,i64_w,i32_w]
            rfl
           refine take_ (i:=4) (N:=some 85) (v:=?_) (a':=?_) #[true,true,true,true,true,true,false,true,false,false,false,false,false] rfl rfl (take_ofW HT_.out HW_.out (by kernel_rfl)) (fun _ _ _ h => h) (Or.inl ⟨by rfl,?_⟩) hHeld ?_ ?_
           rotate_left
           ·rintro w' ⟨s0,s1,s2,s3,s4,s5,s6,s7,s8,s9,s10,s11,s12⟩
            go_simp
            with_reducible rfl
           rotate_left
           ·simp only [Act.put,List.setIfInBounds_toArray,List.set_cons_zero,List.set_cons_succ,i64_w,i32_w]
            rfl
           refine take_ (i:=6) (N:=some 87) (v:=?_) (a':=?_) #[true,true,true,true,true,true,true,true,false,false,false,false,false] rfl rfl (take_ofW HT_.out HW_.out (by kernel_rfl)) (fun _ _ _ h => h) (Or.inl ⟨by rfl,?_⟩) hHeld ?_ ?_
           rotate_left
           ·rintro w' ⟨s0,s1,s2,s3,s4,s5,s6,s7,s8,s9,s10,s11,s12⟩
            go_simp
            with_reducible rfl
           rotate_left
           ·simp only [Act.put,List.setIfInBounds_toArray,List.set_cons_zero,List.set_cons_succ,i64_w,i32_w]
            rfl
           refine take_ (i:=8) (N:=some 89) (v:=?_) (a':=?_) #[true,true,true,true,true,true,true,true,true,false,false,false,false] rfl rfl (take_ofW HT_.out HW_.out (by kernel_rfl)) (fun _ _ _ h => h) (Or.inl ⟨by rfl,?_⟩) hHeld ?_ ?_
           rotate_left
           ·rintro w' ⟨s0,s1,s2,s3,s4,s5,s6,s7,s8,s9,s10,s11,s12⟩
            go_simp
            with_reducible rfl
           rotate_left
           ·simp only [Act.put,List.setIfInBounds_toArray,List.set_cons_zero,List.set_cons_succ,i64_w,i32_w]
            rfl
           refine one_ (i:=9) (N:=some 90) #[true,true,true,true,true,true,true,true,true,true,false,false,false] rfl rfl (one_of HT_.out (by kernel_rfl)) (by decide) (fun K hK => ?_)
           refine goes_ Tryd.func21 (by kernel_rfl) rfl #[.slice A0_0 l0_0.length c0_0,.string (⟨#[67,111,100,101]⟩:ByteArray)] (by rfl) rfl rfl (by (try simp only [List.map_toArray,List.map_cons,List.map_nil]);first|done|rfl|(simp only [List.length_drop,List.length_take];rfl)) ?_
           with_reducible refine (understudyref05_text.calls k2 _ _ l0_0 (⟨#[67,111,100,101]⟩:ByteArray) t415 _ ?side1 ?side2 A44.out).mono ?_
           (case side1 => exact kc_ (Kd.C_below HR0_0.out HB.out))
           (case side2 => exact HC0_0.out)
           rintro e w' ⟨rfl,⟨nd,rfl⟩⟩
           refine ⟨_,rfl,?_⟩
           refine hK.out _ _ ⟨(blk_cell BK411.out 0).trans rfl,(blk_cell BK411.out 1).trans rfl,(blk_cell BK411.out 2).trans rfl,(blk_cell BK411.out 3).trans rfl,(blk_cell BK411.out 4).trans rfl,(blk_cell BK411.out 5).trans rfl,(blk_cell BK411.out 6).trans rfl,(blk_cell BK411.out 7).trans rfl,(blk_cell BK372.out 0).trans rfl,(blk_cell BK372.out 1).trans rfl,(blk_cell BK372.out 2).trans rfl,(blk_cell BK372.out 3).trans rfl,(blk_cell BK372.out 4).trans rfl⟩ (fun hHeld => ?_)
           clear hK K
           refine norm_ (a':=?_) ?_ ?_
           rotate_left
           ·show Act.put _ (some 90) _=_
            simp only [Act.put,List.setIfInBounds_toArray,List.set_cons_zero,List.set_cons_succ,i64_w,i32_w]
            rfl
           refine one_ (i:=10) (N:=some 91) #[true,true,true,true,true,true,true,true,true,true,true,false,false] rfl rfl (one_of HT_.out (by kernel_rfl)) (by decide) (fun K hK => ?_)
           refine Kd.R_lit_step (Kd.int .i64) _ 3 ?hg (N:=91) ?hd (xs:=([(rd_T49 l0_4 x10_2).f0,(rd_T49 l0_4 x10_2).f1,(rd_T49 l0_4 x10_2).f2,1,t415]:List Int)) (inner:=[.int .i64 ((rd_T49 l0_4 x10_2).f0),.int .i64 ((rd_T49 l0_4 x10_2).f1),.int .i64 ((rd_T49 l0_4 x10_2).f2),.int .i64 1,.int .i64 t415]) (ok:=fun _ => True) (okp:=fun _ => True) ?hr ?hp (fun _ hk => hk) trivial (Below.refl _ _) (Nat.le_refl _) (by simp) ?_;(case hd => rfl);(case hg => rfl);(case hr => first|(go_simp;done)|(go_simp;rfl));(case hp => exact (Reps.one (show Kd.M (Kd.int .i64) _ _ _ ((rd_T49 l0_4 x10_2).f0) [.int .i64 ((rd_T49 l0_4 x10_2).f0)] from rfl) (Reps.one (show Kd.M (Kd.int .i64) _ _ _ ((rd_T49 l0_4 x10_2).f1) [.int .i64 ((rd_T49 l0_4 x10_2).f1)] from rfl) (Reps.one (show Kd.M (Kd.int .i64) _ _ _ ((rd_T49 l0_4 x10_2).f2) [.int .i64 ((rd_T49 l0_4 x10_2).f2)] from rfl) (Reps.one (show Kd.M (Kd.int .i64) _ _ _ 1 [.int .i64 1] from rfl) (Reps.one (show Kd.M (Kd.int .i64) _ _ _ t415 [.int .i64 t415] from rfl) (Reps.none _ _)))))))
           intro v417 w57 ho58 hb hg_ hnew_
           clear hg_ hnew_
           (first|rw [← Ny416.out] at ho58|(simp only [Int.reduceToNat] at ho58;rw [← Ny416.out] at ho58))
           have n0_:=Aside0.mk (Kd.R_below (kr_ HO_5.out) hb)
           have n1_:=Aside0.mk (Kd.R_below (kr_ HO414.out) hb)
           have n2_:=Aside0.mk (Kd.R_lower ho58 (below_size bl_))
           have n3_:=Aside0.mk (blk_below (g:=gb372) (o:=.cells #[.slice A0_0 l0_0.length c0_0,.int .i64 a0_1,.int .i64 a0_2,.slice A0_3 l0_3.length c0_3,.slice (some ad410) l0_4.length c0_4] 26 (0,0)) bk_ hb)
           have n4_:=Aside0.mk (blk_below (g:=gb411) (o:=.cells #[.int .i64 ((rd_T49 l0_4 x10_2).f0),.int .i64 ((rd_T49 l0_4 x10_2).f1),.int .i64 ((rd_T49 l0_4 x10_2).f2),.int .i64 ((rd_T49 l0_4 x10_2).f3),.int .i64 ((rd_T49 l0_4 x10_2).f4),.slice A410_5 ((rd_T49 l0_4 x10_2).f5).length c410_5,.slice A410_6 ((rd_T49 l0_4 x10_2).f6).length c410_6,.slice A410_7 ((rd_T49 l0_4 x10_2).f7).length c410_7] 49 (0,0)) bk_ hb)
           have n5_:=Aside0.mk (below_step bl_ hb)
           clear HO_5
           clear HO414
           clear BK372
           clear BK411
           clear HB
           have HO_5:=n0_
           have HO414:=n1_
           have HO418:=n2_
           have BK372:=n3_
           have BK411:=n4_
           have HB:=n5_
           clear n0_ n1_ n2_ n3_ n4_ n5_
           clear hb ho58
           obtain ⟨Ao59,co59,eo59⟩:=Kd.R_slice HO_5.out
           (first|subst eo59|(injection eo59 with f1_ f2_ f3_;have f4_:=f1_.symm;have f5_:=f3_.symm;clear f1_ f2_ f3_;subst f4_;subst f5_))
           obtain ⟨Ao60,co60,eo60⟩:=Kd.R_slice HO418.out
           (first|subst eo60|(injection eo60 with f1_ f2_ f3_;have f4_:=f1_.symm;have f5_:=f3_.symm;clear f1_ f2_ f3_;subst f4_;subst f5_))
           refine hK.out _ _ ⟨(blk_cell BK411.out 0).trans rfl,(blk_cell BK411.out 1).trans rfl,(blk_cell BK411.out 2).trans rfl,(blk_cell BK411.out 3).trans rfl,(blk_cell BK411.out 4).trans rfl,(blk_cell BK411.out 5).trans rfl,(blk_cell BK411.out 6).trans rfl,(blk_cell BK411.out 7).trans rfl,(blk_cell BK372.out 0).trans rfl,(blk_cell BK372.out 1).trans rfl,(blk_cell BK372.out 2).trans rfl,(blk_cell BK372.out 3).trans rfl,(blk_cell BK372.out 4).trans rfl⟩ (fun hHeld => ?_)
           clear hK K
           refine norm_ (a':=?_) ?_ ?_
           rotate_left
           ·show Act.put _ (some 91) _=_
            simp only [Act.put,List.setIfInBounds_toArray,List.set_cons_zero,List.set_cons_succ,i64_w,i32_w]
            rfl
           refine one_ (i:=11) (N:=some 92) #[true,true,true,true,true,true,true,true,true,true,true,true,false] rfl rfl (one_of HT_.out (by kernel_rfl)) (by decide) (fun K hK => ?_)
           refine goes_ Tryd.func19 (by kernel_rfl) rfl #[.slice Ao59 x5_2.length co59,.slice Ao60 y416.length co60] (by rfl) rfl rfl (by (try simp only [List.map_toArray,List.map_cons,List.map_nil]);first|done|rfl|(simp only [List.length_drop,List.length_take];rfl)) ?_
           with_reducible refine (understudyref05_put.calls k2 (fun k_ => some k_=(.slice Ao59 x5_2.length co59:Value).ownBlock) (.slice Ao59 x5_2.length co59) x5_2 _ _ y416 t419 w _ ?side1 ?side2 ?side3 ?side4 A45.out).mono ?_
           (case side1 => repeat (first|(with_reducible first|exact HB.out|apply below_alloc|apply pw_below_drewN|apply below_drew1|refine below_set ?_ GE372.out|refine below_set ?_ GE411.out)|exact HB.out))
           (case side2 => exact Kd.R_tight rfl HO_5.out)
           (case side3 => exact Kd.C_kept_own ((Kd.R_apart' HO418.out (Kd.R_typed HO_5.out) (by decide))) (fun k_ hk_ hs_ => (hk_.2) hs_))
           (case side4 => exact (Kd.R_reads' HO418.out).2.1)
           rintro e w61 ⟨v420,rfl,ho0,hb,hkp⟩
           refine ⟨_,rfl,?_⟩
           have n0_:=Aside0.mk (blk_kept bk_ hkp (fun hs_ => (fun e_ => (Kd.R_ne HO_5.out BK372.out (by decide)) e_) hs_))
           have n1_:=Aside0.mk (blk_kept bk_ hkp (fun hs_ => (fun e_ => (Kd.R_ne HO_5.out BK411.out (by decide)) e_) hs_))
           have n2_:=Aside0.mk (Kd.R_mono (ok':=fun k_ => some k_ ≠ (v420:Value).ownBlock) (Kd.R_keptB (HO414.out) hkp (fun k_ hk_ hs_ => (hk_.2) hs_)) (fun k_ hk_ => fun e_ => Or.elim (ho0.1 k_ e_.symm) (fun hs_ => hk_.2.1 hs_) (fun hn_ => Nat.not_le.2 hk_.2.2 hn_)))
           have n3_:=Aside0.mk (Kd.R_mono (ok':=fun k_ => True) (Kd.R_keptB ((Kd.R_apart' HO418.out (Kd.R_typed HO_5.out) (by decide))) hkp (fun k_ hk_ hs_ => (hk_.2) hs_)) (fun k_ hk_ => trivial))
           have n4_:=Aside0.mk (Kd.R_mono (ok':=fun k_ => some k_ ≠ (v413:Value).ownBlock) ho0 (fun k_ hk_ => Or.elim hk_ (fun hs_ => fun e_ => (((HO414.out).1 k_ e_.symm).2) hs_) (fun hn_ => (Kd.fresh' (Kd.R_lt (kr_ HO414.out)) k_ hn_))))
           have n5_:=Aside0.mk (hb)
           clear BK372
           clear BK411
           clear HO414
           clear HO418
           clear HB
           clear HO_5
           have BK372:=n0_
           have BK411:=n1_
           have HO414:=n2_
           have HO418:=n3_
           have HO421:=n4_
           have HB:=n5_
           clear n0_ n1_ n2_ n3_ n4_ n5_
           (try clear hb)
           (try clear hkp)
           (try clear ho0)
           refine hK.out _ _ ⟨(blk_cell BK411.out 0).trans rfl,(blk_cell BK411.out 1).trans rfl,(blk_cell BK411.out 2).trans rfl,(blk_cell BK411.out 3).trans rfl,(blk_cell BK411.out 4).trans rfl,(blk_cell BK411.out 5).trans rfl,(blk_cell BK411.out 6).trans rfl,(blk_cell BK411.out 7).trans rfl,(blk_cell BK372.out 0).trans rfl,(blk_cell BK372.out 1).trans rfl,(blk_cell BK372.out 2).trans rfl,(blk_cell BK372.out 3).trans rfl,(blk_cell BK372.out 4).trans rfl⟩ (fun hHeld => ?_)
           clear hK K
           refine norm_ (a':=?_) ?_ ?_
           rotate_left
           ·show Act.put _ (some 92) _=_
            simp only [Act.put,List.setIfInBounds_toArray,List.set_cons_zero,List.set_cons_succ,i64_w,i32_w]
            rfl
           refine pure_ (i:=12) (N:=some 5) (v:=?_) (a':=?_) #[true,true,true,true,true,true,true,true,true,true,true,true,true] rfl rfl (any_of HT_.out (by kernel_rfl)) (fun _ _ _ h => h) (Or.inl ⟨by rfl,?_⟩) ?_ ?_
           rotate_left
           ·intro w'
            go_simp
            with_reducible rfl
           rotate_left
           ·simp only [Act.put,List.setIfInBounds_toArray,List.set_cons_zero,List.set_cons_succ,i64_w,i32_w]
            rfl
           refine done_ (done_of HT_.out (by kernel_rfl)) ?_
           obtain ⟨Ao62,co62,eo62⟩:=Kd.R_slice HO414.out
           subst eo62
           obtain ⟨Ao63,co63,eo63⟩:=Kd.R_slice HO421.out
           subst eo63
           try go_wp2_with (first|(refine callA_ (f:=22) (some 96) Tryd.func22 #[.slice Ao63 t419.length co63,.int .i64 (t412.length:Int)] ?_;(with_reducible refine (understudyref05_four.calls (fun k_ => some k_=(.slice Ao63 t419.length co63:Value).ownBlock) (.slice Ao63 t419.length co63) t419 (t412.length:Int) t422 w _ ?side1 ?side2 A46.out).mono ?_);(case side1 => repeat (first|(with_reducible first|exact HB.out|apply below_alloc|apply pw_below_drewN|apply below_drew1|refine below_set ?_ GE372.out|refine below_set ?_ GE411.out)|exact HB.out));(case side2 => exact Kd.R_tight rfl HO421.out);rintro e w64 ⟨v423,rfl,ho0,hb,hkp⟩;refine ⟨_,rfl,?_⟩;have n0_:=Aside0.mk (blk_kept bk_ hkp (fun hs_ => (fun e_ => (Kd.R_ne HO421.out BK372.out (by decide)) e_) hs_));have n1_:=Aside0.mk (blk_kept bk_ hkp (fun hs_ => (fun e_ => (Kd.R_ne HO421.out BK411.out (by decide)) e_) hs_));have n2_:=Aside0.mk (Kd.R_mono (ok':=fun k_ => some k_ ≠ (v423:Value).ownBlock) (Kd.R_keptB (HO414.out) hkp (fun k_ hk_ hs_ => (hk_) hs_)) (fun k_ hk_ => fun e_ => Or.elim (ho0.1 k_ e_.symm) (fun hs_ => hk_.2.1 hs_) (fun hn_ => Nat.not_le.2 hk_.2.2 hn_)));have n3_:=Aside0.mk (Kd.R_mono (ok':=fun k_ => True) (Kd.R_keptB ((Kd.R_apart' HO418.out (Kd.R_typed HO421.out) (by decide))) hkp (fun k_ hk_ hs_ => (hk_.2) hs_)) (fun k_ hk_ => trivial));have n4_:=Aside0.mk (Kd.R_mono (ok':=fun k_ => some k_ ≠ (.slice Ao62 t412.length co62:Value).ownBlock) ho0 (fun k_ hk_ => Or.elim hk_ (fun hs_ => fun e_ => (((HO414.out).1 k_ e_.symm)) hs_) (fun hn_ => (Kd.fresh' (Kd.R_lt (kr_ HO414.out)) k_ hn_))));have n5_:=Aside0.mk (hb);clear BK372;clear BK411;clear HO414;clear HO418;clear HB;clear HO421;have BK372:=n0_;have BK411:=n1_;have HO414:=n2_;have HO418:=n3_;have HO424:=n4_;have HB:=n5_;clear n0_ n1_ n2_ n3_ n4_ n5_;(try clear hb);(try clear hkp);(try clear ho0))|((with_reducible refine gate_builtin (b:=.append) (xs:=#[.tmp 97,.tmp 98]) rfl ?_);at_builtin;refine Kd.R_append_rows (Kd.int .u8) (w0:=w) w.heap.size rfl (.tmp 97) (.tmp 98) 27 5 (.int .u8 0) 1 rfl Tryd.underlying27 info5 rfl (by decide) (by omega) v423 t422 t412 _ _ _ (fun k_ => some k_ ≠ (.slice Ao62 t412.length co62:Value).ownBlock) (fun _ => False) rfl rfl ?aO ?aR (fun _ _ h => h) (fun _ h => h.elim) ?aF ?aB ?aS ?aL ?_;(case aR => exact kc_ (Kd.R_reads' HO414.out).2.2);(case aB => exact bl_);(case aF => exact (fun k_ hk => Kd.fresh' (Kd.R_lt (kr_ HO414.out)) k_ hk));(case aO => exact (kr_ HO424.out));(case aS => exact (below_size bl_));(case aL => have:=LMc47.out;omega);intro v426 w65 ho hb hg hat;rw [← Ny425.out] at ho;have n0_:=Aside0.mk (blk_grown (g:=gb372) (o:=.cells #[.slice A0_0 l0_0.length c0_0,.int .i64 a0_1,.int .i64 a0_2,.slice A0_3 l0_3.length c0_3,.slice (some ad410) l0_4.length c0_4] 26 (0,0)) bk_ hg (Kd.R_ne HO424.out BK372.out (by decide)));have n1_:=Aside0.mk (blk_grown (g:=gb411) (o:=.cells #[.int .i64 ((rd_T49 l0_4 x10_2).f0),.int .i64 ((rd_T49 l0_4 x10_2).f1),.int .i64 ((rd_T49 l0_4 x10_2).f2),.int .i64 ((rd_T49 l0_4 x10_2).f3),.int .i64 ((rd_T49 l0_4 x10_2).f4),.slice A410_5 ((rd_T49 l0_4 x10_2).f5).length c410_5,.slice A410_6 ((rd_T49 l0_4 x10_2).f6).length c410_6,.slice A410_7 ((rd_T49 l0_4 x10_2).f7).length c410_7] 49 (0,0)) bk_ hg (Kd.R_ne HO424.out BK411.out (by decide)));have n2_:=Aside0.mk (Kd.R_after (ok:=(fun _ => True)) (by (with_reducible repeat (first|apply Kd.R_alloc|apply Kd.R_drewN|apply Kd.R_drew));exact Kd.R_mono HO414.out (fun _ hk => ⟨trivial,hk⟩)) hg hat);have n3_:=Aside0.mk (Kd.R_over' (kr_ HO418.out) (Kd.R_typed (kr_ HO424.out)) (by decide) hg);have n4_:=Aside0.mk (hb);have n5_:=Aside0.mk (ho);clear BK372;clear BK411;clear HO414;clear HO418;clear HB;clear HO424;have BK372:=n0_;have BK411:=n1_;have HO414:=n2_;have HO418:=n3_;have HB:=n4_;have HO427:=n5_;clear n0_ n1_ n2_ n3_ n4_ n5_;clear ho hb hg hat))
           go_roundg k2
           case measure => have:=HK1.out;have:=HK2.out;omega
           case rel => exact ⟨(y425),(wrap64 (x10_2 + 1)),r3_,H',⟨by have:=HK1.out;have:=HK2.out;omega⟩,⟨by (with_reducible repeat (first|apply Kd.R_alloc|apply Kd.R_drewN|apply Kd.R_drew));exact Kd.R_mono HO427.out (fun _ hk => trivial)⟩,⟨bk_⟩,⟨bl_⟩⟩
          ·rw [if_neg c47] at H
           exact absurd H (by simp)
         ·rw [if_neg c42] at H
          exact absurd H (by simp)
        ·rw [if_neg c41] at H
         have c41b0:decide (x10_2 < (l0_4.length:Int))=false:=decide_eq_false c41
         clear c41
         obtain ⟨y404,hy404⟩:∃ y_:List Int,y_=(([0]:List Int)):=⟨_,rfl⟩
         replace H:((understudyref05_put.f k2 x5_2 y404).bind fun t407 => (some (t407,0)))=some (r1,r2):=by first|(rw [hy404];with_reducible exact H)|(have H2_:=(Option.bind_some _ _).symm.trans H;rw [hy404];with_reducible exact H2_)|(have H2_:=(Option.bind_some _ _).symm.trans H;with_reducible exact H2_)|with_reducible exact H|(rw [hy404];exact H)|exact H
         have Ny404:=Aside0.mk hy404
         clear hy404
         replace H:=Option.bind_eq_some_iff.mp H
         obtain ⟨t407,A660,H⟩:=H
         try dsimp only at H
         have A66:=Aside0.mk A660
         clear A660
         simp only [Option.some.injEq,Prod.mk.injEq] at H
         obtain ⟨rfl,rfl⟩:=H
         obtain ⟨hcz67_0,hcz67_1,hcz67_2,hcz67_3,hcz67_4,hfz67_0,hfz67_1,hfz67_2,hfz67_3,hfz67_4⟩:=blk5_ BK372.out
         go_wp2_with (first|((with_reducible refine gate_dst (N:=101) rfl ?_);refine Kd.R_lit (Kd.int .i64) _ 3 ?hg (N:=101) ?hd (xs:=([0]:List Int)) (inner:=[.int .i64 0]) (ok:=fun _ => True) (okp:=fun _ => True) ?hr ?hp (fun _ hk => hk) trivial (Below.refl _ _) (Nat.le_refl _) (by simp) ?_;(case hd => rfl);(case hg => rfl);(case hr => first|(go_simp;done)|(go_simp;rfl));(case hp => exact (Reps.one (show Kd.M (Kd.int .i64) _ _ _ 0 [.int .i64 0] from rfl) (Reps.none _ _)));intro v405 w68 ho69 hb hg_ hnew_;clear hg_ hnew_;(first|rw [← Ny404.out] at ho69|(simp only [Int.reduceToNat] at ho69;rw [← Ny404.out] at ho69));have n0_:=Aside0.mk (Kd.R_below (kr_ HO_5.out) hb);have n1_:=Aside0.mk (Kd.R_lower ho69 (below_size bl_));have n2_:=Aside0.mk (blk_below (g:=gb372) (o:=.cells #[.slice A0_0 l0_0.length c0_0,.int .i64 a0_1,.int .i64 a0_2,.slice A0_3 l0_3.length c0_3,.slice A0_4 l0_4.length c0_4] 26 (0,0)) bk_ hb);have n3_:=Aside0.mk (below_step bl_ hb);clear HO_5;clear BK372;clear HB;have HO_5:=n0_;have HO406:=n1_;have BK372:=n2_;have HB:=n3_;clear n0_ n1_ n2_ n3_;clear hb ho69;obtain ⟨Ao70,co70,eo70⟩:=Kd.R_slice HO_5.out;subst eo70;obtain ⟨Ao71,co71,eo71⟩:=Kd.R_slice HO406.out;subst eo71)|(refine callA_ (f:=19) (some 102) Tryd.func19 #[.slice Ao70 x5_2.length co70,.slice Ao71 y404.length co71] ?_;(with_reducible refine (understudyref05_put.calls k2 (fun k_ => some k_=(.slice Ao70 x5_2.length co70:Value).ownBlock) (.slice Ao70 x5_2.length co70) x5_2 _ _ y404 t407 w _ ?side1 ?side2 ?side3 ?side4 A66.out).mono ?_);(case side1 => repeat (first|(with_reducible first|exact HB.out|apply below_alloc|apply pw_below_drewN|apply below_drew1|refine below_set ?_ GE372.out)|exact HB.out));(case side2 => exact Kd.R_tight rfl HO_5.out);(case side3 => exact Kd.C_kept_own ((Kd.R_apart' HO406.out (Kd.R_typed HO_5.out) (by decide))) (fun k_ hk_ hs_ => (hk_.2) hs_));(case side4 => exact (Kd.R_reads' HO406.out).2.1);rintro e w72 ⟨v408,rfl,ho0,hb,hkp⟩;refine ⟨_,rfl,?_⟩;have n0_:=Aside0.mk (blk_kept bk_ hkp (fun hs_ => (fun e_ => (Kd.R_ne HO_5.out BK372.out (by decide)) e_) hs_));have n1_:=Aside0.mk (Kd.R_mono (ok':=fun k_ => True) (Kd.R_keptB ((Kd.R_apart' HO406.out (Kd.R_typed HO_5.out) (by decide))) hkp (fun k_ hk_ hs_ => (hk_.2) hs_)) (fun k_ hk_ => trivial));have n2_:=Aside0.mk (Kd.R_mono (ok':=fun k_ => True) ho0 (fun k_ hk_ => trivial));have n3_:=Aside0.mk (hb);clear BK372;clear HO406;clear HB;clear HO_5;have BK372:=n0_;have HO406:=n1_;have HO409:=n2_;have HB:=n3_;clear n0_ n1_ n2_ n3_;(try clear hb);(try clear hkp);(try clear ho0)))
         go_ret2
         exact ⟨_,ew_,kr_ HO409.out,bl_⟩
  ·rw [if_neg c5] at H
   exact absurd H (by simp)
 ·rw [if_neg c3] at H
  have c3b0:(t373==0)=false:=beq_eq_false_iff_ne.mpr c3
  have c3b1:(t373 != 0)=true:=bne_iff_ne.mpr c3
  simp only [Option.some.injEq,Prod.mk.injEq] at H
  obtain ⟨rfl,rfl⟩:=H
  go_enter Tryd.func5,Tryd.ntmps5
  go_wp2_with (first|((with_reducible refine gate_dst (N:=1) rfl ?_);refine box_event ?hg (N:=1) ?hd (cs:=#[.slice A0_0 l0_0.length c0_0,.int .i64 a0_1,.int .i64 a0_2,.slice A0_3 l0_3.length c0_3,.slice A0_4 l0_4.length c0_4]) (t:=26) ?hr ?_;(case hd => rfl);(case hg => rfl);(case hr => first|(go_simp;done)|(go_simp;rfl));intro gb372 hg w73 hbox hb;have n0_:=Aside0.mk (below_step bl_ hb);have n1_:=Aside0.mk (hbox);have n2_:=Aside0.mk ((by rw [hg];exact (below_size bl_):w.heap.size≤gb372));have n3_:=Aside0.mk ((by rw [hg];exact (below_size bl_):w.heap.size≤gb372));clear HB;have HB:=n0_;have BK372:=n1_;have GW372:=n2_;have GE372:=n3_;clear n0_ n1_ n2_ n3_;clear hb hbox hg;obtain ⟨hcz74_0,hcz74_1,hcz74_2,hcz74_3,hcz74_4⟩:=blc5_ BK372.out;have hfz74_0:=blk_frozen BK372.out 0;have hfz74_1:=blk_frozen BK372.out 1;have hfz74_2:=blk_frozen BK372.out 2;have hfz74_3:=blk_frozen BK372.out 3;have hfz74_4:=blk_frozen BK372.out 4)|(refine callA_ (f:=17) (some 14) Tryd.func17 #[.agg #[.slice A0_0 l0_0.length c0_0,.int .i64 a0_1,.int .i64 a0_2,.slice A0_3 l0_3.length c0_3,.slice A0_4 l0_4.length c0_4]] ?_;(with_reducible refine (understudyref05_Check.calls k _ _ l0_0 a0_1 a0_2 _ _ l0_3 _ _ l0_4 t373 _ ?side1 ?side2 ?side3 ?side4 ?side5 ?side6 A2.out).mono ?_);(case side1 => exact kc_ (Kd.C_below HR0_0.out HB.out));(case side2 => exact HC0_0.out);(case side3 => exact kc_ (Kd.C_below HR0_3.out HB.out));(case side4 => exact HC0_3.out);(case side5 => exact kc_ (Kd.C_below HR0_4.out HB.out));(case side6 => exact HC0_4.out);rintro e w75 ⟨rfl,hb⟩;refine ⟨_,rfl,?_⟩;have n0_:=Aside0.mk (blk_below (g:=gb372) (o:=.cells #[.slice A0_0 l0_0.length c0_0,.int .i64 a0_1,.int .i64 a0_2,.slice A0_3 l0_3.length c0_3,.slice A0_4 l0_4.length c0_4] 26 (0,0)) bk_ hb);have n1_:=Aside0.mk (below_step bl_ hb);clear BK372;clear HB;have BK372:=n0_;have HB:=n1_;clear n0_ n1_;(try clear hb);(try clear hb2);(try clear hk);(try clear hi)))
  go_ret2
  exact ⟨_,ew_,by first|exact Kd.R_nil _ _ _ _ _|exact Kd.N_nil _ _ _ _ _|exact Kd.V_nil _ _ _ _ _|exact Kd.Q_nil _ _ _ _ _|exact Kd.S_nil _ _ _ _ _,bl_⟩
def class_Name.f (l0_0:List (S60)) (a0_1:Int) (a0_2:Int) (l0_3:List (S46)) (l0_4:List (S49)):Option (ByteArray):=(pool_Class.f l0_0 a0_1).bind fun bt429 => (some bt429.1)
set_option maxHeartbeats 80000000 in
set_option maxRecDepth 100000 in
theorem class_Name.calls (A0_0:Option Addr) (c0_0:Nat) (l0_0:List (S60)) (a0_1:Int) (a0_2:Int) (A0_3:Option Addr) (c0_3:Nat) (l0_3:List (S46)) (A0_4:Option Addr) (c0_4:Nat) (l0_4:List (S49)) (r:ByteArray) (w:World) (hr0_0:Kd.C k60 w A0_0 l0_0.length l0_0) (hc0_0:l0_0.length≤c0_0) (hr0_3:Kd.C k46 w A0_3 l0_3.length l0_3) (hc0_3:l0_3.length≤c0_3) (hr0_4:Kd.C k49 w A0_4 l0_4.length l0_4) (hc0_4:l0_4.length≤c0_4) (h:class_Name.f l0_0 a0_1 a0_2 l0_3 l0_4=some r) :
  Calls Tryd.prog 23 #[.agg #[.slice A0_0 l0_0.length c0_0,.int .i64 a0_1,.int .i64 a0_2,.slice A0_3 l0_3.length c0_3,.slice A0_4 l0_4.length c0_4]] w fun e w' => e=.returned (.string r)∧Below w.heap.size w w':=by
 have hu26:=Tryd.underlying26
 have HR0_0:=Aside0.mk hr0_0
 have HC0_0:=Aside0.mk hc0_0
 clear hr0_0 hc0_0
 have HR0_3:=Aside0.mk hr0_3
 have HC0_3:=Aside0.mk hc0_3
 clear hr0_3 hc0_3
 have HR0_4:=Aside0.mk hr0_4
 have HC0_4:=Aside0.mk hc0_4
 clear hr0_4 hc0_4
 have HB:=Aside0.mk (Below.refl w.heap.size w)
 have H:((pool_Class.f l0_0 a0_1).bind fun bt429 => (some bt429.1))=some r:=h
 clear h
 replace H:=Option.bind_eq_some_iff.mp H
 obtain ⟨⟨t429,t430⟩,A20,H⟩:=H
 try dsimp only at H
 have A2:=Aside0.mk A20
 clear A20
 obtain rfl:=Option.some.inj H
 go_enter Tryd.func23,Tryd.ntmps23
 go_wp2_with (first|((with_reducible refine gate_dst (N:=1) rfl ?_);refine box_event ?hg (N:=1) ?hd (cs:=#[.slice A0_0 l0_0.length c0_0,.int .i64 a0_1,.int .i64 a0_2,.slice A0_3 l0_3.length c0_3,.slice A0_4 l0_4.length c0_4]) (t:=26) ?hr ?_;(case hd => rfl);(case hg => rfl);(case hr => first|(go_simp;done)|(go_simp;rfl));intro gb428 hg w3 hbox hb;have n0_:=Aside0.mk (below_step bl_ hb);have n1_:=Aside0.mk (hbox);have n2_:=Aside0.mk ((by rw [hg];exact (below_size bl_):w.heap.size≤gb428));have n3_:=Aside0.mk ((by rw [hg];exact (below_size bl_):w.heap.size≤gb428));clear HB;have HB:=n0_;have BK428:=n1_;have GW428:=n2_;have GE428:=n3_;clear n0_ n1_ n2_ n3_;clear hb hbox hg;obtain ⟨hcz4_0,hcz4_1,hcz4_2,hcz4_3,hcz4_4⟩:=blc5_ BK428.out;have hfz4_0:=blk_frozen BK428.out 0;have hfz4_1:=blk_frozen BK428.out 1;have hfz4_2:=blk_frozen BK428.out 2;have hfz4_3:=blk_frozen BK428.out 3;have hfz4_4:=blk_frozen BK428.out 4)|(refine callA_ (f:=41) (some 10) Tryd.func41 #[.slice A0_0 l0_0.length c0_0,.int .i64 a0_1] ?_;(with_reducible refine (pool_Class.calls _ _ l0_0 a0_1 t429 t430 _ ?side1 ?side2 A2.out).mono ?_);(case side1 => exact kc_ (Kd.C_below HR0_0.out HB.out));(case side2 => exact HC0_0.out);rintro e w' ⟨rfl,⟨nd,rfl⟩⟩;refine ⟨_,rfl,?_⟩))
 go_ret
 exact ⟨ew_,bl_⟩
end Go.Proofs.YtmloaijagkebpaaDoor.Px
namespace Go.Proofs.YtmloaijagkebpaaDoor.Px
open Go.RowKit Go.Proofs.YtmloaijagkebpaaDoorW.PrintWords Go.Proofs.YtmloaijagkebpaaDoorW.PrintLast Go.Proofs.YtmloaijagkebpaaDoorW.PrintMore
set_option linter.unusedVariables false
set_option linter.unusedSimpArgs false
def beN:Nat→Int→List Int
 | 0,_ => []
 | n + 1,x => (x / 2 ^ (8 * n) % 256) :: beN n x
theorem beN_length:∀ n x,(beN n x).length=n
 | 0,_ => rfl
 | n + 1,x => by simp [beN,beN_length n x]
structure IsWr (B:Nat) (w:World) (g:Nat) (v:Value) (bs:List Int) (m:Int):Prop where
 ge:B≤g
 blk:w.heap[g]?=some (.cells #[v,.int .i64 m,.bool true] 74 (0,0))
 row:Kd.R (Kd.int .u8) 5 w B (fun _ => True) v bs
structure WrStep (B:Nat) (w w':World) (g:Nat) (v v':Value):Prop where
 below:Below B w w'
 keep:KeepBut w w' g v.ownBlock
 row:v'.ownBlock=v.ownBlock ∨ ∃ b,v'.ownBlock=some b∧w.heap.size≤b
def WrPost (B:Nat) (w:World) (g:Nat) (v:Value) (bs:List Int) (m:Int) (w':World):Prop:=∃ v',IsWr B w' g v' bs m∧WrStep B w w' g v v'
theorem IsWr.lt {B:Nat} {w:World} {g:Nat} {v:Value} {bs:List Int} {m:Int} (h:IsWr B w g v bs m):g < w.heap.size:=blk_lt h.blk
theorem IsWr.cell {B:Nat} {w:World} {g:Nat} {v:Value} {bs:List Int} {m:Int} (h:IsWr B w g v bs m):w.cell? ⟨g,0,none⟩=some v∧w.cell? ⟨g,1,none⟩=some (.int .i64 m)∧w.cell? ⟨g,2,none⟩=some (.bool true) :=
 ⟨(blk_cell h.blk 0).trans rfl,(blk_cell h.blk 1).trans rfl,(blk_cell h.blk 2).trans rfl⟩
theorem IsWr.drewN {B:Nat} {w:World} {g:Nat} {v:Value} {bs:List Int} {m:Int} (h:IsWr B w g v bs m) (n:Nat):IsWr B (w.drewN n) g v bs m:=⟨h.ge,h.blk,Kd.R_drewN h.row n⟩
theorem IsWr.ne {B:Nat} {w:World} {g:Nat} {v:Value} {bs:List Int} {m:Int} (h:IsWr B w g v bs m):some g ≠ v.ownBlock:=Kd.R_ne h.row h.blk (by decide)
theorem WrStep.refl (B:Nat) (w:World) (g:Nat) (v:Value):WrStep B w w g v v:=⟨Below.refl _ _,KeepBut.refl _ _ _,.inl rfl⟩
theorem WrStep.trans {B:Nat} {w w1 w2:World} {g:Nat} {v v1 v2:Value} (h:WrStep B w w1 g v v1) (k:WrStep B w1 w2 g v1 v2):WrStep B w w2 g v v2:=by
 have hs:=h.keep.1
 refine ⟨h.below.trans k.below,h.keep.trans k.keep h.row,?_⟩
 rcases k.row with e|⟨b,e,hb⟩
 ·rw [e];exact h.row
 ·exact .inr ⟨b,e,by omega⟩
theorem WrPost.trans {B:Nat} {w w1 w2:World} {g:Nat} {v v1:Value} {bs:List Int} {m:Int} (h:WrStep B w w1 g v v1) (k:WrPost B w1 g v1 bs m w2):WrPost B w g v bs m w2:=by
 obtain ⟨v2,h2,s2⟩:=k
 exact ⟨v2,h2,h.trans s2⟩
theorem wr_put {B:Nat} {wr w3:World} {g:Nat} {vr v1:Value} {cur cur1:List Int} {m:Int} (h:IsWr B wr g vr cur m) (hb:w3.heap[g]?=some (.cells #[vr,.int .i64 m,.bool true] 74 (0,0))) (hr:Kd.R (Kd.int .u8) 5 w3 B (fun _ => True) v1 cur1):IsWr B (w3.setCell ⟨g,0,none⟩ v1) g v1 cur1 m :=
 ⟨h.ge,blk_set hb 0 v1,Kd.R_set hr hb (by decide) 0 v1⟩
theorem wr_step {B:Nat} {w wr w3:World} {g:Nat} {v vr v1:Value} {cur:List Int} {m:Int} (hs:WrStep B w wr g v vr) (h:IsWr B wr g vr cur m) (hb:Below B w w3) {k:Nat} (hg:(wr.drewN k).grownBy w3 vr.ownBlock) (ho:v1.ownBlock=vr.ownBlock ∨ ∃ b,v1.ownBlock=some b∧(wr.drewN k).heap.size≤b) (u:Value):WrStep B w (w3.setCell ⟨g,0,none⟩ u) g v v1:=by
 have hk:KeepBut wr w3 g vr.ownBlock:=⟨hg.size,fun i hi _ hr => hg.block i hi hr⟩
 refine ⟨hb.setCell (p:=⟨g,0,none⟩) h.ge u,(hs.keep.trans hk hs.row).set_ 0 u,?_⟩
 rcases ho with e|⟨b,e,hbb⟩
 ·rw [e];exact hs.row
 ·exact .inr ⟨b,e,Nat.le_trans hs.keep.1 hbb⟩
theorem IsWr.below {B:Nat} {w w1:World} {g:Nat} {v:Value} {bs:List Int} {m:Int} (h:IsWr B w g v bs m) (hb:Below w.heap.size w w1):IsWr B w1 g v bs m:=⟨h.ge,(hb.block g h.lt).trans h.blk,Kd.R_below h.row hb⟩
theorem IsWr.base_le {B:Nat} {w:World} {g:Nat} {v:Value} {bs:List Int} {m:Int} (h:IsWr B w g v bs m):B≤w.heap.size:=Nat.le_trans h.ge (Nat.le_of_lt h.lt)
theorem IsWr.own_lt {B:Nat} {w:World} {g:Nat} {v:Value} {bs:List Int} {m:Int} (h:IsWr B w g v bs m) (k:Nat) (hk:v.ownBlock=some k):k < w.heap.size:=by
 obtain ⟨inner,ho⟩:=Kd.R_own h.row
 exact Go.Proofs.YtmloaijagkebpaaDoorW.PrintWords.own_lt ho k hk
structure WrFar (w:World) (g:Nat) (v:Value) (k:Nat):Prop where
 lt:k < w.heap.size
 ne:k ≠ g
 row:some k ≠ v.ownBlock
theorem WrStep.far {B:Nat} {w w1:World} {g k:Nat} {v v1:Value} (h:WrStep B w w1 g v v1) (f:WrFar w g v k):WrFar w1 g v1 k:=by
 refine ⟨Nat.lt_of_lt_of_le f.lt h.keep.1,f.ne,fun e => ?_⟩
 rcases h.row with q|⟨b,q,hb⟩
 ·rw [q] at e;exact f.row e
 ·rw [q] at e;injection e with e;have:=f.lt;omega
theorem WrStep.blk {B:Nat} {w w1:World} {g k:Nat} {v v1:Value} {o:Obj} (h:WrStep B w w1 g v v1) (f:WrFar w g v k) (hb:w.heap[k]?=some o):w1.heap[k]?=some o:=(h.keep.2 k f.lt f.ne f.row).trans hb
theorem IsWr.far_new {B:Nat} {w w1:World} {g k:Nat} {v:Value} {bs:List Int} {m:Int} (h:IsWr B w g v bs m) (hk:w.heap.size≤k) (hl:k < w1.heap.size):WrFar w1 g v k :=
 ⟨hl,fun e => by have:=h.lt;omega,fun e => by have:=h.own_lt k e.symm;omega⟩
theorem WrFar.below {w w1:World} {g k:Nat} {v:Value} (f:WrFar w g v k) (hs:w.heap.size≤w1.heap.size):WrFar w1 g v k:=⟨Nat.lt_of_lt_of_le f.lt hs,f.ne,f.row⟩
theorem WrStep.R {α:Type} {d:Kd α} {e:Nat} {B base:Nat} {w w1:World} {g:Nat} {v v1 u:Value} {ok:Nat→Prop} {xs:List α} (h:WrStep B w w1 g v v1) (hr:d.R e w base ok u xs) (hf:∀ k,base≤k→k < w.heap.size→WrFar w g v k):d.R e w1 base ok u xs :=
 Kd.R_mono (Kd.R_step (Kd.R_bound hr) (fun k hk hl => by have f:=hf k hk.2.1 hl;exact h.keep.2 k f.lt f.ne f.row)) (fun k hk => hk.1)
theorem none_no (g:Nat) (w:World) (h:w.cell? ⟨g,2,none⟩=some (.bool true)):Calls Tryd.prog 33 #[.pointer (some ⟨g,0,none⟩)] w fun e w' => e=.returned (.bool false)∧w=w':=by
 go_enter Tryd.func33,Tryd.ntmps33
 go_wp2
 go_ret
 exact ⟨rfl,rfl⟩
set_option maxHeartbeats 4000000 in
set_option maxRecDepth 100000 in
theorem put_u64.calls (B g:Nat) (v:Value) (bs:List Int) (m x:Int) (n:Nat) (w:World) (hI:IsWr B w g v bs m) (h1:1≤n) (h8:n≤8) (hx:0≤x) (hroom:(bs.length:Int) + n≤m) (hm:m≤1048576) :
  Calls Tryd.prog 30 #[.pointer (some ⟨g,0,none⟩),.int .i64 n,.int .u64 x,.bool true] w fun e w' => e=.returned (.int .i64 0)∧WrPost B w g v (bs++beN n x) m w':=by
 obtain ⟨c0,c1,c2⟩:=hI.cell
 obtain ⟨A,c,rfl⟩:=Kd.R_slice hI.row
 have t1:decide ((n:Int) < 1)=false:=decide_eq_false (by omega)
 have t2:decide ((8:Int) < (n:Int))=false:=decide_eq_false (by omega)
 have t3:decide (m - (bs.length:Int) < (n:Int))=false:=decide_eq_false (by omega)
 have HI:=Aside0.mk hI
 clear hI
 go_enter Tryd.func30,Tryd.ntmps30
 go_wp2_with (go_at_call 33;refine (none_no g _ c2).mono ?_;rintro e w' ⟨rfl,rfl⟩)
 go_quiet (fail)
 go_wp2
 go_loopw [1] (fun vi wr => ∃ (j:Nat) (cur:List Int) (vr:Value),vi=.int .i64 ((j:Int) - 1)∧Aside0 (j≤n)∧Aside0 (cur++beN j x=bs++beN n x)∧Aside0 (IsWr B wr g vr cur m)∧Aside0 (WrStep B w wr g (.slice A bs.length c) vr)) (fun vi _ => (intOf vi + 1).toNat)
 case atStart => exact ⟨n,bs,_,rfl,⟨Nat.le_refl _⟩,⟨rfl⟩,⟨HI.out.drewN _⟩,⟨⟨pw_below_drewN (Below.refl _ _) _,⟨Nat.le_refl _,fun _ _ _ _ => rfl⟩,.inl rfl⟩⟩⟩
 case round =>
  obtain ⟨j,cur,vr,rfl,HJ,HC,HR0,HS⟩:=hrel
  cases j with
  | zero =>
   have hz:decide ((0:Int)≤((0:Nat):Int) - 1)=false:=by decide
   go_wp2
   go_ret
   exact ⟨rfl,_,by have h:=HC.out;simp only [beN,List.append_nil] at h;rw [← h];exact HR0.out,HS.out⟩
  | succ i =>
   have HI:=HR0
   have HR:=Aside0.mk HR0.out.row
   have HB:=Aside0.mk HS.out.below
   have hi:i < 8:=by have:=HJ.out;omega
   have hii:((i + 1:Nat):Int) - 1=(i:Int):=by omega
   rw [hii]
   clear hii
   have hge:decide ((0:Int)≤(i:Int))=true:=decide_eq_true (by omega)
   have hw8:wrap64 (8 * (i:Int))=8 * (i:Int):=by unfold wrap64;omega
   have hw0:0≤8 * (i:Int):=by omega
   have hw64:8 * (i:Int)≤64:=by omega
   have hc0:wr.cell? ⟨g,0,none⟩=some vr:=HI.out.cell.1
   have HNE:=Aside0.mk HI.out.ne
   have HL:Aside0 (cur.length≤1048576):=⟨by have h:=congrArg List.length HC.out;simp [beN_length] at h;omega⟩
   go_wp2
   refine start_ (n:=15) (S:=fun w' => w'.cell? ⟨g,0,none⟩=some vr) (ds:=[14]) #[false,false,false,false,false,false,false,false,false,false,false,false,false,false,false] (by kernel_rfl) rfl rfl (hc0) (fun hHeld => ?_)
   refine pure_ (i:=0) (N:=some 38) (v:=?_) (a':=?_) #[true,false,false,false,false,false,false,false,false,false,false,false,false,false,false] rfl rfl (by kernel_rfl) (fun _ _ _ h => h) (Or.inl ⟨by rfl,?_⟩) ?_ ?_
   rotate_left
   ·intro w'
    go_simp
    with_reducible rfl
   rotate_left
   ·simp only [Act.put,List.setIfInBounds_toArray,List.set_cons_zero,List.set_cons_succ,i64_w,i32_w]
    rfl
   refine pure_ (i:=1) (N:=some 39) (v:=?_) (a':=?_) #[true,true,false,false,false,false,false,false,false,false,false,false,false,false,false] rfl rfl (by kernel_rfl) (fun _ _ _ h => h) (Or.inl ⟨by rfl,?_⟩) ?_ ?_
   rotate_left
   ·intro w'
    go_simp
    with_reducible rfl
   rotate_left
   ·simp only [Act.put,List.setIfInBounds_toArray,List.set_cons_zero,List.set_cons_succ,i64_w,i32_w]
    rfl
   refine pure_ (i:=2) (N:=some 40) (v:=?_) (a':=?_) #[true,true,true,false,false,false,false,false,false,false,false,false,false,false,false] rfl rfl (by kernel_rfl) (fun _ _ _ h => h) (Or.inl ⟨by rfl,?_⟩) ?_ ?_
   rotate_left
   ·intro w'
    go_simp
    with_reducible rfl
   rotate_left
   ·simp only [Act.put,List.setIfInBounds_toArray,List.set_cons_zero,List.set_cons_succ,i64_w,i32_w]
    rfl
   refine pure_ (i:=3) (N:=some 41) (v:=?_) (a':=?_) #[true,true,true,true,false,false,false,false,false,false,false,false,false,false,false] rfl rfl (by kernel_rfl) (fun _ _ _ h => h) (Or.inl ⟨by rfl,?_⟩) ?_ ?_
   rotate_left
   ·intro w'
    go_simp
    with_reducible rfl
   rotate_left
   ·simp only [Act.put,List.setIfInBounds_toArray,List.set_cons_zero,List.set_cons_succ,i64_w,i32_w]
    rfl
   refine pure_ (i:=5) (N:=some 43) (v:=?_) (a':=?_) #[true,true,true,true,false,true,false,false,false,false,false,false,false,false,false] rfl rfl (by kernel_rfl) (fun _ _ _ h => h) (Or.inl ⟨by rfl,?_⟩) ?_ ?_
   rotate_left
   ·intro w'
    go_simp
    with_reducible rfl
   rotate_left
   ·simp only [Act.put,List.setIfInBounds_toArray,List.set_cons_zero,List.set_cons_succ,i64_w,i32_w]
    rfl
   refine pure_ (i:=6) (N:=some 44) (v:=?_) (a':=?_) #[true,true,true,true,false,true,true,false,false,false,false,false,false,false,false] rfl rfl (by kernel_rfl) (fun _ _ _ h => h) (Or.inl ⟨by rfl,?_⟩) ?_ ?_
   rotate_left
   ·intro w'
    go_simp
    with_reducible rfl
   rotate_left
   ·simp only [Act.put,List.setIfInBounds_toArray,List.set_cons_zero,List.set_cons_succ,i64_w,i32_w]
    rfl
   refine pure_ (i:=7) (N:=some 45) (v:=?_) (a':=?_) #[true,true,true,true,false,true,true,true,false,false,false,false,false,false,false] rfl rfl (by kernel_rfl) (fun _ _ _ h => h) (Or.inl ⟨by rfl,?_⟩) ?_ ?_
   rotate_left
   ·intro w'
    go_simp
    with_reducible rfl
   rotate_left
   ·simp only [Act.put,List.setIfInBounds_toArray,List.set_cons_zero,List.set_cons_succ,i64_w,i32_w]
    rfl
   refine pure_ (i:=8) (N:=some 46) (v:=?_) (a':=?_) #[true,true,true,true,false,true,true,true,true,false,false,false,false,false,false] rfl rfl (by kernel_rfl) (fun _ _ _ h => h) (Or.inl ⟨by rfl,?_⟩) ?_ ?_
   rotate_left
   ·intro w'
    go_simp
    with_reducible rfl
   rotate_left
   ·simp only [Act.put,List.setIfInBounds_toArray,List.set_cons_zero,List.set_cons_succ,i64_w,i32_w]
    rfl
   refine pure_ (i:=9) (N:=some 47) (v:=?_) (a':=?_) #[true,true,true,true,false,true,true,true,true,true,false,false,false,false,false] rfl rfl (by kernel_rfl) (fun _ _ _ h => h) (Or.inl ⟨by rfl,?_⟩) ?_ ?_
   rotate_left
   ·intro w'
    go_simp
    with_reducible rfl
   rotate_left
   ·simp only [Act.put,List.setIfInBounds_toArray,List.set_cons_zero,List.set_cons_succ,i64_w,i32_w]
    rfl
   refine take_ (i:=4) (N:=some 42) (v:=?_) (a':=?_) #[true,true,true,true,true,true,true,true,true,true,false,false,false,false,false] rfl rfl (by kernel_rfl) (fun _ _ _ h => h) (Or.inl ⟨by rfl,?_⟩) hHeld ?_ ?_
   rotate_left
   ·intro w' s0
    go_simp
    with_reducible rfl
   rotate_left
   ·simp only [Act.put,List.setIfInBounds_toArray,List.set_cons_zero,List.set_cons_succ,i64_w,i32_w]
    rfl
   refine one_ (i:=10) (N:=some 48) #[true,true,true,true,true,true,true,true,true,true,true,false,false,false,false] rfl rfl (by kernel_rfl) (by decide) (fun K hK => ?_)
   refine value_ (w1:=?_) (v:=?_) (by rfl) rfl ?_ ?_
   rotate_left 2
   ·go_simp
    constructor
    ·rfl
    ·rfl
   refine hK.out _ _ ((by first|exact pw_cell_below ((Below.refl _ _).alloc (Nat.le_refl _) _) hHeld)) (fun hHeld => ?_)
   clear hK K
   refine norm_ (a':=?_) ?_ ?_
   rotate_left
   ·show Act.put _ (some 48) _=_
    simp only [Act.put,List.setIfInBounds_toArray,List.set_cons_zero,List.set_cons_succ,i64_w,i32_w]
    rfl
   refine one_ (i:=11) (N:=some 49) #[true,true,true,true,true,true,true,true,true,true,true,true,false,false,false] rfl rfl (by kernel_rfl) (by decide) (fun K hK => ?_)
   refine Kd.R_append_step (Kd.int .u8) (w0:=w) B (by rfl) (.tmp 42) (.tmp 48) 27 5 (.int .u8 0) 1 (by rfl) Tryd.underlying27 info5 rfl (by decide) (by decide) vr cur (x / 2 ^ (8 * i) % 256) [.int .u8 (x / 2 ^ (8 * i) % 256)] (fun _ => True) (fun _ => False) (by rfl) (by rfl) rfl (fun _ h => h.elim) (fun _ _ => trivial) (Kd.R_drewN HR.out 1) (pw_below_drewN HB.out 1) (by have:=HB.out.size;have:=HI.out.ge;have:=HI.out.lt;show B≤wr.heap.size;omega) (by have:=HL.out;omega) ?_
   intro v1 w3 hR3 hB3 hg3 ho3
   have HR3:=Aside0.mk hR3
   have HB3:=Aside0.mk hB3
   have HG3:=Aside0.mk hg3
   have HO3:=Aside0.mk ho3
   have hbk3:=blk_grown (w:=wr.drew) (show wr.drew.heap[g]?=some (.cells #[vr,.int .i64 m,.bool true] 74 (0,0)) from HI.out.blk) hg3 HNE.out
   have hc3:w3.cell? ⟨g,0,none⟩=some vr:=(blk_cell hbk3 0).trans rfl
   have hf3:=blk_frozen hbk3 0
   have HBK3:=Aside0.mk hbk3
   obtain ⟨A1,cp1,hv1⟩:=Kd.R_slice hR3
   simp only [List.length_append,List.length_singleton] at hv1
   subst hv1
   clear hR3 hB3 hg3 ho3 hbk3
   refine hK.out _ _ (hc3) (fun hHeld => ?_)
   clear hK K
   refine norm_ (a':=?_) ?_ ?_
   rotate_left
   ·show Act.put _ (some 49) _=_
    simp only [Act.put,List.setIfInBounds_toArray,List.set_cons_zero,List.set_cons_succ,i64_w,i32_w]
    rfl
   refine pure_ (i:=12) (N:=some 50) (v:=?_) (a':=?_) #[true,true,true,true,true,true,true,true,true,true,true,true,true,false,false] rfl rfl (by kernel_rfl) (fun _ _ _ h => h) (Or.inl ⟨by rfl,?_⟩) ?_ ?_
   rotate_left
   ·intro w'
    go_simp
    with_reducible rfl
   rotate_left
   ·simp only [Act.put,List.setIfInBounds_toArray,List.set_cons_zero,List.set_cons_succ,i64_w,i32_w]
    rfl
   refine pure_ (i:=13) (N:=some 51) (v:=?_) (a':=?_) #[true,true,true,true,true,true,true,true,true,true,true,true,true,true,false] rfl rfl (by kernel_rfl) (fun _ _ _ h => h) (Or.inl ⟨by rfl,?_⟩) ?_ ?_
   rotate_left
   ·intro w'
    go_simp
    with_reducible rfl
   rotate_left
   ·simp only [Act.put,List.setIfInBounds_toArray,List.set_cons_zero,List.set_cons_succ,i64_w,i32_w]
    rfl
   refine last_ (i:=14) (N:=none) #[true,true,true,true,true,true,true,true,true,true,true,true,true,true,true] rfl rfl (by kernel_rfl) (by decide) (fun K hK => ?_)
   refine skip_ (w1:=?_) (by rfl) rfl ?_ ?_
   rotate_left
   ·go_simp
    rfl
   refine hK.out _ _ ?_
   clear hK K
   refine done_ (by kernel_rfl) ?_
   go_wp2
   go_roundw
   case measure => simp [intOf]
   case rel => exact ⟨i,cur++[x / 2 ^ (8 * i) % 256],_,rfl,⟨by have:=HJ.out;omega⟩,⟨by rw [← HC.out,List.append_assoc];rfl⟩,⟨wr_put HI.out HBK3.out HR3.out⟩,⟨wr_step (k:=1) HS.out HI.out HB3.out HG3.out HO3.out _⟩⟩
set_option maxHeartbeats 4000000 in
set_option maxRecDepth 100000 in
theorem put_i64.calls (B g:Nat) (v:Value) (bs:List Int) (m x:Int) (n:Nat) (w:World) (hI:IsWr B w g v bs m) (h1:1≤n) (h8:n≤8) (hroom:(bs.length:Int) + n≤m) (hm:m≤1048576) :
  Calls Tryd.prog 48 #[.pointer (some ⟨g,0,none⟩),.int .i64 n,.int .i64 x,.bool true] w fun e w' => e=.returned (.int .i64 0)∧WrPost B w g v (bs++beN n x) m w':=by
 obtain ⟨c0,c1,c2⟩:=hI.cell
 obtain ⟨A,c,rfl⟩:=Kd.R_slice hI.row
 have t1:decide ((n:Int) < 1)=false:=decide_eq_false (by omega)
 have t2:decide ((8:Int) < (n:Int))=false:=decide_eq_false (by omega)
 have t3:decide (m - (bs.length:Int) < (n:Int))=false:=decide_eq_false (by omega)
 have HI:=Aside0.mk hI
 clear hI
 go_enter Tryd.func48,Tryd.ntmps48
 go_wp2_with (go_at_call 33;refine (none_no g _ c2).mono ?_;rintro e w' ⟨rfl,rfl⟩)
 go_quiet (fail)
 go_wp2
 go_loopw [1] (fun vi wr => ∃ (j:Nat) (cur:List Int) (vr:Value),vi=.int .i64 ((j:Int) - 1)∧Aside0 (j≤n)∧Aside0 (cur++beN j x=bs++beN n x)∧Aside0 (IsWr B wr g vr cur m)∧Aside0 (WrStep B w wr g (.slice A bs.length c) vr)) (fun vi _ => (intOf vi + 1).toNat)
 case atStart => exact ⟨n,bs,_,rfl,⟨Nat.le_refl _⟩,⟨rfl⟩,⟨HI.out.drewN _⟩,⟨⟨pw_below_drewN (Below.refl _ _) _,⟨Nat.le_refl _,fun _ _ _ _ => rfl⟩,.inl rfl⟩⟩⟩
 case round =>
  obtain ⟨j,cur,vr,rfl,HJ,HC,HR0,HS⟩:=hrel
  cases j with
  | zero =>
   have hz:decide ((0:Int)≤((0:Nat):Int) - 1)=false:=by decide
   go_wp2
   go_ret
   exact ⟨rfl,_,by have h:=HC.out;simp only [beN,List.append_nil] at h;rw [← h];exact HR0.out,HS.out⟩
  | succ i =>
   have HI:=HR0
   have HR:=Aside0.mk HR0.out.row
   have HB:=Aside0.mk HS.out.below
   have hi:i < 8:=by have:=HJ.out;omega
   have hii:((i + 1:Nat):Int) - 1=(i:Int):=by omega
   rw [hii]
   clear hii
   have hge:decide ((0:Int)≤(i:Int))=true:=decide_eq_true (by omega)
   have hw8:wrap64 (8 * (i:Int))=8 * (i:Int):=by unfold wrap64;omega
   have hw0:0≤8 * (i:Int):=by omega
   have hw64:8 * (i:Int)≤64:=by omega
   have hc0:wr.cell? ⟨g,0,none⟩=some vr:=HI.out.cell.1
   have HNE:=Aside0.mk HI.out.ne
   have HL:Aside0 (cur.length≤1048576):=⟨by have h:=congrArg List.length HC.out;simp [beN_length] at h;omega⟩
   go_wp2
   refine start_ (n:=15) (S:=fun w' => w'.cell? ⟨g,0,none⟩=some vr) (ds:=[14]) #[false,false,false,false,false,false,false,false,false,false,false,false,false,false,false] (by kernel_rfl) rfl rfl (hc0) (fun hHeld => ?_)
   refine pure_ (i:=0) (N:=some 38) (v:=?_) (a':=?_) #[true,false,false,false,false,false,false,false,false,false,false,false,false,false,false] rfl rfl (by kernel_rfl) (fun _ _ _ h => h) (Or.inl ⟨by rfl,?_⟩) ?_ ?_
   rotate_left
   ·intro w'
    go_simp
    with_reducible rfl
   rotate_left
   ·simp only [Act.put,List.setIfInBounds_toArray,List.set_cons_zero,List.set_cons_succ,i64_w,i32_w]
    rfl
   refine pure_ (i:=1) (N:=some 39) (v:=?_) (a':=?_) #[true,true,false,false,false,false,false,false,false,false,false,false,false,false,false] rfl rfl (by kernel_rfl) (fun _ _ _ h => h) (Or.inl ⟨by rfl,?_⟩) ?_ ?_
   rotate_left
   ·intro w'
    go_simp
    with_reducible rfl
   rotate_left
   ·simp only [Act.put,List.setIfInBounds_toArray,List.set_cons_zero,List.set_cons_succ,i64_w,i32_w]
    rfl
   refine pure_ (i:=2) (N:=some 40) (v:=?_) (a':=?_) #[true,true,true,false,false,false,false,false,false,false,false,false,false,false,false] rfl rfl (by kernel_rfl) (fun _ _ _ h => h) (Or.inl ⟨by rfl,?_⟩) ?_ ?_
   rotate_left
   ·intro w'
    go_simp
    with_reducible rfl
   rotate_left
   ·simp only [Act.put,List.setIfInBounds_toArray,List.set_cons_zero,List.set_cons_succ,i64_w,i32_w]
    rfl
   refine pure_ (i:=3) (N:=some 41) (v:=?_) (a':=?_) #[true,true,true,true,false,false,false,false,false,false,false,false,false,false,false] rfl rfl (by kernel_rfl) (fun _ _ _ h => h) (Or.inl ⟨by rfl,?_⟩) ?_ ?_
   rotate_left
   ·intro w'
    go_simp
    with_reducible rfl
   rotate_left
   ·simp only [Act.put,List.setIfInBounds_toArray,List.set_cons_zero,List.set_cons_succ,i64_w,i32_w]
    rfl
   refine pure_ (i:=5) (N:=some 43) (v:=?_) (a':=?_) #[true,true,true,true,false,true,false,false,false,false,false,false,false,false,false] rfl rfl (by kernel_rfl) (fun _ _ _ h => h) (Or.inl ⟨by rfl,?_⟩) ?_ ?_
   rotate_left
   ·intro w'
    go_simp
    with_reducible rfl
   rotate_left
   ·simp only [Act.put,List.setIfInBounds_toArray,List.set_cons_zero,List.set_cons_succ,i64_w,i32_w]
    rfl
   refine pure_ (i:=6) (N:=some 44) (v:=?_) (a':=?_) #[true,true,true,true,false,true,true,false,false,false,false,false,false,false,false] rfl rfl (by kernel_rfl) (fun _ _ _ h => h) (Or.inl ⟨by rfl,?_⟩) ?_ ?_
   rotate_left
   ·intro w'
    go_simp
    with_reducible rfl
   rotate_left
   ·simp only [Act.put,List.setIfInBounds_toArray,List.set_cons_zero,List.set_cons_succ,i64_w,i32_w]
    rfl
   refine pure_ (i:=7) (N:=some 45) (v:=?_) (a':=?_) #[true,true,true,true,false,true,true,true,false,false,false,false,false,false,false] rfl rfl (by kernel_rfl) (fun _ _ _ h => h) (Or.inl ⟨by rfl,?_⟩) ?_ ?_
   rotate_left
   ·intro w'
    go_simp
    with_reducible rfl
   rotate_left
   ·simp only [Act.put,List.setIfInBounds_toArray,List.set_cons_zero,List.set_cons_succ,i64_w,i32_w]
    rfl
   refine pure_ (i:=8) (N:=some 46) (v:=?_) (a':=?_) #[true,true,true,true,false,true,true,true,true,false,false,false,false,false,false] rfl rfl (by kernel_rfl) (fun _ _ _ h => h) (Or.inl ⟨by rfl,?_⟩) ?_ ?_
   rotate_left
   ·intro w'
    go_simp
    with_reducible rfl
   rotate_left
   ·simp only [Act.put,List.setIfInBounds_toArray,List.set_cons_zero,List.set_cons_succ,i64_w,i32_w]
    rfl
   refine pure_ (i:=9) (N:=some 47) (v:=?_) (a':=?_) #[true,true,true,true,false,true,true,true,true,true,false,false,false,false,false] rfl rfl (by kernel_rfl) (fun _ _ _ h => h) (Or.inl ⟨by rfl,?_⟩) ?_ ?_
   rotate_left
   ·intro w'
    go_simp
    with_reducible rfl
   rotate_left
   ·simp only [Act.put,List.setIfInBounds_toArray,List.set_cons_zero,List.set_cons_succ,i64_w,i32_w]
    rfl
   refine take_ (i:=4) (N:=some 42) (v:=?_) (a':=?_) #[true,true,true,true,true,true,true,true,true,true,false,false,false,false,false] rfl rfl (by kernel_rfl) (fun _ _ _ h => h) (Or.inl ⟨by rfl,?_⟩) hHeld ?_ ?_
   rotate_left
   ·intro w' s0
    go_simp
    with_reducible rfl
   rotate_left
   ·simp only [Act.put,List.setIfInBounds_toArray,List.set_cons_zero,List.set_cons_succ,i64_w,i32_w]
    rfl
   refine one_ (i:=10) (N:=some 48) #[true,true,true,true,true,true,true,true,true,true,true,false,false,false,false] rfl rfl (by kernel_rfl) (by decide) (fun K hK => ?_)
   refine value_ (w1:=?_) (v:=?_) (by rfl) rfl ?_ ?_
   rotate_left 2
   ·go_simp
    constructor
    ·rfl
    ·rfl
   refine hK.out _ _ ((by first|exact pw_cell_below ((Below.refl _ _).alloc (Nat.le_refl _) _) hHeld)) (fun hHeld => ?_)
   clear hK K
   refine norm_ (a':=?_) ?_ ?_
   rotate_left
   ·show Act.put _ (some 48) _=_
    simp only [Act.put,List.setIfInBounds_toArray,List.set_cons_zero,List.set_cons_succ,i64_w,i32_w]
    rfl
   refine one_ (i:=11) (N:=some 49) #[true,true,true,true,true,true,true,true,true,true,true,true,false,false,false] rfl rfl (by kernel_rfl) (by decide) (fun K hK => ?_)
   refine Kd.R_append_step (Kd.int .u8) (w0:=w) B (by rfl) (.tmp 42) (.tmp 48) 27 5 (.int .u8 0) 1 (by rfl) Tryd.underlying27 info5 rfl (by decide) (by decide) vr cur (x / 2 ^ (8 * i) % 256) [.int .u8 (x / 2 ^ (8 * i) % 256)] (fun _ => True) (fun _ => False) (by rfl) (by rfl) rfl (fun _ h => h.elim) (fun _ _ => trivial) (Kd.R_drewN HR.out 1) (pw_below_drewN HB.out 1) (by have:=HB.out.size;have:=HI.out.ge;have:=HI.out.lt;show B≤wr.heap.size;omega) (by have:=HL.out;omega) ?_
   intro v1 w3 hR3 hB3 hg3 ho3
   have HR3:=Aside0.mk hR3
   have HB3:=Aside0.mk hB3
   have HG3:=Aside0.mk hg3
   have HO3:=Aside0.mk ho3
   have hbk3:=blk_grown (w:=wr.drew) (show wr.drew.heap[g]?=some (.cells #[vr,.int .i64 m,.bool true] 74 (0,0)) from HI.out.blk) hg3 HNE.out
   have hc3:w3.cell? ⟨g,0,none⟩=some vr:=(blk_cell hbk3 0).trans rfl
   have hf3:=blk_frozen hbk3 0
   have HBK3:=Aside0.mk hbk3
   obtain ⟨A1,cp1,hv1⟩:=Kd.R_slice hR3
   simp only [List.length_append,List.length_singleton] at hv1
   subst hv1
   clear hR3 hB3 hg3 ho3 hbk3
   refine hK.out _ _ (hc3) (fun hHeld => ?_)
   clear hK K
   refine norm_ (a':=?_) ?_ ?_
   rotate_left
   ·show Act.put _ (some 49) _=_
    simp only [Act.put,List.setIfInBounds_toArray,List.set_cons_zero,List.set_cons_succ,i64_w,i32_w]
    rfl
   refine pure_ (i:=12) (N:=some 50) (v:=?_) (a':=?_) #[true,true,true,true,true,true,true,true,true,true,true,true,true,false,false] rfl rfl (by kernel_rfl) (fun _ _ _ h => h) (Or.inl ⟨by rfl,?_⟩) ?_ ?_
   rotate_left
   ·intro w'
    go_simp
    with_reducible rfl
   rotate_left
   ·simp only [Act.put,List.setIfInBounds_toArray,List.set_cons_zero,List.set_cons_succ,i64_w,i32_w]
    rfl
   refine pure_ (i:=13) (N:=some 51) (v:=?_) (a':=?_) #[true,true,true,true,true,true,true,true,true,true,true,true,true,true,false] rfl rfl (by kernel_rfl) (fun _ _ _ h => h) (Or.inl ⟨by rfl,?_⟩) ?_ ?_
   rotate_left
   ·intro w'
    go_simp
    with_reducible rfl
   rotate_left
   ·simp only [Act.put,List.setIfInBounds_toArray,List.set_cons_zero,List.set_cons_succ,i64_w,i32_w]
    rfl
   refine last_ (i:=14) (N:=none) #[true,true,true,true,true,true,true,true,true,true,true,true,true,true,true] rfl rfl (by kernel_rfl) (by decide) (fun K hK => ?_)
   refine skip_ (w1:=?_) (by rfl) rfl ?_ ?_
   rotate_left
   ·go_simp
    rfl
   refine hK.out _ _ ?_
   clear hK K
   refine done_ (by kernel_rfl) ?_
   go_wp2
   go_roundw
   case measure => simp [intOf]
   case rel => exact ⟨i,cur++[x / 2 ^ (8 * i) % 256],_,rfl,⟨by have:=HJ.out;omega⟩,⟨by rw [← HC.out,List.append_assoc];rfl⟩,⟨wr_put HI.out HBK3.out HR3.out⟩,⟨wr_step (k:=1) HS.out HI.out HB3.out HG3.out HO3.out _⟩⟩
theorem shr_zero {x:Int} {n:Nat} (h0:0≤x) (h:x < 2 ^ (8 * n)):x / 2 ^ (8 * n)=0:=Int.ediv_eq_zero_of_lt h0 h
set_option maxHeartbeats 4000000 in
set_option maxRecDepth 100000 in
theorem wr_Uint.calls (B g:Nat) (v:Value) (bs:List Int) (m x:Int) (n:Nat) (w:World) (hI:IsWr B w g v bs m) (h1:1≤n) (h8:n≤8) (hx:0≤x) (hx2:x < 2 ^ (8 * n)) (hroom:(bs.length:Int) + n≤m) (hm:m≤1048576) :
  Calls Tryd.prog 9 #[.pointer (some ⟨g,0,none⟩),.int .i64 n,.int .u64 x] w fun e w' => e=.returned (.int .i64 0)∧WrPost B w g v (bs++beN n x) m w':=by
 have t1:decide ((n:Int) < 1)=false:=decide_eq_false (by omega)
 have HC:=Aside0.mk (put_u64.calls B g v bs m x n w hI h1 h8 hx hroom hm)
 by_cases h7:n=8
 ·have t2:decide ((7:Int) < (n:Int))=true:=decide_eq_true (by omega)
  clear hx2 hI h7
  go_enter Tryd.func9,Tryd.ntmps9
  go_wp2_with fail
  with_reducible refine HC.out.mono ?_
  rintro e w' ⟨rfl,hp⟩
  have HP:=Aside0.mk hp
  clear hp
  go_wp2
  go_ret
  exact ⟨rfl,HP.out⟩
 ·have t2:decide ((7:Int) < (n:Int))=false:=decide_eq_false (by omega)
  have hw8:wrap64 (8 * (n:Int))=8 * (n:Int):=by unfold wrap64;omega
  have hw0:0≤8 * (n:Int):=by omega
  have hw64:8 * (n:Int)≤64:=by omega
  have hz:(x / 2 ^ (8 * n)==0)=true:=beq_iff_eq.mpr (shr_zero hx hx2)
  clear hx2 hI h7
  go_enter Tryd.func9,Tryd.ntmps9
  go_wp2_with fail
  with_reducible refine HC.out.mono ?_
  rintro e w' ⟨rfl,hp⟩
  have HP:=Aside0.mk hp
  clear hp
  go_wp2
  go_ret
  exact ⟨rfl,HP.out⟩
set_option maxHeartbeats 4000000 in
set_option maxRecDepth 100000 in
theorem wr_Int.calls (B g:Nat) (v:Value) (bs:List Int) (m x:Int) (n:Nat) (w:World) (hI:IsWr B w g v bs m) (h1:1≤n) (h8:n≤8) (hx:n≤7→x / 2 ^ (8 * n - 1)=0 ∨ x / 2 ^ (8 * n - 1)=-1) (hroom:(bs.length:Int) + n≤m) (hm:m≤1048576) :
  Calls Tryd.prog 32 #[.pointer (some ⟨g,0,none⟩),.int .i64 n,.int .i64 x] w fun e w' => e=.returned (.int .i64 0)∧WrPost B w g v (bs++beN n x) m w':=by
 have t1:decide ((1:Int)≤(n:Int))=true:=decide_eq_true (by omega)
 have HC:=Aside0.mk (put_i64.calls B g v bs m x n w hI h1 h8 hroom hm)
 by_cases h7:n=8
 ·have t2:decide ((n:Int)≤7)=false:=decide_eq_false (by omega)
  clear hx hI h7
  go_enter Tryd.func32,Tryd.ntmps32
  go_wp2_with fail
  with_reducible refine HC.out.mono ?_
  rintro e w' ⟨rfl,hp⟩
  have HP:=Aside0.mk hp
  clear hp
  go_wp2
  go_ret
  exact ⟨rfl,HP.out⟩
 ·have t2:decide ((n:Int)≤7)=true:=decide_eq_true (by omega)
  have hw8:wrap64 (8 * (n:Int))=8 * (n:Int):=by unfold wrap64;omega
  have hw9:wrap64 (8 * (n:Int) - 1)=8 * (n:Int) - 1:=by unfold wrap64;omega
  have hw0:0≤8 * (n:Int) - 1:=by omega
  have hw1:1≤8 * (n:Int):=by omega
  have hw64:8 * (n:Int) - 1≤64:=by omega
  have hx':=hx (by omega)
  obtain ⟨y,hy⟩:∃ y,y=x / 2 ^ (8 * n - 1):=⟨_,rfl⟩
  rw [← hy] at hx'
  have hy':x / 2 ^ (8 * n - 1)=y:=hy.symm
  clear hx hI h7 hy
  rcases hx' with h0|h0
  ·have e1:(y==0)=true:=beq_iff_eq.mpr h0
   clear h0
   go_enter Tryd.func32,Tryd.ntmps32
   go_wp2_with fail
   with_reducible refine HC.out.mono ?_
   rintro e w' ⟨rfl,hp⟩
   have HP:=Aside0.mk hp
   clear hp
   go_wp2
   go_ret
   exact ⟨rfl,HP.out⟩
  ·have e1:(y==0)=false:=beq_eq_false_iff_ne.mpr (by omega)
   have e2:(y==-1)=true:=beq_iff_eq.mpr h0
   clear h0
   go_enter Tryd.func32,Tryd.ntmps32
   go_wp2_with fail
   with_reducible refine HC.out.mono ?_
   rintro e w' ⟨rfl,hp⟩
   have HP:=Aside0.mk hp
   clear hp
   go_wp2
   go_ret
   exact ⟨rfl,HP.out⟩
set_option maxHeartbeats 4000000 in
set_option maxRecDepth 100000 in
theorem wr_Bytes.calls (B g:Nat) (v:Value) (bs ys:List Int) (m:Int) (A:Option Addr) (c:Nat) (w:World) (hI:IsWr B w g v bs m) (hy:(Kd.int .u8).C w A ys.length ys) (hroom:(bs.length:Int) + ys.length≤m) (hm:m≤1048576) :
  Calls Tryd.prog 11 #[.pointer (some ⟨g,0,none⟩),.slice A ys.length c] w fun e w' => e=.returned (.int .i64 0)∧WrPost B w g v (bs++ys) m w':=by
 obtain ⟨c0,c1,c2⟩:=hI.cell
 obtain ⟨A0,cp0,rfl⟩:=Kd.R_slice hI.row
 have t3:decide (m - (bs.length:Int) < (ys.length:Int))=false:=decide_eq_false (by omega)
 have HI:=Aside0.mk hI
 have HY:=Aside0.mk hy
 have HL:Aside0 (bs.length + ys.length≤1048576):=⟨by omega⟩
 have HNE:=Aside0.mk hI.ne
 clear hI hy
 go_enter Tryd.func11,Tryd.ntmps11
 go_wp2_with (go_at_call 33;refine (none_no g _ c2).mono ?_;rintro e w' ⟨rfl,rfl⟩)
 go_quiet (fail)
 go_wp2_with (at_builtin;refine Kd.R_append_row (Value.int .u8) (0:Int) (w0:=w) B rfl _ _ 27 5 (.int .u8 0) 1 rfl Tryd.underlying27 info5 rfl (by decide) _ bs ys A ys.length c (fun _ => True) rfl rfl (fun _ _ => trivial) (HI.out.drewN _).row (Kd.C_below HY.out (pw_below_drewN (Below.refl _ _) _)) (pw_below_drewN (Below.refl _ _) _) ?c5 ?c6 ?_)
 case c5 => have:=HI.out.ge;have:=HI.out.lt;show B≤w.heap.size;omega
 case c6 => have:=HL.out;omega
 intro v1 w3 hR3 hB3 hg3 ho3
 have HR3:=Aside0.mk hR3
 have HB3:=Aside0.mk hB3
 have HG3:=Aside0.mk hg3
 have HO3:=Aside0.mk ho3
 have hbk3:=blk_grown (w:=w.drewN nq) (show (w.drewN nq).heap[g]?=some (.cells #[_,.int .i64 m,.bool true] 74 (0,0)) from HI.out.blk) hg3 HNE.out
 have hc3:=(blk_cell hbk3 0).trans rfl
 have hf3:=blk_frozen hbk3 0
 have HBK3:=Aside0.mk hbk3
 obtain ⟨A1,cp1,hv1⟩:=Kd.R_slice hR3
 simp only [List.length_append] at hv1
 subst hv1
 clear hR3 hB3 hg3 ho3 hbk3
 go_wp2
 go_ret
 exact ⟨rfl,_,wr_put HI.out HBK3.out HR3.out,wr_step (WrStep.refl B w g _) HI.out HB3.out HG3.out HO3.out _⟩
set_option maxHeartbeats 4000000 in
set_option maxRecDepth 100000 in
theorem wr_Out.calls (B g:Nat) (v:Value) (bs:List Int) (m:Int) (w:World) (hI:IsWr B w g v bs m) (hroom:bs.length≤1048576) :
  Calls Tryd.prog 16 #[.pointer (some ⟨g,0,none⟩)] w fun e w' => ∃ v0_:Value,e=.returned v0_∧Kd.R (Kd.int .u8) 5 w' w.heap.size (fun _ => True) v0_ bs∧Below w.heap.size w w':=by
 obtain ⟨c0,c1,c2⟩:=hI.cell
 obtain ⟨A0,cp0,rfl,hcp,hC⟩:=Kd.R_reads hI.row
 have HC:=Aside0.mk hC
 clear hI hC
 go_enter Tryd.func16,Tryd.ntmps16
 go_wp2_with (first|(go_at_call 33;refine (none_no g _ c2).mono ?_;rintro e w' ⟨rfl,rfl⟩)|(at_builtin;refine Kd.R_append_row (Value.int .u8) (0:Int) (w0:=w) w.heap.size rfl _ _ 27 5 (.int .u8 0) 1 rfl Tryd.underlying27 info5 rfl (by decide) (.slice none 0 0) [] bs A0 bs.length cp0 (fun _ => True) rfl rfl (fun _ _ => trivial) (Kd.R_nil _ _ _ _ _) HC.out (Below.refl _ _) (Nat.le_refl _) ?c6 ?_))
 case c6 => simp only [List.length_nil];omega
 intro v1 w3 hR3 hB3 hg3 ho3
 have HR3:=Aside0.mk hR3
 have HB3:=Aside0.mk hB3
 clear hR3 hB3 hg3 ho3
 go_wp2
 go_ret
 exact ⟨_,rfl,HR3.out,HB3.out⟩
set_option maxHeartbeats 4000000 in
set_option maxRecDepth 100000 in
theorem wr_New.calls (m:Int) (w:World) (h0:0≤m) (h1:m≤1048576) :
  Calls Tryd.prog 29 #[.int .i64 m] w fun e w' => e=.returned (.tuple #[.pointer (some ⟨w.heap.size,0,none⟩),.int .i64 0])∧IsWr w.heap.size w' w.heap.size (.slice none 0 0) [] m∧Below w.heap.size w w':=by
 have t1:decide (m < 0)=false:=decide_eq_false (by omega)
 have t2:decide (1048576 < m)=false:=decide_eq_false (by omega)
 go_enter Tryd.func29,Tryd.ntmps29
 go_wp2
 go_ret2
 refine ⟨rfl,⟨Nat.le_refl _,blk_new _ _,Kd.R_nil _ _ _ _ _⟩,below_alloc (Below.refl _ _) _⟩
end Go.Proofs.YtmloaijagkebpaaDoor.Px
namespace Go.Proofs.YtmloaijagkebpaaDoor.Px
open Go.RowKit Go.Proofs.YtmloaijagkebpaaDoorW.PrintWords Go.Proofs.YtmloaijagkebpaaDoorW.PrintLast Go.Proofs.YtmloaijagkebpaaDoorW.PrintMore
theorem row_C {w:World} {base:Nat} {ok:Nat→Prop} {A:Option Addr} {c n:Nat} {xs:List Int} (h:Kd.R (Kd.int .u8) 5 w base ok (.slice A n c) xs):(Kd.int .u8).C w A xs.length xs:=by
 obtain ⟨A',c',e,_,hC⟩:=Kd.R_reads h
 injection e with e1 e2 e3
 rw [e1]
 exact hC
end Go.Proofs.YtmloaijagkebpaaDoor.Px
namespace Go.Proofs.YtmloaijagkebpaaDoor.Px
open Go.RowKit Go.Proofs.YtmloaijagkebpaaDoorW.PrintWords Go.Proofs.YtmloaijagkebpaaDoorW.PrintLast Go.Proofs.YtmloaijagkebpaaDoorW.PrintMore
set_option linter.unusedVariables false
set_option linter.unusedSimpArgs false
def wU (n:Nat) (x:Int) (bs:List Int):Option (List Int):=if bs.length + n≤1048576∧0≤x∧x < 2 ^ (8 * n) then some (bs++beN n x) else none
def wI (n:Nat) (x:Int) (bs:List Int):Option (List Int):=if bs.length + n≤1048576∧(n≤7→x / 2 ^ (8 * n - 1)=0 ∨ x / 2 ^ (8 * n - 1)=-1) then some (bs++beN n x) else none
def wB (ys bs:List Int):Option (List Int):=if bs.length + ys.length≤1048576 then some (bs++ys) else none
theorem wU_some {n:Nat} {x:Int} {bs r:List Int} (h:wU n x bs=some r):(bs.length + n≤1048576∧0≤x∧x < 2 ^ (8 * n))∧bs++beN n x=r:=by
 unfold wU at h
 split at h
 ·rename_i hc;exact ⟨hc,Option.some.inj h⟩
 ·cases h
theorem wI_some {n:Nat} {x:Int} {bs r:List Int} (h:wI n x bs=some r):(bs.length + n≤1048576∧(n≤7→x / 2 ^ (8 * n - 1)=0 ∨ x / 2 ^ (8 * n - 1)=-1))∧bs++beN n x=r:=by
 unfold wI at h
 split at h
 ·rename_i hc;exact ⟨hc,Option.some.inj h⟩
 ·cases h
theorem wB_some {ys bs r:List Int} (h:wB ys bs=some r):bs.length + ys.length≤1048576∧bs++ys=r:=by
 unfold wB at h
 split at h
 ·rename_i hc;exact ⟨hc,Option.some.inj h⟩
 ·cases h
theorem wr_U {B g:Nat} {v:Value} {bs r:List Int} {x:Int} {n:Nat} {w:World} (hI:IsWr B w g v bs 1048576) (h1:1≤n) (h8:n≤8) (h:wU n x bs=some r) :
  Calls Tryd.prog 9 #[.pointer (some ⟨g,0,none⟩),.int .i64 n,.int .u64 x] w fun e w' => e=.returned (.int .i64 0)∧WrPost B w g v r 1048576 w':=by
 obtain ⟨⟨a,b,c⟩,rfl⟩:=wU_some h
 exact wr_Uint.calls B g v bs 1048576 x n w hI h1 h8 b c (by omega) (by omega)
theorem wr_I {B g:Nat} {v:Value} {bs r:List Int} {x:Int} {n:Nat} {w:World} (hI:IsWr B w g v bs 1048576) (h1:1≤n) (h8:n≤8) (h:wI n x bs=some r) :
  Calls Tryd.prog 32 #[.pointer (some ⟨g,0,none⟩),.int .i64 n,.int .i64 x] w fun e w' => e=.returned (.int .i64 0)∧WrPost B w g v r 1048576 w':=by
 obtain ⟨⟨a,b⟩,rfl⟩:=wI_some h
 exact wr_Int.calls B g v bs 1048576 x n w hI h1 h8 b (by omega) (by omega)
theorem wr_B {B g:Nat} {v:Value} {bs ys r:List Int} {A:Option Addr} {c:Nat} {w:World} (hI:IsWr B w g v bs 1048576) (hy:(Kd.int .u8).C w A ys.length ys) (h:wB ys bs=some r) :
  Calls Tryd.prog 11 #[.pointer (some ⟨g,0,none⟩),.slice A ys.length c] w fun e w' => e=.returned (.int .i64 0)∧WrPost B w g v r 1048576 w':=by
 obtain ⟨a,rfl⟩:=wB_some h
 exact wr_Bytes.calls B g v bs ys 1048576 A c w hI hy (by omega) (by omega)
def pool_Encode.one (k:Nat) (c:Cst) (bs:List Int):Option (List Int) :=
 (wU 1 c.f0 bs).bind fun b1 =>
  if c.f0=1 then (text_Encode.f k c.f1).bind fun t => (wU 2 (t.1.length:Int) b1).bind fun b2 => wB t.1 b2
  else if c.f0=3 then wI 4 c.f2 b1
  else if c.f0=5 then wI 8 c.f2 b1
  else (wU 2 c.f3 b1).bind fun b2 => if c.f0=7 then some b2 else wU 2 c.f4 b2
def pool_Encode.l0:Nat→List Cst→Nat→List Int→Option (List Int)
 | 0,_,_,_ => none
 | k + 1,p,i,bs => if i + 1 < p.length then (pool_Encode.one k (rd_T60 p (i + 1)) bs).bind fun b => pool_Encode.l0 k p (i + 1) b else if bs.length≤1048576 then some bs else none
def pool_Encode.f (k:Nat) (p:List Cst):Option (List Int × Int) :=
 (pool_Check.f k p).bind fun e => if e=0 then (if 0 < p.length∧p.length≤1024 then (wU 2 (p.length:Int) []).bind fun b0 => (pool_Encode.l0 k p 0 b0).bind fun b => some (b,0) else none) else some ([],e)
theorem pool_Encode.mono_one (k:Nat) (c:Cst) (bs:List Int):LeO (pool_Encode.one k c bs) (pool_Encode.one (k + 1) c bs):=by
 unfold pool_Encode.one
 refine LeO.bind (LeO.refl _) (fun _ => LeO.ite (LeO.bind (text_Encode.mono _ _) (fun _ => LeO.refl _)) (LeO.refl _))
theorem pool_Encode.mono_l:∀ k p i bs,LeO (pool_Encode.l0 k p i bs) (pool_Encode.l0 (k + 1) p i bs)
 | 0 => fun _ _ _ r h => by simp [pool_Encode.l0] at h
 | k + 1 => fun p i bs => by
  unfold pool_Encode.l0
  exact LeO.ite (LeO.bind (pool_Encode.mono_one _ _ _) (fun _ => pool_Encode.mono_l k _ _ _)) (LeO.refl _)
theorem pool_Encode.mono:∀ a0 k,LeO (pool_Encode.f k a0) (pool_Encode.f (k + 1) a0):=by
 intro a0 k
 unfold pool_Encode.f
 exact LeO.bind (pool_Check.mono _ _) (fun _ => LeO.ite (LeO.ite (LeO.bind (LeO.refl _) (fun _ => LeO.bind (pool_Encode.mono_l _ _ _ _) (fun _ => LeO.refl _))) (LeO.refl _)) (LeO.refl _))
set_option maxHeartbeats 80000000 in
set_option maxRecDepth 100000 in
theorem pool_Encode.calls (k:Nat) (A0:Option Addr) (c0:Nat) (p:List Cst) (r1:List Int) (r2:Int) (w:World) (hG:Aside0 (GG w)) (hr0:Kd.C k60 w A0 p.length p) (hc0:p.length≤c0) (h:pool_Encode.f k p=some (r1,r2)) :
  Calls Tryd.prog 10 #[.slice A0 p.length c0] w fun e w' => ∃ v0_:Value,e=.returned (.tuple #[v0_,.int .i64 r2])∧Kd.R (Kd.int .u8) 5 w' w.heap.size (fun _ => True) v0_ r1∧Below w.heap.size w w':=by
 unfold pool_Encode.f at h
 obtain ⟨e0,hE,h⟩:=Option.bind_eq_some_iff.mp h
 have HCk:=Aside0.mk (pool_Check.calls k A0 c0 p e0 w hG hr0 hc0 hE)
 have HR:=Aside0.mk hr0
 have HC:=Aside0.mk hc0
 clear hr0 hc0 hE
 by_cases he:e0=0
 ·rw [if_pos he] at h
  have heb:(e0 != 0)=false:=bne_eq_false_iff_eq.mpr he
  clear he
  by_cases hp:0 < p.length∧p.length≤1024
  ·rw [if_pos hp] at h
   obtain ⟨b0,hU,h⟩:=Option.bind_eq_some_iff.mp h
   obtain ⟨b,hL,h⟩:=Option.bind_eq_some_iff.mp h
   have H:=Option.some.inj h
   injection H with H1 H2
   subst H1
   subst H2
   have HU:=Aside0.mk hU
   have HL:=Aside0.mk hL
   have HP:=Aside0.mk hp
   obtain ⟨ad,ea,_⟩:=at_T60 HR.out 0 (by omega) (by omega)
   subst ea
   obtain ⟨i0,hi0,_,hsz,_⟩:=info_parts info60
   have hs1:=cut_from (P:=Tryd.prog) 22 60 .i64 Tryd.underlying22 hi0 5 hsz (some ad) p.length c0 1 (by decide) (by have:=HP.out;omega)
   obtain ⟨A1,hA1⟩:∃ A1,A1=(if c0=(1:Int).toNat then some ad else (some ad).map (·.add ((1:Int).toNat * 5))):=⟨_,rfl⟩
   rw [← hA1] at hs1
   have HD:=Aside0.mk (show Kd.C k60 w A1 (p.drop 1).length (p.drop 1) from by rw [hA1];exact Kd.C_drop (m:=1) (c:=c0) HR.out HP.out.1 HC.out)
   have hlp:(p.length:Int)≤1024:=by omega
   clear hA1 hU hL h hp
   go_enter Tryd.func10,Tryd.ntmps10
   go_wp2_with fail
   with_reducible refine HCk.out.mono ?_
   rintro e w1 ⟨rfl,hb1⟩
   have HB1:=Aside0.mk hb1
   clear hb1 HCk
   go_wp2_with fail
   refine (wr_New.calls 1048576 w1 (by decide) (by decide)).mono ?_
   rintro e w2 ⟨rfl,hI2,hb2⟩
   have HI2:=Aside0.mk hI2
   obtain ⟨g,hg⟩:∃ g,g=w1.heap.size:=⟨_,rfl⟩
   rw [← hg] at hI2 hb2 HI2
   rw [← hg]
   have HGG:=Aside0.mk hg
   have HB2:=Aside0.mk (show Below w1.heap.size w1 w2 from by rw [← hg];exact hb2)
   have HB2':=Aside0.mk (below_step HB1.out HB2.out)
   clear hg hI2 hb2
   go_wp2_with fail
   refine (wr_U (n:=2) HI2.out (by decide) (by decide) HU.out).mono ?_
   rintro e w3 ⟨rfl,v3,hI3,hS3⟩
   have HI3:=Aside0.mk hI3
   have HS3:=Aside0.mk hS3
   have HB3:=Aside0.mk (show Below w.heap.size w w3 from HB2'.out.trans (hS3.below.mono (by rw [HGG.out];exact HB1.out.size)))
   have HG1:=Aside0.mk (show w.heap.size≤g from by rw [HGG.out];exact HB1.out.size)
   clear hI3 hS3 HU
   go_wp2
   go_loopg [28] k (fun kq v28 w' => ∃ (i:Nat) (cur:List Int) (v:Value),v28=.int .i64 (i:Int)∧Aside0 (pool_Encode.l0 kq p i cur=some b)∧Aside0 (kq≤k)∧Aside0 (i + 1≤p.length)∧Aside0 (IsWr g w' g v cur 1048576)∧Aside0 (Below w.heap.size w w'))
   case atStart => exact ⟨0,_,_,rfl,HL,⟨Nat.le_refl _⟩,⟨HP.out.1⟩,HI3,HB3⟩
   case round =>
    obtain ⟨i,cur,vr,rfl,HA,HK,HI1,HI,HB⟩:=hrel
    cases gk with
    | zero => exact absurd HA.out (by simp [pool_Encode.l0])
    | succ k1 =>
    have H:=HA.out
    clear HA
    simp only [pool_Encode.l0] at H
    have hlen:(p.drop 1).length=p.length - 1:=List.length_drop
    by_cases hp:i + 1 < p.length
    ·rw [if_pos hp] at H
     have hpi:decide ((i:Int) < ((p.length - 1:Nat):Int))=true:=decide_eq_true (by omega)
     have hpn:decide (i < p.length - 1)=true:=decide_eq_true (by omega)
     have hpt:(i < p.length - 1)=True:=eq_true (by omega)
     have hge:(0≤(i:Int))=True:=eq_true (by omega)
     have hrd:rd_T60 p ((i:Int) + 1)=rd_T60 (p.drop 1) (i:Int):=by
      unfold rd_T60
      rw [Int.toNat_natCast,show ((i:Int) + 1).toNat=i + 1 by omega,List.getD_eq_getElem?_getD,List.getD_eq_getElem?_getD,List.getElem?_drop,Nat.add_comm]
     rw [hrd] at H
     obtain ⟨a1,ea,hx0,hx1,hx2,hx3,hx4⟩:=at_T60 (Kd.C_below HD.out HB.out) (i:Int) (by omega) (by omega)
     subst ea
     simp only [Int.toNat_natCast] at hx0 hx1 hx2 hx3 hx4
     obtain ⟨cc,hcc⟩:∃ cc,cc=rd_T60 (p.drop 1) (i:Int):=⟨_,rfl⟩
     rw [← hcc] at H hx0 hx1 hx2 hx3 hx4
     have HPI:=Aside0.mk (show i < 1024 from by omega)
     have hwi:wrap64 ((i:Int) + 1)=(i:Int) + 1:=by have:=HPI.out;unfold wrap64;omega
     clear hp hcc hrd
     obtain ⟨bn,hO,H⟩:=Option.bind_eq_some_iff.mp H
     have HN:=Aside0.mk H
     clear H
     unfold pool_Encode.one at hO
     obtain ⟨b1,hU1,hO⟩:=Option.bind_eq_some_iff.mp hO
     have HU1:=Aside0.mk hU1
     have hlo:=(wU_some hU1).1.2.1
     have hhi:cc.f0 < 256:=(wU_some hU1).1.2.2
     clear hU1
     have HBb:=Aside0.mk (below_alloc (Below.refl wr.heap.size wr) (.cells #[.int .i64 cc.f0,.string cc.f1,.int .i64 cc.f2,.int .i64 cc.f3,.int .i64 cc.f4] 60 (0,0)))
     have BK2:=Aside0.mk (blk_new wr (.cells #[.int .i64 cc.f0,.string cc.f1,.int .i64 cc.f2,.int .i64 cc.f3,.int .i64 cc.f4] 60 (0,0)))
     have HIa:=Aside0.mk (HI.out.below HBb.out)
     have HBa':=Aside0.mk (HB.out.trans (HBb.out.mono HB.out.size))
     have FRa:=Aside0.mk (HI.out.far_new (Nat.le_refl _) (blk_lt BK2.out))
     have BKa:=BK2
     have HBa:=HBa'
     clear BK2 HBb HBa'
     go_wp2_with fail
     refine (wr_U (n:=1) HIa.out (by decide) (by decide) HU1.out).mono ?_
     rintro e wb ⟨rfl,vb,hIb,hSb⟩
     have HIb:=Aside0.mk hIb
     have HBb:=Aside0.mk (HBa.out.trans (hSb.below.mono HG1.out))
     have BKb:=Aside0.mk (hSb.blk FRa.out BKa.out)
     have FRb:=Aside0.mk (hSb.far FRa.out)
     clear hIb hSb
     have hc0_b:wb.cell? ⟨wr.heap.size,0,none⟩=some (.int .i64 cc.f0):=(blk_cell BKb.out 0).trans rfl
     have hc1_b:wb.cell? ⟨wr.heap.size,1,none⟩=some (.string cc.f1):=(blk_cell BKb.out 1).trans rfl
     have hc2_b:wb.cell? ⟨wr.heap.size,2,none⟩=some (.int .i64 cc.f2):=(blk_cell BKb.out 2).trans rfl
     have hc3_b:wb.cell? ⟨wr.heap.size,3,none⟩=some (.int .i64 cc.f3):=(blk_cell BKb.out 3).trans rfl
     have hc4_b:wb.cell? ⟨wr.heap.size,4,none⟩=some (.int .i64 cc.f4):=(blk_cell BKb.out 4).trans rfl
     by_cases t1:cc.f0=1
     ·rw [if_pos t1] at hO
      obtain ⟨⟨tb,te⟩,hT,hO⟩:=Option.bind_eq_some_iff.mp hO
      obtain ⟨b2,hU2,hO⟩:=Option.bind_eq_some_iff.mp hO
      have q1:(cc.f0==1)=true:=beq_iff_eq.mpr t1
      have HT:=Aside0.mk hT
      have HU2:=Aside0.mk hU2
      have HW:=Aside0.mk hO
      have htl:(tb.length:Int) < 65536:=(wU_some hU2).1.2.2
      clear t1 hT hU2 hO
      go_wp2_with fail
      refine (text_Encode.calls k1 cc.f1 tb te _ ⟨GG.below hG.out HBb.out⟩ HT.out).mono ?_
      rintro e wt ⟨vt,rfl,hRt,hbt⟩
      obtain ⟨At,ct,hvt,hct,_⟩:=Kd.R_reads hRt
      subst hvt
      have HRt:=Aside0.mk hRt
      have HIt:=Aside0.mk (HIb.out.below hbt)
      have HBt:=Aside0.mk (below_step HBb.out hbt)
      have HF:=Aside0.mk (show ∀ k,wb.heap.size≤k→k < wt.heap.size→WrFar wt g vb k from fun k h1 h2 => HIb.out.far_new h1 h2)
      clear hRt hbt hc0_b hc1_b hc2_b hc3_b hc4_b
      go_wp2_with fail
      refine (wr_U (n:=2) HIt.out (by decide) (by decide) HU2.out).mono ?_
      rintro e wc ⟨rfl,vc,hIc,hSc⟩
      have HIc:=Aside0.mk hIc
      have HBc:=Aside0.mk (HBt.out.trans (hSc.below.mono HG1.out))
      have HRc:=Aside0.mk (hSc.R HRt.out HF.out)
      clear hIc hSc
      go_wp2_with fail
      refine (wr_B HIc.out (row_C HRc.out) HW.out).mono ?_
      rintro e wd ⟨rfl,vd,hId,hSd⟩
      have HId:=Aside0.mk hId
      have HBd:=Aside0.mk (HBc.out.trans (hSd.below.mono HG1.out))
      clear hId hSd
      go_wp2
      go_roundg k1
      case measure => have:=HK.out;omega
      case rel => exact ⟨i + 1,_,_,congrArg (Value.int .i64) (by omega),HN,⟨by have:=HK.out;omega⟩,⟨by have:=of_decide_eq_true hpn;omega⟩,HId,HBd⟩
     rw [if_neg t1] at hO
     have q1:(cc.f0==1)=false:=beq_eq_false_iff_ne.mpr t1
     by_cases t3:cc.f0=3
     ·rw [if_pos t3] at hO
      have q3:(cc.f0==3)=true:=beq_iff_eq.mpr t3
      have HW:=Aside0.mk hO
      clear t1 t3 hO
      go_wp2_with fail
      refine (wr_I (n:=4) HIb.out (by decide) (by decide) HW.out).mono ?_
      rintro e wc ⟨rfl,vc,hIc,hSc⟩
      have HIc:=Aside0.mk hIc
      have HBc:=Aside0.mk (HBb.out.trans (hSc.below.mono HG1.out))
      clear hIc hSc hc0_b hc1_b hc2_b hc3_b hc4_b
      go_wp2
      go_roundg k1
      case measure => have:=HK.out;omega
      case rel => exact ⟨i + 1,_,_,congrArg (Value.int .i64) (by omega),HN,⟨by have:=HK.out;omega⟩,⟨by have:=of_decide_eq_true hpn;omega⟩,HIc,HBc⟩
     rw [if_neg t3] at hO
     have q3:(cc.f0==3)=false:=beq_eq_false_iff_ne.mpr t3
     by_cases t5:cc.f0=5
     ·rw [if_pos t5] at hO
      have q5:(cc.f0==5)=true:=beq_iff_eq.mpr t5
      have HW:=Aside0.mk hO
      clear t1 t3 t5 hO
      go_wp2_with fail
      refine (wr_I (n:=8) HIb.out (by decide) (by decide) HW.out).mono ?_
      rintro e wc ⟨rfl,vc,hIc,hSc⟩
      have HIc:=Aside0.mk hIc
      have HBc:=Aside0.mk (HBb.out.trans (hSc.below.mono HG1.out))
      clear hIc hSc hc0_b hc1_b hc2_b hc3_b hc4_b
      go_wp2
      go_roundg k1
      case measure => have:=HK.out;omega
      case rel => exact ⟨i + 1,_,_,congrArg (Value.int .i64) (by omega),HN,⟨by have:=HK.out;omega⟩,⟨by have:=of_decide_eq_true hpn;omega⟩,HIc,HBc⟩
     rw [if_neg t5] at hO
     have q5:(cc.f0==5)=false:=beq_eq_false_iff_ne.mpr t5
     obtain ⟨b2,hU2,hO⟩:=Option.bind_eq_some_iff.mp hO
     have HU2:=Aside0.mk hU2
     have h20:=(wU_some hU2).1.2.1
     have h21:cc.f3 < 65536:=(wU_some hU2).1.2.2
     by_cases t7:cc.f0=7
     ·rw [if_pos t7] at hO
      obtain rfl:=Option.some.inj hO
      have q7:(cc.f0 != 7)=false:=bne_eq_false_iff_eq.mpr t7
      clear t1 t3 t5 t7 hO hU2
      go_wp2_with fail
      refine (wr_U (n:=2) HIb.out (by decide) (by decide) HU2.out).mono ?_
      rintro e wc ⟨rfl,vc,hIc,hSc⟩
      have HIc:=Aside0.mk hIc
      have HBc:=Aside0.mk (HBb.out.trans (hSc.below.mono HG1.out))
      have BKc:=Aside0.mk (hSc.blk FRb.out BKb.out)
      have FRc:=Aside0.mk (hSc.far FRb.out)
      clear hIc hSc hc0_b hc1_b hc2_b hc3_b hc4_b
      have hc0_c:wc.cell? ⟨wr.heap.size,0,none⟩=some (.int .i64 cc.f0):=(blk_cell BKc.out 0).trans rfl
      have hc1_c:wc.cell? ⟨wr.heap.size,1,none⟩=some (.string cc.f1):=(blk_cell BKc.out 1).trans rfl
      have hc2_c:wc.cell? ⟨wr.heap.size,2,none⟩=some (.int .i64 cc.f2):=(blk_cell BKc.out 2).trans rfl
      have hc3_c:wc.cell? ⟨wr.heap.size,3,none⟩=some (.int .i64 cc.f3):=(blk_cell BKc.out 3).trans rfl
      have hc4_c:wc.cell? ⟨wr.heap.size,4,none⟩=some (.int .i64 cc.f4):=(blk_cell BKc.out 4).trans rfl
      go_wp2
      go_roundg k1
      case measure => have:=HK.out;omega
      case rel => exact ⟨i + 1,_,_,congrArg (Value.int .i64) (by omega),HN,⟨by have:=HK.out;omega⟩,⟨by have:=of_decide_eq_true hpn;omega⟩,HIc,HBc⟩
     rw [if_neg t7] at hO
     have q7:(cc.f0 != 7)=true:=bne_iff_ne.mpr t7
     have HW:=Aside0.mk hO
     have h30:=(wU_some hO).1.2.1
     have h31:cc.f4 < 65536:=(wU_some hO).1.2.2
     clear t1 t3 t5 t7 hO hU2
     go_wp2_with fail
     refine (wr_U (n:=2) HIb.out (by decide) (by decide) HU2.out).mono ?_
     rintro e wc ⟨rfl,vc,hIc,hSc⟩
     have HIc:=Aside0.mk hIc
     have HBc:=Aside0.mk (HBb.out.trans (hSc.below.mono HG1.out))
     have BKc:=Aside0.mk (hSc.blk FRb.out BKb.out)
     have FRc:=Aside0.mk (hSc.far FRb.out)
     clear hIc hSc hc0_b hc1_b hc2_b hc3_b hc4_b
     have hc0_c:wc.cell? ⟨wr.heap.size,0,none⟩=some (.int .i64 cc.f0):=(blk_cell BKc.out 0).trans rfl
     have hc1_c:wc.cell? ⟨wr.heap.size,1,none⟩=some (.string cc.f1):=(blk_cell BKc.out 1).trans rfl
     have hc2_c:wc.cell? ⟨wr.heap.size,2,none⟩=some (.int .i64 cc.f2):=(blk_cell BKc.out 2).trans rfl
     have hc3_c:wc.cell? ⟨wr.heap.size,3,none⟩=some (.int .i64 cc.f3):=(blk_cell BKc.out 3).trans rfl
     have hc4_c:wc.cell? ⟨wr.heap.size,4,none⟩=some (.int .i64 cc.f4):=(blk_cell BKc.out 4).trans rfl
     go_wp2_with fail
     refine (wr_U (n:=2) HIc.out (by decide) (by decide) HW.out).mono ?_
     rintro e wd ⟨rfl,vd,hId,hSd⟩
     have HId:=Aside0.mk hId
     have HBd:=Aside0.mk (HBc.out.trans (hSd.below.mono HG1.out))
     clear hId hSd hc0_c hc1_c hc2_c hc3_c hc4_c
     go_wp2
     go_roundg k1
     case measure => have:=HK.out;omega
     case rel => exact ⟨i + 1,_,_,congrArg (Value.int .i64) (by omega),HN,⟨by have:=HK.out;omega⟩,⟨by have:=of_decide_eq_true hpn;omega⟩,HId,HBd⟩
    ·rw [if_neg hp] at H
     have hpi:decide ((i:Int) < ((p.length - 1:Nat):Int))=false:=decide_eq_false (by omega)
     have hpn:decide (i < p.length - 1)=false:=decide_eq_false (by omega)
     by_cases hl:cur.length≤1048576
     ·rw [if_pos hl] at H
      obtain rfl:=Option.some.inj H
      have HLn:=Aside0.mk hl
      clear hp H hl
      go_wp2_with fail
      refine (wr_Out.calls g g vr cur 1048576 _ HI.out HLn.out).mono ?_
      rintro e wo ⟨vo,rfl,hRo,hbo⟩
      have HRo:=Aside0.mk hRo
      have HBo:=Aside0.mk (below_step HB.out hbo)
      clear hRo hbo
      go_wp2
      go_ret2
      exact ⟨_,rfl,Kd.R_lower HRo.out HB.out.size,HBo.out⟩
     ·rw [if_neg hl] at H
      cases H
  ·rw [if_neg hp] at h
   cases h
 ·rw [if_neg he] at h
  have heb:(e0 != 0)=true:=bne_iff_ne.mpr he
  have H:=Option.some.inj h
  injection H with H1 H2
  subst H1
  subst H2
  clear he h
  go_enter Tryd.func10,Tryd.ntmps10
  go_wp2_with fail
  with_reducible refine HCk.out.mono ?_
  rintro e w1 ⟨rfl,hb1⟩
  have HB1:=Aside0.mk hb1
  clear hb1 HCk
  go_wp2
  go_ret2
  exact ⟨_,rfl,Kd.R_nil _ _ _ _ _,HB1.out⟩
end Go.Proofs.YtmloaijagkebpaaDoor.Px
namespace Go.Proofs.YtmloaijagkebpaaDoor.Px
open Go.RowKit Go.Proofs.YtmloaijagkebpaaDoorW.PrintWords Go.Proofs.YtmloaijagkebpaaDoorW.PrintLast Go.Proofs.YtmloaijagkebpaaDoorW.PrintMore
set_option linter.unusedVariables false
set_option linter.unusedSimpArgs false
theorem class_fresh.calls (w:World) :
  Calls Tryd.prog 8 #[] w fun e w' => ∃ g,e=.returned (.agg #[.pointer (some ⟨g,0,none⟩)])∧w.heap.size≤g∧IsWr w.heap.size w' g (.slice none 0 0) [] 1048576∧Below w.heap.size w w':=by
 go_enter Tryd.func8,Tryd.ntmps8
 go_wp2_with fail
 refine (wr_New.calls 1048576 _ (by decide) (by decide)).mono ?_
 rintro e w2 ⟨rfl,hI,hb⟩
 obtain ⟨wA,hwA⟩:∃ wA,wA=w.alloc (.cells #[.pointer none] 38 (0,0)):=⟨_,rfl⟩
 have hb1:Below w.heap.size w wA:=by rw [hwA];exact below_alloc (Below.refl _ _) _
 have hk:wA.heap[w.heap.size]?=some (.cells #[.pointer none] 38 (0,0)):=by rw [hwA];exact blk_new _ _
 have hsz:wA.heap.size=w.heap.size + 1:=by rw [hwA];simp
 rw [← hwA] at hI hb ⊢
 obtain ⟨g,hg⟩:∃ g,g=wA.heap.size:=⟨_,rfl⟩
 rw [← hg] at hI hb
 (try rw [← hg])
 have hk2:w2.heap[w.heap.size]?=some (.cells #[.pointer none] 38 (0,0)):=(hb.block _ (by omega)).trans hk
 have c2:w2.cell? ⟨w.heap.size,0,none⟩=some (.pointer none):=(blk_cell hk2 0).trans rfl
 have f2:w2.frozen? ⟨w.heap.size,0,none⟩=false:=blk_frozen hk2 0
 have HI:=Aside0.mk (show IsWr w.heap.size w2 g (.slice none 0 0) [] 1048576 from ⟨by omega,hI.blk,Kd.R_nil _ _ _ _ _⟩)
 have HB:=Aside0.mk (hb1.trans (hb.mono (by omega)))
 have HK:=Aside0.mk hk2
 have HG:Aside0 (w.heap.size≤g):=⟨by omega⟩
 clear hwA hb1 hk hsz hI hb hg hk2
 go_wp2
 refine bodyPost_ret (v:=.agg #[.pointer (some ⟨g,0,none⟩)]) ?_ rfl ?_
 ·have hk3:=blk_set HK.out 0 (.pointer (some ⟨g,0,none⟩))
  have c3:=(blk_cell hk3 0).trans rfl
  simp [results,Tryd.results8,go_sem,c3]
 ·exact ⟨g,rfl,HG.out,⟨HI.out.ge,blk_far HI.out.blk (blk_ne HI.out.blk HK.out (by decide)) _,Kd.R_nil _ _ _ _ _⟩,below_set HB.out (Nat.le_refl _)⟩
theorem fewer {i n:Nat} (h:i < n) (hw:wrap64 ((i:Int) + 1)=(i:Int) + 1):n - (intOf (.int .i64 (wrap64 ((i:Int) + 1)))).toNat < n - (intOf (.int .i64 (i:Int))).toNat:=by
 rw [hw]
 show n - ((i:Int) + 1).toNat < n - ((i:Int)).toNat
 omega
def wTwos:List Int→List Int→Option (List Int)
 | [],bs => some bs
 | x :: l,bs => (wU 2 x bs).bind (wTwos l)
def wLong (ys bs:List Int):Option (List Int):=(wU 4 (ys.length:Int) bs).bind (wB ys)
abbrev intRow (l:List Int):Obj:=.cells (l.map (Value.int .i64)).toArray 3 (0,0)
theorem row_cell {w:World} {a i:Nat} {l:List Int} (h:w.heap[a]?=some (intRow l)) (hi:i < l.length):w.cell? ⟨a,i,none⟩=some (.int .i64 (rd l (i:Int))):=by
 rw [blk_cell h i]
 simp [rd,List.getD_eq_getElem?_getD,List.getElem?_eq_getElem hi,hi]
structure TwoAt (B:Nat) (w:World) (g:Nat) (v:Value) (a:Nat) (l:List Int) (W:World) (cur:List Int) (vr:Value):Prop where
 I:IsWr B W g vr cur 1048576
 S:WrStep B w W g v vr
 ka:W.heap[a]?=some (intRow l)
 kb:W.heap[a + 1]?=some (.cells #[.pointer (some ⟨g,0,none⟩)] 38 (0,0))
 fa:WrFar W g vr a
 fb:WrFar W g vr (a + 1)
theorem two_start {B:Nat} {w wB:World} {g a:Nat} {v:Value} {bs l:List Int} (h:IsWr B w g v bs 1048576) (hw:wB=(w.alloc (intRow l)).alloc (.cells #[.pointer (some ⟨g,0,none⟩)] 38 (0,0))) (ha:a=w.heap.size):TwoAt B w g v a l wB bs v:=by
 have hb:Below w.heap.size w wB:=by rw [hw];exact below_alloc (below_alloc (Below.refl _ _) _) _
 have hka:wB.heap[a]?=some (intRow l):=by
  rw [hw,ha,heap_alloc_old _ _ (by simp)]
  exact heap_alloc_new w _
 have hkb:wB.heap[a + 1]?=some (.cells #[.pointer (some ⟨g,0,none⟩)] 38 (0,0)):=by
  rw [hw,ha]
  simpa using heap_alloc_new (w.alloc (intRow l)) (.cells #[.pointer (some ⟨g,0,none⟩)] 38 (0,0))
 exact ⟨h.below hb,⟨hb.mono h.base_le,KeepBut.of_below hb _ _,.inl rfl⟩,hka,hkb,h.far_new (w1:=wB) (k:=a) (by omega) (blk_lt hka),h.far_new (w1:=wB) (k:=a + 1) (by omega) (blk_lt hkb)⟩
theorem TwoAt.step {B:Nat} {w W W':World} {g a:Nat} {v vr v3:Value} {l cur b1:List Int} (h:TwoAt B w g v a l W cur vr) (hI:IsWr B W' g v3 b1 1048576) (hS:WrStep B W W' g vr v3):TwoAt B w g v a l W' b1 v3 :=
 ⟨hI,h.S.trans hS,hS.blk h.fa h.ka,hS.blk h.fb h.kb,hS.far h.fa,hS.far h.fb⟩
set_option maxHeartbeats 8000000 in
set_option maxRecDepth 100000 in
theorem file_two.calls (B g:Nat) (v:Value) (bs r l:List Int) (w:World) (hI:IsWr B w g v bs 1048576) (hl:l.length≤64) (h:wTwos l bs=some r) :
  Calls Tryd.prog 12 #[.agg #[.pointer (some ⟨g,0,none⟩)],.slice (some ⟨w.heap.size,0,none⟩) l.length l.length] (w.alloc (intRow l)) fun e w' => e=.returned (.tuple #[])∧WrPost B w g v r 1048576 w':=by
 have HI:=Aside0.mk hI
 have H0:=Aside0.mk h
 have HL:=Aside0.mk hl
 clear hI h hl
 go_enter Tryd.func12,Tryd.ntmps12
 go_wp2
 obtain ⟨a,ha⟩:∃ a,a=w.heap.size:=⟨_,rfl⟩
 obtain ⟨wB,hwB⟩:∃ wB,wB=(w.alloc (intRow l)).alloc (.cells #[.pointer (some ⟨g,0,none⟩)] 38 (0,0)):=⟨_,rfl⟩
 have hS:=two_start HI.out hwB ha
 rw [← hwB,← ha]
 have HA0:=Aside0.mk hS
 clear hwB ha hS
 go_loopw [8] (fun vi wr => ∃ (i:Nat) (cur:List Int) (vr:Value),vi=.int .i64 (i:Int)∧Aside0 (i≤l.length)∧Aside0 (wTwos (l.drop i) cur=some r)∧Aside0 (TwoAt B w g v a l wr cur vr)) (fun vi _ => (l.length - (intOf vi).toNat))
 case atStart => exact ⟨0,bs,v,rfl,⟨Nat.zero_le _⟩,H0,HA0⟩
 case round =>
  obtain ⟨i,cur,vr,rfl,HLI,HT,HAr⟩:=hrel
  clear HA0 H0
  by_cases hlt:i < l.length
  ·have hpi:decide ((i:Int) < (l.length:Int))=true:=decide_eq_true (by omega)
   have hpn:decide (i < l.length)=true:=decide_eq_true hlt
   have hpt:(i < l.length)=True:=eq_true hlt
   have hge:(0≤(i:Int))=True:=eq_true (by omega)
   have hx:wr.cell? ⟨a,i,none⟩=some (.int .i64 (rd l (i:Int))):=row_cell HAr.out.ka hlt
   have hc:wr.cell? ⟨a + 1,0,none⟩=some (.pointer (some ⟨g,0,none⟩)):=(blk_cell HAr.out.kb 0).trans rfl
   have hT:=HT.out
   have hdr:l.drop i=rd l (i:Int) :: l.drop (i + 1):=by
    rw [List.drop_eq_getElem_cons hlt]
    congr 1
    simp [rd,List.getD_eq_getElem?_getD,List.getElem?_eq_getElem hlt]
   rw [hdr] at hT
   obtain ⟨b1,hU,hN⟩:=Option.bind_eq_some_iff.mp hT
   have HU:=Aside0.mk hU
   have HN:=Aside0.mk hN
   have h0:=(wU_some hU).1.2.1
   have h1:rd l (i:Int) < 65536:=(wU_some hU).1.2.2
   have hwi:wrap64 ((i:Int) + 1)=(i:Int) + 1:=by have:=HL.out;unfold wrap64;omega
   clear hT hdr hU hN HT hlt
   go_wp2_with fail
   refine (wr_U (n:=2) HAr.out.I (by decide) (by decide) HU.out).mono ?_
   rintro e w3 ⟨rfl,v3,hI3,hS3⟩
   have HA3:=Aside0.mk (HAr.out.step hI3 hS3)
   clear hI3 hS3 hx hc
   go_wp2
   go_roundw
   case measure => exact fewer (of_decide_eq_true hpn) hwi
   case rel =>
    rw [hwi]
    exact ⟨i + 1,b1,v3,rfl,⟨of_decide_eq_true hpn⟩,HN,HA3⟩
  ·have hpi:decide ((i:Int) < (l.length:Int))=false:=decide_eq_false (by omega)
   have hpn:decide (i < l.length)=false:=decide_eq_false hlt
   have hT:=HT.out
   rw [List.drop_eq_nil_of_le (by omega)] at hT
   have e:=Option.some.inj hT
   subst e
   clear hT HT hlt
   go_wp2
   go_end0
   exact ⟨rfl,vr,HAr.out.I,HAr.out.S⟩
set_option maxHeartbeats 8000000 in
set_option maxRecDepth 100000 in
theorem file_long.calls (B g:Nat) (v:Value) (bs r ys:List Int) (A:Option Addr) (c:Nat) (w:World) (hI:IsWr B w g v bs 1048576) (hy:∀ w' v',WrStep B w w' g v v'→(Kd.int .u8).C w' A ys.length ys) (h:wLong ys bs=some r) :
  Calls Tryd.prog 14 #[.agg #[.pointer (some ⟨g,0,none⟩)],.slice A ys.length c] w fun e w' => e=.returned (.tuple #[])∧WrPost B w g v r 1048576 w':=by
 unfold wLong at h
 obtain ⟨b1,hU,hB⟩:=Option.bind_eq_some_iff.mp h
 have HI:=Aside0.mk hI
 have HU:=Aside0.mk hU
 have HB:=Aside0.mk hB
 have HY:=Aside0.mk hy
 have hl1:(ys.length:Int) < 4294967296:=(wU_some hU).1.2.2
 clear hI hU hB hy h
 go_enter Tryd.func14,Tryd.ntmps14
 go_wp2_with fail
 obtain ⟨a,ha⟩:∃ a,a=w.heap.size:=⟨_,rfl⟩
 obtain ⟨wB,hwB⟩:∃ wB,wB=w.alloc (.cells #[.pointer (some ⟨g,0,none⟩)] 38 (0,0)):=⟨_,rfl⟩
 have hb:Below w.heap.size w wB:=by rw [hwB];exact below_alloc (Below.refl _ _) _
 have hkb:wB.heap[a]?=some (.cells #[.pointer (some ⟨g,0,none⟩)] 38 (0,0)):=by rw [hwB,ha];exact blk_new _ _
 rw [← hwB]
 (try rw [← ha])
 have HIB:=Aside0.mk (HI.out.below hb)
 have HFb:=Aside0.mk (HI.out.far_new (w1:=wB) (k:=a) (by omega) (blk_lt hkb))
 have HKb:=Aside0.mk hkb
 have HS0:Aside0 (WrStep B w wB g v v):=⟨⟨hb.mono HI.out.base_le,KeepBut.of_below hb _ _,.inl rfl⟩⟩
 clear hwB hb hkb ha
 refine (wr_U (n:=4) HIB.out (by decide) (by decide) HU.out).mono ?_
 rintro e w3 ⟨rfl,v3,hI3,hS3⟩
 have HI3:=Aside0.mk hI3
 have HS3:=Aside0.mk (HS0.out.trans hS3)
 have HKb3:=Aside0.mk (hS3.blk HFb.out HKb.out)
 have hc3:w3.cell? ⟨a,0,none⟩=some (.pointer (some ⟨g,0,none⟩)):=(blk_cell HKb3.out 0).trans rfl
 clear hI3 hS3 HKb HFb HIB HS0
 go_wp2_with fail
 refine (wr_B HI3.out (HY.out _ _ HS3.out) HB.out).mono ?_
 rintro e w4 ⟨rfl,v4,hI4,hS4⟩
 have HI4:=Aside0.mk hI4
 have HS4:=Aside0.mk (HS3.out.trans hS4)
 clear hI4 hS4
 go_wp2
 go_end0
 exact ⟨rfl,v4,HI4.out,HS4.out⟩
end Go.Proofs.YtmloaijagkebpaaDoor.Px
namespace Go.Proofs.YtmloaijagkebpaaDoor.Px
open Go.RowKit Go.Proofs.YtmloaijagkebpaaDoorW.PrintWords Go.Proofs.YtmloaijagkebpaaDoorW.PrintLast Go.Proofs.YtmloaijagkebpaaDoorW.PrintMore
set_option linter.unusedVariables false
set_option linter.unusedSimpArgs false
abbrev Mth:=S49
abbrev Trp:=S78
def wTraps:List Trp→List Int→Option (List Int)
 | [],bs => some bs
 | t :: l,bs => (wTwos [t.f0,t.f1,t.f2,t.f3] bs).bind (wTraps l)
def sMaps:ByteArray:={ data:=#[83,116,97,99,107,77,97,112,84,97,98,108,101] }
def class_body.f (k:Nat) (p:List Cst) (s l:Int) (code:List Int) (traps:List Trp) (maps:List Int):Option (List Int) :=
 (wTwos [s,l] []).bind fun b1 => (wLong code b1).bind fun b2 => if traps.length≤1048576 then (wTwos [(traps.length:Int)] b2).bind fun b3 => (wTraps traps b3).bind fun b4 =>
  (if maps.length=0 then wTwos [0] b4 else (class_place.f k p sMaps).bind fun x => (wTwos [1,x] b4).bind (wLong maps)).bind fun b => if b.length≤1048576 then some b else none else none
structure BodyAt (w W:World) (bm bf g B:Nat) (M:Obj) (v:Value) (cur:List Int):Prop where
 bl:Below w.heap.size w W
 I:IsWr B W g v cur 1048576
 km:W.heap[bm]?=some M
 kf:W.heap[bf]?=some (.cells #[.pointer (some ⟨g,0,none⟩)] 38 (0,0))
 fm:WrFar W g v bm
 ff:WrFar W g v bf
 ge:w.heap.size≤B
theorem BodyAt.step {w W W':World} {bm bf g B:Nat} {M:Obj} {v v':Value} {cur cur':List Int} (h:BodyAt w W bm bf g B M v cur) (hI:IsWr B W' g v' cur' 1048576) (hS:WrStep B W W' g v v'):BodyAt w W' bm bf g B M v' cur' :=
 ⟨h.bl.trans (hS.below.mono h.ge),hI,hS.blk h.fm h.km,hS.blk h.ff h.kf,hS.far h.fm,hS.far h.ff,h.ge⟩
theorem BodyAt.new {w W W':World} {bm bf g B:Nat} {M:Obj} {v:Value} {cur:List Int} (h:BodyAt w W bm bf g B M v cur) (hb:Below W.heap.size W W'):BodyAt w W' bm bf g B M v cur :=
 ⟨h.bl.trans (hb.mono h.bl.size),h.I.below hb,(hb.block _ (blk_lt h.km)).trans h.km,(hb.block _ (blk_lt h.kf)).trans h.kf,h.fm.below hb.size,h.ff.below hb.size,h.ge⟩
theorem BodyAt.cf {w W:World} {bm bf g B:Nat} {M:Obj} {v:Value} {cur:List Int} (h:BodyAt w W bm bf g B M v cur):W.cell? ⟨bf,0,none⟩=some (.pointer (some ⟨g,0,none⟩)):=(blk_cell h.kf 0).trans rfl
abbrev MthRow (a0 a1 a2 a3 a4:Int) (v5 v6 v7:Value):Obj:=.cells #[.int .i64 a0,.int .i64 a1,.int .i64 a2,.int .i64 a3,.int .i64 a4,v5,v6,v7] 49 (0,0)
theorem two_at {B g a n:Nat} {v:Value} {bs r l:List Int} {xs:Array Value} {w:World} (hI:IsWr B w g v bs 1048576) (h:wTwos l bs=some r) (ha:a=w.heap.size) (hl:l.length≤64) (hn:l.length=n) (hx:(l.map (Value.int .i64)).toArray=xs) :
  Calls Tryd.prog 12 #[.agg #[.pointer (some ⟨g,0,none⟩)],.slice (some ⟨a,0,none⟩) n n] (w.alloc (.cells xs 3 (0,0))) fun e w' => e=.returned (.tuple #[])∧WrPost B w g v r 1048576 w':=by
 subst ha
 subst hn
 subst hx
 exact file_two.calls B g v bs r l w hI hl h
theorem BodyAt.cm {w W:World} {bm bf g B:Nat} {M:Obj} {v:Value} {cur:List Int} {a0 a1 a2 a3 a4:Int} {v5 v6 v7:Value} (h:BodyAt w W bm bf g B M v cur) (hM:M=MthRow a0 a1 a2 a3 a4 v5 v6 v7):W.cell? ⟨bm,5,none⟩=some v5∧W.cell? ⟨bm,6,none⟩=some v6∧W.cell? ⟨bm,7,none⟩=some v7:=by
 have hk:=h.km
 rw [hM] at hk
 exact ⟨(blk_cell hk 5).trans rfl,(blk_cell hk 6).trans rfl,(blk_cell hk 7).trans rfl⟩
set_option maxHeartbeats 80000000 in
set_option maxRecDepth 100000 in
theorem class_body.calls (k:Nat) (A0:Option Addr) (c0:Nat) (p:List Cst) (a0 a1 a2 a3 a4:Int) (A5:Option Addr) (c5:Nat) (l5:List Int) (A6:Option Addr) (c6:Nat) (l6:List Trp) (A7:Option Addr) (c7:Nat) (l7:List Int) (r:List Int) (w:World) (hr0:Kd.C k60 w A0 p.length p) (hc0:p.length≤c0) (hr5:Kd.C (Kd.int .u8) w A5 l5.length l5) (hc5:l5.length≤c5) (hr6:Kd.C k78 w A6 l6.length l6) (hc6:l6.length≤c6) (hr7:Kd.C (Kd.int .u8) w A7 l7.length l7) (hc7:l7.length≤c7) (h:class_body.f k p a3 a4 l5 l6 l7=some r) :
  Calls Tryd.prog 15 #[.slice A0 p.length c0,.agg #[.int .i64 a0,.int .i64 a1,.int .i64 a2,.int .i64 a3,.int .i64 a4,.slice A5 l5.length c5,.slice A6 l6.length c6,.slice A7 l7.length c7]] w fun e w' => ∃ v0_:Value,e=.returned v0_∧Kd.R (Kd.int .u8) 5 w' w.heap.size (fun _ => True) v0_ r∧Below w.heap.size w w':=by
 unfold class_body.f at h
 obtain ⟨b1,h1,h⟩:=Option.bind_eq_some_iff.mp h
 obtain ⟨b2,h2,h⟩:=Option.bind_eq_some_iff.mp h
 by_cases hl6:l6.length≤1048576
 case neg => rw [if_neg hl6] at h;cases h
 rw [if_pos hl6] at h
 obtain ⟨b3,h3,h⟩:=Option.bind_eq_some_iff.mp h
 obtain ⟨b4,h4,h⟩:=Option.bind_eq_some_iff.mp h
 obtain ⟨b5,h5,h⟩:=Option.bind_eq_some_iff.mp h
 by_cases hl:b5.length≤1048576
 case neg => rw [if_neg hl] at h;cases h
 rw [if_pos hl] at h
 obtain rfl:=Option.some.inj h
 have H1:=Aside0.mk h1
 have H2:=Aside0.mk h2
 have H3:=Aside0.mk h3
 have H4:=Aside0.mk h4
 have H5:=Aside0.mk h5
 have HL:=Aside0.mk hl
 have HL6:=Aside0.mk hl6
 have HR0:=Aside0.mk hr0
 have HC0:=Aside0.mk hc0
 have HR5:=Aside0.mk hr5
 have HR6:=Aside0.mk hr6
 have HR7:=Aside0.mk hr7
 have hu:=Tryd.underlying49
 have hu2:=Tryd.underlying78
 clear h1 h2 h3 h4 h5 h hl hl6 hr0 hc0 hr5 hr6 hr7 hc5 hc6 hc7
 obtain ⟨M,hM⟩:∃ M,M=MthRow a0 a1 a2 a3 a4 (.slice A5 l5.length c5) (.slice A6 l6.length c6) (.slice A7 l7.length c7):=⟨_,rfl⟩
 have HM:=Aside0.mk hM
 clear hM
 go_enter Tryd.func15,Tryd.ntmps15
 go_wp2_with fail
 obtain ⟨bm,hbm⟩:∃ bm,bm=w.heap.size:=⟨_,rfl⟩
 obtain ⟨W1,hW1⟩:∃ W1,W1=w.alloc M:=⟨_,rfl⟩
 have hW1':=hW1
 rw [HM.out] at hW1'
 rw [← hW1',← hbm]
 have HB1:=Aside0.mk (show Below w.heap.size w W1 from by rw [hW1];exact below_alloc (Below.refl _ _) _)
 have HK1:=Aside0.mk (show W1.heap[bm]?=some M from by rw [hW1,hbm];exact blk_new _ _)
 clear hW1 hW1' hbm
 refine (class_fresh.calls W1).mono ?_
 rintro e W2 ⟨g,rfl,hg,hI2,hb2⟩
 have HI2:=Aside0.mk hI2
 have HG2:=Aside0.mk hg
 have HB2:=Aside0.mk hb2
 have HM2:=Aside0.mk ((hb2.block _ (blk_lt HK1.out)).trans HK1.out)
 have hltm:=blk_lt HM2.out
 have hk:=HM2.out
 rw [HM.out] at hk
 have q0:W2.cell? ⟨bm,0,none⟩=some (.int .i64 a0):=(blk_cell hk 0).trans rfl
 have q3:W2.cell? ⟨bm,3,none⟩=some (.int .i64 a3):=(blk_cell hk 3).trans rfl
 have q4:W2.cell? ⟨bm,4,none⟩=some (.int .i64 a4):=(blk_cell hk 4).trans rfl
 clear hk hI2 hg hb2
 go_wp2_with fail
 obtain ⟨bf,hbf⟩:∃ bf,bf=W2.heap.size:=⟨_,rfl⟩
 obtain ⟨W3,hW3⟩:∃ W3,W3=W2.alloc (.cells #[.pointer (some ⟨g,0,none⟩)] 38 (0,0)):=⟨_,rfl⟩
 rw [← hW3,← hbf]
 have hb3:Below W2.heap.size W2 W3:=by rw [hW3];exact below_alloc (Below.refl _ _) _
 have hk3:W3.heap[bf]?=some (.cells #[.pointer (some ⟨g,0,none⟩)] 38 (0,0)):=by rw [hW3,hbf];exact blk_new _ _
 obtain ⟨B,hB⟩:∃ B,B=W1.heap.size:=⟨_,rfl⟩
 rw [← hB] at HI2 HG2
 have hm2:=HM2.out
 have hlt:=blk_lt HK1.out
 have HS3:Aside0 (bf + 1=W3.heap.size):=⟨by rw [hW3,hbf];simp⟩
 have HA3:Aside0 (BodyAt w W3 bm bf g B M (.slice none 0 0) []):=⟨⟨HB1.out.trans ((HB2.out.mono HB1.out.size).trans (hb3.mono (Nat.le_trans HB1.out.size HB2.out.size))),HI2.out.below hb3,(hb3.block _ (blk_lt hm2)).trans hm2,hk3,⟨Nat.lt_of_lt_of_le (blk_lt hm2) hb3.size,by have:=HG2.out;omega,by rintro ⟨⟩⟩,HI2.out.far_new (by omega) (blk_lt hk3),by rw [hB];exact HB1.out.size⟩⟩
 clear hW3 hbf hb3 hk3 hB hm2 hlt HI2 HG2 HB2 HK1 HB1 HM2 hltm q0 q3 q4
 refine (two_at (l:=[a3,a4]) HA3.out.I H1.out HS3.out (by simp) rfl rfl).mono ?_
 rintro e W4 ⟨rfl,v4,hI4,hS4⟩
 have HA4:=Aside0.mk (HA3.out.step hI4 hS4)
 clear hI4 hS4 HA3 HS3 H1
 have cf4:=HA4.out.cf
 obtain ⟨p5,_,_⟩:=HA4.out.cm HM.out
 go_wp2_with fail
 refine (file_long.calls B g v4 b1 b2 l5 A5 c5 W4 HA4.out.I (fun w' v' hS => Kd.C_below HR5.out (HA4.out.bl.trans (hS.below.mono HA4.out.ge))) H2.out).mono ?_
 rintro e W5 ⟨rfl,v5,hI5,hS5⟩
 have HA5:=Aside0.mk (HA4.out.step hI5 hS5)
 clear hI5 hS5 HA4 cf4 p5 H2
 have cf5:=HA5.out.cf
 obtain ⟨_,p6,_⟩:=HA5.out.cm HM.out
 go_wp2_with fail
 refine (two_at (l:=[(l6.length:Int)]) HA5.out.I H3.out rfl (by simp) rfl rfl).mono ?_
 rintro e W6 ⟨rfl,v6,hI6,hS6⟩
 have HA6:=Aside0.mk (HA5.out.step hI6 hS6)
 clear hI6 hS6 HA5 cf5 p6 H3
 obtain ⟨_,p6,_⟩:=HA6.out.cm HM.out
 go_wp2
 clear p6
 go_loopw [29] (fun vi wr => ∃ (i:Nat) (cur:List Int) (vr:Value),vi=.int .i64 (i:Int)∧Aside0 (i≤l6.length)∧Aside0 (wTraps (l6.drop i) cur=some b4)∧Aside0 (BodyAt w wr bm bf g B M vr cur)) (fun vi _ => (l6.length - (intOf vi).toNat))
 case atStart => exact ⟨0,b3,v6,rfl,⟨Nat.zero_le _⟩,H4,HA6⟩
 case round =>
  obtain ⟨i,cur,vr,rfl,HLI,HT,HAr⟩:=hrel
  clear HA6 H4
  by_cases hlt:i < l6.length
  ·have hpi:decide ((i:Int) < (l6.length:Int))=true:=decide_eq_true (by omega)
   have hpn:decide (i < l6.length)=true:=decide_eq_true hlt
   have hpt:(i < l6.length)=True:=eq_true hlt
   have hge:(0≤(i:Int))=True:=eq_true (by omega)
   obtain ⟨ad,ea,hx0,hx1,hx2,hx3⟩:=at_T78 (Kd.C_below HR6.out HAr.out.bl) (i:Int) (by omega) (by omega)
   subst ea
   simp only [Int.toNat_natCast] at hx0 hx1 hx2 hx3
   have hT:=HT.out
   have hdr:l6.drop i=rd_T78 l6 (i:Int) :: l6.drop (i + 1):=by
    rw [List.drop_eq_getElem_cons hlt]
    congr 1
    simp [rd_T78,List.getD_eq_getElem?_getD,List.getElem?_eq_getElem hlt]
   rw [hdr] at hT
   obtain ⟨bn,hU,hN⟩:=Option.bind_eq_some_iff.mp hT
   obtain ⟨tt,htt⟩:∃ tt,tt=rd_T78 l6 (i:Int):=⟨_,rfl⟩
   rw [← htt] at hU hx0 hx1 hx2 hx3
   have HU:=Aside0.mk hU
   have HN:=Aside0.mk hN
   have hwi:wrap64 ((i:Int) + 1)=(i:Int) + 1:=by have:=HL6.out;unfold wrap64;omega
   have hw4:i * 4=i * 4:=rfl
   have cfr:=HAr.out.cf
   have hltf:=blk_lt HAr.out.kf
   clear hT hdr hU hN HT hlt htt
   go_wp2_with fail
   have HAs:=Aside0.mk (HAr.out.new (below_alloc (Below.refl wr.heap.size wr) (.cells #[.int .i64 tt.f0,.int .i64 tt.f1,.int .i64 tt.f2,.int .i64 tt.f3] 78 (0,0))))
   refine (two_at (l:=[tt.f0,tt.f1,tt.f2,tt.f3]) HAs.out.I HU.out (by simp) (by simp) rfl rfl).mono ?_
   rintro e w3 ⟨rfl,v3,hI3,hS3⟩
   have HA3:=Aside0.mk (HAs.out.step hI3 hS3)
   clear hI3 hS3 hx0 hx1 hx2 hx3 cfr hltf HAs HAr
   go_wp2
   go_roundw
   case measure => exact fewer (of_decide_eq_true hpn) hwi
   case rel =>
    rw [hwi]
    exact ⟨i + 1,bn,v3,rfl,⟨of_decide_eq_true hpn⟩,HN,HA3⟩
  ·have hpi:decide ((i:Int) < (l6.length:Int))=false:=decide_eq_false (by omega)
   have hpn:decide (i < l6.length)=false:=decide_eq_false hlt
   have hT:=HT.out
   rw [List.drop_eq_nil_of_le (by omega)] at hT
   have e:=Option.some.inj hT
   subst e
   clear hT HT hlt HLI
   have HA7:=HAr
   obtain ⟨W7,hW7⟩:∃ W7,W7=wr:=⟨_,rfl⟩
   rw [← hW7] at HA7
   rw [← hW7]
   clear hW7 HAr
   obtain ⟨_,_,p7⟩:=HA7.out.cm HM.out
   have cf7:=HA7.out.cf
   have h5:=H5.out
   by_cases hz:l7.length=0
   ·rw [if_pos hz] at h5
    have HT:=Aside0.mk h5
    have hzb:((l7.length:Int)==0)=true:=beq_iff_eq.mpr (by omega)
    clear h5 hz H5
    go_wp2_with fail
    refine (two_at (l:=[0]) HA7.out.I HT.out rfl (by simp) rfl rfl).mono ?_
    rintro e W8 ⟨rfl,v8,hI8,hS8⟩
    have HA8:=Aside0.mk (HA7.out.step hI8 hS8)
    clear hI8 hS8 HA7 HT p7 cf7
    have cf8:=HA8.out.cf
    go_wp2_with fail
    refine (wr_Out.calls B g v8 b5 1048576 _ HA8.out.I HL.out).mono ?_
    rintro e wo ⟨vo,rfl,hRo,hbo⟩
    have HRo:=Aside0.mk hRo
    have HBo:=Aside0.mk (below_step HA8.out.bl hbo)
    clear hRo hbo
    go_wp2
    go_ret
    exact ⟨_,rfl,Kd.R_lower HRo.out HA8.out.bl.size,HBo.out⟩
   ·rw [if_neg hz] at h5
    have hzb:((l7.length:Int)==0)=false:=beq_eq_false_iff_ne.mpr (by omega)
    obtain ⟨x,hx,h5⟩:=Option.bind_eq_some_iff.mp h5
    obtain ⟨b6,ht,h5⟩:=Option.bind_eq_some_iff.mp h5
    have HPL:=Aside0.mk hx
    have HT:=Aside0.mk ht
    have HLo:=Aside0.mk h5
    clear h5 hz H5 hx ht
    go_wp2
    refine start_ (n:=5) (S:=fun w' => w'.cell? ⟨bf,0,none⟩=some (.pointer (some ⟨g,0,none⟩))) (ds:=[]) #[false,false,false,false,false] (by kernel_rfl) rfl rfl (cf7) (fun hHeld => ?_)
    refine pure_ (i:=1) (N:=some 53) (v:=?_) (a':=?_) #[false,true,false,false,false] rfl rfl (by kernel_rfl) (fun _ _ _ h => h) (Or.inl ⟨by rfl,?_⟩) ?_ ?_
    rotate_left
    ·intro w'
     go_simp
     with_reducible rfl
    rotate_left
    ·simp only [Act.put,List.setIfInBounds_toArray,List.set_cons_zero,List.set_cons_succ,i64_w,i32_w]
     rfl
    refine take_ (i:=0) (N:=some 52) (v:=?_) (a':=?_) #[true,true,false,false,false] rfl rfl (by kernel_rfl) (fun _ _ _ h => h) (Or.inl ⟨by rfl,?_⟩) hHeld ?_ ?_
    rotate_left
    ·intro w' s0
     go_simp
     with_reducible rfl
    rotate_left
    ·simp only [Act.put,List.setIfInBounds_toArray,List.set_cons_zero,List.set_cons_succ,i64_w,i32_w]
     rfl
    refine one_ (i:=2) (N:=some 54) #[true,true,true,false,false] rfl rfl (by kernel_rfl) (by decide) (fun K hK => ?_)
    refine goes_ Tryd.func13 (by kernel_rfl) rfl #[.slice A0 p.length c0,.string sMaps] (by rfl) rfl rfl (by simp only [List.map_toArray,List.map_cons,List.map_nil];rfl) ?_
    with_reducible refine (class_place.calls k A0 c0 p sMaps x _ (Kd.C_below HR0.out (below_drew HA7.out.bl)) HC0.out HPL.out).mono ?_
    rintro e w8 ⟨rfl,⟨⟨nd,rfl⟩⟩⟩
    refine ⟨_,rfl,?_⟩
    refine hK.out _ _ ((by exact hHeld)) (fun hHeld => ?_)
    clear hK K
    refine norm_ (a':=?_) ?_ ?_
    rotate_left
    ·show Act.put _ (some 54) _=_
     simp only [Act.put,List.setIfInBounds_toArray,List.set_cons_zero,List.set_cons_succ,i64_w,i32_w]
     rfl
    refine one_ (i:=3) (N:=some 55) #[true,true,true,true,false] rfl rfl (by kernel_rfl) (by decide) (fun K hK => ?_)
    refine value_ (w1:=?_) (v:=?_) (by rfl) rfl ?_ ?_
    rotate_left 2
    ·go_simp
     constructor
     ·rfl
     ·rfl
    refine hK.out _ _ ((by exact pw_cell_below ((Below.refl _ _).alloc (Nat.le_refl _) _) hHeld)) (fun hHeld => ?_)
    clear hK K
    refine norm_ (a':=?_) ?_ ?_
    rotate_left
    ·show Act.put _ (some 55) _=_
     simp only [Act.put,List.setIfInBounds_toArray,List.set_cons_zero,List.set_cons_succ,i64_w,i32_w]
     rfl
    refine one_ (i:=4) (N:=some 56) #[true,true,true,true,true] rfl rfl (by kernel_rfl) (by decide) (fun K hK => ?_)
    have HA9:=Aside0.mk (HA7.out.new (pw_below_drewN (Below.refl W7.heap.size W7) (1 + nd)))
    refine goes_ Tryd.func12 (by kernel_rfl) rfl #[.agg #[.pointer (some ⟨g,0,none⟩)],.slice (some ⟨W7.heap.size,0,none⟩) 2 2] (by rfl) rfl rfl (by simp only [List.map_toArray,List.map_cons,List.map_nil];rfl) ?_
    refine (two_at (l:=[1,x]) HA9.out.I HT.out rfl (by simp) rfl rfl).mono ?_
    rintro e w9 ⟨rfl,v9,hI9,hS9⟩
    refine ⟨_,rfl,?_⟩
    have HA10:=Aside0.mk (HA9.out.step hI9 hS9)
    have cf10:=HA10.out.cf
    clear hI9 hS9
    refine hK.out _ _ (cf10) (fun hHeld => ?_)
    clear hK K
    refine norm_ (a':=?_) ?_ ?_
    rotate_left
    ·show Act.put _ (some 56) _=_
     simp only [Act.put,List.setIfInBounds_toArray,List.set_cons_zero,List.set_cons_succ,i64_w,i32_w]
     rfl
    refine done_ (by kernel_rfl) ?_
    clear hHeld cf7 p7 HA9 HA7 HT HPL
    obtain ⟨_,_,p7⟩:=HA10.out.cm HM.out
    go_wp2_with fail
    refine (file_long.calls B g v9 b6 b5 l7 A7 c7 w9 HA10.out.I (fun w' v' hS => Kd.C_below HR7.out (HA10.out.bl.trans (hS.below.mono HA10.out.ge))) HLo.out).mono ?_
    rintro e W8 ⟨rfl,v8,hI8,hS8⟩
    have HA8:=Aside0.mk (HA10.out.step hI8 hS8)
    clear hI8 hS8 HA10 p7 cf10
    have cf8:=HA8.out.cf
    go_wp2_with fail
    refine (wr_Out.calls B g v8 b5 1048576 _ HA8.out.I HL.out).mono ?_
    rintro e wo ⟨vo,rfl,hRo,hbo⟩
    have HRo:=Aside0.mk hRo
    have HBo:=Aside0.mk (below_step HA8.out.bl hbo)
    clear hRo hbo
    go_wp2
    go_ret
    exact ⟨_,rfl,Kd.R_lower HRo.out HA8.out.bl.size,HBo.out⟩
end Go.Proofs.YtmloaijagkebpaaDoor.Px
namespace Go.Proofs.YtmloaijagkebpaaDoor.Px
open Go.RowKit Go.Proofs.YtmloaijagkebpaaDoorW.PrintWords Go.Proofs.YtmloaijagkebpaaDoorW.PrintLast Go.Proofs.YtmloaijagkebpaaDoorW.PrintMore
set_option linter.unusedVariables false
set_option linter.unusedSimpArgs false
abbrev Fld:=S46
def sCode:ByteArray:={ data:=#[67,111,100,101] }
def wFlds:List Fld→List Int→Option (List Int)
 | [],bs => some bs
 | t :: l,bs => (wTwos [t.f0,t.f1,t.f2,0] bs).bind (wFlds l)
def wMths (k:Nat) (p:List Cst):List Mth→List Int→Option (List Int)
 | [],bs => some bs
 | m :: l,bs => (class_place.f k p sCode).bind fun x => (wTwos [m.f0,m.f1,m.f2,1,x] bs).bind fun b6 => (class_body.f k p m.f3 m.f4 m.f5 m.f6 m.f7).bind fun bb => (wLong bb b6).bind (wMths k p l)
def class_Encode.w (k:Nat) (p:List Cst) (pb:List Int) (t s:Int) (fs:List Fld) (ms:List Mth):Option (List Int) :=
 (wU 4 3405691582 []).bind fun b1 => (wU 4 61 b1).bind fun b2 => (wB pb b2).bind fun b3 => if fs.length≤1048576∧ms.length≤1048576 then
  (wTwos [0,t,s,0,(fs.length:Int)] b3).bind fun b4 => (wFlds fs b4).bind fun b5 => (wTwos [(ms.length:Int)] b5).bind fun b6 => (wMths k p ms b6).bind fun b7 => (wTwos [0] b7).bind fun b => if b.length≤1048576 then some b else none
 else none
def class_Encode.f (k:Nat) (p:List Cst) (t s:Int) (fs:List Fld) (ms:List Mth):Option (List Int × Int) :=
 (class_Check.f k p t s fs ms).bind fun e => if e=0 then (pool_Encode.f k p).bind fun pb => (class_Encode.w k p pb.1 t s fs ms).bind fun b => some (b,0) else some ([],e)
theorem class_body.mono:∀ p s l c t m k,LeO (class_body.f k p s l c t m) (class_body.f (k + 1) p s l c t m):=by
 intro p s l c t m k
 unfold class_body.f
 refine LeO.bind (LeO.refl _) (fun _ => LeO.bind (LeO.refl _) (fun _ => LeO.ite (LeO.bind (LeO.refl _) (fun _ => LeO.bind (LeO.refl _) (fun _ => LeO.bind ?_ (fun _ => LeO.refl _)))) (LeO.refl _)))
 exact LeO.ite (LeO.refl _) (LeO.bind (class_place.mono _ _ _) (fun _ => LeO.refl _))
theorem wMths_mono (k:Nat) (p:List Cst):∀ l bs,LeO (wMths k p l bs) (wMths (k + 1) p l bs)
 | [],_ => LeO.refl _
 | m :: l,bs => by
  unfold wMths
  exact LeO.bind (class_place.mono _ _ _) (fun _ => LeO.bind (LeO.refl _) (fun _ => LeO.bind (class_body.mono _ _ _ _ _ _ _) (fun _ => LeO.bind (LeO.refl _) (fun _ => wMths_mono k p l _))))
theorem class_Encode.mono:∀ a0 a1 a2 a3 a4 k,LeO (class_Encode.f k a0 a1 a2 a3 a4) (class_Encode.f (k + 1) a0 a1 a2 a3 a4):=by
 intro p t s fs ms k
 unfold class_Encode.f
 refine LeO.bind (class_Check.mono _ _ _ _ _ _) (fun _ => LeO.ite (LeO.bind (pool_Encode.mono _ _) (fun _ => LeO.bind ?_ (fun _ => LeO.refl _))) (LeO.refl _))
 unfold class_Encode.w
 exact LeO.bind (LeO.refl _) (fun _ => LeO.bind (LeO.refl _) (fun _ => LeO.bind (LeO.refl _) (fun _ => LeO.ite (LeO.bind (LeO.refl _) (fun _ => LeO.bind (LeO.refl _) (fun _ => LeO.bind (LeO.refl _) (fun _ => LeO.bind (wMths_mono _ _ _ _) (fun _ => LeO.refl _))))) (LeO.refl _))))
abbrev ClsRow (v0:Value) (a1 a2:Int) (v3 v4:Value):Obj:=.cells #[v0,.int .i64 a1,.int .i64 a2,v3,v4] 26 (0,0)
theorem BodyAt.cp {w W:World} {bm bf g B:Nat} {M:Obj} {v:Value} {cur:List Int} {a1 a2:Int} {v0 v3 v4:Value} (h:BodyAt w W bm bf g B M v cur) (hM:M=ClsRow v0 a1 a2 v3 v4):W.cell? ⟨bm,0,none⟩=some v0:=by
 have hk:=h.km
 rw [hM] at hk
 exact (blk_cell hk 0).trans rfl
theorem BodyAt.cls {w W:World} {bm bf g B:Nat} {M:Obj} {v:Value} {cur:List Int} {a1 a2:Int} {v0 v3 v4:Value} (h:BodyAt w W bm bf g B M v cur) (hM:M=ClsRow v0 a1 a2 v3 v4):W.cell? ⟨bm,1,none⟩=some (.int .i64 a1)∧W.cell? ⟨bm,2,none⟩=some (.int .i64 a2)∧W.cell? ⟨bm,3,none⟩=some v3∧W.cell? ⟨bm,4,none⟩=some v4:=by
 have hk:=h.km
 rw [hM] at hk
 exact ⟨(blk_cell hk 1).trans rfl,(blk_cell hk 2).trans rfl,(blk_cell hk 3).trans rfl,(blk_cell hk 4).trans rfl⟩
structure MthAt (W:World) (g:Nat) (v:Value) (k:Nat) (m:Mth) (v5 v6 v7:Value):Prop where
 blk:W.heap[k]?=some (MthRow m.f0 m.f1 m.f2 m.f3 m.f4 v5 v6 v7)
 far:WrFar W g v k
theorem MthAt.step {B:Nat} {W W':World} {g k:Nat} {v v' v5 v6 v7:Value} {m:Mth} (h:MthAt W g v k m v5 v6 v7) (hS:WrStep B W W' g v v'):MthAt W' g v' k m v5 v6 v7:=⟨hS.blk h.far h.blk,hS.far h.far⟩
theorem MthAt.new {W W':World} {g k:Nat} {v v5 v6 v7:Value} {m:Mth} (h:MthAt W g v k m v5 v6 v7) (hb:Below W.heap.size W W'):MthAt W' g v k m v5 v6 v7:=⟨(hb.block _ (blk_lt h.blk)).trans h.blk,h.far.below hb.size⟩
theorem MthAt.cm {W:World} {g k:Nat} {v v5 v6 v7:Value} {m:Mth} (h:MthAt W g v k m v5 v6 v7):W.cell? ⟨k,0,none⟩=some (.int .i64 m.f0)∧W.cell? ⟨k,1,none⟩=some (.int .i64 m.f1)∧W.cell? ⟨k,2,none⟩=some (.int .i64 m.f2)∧W.cell? ⟨k,3,none⟩=some (.int .i64 m.f3)∧W.cell? ⟨k,4,none⟩=some (.int .i64 m.f4)∧W.cell? ⟨k,5,none⟩=some v5∧W.cell? ⟨k,6,none⟩=some v6∧W.cell? ⟨k,7,none⟩=some v7 :=
 ⟨(blk_cell h.blk 0).trans rfl,(blk_cell h.blk 1).trans rfl,(blk_cell h.blk 2).trans rfl,(blk_cell h.blk 3).trans rfl,(blk_cell h.blk 4).trans rfl,(blk_cell h.blk 5).trans rfl,(blk_cell h.blk 6).trans rfl,(blk_cell h.blk 7).trans rfl⟩
set_option maxHeartbeats 80000000 in
set_option maxRecDepth 100000 in
theorem class_Encode.calls (k:Nat) (A0_0:Option Addr) (c0_0:Nat) (l0_0:List Cst) (a0_1:Int) (a0_2:Int) (A0_3:Option Addr) (c0_3:Nat) (l0_3:List Fld) (A0_4:Option Addr) (c0_4:Nat) (l0_4:List Mth) (r1:List Int) (r2:Int) (w:World) (hG:Aside0 (GG w)) (hr0_0:Kd.C k60 w A0_0 l0_0.length l0_0) (hc0_0:l0_0.length≤c0_0) (hr0_3:Kd.C k46 w A0_3 l0_3.length l0_3) (hc0_3:l0_3.length≤c0_3) (hr0_4:Kd.C k49 w A0_4 l0_4.length l0_4) (hc0_4:l0_4.length≤c0_4) (h:class_Encode.f k l0_0 a0_1 a0_2 l0_3 l0_4=some (r1,r2)) :
  Calls Tryd.prog 4 #[.agg #[.slice A0_0 l0_0.length c0_0,.int .i64 a0_1,.int .i64 a0_2,.slice A0_3 l0_3.length c0_3,.slice A0_4 l0_4.length c0_4]] w fun e w' => ∃ v0_:Value,e=.returned (.tuple #[v0_,.int .i64 r2])∧Kd.R (Kd.int .u8) 5 w' w.heap.size (fun _ => True) v0_ r1∧Below w.heap.size w w':=by
 unfold class_Encode.f at h
 obtain ⟨e0,hE,h⟩:=Option.bind_eq_some_iff.mp h
 have HE:=Aside0.mk hE
 have HH:=Aside0.mk h
 have HR0_0:=Aside0.mk hr0_0
 have HC0_0:=Aside0.mk hc0_0
 have HR0_3:=Aside0.mk hr0_3
 have HC0_3:=Aside0.mk hc0_3
 have HR0_4:=Aside0.mk hr0_4
 have HC0_4:=Aside0.mk hc0_4
 have hu26:=Tryd.underlying26
 have hu56:=Tryd.underlying49
 have hu53:=Tryd.underlying46
 clear hE h hr0_0 hc0_0 hr0_3 hc0_3 hr0_4 hc0_4
 obtain ⟨M,hM⟩:∃ M,M=ClsRow (.slice A0_0 l0_0.length c0_0) a0_1 a0_2 (.slice A0_3 l0_3.length c0_3) (.slice A0_4 l0_4.length c0_4):=⟨_,rfl⟩
 have HM:=Aside0.mk hM
 clear hM
 go_enter Tryd.func4,Tryd.ntmps4
 go_wp2_with fail
 obtain ⟨bc,hbc⟩:∃ bc,bc=w.heap.size:=⟨_,rfl⟩
 obtain ⟨W1,hW1⟩:∃ W1,W1=w.alloc M:=⟨_,rfl⟩
 have hW1':=hW1
 rw [HM.out] at hW1'
 rw [← hW1',← hbc]
 have HB1:=Aside0.mk (show Below w.heap.size w W1 from by rw [hW1];exact below_alloc (Below.refl _ _) _)
 have HK1:=Aside0.mk (show W1.heap[bc]?=some M from by rw [hW1,hbc];exact blk_new _ _)
 clear hW1 hW1' hbc
 refine (class_Check.calls k A0_0 c0_0 l0_0 a0_1 a0_2 A0_3 c0_3 l0_3 A0_4 c0_4 l0_4 e0 W1 ⟨GG.below hG.out HB1.out⟩ (Kd.C_below HR0_0.out HB1.out) HC0_0.out (Kd.C_below HR0_3.out HB1.out) HC0_3.out (Kd.C_below HR0_4.out HB1.out) HC0_4.out HE.out).mono ?_
 rintro e W2 ⟨rfl,hb2⟩
 have HB2:=Aside0.mk (HB1.out.trans (hb2.mono HB1.out.size))
 have HM2:=Aside0.mk ((hb2.block _ (blk_lt HK1.out)).trans HK1.out)
 clear hb2 HB1 HK1 HE
 have h:=HH.out
 clear HH
 by_cases he:e0=0
 case neg =>
  rw [if_neg he] at h
  have heb:(e0 != 0)=true:=bne_iff_ne.mpr he
  have H:=Option.some.inj h
  injection H with H1 H2
  subst H1
  subst H2
  clear he h
  go_wp2
  go_ret2
  exact ⟨_,rfl,Kd.R_nil _ _ _ _ _,HB2.out⟩
 rw [if_pos he] at h
 have heb:(e0 != 0)=false:=bne_eq_false_iff_eq.mpr he
 obtain ⟨⟨pb,pe⟩,hP,h⟩:=Option.bind_eq_some_iff.mp h
 obtain ⟨bA,hw,h⟩:=Option.bind_eq_some_iff.mp h
 have H:=Option.some.inj h
 injection H with H1 H2
 subst H1
 subst H2
 unfold class_Encode.w at hw
 obtain ⟨b1,h1,hw⟩:=Option.bind_eq_some_iff.mp hw
 obtain ⟨b2,h2,hw⟩:=Option.bind_eq_some_iff.mp hw
 obtain ⟨b3,h3,hw⟩:=Option.bind_eq_some_iff.mp hw
 by_cases hl:l0_3.length≤1048576∧l0_4.length≤1048576
 case neg => rw [if_neg hl] at hw;cases hw
 rw [if_pos hl] at hw
 obtain ⟨b4,h4,hw⟩:=Option.bind_eq_some_iff.mp hw
 obtain ⟨b5,h5,hw⟩:=Option.bind_eq_some_iff.mp hw
 obtain ⟨b6,h6,hw⟩:=Option.bind_eq_some_iff.mp hw
 obtain ⟨b7,h7,hw⟩:=Option.bind_eq_some_iff.mp hw
 obtain ⟨b8,h8,hw⟩:=Option.bind_eq_some_iff.mp hw
 by_cases hl8:b8.length≤1048576
 case neg => rw [if_neg hl8] at hw;cases hw
 rw [if_pos hl8] at hw
 obtain rfl:=Option.some.inj hw
 have HP:=Aside0.mk hP
 have H1:=Aside0.mk h1
 have H2:=Aside0.mk h2
 have H3:=Aside0.mk h3
 have H4:=Aside0.mk h4
 have H5:=Aside0.mk h5
 have H6:=Aside0.mk h6
 have H7:=Aside0.mk h7
 have H8:=Aside0.mk h8
 have HL:=Aside0.mk hl
 have HL8:=Aside0.mk hl8
 clear hP h1 h2 h3 h4 h5 h6 h7 h8 hl hl8 hw h he
 go_wp2_with fail
 refine (class_fresh.calls W2).mono ?_
 rintro e W3 ⟨g,rfl,hg,hI3,hb3⟩
 have HI3:=Aside0.mk hI3
 have HG3:=Aside0.mk hg
 have HB3:=Aside0.mk hb3
 have HM3:=Aside0.mk ((hb3.block _ (blk_lt HM2.out)).trans HM2.out)
 clear hI3 hg hb3
 go_wp2_with fail
 obtain ⟨bf,hbf⟩:∃ bf,bf=W3.heap.size:=⟨_,rfl⟩
 obtain ⟨W4,hW4⟩:∃ W4,W4=W3.alloc (.cells #[.pointer (some ⟨g,0,none⟩)] 38 (0,0)):=⟨_,rfl⟩
 rw [← hW4,← hbf]
 have hb4:Below W3.heap.size W3 W4:=by rw [hW4];exact below_alloc (Below.refl _ _) _
 have hk4:W4.heap[bf]?=some (.cells #[.pointer (some ⟨g,0,none⟩)] 38 (0,0)):=by rw [hW4,hbf];exact blk_new _ _
 obtain ⟨B,hB⟩:∃ B,B=W2.heap.size:=⟨_,rfl⟩
 rw [← hB] at HI3 HG3
 have hlt:=blk_lt HM2.out
 have HA4:Aside0 (BodyAt w W4 bc bf g B M (.slice none 0 0) []):=⟨⟨HB2.out.trans ((HB3.out.mono HB2.out.size).trans (hb4.mono (Nat.le_trans HB2.out.size HB3.out.size))),HI3.out.below hb4,(hb4.block _ (blk_lt HM3.out)).trans HM3.out,hk4,⟨Nat.lt_of_lt_of_le (blk_lt HM3.out) hb4.size,by have:=HG3.out;omega,by rintro ⟨⟩⟩,HI3.out.far_new (by omega) (blk_lt hk4),by rw [hB];exact HB2.out.size⟩⟩
 clear hW4 hbf hb4 hk4 hB hlt HI3 HG3 HB3 HM3 HM2 HB2
 refine (wr_U (n:=4) HA4.out.I (by decide) (by decide) H1.out).mono ?_
 rintro e W5 ⟨rfl,v5,hI5,hS5⟩
 have HA5:=Aside0.mk (HA4.out.step hI5 hS5)
 clear hI5 hS5 HA4 H1
 have cf5:=HA5.out.cf
 go_wp2_with fail
 refine (wr_U (n:=4) HA5.out.I (by decide) (by decide) H2.out).mono ?_
 rintro e W6 ⟨rfl,v6,hI6,hS6⟩
 have HA6:=Aside0.mk (HA5.out.step hI6 hS6)
 clear hI6 hS6 HA5 H2 cf5
 have cp6:=HA6.out.cp HM.out
 go_wp2_with fail
 refine (pool_Encode.calls k A0_0 c0_0 l0_0 pb pe _ ⟨GG.below hG.out HA6.out.bl⟩ (Kd.C_below HR0_0.out HA6.out.bl) HC0_0.out HP.out).mono ?_
 rintro e W7 ⟨vp,rfl,hRp,hbp⟩
 obtain ⟨Ap,cp,hvp,hcp,_⟩:=Kd.R_reads hRp
 subst hvp
 have HRp:=Aside0.mk hRp
 have HA7:=Aside0.mk (HA6.out.new hbp)
 clear hRp hbp HA6 cp6 HP
 have cf7:=HA7.out.cf
 go_wp2_with fail
 refine (wr_B HA7.out.I (row_C HRp.out) H3.out).mono ?_
 rintro e W8 ⟨rfl,v8,hI8,hS8⟩
 have HA8:=Aside0.mk (HA7.out.step hI8 hS8)
 clear hI8 hS8 HA7 H3 HRp cf7
 have cf8:=HA8.out.cf
 obtain ⟨d1,d2,d3,_⟩:=HA8.out.cls HM.out
 go_wp2_with fail
 refine (two_at (l:=[0,a0_1,a0_2,0,(l0_3.length:Int)]) HA8.out.I H4.out rfl (by simp) rfl rfl).mono ?_
 rintro e W9 ⟨rfl,v9,hI9,hS9⟩
 have HA9:=Aside0.mk (HA8.out.step hI9 hS9)
 clear hI9 hS9 HA8 H4 cf8 d1 d2 d3
 obtain ⟨_,_,d3,_⟩:=HA9.out.cls HM.out
 go_wp2
 clear d3
 go_loopw [47] (fun vi wr => ∃ (i:Nat) (cur:List Int) (vr:Value),vi=.int .i64 (i:Int)∧Aside0 (i≤l0_3.length)∧Aside0 (wFlds (l0_3.drop i) cur=some b5)∧Aside0 (BodyAt w wr bc bf g B M vr cur)) (fun vi _ => (l0_3.length - (intOf vi).toNat))
 case atStart => exact ⟨0,b4,v9,rfl,⟨Nat.zero_le _⟩,H5,HA9⟩
 case round =>
  obtain ⟨i,cur,vr,rfl,HLI,HT,HAr⟩:=hrel
  clear HA9 H5
  by_cases hlt:i < l0_3.length
  ·have hpi:decide ((i:Int) < (l0_3.length:Int))=true:=decide_eq_true (by omega)
   have hpn:decide (i < l0_3.length)=true:=decide_eq_true hlt
   have hpt:(i < l0_3.length)=True:=eq_true hlt
   have hge:(0≤(i:Int))=True:=eq_true (by omega)
   obtain ⟨ad,ea,hx0,hx1,hx2⟩:=at_T46 (Kd.C_below HR0_3.out HAr.out.bl) (i:Int) (by omega) (by omega)
   subst ea
   simp only [Int.toNat_natCast] at hx0 hx1 hx2
   have hT:=HT.out
   have hdr:l0_3.drop i=rd_T46 l0_3 (i:Int) :: l0_3.drop (i + 1):=by
    rw [List.drop_eq_getElem_cons hlt]
    congr 1
    simp [rd_T46,List.getD_eq_getElem?_getD,List.getElem?_eq_getElem hlt]
   rw [hdr] at hT
   obtain ⟨bn,hU,hN⟩:=Option.bind_eq_some_iff.mp hT
   obtain ⟨tt,htt⟩:∃ tt,tt=rd_T46 l0_3 (i:Int):=⟨_,rfl⟩
   rw [← htt] at hU hx0 hx1 hx2
   have HU:=Aside0.mk hU
   have HN:=Aside0.mk hN
   have hwi:wrap64 ((i:Int) + 1)=(i:Int) + 1:=by have:=HL.out.1;unfold wrap64;omega
   have cfr:=HAr.out.cf
   have hltf:=blk_lt HAr.out.kf
   clear hT hdr hU hN HT hlt htt
   go_wp2_with fail
   have HAs:=Aside0.mk (HAr.out.new (below_alloc (Below.refl wr.heap.size wr) (.cells #[.int .i64 tt.f0,.int .i64 tt.f1,.int .i64 tt.f2] 46 (0,0))))
   refine (two_at (l:=[tt.f0,tt.f1,tt.f2,0]) HAs.out.I HU.out (by simp) (by simp) rfl rfl).mono ?_
   rintro e w3 ⟨rfl,v3,hI3,hS3⟩
   have HA3:=Aside0.mk (HAs.out.step hI3 hS3)
   clear hI3 hS3 hx0 hx1 hx2 cfr hltf HAs HAr
   go_wp2
   go_roundw
   case measure => exact fewer (of_decide_eq_true hpn) hwi
   case rel =>
    rw [hwi]
    exact ⟨i + 1,bn,v3,rfl,⟨of_decide_eq_true hpn⟩,HN,HA3⟩
  have hpi:decide ((i:Int) < (l0_3.length:Int))=false:=decide_eq_false (by omega)
  have hpn:decide (i < l0_3.length)=false:=decide_eq_false hlt
  have hT:=HT.out
  rw [List.drop_eq_nil_of_le (by omega)] at hT
  have e:=Option.some.inj hT
  subst e
  clear hT HT hlt HLI
  obtain ⟨W10,hW10⟩:∃ W10,W10=wr:=⟨_,rfl⟩
  have HA10:=HAr
  rw [← hW10] at HA10
  rw [← hW10]
  clear hW10 HAr
  have cf10:=HA10.out.cf
  obtain ⟨_,_,_,d4⟩:=HA10.out.cls HM.out
  go_wp2_with fail
  refine (two_at (l:=[(l0_4.length:Int)]) HA10.out.I H6.out rfl (by simp) rfl rfl).mono ?_
  rintro e W11 ⟨rfl,v11,hI11,hS11⟩
  have HA11:=Aside0.mk (HA10.out.step hI11 hS11)
  clear hI11 hS11 HA10 H6 cf10 d4
  obtain ⟨_,_,_,d4⟩:=HA11.out.cls HM.out
  go_wp2
  clear d4
  go_loopw [70] (fun vi wr => ∃ (i:Nat) (cur:List Int) (vr:Value),vi=.int .i64 (i:Int)∧Aside0 (i≤l0_4.length)∧Aside0 (wMths k l0_0 (l0_4.drop i) cur=some b7)∧Aside0 (BodyAt w wr bc bf g B M vr cur)) (fun vi _ => (l0_4.length - (intOf vi).toNat))
  case atStart => exact ⟨0,b6,v11,rfl,⟨Nat.zero_le _⟩,H7,HA11⟩
  case round =>
   obtain ⟨i,cur,vr,rfl,HLI,HT0,HAr⟩:=hrel
   clear HA11 H7
   by_cases hlt:i < l0_4.length
   ·have hpi:decide ((i:Int) < (l0_4.length:Int))=true:=decide_eq_true (by omega)
    have hpn:decide (i < l0_4.length)=true:=decide_eq_true hlt
    have hpt:(i < l0_4.length)=True:=eq_true hlt
    have hge:(0≤(i:Int))=True:=eq_true (by omega)
    obtain ⟨ad,A5,c5,A6,c6,A7,c7,ea,hx0,hx1,hx2,hx3,hx4,hx5,hx6,hx7,l5,g5,l6,g6,l7,g7⟩:=at_T49 HR0_4.out (i:Int) (by omega) (by omega)
    subst ea
    simp only [Int.toNat_natCast] at hx0 hx1 hx2 hx3 hx4 hx5 hx6 hx7
    have hT:=HT0.out
    have hdr:l0_4.drop i=rd_T49 l0_4 (i:Int) :: l0_4.drop (i + 1):=by
     rw [List.drop_eq_getElem_cons hlt]
     congr 1
     simp [rd_T49,List.getD_eq_getElem?_getD,List.getElem?_eq_getElem hlt]
    rw [hdr] at hT
    obtain ⟨x,hP,hT⟩:=Option.bind_eq_some_iff.mp hT
    obtain ⟨b6,hU,hT⟩:=Option.bind_eq_some_iff.mp hT
    obtain ⟨bb,hD,hT⟩:=Option.bind_eq_some_iff.mp hT
    obtain ⟨bn,hG1,hN⟩:=Option.bind_eq_some_iff.mp hT
    obtain ⟨mm,hmm⟩:∃ mm,mm=rd_T49 l0_4 (i:Int):=⟨_,rfl⟩
    rw [← hmm] at hU hD hx0 hx1 hx2 hx3 hx4 hx5 hx6 hx7 l5 g5 l6 g6 l7 g7
    have hy0:=pw_cell_below HAr.out.bl hx0
    have hy1:=pw_cell_below HAr.out.bl hx1
    have hy2:=pw_cell_below HAr.out.bl hx2
    have hy3:=pw_cell_below HAr.out.bl hx3
    have hy4:=pw_cell_below HAr.out.bl hx4
    have hy5:=pw_cell_below HAr.out.bl hx5
    have hy6:=pw_cell_below HAr.out.bl hx6
    have hy7:=pw_cell_below HAr.out.bl hx7
    have HPL:=Aside0.mk hP
    have HT:=Aside0.mk hU
    have HBD:=Aside0.mk hD
    have HLG:=Aside0.mk hG1
    have HN:=Aside0.mk hN
    have HQ5:=Aside0.mk g5
    have HQ6:=Aside0.mk g6
    have HQ7:=Aside0.mk g7
    have HL5:=Aside0.mk l5
    have HL6:=Aside0.mk l6
    have HL7:=Aside0.mk l7
    have hwi:wrap64 ((i:Int) + 1)=(i:Int) + 1:=by have:=HL.out.2;unfold wrap64;omega
    clear hT hdr hU hN HT0 hlt hmm hP hD hG1 g5 g6 g7 l5 l6 l7 hx0 hx1 hx2 hx3 hx4 hx5 hx6 hx7
    go_wp2
    obtain ⟨bk,hbk⟩:∃ bk,bk=wr.heap.size:=⟨_,rfl⟩
    obtain ⟨Wa,hWa⟩:∃ Wa,Wa=wr.alloc (MthRow mm.f0 mm.f1 mm.f2 mm.f3 mm.f4 (.slice A5 mm.f5.length c5) (.slice A6 mm.f6.length c6) (.slice A7 mm.f7.length c7)):=⟨_,rfl⟩
    rw [← hWa,← hbk]
    have hba:Below wr.heap.size wr Wa:=by rw [hWa];exact below_alloc (Below.refl _ _) _
    have hka:Wa.heap[bk]?=some (MthRow mm.f0 mm.f1 mm.f2 mm.f3 mm.f4 (.slice A5 mm.f5.length c5) (.slice A6 mm.f6.length c6) (.slice A7 mm.f7.length c7)):=by rw [hWa,hbk];exact blk_new _ _
    have HA7:=Aside0.mk (HAr.out.new hba)
    have HK7:Aside0 (MthAt Wa g vr bk mm (.slice A5 mm.f5.length c5) (.slice A6 mm.f6.length c6) (.slice A7 mm.f7.length c7)):=⟨⟨hka,HAr.out.I.far_new (w1:=Wa) (by omega) (blk_lt hka)⟩⟩
    clear hWa hbk hba hka hy0 hy1 hy2 hy3 hy4 hy5 hy6 hy7 HAr
    have cff:=HA7.out.cf
    have cfp:=HA7.out.cp HM.out
    obtain ⟨cm0,cm1,cm2,cm3,cm4,cm5,cm6,cm7⟩:=HK7.out.cm
    refine start_ (n:=12) (S:=fun w' => w'.cell? ⟨bf,0,none⟩=some (.pointer (some ⟨g,0,none⟩))∧w'.cell? ⟨bc,0,none⟩=some (.slice A0_0 l0_0.length c0_0)∧w'.cell? ⟨bk,0,none⟩=some (.int .i64 mm.f0)∧w'.cell? ⟨bk,1,none⟩=some (.int .i64 mm.f1)∧w'.cell? ⟨bk,2,none⟩=some (.int .i64 mm.f2)∧w'.cell? ⟨bk,3,none⟩=some (.int .i64 mm.f3)∧w'.cell? ⟨bk,4,none⟩=some (.int .i64 mm.f4)∧w'.cell? ⟨bk,5,none⟩=some (.slice A5 mm.f5.length c5)∧w'.cell? ⟨bk,6,none⟩=some (.slice A6 mm.f6.length c6)∧w'.cell? ⟨bk,7,none⟩=some (.slice A7 mm.f7.length c7)) (ds:=[]) #[false,false,false,false,false,false,false,false,false,false,false,false] (by kernel_rfl) rfl rfl ⟨cff,cfp,cm0,cm1,cm2,cm3,cm4,cm5,cm6,cm7⟩ (fun hHeld => ?_)
    refine pure_ (i:=1) (N:=some 75) (v:=?_) (a':=?_) #[false,true,false,false,false,false,false,false,false,false,false,false] rfl rfl (by kernel_rfl) (fun _ _ _ h => h) (Or.inl ⟨by rfl,?_⟩) ?_ ?_
    rotate_left
    ·intro w'
     go_simp
     with_reducible rfl
    rotate_left
    ·simp only [Act.put,List.setIfInBounds_toArray,List.set_cons_zero,List.set_cons_succ,i64_w,i32_w]
     rfl
    refine pure_ (i:=3) (N:=some 77) (v:=?_) (a':=?_) #[false,true,false,true,false,false,false,false,false,false,false,false] rfl rfl (by kernel_rfl) (fun _ _ _ h => h) (Or.inl ⟨by rfl,?_⟩) ?_ ?_
    rotate_left
    ·intro w'
     go_simp
     with_reducible rfl
    rotate_left
    ·simp only [Act.put,List.setIfInBounds_toArray,List.set_cons_zero,List.set_cons_succ,i64_w,i32_w]
     rfl
    refine pure_ (i:=5) (N:=some 79) (v:=?_) (a':=?_) #[false,true,false,true,false,true,false,false,false,false,false,false] rfl rfl (by kernel_rfl) (fun _ _ _ h => h) (Or.inl ⟨by rfl,?_⟩) ?_ ?_
    rotate_left
    ·intro w'
     go_simp
     with_reducible rfl
    rotate_left
    ·simp only [Act.put,List.setIfInBounds_toArray,List.set_cons_zero,List.set_cons_succ,i64_w,i32_w]
     rfl
    refine pure_ (i:=7) (N:=some 81) (v:=?_) (a':=?_) #[false,true,false,true,false,true,false,true,false,false,false,false] rfl rfl (by kernel_rfl) (fun _ _ _ h => h) (Or.inl ⟨by rfl,?_⟩) ?_ ?_
    rotate_left
    ·intro w'
     go_simp
     with_reducible rfl
    rotate_left
    ·simp only [Act.put,List.setIfInBounds_toArray,List.set_cons_zero,List.set_cons_succ,i64_w,i32_w]
     rfl
    refine take_ (i:=0) (N:=some 74) (v:=?_) (a':=?_) #[true,true,false,true,false,true,false,true,false,false,false,false] rfl rfl (by kernel_rfl) (fun _ _ _ h => h) (Or.inl ⟨by rfl,?_⟩) hHeld ?_ ?_
    rotate_left
    ·rintro w' ⟨s0,s1,s2,s3,s4,s5,s6,s7,s8,s9⟩
     go_simp
     with_reducible rfl
    rotate_left
    ·simp only [Act.put,List.setIfInBounds_toArray,List.set_cons_zero,List.set_cons_succ,i64_w,i32_w]
     rfl
    refine take_ (i:=2) (N:=some 76) (v:=?_) (a':=?_) #[true,true,true,true,false,true,false,true,false,false,false,false] rfl rfl (by kernel_rfl) (fun _ _ _ h => h) (Or.inl ⟨by rfl,?_⟩) hHeld ?_ ?_
    rotate_left
    ·rintro w' ⟨s0,s1,s2,s3,s4,s5,s6,s7,s8,s9⟩
     go_simp
     with_reducible rfl
    rotate_left
    ·simp only [Act.put,List.setIfInBounds_toArray,List.set_cons_zero,List.set_cons_succ,i64_w,i32_w]
     rfl
    refine take_ (i:=4) (N:=some 78) (v:=?_) (a':=?_) #[true,true,true,true,true,true,false,true,false,false,false,false] rfl rfl (by kernel_rfl) (fun _ _ _ h => h) (Or.inl ⟨by rfl,?_⟩) hHeld ?_ ?_
    rotate_left
    ·rintro w' ⟨s0,s1,s2,s3,s4,s5,s6,s7,s8,s9⟩
     go_simp
     with_reducible rfl
    rotate_left
    ·simp only [Act.put,List.setIfInBounds_toArray,List.set_cons_zero,List.set_cons_succ,i64_w,i32_w]
     rfl
    refine take_ (i:=6) (N:=some 80) (v:=?_) (a':=?_) #[true,true,true,true,true,true,true,true,false,false,false,false] rfl rfl (by kernel_rfl) (fun _ _ _ h => h) (Or.inl ⟨by rfl,?_⟩) hHeld ?_ ?_
    rotate_left
    ·rintro w' ⟨s0,s1,s2,s3,s4,s5,s6,s7,s8,s9⟩
     go_simp
     with_reducible rfl
    rotate_left
    ·simp only [Act.put,List.setIfInBounds_toArray,List.set_cons_zero,List.set_cons_succ,i64_w,i32_w]
     rfl
    refine take_ (i:=8) (N:=some 82) (v:=?_) (a':=?_) #[true,true,true,true,true,true,true,true,true,false,false,false] rfl rfl (by kernel_rfl) (fun _ _ _ h => h) (Or.inl ⟨by rfl,?_⟩) hHeld ?_ ?_
    rotate_left
    ·rintro w' ⟨s0,s1,s2,s3,s4,s5,s6,s7,s8,s9⟩
     go_simp
     with_reducible rfl
    rotate_left
    ·simp only [Act.put,List.setIfInBounds_toArray,List.set_cons_zero,List.set_cons_succ,i64_w,i32_w]
     rfl
    refine one_ (i:=9) (N:=some 83) #[true,true,true,true,true,true,true,true,true,true,false,false] rfl rfl (by kernel_rfl) (by decide) (fun K hK => ?_)
    refine goes_ Tryd.func13 (by kernel_rfl) rfl #[.slice A0_0 l0_0.length c0_0,.string sCode] (by rfl) rfl rfl (by simp only [List.map_toArray,List.map_cons,List.map_nil];rfl) ?_
    with_reducible refine (class_place.calls k A0_0 c0_0 l0_0 sCode x _ (Kd.C_below HR0_0.out (below_drew HA7.out.bl)) HC0_0.out HPL.out).mono ?_
    rintro e w8 ⟨rfl,⟨⟨nd,rfl⟩⟩⟩
    refine ⟨_,rfl,?_⟩
    refine hK.out _ _ ⟨(by exact hHeld.1),(by exact hHeld.2.1),(by exact hHeld.2.2.1),(by exact hHeld.2.2.2.1),(by exact hHeld.2.2.2.2.1),(by exact hHeld.2.2.2.2.2.1),(by exact hHeld.2.2.2.2.2.2.1),(by exact hHeld.2.2.2.2.2.2.2.1),(by exact hHeld.2.2.2.2.2.2.2.2.1),(by exact hHeld.2.2.2.2.2.2.2.2.2)⟩ (fun hHeld => ?_)
    clear hK K
    refine norm_ (a':=?_) ?_ ?_
    rotate_left
    ·show Act.put _ (some 83) _=_
     simp only [Act.put,List.setIfInBounds_toArray,List.set_cons_zero,List.set_cons_succ,i64_w,i32_w]
     rfl
    refine one_ (i:=10) (N:=some 84) #[true,true,true,true,true,true,true,true,true,true,true,false] rfl rfl (by kernel_rfl) (by decide) (fun K hK => ?_)
    refine value_ (w1:=?_) (v:=?_) (by rfl) rfl ?_ ?_
    rotate_left 2
    ·go_simp
     constructor
     ·rfl
     ·rfl
    refine hK.out _ _ ⟨(by exact pw_cell_below ((Below.refl _ _).alloc (Nat.le_refl _) _) hHeld.1),(by exact pw_cell_below ((Below.refl _ _).alloc (Nat.le_refl _) _) hHeld.2.1),(by exact pw_cell_below ((Below.refl _ _).alloc (Nat.le_refl _) _) hHeld.2.2.1),(by exact pw_cell_below ((Below.refl _ _).alloc (Nat.le_refl _) _) hHeld.2.2.2.1),(by exact pw_cell_below ((Below.refl _ _).alloc (Nat.le_refl _) _) hHeld.2.2.2.2.1),(by exact pw_cell_below ((Below.refl _ _).alloc (Nat.le_refl _) _) hHeld.2.2.2.2.2.1),(by exact pw_cell_below ((Below.refl _ _).alloc (Nat.le_refl _) _) hHeld.2.2.2.2.2.2.1),(by exact pw_cell_below ((Below.refl _ _).alloc (Nat.le_refl _) _) hHeld.2.2.2.2.2.2.2.1),(by exact pw_cell_below ((Below.refl _ _).alloc (Nat.le_refl _) _) hHeld.2.2.2.2.2.2.2.2.1),(by exact pw_cell_below ((Below.refl _ _).alloc (Nat.le_refl _) _) hHeld.2.2.2.2.2.2.2.2.2)⟩ (fun hHeld => ?_)
    clear hK K
    refine norm_ (a':=?_) ?_ ?_
    rotate_left
    ·show Act.put _ (some 84) _=_
     simp only [Act.put,List.setIfInBounds_toArray,List.set_cons_zero,List.set_cons_succ,i64_w,i32_w]
     rfl
    refine one_ (i:=11) (N:=some 85) #[true,true,true,true,true,true,true,true,true,true,true,true] rfl rfl (by kernel_rfl) (by decide) (fun K hK => ?_)
    have HA9:=Aside0.mk (HA7.out.new (pw_below_drewN (Below.refl Wa.heap.size Wa) (1 + nd)))
    have HK9:=Aside0.mk (HK7.out.new (pw_below_drewN (Below.refl Wa.heap.size Wa) (1 + nd)))
    refine goes_ Tryd.func12 (by kernel_rfl) rfl #[.agg #[.pointer (some ⟨g,0,none⟩)],.slice (some ⟨Wa.heap.size,0,none⟩) 5 5] (by rfl) rfl rfl (by simp only [List.map_toArray,List.map_cons,List.map_nil];rfl) ?_
    refine (two_at (l:=[mm.f0,mm.f1,mm.f2,1,x]) HA9.out.I HT.out rfl (by simp) rfl rfl).mono ?_
    rintro e w9 ⟨rfl,v9,hI9,hS9⟩
    refine ⟨_,rfl,?_⟩
    have HA10:=Aside0.mk (HA9.out.step hI9 hS9)
    have HK10:=Aside0.mk (HK9.out.step hS9)
    have cff:=HA10.out.cf
    have cfp:=HA10.out.cp HM.out
    obtain ⟨cm0,cm1,cm2,cm3,cm4,cm5,cm6,cm7⟩:=HK10.out.cm
    clear hI9 hS9
    refine hK.out _ _ ⟨cff,cfp,cm0,cm1,cm2,cm3,cm4,cm5,cm6,cm7⟩ (fun hHeld => ?_)
    clear hK K
    refine norm_ (a':=?_) ?_ ?_
    rotate_left
    ·show Act.put _ (some 85) _=_
     simp only [Act.put,List.setIfInBounds_toArray,List.set_cons_zero,List.set_cons_succ,i64_w,i32_w]
     rfl
    refine done_ (by kernel_rfl) ?_
    clear hHeld HA9 HK9 HA7 HK7 HT HPL
    go_wp2
    refine start_ (n:=6) (S:=fun w' => w'.cell? ⟨bf,0,none⟩=some (.pointer (some ⟨g,0,none⟩))∧w'.cell? ⟨bc,0,none⟩=some (.slice A0_0 l0_0.length c0_0)∧w'.cell? ⟨bk,0,none⟩=some (.int .i64 mm.f0)∧w'.cell? ⟨bk,1,none⟩=some (.int .i64 mm.f1)∧w'.cell? ⟨bk,2,none⟩=some (.int .i64 mm.f2)∧w'.cell? ⟨bk,3,none⟩=some (.int .i64 mm.f3)∧w'.cell? ⟨bk,4,none⟩=some (.int .i64 mm.f4)∧w'.cell? ⟨bk,5,none⟩=some (.slice A5 mm.f5.length c5)∧w'.cell? ⟨bk,6,none⟩=some (.slice A6 mm.f6.length c6)∧w'.cell? ⟨bk,7,none⟩=some (.slice A7 mm.f7.length c7)) (ds:=[]) #[false,false,false,false,false,false] (by kernel_rfl) rfl rfl ⟨cff,cfp,cm0,cm1,cm2,cm3,cm4,cm5,cm6,cm7⟩ (fun hHeld => ?_)
    refine pure_ (i:=1) (N:=some 87) (v:=?_) (a':=?_) #[false,true,false,false,false,false] rfl rfl (by kernel_rfl) (fun _ _ _ h => h) (Or.inl ⟨by rfl,?_⟩) ?_ ?_
    rotate_left
    ·intro w'
     go_simp
     with_reducible rfl
    rotate_left
    ·simp only [Act.put,List.setIfInBounds_toArray,List.set_cons_zero,List.set_cons_succ,i64_w,i32_w]
     rfl
    refine take_ (i:=0) (N:=some 86) (v:=?_) (a':=?_) #[true,true,false,false,false,false] rfl rfl (by kernel_rfl) (fun _ _ _ h => h) (Or.inl ⟨by rfl,?_⟩) hHeld ?_ ?_
    rotate_left
    ·rintro w' ⟨s0,s1,s2,s3,s4,s5,s6,s7,s8,s9⟩
     go_simp
     with_reducible rfl
    rotate_left
    ·simp only [Act.put,List.setIfInBounds_toArray,List.set_cons_zero,List.set_cons_succ,i64_w,i32_w]
     rfl
    refine take_ (i:=2) (N:=some 88) (v:=?_) (a':=?_) #[true,true,true,false,false,false] rfl rfl (by kernel_rfl) (fun _ _ _ h => h) (Or.inl ⟨by rfl,?_⟩) hHeld ?_ ?_
    rotate_left
    ·rintro w' ⟨s0,s1,s2,s3,s4,s5,s6,s7,s8,s9⟩
     go_simp
     with_reducible rfl
    rotate_left
    ·simp only [Act.put,List.setIfInBounds_toArray,List.set_cons_zero,List.set_cons_succ,i64_w,i32_w]
     rfl
    refine take_ (i:=3) (N:=some 89) (v:=?_) (a':=?_) #[true,true,true,true,false,false] rfl rfl (by kernel_rfl) (fun _ _ _ h => h) (Or.inl ⟨by rfl,?_⟩) hHeld ?_ ?_
    rotate_left
    ·rintro w' ⟨s0,s1,s2,s3,s4,s5,s6,s7,s8,s9⟩
     go_simp
     with_reducible rfl
    rotate_left
    ·simp only [Act.put,List.setIfInBounds_toArray,List.set_cons_zero,List.set_cons_succ,i64_w,i32_w]
     rfl
    refine one_ (i:=4) (N:=some 90) #[true,true,true,true,true,false] rfl rfl (by kernel_rfl) (by decide) (fun K hK => ?_)
    refine goes_ Tryd.func15 (by kernel_rfl) rfl #[.slice A0_0 l0_0.length c0_0,.agg #[.int .i64 mm.f0,.int .i64 mm.f1,.int .i64 mm.f2,.int .i64 mm.f3,.int .i64 mm.f4,.slice A5 mm.f5.length c5,.slice A6 mm.f6.length c6,.slice A7 mm.f7.length c7]] (by rfl) rfl rfl (by simp only [List.map_toArray,List.map_cons,List.map_nil];rfl) ?_
    with_reducible refine (class_body.calls k A0_0 c0_0 l0_0 mm.f0 mm.f1 mm.f2 mm.f3 mm.f4 A5 c5 mm.f5 A6 c6 mm.f6 A7 c7 mm.f7 bb _ (Kd.C_below HR0_0.out (below_drew HA10.out.bl)) HC0_0.out (Kd.C_below HQ5.out (below_drew HA10.out.bl)) HL5.out (Kd.C_below HQ6.out (below_drew HA10.out.bl)) HL6.out (Kd.C_below HQ7.out (below_drew HA10.out.bl)) HL7.out HBD.out).mono ?_
    rintro e w11 ⟨vb,rfl,hRb,hbb⟩
    refine ⟨_,rfl,?_⟩
    obtain ⟨Ab,cb,hvb,hcb,_⟩:=Kd.R_reads hRb
    subst hvb
    have HRb:=Aside0.mk hRb
    have HA11:=Aside0.mk (HA10.out.new (below_step (below_drew (Below.refl w9.heap.size w9)) hbb))
    have cff:=HA11.out.cf
    have cfp:=HA11.out.cp HM.out
    have HK11:=Aside0.mk (HK10.out.new (below_step (below_drew (Below.refl w9.heap.size w9)) hbb))
    obtain ⟨cm0,cm1,cm2,cm3,cm4,cm5,cm6,cm7⟩:=HK11.out.cm
    have HF11:=Aside0.mk (show ∀ q,w9.heap.size≤q→q < w11.heap.size→WrFar w11 g v9 q from fun q h1 h2 => HA10.out.I.far_new h1 h2)
    clear hRb hbb
    refine hK.out _ _ ⟨cff,cfp,cm0,cm1,cm2,cm3,cm4,cm5,cm6,cm7⟩ (fun hHeld => ?_)
    clear hK K
    refine norm_ (a':=?_) ?_ ?_
    rotate_left
    ·show Act.put _ (some 90) _=_
     simp only [Act.put,List.setIfInBounds_toArray,List.set_cons_zero,List.set_cons_succ,i64_w,i32_w]
     rfl
    refine one_ (i:=5) (N:=some 91) #[true,true,true,true,true,true] rfl rfl (by kernel_rfl) (by decide) (fun K hK => ?_)
    refine goes_ Tryd.func14 (by kernel_rfl) rfl #[.agg #[.pointer (some ⟨g,0,none⟩)],.slice Ab bb.length cb] (by rfl) rfl rfl (by simp only [List.map_toArray,List.map_cons,List.map_nil];rfl) ?_
    refine (file_long.calls B g v9 b6 bn bb Ab cb w11 HA11.out.I (fun w' v' hS => row_C (hS.R HRb.out (fun q h1 h2 => HF11.out q h1 h2))) HLG.out).mono ?_
    rintro e w12 ⟨rfl,v12,hI12,hS12⟩
    refine ⟨_,rfl,?_⟩
    have HA12:=Aside0.mk (HA11.out.step hI12 hS12)
    have cff:=HA12.out.cf
    have cfp:=HA12.out.cp HM.out
    have HK12:=Aside0.mk (HK11.out.step hS12)
    obtain ⟨cm0,cm1,cm2,cm3,cm4,cm5,cm6,cm7⟩:=HK12.out.cm
    clear hI12 hS12
    refine hK.out _ _ ⟨cff,cfp,cm0,cm1,cm2,cm3,cm4,cm5,cm6,cm7⟩ (fun hHeld => ?_)
    clear hK K
    refine norm_ (a':=?_) ?_ ?_
    rotate_left
    ·show Act.put _ (some 91) _=_
     simp only [Act.put,List.setIfInBounds_toArray,List.set_cons_zero,List.set_cons_succ,i64_w,i32_w]
     rfl
    refine done_ (by kernel_rfl) ?_
    clear hHeld HA10 HK10 HA11 HK11 HF11 HRb HBD HLG cff cfp cm0 cm1 cm2 cm3 cm4 cm5 cm6 cm7
    go_wp2
    go_roundw
    case measure => exact fewer (of_decide_eq_true hpn) hwi
    case rel =>
     rw [hwi]
     exact ⟨i + 1,bn,v12,rfl,⟨of_decide_eq_true hpn⟩,HN,HA12⟩
   ·have hpi:decide ((i:Int) < (l0_4.length:Int))=false:=decide_eq_false (by omega)
    have hpn:decide (i < l0_4.length)=false:=decide_eq_false hlt
    have hT:=HT0.out
    rw [List.drop_eq_nil_of_le (by omega)] at hT
    have e:=Option.some.inj hT
    subst e
    clear hT HT0 hlt HLI
    obtain ⟨W12,hW12⟩:∃ W12,W12=wr:=⟨_,rfl⟩
    have HA12:=HAr
    rw [← hW12] at HA12
    rw [← hW12]
    clear hW12 HAr
    have cf12:=HA12.out.cf
    go_wp2_with fail
    refine (two_at (l:=[0]) HA12.out.I H8.out rfl (by simp) rfl rfl).mono ?_
    rintro e W13 ⟨rfl,v13,hI13,hS13⟩
    have HA13:=Aside0.mk (HA12.out.step hI13 hS13)
    clear hI13 hS13 HA12 cf12
    have cf13:=HA13.out.cf
    go_wp2_with fail
    refine (wr_Out.calls B g v13 b8 1048576 _ HA13.out.I HL8.out).mono ?_
    rintro e wo ⟨vo,rfl,hRo,hbo⟩
    have HRo:=Aside0.mk hRo
    have HBo:=Aside0.mk (below_step HA13.out.bl hbo)
    clear hRo hbo
    go_wp2
    go_ret2
    exact ⟨_,rfl,Kd.R_lower HRo.out HA13.out.bl.size,HBo.out⟩
end Go.Proofs.YtmloaijagkebpaaDoor.Px
namespace Go.Proofs.YtmloaijagkebpaaDoor.Px
open Go.RowKit Go.Proofs.YtmloaijagkebpaaDoorW.PrintWords Go.Proofs.YtmloaijagkebpaaDoorW.PrintLast Go.Proofs.YtmloaijagkebpaaDoorW.PrintMore
attribute [local go_sem] max2_int min2_int max_two min_two max_three min_three max_four min_four
set_option linter.unusedVariables false
set_option linter.unusedSimpArgs false
def understudylaw05_awake.f (k:Nat) :Option (Bool):=(some (([(⟨0,(⟨#[]⟩:ByteArray),0,0,0⟩:S60),(⟨1,(⟨#[65]⟩:ByteArray),0,0,0⟩:S60),(⟨7,(⟨#[]⟩:ByteArray),0,1,0⟩:S60)]:List (S60)):List (S60))).bind fun y431 => ((class_Check.f k y431 2 2 ([]:List (S46)) ([]:List (S49))).bind fun t435 => (if t435=0 then ((class_Name.f y431 2 2 ([]:List (S46)) ([]:List (S49))).bind fun t436 => (some (t436.toList==([65]:List UInt8)))) else (some false)))
theorem understudylaw05_awake.mono:∀ k,LeO (understudylaw05_awake.f k ) (understudylaw05_awake.f (k + 1) ):=by
 intro  k
 unfold understudylaw05_awake.f
 repeat' first
   | (with_reducible exact class_Check.mono _ _ _ _ _ _)
   | (with_reducible exact LeO.refl _)
   | (with_reducible exact LeO.none _)
   | (with_reducible refine LeO.ite ?_ ?_)
   | (with_reducible refine LeO.bind ?_ (fun _ => ?_))
   | exact class_Check.mono _ _ _ _ _ _
   | exact LeO.none _
   | refine LeO.ite ?_ ?_
   | refine LeO.bind ?_ (fun _ => ?_)
set_option maxHeartbeats 80000000 in
set_option maxRecDepth 100000 in
theorem understudylaw05_awake.calls (k:Nat)  (r:Bool) (w:World) (hG:Aside0 (GG w)) (h:understudylaw05_awake.f k =some r) :
  Calls Tryd.prog 6 #[] w fun e w' => e=.returned (.bool r)∧Below w.heap.size w w':=by
 have hu60:=Tryd.underlying60
 have hu26:=Tryd.underlying26
 have HB:=Aside0.mk (Below.refl w.heap.size w)
 have H:((some (([(⟨0,(⟨#[]⟩:ByteArray),0,0,0⟩:S60),(⟨1,(⟨#[65]⟩:ByteArray),0,0,0⟩:S60),(⟨7,(⟨#[]⟩:ByteArray),0,1,0⟩:S60)]:List (S60)):List (S60))).bind fun y431 => ((class_Check.f k y431 2 2 ([]:List (S46)) ([]:List (S49))).bind fun t435 => (if t435=0 then ((class_Name.f y431 2 2 ([]:List (S46)) ([]:List (S49))).bind fun t436 => (some (t436.toList==([65]:List UInt8)))) else (some false))))=some r:=h
 clear h
 obtain ⟨y431,hy431⟩:∃ y_:List (S60),y_=(([(⟨0,(⟨#[]⟩:ByteArray),0,0,0⟩:S60),(⟨1,(⟨#[65]⟩:ByteArray),0,0,0⟩:S60),(⟨7,(⟨#[]⟩:ByteArray),0,1,0⟩:S60)]:List (S60))):=⟨_,rfl⟩
 replace H:((class_Check.f k y431 2 2 ([]:List (S46)) ([]:List (S49))).bind fun t435 => (if t435=0 then ((class_Name.f y431 2 2 ([]:List (S46)) ([]:List (S49))).bind fun t436 => (some (t436.toList==([65]:List UInt8)))) else (some false)))=some r:=by first|(rw [hy431];with_reducible exact H)|(have H2_:=(Option.bind_some _ _).symm.trans H;rw [hy431];with_reducible exact H2_)|(have H2_:=(Option.bind_some _ _).symm.trans H;with_reducible exact H2_)|with_reducible exact H|(rw [hy431];exact H)|exact H
 have Ny431:=Aside0.mk hy431
 clear hy431
 replace H:=Option.bind_eq_some_iff.mp H
 obtain ⟨t435,A10,H⟩:=H
 try dsimp only at H
 have A1:=Aside0.mk A10
 clear A10
 by_cases c2:t435=0
 ·rw [if_pos c2] at H
  have c2b0:(t435==0)=true:=beq_iff_eq.mpr c2
  have c2b1:(t435 != 0)=false:=bne_eq_false_iff_eq.mpr c2
  clear c2
  replace H:=Option.bind_eq_some_iff.mp H
  obtain ⟨t436,A30,H⟩:=H
  try dsimp only at H
  have A3:=Aside0.mk A30
  clear A30
  obtain rfl:=Option.some.inj H
  go_enter Tryd.func6,Tryd.ntmps6
  go_wp2_with (first|((with_reducible refine gate_dst (N:=5) rfl ?_);refine Kd.R_lit k60 _ 60 ?hg (N:=5) ?hd (xs:=([(⟨0,(⟨#[]⟩:ByteArray),0,0,0⟩:S60),(⟨1,(⟨#[65]⟩:ByteArray),0,0,0⟩:S60),(⟨7,(⟨#[]⟩:ByteArray),0,1,0⟩:S60)]:List (S60))) (inner:=[.int .i64 0,.string (⟨#[]⟩:ByteArray),.int .i64 0,.int .i64 0,.int .i64 0,.int .i64 1,.string (⟨#[65]⟩:ByteArray),.int .i64 0,.int .i64 0,.int .i64 0,.int .i64 7,.string (⟨#[]⟩:ByteArray),.int .i64 0,.int .i64 1,.int .i64 0]) (ok:=fun _ => True) (okp:=fun _ => True) ?hr ?hp (fun _ hk => hk) trivial (Below.refl _ _) (Nat.le_refl _) (by simp) ?_;(case hd => rfl);(case hg => rfl);(case hr => first|(go_simp;done)|(go_simp;rfl));(case hp => exact (Reps.c5 (show Kd.M k60 _ _ _ (⟨0,(⟨#[]⟩:ByteArray),0,0,0⟩:S60) [.int .i64 0,.string (⟨#[]⟩:ByteArray),.int .i64 0,.int .i64 0,.int .i64 0] from (k60_mkM _ _ _ (⟨0,(⟨#[]⟩:ByteArray),0,0,0⟩:S60) )) (Reps.c5 (show Kd.M k60 _ _ _ (⟨1,(⟨#[65]⟩:ByteArray),0,0,0⟩:S60) [.int .i64 1,.string (⟨#[65]⟩:ByteArray),.int .i64 0,.int .i64 0,.int .i64 0] from (k60_mkM _ _ _ (⟨1,(⟨#[65]⟩:ByteArray),0,0,0⟩:S60) )) (Reps.c5 (show Kd.M k60 _ _ _ (⟨7,(⟨#[]⟩:ByteArray),0,1,0⟩:S60) [.int .i64 7,.string (⟨#[]⟩:ByteArray),.int .i64 0,.int .i64 1,.int .i64 0] from (k60_mkM _ _ _ (⟨7,(⟨#[]⟩:ByteArray),0,1,0⟩:S60) )) (Reps.none _ _)))));intro v432 w4 ho5 hb hg_ hnew_;clear hg_ hnew_;(first|rw [← Ny431.out] at ho5|(simp only [Int.reduceToNat] at ho5;rw [← Ny431.out] at ho5));have n0_:=Aside0.mk (Kd.R_lower ho5 (below_size bl_));have n1_:=Aside0.mk (below_step bl_ hb);clear HB;have HO433:=n0_;have HB:=n1_;clear n0_ n1_;clear hb ho5;obtain ⟨Ao6,co6,eo6⟩:=Kd.R_slice HO433.out;subst eo6)|((with_reducible refine gate_dst (N:=1) rfl ?_);refine box_event ?hg (N:=1) ?hd (cs:=#[.slice none 0 0,.int .i64 0,.int .i64 0,.slice none 0 0,.slice none 0 0]) (t:=26) ?hr ?_;(case hd => rfl);(case hg => rfl);(case hr => first|(go_simp;done)|(go_simp;rfl));intro gb434 hg w7 hbox hb;have n0_:=Aside0.mk (Kd.R_below (kr_ HO433.out) hb);have n1_:=Aside0.mk (below_step bl_ hb);have n2_:=Aside0.mk (hbox);have n3_:=Aside0.mk ((by rw [hg];exact (below_size bl_):w.heap.size≤gb434));have n4_:=Aside0.mk ((by rw [hg];exact (below_size bl_):w.heap.size≤gb434));clear HO433;clear HB;have HO433:=n0_;have HB:=n1_;have BK434:=n2_;have GW434:=n3_;have GE434:=n4_;clear n0_ n1_ n2_ n3_ n4_;clear hb hbox hg;obtain ⟨hcz8_0,hcz8_1,hcz8_2,hcz8_3,hcz8_4⟩:=blc5_ BK434.out;have hfz8_0:=blk_frozen BK434.out 0;have hfz8_1:=blk_frozen BK434.out 1;have hfz8_2:=blk_frozen BK434.out 2;have hfz8_3:=blk_frozen BK434.out 3;have hfz8_4:=blk_frozen BK434.out 4)|((with_reducible refine gate_store (t:=26) (p:=1) rfl ?_);refine store_event (t:=26) (p:=1) (v:=?vo_w9) (w1:=(((((w7.setCell ⟨gb434,0,none⟩ (.slice Ao6 y431.length co6)).setCell ⟨gb434,1,none⟩ (.int .i64 2)).setCell ⟨gb434,2,none⟩ (.int .i64 2)).setCell ⟨gb434,3,none⟩ (.slice none 0 0)).setCell ⟨gb434,4,none⟩ (.slice none 0 0))) ?hg ?ho ?hn ?hr ?_;(case ho => rfl);(case hg => rfl);(case hn => rfl);(case hr => first|(go_simp;done)|(go_simp;rfl));intro w9 hw;have n0_:Aside0 (Kd.R k60 60 w9 w.heap.size (fun _ => True) (.slice Ao6 y431.length co6) y431):=⟨(by rw [hw];exact (by (with_reducible repeat (first|apply Kd.R_alloc|apply Kd.R_drewN|apply Kd.R_drew));exact Kd.R_mono (Kd.R_far (p:=⟨gb434,4,none⟩) (Kd.R_far (p:=⟨gb434,3,none⟩) (Kd.R_far (p:=⟨gb434,2,none⟩) (Kd.R_far (p:=⟨gb434,1,none⟩) (Kd.R_far (p:=⟨gb434,0,none⟩) (Kd.R_types HO433.out BK434.out (by decide)) (fun _ hk => hk.2) (.slice Ao6 y431.length co6)) (fun _ hk => hk.2) (.int .i64 2)) (fun _ hk => hk.2) (.int .i64 2)) (fun _ hk => hk.2) (.slice none 0 0)) (fun _ hk => hk.2) (.slice none 0 0)) (fun _ hk => trivial)))⟩;have n1_:Aside0 (w9.heap[gb434]?=some (.cells #[.slice Ao6 y431.length co6,.int .i64 2,.int .i64 2,.slice none 0 0,.slice none 0 0] 26 (0,0))):=⟨(by rw [hw];exact (st5_ BK434.out))⟩;have n2_:Aside0 (Below w.heap.size w w9):=⟨(by rw [hw];exact bl_)⟩;clear hw;clear HO433;clear BK434;clear HB;have HO433:=n0_;have BK434:=n1_;have HB:=n2_;clear n0_ n1_ n2_;obtain ⟨hcz10_0,hcz10_1,hcz10_2,hcz10_3,hcz10_4⟩:=blc5_ BK434.out;have hfz10_0:=blk_frozen BK434.out 0;have hfz10_1:=blk_frozen BK434.out 1;have hfz10_2:=blk_frozen BK434.out 2;have hfz10_3:=blk_frozen BK434.out 3;have hfz10_4:=blk_frozen BK434.out 4)|(refine callA_ (f:=7) (some 8) Tryd.func7 #[.agg #[.slice Ao6 y431.length co6,.int .i64 2,.int .i64 2,.slice none 0 0,.slice none 0 0]] ?_;(refine (class_Check.calls k _ _ y431 2 2 _ _ ([]:List (S46)) _ _ ([]:List (S49)) t435 _ ?side7 ?side1 ?side2 ?side3 ?side4 ?side5 ?side6 A1.out).mono ?_);(case side1 => exact kc_ (Kd.R_reads' HO433.out).2.2);(case side2 => exact (Kd.R_reads' HO433.out).2.1);(case side3 => exact Kd.C_nil _ _);(case side4 => exact Nat.le_refl _);(case side5 => exact Kd.C_nil _ _);(case side6 => exact Nat.le_refl _);(case side7 => exact ⟨GG.below hG.out bl_⟩);rintro e w11 ⟨rfl,hb⟩;refine ⟨_,rfl,?_⟩;have n0_:=Aside0.mk (Kd.R_below (kr_ HO433.out) hb);have n1_:=Aside0.mk (blk_below (g:=gb434) (o:=.cells #[.slice Ao6 y431.length co6,.int .i64 2,.int .i64 2,.slice none 0 0,.slice none 0 0] 26 (0,0)) bk_ hb);have n2_:=Aside0.mk (below_step bl_ hb);clear HO433;clear BK434;clear HB;have HO433:=n0_;have BK434:=n1_;have HB:=n2_;clear n0_ n1_ n2_;(try clear hb);(try clear hb2);(try clear hk);(try clear hi);obtain ⟨hcz12_0,hcz12_1,hcz12_2,hcz12_3,hcz12_4⟩:=blc5_ BK434.out;have hfz12_0:=blk_frozen BK434.out 0;have hfz12_1:=blk_frozen BK434.out 1;have hfz12_2:=blk_frozen BK434.out 2;have hfz12_3:=blk_frozen BK434.out 3;have hfz12_4:=blk_frozen BK434.out 4)|(go_at_call 23;(refine (class_Name.calls _ _ y431 2 2 _ _ ([]:List (S46)) _ _ ([]:List (S49)) t436 _ ?side1 ?side2 ?side3 ?side4 ?side5 ?side6 A3.out).mono ?_);(case side1 => exact kc_ (Kd.R_reads' HO433.out).2.2);(case side2 => exact (Kd.R_reads' HO433.out).2.1);(case side3 => exact Kd.C_nil _ _);(case side4 => exact Nat.le_refl _);(case side5 => exact Kd.C_nil _ _);(case side6 => exact Nat.le_refl _);rintro e w13 ⟨rfl,hb⟩;have n0_:=Aside0.mk (Kd.R_below (kr_ HO433.out) hb);have n1_:=Aside0.mk (blk_below (g:=gb434) (o:=.cells #[.slice Ao6 y431.length co6,.int .i64 2,.int .i64 2,.slice none 0 0,.slice none 0 0] 26 (0,0)) bk_ hb);have n2_:=Aside0.mk (below_step bl_ hb);clear HO433;clear BK434;clear HB;have HO433:=n0_;have BK434:=n1_;have HB:=n2_;clear n0_ n1_ n2_;(try clear hb);(try clear hb2);(try clear hk);(try clear hi)))
  go_ret
  exact ⟨ew_,bl_⟩
 ·rw [if_neg c2] at H
  have c2b0:(t435==0)=false:=beq_eq_false_iff_ne.mpr c2
  have c2b1:(t435 != 0)=true:=bne_iff_ne.mpr c2
  obtain rfl:=Option.some.inj H
  go_enter Tryd.func6,Tryd.ntmps6
  go_wp2_with (first|((with_reducible refine gate_dst (N:=5) rfl ?_);refine Kd.R_lit k60 _ 60 ?hg (N:=5) ?hd (xs:=([(⟨0,(⟨#[]⟩:ByteArray),0,0,0⟩:S60),(⟨1,(⟨#[65]⟩:ByteArray),0,0,0⟩:S60),(⟨7,(⟨#[]⟩:ByteArray),0,1,0⟩:S60)]:List (S60))) (inner:=[.int .i64 0,.string (⟨#[]⟩:ByteArray),.int .i64 0,.int .i64 0,.int .i64 0,.int .i64 1,.string (⟨#[65]⟩:ByteArray),.int .i64 0,.int .i64 0,.int .i64 0,.int .i64 7,.string (⟨#[]⟩:ByteArray),.int .i64 0,.int .i64 1,.int .i64 0]) (ok:=fun _ => True) (okp:=fun _ => True) ?hr ?hp (fun _ hk => hk) trivial (Below.refl _ _) (Nat.le_refl _) (by simp) ?_;(case hd => rfl);(case hg => rfl);(case hr => first|(go_simp;done)|(go_simp;rfl));(case hp => exact (Reps.c5 (show Kd.M k60 _ _ _ (⟨0,(⟨#[]⟩:ByteArray),0,0,0⟩:S60) [.int .i64 0,.string (⟨#[]⟩:ByteArray),.int .i64 0,.int .i64 0,.int .i64 0] from (k60_mkM _ _ _ (⟨0,(⟨#[]⟩:ByteArray),0,0,0⟩:S60) )) (Reps.c5 (show Kd.M k60 _ _ _ (⟨1,(⟨#[65]⟩:ByteArray),0,0,0⟩:S60) [.int .i64 1,.string (⟨#[65]⟩:ByteArray),.int .i64 0,.int .i64 0,.int .i64 0] from (k60_mkM _ _ _ (⟨1,(⟨#[65]⟩:ByteArray),0,0,0⟩:S60) )) (Reps.c5 (show Kd.M k60 _ _ _ (⟨7,(⟨#[]⟩:ByteArray),0,1,0⟩:S60) [.int .i64 7,.string (⟨#[]⟩:ByteArray),.int .i64 0,.int .i64 1,.int .i64 0] from (k60_mkM _ _ _ (⟨7,(⟨#[]⟩:ByteArray),0,1,0⟩:S60) )) (Reps.none _ _)))));intro v432 w14 ho15 hb hg_ hnew_;clear hg_ hnew_;(first|rw [← Ny431.out] at ho15|(simp only [Int.reduceToNat] at ho15;rw [← Ny431.out] at ho15));have n0_:=Aside0.mk (Kd.R_lower ho15 (below_size bl_));have n1_:=Aside0.mk (below_step bl_ hb);clear HB;have HO433:=n0_;have HB:=n1_;clear n0_ n1_;clear hb ho15;obtain ⟨Ao16,co16,eo16⟩:=Kd.R_slice HO433.out;subst eo16)|((with_reducible refine gate_dst (N:=1) rfl ?_);refine box_event ?hg (N:=1) ?hd (cs:=#[.slice none 0 0,.int .i64 0,.int .i64 0,.slice none 0 0,.slice none 0 0]) (t:=26) ?hr ?_;(case hd => rfl);(case hg => rfl);(case hr => first|(go_simp;done)|(go_simp;rfl));intro gb434 hg w17 hbox hb;have n0_:=Aside0.mk (Kd.R_below (kr_ HO433.out) hb);have n1_:=Aside0.mk (below_step bl_ hb);have n2_:=Aside0.mk (hbox);have n3_:=Aside0.mk ((by rw [hg];exact (below_size bl_):w.heap.size≤gb434));have n4_:=Aside0.mk ((by rw [hg];exact (below_size bl_):w.heap.size≤gb434));clear HO433;clear HB;have HO433:=n0_;have HB:=n1_;have BK434:=n2_;have GW434:=n3_;have GE434:=n4_;clear n0_ n1_ n2_ n3_ n4_;clear hb hbox hg;obtain ⟨hcz18_0,hcz18_1,hcz18_2,hcz18_3,hcz18_4⟩:=blc5_ BK434.out;have hfz18_0:=blk_frozen BK434.out 0;have hfz18_1:=blk_frozen BK434.out 1;have hfz18_2:=blk_frozen BK434.out 2;have hfz18_3:=blk_frozen BK434.out 3;have hfz18_4:=blk_frozen BK434.out 4)|((with_reducible refine gate_store (t:=26) (p:=1) rfl ?_);refine store_event (t:=26) (p:=1) (v:=?vo_w19) (w1:=(((((w17.setCell ⟨gb434,0,none⟩ (.slice Ao16 y431.length co16)).setCell ⟨gb434,1,none⟩ (.int .i64 2)).setCell ⟨gb434,2,none⟩ (.int .i64 2)).setCell ⟨gb434,3,none⟩ (.slice none 0 0)).setCell ⟨gb434,4,none⟩ (.slice none 0 0))) ?hg ?ho ?hn ?hr ?_;(case ho => rfl);(case hg => rfl);(case hn => rfl);(case hr => first|(go_simp;done)|(go_simp;rfl));intro w19 hw;have n0_:Aside0 (Kd.R k60 60 w19 w.heap.size (fun _ => True) (.slice Ao16 y431.length co16) y431):=⟨(by rw [hw];exact (by (with_reducible repeat (first|apply Kd.R_alloc|apply Kd.R_drewN|apply Kd.R_drew));exact Kd.R_mono (Kd.R_far (p:=⟨gb434,4,none⟩) (Kd.R_far (p:=⟨gb434,3,none⟩) (Kd.R_far (p:=⟨gb434,2,none⟩) (Kd.R_far (p:=⟨gb434,1,none⟩) (Kd.R_far (p:=⟨gb434,0,none⟩) (Kd.R_types HO433.out BK434.out (by decide)) (fun _ hk => hk.2) (.slice Ao16 y431.length co16)) (fun _ hk => hk.2) (.int .i64 2)) (fun _ hk => hk.2) (.int .i64 2)) (fun _ hk => hk.2) (.slice none 0 0)) (fun _ hk => hk.2) (.slice none 0 0)) (fun _ hk => trivial)))⟩;have n1_:Aside0 (w19.heap[gb434]?=some (.cells #[.slice Ao16 y431.length co16,.int .i64 2,.int .i64 2,.slice none 0 0,.slice none 0 0] 26 (0,0))):=⟨(by rw [hw];exact (st5_ BK434.out))⟩;have n2_:Aside0 (Below w.heap.size w w19):=⟨(by rw [hw];exact bl_)⟩;clear hw;clear HO433;clear BK434;clear HB;have HO433:=n0_;have BK434:=n1_;have HB:=n2_;clear n0_ n1_ n2_;obtain ⟨hcz20_0,hcz20_1,hcz20_2,hcz20_3,hcz20_4⟩:=blc5_ BK434.out;have hfz20_0:=blk_frozen BK434.out 0;have hfz20_1:=blk_frozen BK434.out 1;have hfz20_2:=blk_frozen BK434.out 2;have hfz20_3:=blk_frozen BK434.out 3;have hfz20_4:=blk_frozen BK434.out 4)|(refine callA_ (f:=7) (some 8) Tryd.func7 #[.agg #[.slice Ao16 y431.length co16,.int .i64 2,.int .i64 2,.slice none 0 0,.slice none 0 0]] ?_;(refine (class_Check.calls k _ _ y431 2 2 _ _ ([]:List (S46)) _ _ ([]:List (S49)) t435 _ ?side7 ?side1 ?side2 ?side3 ?side4 ?side5 ?side6 A1.out).mono ?_);(case side1 => exact kc_ (Kd.R_reads' HO433.out).2.2);(case side2 => exact (Kd.R_reads' HO433.out).2.1);(case side3 => exact Kd.C_nil _ _);(case side4 => exact Nat.le_refl _);(case side5 => exact Kd.C_nil _ _);(case side6 => exact Nat.le_refl _);(case side7 => exact ⟨GG.below hG.out bl_⟩);rintro e w21 ⟨rfl,hb⟩;refine ⟨_,rfl,?_⟩;have n0_:=Aside0.mk (Kd.R_below (kr_ HO433.out) hb);have n1_:=Aside0.mk (blk_below (g:=gb434) (o:=.cells #[.slice Ao16 y431.length co16,.int .i64 2,.int .i64 2,.slice none 0 0,.slice none 0 0] 26 (0,0)) bk_ hb);have n2_:=Aside0.mk (below_step bl_ hb);clear HO433;clear BK434;clear HB;have HO433:=n0_;have BK434:=n1_;have HB:=n2_;clear n0_ n1_ n2_;(try clear hb);(try clear hb2);(try clear hk);(try clear hi)))
  go_ret
  exact ⟨ew_,bl_⟩
def understudylaw05_ClassEncodes.f (k:Nat) (l0_0:List (S60)) (a0_1:Int) (a0_2:Int) (l0_3:List (S46)) (l0_4:List (S49)):Option (Bool):=(class_Encode.f k l0_0 a0_1 a0_2 l0_3 l0_4).bind fun bt438 => ((understudyref05_Encode.f k l0_0 a0_1 a0_2 l0_3 l0_4).bind fun bt442 => (if (strOfNums bt438.1).toList=(strOfNums bt442.1).toList then (if bt438.2=bt442.2 then ((understudylaw05_awake.f k).bind fun t446 => (some t446)) else (some false)) else (some false)))
theorem understudylaw05_ClassEncodes.mono:∀ a0 a1 a2 a3 a4 k,LeO (understudylaw05_ClassEncodes.f k a0 a1 a2 a3 a4) (understudylaw05_ClassEncodes.f (k + 1) a0 a1 a2 a3 a4):=by
 intro a0 a1 a2 a3 a4 k
 unfold understudylaw05_ClassEncodes.f
 repeat' first
   | (with_reducible exact class_Encode.mono _ _ _ _ _ _)
   | (with_reducible exact understudylaw05_awake.mono _)
   | (with_reducible exact understudyref05_Encode.mono _ _ _ _ _ _)
   | (with_reducible exact LeO.refl _)
   | (with_reducible exact LeO.none _)
   | (with_reducible refine LeO.ite ?_ ?_)
   | (with_reducible refine LeO.bind ?_ (fun _ => ?_))
   | exact class_Encode.mono _ _ _ _ _ _
   | exact understudylaw05_awake.mono _
   | exact understudyref05_Encode.mono _ _ _ _ _ _
   | exact LeO.none _
   | refine LeO.ite ?_ ?_
   | refine LeO.bind ?_ (fun _ => ?_)
set_option maxHeartbeats 80000000 in
set_option maxRecDepth 100000 in
theorem understudylaw05_ClassEncodes.calls (k:Nat) (A0_0:Option Addr) (c0_0:Nat) (l0_0:List (S60)) (a0_1:Int) (a0_2:Int) (A0_3:Option Addr) (c0_3:Nat) (l0_3:List (S46)) (A0_4:Option Addr) (c0_4:Nat) (l0_4:List (S49)) (r:Bool) (w:World) (hG:Aside0 (GG w)) (hr0_0:Kd.C k60 w A0_0 l0_0.length l0_0) (hc0_0:l0_0.length≤c0_0) (hr0_3:Kd.C k46 w A0_3 l0_3.length l0_3) (hc0_3:l0_3.length≤c0_3) (hr0_4:Kd.C k49 w A0_4 l0_4.length l0_4) (hc0_4:l0_4.length≤c0_4) (h:understudylaw05_ClassEncodes.f k l0_0 a0_1 a0_2 l0_3 l0_4=some r) :
  Calls Tryd.prog 3 #[.agg #[.slice A0_0 l0_0.length c0_0,.int .i64 a0_1,.int .i64 a0_2,.slice A0_3 l0_3.length c0_3,.slice A0_4 l0_4.length c0_4]] w fun e w' => e=.returned (.bool r)∧Below w.heap.size w w':=by
 have hu26:=Tryd.underlying26
 have HR0_0:=Aside0.mk hr0_0
 have HC0_0:=Aside0.mk hc0_0
 clear hr0_0 hc0_0
 have HR0_3:=Aside0.mk hr0_3
 have HC0_3:=Aside0.mk hc0_3
 clear hr0_3 hc0_3
 have HR0_4:=Aside0.mk hr0_4
 have HC0_4:=Aside0.mk hc0_4
 clear hr0_4 hc0_4
 have HB:=Aside0.mk (Below.refl w.heap.size w)
 have H:((class_Encode.f k l0_0 a0_1 a0_2 l0_3 l0_4).bind fun bt438 => ((understudyref05_Encode.f k l0_0 a0_1 a0_2 l0_3 l0_4).bind fun bt442 => (if (strOfNums bt438.1).toList=(strOfNums bt442.1).toList then (if bt438.2=bt442.2 then ((understudylaw05_awake.f k).bind fun t446 => (some t446)) else (some false)) else (some false))))=some r:=h
 clear h
 replace H:=Option.bind_eq_some_iff.mp H
 obtain ⟨⟨t438,t441⟩,A20,H⟩:=H
 try dsimp only at H
 have A2:=Aside0.mk A20
 clear A20
 replace H:=Option.bind_eq_some_iff.mp H
 obtain ⟨⟨t442,t445⟩,A30,H⟩:=H
 try dsimp only at H
 have A3:=Aside0.mk A30
 clear A30
 by_cases c4:(strOfNums t438).toList=(strOfNums t442).toList
 ·rw [if_pos c4] at H
  have c4b0:((strOfNums t438).toList==(strOfNums t442).toList)=true:=beq_iff_eq.mpr c4
  have c4b1:((strOfNums t438).toList != (strOfNums t442).toList)=false:=bne_eq_false_iff_eq.mpr c4
  clear c4
  by_cases c5:t441=t445
  ·rw [if_pos c5] at H
   have c5b0:(t441==t445)=true:=beq_iff_eq.mpr c5
   have c5b1:(t441 != t445)=false:=bne_eq_false_iff_eq.mpr c5
   clear c5
   replace H:=Option.bind_eq_some_iff.mp H
   obtain ⟨t446,A60,H⟩:=H
   try dsimp only at H
   have A6:=Aside0.mk A60
   clear A60
   obtain rfl:=Option.some.inj H
   go_enter Tryd.func3,Tryd.ntmps3
   go_wp2_with (first|((with_reducible refine gate_dst (N:=1) rfl ?_);refine box_event ?hg (N:=1) ?hd (cs:=#[.slice A0_0 l0_0.length c0_0,.int .i64 a0_1,.int .i64 a0_2,.slice A0_3 l0_3.length c0_3,.slice A0_4 l0_4.length c0_4]) (t:=26) ?hr ?_;(case hd => rfl);(case hg => rfl);(case hr => first|(go_simp;done)|(go_simp;rfl));intro gb437 hg w7 hbox hb;have n0_:=Aside0.mk (below_step bl_ hb);have n1_:=Aside0.mk (hbox);have n2_:=Aside0.mk ((by rw [hg];exact (below_size bl_):w.heap.size≤gb437));have n3_:=Aside0.mk ((by rw [hg];exact (below_size bl_):w.heap.size≤gb437));clear HB;have HB:=n0_;have BK437:=n1_;have GW437:=n2_;have GE437:=n3_;clear n0_ n1_ n2_ n3_;clear hb hbox hg;obtain ⟨hcz8_0,hcz8_1,hcz8_2,hcz8_3,hcz8_4⟩:=blc5_ BK437.out;have hfz8_0:=blk_frozen BK437.out 0;have hfz8_1:=blk_frozen BK437.out 1;have hfz8_2:=blk_frozen BK437.out 2;have hfz8_3:=blk_frozen BK437.out 3;have hfz8_4:=blk_frozen BK437.out 4)|(refine callA_ (f:=4) (some 9) Tryd.func4 #[.agg #[.slice A0_0 l0_0.length c0_0,.int .i64 a0_1,.int .i64 a0_2,.slice A0_3 l0_3.length c0_3,.slice A0_4 l0_4.length c0_4]] ?_;(with_reducible refine (class_Encode.calls k _ _ l0_0 a0_1 a0_2 _ _ l0_3 _ _ l0_4 t438 t441 _ ?side7 ?side1 ?side2 ?side3 ?side4 ?side5 ?side6 A2.out).mono ?_);(case side1 => exact kc_ (Kd.C_below HR0_0.out HB.out));(case side2 => exact HC0_0.out);(case side3 => exact kc_ (Kd.C_below HR0_3.out HB.out));(case side4 => exact HC0_3.out);(case side5 => exact kc_ (Kd.C_below HR0_4.out HB.out));(case side6 => exact HC0_4.out);(case side7 => exact ⟨GG.below hG.out bl_⟩);rintro e w9 ⟨v439,rfl,ho0,hb⟩;refine ⟨_,rfl,?_⟩;have n0_:=Aside0.mk (Kd.R_lower ho0 (below_size bl_));have n1_:=Aside0.mk (blk_below (g:=gb437) (o:=.cells #[.slice A0_0 l0_0.length c0_0,.int .i64 a0_1,.int .i64 a0_2,.slice A0_3 l0_3.length c0_3,.slice A0_4 l0_4.length c0_4] 26 (0,0)) bk_ hb);have n2_:=Aside0.mk (below_step bl_ hb);clear BK437;clear HB;have HO440:=n0_;have BK437:=n1_;have HB:=n2_;clear n0_ n1_ n2_;(try clear hb);(try clear hb2);(try clear hk);(try clear hi);(try clear ho0);obtain ⟨hcz10_0,hcz10_1,hcz10_2,hcz10_3,hcz10_4⟩:=blc5_ BK437.out;have hfz10_0:=blk_frozen BK437.out 0;have hfz10_1:=blk_frozen BK437.out 1;have hfz10_2:=blk_frozen BK437.out 2;have hfz10_3:=blk_frozen BK437.out 3;have hfz10_4:=blk_frozen BK437.out 4)|(refine callA_ (f:=5) (some 14) Tryd.func5 #[.agg #[.slice A0_0 l0_0.length c0_0,.int .i64 a0_1,.int .i64 a0_2,.slice A0_3 l0_3.length c0_3,.slice A0_4 l0_4.length c0_4]] ?_;(with_reducible refine (understudyref05_Encode.calls k _ _ l0_0 a0_1 a0_2 _ _ l0_3 _ _ l0_4 t442 t445 _ ?side1 ?side2 ?side3 ?side4 ?side5 ?side6 A3.out).mono ?_);(case side1 => exact kc_ (Kd.C_below HR0_0.out HB.out));(case side2 => exact HC0_0.out);(case side3 => exact kc_ (Kd.C_below HR0_3.out HB.out));(case side4 => exact HC0_3.out);(case side5 => exact kc_ (Kd.C_below HR0_4.out HB.out));(case side6 => exact HC0_4.out);rintro e w11 ⟨v443,rfl,ho0,hb⟩;refine ⟨_,rfl,?_⟩;have n0_:=Aside0.mk (Kd.R_elder' (kr_ HO440.out) (Kd.R_base ho0) hb);have n1_:=Aside0.mk (Kd.R_lower (Kd.R_new' ho0 (Kd.R_lt (kr_ HO440.out))) (below_size bl_));have n2_:=Aside0.mk (blk_below (g:=gb437) (o:=.cells #[.slice A0_0 l0_0.length c0_0,.int .i64 a0_1,.int .i64 a0_2,.slice A0_3 l0_3.length c0_3,.slice A0_4 l0_4.length c0_4] 26 (0,0)) bk_ hb);have n3_:=Aside0.mk (below_step bl_ hb);clear HO440;clear BK437;clear HB;have HO440:=n0_;have HO444:=n1_;have BK437:=n2_;have HB:=n3_;clear n0_ n1_ n2_ n3_;(try clear hb);(try clear hb2);(try clear hk);(try clear hi);(try clear ho0);have hcv12:=own_string (P:=Tryd.prog) Tryd.underlying27 Tryd.underlying5 Tryd.underlying9 (Kd.own_of_R HO440.out);have hcv13:=own_string (P:=Tryd.prog) Tryd.underlying27 Tryd.underlying5 Tryd.underlying9 (Kd.own_of_R HO444.out))|(go_at_call 6;(with_reducible refine (understudylaw05_awake.calls k  t446 _ ?side1 A6.out).mono ?_);(case side1 => exact ⟨GG.below hG.out bl_⟩);rintro e w14 ⟨rfl,hb⟩;have n0_:=Aside0.mk (Kd.R_below (kr_ HO440.out) hb);have n1_:=Aside0.mk (Kd.R_below (kr_ HO444.out) hb);have n2_:=Aside0.mk (blk_below (g:=gb437) (o:=.cells #[.slice A0_0 l0_0.length c0_0,.int .i64 a0_1,.int .i64 a0_2,.slice A0_3 l0_3.length c0_3,.slice A0_4 l0_4.length c0_4] 26 (0,0)) bk_ hb);have n3_:=Aside0.mk (below_step bl_ hb);clear HO440;clear HO444;clear BK437;clear HB;have HO440:=n0_;have HO444:=n1_;have BK437:=n2_;have HB:=n3_;clear n0_ n1_ n2_ n3_;(try clear hb);(try clear hb2);(try clear hk);(try clear hi)))
   go_ret
   exact ⟨ew_,bl_⟩
  ·rw [if_neg c5] at H
   have c5b0:(t441==t445)=false:=beq_eq_false_iff_ne.mpr c5
   have c5b1:(t441 != t445)=true:=bne_iff_ne.mpr c5
   obtain rfl:=Option.some.inj H
   go_enter Tryd.func3,Tryd.ntmps3
   go_wp2_with (first|((with_reducible refine gate_dst (N:=1) rfl ?_);refine box_event ?hg (N:=1) ?hd (cs:=#[.slice A0_0 l0_0.length c0_0,.int .i64 a0_1,.int .i64 a0_2,.slice A0_3 l0_3.length c0_3,.slice A0_4 l0_4.length c0_4]) (t:=26) ?hr ?_;(case hd => rfl);(case hg => rfl);(case hr => first|(go_simp;done)|(go_simp;rfl));intro gb437 hg w15 hbox hb;have n0_:=Aside0.mk (below_step bl_ hb);have n1_:=Aside0.mk (hbox);have n2_:=Aside0.mk ((by rw [hg];exact (below_size bl_):w.heap.size≤gb437));have n3_:=Aside0.mk ((by rw [hg];exact (below_size bl_):w.heap.size≤gb437));clear HB;have HB:=n0_;have BK437:=n1_;have GW437:=n2_;have GE437:=n3_;clear n0_ n1_ n2_ n3_;clear hb hbox hg;obtain ⟨hcz16_0,hcz16_1,hcz16_2,hcz16_3,hcz16_4⟩:=blc5_ BK437.out;have hfz16_0:=blk_frozen BK437.out 0;have hfz16_1:=blk_frozen BK437.out 1;have hfz16_2:=blk_frozen BK437.out 2;have hfz16_3:=blk_frozen BK437.out 3;have hfz16_4:=blk_frozen BK437.out 4)|(refine callA_ (f:=4) (some 9) Tryd.func4 #[.agg #[.slice A0_0 l0_0.length c0_0,.int .i64 a0_1,.int .i64 a0_2,.slice A0_3 l0_3.length c0_3,.slice A0_4 l0_4.length c0_4]] ?_;(with_reducible refine (class_Encode.calls k _ _ l0_0 a0_1 a0_2 _ _ l0_3 _ _ l0_4 t438 t441 _ ?side7 ?side1 ?side2 ?side3 ?side4 ?side5 ?side6 A2.out).mono ?_);(case side1 => exact kc_ (Kd.C_below HR0_0.out HB.out));(case side2 => exact HC0_0.out);(case side3 => exact kc_ (Kd.C_below HR0_3.out HB.out));(case side4 => exact HC0_3.out);(case side5 => exact kc_ (Kd.C_below HR0_4.out HB.out));(case side6 => exact HC0_4.out);(case side7 => exact ⟨GG.below hG.out bl_⟩);rintro e w17 ⟨v439,rfl,ho0,hb⟩;refine ⟨_,rfl,?_⟩;have n0_:=Aside0.mk (Kd.R_lower ho0 (below_size bl_));have n1_:=Aside0.mk (blk_below (g:=gb437) (o:=.cells #[.slice A0_0 l0_0.length c0_0,.int .i64 a0_1,.int .i64 a0_2,.slice A0_3 l0_3.length c0_3,.slice A0_4 l0_4.length c0_4] 26 (0,0)) bk_ hb);have n2_:=Aside0.mk (below_step bl_ hb);clear BK437;clear HB;have HO440:=n0_;have BK437:=n1_;have HB:=n2_;clear n0_ n1_ n2_;(try clear hb);(try clear hb2);(try clear hk);(try clear hi);(try clear ho0);obtain ⟨hcz18_0,hcz18_1,hcz18_2,hcz18_3,hcz18_4⟩:=blc5_ BK437.out;have hfz18_0:=blk_frozen BK437.out 0;have hfz18_1:=blk_frozen BK437.out 1;have hfz18_2:=blk_frozen BK437.out 2;have hfz18_3:=blk_frozen BK437.out 3;have hfz18_4:=blk_frozen BK437.out 4)|(refine callA_ (f:=5) (some 14) Tryd.func5 #[.agg #[.slice A0_0 l0_0.length c0_0,.int .i64 a0_1,.int .i64 a0_2,.slice A0_3 l0_3.length c0_3,.slice A0_4 l0_4.length c0_4]] ?_;(with_reducible refine (understudyref05_Encode.calls k _ _ l0_0 a0_1 a0_2 _ _ l0_3 _ _ l0_4 t442 t445 _ ?side1 ?side2 ?side3 ?side4 ?side5 ?side6 A3.out).mono ?_);(case side1 => exact kc_ (Kd.C_below HR0_0.out HB.out));(case side2 => exact HC0_0.out);(case side3 => exact kc_ (Kd.C_below HR0_3.out HB.out));(case side4 => exact HC0_3.out);(case side5 => exact kc_ (Kd.C_below HR0_4.out HB.out));(case side6 => exact HC0_4.out);rintro e w19 ⟨v443,rfl,ho0,hb⟩;refine ⟨_,rfl,?_⟩;have n0_:=Aside0.mk (Kd.R_elder' (kr_ HO440.out) (Kd.R_base ho0) hb);have n1_:=Aside0.mk (Kd.R_lower (Kd.R_new' ho0 (Kd.R_lt (kr_ HO440.out))) (below_size bl_));have n2_:=Aside0.mk (blk_below (g:=gb437) (o:=.cells #[.slice A0_0 l0_0.length c0_0,.int .i64 a0_1,.int .i64 a0_2,.slice A0_3 l0_3.length c0_3,.slice A0_4 l0_4.length c0_4] 26 (0,0)) bk_ hb);have n3_:=Aside0.mk (below_step bl_ hb);clear HO440;clear BK437;clear HB;have HO440:=n0_;have HO444:=n1_;have BK437:=n2_;have HB:=n3_;clear n0_ n1_ n2_ n3_;(try clear hb);(try clear hb2);(try clear hk);(try clear hi);(try clear ho0);have hcv20:=own_string (P:=Tryd.prog) Tryd.underlying27 Tryd.underlying5 Tryd.underlying9 (Kd.own_of_R HO440.out);have hcv21:=own_string (P:=Tryd.prog) Tryd.underlying27 Tryd.underlying5 Tryd.underlying9 (Kd.own_of_R HO444.out)))
   go_ret
   exact ⟨ew_,bl_⟩
 ·rw [if_neg c4] at H
  have c4b0:((strOfNums t438).toList==(strOfNums t442).toList)=false:=beq_eq_false_iff_ne.mpr c4
  have c4b1:((strOfNums t438).toList != (strOfNums t442).toList)=true:=bne_iff_ne.mpr c4
  obtain rfl:=Option.some.inj H
  go_enter Tryd.func3,Tryd.ntmps3
  go_wp2_with (first|((with_reducible refine gate_dst (N:=1) rfl ?_);refine box_event ?hg (N:=1) ?hd (cs:=#[.slice A0_0 l0_0.length c0_0,.int .i64 a0_1,.int .i64 a0_2,.slice A0_3 l0_3.length c0_3,.slice A0_4 l0_4.length c0_4]) (t:=26) ?hr ?_;(case hd => rfl);(case hg => rfl);(case hr => first|(go_simp;done)|(go_simp;rfl));intro gb437 hg w22 hbox hb;have n0_:=Aside0.mk (below_step bl_ hb);have n1_:=Aside0.mk (hbox);have n2_:=Aside0.mk ((by rw [hg];exact (below_size bl_):w.heap.size≤gb437));have n3_:=Aside0.mk ((by rw [hg];exact (below_size bl_):w.heap.size≤gb437));clear HB;have HB:=n0_;have BK437:=n1_;have GW437:=n2_;have GE437:=n3_;clear n0_ n1_ n2_ n3_;clear hb hbox hg;obtain ⟨hcz23_0,hcz23_1,hcz23_2,hcz23_3,hcz23_4⟩:=blc5_ BK437.out;have hfz23_0:=blk_frozen BK437.out 0;have hfz23_1:=blk_frozen BK437.out 1;have hfz23_2:=blk_frozen BK437.out 2;have hfz23_3:=blk_frozen BK437.out 3;have hfz23_4:=blk_frozen BK437.out 4)|(refine callA_ (f:=4) (some 9) Tryd.func4 #[.agg #[.slice A0_0 l0_0.length c0_0,.int .i64 a0_1,.int .i64 a0_2,.slice A0_3 l0_3.length c0_3,.slice A0_4 l0_4.length c0_4]] ?_;(with_reducible refine (class_Encode.calls k _ _ l0_0 a0_1 a0_2 _ _ l0_3 _ _ l0_4 t438 t441 _ ?side7 ?side1 ?side2 ?side3 ?side4 ?side5 ?side6 A2.out).mono ?_);(case side1 => exact kc_ (Kd.C_below HR0_0.out HB.out));(case side2 => exact HC0_0.out);(case side3 => exact kc_ (Kd.C_below HR0_3.out HB.out));(case side4 => exact HC0_3.out);(case side5 => exact kc_ (Kd.C_below HR0_4.out HB.out));(case side6 => exact HC0_4.out);(case side7 => exact ⟨GG.below hG.out bl_⟩);rintro e w24 ⟨v439,rfl,ho0,hb⟩;refine ⟨_,rfl,?_⟩;have n0_:=Aside0.mk (Kd.R_lower ho0 (below_size bl_));have n1_:=Aside0.mk (blk_below (g:=gb437) (o:=.cells #[.slice A0_0 l0_0.length c0_0,.int .i64 a0_1,.int .i64 a0_2,.slice A0_3 l0_3.length c0_3,.slice A0_4 l0_4.length c0_4] 26 (0,0)) bk_ hb);have n2_:=Aside0.mk (below_step bl_ hb);clear BK437;clear HB;have HO440:=n0_;have BK437:=n1_;have HB:=n2_;clear n0_ n1_ n2_;(try clear hb);(try clear hb2);(try clear hk);(try clear hi);(try clear ho0);obtain ⟨hcz25_0,hcz25_1,hcz25_2,hcz25_3,hcz25_4⟩:=blc5_ BK437.out;have hfz25_0:=blk_frozen BK437.out 0;have hfz25_1:=blk_frozen BK437.out 1;have hfz25_2:=blk_frozen BK437.out 2;have hfz25_3:=blk_frozen BK437.out 3;have hfz25_4:=blk_frozen BK437.out 4)|(refine callA_ (f:=5) (some 14) Tryd.func5 #[.agg #[.slice A0_0 l0_0.length c0_0,.int .i64 a0_1,.int .i64 a0_2,.slice A0_3 l0_3.length c0_3,.slice A0_4 l0_4.length c0_4]] ?_;(with_reducible refine (understudyref05_Encode.calls k _ _ l0_0 a0_1 a0_2 _ _ l0_3 _ _ l0_4 t442 t445 _ ?side1 ?side2 ?side3 ?side4 ?side5 ?side6 A3.out).mono ?_);(case side1 => exact kc_ (Kd.C_below HR0_0.out HB.out));(case side2 => exact HC0_0.out);(case side3 => exact kc_ (Kd.C_below HR0_3.out HB.out));(case side4 => exact HC0_3.out);(case side5 => exact kc_ (Kd.C_below HR0_4.out HB.out));(case side6 => exact HC0_4.out);rintro e w26 ⟨v443,rfl,ho0,hb⟩;refine ⟨_,rfl,?_⟩;have n0_:=Aside0.mk (Kd.R_elder' (kr_ HO440.out) (Kd.R_base ho0) hb);have n1_:=Aside0.mk (Kd.R_lower (Kd.R_new' ho0 (Kd.R_lt (kr_ HO440.out))) (below_size bl_));have n2_:=Aside0.mk (blk_below (g:=gb437) (o:=.cells #[.slice A0_0 l0_0.length c0_0,.int .i64 a0_1,.int .i64 a0_2,.slice A0_3 l0_3.length c0_3,.slice A0_4 l0_4.length c0_4] 26 (0,0)) bk_ hb);have n3_:=Aside0.mk (below_step bl_ hb);clear HO440;clear BK437;clear HB;have HO440:=n0_;have HO444:=n1_;have BK437:=n2_;have HB:=n3_;clear n0_ n1_ n2_ n3_;(try clear hb);(try clear hb2);(try clear hk);(try clear hi);(try clear ho0);have hcv27:=own_string (P:=Tryd.prog) Tryd.underlying27 Tryd.underlying5 Tryd.underlying9 (Kd.own_of_R HO440.out);have hcv28:=own_string (P:=Tryd.prog) Tryd.underlying27 Tryd.underlying5 Tryd.underlying9 (Kd.own_of_R HO444.out)))
  go_ret
  exact ⟨ew_,bl_⟩
end Go.Proofs.YtmloaijagkebpaaDoor.Px
namespace Go.Proofs.YtmloaijagkebpaaDoor.Px
open Go.RowKit Go.Proofs.YtmloaijagkebpaaDoorW.PrintWords Go.Proofs.YtmloaijagkebpaaDoorW.PrintLast Go.Proofs.YtmloaijagkebpaaDoorW.PrintMore
set_option linter.unusedVariables false
set_option linter.unusedSimpArgs false
theorem w64 {x:Int} (h0:-9223372036854775808≤x) (h1:x≤9223372036854775807):wrap64 x=x:=by unfold wrap64;omega
theorem w32 {x:Int} (h0:-2147483648≤x) (h1:x≤2147483647):wrap32 x=x:=by unfold wrap32;omega
theorem wraps_i64' (n:Int) (h₀:0≤n) (h₁:n < 2 ^ 63):IntKind.i64.wrap n=n:=by
 have h1:n < 9223372036854775808:=h₁
 rw [i64_w]
 exact w64 (by omega) (by omega)
theorem and64 (i:Nat) (hi:i≤62) (x:Int) (h0:0≤x) (h1:x < 2 ^ 63):bits .and .i64 x (2 ^ i - 1)=x % 2 ^ i:=bits_mask .i64 63 (by decide) wraps_i64' i (by omega) x h0 h1
def unitL (u:Int):List Int:=if 1≤u∧u≤127 then [u] else if u≤2047 then [192 + u / 64,128 + u % 64] else [224 + u / 4096,128 + u / 64 % 64,128 + u % 64]
theorem unitL_len (u:Int):(unitL u).length≤3:=by unfold unitL;split <;> (try split) <;> simp
def cuL (c:Int):List Int:=if c < 65536 then unitL c else unitL (55296 + (c - 65536) / 1024)++unitL (56320 + (c - 65536) % 1024)
theorem cuL_len (c:Int):(cuL c).length≤6:=by
 unfold cuL
 have h1:=unitL_len c
 have h2:=unitL_len (55296 + (c - 65536) / 1024)
 have h3:=unitL_len (56320 + (c - 65536) % 1024)
 split
 ·omega
 ·rw [List.length_append];omega
theorem text_unit.ev (b:List Int) (u:Int) (h0:0≤u) (h1:u < 65536) (hb:b.length + 3 < 140737488355328):Ev (fun k => text_unit.f k b u) (b++unitL u):=by
 refine ⟨1,fun k hk => ?_⟩
 obtain ⟨k,rfl⟩:∃ m,k=m + 1:=⟨k - 1,by omega⟩
 have m63:∀ x:Int,0≤x→x < 2147483648→bits .and .i32 x 63=x % 64:=fun x a b => bits_mask .i32 31 (by decide) wraps_i32 6 (by decide) x a b
 show text_unit.f (k + 1) b u=_
 unfold text_unit.f unitL
 by_cases c1:1≤u∧u≤127
 ·rw [if_pos c1,if_pos (by omega),decide_eq_true (by omega)]
  simp only [text_unit.j0]
  rw [if_pos trivial,if_pos (by omega),show u % 256=u from by omega]
 ·rw [if_neg c1]
  have key:text_unit.j0 (k + 1) b u false=some (b++if u≤2047 then [192 + u / 64,128 + u % 64] else [224 + u / 4096,128 + u / 64 % 64,128 + u % 64]):=by
   simp only [text_unit.j0]
   rw [if_neg (by simp),m63 u h0 (by omega),m63 (u / 64) (by omega) (by omega)]
   by_cases c2:u≤2047
   ·rw [if_pos (by omega),if_pos c2,Option.bind_some,show u / 64 % 256=u / 64 from by omega,show u % 64 % 256=u % 64 from by omega,u8_or192 _ (by omega) (by omega),u8_or128 _ (by omega) (by omega)]
    rw [if_pos (by simp;omega)]
   ·rw [if_neg (by omega),if_neg c2,Option.bind_some,show u / 4096 % 256=u / 4096 from by omega,show u % 64 % 256=u % 64 from by omega,show u / 64 % 64 % 256=u / 64 % 64 from by omega,u8_or224 _ (by omega) (by omega),u8_or128 _ (by omega) (by omega),u8_or128 _ (by omega) (by omega)]
    rw [if_pos (by simp;omega)]
  by_cases c3:u > 0
  ·rw [if_pos c3,decide_eq_false (by omega),key]
  ·rw [if_neg c3,key]
end Go.Proofs.YtmloaijagkebpaaDoor.Px
namespace Go.Proofs.YtmloaijagkebpaaDoor.Px
open Go.RowKit Go.Proofs.YtmloaijagkebpaaDoorW.PrintWords Go.Proofs.YtmloaijagkebpaaDoorW.PrintLast Go.Proofs.YtmloaijagkebpaaDoorW.PrintMore
set_option linter.unusedVariables false
set_option linter.unusedSimpArgs false
theorem text_Encode.ev_one (b:List Int) (c:Int) (h0:0≤c) (h1:c≤1114111) (hb:b.length + 6 < 140737488355328):Ev (fun k => text_Encode.one k b c) (b++cuL c):=by
 unfold text_Encode.one text_split.f cuL
 by_cases hc:c < 65536
 ·refine Ev.congr (f:=fun k => text_unit.f k b c) (fun k => ?_) (by rw [if_pos hc];exact text_unit.ev b c h0 hc (by omega))
  simp only [if_pos hc,Option.bind_some,if_true]
 ·have e1:wrap32 (c - 65536)=c - 65536:=w32 (by omega) (by omega)
  have e2:bits .and .i32 (c - 65536) 1023=(c - 65536) % 1024:=bits_mask .i32 31 (by decide) wraps_i32 10 (by decide) _ (by omega) (by omega)
  have e3:wrap32 (55296 + (c - 65536) / 1024)=55296 + (c - 65536) / 1024:=w32 (by omega) (by omega)
  have e4:wrap32 (56320 + (c - 65536) % 1024)=56320 + (c - 65536) % 1024:=w32 (by omega) (by omega)
  have hl:=unitL_len (55296 + (c - 65536) / 1024)
  refine Ev.congr (f:=fun k => (text_unit.f k b (55296 + (c - 65536) / 1024)).bind fun b1 => text_unit.f k b1 (56320 + (c - 65536) % 1024)) (fun k => ?_) ?_
  ·simp only [if_neg hc,Option.bind_some,e1,e2,e3,e4]
   rw [if_neg (by omega)]
  rw [if_neg hc,← List.append_assoc]
  exact Ev.bind (text_unit.ev b _ (by omega) (by omega) (by omega)) (text_unit.ev _ _ (by omega) (by omega) (by rw [List.length_append];omega))
def encGo:Nat→List UInt8→List Int
 | 0,_ => []
 | f + 1,l => if l=[] then [] else cuL ((Lib.decodeL l).1:Int)++encGo f (l.drop (Lib.decodeL l).2)
def encL (l:List UInt8):List Int:=encGo l.length l
theorem encGo_fuel:∀ n m (l:List UInt8),l.length≤n→l.length≤m→encGo n l=encGo m l
 | 0,m,l,hn,_ => by
  have:l=[]:=List.length_eq_zero_iff.1 (by omega)
  subst this
  cases m <;> simp [encGo]
 | n + 1,0,l,_,hm => by
  have:l=[]:=List.length_eq_zero_iff.1 (by omega)
  subst this
  simp [encGo]
 | n + 1,m + 1,l,hn,hm => by
  unfold encGo
  by_cases hne:l=[]
  ·simp [hne]
  ·have hw:=Lib.decodeL_width l
   have hl:0 < l.length:=List.length_pos_iff.2 hne
   rw [if_neg hne,if_neg hne,encGo_fuel n m (l.drop (Lib.decodeL l).2) (by rw [List.length_drop];omega) (by rw [List.length_drop];omega)]
theorem encL_nil:encL []=[]:=rfl
theorem encL_step (l:List UInt8) (hne:l ≠ []):encL l=cuL ((Lib.decodeL l).1:Int)++encL (l.drop (Lib.decodeL l).2):=by
 have hl:0 < l.length:=List.length_pos_iff.2 hne
 have hw:=Lib.decodeL_width l
 obtain ⟨n,hn⟩:∃ n,l.length=n + 1:=⟨l.length - 1,by omega⟩
 unfold encL
 rw [hn]
 show (if l=[] then [] else _)=_
 rw [if_neg hne,encGo_fuel n (l.drop (Lib.decodeL l).2).length _ (by rw [List.length_drop];omega) (Nat.le_refl _)]
theorem text_Encode.ev_l (s:ByteArray) (hs:s.size≤1099511627776):∀ n p b,s.size - p≤n→b.length≤6 * p→Ev (fun k => text_Encode.l0 k s p b) (b++encL (s.data.toList.drop p),0)
 | 0,p,b,hn,hb => by
  refine Ev.step (f:=fun _ => some (b,0)) (fun k => ?_) ?_
  ·simp only [text_Encode.l0];rw [if_neg (by omega)]
  ·have:s.data.toList.drop p=[]:=List.drop_eq_nil_of_le (by rw [← Lib.size_eq];omega)
   rw [this,encL_nil,List.append_nil]
   exact Ev.now _
 | n + 1,p,b,hn,hb => by
  by_cases hp:p < s.size
  ·have hw:=text_Encode.width s p hp
   have hd:Lib.decodeL (s.data.toList.drop p)=Utf8.decode s p:=Lib.decodeL_drop s p
   have hr:=Lib.decodeL_rune (s.data.toList.drop p)
   have hne:s.data.toList.drop p ≠ []:=by
    intro e
    have:=congrArg List.length e
    rw [List.length_drop,← Lib.size_eq] at this
    simp at this
    omega
   rw [hd] at hr
   have h6:=cuL_len ((Utf8.decode s p).1:Int)
   have hwl:=decode_le s p
   refine Ev.step (f:=fun k => (text_Encode.one k b ((Utf8.decode s p).1:Int)).bind fun b1 => text_Encode.l0 k s (p + (Utf8.decode s p).2) b1) (fun k => ?_) ?_
   ·simp only [text_Encode.l0];rw [if_pos hp]
   ·rw [encL_step _ hne,hd,List.drop_drop,← List.append_assoc]
    exact Ev.bind (text_Encode.ev_one b _ (by omega) (by omega) (by omega)) (text_Encode.ev_l s hs n _ _ (by omega) (by rw [List.length_append];omega))
  ·refine Ev.step (f:=fun _ => some (b,0)) (fun k => ?_) ?_
   ·simp only [text_Encode.l0];rw [if_neg hp]
   ·have:s.data.toList.drop p=[]:=List.drop_eq_nil_of_le (by rw [← Lib.size_eq];omega)
    rw [this,encL_nil,List.append_nil]
    exact Ev.now _
def encV (s:ByteArray):List Int × Int:=if Lib.validD s.data.toList=true then (encL s.data.toList,0) else ([],20)
theorem text_Encode.ev (s:ByteArray) (hs:s.size≤1099511627776):Ev (fun k => text_Encode.f k s) (encV s):=by
 unfold text_Encode.f encV
 by_cases hv:Lib.validD s.data.toList=true
 ·refine Ev.congr (f:=fun k => text_Encode.l0 k s 0 []) (fun k => by rw [if_pos (by omega),if_pos hv]) ?_
  rw [if_pos hv]
  have:=text_Encode.ev_l s hs s.size 0 [] (by omega) (by simp)
  simpa using this
 ·refine Ev.congr (f:=fun k => some ([],20)) (fun k => by rw [if_pos (by omega),if_neg hv]) ?_
  rw [if_neg hv]
  exact Ev.now _
end Go.Proofs.YtmloaijagkebpaaDoor.Px
namespace Go.Proofs.YtmloaijagkebpaaDoor.Px
open Go.RowKit Go.Proofs.YtmloaijagkebpaaDoorW.PrintWords Go.Proofs.YtmloaijagkebpaaDoorW.PrintLast Go.Proofs.YtmloaijagkebpaaDoorW.PrintMore
set_option linter.unusedVariables false
set_option linter.unusedSimpArgs false
def isV (l:List S60) (i tag:Int):Bool:=decide (0 < i∧i < (l.length:Int)∧(rd_T60 l i).f0=tag)
def noText:ByteArray:=⟨#[]⟩
def textV (l:List S60) (i:Int):ByteArray × Bool:=if isV l i 1=true then ((rd_T60 l i).f1,true) else (noText,false)
theorem isV_pos {l:List S60} {i tag:Int} (h:isV l i tag=true):0 < i∧i < (l.length:Int)∧(rd_T60 l i).f0=tag:=of_decide_eq_true h
theorem pool_is.eq (l:List S60) (i tag:Int):pool_is.f l i tag=some (isV l i tag):=by
 unfold pool_is.f isV
 by_cases h1:i > 0
 ·rw [if_pos h1]
  by_cases h2:i < (l.length:Int)
  ·rw [if_pos h2,if_pos (by omega)]
   congr 1
   rw [Bool.eq_iff_iff]
   simp only [beq_iff_eq,decide_eq_true_eq]
   exact ⟨fun h => ⟨h1,h2,h⟩,fun h => h.2.2⟩
  ·rw [if_neg h2,decide_eq_false (by omega)]
 ·rw [if_neg h1,decide_eq_false (by omega)]
theorem pool_Text.eq (l:List S60) (i:Int):pool_Text.f l i=some (textV l i):=by
 unfold pool_Text.f textV
 rw [pool_is.eq,Option.bind_some]
 by_cases h:isV l i 1=true
 ·have:=isV_pos h
  rw [if_pos h,if_pos h,if_pos (by omega),if_pos this.2.1]
 ·rw [if_neg h,if_neg h];rfl
end Go.Proofs.YtmloaijagkebpaaDoor.Px
namespace Go.Proofs.YtmloaijagkebpaaDoor.Px
open Go.RowKit Go.Proofs.YtmloaijagkebpaaDoorW.PrintWords Go.Proofs.YtmloaijagkebpaaDoorW.PrintLast Go.Proofs.YtmloaijagkebpaaDoorW.PrintMore
set_option linter.unusedVariables false
set_option linter.unusedSimpArgs false
def fieldsV (c:Cst):Int × ByteArray × Int × Int × Int :=
 if c.f0=1 then (c.f0,c.f1,0,0,0) else if c.f0=3 ∨ c.f0=5 then (c.f0,⟨#[]⟩,c.f2,0,0) else if c.f0=9 ∨ c.f0=10 ∨ c.f0=12 then (c.f0,⟨#[]⟩,0,c.f3,c.f4) else if c.f0=7 then (c.f0,⟨#[]⟩,0,c.f3,0) else (c.f0,⟨#[]⟩,0,0,0)
def leadsV (p:List Cst) (c:Cst):Bool :=
 if c.f0=1 ∨ c.f0=5 then true else if c.f0=3 then decide (-2147483648≤c.f2∧c.f2≤2147483647) else if c.f0=7 then isV p c.f3 1 else if c.f0=12 then isV p c.f3 1 && isV p c.f4 1 else if c.f0=9 ∨ c.f0=10 then isV p c.f3 7 && isV p c.f4 12 else false
def bareV (c:Cst):Bool :=
 if c.f0=1 then decide (c.f2=0∧c.f3=0∧c.f4=0) else if c.f0=3 ∨ c.f0=5 then decide (c.f1.toList=[]∧c.f3=0∧c.f4=0) else if c.f0=7 then decide (c.f1.toList=[]∧c.f2=0∧c.f4=0) else decide (c.f1.toList=[]∧c.f2=0)
def oneV (p:List Cst) (c:Cst):Int :=
 if bareV c=true∧leadsV p c=true then (if c.f0=1∧¬ ((encV c.f1).2=0∧(encV c.f1).1.length≤256) then 20 else 0) else 40
def chkV:Nat→List Cst→Nat→Int
 | 0,_,_ => 0
 | n + 1,p,i => if i < p.length then (if oneV p (rd_T60 p (i:Int))=0 then chkV n p (i + 1) else oneV p (rd_T60 p (i:Int))) else 0
def zeroV (c:Cst):Bool:=decide (c.f0=0∧c.f1.toList=[]∧c.f2=0∧c.f3=0∧c.f4=0)
def checkV (p:List Cst):Int:=if p.length > 1024 then 2 else if p.length=0 then 40 else if zeroV (rd_T60 p 0)=true then chkV p.length p 1 else 40
theorem noBytes:(⟨#[]⟩:ByteArray).toList=[]:=by rw [Lib.toList_data]
theorem pool_fields.at2 (c:Cst):pool_fields.f 2 c.f0 c.f1 c.f2 c.f3 c.f4=some (fieldsV c):=by
 unfold fieldsV pool_fields.f
 simp only [pool_fields.j0,pool_fields.j1,beq_iff_eq]
 repeat' split
 all_goals first|rfl|(exfalso;omega)
theorem pool_fields.ev (c:Cst):Ev (fun k => pool_fields.f k c.f0 c.f1 c.f2 c.f3 c.f4) (fieldsV c):=Ev.of (fun k => pool_fields.mono _ _ _ _ _ k) (pool_fields.at2 c)
theorem wraps (x:Int) (h:(Lit.int .i64 x).wf=true):(wrap64 (wrap32 x)==x)=decide (-2147483648≤x∧x≤2147483647):=by
 simp [Lit.wf,IntKind.min,IntKind.max,IntKind.bits,IntKind.signed] at h
 rw [Bool.eq_iff_iff,beq_iff_eq,decide_eq_true_eq]
 unfold wrap64 wrap32
 omega
theorem pool_leads.at2 (p:List Cst) (c:Cst) (hw:(Lit.int .i64 c.f2).wf=true):pool_leads.f 2 p c.f0 c.f1 c.f2 c.f3 c.f4=some (leadsV p c):=by
 unfold leadsV pool_leads.f
 simp only [pool_leads.j0,pool_leads.j1,beq_iff_eq,pool_is.eq,Option.bind_some,wraps _ hw]
 by_cases h1:c.f0=1
 ·rw [if_pos h1,if_pos h1,if_pos (by omega)]
 rw [if_neg h1]
 by_cases h5:c.f0=5
 ·rw [if_pos h5,if_pos (by omega)]
 rw [if_neg h5,if_neg (show ¬ (c.f0=1 ∨ c.f0=5) by omega)]
 by_cases h3:c.f0=3
 ·rw [if_pos h3,if_pos h3]
 rw [if_neg h3,if_neg h3]
 by_cases h7:c.f0=7
 ·rw [if_pos h7,if_pos h7]
 rw [if_neg h7,if_neg h7]
 by_cases h12:c.f0=12
 ·rw [if_pos h12,if_pos h12]
  cases isV p c.f3 1 <;> simp
 rw [if_neg h12,if_neg h12]
 by_cases h9:c.f0=9
 ·rw [if_pos h9,if_pos h9,if_pos (show c.f0=9 ∨ c.f0=10 by omega)]
  cases isV p c.f3 7 <;> simp
 rw [if_neg h9]
 by_cases h10:c.f0=10
 ·rw [if_pos h10,if_pos (show c.f0=9 ∨ c.f0=10 by omega)]
  cases isV p c.f3 7 <;> simp
 rw [if_neg h10,if_neg (by omega)]
theorem pool_leads.ev (p:List Cst) (c:Cst) (hw:(Lit.int .i64 c.f2).wf=true):Ev (fun k => pool_leads.f k p c.f0 c.f1 c.f2 c.f3 c.f4) (leadsV p c):=Ev.of (fun k => pool_leads.mono _ _ _ _ _ _ k) (pool_leads.at2 p c hw)
theorem sameC_iff (c:Cst) (x:Int × ByteArray × Int × Int × Int):sameC c x=true ↔ c.f0=x.1∧c.f1.toList=x.2.1.toList∧c.f2=x.2.2.1∧c.f3=x.2.2.2.1∧c.f4=x.2.2.2.2:=by
 unfold sameC
 simp only [Bool.and_eq_true,beq_iff_eq]
theorem same_bare (p:List Cst) (c:Cst) (h:leadsV p c=true):sameC c (fieldsV c)=true ↔ bareV c=true:=by
 rw [sameC_iff]
 unfold fieldsV bareV
 unfold leadsV at h
 by_cases h1:c.f0=1
 ·simp [h1]
 ·by_cases h35:c.f0=3 ∨ c.f0=5
  ·rw [if_neg h1,if_neg h1,if_pos h35,if_pos h35]
   simp [noBytes]
  ·by_cases h9:c.f0=9 ∨ c.f0=10 ∨ c.f0=12
   ·rw [if_neg h1,if_neg h1,if_neg h35,if_neg h35,if_pos h9,if_neg (by omega)]
    simp [noBytes]
   ·by_cases h7:c.f0=7
    ·rw [if_neg h1,if_neg h1,if_neg h35,if_neg h35,if_neg h9,if_pos h7,if_pos h7]
     simp [noBytes]
    ·rw [if_neg (by omega),if_neg (by omega),if_neg (by omega),if_neg (by omega),if_neg (by omega)] at h
     cases h
theorem bare_text (c:Cst) (h:bareV c=true) (h1:c.f0 ≠ 1):encV c.f1=([],0):=by
 have ht:c.f1.toList=[]:=by
  unfold bareV at h
  rw [if_neg h1] at h
  split at h
  ·exact (of_decide_eq_true h).1
  ·split at h
   ·exact (of_decide_eq_true h).1
   ·exact (of_decide_eq_true h).1
 rw [Lib.toList_data] at ht
 unfold encV
 rw [ht]
 rfl
def codeOf (r:Option (Int × Int)):Int:=match r with|none => 0|some (_,y) => y
def FitC (c:Cst):Prop:=c.f1.size≤1099511627776∧(Lit.int .i64 c.f2).wf=true
theorem fit_zero:FitC z60:=⟨by decide,by decide⟩
theorem fit_rd {p:List Cst} (h:∀ c ∈ p,FitC c) (i:Int):FitC (rd_T60 p i):=by
 unfold rd_T60
 rw [List.getD_eq_getElem?_getD]
 cases e:p[i.toNat]? with
 | none => exact fit_zero
 | some x => exact h x (List.mem_of_getElem? e)
theorem pool_check.ev_l (p:List Cst) (hp:∀ c ∈ p,FitC c):∀ n i,p.length≤i + 1 + n→∃ r,Ev (fun k => pool_check.l0 k p i) r∧codeOf r=chkV n p (i + 1):=by
 have stop:∀ i,¬ i + 1 < p.length→Ev (fun k => pool_check.l0 k p i) none:=fun i hi => Ev.step (f:=fun _ => some none) (fun k => by simp only [pool_check.l0];rw [if_neg hi]) (Ev.now _)
 intro n
 induction n with
 | zero => intro i h;exact ⟨none,stop i (by omega),rfl⟩
 | succ n ih =>
  intro i h
  by_cases hi:i + 1 < p.length
  ·obtain ⟨c,hc⟩:∃ c,c=rd_T60 p ((i:Int) + 1):=⟨_,rfl⟩
   have hfit:FitC c:=hc ▸ fit_rd hp _
   have hV:chkV (n + 1) p (i + 1)=if oneV p c=0 then chkV n p (i + 2) else oneV p c:=by
    rw [hc]
    show (if i + 1 < p.length then _ else _)=_
    rw [if_pos hi]
    rfl
   rw [hV]
   have step:∀ r,Ev (fun k => (pool_fields.f k c.f0 c.f1 c.f2 c.f3 c.f4).bind fun x => if sameC c x=true then (pool_leads.f k p c.f0 c.f1 c.f2 c.f3 c.f4).bind fun t => if t=true then (text_Encode.f k c.f1).bind fun b => if b.2=0 then (if (b.1.length:Int) > 256 then some (some ((i:Int) + 1,20)) else pool_check.l0 k p (i + 1)) else some (some ((i:Int) + 1,20)) else some (some ((i:Int) + 1,40)) else some (some ((i:Int) + 1,40))) r→Ev (fun k => pool_check.l0 k p i) r:=fun r hr => Ev.step (fun k => by simp only [pool_check.l0];rw [if_pos hi,← hc]) hr
   by_cases hs:sameC c (fieldsV c)=true
   ·by_cases hl:leadsV p c=true
    ·have hb:=(same_bare p c hl).1 hs
     by_cases he:(encV c.f1).2=0∧(encV c.f1).1.length≤256
     ·obtain ⟨r,hr,hrc⟩:=ih (i + 1) (by omega)
      have h1:oneV p c=0:=by unfold oneV;rw [if_pos ⟨hb,hl⟩,if_neg (fun h => h.2 he)]
      rw [if_pos h1]
      refine ⟨r,step r (Ev.bind (pool_fields.ev c) (Ev.congr (fun k => if_pos hs) (Ev.bind (pool_leads.ev p c hfit.2) (Ev.congr (fun k => if_pos hl) (Ev.bind (text_Encode.ev c.f1 hfit.1) (Ev.congr (fun k => (if_pos he.1).trans (if_neg (by omega))) hr)))))),hrc⟩
     ·have hf1:c.f0=1:=by
       apply Classical.byContradiction
       intro h
       rw [bare_text c hb h] at he
       exact he ⟨rfl,by simp⟩
      have h1:oneV p c=20:=by unfold oneV;rw [if_pos ⟨hb,hl⟩,if_pos ⟨hf1,he⟩]
      rw [h1,if_neg (by decide)]
      refine ⟨some ((i:Int) + 1,20),step _ (Ev.bind (pool_fields.ev c) (Ev.congr (fun k => if_pos hs) (Ev.bind (pool_leads.ev p c hfit.2) (Ev.congr (fun k => if_pos hl) (Ev.bind (text_Encode.ev c.f1 hfit.1) ?_))))),rfl⟩
      by_cases h0:(encV c.f1).2=0
      ·exact Ev.congr (fun k => (if_pos h0).trans (if_pos (by omega))) (Ev.now _)
      ·exact Ev.congr (fun k => if_neg h0) (Ev.now _)
    ·have h1:oneV p c=40:=by unfold oneV;rw [if_neg (fun h => hl h.2)]
     rw [h1,if_neg (by decide)]
     exact ⟨some ((i:Int) + 1,40),step _ (Ev.bind (pool_fields.ev c) (Ev.congr (fun k => if_pos hs) (Ev.bind (pool_leads.ev p c hfit.2) (Ev.congr (fun k => if_neg hl) (Ev.now _))))),rfl⟩
   ·have h1:oneV p c=40:=by
     unfold oneV
     rw [if_neg (fun h => hs ((same_bare p c h.2).2 h.1))]
    rw [h1,if_neg (by decide)]
    exact ⟨some ((i:Int) + 1,40),step _ (Ev.bind (pool_fields.ev c) (Ev.congr (fun k => if_neg hs) (Ev.now _))),rfl⟩
  ·refine ⟨none,stop i hi,?_⟩
   show (0:Int)=if i + 1 < p.length then _ else 0
   rw [if_neg hi]
theorem zeroV_iff (c:Cst):sameC c (0,⟨#[]⟩,0,0,0)=zeroV c:=by
 rw [Bool.eq_iff_iff,sameC_iff]
 unfold zeroV
 rw [decide_eq_true_eq,noBytes]
theorem pool_Check.ev (p:List Cst) (hp:∀ c ∈ p,FitC c):Ev (fun k => pool_Check.f k p) (checkV p):=by
 have key:∀ r,Ev (fun k => pool_check.f k p) r→Ev (fun k => pool_Check.f k p) (codeOf r):=fun r hr => Ev.bind hr (Ev.now _)
 unfold checkV
 by_cases c1:p.length > 1024
 ·rw [if_pos c1]
  exact key (some (0,2)) (Ev.congr (f:=fun _ => some (some (0,2))) (fun k => by unfold pool_check.f;rw [if_pos c1]) (Ev.now _))
 rw [if_neg c1]
 by_cases c2:p.length=0
 ·rw [if_pos c2]
  exact key (some (0,40)) (Ev.congr (f:=fun _ => some (some (0,40))) (fun k => by unfold pool_check.f;rw [if_neg c1,if_pos c2]) (Ev.now _))
 rw [if_neg c2]
 by_cases c3:zeroV (rd_T60 p 0)=true
 ·rw [if_pos c3]
  obtain ⟨r,hr,hrc⟩:=pool_check.ev_l p hp p.length 0 (by omega)
  have:=key r (Ev.congr (f:=fun k => pool_check.l0 k p 0) (fun k => by unfold pool_check.f;rw [if_neg c1,if_neg c2,zeroV_iff,if_pos c3]) hr)
  rw [hrc] at this
  exact this
 ·rw [if_neg c3]
  exact key (some (0,40)) (Ev.congr (f:=fun _ => some (some (0,40))) (fun k => by unfold pool_check.f;rw [if_neg c1,if_neg c2,zeroV_iff,if_neg c3]) (Ev.now _))
end Go.Proofs.YtmloaijagkebpaaDoor.Px
namespace Go.Proofs.YtmloaijagkebpaaDoor.Px
open Go.RowKit Go.Proofs.YtmloaijagkebpaaDoorW.PrintWords Go.Proofs.YtmloaijagkebpaaDoorW.PrintLast Go.Proofs.YtmloaijagkebpaaDoorW.PrintMore
set_option linter.unusedVariables false
set_option linter.unusedSimpArgs false
def classV (l:List Cst) (i:Int):ByteArray × Bool:=if isV l i 7=true then textV l (rd_T60 l i).f3 else (noText,false)
theorem pool_Class.eq (l:List Cst) (i:Int):pool_Class.f l i=some (classV l i):=by
 unfold pool_Class.f classV
 rw [pool_is.eq,Option.bind_some]
 by_cases h:isV l i 7=true
 ·have:=isV_pos h
  rw [if_pos h,if_pos h,if_pos (by omega),if_pos this.2.1,pool_Text.eq,Option.bind_some]
 ·rw [if_neg h,if_neg h];rfl
def txt (p:List Cst) (i:Int):Bool:=(textV p i).2
def cl (p:List Cst) (i:Int):Bool:=(classV p i).2
def flagsV (n:Int):Bool:=decide (n=0 ∨ n=8)
def placeG:Nat→List Cst→ByteArray→Nat→Int
 | 0,_,_,_ => 0
 | n + 1,p,s,i => if i < p.length then (if isV p (i:Int) 1=true∧(rd_T60 p (i:Int)).f1.toList=s.toList then (i:Int) else placeG n p s (i + 1)) else 0
def placeV (p:List Cst) (s:ByteArray):Int:=placeG p.length p s 1
def trapV (p:List Cst) (n:Int) (t:Trp):Bool :=
 if t.f0 < 0 then false else if t.f0 ≥ t.f1 then false else if t.f1 > n then false else if t.f2 < 0 ∨ t.f2 ≥ n then false else if t.f3=0 then true else cl p t.f3
def restV (p:List Cst) (m0 m1 m2 m3 m4:Int) (n mn:Nat):Bool :=
 flagsV m0 && (txt p m1 && txt p m2) && decide (0≤m3∧m3≤64) && decide (0≤m4∧m4≤64) && decide (1≤n∧n≤4096) && decide (mn≤4096) && decide (placeV p sCode > 0) && (decide (mn=0) || decide (placeV p sMaps > 0))
def fieldV (p:List Cst) (f:Fld):Bool:=flagsV f.f0 && (txt p f.f1 && txt p f.f2)
def methV (p:List Cst) (m:Mth):Bool:=m.f6.all (trapV p m.f5.length) && restV p m.f0 m.f1 m.f2 m.f3 m.f4 m.f5.length m.f7.length
def longV (x:Int) (ms:List Mth):Bool:=decide (x > 64) || ms.any (fun m => decide ((m.f6.length:Int) > 64))
def fineV (fine:Bool):Int:=if fine=true then 0 else 50
def classCheckV (p:List Cst) (this super:Int) (fs:List Fld) (ms:List Mth):Int :=
 if checkV p=0 then (if longV (mx (fs.length:Int) (ms.length:Int)) ms=true then 2 else fineV ((cl p this && cl p super) && fs.all (fieldV p) && ms.all (methV p))) else checkV p
section
variable {α:Type} {xs:List α} {z:α}
theorem drop_getD (i:Nat) (h:i < xs.length):xs.drop i=xs.getD i z :: xs.drop (i + 1):=by
 rw [List.drop_eq_getElem_cons h,List.getD_eq_getElem?_getD,List.getElem?_eq_getElem h]
 rfl
end
theorem flags_iff (a:Int) (h0:-9223372036854775808≤a) (h1:a≤9223372036854775807):(Go.bits .andNot .i64 a 8==0)=decide (a=0 ∨ a=8):=by
 rw [Bool.eq_iff_iff,beq_iff_eq,decide_eq_true_eq]
 constructor
 ·intro h
  have h2:IntKind.i64.wrap ((BitVec.ofInt 64 a &&& ~~~BitVec.ofInt 64 8).toNat:Int)=0:=h
  rw [i64_w] at h2
  have hlt:=(BitVec.ofInt 64 a &&& ~~~BitVec.ofInt 64 8).isLt
  have h3:(BitVec.ofInt 64 a &&& ~~~BitVec.ofInt 64 8).toNat=0:=by unfold wrap64 at h2;omega
  have h4:BitVec.ofInt 64 a &&& ~~~BitVec.ofInt 64 8=0#64:=BitVec.eq_of_toNat_eq h3
  have h8:BitVec.ofInt 64 8=BitVec.twoPow 64 3:=by decide
  have hx:∀ x t:BitVec 64,x=(x &&& ~~~t) ||| (x &&& t):=by
   intro x t
   ext i hi
   simp only [BitVec.getElem_or,BitVec.getElem_and,BitVec.getElem_not]
   cases x[i] <;> cases t[i] <;> rfl
  have h5:=hx (BitVec.ofInt 64 a) (BitVec.ofInt 64 8)
  rw [h4,h8,BitVec.and_twoPow,BitVec.zero_or] at h5
  have h6:=congrArg BitVec.toNat h5
  rw [BitVec.toNat_ofInt] at h6
  split at h6
  ·have:(BitVec.twoPow 64 3).toNat=8:=by decide
   omega
  ·have:(0#64).toNat=0:=rfl
   omega
 ·rintro (rfl|rfl) <;> decide
theorem flags.eq (n:Int) (h:(Lit.int .i64 n).wf=true):class_flags.f n=some (flagsV n):=by
 simp [Lit.wf,IntKind.min,IntKind.max,IntKind.bits,IntKind.signed] at h
 unfold class_flags.f flagsV
 rw [flags_iff n (by omega) (by omega)]
theorem within.eq (a b:Int):class_within.f a b=some (decide (0≤a∧a≤b)):=by
 unfold class_within.f
 by_cases h:a ≥ 0
 ·rw [if_pos h]
  congr 1
  rw [Bool.eq_iff_iff,decide_eq_true_eq,decide_eq_true_eq]
  omega
 ·rw [if_neg h,decide_eq_false (by omega)]
theorem rules_text.ev_l (p:List Cst) (l:List Int) (hl:l.length≤1048576):∀ n (i:Nat),l.length≤i + n→Ev (fun k => class_rules_text.l0 k l (l.length:Int) (i:Int) p) ((l.drop i).all (txt p)):=by
 have stop:∀ i:Nat,¬ i < l.length→Ev (fun k => class_rules_text.l0 k l (l.length:Int) (i:Int) p) ((l.drop i).all (txt p)):=fun i hi => by
  rw [List.drop_eq_nil_of_le (by omega)]
  exact Ev.step (f:=fun _ => some true) (fun k => by simp only [class_rules_text.l0];rw [if_neg (by omega)]) (Ev.now _)
 intro n
 induction n with
 | zero => intro i h;exact stop i (by omega)
 | succ n ih =>
  intro i h
  by_cases hi:i < l.length
  ·rw [drop_getD (z:=(0:Int)) i hi,List.all_cons]
   have e:rd l (i:Int)=l.getD i 0:=by unfold rd;rw [Int.toNat_natCast]
   have et:(textV p (l.getD i 0)).2=txt p (l.getD i 0):=rfl
   refine Ev.step (f:=fun k => if txt p (l.getD i 0)=true then class_rules_text.l0 k l (l.length:Int) ((i + 1:Nat):Int) p else some false) (fun k => ?_) ?_
   ·simp only [class_rules_text.l0,pool_Text.eq,Option.bind_some,e,et]
    rw [if_pos (by omega),if_pos (by omega),if_pos (by omega),w64 (by omega) (by omega)]
    rfl
   ·cases ht:txt p (l.getD i 0)
    ·exact Ev.congr (fun k => if_neg (by simp)) (Ev.now _)
    ·exact Ev.congr (fun k => if_pos rfl) (ih (i + 1) (by omega))
  ·exact stop i hi
theorem rules_text.ev2 (p:List Cst) (a b:Int):Ev (fun k => class_rules_text.f k p [a,b]) (txt p a && txt p b):=by
 have h:=rules_text.ev_l p [a,b] (by simp) 2 0 (by simp)
 simp only [List.drop_zero,List.all_cons,List.all_nil,Bool.and_true] at h
 exact h
theorem rules_class.ev_l (p:List Cst) (l:List Int) (hl:l.length≤1048576):∀ n (i:Nat),l.length≤i + n→Ev (fun k => class_rules_class.l0 k l (l.length:Int) (i:Int) p) ((l.drop i).all (cl p)):=by
 have stop:∀ i:Nat,¬ i < l.length→Ev (fun k => class_rules_class.l0 k l (l.length:Int) (i:Int) p) ((l.drop i).all (cl p)):=fun i hi => by
  rw [List.drop_eq_nil_of_le (by omega)]
  exact Ev.step (f:=fun _ => some true) (fun k => by simp only [class_rules_class.l0];rw [if_neg (by omega)]) (Ev.now _)
 intro n
 induction n with
 | zero => intro i h;exact stop i (by omega)
 | succ n ih =>
  intro i h
  by_cases hi:i < l.length
  ·rw [drop_getD (z:=(0:Int)) i hi,List.all_cons]
   have e:rd l (i:Int)=l.getD i 0:=by unfold rd;rw [Int.toNat_natCast]
   have et:(classV p (l.getD i 0)).2=cl p (l.getD i 0):=rfl
   refine Ev.step (f:=fun k => if cl p (l.getD i 0)=true then class_rules_class.l0 k l (l.length:Int) ((i + 1:Nat):Int) p else some false) (fun k => ?_) ?_
   ·simp only [class_rules_class.l0,pool_Class.eq,Option.bind_some,e,et]
    rw [if_pos (by omega),if_pos (by omega),if_pos (by omega),w64 (by omega) (by omega)]
    rfl
   ·cases ht:cl p (l.getD i 0)
    ·exact Ev.congr (fun k => if_neg (by simp)) (Ev.now _)
    ·exact Ev.congr (fun k => if_pos rfl) (ih (i + 1) (by omega))
  ·exact stop i hi
theorem rules_class.ev2 (p:List Cst) (a b:Int):Ev (fun k => class_rules_class.f k p [a,b]) (cl p a && cl p b):=by
 have h:=rules_class.ev_l p [a,b] (by simp) 2 0 (by simp)
 simp only [List.drop_zero,List.all_cons,List.all_nil,Bool.and_true] at h
 exact h
theorem rules_class.ev1 (p:List Cst) (a:Int):Ev (fun k => class_rules_class.f k p [a]) (cl p a):=by
 have h:=rules_class.ev_l p [a] (by simp) 1 0 (by simp)
 simp only [List.drop_zero,List.all_cons,List.all_nil,Bool.and_true] at h
 exact h
theorem place.ev_l (p:List Cst) (s:ByteArray) (hl:p.length≤1048576):∀ n (i:Nat),p.length≤i + n→Ev (fun k => class_place.l0 k p s (p.length:Int) (i:Int)) (placeG n p s i):=by
 have stop:∀ i:Nat,¬ i < p.length→Ev (fun k => class_place.l0 k p s (p.length:Int) (i:Int)) 0:=fun i hi => Ev.step (f:=fun _ => some 0) (fun k => by simp only [class_place.l0];rw [if_neg (by omega)]) (Ev.now _)
 intro n
 induction n with
 | zero => intro i h;exact stop i (by omega)
 | succ n ih =>
  intro i h
  show Ev _ (if i < p.length then _ else _)
  by_cases hi:i < p.length
  ·rw [if_pos hi]
   refine Ev.step (f:=fun k => if isV p (i:Int) 1=true∧(rd_T60 p (i:Int)).f1.toList=s.toList then some (i:Int) else class_place.l0 k p s (p.length:Int) ((i + 1:Nat):Int)) (fun k => ?_) ?_
   ·simp only [class_place.l0,pool_Text.eq,Option.bind_some]
    rw [if_pos (by omega),w64 (by omega) (by omega)]
    unfold textV
    by_cases hv:isV p (i:Int) 1=true
    ·rw [if_pos hv,if_pos rfl]
     by_cases hs:(rd_T60 p (i:Int)).f1.toList=s.toList
     ·rw [if_pos hs,if_pos ⟨hv,hs⟩]
     ·rw [if_neg hs,if_neg (fun h => hs h.2)];rfl
    ·rw [if_neg hv,if_neg (by simp),if_neg (fun h => hv h.1)];rfl
   ·by_cases hc:isV p (i:Int) 1=true∧(rd_T60 p (i:Int)).f1.toList=s.toList
    ·rw [if_pos hc];exact Ev.congr (fun k => if_pos hc) (Ev.now _)
    ·rw [if_neg hc];exact Ev.congr (fun k => if_neg hc) (ih (i + 1) (by omega))
  ·rw [if_neg hi];exact stop i hi
theorem place.ev (p:List Cst) (s:ByteArray) (hl:p.length≤1048576):Ev (fun k => class_place.f k p s) (placeV p s):=by
 have h:=place.ev_l p s hl (p.length + 1) 0 (by omega)
 have e:placeG (p.length + 1) p s 0=placeV p s:=by
  show (if 0 < p.length then (if isV p ((0:Nat):Int) 1=true∧_ then _ else placeG p.length p s 1) else 0)=placeG p.length p s 1
  have hv:¬ isV p ((0:Nat):Int) 1=true:=by unfold isV;simp
  by_cases h0:0 < p.length
  ·rw [if_pos h0,if_neg (fun h => hv h.1)]
  ·rw [if_neg h0,show p.length=0 by omega];rfl
 rw [e] at h
 exact h
end Go.Proofs.YtmloaijagkebpaaDoor.Px
namespace Go.Proofs.YtmloaijagkebpaaDoor.Px
open Go.RowKit Go.Proofs.YtmloaijagkebpaaDoorW.PrintWords Go.Proofs.YtmloaijagkebpaaDoorW.PrintLast Go.Proofs.YtmloaijagkebpaaDoorW.PrintMore
set_option linter.unusedVariables false
set_option linter.unusedSimpArgs false
def FitM (m:Mth):Prop:=(Lit.int .i64 m.f0).wf=true∧m.f5.length≤1048576∧m.f6.length≤1048576∧m.f7.length≤1048576
def FitF (f:Fld):Prop:=(Lit.int .i64 f.f0).wf=true
theorem rest.ev (p:List Cst) (hl:p.length≤1048576) (m0 m1 m2 m3 m4:Int) (n mn:Nat) (hw:(Lit.int .i64 m0).wf=true) (hn:n≤1048576) (hm:mn≤1048576) :
  Ev (fun k => (class_flags.f m0).bind fun t151 => (if t151=true then ((class_rules_text.f k p (([m1,m2]:List Int))).bind fun t155 => (if t155=true then ((class_within.f m3 64).bind fun t156 => (if t156=true then ((class_within.f m4 64).bind fun t157 => (if t157=true then ((class_within.f (wrap64 ((n:Int) - 1)) 4095).bind fun t158 => (if t158=true then (if (mn:Int)≤4096 then ((class_place.f k p (⟨#[67,111,100,101]⟩:ByteArray)).bind fun t159 => (if t159 > 0 then (if (mn:Int)=0 then (some true) else ((class_place.f k p (⟨#[83,116,97,99,107,77,97,112,84,97,98,108,101]⟩:ByteArray)).bind fun t160 => (some (decide (t160 > 0))))) else (some false))) else (some false)) else (some false))) else (some false))) else (some false))) else (some false))) else (some false))) (restV p m0 m1 m2 m3 m4 n mn):=by
 simp only [flags.eq _ hw,within.eq,Option.bind_some]
 have hwn:wrap64 ((n:Int) - 1)=(n:Int) - 1:=w64 (by omega) (by omega)
 rw [hwn]
 have no:∀ {x:Bool},x=false→Ev (fun _ => some false) x:=fun h => h ▸ Ev.now _
 by_cases a:flagsV m0=true
 ·refine Ev.congr (fun k => if_pos a) (Ev.bind (rules_text.ev2 p m1 m2) ?_)
  by_cases b:(txt p m1 && txt p m2)=true
  ·refine Ev.congr (fun k => if_pos b) ?_
   by_cases c:decide (0≤m3∧m3≤64)=true
   ·refine Ev.congr (fun k => if_pos c) ?_
    by_cases d:decide (0≤m4∧m4≤64)=true
    ·refine Ev.congr (fun k => if_pos d) ?_
     by_cases e:decide (0≤(n:Int) - 1∧(n:Int) - 1≤4095)=true
     ·have e2:decide (1≤n∧n≤4096)=true:=by rw [decide_eq_true_eq] at e ⊢;omega
      refine Ev.congr (fun k => if_pos e) ?_
      by_cases f:(mn:Int)≤4096
      ·have f2:decide (mn≤4096)=true:=decide_eq_true (by omega)
       refine Ev.congr (fun k => if_pos f) (Ev.bind (place.ev p _ hl) ?_)
       by_cases g:placeV p sCode > 0
       ·refine Ev.congr (fun k => if_pos g) ?_
        by_cases h:(mn:Int)=0
        ·have h2:decide (mn=0)=true:=decide_eq_true (by omega)
         refine Ev.congr (fun k => if_pos h) ?_
         have:restV p m0 m1 m2 m3 m4 n mn=true:=by unfold restV;rw [a,b,c,d,e2,f2,h2,decide_eq_true g];rfl
         rw [this];exact Ev.now _
        ·have h2:decide (mn=0)=false:=decide_eq_false (by omega)
         refine Ev.congr (fun k => if_neg h) (Ev.bind (place.ev p _ hl) ?_)
         have:restV p m0 m1 m2 m3 m4 n mn=decide (placeV p sMaps > 0):=by unfold restV;rw [a,b,c,d,e2,f2,h2,decide_eq_true g];rfl
         rw [this];exact Ev.now _
       ·exact Ev.congr (fun k => if_neg g) (no (by unfold restV;rw [decide_eq_false g];simp))
      ·exact Ev.congr (fun k => if_neg f) (no (by unfold restV;rw [decide_eq_false (show ¬ mn≤4096 by omega)];simp))
     ·exact Ev.congr (fun k => if_neg e) (no (by unfold restV;rw [decide_eq_false (show ¬ (1≤n∧n≤4096) by rw [decide_eq_true_eq] at e;omega)];simp))
    ·exact Ev.congr (fun k => if_neg d) (no (by unfold restV;rw [Bool.eq_false_iff.2 d];simp))
   ·exact Ev.congr (fun k => if_neg c) (no (by unfold restV;rw [Bool.eq_false_iff.2 c];simp))
  ·exact Ev.congr (fun k => if_neg b) (no (by unfold restV;rw [Bool.eq_false_iff.2 b];simp))
 ·exact Ev.congr (fun k => if_neg a) (no (by unfold restV;rw [Bool.eq_false_iff.2 a];simp))
section
variable (p:List Cst) (hl:p.length≤1048576) (m:Mth) (hm:FitM m)
include hl hm
theorem meth.ev_l:∀ d (i:Nat),m.f6.length≤i + d→Ev (fun k => class_rules_method.l0 k (m.f5.length:Int) m.f6 (m.f6.length:Int) (i:Int) p m.f0 m.f1 m.f2 m.f3 m.f4 m.f5 m.f6 m.f7) ((m.f6.drop i).all (trapV p m.f5.length) && restV p m.f0 m.f1 m.f2 m.f3 m.f4 m.f5.length m.f7.length):=by
 obtain ⟨hw,h5,h6,h7⟩:=hm
 have stop:∀ i:Nat,¬ i < m.f6.length→Ev (fun k => class_rules_method.l0 k (m.f5.length:Int) m.f6 (m.f6.length:Int) (i:Int) p m.f0 m.f1 m.f2 m.f3 m.f4 m.f5 m.f6 m.f7) ((m.f6.drop i).all (trapV p m.f5.length) && restV p m.f0 m.f1 m.f2 m.f3 m.f4 m.f5.length m.f7.length):=fun i hi => by
  rw [List.drop_eq_nil_of_le (by omega),List.all_nil,Bool.true_and]
  exact Ev.step (fun k => by simp only [class_rules_method.l0];rw [if_neg (by omega)]) (rest.ev p hl m.f0 m.f1 m.f2 m.f3 m.f4 m.f5.length m.f7.length hw h5 h7)
 intro d
 induction d with
 | zero => intro i h;exact stop i (by omega)
 | succ d ih =>
  intro i h
  by_cases hi:i < m.f6.length
  ·obtain ⟨t,ht⟩:∃ t,t=rd_T78 m.f6 (i:Int):=⟨_,rfl⟩
   have hd:m.f6.drop i=t :: m.f6.drop (i + 1):=by
    rw [drop_getD (z:=z78) i hi,ht]
    unfold rd_T78
    rw [Int.toNat_natCast]
   have j1:∀ b:Bool,Ev (fun k => class_rules_method.j1 k (m.f5.length:Int) m.f6 (m.f6.length:Int) (i:Int) b p m.f0 m.f1 m.f2 m.f3 m.f4 m.f5 m.f6 m.f7) (!b && ((m.f6.drop (i + 1)).all (trapV p m.f5.length) && restV p m.f0 m.f1 m.f2 m.f3 m.f4 m.f5.length m.f7.length)):=by
    intro b
    cases b with
    | true => exact Ev.step (f:=fun _ => some false) (fun k => by simp only [class_rules_method.j1];rw [if_pos trivial]) (Ev.now _)
    | false =>
     rw [Bool.not_false,Bool.true_and]
     refine Ev.step (fun k => ?_) (ih (i + 1) (by omega))
     simp only [class_rules_method.j1]
     rw [if_neg (by simp),w64 (by omega) (by omega)]
     rfl
   have hwn:wrap64 ((m.f5.length:Int) - 1)=(m.f5.length:Int) - 1:=w64 (by omega) (by omega)
   have pre:(i:Int) < (m.f6.length:Int):=by omega
   have pre0:(0:Int)≤(i:Int):=by omega
   rw [hd,List.all_cons,Bool.and_assoc]
   have bad:trapV p m.f5.length t=false→(∀ k,class_rules_method.l0 (k + 1) (m.f5.length:Int) m.f6 (m.f6.length:Int) (i:Int) p m.f0 m.f1 m.f2 m.f3 m.f4 m.f5 m.f6 m.f7=class_rules_method.j1 k (m.f5.length:Int) m.f6 (m.f6.length:Int) (i:Int) true p m.f0 m.f1 m.f2 m.f3 m.f4 m.f5 m.f6 m.f7)→Ev (fun k => class_rules_method.l0 k (m.f5.length:Int) m.f6 (m.f6.length:Int) (i:Int) p m.f0 m.f1 m.f2 m.f3 m.f4 m.f5 m.f6 m.f7) (trapV p m.f5.length t && ((m.f6.drop (i + 1)).all (trapV p m.f5.length) && restV p m.f0 m.f1 m.f2 m.f3 m.f4 m.f5.length m.f7.length)):=by
    intro e hk
    rw [e,Bool.false_and]
    exact Ev.step hk (j1 true)
   by_cases c1:t.f0 < 0
   ·exact bad (by unfold trapV;rw [if_pos c1]) (fun k => by simp only [class_rules_method.l0,← ht];rw [if_pos pre,if_pos pre0,if_pos pre,if_pos c1])
   by_cases c2:t.f0 ≥ t.f1
   ·exact bad (by unfold trapV;rw [if_neg c1,if_pos c2]) (fun k => by simp only [class_rules_method.l0,← ht];rw [if_pos pre,if_pos pre0,if_pos pre,if_neg c1,if_pos c2])
   by_cases c3:t.f1 > (m.f5.length:Int)
   ·exact bad (by unfold trapV;rw [if_neg c1,if_neg c2,if_pos c3]) (fun k => by simp only [class_rules_method.l0,← ht];rw [if_pos pre,if_pos pre0,if_pos pre,if_neg c1,if_neg c2,if_pos c3])
   by_cases c4:t.f2 < 0 ∨ t.f2 ≥ (m.f5.length:Int)
   ·refine bad (by unfold trapV;rw [if_neg c1,if_neg c2,if_neg c3,if_pos c4]) (fun k => ?_)
    simp only [class_rules_method.l0,← ht,within.eq,Option.bind_some,hwn]
    rw [if_pos pre,if_pos pre0,if_pos pre,if_neg c1,if_neg c2,if_neg c3,if_neg (by rw [decide_eq_true_eq];omega)]
   have c4b:decide (0≤t.f2∧t.f2≤(m.f5.length:Int) - 1)=true:=decide_eq_true (by omega)
   by_cases c5:t.f3=0
   ·have e:trapV p m.f5.length t=true:=by unfold trapV;rw [if_neg c1,if_neg c2,if_neg c3,if_neg c4,if_pos c5]
    rw [e]
    refine Ev.step (fun k => ?_) (j1 false)
    simp only [class_rules_method.l0,← ht,within.eq,Option.bind_some,hwn]
    rw [if_pos pre,if_pos pre0,if_pos pre,if_neg c1,if_neg c2,if_neg c3,if_pos c4b,if_pos c5]
   ·have e:trapV p m.f5.length t=cl p t.f3:=by unfold trapV;rw [if_neg c1,if_neg c2,if_neg c3,if_neg c4,if_neg c5]
    rw [e]
    have hj:=j1 (!(cl p t.f3))
    rw [Bool.not_not] at hj
    refine Ev.step (f:=fun k => (class_rules_class.f k p [t.f3]).bind fun t150 => class_rules_method.j1 k (m.f5.length:Int) m.f6 (m.f6.length:Int) (i:Int) (!t150) p m.f0 m.f1 m.f2 m.f3 m.f4 m.f5 m.f6 m.f7) (fun k => ?_) (Ev.bind (rules_class.ev1 p t.f3) hj)
    simp only [class_rules_method.l0,← ht,within.eq,Option.bind_some,hwn]
    rw [if_pos pre,if_pos pre0,if_pos pre,if_neg c1,if_neg c2,if_neg c3,if_pos c4b,if_neg c5]
  ·exact stop i hi
theorem meth.ev:Ev (fun k => class_rules_method.f k p m.f0 m.f1 m.f2 m.f3 m.f4 m.f5 m.f6 m.f7) (methV p m):=meth.ev_l p hl m hm m.f6.length 0 (by omega)
end
section
variable (p:List Cst) (hl:p.length≤1048576) (this super:Int) (fs:List Fld) (ms:List Mth) (hfl:fs.length≤1048576) (hml:ms.length≤1048576) (hf:∀ f ∈ fs,FitF f) (hm:∀ m ∈ ms,FitM m)
include hl hfl hml hf hm
theorem cc.ev_l2:∀ d (i:Nat) (b:Bool),ms.length≤i + d→Ev (fun k => class_Check.l2 k b ms (ms.length:Int) (i:Int) p) (fineV (b && (ms.drop i).all (methV p))):=by
 have _u:=And.intro hfl hf
 have stop:∀ (i:Nat) (b:Bool),¬ i < ms.length→Ev (fun k => class_Check.l2 k b ms (ms.length:Int) (i:Int) p) (fineV (b && (ms.drop i).all (methV p))):=fun i b hi => by
  rw [List.drop_eq_nil_of_le (by omega),List.all_nil,Bool.and_true]
  refine Ev.step (f:=fun _ => some (fineV b)) (fun k => ?_) (Ev.now _)
  simp only [class_Check.l2]
  rw [if_neg (by omega)]
  cases b <;> rfl
 intro d
 induction d with
 | zero => intro i b h;exact stop i b (by omega)
 | succ d ih =>
  intro i b h
  by_cases hi:i < ms.length
  ·obtain ⟨m,he⟩:∃ m,m=rd_T49 ms (i:Int):=⟨_,rfl⟩
   have hd:ms.drop i=m :: ms.drop (i + 1):=by
    rw [drop_getD (z:=z49) i hi,he]
    unfold rd_T49
    rw [Int.toNat_natCast]
   have hmm:m ∈ ms:=List.mem_of_mem_drop (hd ▸ List.mem_cons_self:m ∈ ms.drop i)
   rw [hd,List.all_cons]
   cases b with
   | true =>
    refine Ev.step (f:=fun k => (class_rules_method.f k p m.f0 m.f1 m.f2 m.f3 m.f4 m.f5 m.f6 m.f7).bind fun t179 => class_Check.l2 k t179 ms (ms.length:Int) ((i + 1:Nat):Int) p) (fun k => ?_) (Ev.bind (meth.ev p hl m (hm m hmm)) ?_)
    ·simp only [class_Check.l2,← he]
     rw [if_pos (by omega),if_pos (by omega),if_pos (by omega),if_pos trivial,w64 (by omega) (by omega)]
     rfl
    ·have:=ih (i + 1) (methV p m) (by omega)
     rw [Bool.true_and]
     exact this
   | false =>
    refine Ev.step (f:=fun k => class_Check.l2 k false ms (ms.length:Int) ((i + 1:Nat):Int) p) (fun k => ?_) ?_
    ·simp only [class_Check.l2]
     rw [if_pos (by omega),if_pos (by omega),if_pos (by omega),if_neg (by simp),w64 (by omega) (by omega)]
     rfl
    ·have:=ih (i + 1) false (by omega)
     rw [Bool.false_and] at this ⊢
     exact this
  ·exact stop i b hi
theorem cc.ev_l1:∀ d (i:Nat) (b:Bool),fs.length≤i + d→Ev (fun k => class_Check.l1 k b fs (fs.length:Int) (i:Int) p this super fs ms p) (fineV (b && (fs.drop i).all (fieldV p) && ms.all (methV p))):=by
 have stop:∀ (i:Nat) (b:Bool),¬ i < fs.length→Ev (fun k => class_Check.l1 k b fs (fs.length:Int) (i:Int) p this super fs ms p) (fineV (b && (fs.drop i).all (fieldV p) && ms.all (methV p))):=fun i b hi => by
  rw [List.drop_eq_nil_of_le (by omega),List.all_nil,Bool.and_true]
  have h2:=cc.ev_l2 p hl fs ms hfl hml hf hm ms.length 0 b (by omega)
  exact Ev.step (fun k => by simp only [class_Check.l1];rw [if_neg (by omega)];rfl) h2
 intro d
 induction d with
 | zero => intro i b h;exact stop i b (by omega)
 | succ d ih =>
  intro i b h
  by_cases hi:i < fs.length
  ·obtain ⟨f,he⟩:∃ f,f=rd_T46 fs (i:Int):=⟨_,rfl⟩
   have hd:fs.drop i=f :: fs.drop (i + 1):=by
    rw [drop_getD (z:=z46) i hi,he]
    unfold rd_T46
    rw [Int.toNat_natCast]
   have hff:f ∈ fs:=List.mem_of_mem_drop (hd ▸ List.mem_cons_self:f ∈ fs.drop i)
   rw [hd,List.all_cons]
   have goF:∀ k,class_Check.l1 (k + 1) false fs (fs.length:Int) (i:Int) p this super fs ms p=class_Check.l1 k false fs (fs.length:Int) ((i + 1:Nat):Int) p this super fs ms p:=fun k => by
    simp only [class_Check.l1]
    rw [if_pos (by omega),if_pos (by omega),if_pos (by omega),if_neg (by simp),w64 (by omega) (by omega)]
    rfl
   cases b with
   | true =>
    rw [Bool.true_and]
    by_cases hfl2:flagsV f.f0=true
    ·refine Ev.step (f:=fun k => (class_rules_text.f k p [f.f1,f.f2]).bind fun t176 => class_Check.l1 k t176 fs (fs.length:Int) ((i + 1:Nat):Int) p this super fs ms p) (fun k => ?_) (Ev.bind (rules_text.ev2 p f.f1 f.f2) ?_)
     ·simp only [class_Check.l1,← he,flags.eq _ (hf f hff),Option.bind_some]
      rw [if_pos (by omega),if_pos (by omega),if_pos (by omega),if_pos trivial,if_pos hfl2,w64 (by omega) (by omega)]
      rfl
     ·have:=ih (i + 1) (txt p f.f1 && txt p f.f2) (by omega)
      have e:fieldV p f=(txt p f.f1 && txt p f.f2):=by unfold fieldV;rw [hfl2,Bool.true_and]
      rw [e]
      exact this
    ·refine Ev.step (f:=fun k => class_Check.l1 k false fs (fs.length:Int) ((i + 1:Nat):Int) p this super fs ms p) (fun k => ?_) ?_
     ·simp only [class_Check.l1,← he,flags.eq _ (hf f hff),Option.bind_some]
      rw [if_pos (by omega),if_pos (by omega),if_pos (by omega),if_pos trivial,if_neg hfl2,w64 (by omega) (by omega)]
      rfl
     ·have:=ih (i + 1) false (by omega)
      have e:fieldV p f=false:=by unfold fieldV;rw [Bool.eq_false_iff.2 hfl2,Bool.false_and]
      rw [Bool.false_and] at this
      rw [e,Bool.false_and]
      exact this
   | false =>
    refine Ev.step goF ?_
    have:=ih (i + 1) false (by omega)
    rw [Bool.false_and] at this ⊢
    exact this
  ·exact stop i b hi
theorem cc.ev_l0:∀ d (i:Nat) (x:Int),ms.length≤i + d→Ev (fun k => class_Check.l0 k x ms (ms.length:Int) (i:Int) p this super fs ms) (if longV x (ms.drop i)=true then 2 else fineV ((cl p this && cl p super) && fs.all (fieldV p) && ms.all (methV p))):=by
 have stop:∀ (i:Nat) (x:Int),¬ i < ms.length→Ev (fun k => class_Check.l0 k x ms (ms.length:Int) (i:Int) p this super fs ms) (if longV x (ms.drop i)=true then 2 else fineV ((cl p this && cl p super) && fs.all (fieldV p) && ms.all (methV p))):=fun i x hi => by
  rw [List.drop_eq_nil_of_le (by omega)]
  unfold longV
  rw [List.any_nil,Bool.or_false]
  by_cases hx:x > 64
  ·rw [decide_eq_true hx,if_pos rfl]
   exact Ev.step (f:=fun _ => some 2) (fun k => by simp only [class_Check.l0];rw [if_neg (by omega),if_pos hx]) (Ev.now _)
  ·rw [decide_eq_false hx,if_neg (by simp)]
   refine Ev.step (f:=fun k => (class_rules_class.f k p [this,super]).bind fun t169 => class_Check.l1 k t169 fs (fs.length:Int) ((0:Nat):Int) p this super fs ms p) (fun k => by simp only [class_Check.l0];rw [if_neg (by omega),if_neg hx];rfl) (Ev.bind (rules_class.ev2 p this super) ?_)
   have:=cc.ev_l1 p hl this super fs ms hfl hml hf hm fs.length 0 (cl p this && cl p super) (by omega)
   rw [List.drop_zero] at this
   exact this
 intro d
 induction d with
 | zero => intro i x h;exact stop i x (by omega)
 | succ d ih =>
  intro i x h
  by_cases hi:i < ms.length
  ·obtain ⟨m,he⟩:∃ m,m=rd_T49 ms (i:Int):=⟨_,rfl⟩
   have hd:ms.drop i=m :: ms.drop (i + 1):=by
    rw [drop_getD (z:=z49) i hi,he]
    unfold rd_T49
    rw [Int.toNat_natCast]
   have e:longV x (ms.drop i)=longV (mx x (m.f6.length:Int)) (ms.drop (i + 1)):=by
    unfold longV
    rw [hd,List.any_cons,← Bool.or_assoc]
    congr 1
    rw [Bool.eq_iff_iff]
    simp only [Bool.or_eq_true,decide_eq_true_eq]
    unfold mx
    split <;> omega
   rw [e]
   refine Ev.step (fun k => ?_) (ih (i + 1) (mx x (m.f6.length:Int)) (by omega))
   simp only [class_Check.l0,← he]
   rw [if_pos (by omega),if_pos (by omega),if_pos (by omega),w64 (by omega) (by omega)]
   rfl
  ·exact stop i x hi
theorem class_Check.ev (hp:∀ c ∈ p,FitC c):Ev (fun k => class_Check.f k p this super fs ms) (classCheckV p this super fs ms):=by
 unfold class_Check.f classCheckV
 refine Ev.bind (pool_Check.ev p hp) ?_
 by_cases h:checkV p=0
 ·rw [if_pos h]
  refine Ev.congr (fun k => if_pos h) ?_
  have:=cc.ev_l0 p hl this super fs ms hfl hml hf hm ms.length 0 (mx (fs.length:Int) (ms.length:Int)) (by omega)
  rw [List.drop_zero] at this
  exact this
 ·rw [if_neg h]
  exact Ev.congr (fun k => if_neg h) (Ev.now _)
end
end Go.Proofs.YtmloaijagkebpaaDoor.Px
namespace Go.Proofs.YtmloaijagkebpaaDoor.Px
open Go.RowKit Go.Proofs.YtmloaijagkebpaaDoorW.PrintWords Go.Proofs.YtmloaijagkebpaaDoorW.PrintLast Go.Proofs.YtmloaijagkebpaaDoorW.PrintMore
set_option linter.unusedVariables false
set_option linter.unusedSimpArgs false
def bodyL (c:Cst):List Int :=
 if c.f0=1 then beN 2 ((encV c.f1).1.length:Int)++(encV c.f1).1 else if c.f0=3 then beN 4 c.f2 else if c.f0=5 then beN 8 c.f2 else if c.f0=7 then beN 2 c.f3 else beN 2 c.f3++beN 2 c.f4
def constL (c:Cst):List Int:=beN 1 c.f0++bodyL c
def poolL (p:List Cst):List Int:=beN 2 (p.length:Int)++(p.drop 1).flatMap constL
theorem chkV_all {p:List Cst}:∀ n i,chkV n p i=0→p.length≤i + n→∀ j,i≤j→j < p.length→oneV p (rd_T60 p (j:Int))=0
 | 0,i,_,hl,j,h1,h2 => by omega
 | n + 1,i,h,hl,j,h1,h2 => by
  have hi:i < p.length:=by omega
  unfold chkV at h
  rw [if_pos hi] at h
  by_cases h0:oneV p (rd_T60 p (i:Int))=0
  ·rw [if_pos h0] at h
   by_cases e:j=i
   ·subst e;exact h0
   ·exact chkV_all n (i + 1) h (by omega) j (by omega) h2
  ·rw [if_neg h0] at h
   exact absurd h h0
theorem checkV_ok {p:List Cst} (h:checkV p=0):0 < p.length∧p.length≤1024∧zeroV (rd_T60 p 0)=true∧∀ j:Nat,1≤j→j < p.length→oneV p (rd_T60 p (j:Int))=0:=by
 unfold checkV at h
 by_cases c1:p.length > 1024
 ·rw [if_pos c1] at h;omega
 rw [if_neg c1] at h
 by_cases c2:p.length=0
 ·rw [if_pos c2] at h;omega
 rw [if_neg c2] at h
 by_cases c3:zeroV (rd_T60 p 0)=true
 ·rw [if_pos c3] at h
  exact ⟨by omega,by omega,c3,chkV_all p.length 1 h (by omega)⟩
 ·rw [if_neg c3] at h;omega
structure OkC (c:Cst):Prop where
 tag:c.f0=1 ∨ c.f0=3 ∨ c.f0=5 ∨ c.f0=7 ∨ c.f0=9 ∨ c.f0=10 ∨ c.f0=12
 bare:bareV c=true
 txt:c.f0=1→(encV c.f1).2=0∧(encV c.f1).1.length≤256
 num:c.f0=3→-2147483648≤c.f2∧c.f2≤2147483647
 a:c.f0 ≠ 1→c.f0 ≠ 3→c.f0 ≠ 5→0 < c.f3∧c.f3 < 1024
 b:c.f0 ≠ 1→c.f0 ≠ 3→c.f0 ≠ 5→c.f0 ≠ 7→0 < c.f4∧c.f4 < 1024
theorem oneV_ok {p:List Cst} {c:Cst} (hl:p.length≤1024) (h:oneV p c=0):OkC c:=by
 unfold oneV at h
 by_cases hb:bareV c=true∧leadsV p c=true
 ·rw [if_pos hb] at h
  have ht:¬ (c.f0=1∧¬ ((encV c.f1).2=0∧(encV c.f1).1.length≤256)):=by
   intro hc
   rw [if_pos hc] at h
   omega
  have hL:=hb.2
  unfold leadsV at hL
  have is2:∀ {i t},isV p i t=true→0 < i∧i < 1024:=fun h => by have:=isV_pos h;omega
  refine ⟨?_,hb.1,fun h1 => ?_,fun h3 => ?_,fun h1 h3 h5 => ?_,fun h1 h3 h5 h7 => ?_⟩
  ·by_cases h1:c.f0=1 ∨ c.f0=5
   ·omega
   ·rw [if_neg h1] at hL
    by_cases h3:c.f0=3
    ·omega
    rw [if_neg h3] at hL
    by_cases h7:c.f0=7
    ·omega
    rw [if_neg h7] at hL
    by_cases h12:c.f0=12
    ·omega
    rw [if_neg h12] at hL
    by_cases h9:c.f0=9 ∨ c.f0=10
    ·omega
    rw [if_neg h9] at hL
    cases hL
  ·exact Classical.byContradiction fun hn => ht ⟨h1,hn⟩
  ·rw [if_neg (by omega),if_pos h3] at hL
   exact of_decide_eq_true hL
  ·rw [if_neg (by omega),if_neg h3] at hL
   by_cases h7:c.f0=7
   ·rw [if_pos h7] at hL
    exact is2 hL
   rw [if_neg h7] at hL
   by_cases h12:c.f0=12
   ·rw [if_pos h12,Bool.and_eq_true] at hL
    exact is2 hL.1
   rw [if_neg h12] at hL
   by_cases h9:c.f0=9 ∨ c.f0=10
   ·rw [if_pos h9,Bool.and_eq_true] at hL
    exact is2 hL.1
   rw [if_neg h9] at hL
   cases hL
  ·rw [if_neg (by omega),if_neg h3,if_neg h7] at hL
   by_cases h12:c.f0=12
   ·rw [if_pos h12,Bool.and_eq_true] at hL
    exact is2 hL.2
   rw [if_neg h12] at hL
   by_cases h9:c.f0=9 ∨ c.f0=10
   ·rw [if_pos h9,Bool.and_eq_true] at hL
    exact is2 hL.2
   rw [if_neg h9] at hL
   cases hL
 ·rw [if_neg hb] at h
  omega
theorem bodyL_len {c:Cst} (h:OkC c):(bodyL c).length≤258:=by
 unfold bodyL
 by_cases h1:c.f0=1
 ·rw [if_pos h1,List.length_append,beN_length]
  have:=(h.txt h1).2
  omega
 rw [if_neg h1]
 repeat' split
 all_goals simp only [List.length_append,beN_length]
 all_goals omega
theorem constL_len {c:Cst} (h:OkC c):(constL c).length≤259:=by
 unfold constL
 have:=bodyL_len h
 rw [List.length_append,beN_length]
 omega
theorem i32_top {x:Int} (h0:-2147483648≤x) (h1:x≤2147483647):x / 2 ^ (8 * 4 - 1)=0 ∨ x / 2 ^ (8 * 4 - 1)=-1:=by omega
theorem wU_ok {n:Nat} {x:Int} {bs:List Int} (h:bs.length + n≤1048576∧0≤x∧x < 2 ^ (8 * n)):wU n x bs=some (bs++beN n x):=by unfold wU;rw [if_pos h]
theorem pool_Encode.ev_one {c:Cst} (hf:FitC c) (h:OkC c) (bs:List Int) (hl:bs.length + 259≤1048576):Ev (fun k => pool_Encode.one k c bs) (bs++constL c):=by
 have htag:0≤c.f0∧c.f0 < 2 ^ (8 * 1):=by have:=h.tag;omega
 have e1:wU 1 c.f0 bs=some (bs++beN 1 c.f0):=wU_ok ⟨by omega,htag⟩
 have hl1:(bs++beN 1 c.f0).length=bs.length + 1:=by rw [List.length_append,beN_length]
 unfold pool_Encode.one constL bodyL
 rw [e1]
 simp only [Option.bind_some]
 by_cases h1:c.f0=1
 ·have ht:=h.txt h1
  simp only [if_pos h1]
  refine Ev.bind (text_Encode.ev c.f1 hf.1) ?_
  rw [wU_ok (by rw [hl1];omega)]
  simp only [Option.bind_some]
  unfold wB
  rw [if_pos (by rw [List.length_append,hl1,beN_length];omega)]
  simp only [List.append_assoc]
  exact Ev.now _
 simp only [if_neg h1]
 by_cases h3:c.f0=3
 ·simp only [if_pos h3]
  unfold wI
  rw [if_pos ⟨by rw [hl1];omega,fun _ => i32_top (h.num h3).1 (h.num h3).2⟩]
  simp only [List.append_assoc]
  exact Ev.now _
 simp only [if_neg h3]
 by_cases h5:c.f0=5
 ·simp only [if_pos h5]
  unfold wI
  rw [if_pos ⟨by rw [hl1];omega,fun h => by omega⟩]
  simp only [List.append_assoc]
  exact Ev.now _
 simp only [if_neg h5]
 have ha:=h.a h1 h3 h5
 rw [wU_ok (by rw [hl1];omega)]
 simp only [Option.bind_some]
 by_cases h7:c.f0=7
 ·simp only [if_pos h7,List.append_assoc]
  exact Ev.now _
 simp only [if_neg h7]
 have hb:=h.b h1 h3 h5 h7
 rw [wU_ok (by rw [List.length_append,hl1,beN_length];omega)]
 simp only [List.append_assoc]
 exact Ev.now _
theorem drop_rd {p:List Cst} {i:Nat} (h:i < p.length):p.drop i=rd_T60 p (i:Int) :: p.drop (i + 1):=by
 rw [List.drop_eq_getElem_cons h]
 congr 1
 unfold rd_T60
 rw [Int.toNat_natCast,List.getD_eq_getElem?_getD,List.getElem?_eq_getElem h]
 rfl
theorem pool_Encode.ev_l {p:List Cst} (hp:∀ c ∈ p,FitC c) (hl:p.length≤1024) (h1:∀ j:Nat,1≤j→j < p.length→oneV p (rd_T60 p (j:Int))=0) :
  ∀ n i (bs:List Int),p.length≤i + 1 + n→bs.length≤2 + 259 * i→i≤1024→Ev (fun k => pool_Encode.l0 k p i bs) (bs++(p.drop (i + 1)).flatMap constL):=by
 have stop:∀ i (bs:List Int),¬ i + 1 < p.length→bs.length≤1048576→Ev (fun k => pool_Encode.l0 k p i bs) (bs++(p.drop (i + 1)).flatMap constL):=by
  intro i bs hi hb
  refine Ev.step (f:=fun _ => some bs) (fun k => by simp only [pool_Encode.l0];rw [if_neg hi,if_pos hb]) ?_
  rw [List.drop_eq_nil_of_le (by omega),List.flatMap_nil,List.append_nil]
  exact Ev.now _
 intro n
 induction n with
 | zero => intro i bs h hb hi;exact stop i bs (by omega) (by omega)
 | succ n ih =>
  intro i bs h hb hi
  by_cases hlt:i + 1 < p.length
  ·have ok:=oneV_ok hl (h1 (i + 1) (by omega) hlt)
   have hc:=constL_len ok
   have hfit:FitC (rd_T60 p ((i + 1:Nat):Int)):=fit_rd hp _
   refine Ev.step (f:=fun k => (pool_Encode.one k (rd_T60 p ((i + 1:Nat):Int)) bs).bind fun b => pool_Encode.l0 k p (i + 1) b) (fun k => by simp only [pool_Encode.l0];rw [if_pos hlt];rfl) ?_
   rw [drop_rd hlt,List.flatMap_cons,← List.append_assoc]
   exact Ev.bind (pool_Encode.ev_one hfit ok bs (by omega)) (ih (i + 1) _ (by omega) (by rw [List.length_append];omega) (by omega))
  ·exact stop i bs hlt (by omega)
def encPV (p:List Cst):List Int × Int:=if checkV p=0 then (poolL p,0) else ([],checkV p)
theorem pool_Encode.ev (p:List Cst) (hp:∀ c ∈ p,FitC c):Ev (fun k => pool_Encode.f k p) (encPV p):=by
 unfold pool_Encode.f encPV
 refine Ev.bind (pool_Check.ev p hp) ?_
 by_cases h:checkV p=0
 ·obtain ⟨h0,hl,hz,h1⟩:=checkV_ok h
  simp only [if_pos h]
  refine Ev.congr (fun k => if_pos ⟨h0,hl⟩) ?_
  rw [wU_ok (by simp only [List.length_nil];omega)]
  simp only [Option.bind_some,List.nil_append]
  refine Ev.bind (pool_Encode.ev_l hp hl h1 p.length 0 (beN 2 (p.length:Int)) (by omega) (by rw [beN_length];omega) (by omega)) ?_
  exact Ev.now _
 ·simp only [if_neg h]
  exact Ev.now _
theorem flat_len {l:List Cst}:(∀ c ∈ l,OkC c)→(l.flatMap constL).length≤259 * l.length:=by
 induction l with
 | nil => intro _;simp
 | cons c l ih =>
  intro h
  have h1:=constL_len (h c List.mem_cons_self)
  have h2:=ih (fun d hd => h d (List.mem_cons_of_mem _ hd))
  rw [List.flatMap_cons,List.length_append,List.length_cons]
  omega
theorem ok_drop {p:List Cst} (h:checkV p=0):∀ c ∈ p.drop 1,OkC c:=by
 obtain ⟨h0,hl,hz,h1⟩:=checkV_ok h
 intro c hc
 obtain ⟨j,hj⟩:=List.getElem?_of_mem hc
 rw [List.getElem?_drop] at hj
 have hlt:1 + j < p.length:=(List.getElem?_eq_some_iff.1 hj).1
 have:=oneV_ok hl (h1 (1 + j) (by omega) hlt)
 unfold rd_T60 at this
 rw [Int.toNat_natCast,List.getD_eq_getElem?_getD,hj] at this
 exact this
theorem poolL_len {p:List Cst} (h:checkV p=0):(poolL p).length≤265000:=by
 obtain ⟨h0,hl,hz,h1⟩:=checkV_ok h
 have:=flat_len (ok_drop h)
 unfold poolL
 rw [List.length_append,beN_length]
 rw [List.length_drop] at this
 omega
end Go.Proofs.YtmloaijagkebpaaDoor.Px
