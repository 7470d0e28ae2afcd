-- short. By myprint.py (wip/tools), over the kit's print.
import Derived.Test.YtiolgmklpldpcaaDoorPx0
import Derived.Test.YtiolgmklpldpcaaDoorPx10
namespace Go.Proofs.YtiolgmklpldpcaaDoor.Px
open Go.RowKit Go.Proofs.YtiolgmklpldpcaaDoorW.PrintWords Go.Proofs.YtiolgmklpldpcaaDoorW.PrintLast Go.Proofs.YtiolgmklpldpcaaDoorW.PrintMore
attribute [local go_sem] max2_int min2_int max_two min_two max_three min_three max_four min_four
set_option linter.unusedVariables false
set_option linter.unusedSimpArgs false
/-! ### understudyref05_method: function 19 -/
mutual
def understudyref05_method.j0:Nat→List (S51)→Bool→Int→Int→Int→Int→Int→List Int→List (S62)→List Int→Option (Bool)
 | 0,_,_,_,_,_,_,_,_,_,_ => none
 | k + 1,x0,x49,x238000,x238001,x238002,x238003,x238004,x238005,x238006,x238007 => if x49=true then (some false) else (if (x238005.length:Int) < 1 then (understudyref05_method.j1 k x0 (x238005.length:Int) true x238000 x238001 x238002 x238003 x238004 x238005 x238006 x238007) else (if (x238005.length:Int) > 4096 then (understudyref05_method.j1 k x0 (x238005.length:Int) true x238000 x238001 x238002 x238003 x238004 x238005 x238006 x238007) else (if (x238007.length:Int) > 4096 then (understudyref05_method.j1 k x0 (x238005.length:Int) true x238000 x238001 x238002 x238003 x238004 x238005 x238006 x238007) else ((understudyref05_text.f k x0 (⟨#[67,111,100,101]⟩:ByteArray)).bind fun t242 => (if t242=0 then (understudyref05_method.j1 k x0 (x238005.length:Int) true x238000 x238001 x238002 x238003 x238004 x238005 x238006 x238007) else (if (x238007.length:Int) > 0 then ((understudyref05_text.f k x0 (⟨#[83,116,97,99,107,77,97,112,84,97,98,108,101]⟩:ByteArray)).bind fun t243 => (understudyref05_method.j1 k x0 (x238005.length:Int) (t243==0) x238000 x238001 x238002 x238003 x238004 x238005 x238006 x238007)) else (understudyref05_method.j1 k x0 (x238005.length:Int) false x238000 x238001 x238002 x238003 x238004 x238005 x238006 x238007)))))))
def understudyref05_method.j1:Nat→List (S51)→Int→Bool→Int→Int→Int→Int→Int→List Int→List (S62)→List Int→Option (Bool)
 | 0,_,_,_,_,_,_,_,_,_,_,_ => none
 | k + 1,x0,x5,x80,x238000,x238001,x238002,x238003,x238004,x238005,x238006,x238007 => if x80=true then (some false) else (understudyref05_method.l0 k x0 x5 0 x238000 x238001 x238002 x238003 x238004 x238005 x238006 x238007)
def understudyref05_method.l0:Nat→List (S51)→Int→Int→Int→Int→Int→Int→Int→List Int→List (S62)→List Int→Option (Bool)
 | 0,_,_,_,_,_,_,_,_,_,_,_ => none
 | k + 1,x0,x5,x6,x238000,x238001,x238002,x238003,x238004,x238005,x238006,x238007 => if x6 < (x238006.length:Int) then (if 0≤x6 then (if ((rd_T62 x238006 x6).f0) < 0 then (understudyref05_method.j3 k x0 x5 x6 true x238000 x238001 x238002 x238003 x238004 x238005 x238006 x238007) else (if ((rd_T62 x238006 x6).f0) ≥ ((rd_T62 x238006 x6).f1) then (understudyref05_method.j3 k x0 x5 x6 true x238000 x238001 x238002 x238003 x238004 x238005 x238006 x238007) else (if ((rd_T62 x238006 x6).f1) > x5 then (understudyref05_method.j3 k x0 x5 x6 true x238000 x238001 x238002 x238003 x238004 x238005 x238006 x238007) else (if ((rd_T62 x238006 x6).f2) < 0 then (understudyref05_method.j3 k x0 x5 x6 true x238000 x238001 x238002 x238003 x238004 x238005 x238006 x238007) else (if ((rd_T62 x238006 x6).f2) ≥ x5 then (understudyref05_method.j3 k x0 x5 x6 true x238000 x238001 x238002 x238003 x238004 x238005 x238006 x238007) else (if ((rd_T62 x238006 x6).f3)=0 then (understudyref05_method.j3 k x0 x5 x6 false x238000 x238001 x238002 x238003 x238004 x238005 x238006 x238007) else ((understudyref05_cls.f x0 ((rd_T62 x238006 x6).f3)).bind fun t246 => (understudyref05_method.j3 k x0 x5 x6 (!t246) x238000 x238001 x238002 x238003 x238004 x238005 x238006 x238007)))))))) else (none)) else (some true)
def understudyref05_method.j3:Nat→List (S51)→Int→Int→Bool→Int→Int→Int→Int→Int→List Int→List (S62)→List Int→Option (Bool)
 | 0,_,_,_,_,_,_,_,_,_,_,_,_ => none
 | k + 1,x0,x5,x6,x131,x238000,x238001,x238002,x238003,x238004,x238005,x238006,x238007 => if x131=true then (some false) else (understudyref05_method.l0 k x0 x5 (wrap64 (x6 + 1)) x238000 x238001 x238002 x238003 x238004 x238005 x238006 x238007)
end
def understudyref05_method.f (k:Nat) (l0:List (S51)) (a1_0:Int) (a1_1:Int) (a1_2:Int) (a1_3:Int) (a1_4:Int) (l1_5:List Int) (l1_6:List (S62)) (l1_7:List Int):Option (Bool):=if a1_0=0 then ((understudyref05_utf.f l0 a1_1).bind fun t238 => (if t238=true then ((understudyref05_utf.f l0 a1_2).bind fun t239 => (if t239=true then (if a1_3 < 0 then (understudyref05_method.j0 k l0 true a1_0 a1_1 a1_2 a1_3 a1_4 l1_5 l1_6 l1_7) else (if a1_3 > 64 then (understudyref05_method.j0 k l0 true a1_0 a1_1 a1_2 a1_3 a1_4 l1_5 l1_6 l1_7) else (if a1_4 < 0 then (understudyref05_method.j0 k l0 true a1_0 a1_1 a1_2 a1_3 a1_4 l1_5 l1_6 l1_7) else (understudyref05_method.j0 k l0 (decide (a1_4 > 64)) a1_0 a1_1 a1_2 a1_3 a1_4 l1_5 l1_6 l1_7)))) else (understudyref05_method.j0 k l0 true a1_0 a1_1 a1_2 a1_3 a1_4 l1_5 l1_6 l1_7))) else (understudyref05_method.j0 k l0 true a1_0 a1_1 a1_2 a1_3 a1_4 l1_5 l1_6 l1_7))) else (if a1_0=8 then ((understudyref05_utf.f l0 a1_1).bind fun t240 => (if t240=true then ((understudyref05_utf.f l0 a1_2).bind fun t241 => (if t241=true then (if a1_3 < 0 then (understudyref05_method.j0 k l0 true a1_0 a1_1 a1_2 a1_3 a1_4 l1_5 l1_6 l1_7) else (if a1_3 > 64 then (understudyref05_method.j0 k l0 true a1_0 a1_1 a1_2 a1_3 a1_4 l1_5 l1_6 l1_7) else (if a1_4 < 0 then (understudyref05_method.j0 k l0 true a1_0 a1_1 a1_2 a1_3 a1_4 l1_5 l1_6 l1_7) else (understudyref05_method.j0 k l0 (decide (a1_4 > 64)) a1_0 a1_1 a1_2 a1_3 a1_4 l1_5 l1_6 l1_7)))) else (understudyref05_method.j0 k l0 true a1_0 a1_1 a1_2 a1_3 a1_4 l1_5 l1_6 l1_7))) else (understudyref05_method.j0 k l0 true a1_0 a1_1 a1_2 a1_3 a1_4 l1_5 l1_6 l1_7))) else (understudyref05_method.j0 k l0 true a1_0 a1_1 a1_2 a1_3 a1_4 l1_5 l1_6 l1_7))
theorem understudyref05_method.mono_l:∀ k,(∀ y0 y1 y2 y3 y4 y5 y6 y7 y8 y9,LeO (understudyref05_method.j0 k y0 y1 y2 y3 y4 y5 y6 y7 y8 y9) (understudyref05_method.j0 (k + 1) y0 y1 y2 y3 y4 y5 y6 y7 y8 y9))∧(∀ y0 y1 y2 y3 y4 y5 y6 y7 y8 y9 y10,LeO (understudyref05_method.j1 k y0 y1 y2 y3 y4 y5 y6 y7 y8 y9 y10) (understudyref05_method.j1 (k + 1) y0 y1 y2 y3 y4 y5 y6 y7 y8 y9 y10))∧(∀ y0 y1 y2 y3 y4 y5 y6 y7 y8 y9 y10,LeO (understudyref05_method.l0 k y0 y1 y2 y3 y4 y5 y6 y7 y8 y9 y10) (understudyref05_method.l0 (k + 1) y0 y1 y2 y3 y4 y5 y6 y7 y8 y9 y10))∧(∀ y0 y1 y2 y3 y4 y5 y6 y7 y8 y9 y10 y11,LeO (understudyref05_method.j3 k y0 y1 y2 y3 y4 y5 y6 y7 y8 y9 y10 y11) (understudyref05_method.j3 (k + 1) y0 y1 y2 y3 y4 y5 y6 y7 y8 y9 y10 y11))
 | 0 => ⟨fun _ _ _ _ _ _ _ _ _ _ r h => by simp [understudyref05_method.j0] at h,fun _ _ _ _ _ _ _ _ _ _ _ r h => by simp [understudyref05_method.j1] at h,fun _ _ _ _ _ _ _ _ _ _ _ r h => by simp [understudyref05_method.l0] at h,fun _ _ _ _ _ _ _ _ _ _ _ _ r h => by simp [understudyref05_method.j3] at h⟩
 | k + 1 => by
  obtain ⟨ih0,ih1,ih2,ih3⟩:=understudyref05_method.mono_l k
  refine ⟨?_,?_,?_,?_⟩
  ·intro y0 y1 y2 y3 y4 y5 y6 y7 y8 y9
   unfold understudyref05_method.j0
   repeat' first
   | (with_reducible exact ih0 _ _ _ _ _ _ _ _ _ _)
   | (with_reducible exact ih1 _ _ _ _ _ _ _ _ _ _ _)
   | (with_reducible exact ih2 _ _ _ _ _ _ _ _ _ _ _)
   | (with_reducible exact ih3 _ _ _ _ _ _ _ _ _ _ _ _)
   | (with_reducible exact understudyref05_text.mono _ _ _)
   | (with_reducible exact LeO.refl _)
   | (with_reducible exact LeO.none _)
   | (with_reducible refine LeO.ite ?_ ?_)
   | (with_reducible refine LeO.bind ?_ (fun _ => ?_))
   | exact ih0 _ _ _ _ _ _ _ _ _ _
   | exact ih1 _ _ _ _ _ _ _ _ _ _ _
   | exact ih2 _ _ _ _ _ _ _ _ _ _ _
   | exact ih3 _ _ _ _ _ _ _ _ _ _ _ _
   | exact understudyref05_text.mono _ _ _
   | exact LeO.none _
   | refine LeO.ite ?_ ?_
   | refine LeO.bind ?_ (fun _ => ?_)
  ·intro y0 y1 y2 y3 y4 y5 y6 y7 y8 y9 y10
   unfold understudyref05_method.j1
   repeat' first
   | (with_reducible exact ih0 _ _ _ _ _ _ _ _ _ _)
   | (with_reducible exact ih1 _ _ _ _ _ _ _ _ _ _ _)
   | (with_reducible exact ih2 _ _ _ _ _ _ _ _ _ _ _)
   | (with_reducible exact ih3 _ _ _ _ _ _ _ _ _ _ _ _)
   | (with_reducible exact understudyref05_text.mono _ _ _)
   | (with_reducible exact LeO.refl _)
   | (with_reducible exact LeO.none _)
   | (with_reducible refine LeO.ite ?_ ?_)
   | (with_reducible refine LeO.bind ?_ (fun _ => ?_))
   | exact ih0 _ _ _ _ _ _ _ _ _ _
   | exact ih1 _ _ _ _ _ _ _ _ _ _ _
   | exact ih2 _ _ _ _ _ _ _ _ _ _ _
   | exact ih3 _ _ _ _ _ _ _ _ _ _ _ _
   | exact understudyref05_text.mono _ _ _
   | exact LeO.none _
   | refine LeO.ite ?_ ?_
   | refine LeO.bind ?_ (fun _ => ?_)
  ·intro y0 y1 y2 y3 y4 y5 y6 y7 y8 y9 y10
   unfold understudyref05_method.l0
   repeat' first
   | (with_reducible exact ih0 _ _ _ _ _ _ _ _ _ _)
   | (with_reducible exact ih1 _ _ _ _ _ _ _ _ _ _ _)
   | (with_reducible exact ih2 _ _ _ _ _ _ _ _ _ _ _)
   | (with_reducible exact ih3 _ _ _ _ _ _ _ _ _ _ _ _)
   | (with_reducible exact understudyref05_text.mono _ _ _)
   | (with_reducible exact LeO.refl _)
   | (with_reducible exact LeO.none _)
   | (with_reducible refine LeO.ite ?_ ?_)
   | (with_reducible refine LeO.bind ?_ (fun _ => ?_))
   | exact ih0 _ _ _ _ _ _ _ _ _ _
   | exact ih1 _ _ _ _ _ _ _ _ _ _ _
   | exact ih2 _ _ _ _ _ _ _ _ _ _ _
   | exact ih3 _ _ _ _ _ _ _ _ _ _ _ _
   | exact understudyref05_text.mono _ _ _
   | exact LeO.none _
   | refine LeO.ite ?_ ?_
   | refine LeO.bind ?_ (fun _ => ?_)
  ·intro y0 y1 y2 y3 y4 y5 y6 y7 y8 y9 y10 y11
   unfold understudyref05_method.j3
   repeat' first
   | (with_reducible exact ih0 _ _ _ _ _ _ _ _ _ _)
   | (with_reducible exact ih1 _ _ _ _ _ _ _ _ _ _ _)
   | (with_reducible exact ih2 _ _ _ _ _ _ _ _ _ _ _)
   | (with_reducible exact ih3 _ _ _ _ _ _ _ _ _ _ _ _)
   | (with_reducible exact understudyref05_text.mono _ _ _)
   | (with_reducible exact LeO.refl _)
   | (with_reducible exact LeO.none _)
   | (with_reducible refine LeO.ite ?_ ?_)
   | (with_reducible refine LeO.bind ?_ (fun _ => ?_))
   | exact ih0 _ _ _ _ _ _ _ _ _ _
   | exact ih1 _ _ _ _ _ _ _ _ _ _ _
   | exact ih2 _ _ _ _ _ _ _ _ _ _ _
   | exact ih3 _ _ _ _ _ _ _ _ _ _ _ _
   | exact understudyref05_text.mono _ _ _
   | exact LeO.none _
   | refine LeO.ite ?_ ?_
   | refine LeO.bind ?_ (fun _ => ?_)
theorem understudyref05_method.mono:∀ a0 a1 a2 a3 a4 a5 a6 a7 a8 k,LeO (understudyref05_method.f k a0 a1 a2 a3 a4 a5 a6 a7 a8) (understudyref05_method.f (k + 1) a0 a1 a2 a3 a4 a5 a6 a7 a8):=by
 intro a0 a1 a2 a3 a4 a5 a6 a7 a8 k
 obtain ⟨ih0,ih1,ih2,ih3⟩:=understudyref05_method.mono_l k
 unfold understudyref05_method.f
 repeat' first
   | (with_reducible exact ih0 _ _ _ _ _ _ _ _ _ _)
   | (with_reducible exact ih1 _ _ _ _ _ _ _ _ _ _ _)
   | (with_reducible exact ih2 _ _ _ _ _ _ _ _ _ _ _)
   | (with_reducible exact ih3 _ _ _ _ _ _ _ _ _ _ _ _)
   | (with_reducible exact understudyref05_text.mono _ _ _)
   | (with_reducible exact LeO.refl _)
   | (with_reducible exact LeO.none _)
   | (with_reducible refine LeO.ite ?_ ?_)
   | (with_reducible refine LeO.bind ?_ (fun _ => ?_))
   | exact ih0 _ _ _ _ _ _ _ _ _ _
   | exact ih1 _ _ _ _ _ _ _ _ _ _ _
   | exact ih2 _ _ _ _ _ _ _ _ _ _ _
   | exact ih3 _ _ _ _ _ _ _ _ _ _ _ _
   | exact understudyref05_text.mono _ _ _
   | exact LeO.none _
   | refine LeO.ite ?_ ?_
   | refine LeO.bind ?_ (fun _ => ?_)
set_option maxHeartbeats 80000000 in
set_option maxRecDepth 100000 in
theorem understudyref05_method.calls (k:Nat) (A0:Option Addr) (c0:Nat) (l0:List (S51)) (a1_0:Int) (a1_1:Int) (a1_2:Int) (a1_3:Int) (a1_4:Int) (A1_5:Option Addr) (c1_5:Nat) (l1_5:List Int) (A1_6:Option Addr) (c1_6:Nat) (l1_6:List (S62)) (A1_7:Option Addr) (c1_7:Nat) (l1_7:List Int) (r:Bool) (w:World) (hr0:Kd.C k51 w A0 l0.length l0) (hc0:l0.length≤c0) (hr1_5:Kd.C (Kd.int .u8) w A1_5 l1_5.length l1_5) (hc1_5:l1_5.length≤c1_5) (hr1_6:Kd.C k62 w A1_6 l1_6.length l1_6) (hc1_6:l1_6.length≤c1_6) (hr1_7:Kd.C (Kd.int .u8) w A1_7 l1_7.length l1_7) (hc1_7:l1_7.length≤c1_7) (h:understudyref05_method.f k l0 a1_0 a1_1 a1_2 a1_3 a1_4 l1_5 l1_6 l1_7=some r) :
  Calls Tryd.prog 19 #[.slice A0 l0.length c0,.agg #[.int .i64 a1_0,.int .i64 a1_1,.int .i64 a1_2,.int .i64 a1_3,.int .i64 a1_4,.slice A1_5 l1_5.length c1_5,.slice A1_6 l1_6.length c1_6,.slice A1_7 l1_7.length c1_7]] w fun e w' => e=.returned (.bool r)∧Below w.heap.size w w':=by
 have hu37:=Tryd.underlying37
 have hu62:=Tryd.underlying62
 have HR0:=Aside0.mk hr0
 have HC0:=Aside0.mk hc0
 clear hr0 hc0
 have HR1_5:=Aside0.mk hr1_5
 have HC1_5:=Aside0.mk hc1_5
 clear hr1_5 hc1_5
 have HR1_6:=Aside0.mk hr1_6
 have HC1_6:=Aside0.mk hc1_6
 clear hr1_6 hc1_6
 have HR1_7:=Aside0.mk hr1_7
 have HC1_7:=Aside0.mk hc1_7
 clear hr1_7 hc1_7
 have HB:=Aside0.mk (Below.refl w.heap.size w)
 have H:(if a1_0=0 then ((understudyref05_utf.f l0 a1_1).bind fun t238 => (if t238=true then ((understudyref05_utf.f l0 a1_2).bind fun t239 => (if t239=true then (if a1_3 < 0 then (understudyref05_method.j0 k l0 true a1_0 a1_1 a1_2 a1_3 a1_4 l1_5 l1_6 l1_7) else (if a1_3 > 64 then (understudyref05_method.j0 k l0 true a1_0 a1_1 a1_2 a1_3 a1_4 l1_5 l1_6 l1_7) else (if a1_4 < 0 then (understudyref05_method.j0 k l0 true a1_0 a1_1 a1_2 a1_3 a1_4 l1_5 l1_6 l1_7) else (understudyref05_method.j0 k l0 (decide (a1_4 > 64)) a1_0 a1_1 a1_2 a1_3 a1_4 l1_5 l1_6 l1_7)))) else (understudyref05_method.j0 k l0 true a1_0 a1_1 a1_2 a1_3 a1_4 l1_5 l1_6 l1_7))) else (understudyref05_method.j0 k l0 true a1_0 a1_1 a1_2 a1_3 a1_4 l1_5 l1_6 l1_7))) else (if a1_0=8 then ((understudyref05_utf.f l0 a1_1).bind fun t240 => (if t240=true then ((understudyref05_utf.f l0 a1_2).bind fun t241 => (if t241=true then (if a1_3 < 0 then (understudyref05_method.j0 k l0 true a1_0 a1_1 a1_2 a1_3 a1_4 l1_5 l1_6 l1_7) else (if a1_3 > 64 then (understudyref05_method.j0 k l0 true a1_0 a1_1 a1_2 a1_3 a1_4 l1_5 l1_6 l1_7) else (if a1_4 < 0 then (understudyref05_method.j0 k l0 true a1_0 a1_1 a1_2 a1_3 a1_4 l1_5 l1_6 l1_7) else (understudyref05_method.j0 k l0 (decide (a1_4 > 64)) a1_0 a1_1 a1_2 a1_3 a1_4 l1_5 l1_6 l1_7)))) else (understudyref05_method.j0 k l0 true a1_0 a1_1 a1_2 a1_3 a1_4 l1_5 l1_6 l1_7))) else (understudyref05_method.j0 k l0 true a1_0 a1_1 a1_2 a1_3 a1_4 l1_5 l1_6 l1_7))) else (understudyref05_method.j0 k l0 true a1_0 a1_1 a1_2 a1_3 a1_4 l1_5 l1_6 l1_7)))=some r:=h
 clear h
 have HC3:=Aside0.mk H
 clear H
 go_enter Tryd.func19,Tryd.ntmps19
 go_upto_region 1 with (first|((with_reducible refine gate_dst (N:=3) rfl ?_);(try (refine gate_guard (by rfl) ?_;dsimp only));refine box_event ?hg (N:=3) ?hd (cs:=#[.int .i64 a1_0,.int .i64 a1_1,.int .i64 a1_2,.int .i64 a1_3,.int .i64 a1_4,.slice A1_5 l1_5.length c1_5,.slice A1_6 l1_6.length c1_6,.slice A1_7 l1_7.length c1_7]) (t:=37) ?hr ?_;(case hd => rfl);(case hg => rfl);(case hr => first|(go_simp;done)|(go_simp;rfl));intro gb237 hg w4 hbox hb;have n0_:=Aside0.mk (below_step (by repeat (first|(with_reducible first|exact HB.out|apply below_alloc|apply pw_below_drewN|apply below_drew1)|exact HB.out)) hb);have n1_:=Aside0.mk (hbox);have n2_:=Aside0.mk ((by rw [hg];exact (below_size (by repeat (first|(with_reducible first|exact HB.out|apply below_alloc|apply pw_below_drewN|apply below_drew1)|exact HB.out))):w.heap.size≤gb237));have n3_:=Aside0.mk ((by rw [hg];exact (below_size (by repeat (first|(with_reducible first|exact HB.out|apply below_alloc|apply pw_below_drewN|apply below_drew1)|exact HB.out))):w.heap.size≤gb237));clear HB;have HB:=n0_;have BK237:=n1_;have GW237:=n2_;have GE237:=n3_;clear n0_ n1_ n2_ n3_;clear hb hbox hg))
 (try simp only [Act.put,List.setIfInBounds_toArray,List.set_cons_zero,List.set_cons_succ])
 go_cut [49] (fun v49 wc => ∃ (kq:Nat) (x49_2:Bool),v49=.bool x49_2∧Aside0 (understudyref05_method.j0 kq l0 x49_2 a1_0 a1_1 a1_2 a1_3 a1_4 l1_5 l1_6 l1_7=some r)∧Aside0 (kq≤k)∧Aside0 (wc.heap[gb237]?=some (.cells #[.int .i64 a1_0,.int .i64 a1_1,.int .i64 a1_2,.int .i64 a1_3,.int .i64 a1_4,(.slice A1_5 l1_5.length c1_5),(.slice A1_6 l1_6.length c1_6),(.slice A1_7 l1_7.length c1_7)] 37 (0,0)))∧Aside0 (Below w.heap.size w wc))
 case first =>
  have H:=HC3.out
  clear HC3
  by_cases c5:a1_0=0
  ·rw [if_pos c5] at H
   have c5b0:(a1_0==0)=true:=beq_iff_eq.mpr c5
   have c5b1:(a1_0 != 0)=false:=bne_eq_false_iff_eq.mpr c5
   clear c5
   (first|rw [c5b0]|(simp only [i64_w,i32_w];rw [c5b0])|skip)
   replace H:=Option.bind_eq_some_iff.mp H
   obtain ⟨t238,A60,H⟩:=H
   replace H:(if t238=true then ((understudyref05_utf.f l0 a1_2).bind fun t239 => (if t239=true then (if a1_3 < 0 then (understudyref05_method.j0 k l0 true a1_0 a1_1 a1_2 a1_3 a1_4 l1_5 l1_6 l1_7) else (if a1_3 > 64 then (understudyref05_method.j0 k l0 true a1_0 a1_1 a1_2 a1_3 a1_4 l1_5 l1_6 l1_7) else (if a1_4 < 0 then (understudyref05_method.j0 k l0 true a1_0 a1_1 a1_2 a1_3 a1_4 l1_5 l1_6 l1_7) else (understudyref05_method.j0 k l0 (decide (a1_4 > 64)) a1_0 a1_1 a1_2 a1_3 a1_4 l1_5 l1_6 l1_7)))) else (understudyref05_method.j0 k l0 true a1_0 a1_1 a1_2 a1_3 a1_4 l1_5 l1_6 l1_7))) else (understudyref05_method.j0 k l0 true a1_0 a1_1 a1_2 a1_3 a1_4 l1_5 l1_6 l1_7))=some r:=H
   have A6:=Aside0.mk A60
   clear A60
   by_cases c7:t238=true
   ·subst c7
    have H1:((understudyref05_utf.f l0 a1_2).bind fun t239 => (if t239=true then (if a1_3 < 0 then (understudyref05_method.j0 k l0 true a1_0 a1_1 a1_2 a1_3 a1_4 l1_5 l1_6 l1_7) else (if a1_3 > 64 then (understudyref05_method.j0 k l0 true a1_0 a1_1 a1_2 a1_3 a1_4 l1_5 l1_6 l1_7) else (if a1_4 < 0 then (understudyref05_method.j0 k l0 true a1_0 a1_1 a1_2 a1_3 a1_4 l1_5 l1_6 l1_7) else (understudyref05_method.j0 k l0 (decide (a1_4 > 64)) a1_0 a1_1 a1_2 a1_3 a1_4 l1_5 l1_6 l1_7)))) else (understudyref05_method.j0 k l0 true a1_0 a1_1 a1_2 a1_3 a1_4 l1_5 l1_6 l1_7)))=some r:=by rw [if_pos rfl] at H;exact H
    clear H
    have H:=H1
    clear H1
    replace H:=Option.bind_eq_some_iff.mp H
    obtain ⟨t239,A80,H⟩:=H
    replace H:(if t239=true then (if a1_3 < 0 then (understudyref05_method.j0 k l0 true a1_0 a1_1 a1_2 a1_3 a1_4 l1_5 l1_6 l1_7) else (if a1_3 > 64 then (understudyref05_method.j0 k l0 true a1_0 a1_1 a1_2 a1_3 a1_4 l1_5 l1_6 l1_7) else (if a1_4 < 0 then (understudyref05_method.j0 k l0 true a1_0 a1_1 a1_2 a1_3 a1_4 l1_5 l1_6 l1_7) else (understudyref05_method.j0 k l0 (decide (a1_4 > 64)) a1_0 a1_1 a1_2 a1_3 a1_4 l1_5 l1_6 l1_7)))) else (understudyref05_method.j0 k l0 true a1_0 a1_1 a1_2 a1_3 a1_4 l1_5 l1_6 l1_7))=some r:=H
    have A8:=Aside0.mk A80
    clear A80
    by_cases c9:t239=true
    ·subst c9
     have H1:(if a1_3 < 0 then (understudyref05_method.j0 k l0 true a1_0 a1_1 a1_2 a1_3 a1_4 l1_5 l1_6 l1_7) else (if a1_3 > 64 then (understudyref05_method.j0 k l0 true a1_0 a1_1 a1_2 a1_3 a1_4 l1_5 l1_6 l1_7) else (if a1_4 < 0 then (understudyref05_method.j0 k l0 true a1_0 a1_1 a1_2 a1_3 a1_4 l1_5 l1_6 l1_7) else (understudyref05_method.j0 k l0 (decide (a1_4 > 64)) a1_0 a1_1 a1_2 a1_3 a1_4 l1_5 l1_6 l1_7))))=some r:=by rw [if_pos rfl] at H;exact H
     clear H
     have H:=H1
     clear H1
     by_cases c10:a1_3 < 0
     ·rw [if_pos c10] at H
      have c10b0:decide (a1_3 < 0)=true:=decide_eq_true c10
      clear c10
      have H':=Aside0.mk H
      clear H
      have hcz11_0:w4.cell? ⟨gb237,0,none⟩=some (.int .i64 a1_0):=(blk_cell BK237.out 0).trans rfl
      have hcz11_1:w4.cell? ⟨gb237,1,none⟩=some (.int .i64 a1_1):=(blk_cell BK237.out 1).trans rfl
      have hcz11_2:w4.cell? ⟨gb237,2,none⟩=some (.int .i64 a1_2):=(blk_cell BK237.out 2).trans rfl
      have hcz11_3:w4.cell? ⟨gb237,3,none⟩=some (.int .i64 a1_3):=(blk_cell BK237.out 3).trans rfl
      have hcz11_4:w4.cell? ⟨gb237,4,none⟩=some (.int .i64 a1_4):=(blk_cell BK237.out 4).trans rfl
      have hcz11_5:w4.cell? ⟨gb237,5,none⟩=some (.slice A1_5 l1_5.length c1_5):=(blk_cell BK237.out 5).trans rfl
      have hcz11_6:w4.cell? ⟨gb237,6,none⟩=some (.slice A1_6 l1_6.length c1_6):=(blk_cell BK237.out 6).trans rfl
      have hcz11_7:w4.cell? ⟨gb237,7,none⟩=some (.slice A1_7 l1_7.length c1_7):=(blk_cell BK237.out 7).trans rfl
      have hfz11_0:=blk_frozen BK237.out 0
      have hfz11_1:=blk_frozen BK237.out 1
      have hfz11_2:=blk_frozen BK237.out 2
      have hfz11_3:=blk_frozen BK237.out 3
      have hfz11_4:=blk_frozen BK237.out 4
      have hfz11_5:=blk_frozen BK237.out 5
      have hfz11_6:=blk_frozen BK237.out 6
      have hfz11_7:=blk_frozen BK237.out 7
      go_wp2_with (first|(go_at_call 18;(with_reducible refine (understudyref05_utf.calls _ _ l0 a1_1 true _ ?side1 ?side2 A6.out).mono ?_);(case side1 => repeat (first|exact (Kd.C_below HR0.out HB.out)|(with_reducible refine Kd.C_alloc ?_ _)|(with_reducible refine Kd.C_drewN ?_ _)|(with_reducible refine Kd.C_drew ?_)));(case side2 => exact HC0.out);rintro e w' ⟨rfl,⟨nd,rfl⟩⟩)|(go_at_call 18;(with_reducible refine (understudyref05_utf.calls _ _ l0 a1_2 true _ ?side1 ?side2 A8.out).mono ?_);(case side1 => repeat (first|exact (Kd.C_below HR0.out (by repeat (first|(with_reducible first|exact HB.out|apply below_alloc|apply pw_below_drewN|apply below_drew1|refine below_set ?_ GE237.out)|exact HB.out)))|(with_reducible refine Kd.C_alloc ?_ _)|(with_reducible refine Kd.C_drewN ?_ _)|(with_reducible refine Kd.C_drew ?_)));(case side2 => exact HC0.out);rintro e w' ⟨rfl,⟨nd,rfl⟩⟩))
      go_meet
      case rel => exact ⟨_,(true),(by first|rfl|(simp;done)|(simp [*];done)),H',⟨by first|omega|exact Nat.le_refl _⟩,⟨by (with_reducible repeat (first|refine blk_drewN ?_ _|refine blk_drew ?_|refine blk_alloc ?_ _));exact BK237.out⟩,⟨by repeat (first|(with_reducible first|exact HB.out|apply below_alloc|apply pw_below_drewN|apply below_drew1|refine below_set ?_ GE237.out)|exact HB.out)⟩⟩
     ·rw [if_neg c10] at H
      have c10b0:decide (a1_3 < 0)=false:=decide_eq_false c10
      clear c10
      by_cases c12:a1_3 > 64
      ·rw [if_pos c12] at H
       have c12b0:decide (64 < a1_3)=true:=decide_eq_true c12
       clear c12
       have H':=Aside0.mk H
       clear H
       have hcz13_0:w4.cell? ⟨gb237,0,none⟩=some (.int .i64 a1_0):=(blk_cell BK237.out 0).trans rfl
       have hcz13_1:w4.cell? ⟨gb237,1,none⟩=some (.int .i64 a1_1):=(blk_cell BK237.out 1).trans rfl
       have hcz13_2:w4.cell? ⟨gb237,2,none⟩=some (.int .i64 a1_2):=(blk_cell BK237.out 2).trans rfl
       have hcz13_3:w4.cell? ⟨gb237,3,none⟩=some (.int .i64 a1_3):=(blk_cell BK237.out 3).trans rfl
       have hcz13_4:w4.cell? ⟨gb237,4,none⟩=some (.int .i64 a1_4):=(blk_cell BK237.out 4).trans rfl
       have hcz13_5:w4.cell? ⟨gb237,5,none⟩=some (.slice A1_5 l1_5.length c1_5):=(blk_cell BK237.out 5).trans rfl
       have hcz13_6:w4.cell? ⟨gb237,6,none⟩=some (.slice A1_6 l1_6.length c1_6):=(blk_cell BK237.out 6).trans rfl
       have hcz13_7:w4.cell? ⟨gb237,7,none⟩=some (.slice A1_7 l1_7.length c1_7):=(blk_cell BK237.out 7).trans rfl
       have hfz13_0:=blk_frozen BK237.out 0
       have hfz13_1:=blk_frozen BK237.out 1
       have hfz13_2:=blk_frozen BK237.out 2
       have hfz13_3:=blk_frozen BK237.out 3
       have hfz13_4:=blk_frozen BK237.out 4
       have hfz13_5:=blk_frozen BK237.out 5
       have hfz13_6:=blk_frozen BK237.out 6
       have hfz13_7:=blk_frozen BK237.out 7
       go_wp2_with (first|(go_at_call 18;(with_reducible refine (understudyref05_utf.calls _ _ l0 a1_1 true _ ?side1 ?side2 A6.out).mono ?_);(case side1 => repeat (first|exact (Kd.C_below HR0.out HB.out)|(with_reducible refine Kd.C_alloc ?_ _)|(with_reducible refine Kd.C_drewN ?_ _)|(with_reducible refine Kd.C_drew ?_)));(case side2 => exact HC0.out);rintro e w' ⟨rfl,⟨nd,rfl⟩⟩)|(go_at_call 18;(with_reducible refine (understudyref05_utf.calls _ _ l0 a1_2 true _ ?side1 ?side2 A8.out).mono ?_);(case side1 => repeat (first|exact (Kd.C_below HR0.out (by repeat (first|(with_reducible first|exact HB.out|apply below_alloc|apply pw_below_drewN|apply below_drew1|refine below_set ?_ GE237.out)|exact HB.out)))|(with_reducible refine Kd.C_alloc ?_ _)|(with_reducible refine Kd.C_drewN ?_ _)|(with_reducible refine Kd.C_drew ?_)));(case side2 => exact HC0.out);rintro e w' ⟨rfl,⟨nd,rfl⟩⟩))
       go_meet
       case rel => exact ⟨_,(true),(by first|rfl|(simp;done)|(simp [*];done)),H',⟨by first|omega|exact Nat.le_refl _⟩,⟨by (with_reducible repeat (first|refine blk_drewN ?_ _|refine blk_drew ?_|refine blk_alloc ?_ _));exact BK237.out⟩,⟨by repeat (first|(with_reducible first|exact HB.out|apply below_alloc|apply pw_below_drewN|apply below_drew1|refine below_set ?_ GE237.out)|exact HB.out)⟩⟩
      ·rw [if_neg c12] at H
       have c12b0:decide (64 < a1_3)=false:=decide_eq_false c12
       clear c12
       by_cases c14:a1_4 < 0
       ·rw [if_pos c14] at H
        have c14b0:decide (a1_4 < 0)=true:=decide_eq_true c14
        clear c14
        have H':=Aside0.mk H
        clear H
        have hcz15_0:w4.cell? ⟨gb237,0,none⟩=some (.int .i64 a1_0):=(blk_cell BK237.out 0).trans rfl
        have hcz15_1:w4.cell? ⟨gb237,1,none⟩=some (.int .i64 a1_1):=(blk_cell BK237.out 1).trans rfl
        have hcz15_2:w4.cell? ⟨gb237,2,none⟩=some (.int .i64 a1_2):=(blk_cell BK237.out 2).trans rfl
        have hcz15_3:w4.cell? ⟨gb237,3,none⟩=some (.int .i64 a1_3):=(blk_cell BK237.out 3).trans rfl
        have hcz15_4:w4.cell? ⟨gb237,4,none⟩=some (.int .i64 a1_4):=(blk_cell BK237.out 4).trans rfl
        have hcz15_5:w4.cell? ⟨gb237,5,none⟩=some (.slice A1_5 l1_5.length c1_5):=(blk_cell BK237.out 5).trans rfl
        have hcz15_6:w4.cell? ⟨gb237,6,none⟩=some (.slice A1_6 l1_6.length c1_6):=(blk_cell BK237.out 6).trans rfl
        have hcz15_7:w4.cell? ⟨gb237,7,none⟩=some (.slice A1_7 l1_7.length c1_7):=(blk_cell BK237.out 7).trans rfl
        have hfz15_0:=blk_frozen BK237.out 0
        have hfz15_1:=blk_frozen BK237.out 1
        have hfz15_2:=blk_frozen BK237.out 2
        have hfz15_3:=blk_frozen BK237.out 3
        have hfz15_4:=blk_frozen BK237.out 4
        have hfz15_5:=blk_frozen BK237.out 5
        have hfz15_6:=blk_frozen BK237.out 6
        have hfz15_7:=blk_frozen BK237.out 7
        go_wp2_with (first|(go_at_call 18;(with_reducible refine (understudyref05_utf.calls _ _ l0 a1_1 true _ ?side1 ?side2 A6.out).mono ?_);(case side1 => repeat (first|exact (Kd.C_below HR0.out HB.out)|(with_reducible refine Kd.C_alloc ?_ _)|(with_reducible refine Kd.C_drewN ?_ _)|(with_reducible refine Kd.C_drew ?_)));(case side2 => exact HC0.out);rintro e w' ⟨rfl,⟨nd,rfl⟩⟩)|(go_at_call 18;(with_reducible refine (understudyref05_utf.calls _ _ l0 a1_2 true _ ?side1 ?side2 A8.out).mono ?_);(case side1 => repeat (first|exact (Kd.C_below HR0.out (by repeat (first|(with_reducible first|exact HB.out|apply below_alloc|apply pw_below_drewN|apply below_drew1|refine below_set ?_ GE237.out)|exact HB.out)))|(with_reducible refine Kd.C_alloc ?_ _)|(with_reducible refine Kd.C_drewN ?_ _)|(with_reducible refine Kd.C_drew ?_)));(case side2 => exact HC0.out);rintro e w' ⟨rfl,⟨nd,rfl⟩⟩))
        go_meet
        case rel => exact ⟨_,(true),(by first|rfl|(simp;done)|(simp [*];done)),H',⟨by first|omega|exact Nat.le_refl _⟩,⟨by (with_reducible repeat (first|refine blk_drewN ?_ _|refine blk_drew ?_|refine blk_alloc ?_ _));exact BK237.out⟩,⟨by repeat (first|(with_reducible first|exact HB.out|apply below_alloc|apply pw_below_drewN|apply below_drew1|refine below_set ?_ GE237.out)|exact HB.out)⟩⟩
       ·rw [if_neg c14] at H
        have c14b0:decide (a1_4 < 0)=false:=decide_eq_false c14
        clear c14
        have H':=Aside0.mk H
        clear H
        have hcz16_0:w4.cell? ⟨gb237,0,none⟩=some (.int .i64 a1_0):=(blk_cell BK237.out 0).trans rfl
        have hcz16_1:w4.cell? ⟨gb237,1,none⟩=some (.int .i64 a1_1):=(blk_cell BK237.out 1).trans rfl
        have hcz16_2:w4.cell? ⟨gb237,2,none⟩=some (.int .i64 a1_2):=(blk_cell BK237.out 2).trans rfl
        have hcz16_3:w4.cell? ⟨gb237,3,none⟩=some (.int .i64 a1_3):=(blk_cell BK237.out 3).trans rfl
        have hcz16_4:w4.cell? ⟨gb237,4,none⟩=some (.int .i64 a1_4):=(blk_cell BK237.out 4).trans rfl
        have hcz16_5:w4.cell? ⟨gb237,5,none⟩=some (.slice A1_5 l1_5.length c1_5):=(blk_cell BK237.out 5).trans rfl
        have hcz16_6:w4.cell? ⟨gb237,6,none⟩=some (.slice A1_6 l1_6.length c1_6):=(blk_cell BK237.out 6).trans rfl
        have hcz16_7:w4.cell? ⟨gb237,7,none⟩=some (.slice A1_7 l1_7.length c1_7):=(blk_cell BK237.out 7).trans rfl
        have hfz16_0:=blk_frozen BK237.out 0
        have hfz16_1:=blk_frozen BK237.out 1
        have hfz16_2:=blk_frozen BK237.out 2
        have hfz16_3:=blk_frozen BK237.out 3
        have hfz16_4:=blk_frozen BK237.out 4
        have hfz16_5:=blk_frozen BK237.out 5
        have hfz16_6:=blk_frozen BK237.out 6
        have hfz16_7:=blk_frozen BK237.out 7
        go_wp2_with (first|(go_at_call 18;(with_reducible refine (understudyref05_utf.calls _ _ l0 a1_1 true _ ?side1 ?side2 A6.out).mono ?_);(case side1 => repeat (first|exact (Kd.C_below HR0.out HB.out)|(with_reducible refine Kd.C_alloc ?_ _)|(with_reducible refine Kd.C_drewN ?_ _)|(with_reducible refine Kd.C_drew ?_)));(case side2 => exact HC0.out);rintro e w' ⟨rfl,⟨nd,rfl⟩⟩)|(go_at_call 18;(with_reducible refine (understudyref05_utf.calls _ _ l0 a1_2 true _ ?side1 ?side2 A8.out).mono ?_);(case side1 => repeat (first|exact (Kd.C_below HR0.out (by repeat (first|(with_reducible first|exact HB.out|apply below_alloc|apply pw_below_drewN|apply below_drew1|refine below_set ?_ GE237.out)|exact HB.out)))|(with_reducible refine Kd.C_alloc ?_ _)|(with_reducible refine Kd.C_drewN ?_ _)|(with_reducible refine Kd.C_drew ?_)));(case side2 => exact HC0.out);rintro e w' ⟨rfl,⟨nd,rfl⟩⟩))
        go_meet
        case rel => exact ⟨_,(decide (a1_4 > 64)),(by first|rfl|(simp;done)|(simp [*];done)),H',⟨by first|omega|exact Nat.le_refl _⟩,⟨by (with_reducible repeat (first|refine blk_drewN ?_ _|refine blk_drew ?_|refine blk_alloc ?_ _));exact BK237.out⟩,⟨by repeat (first|(with_reducible first|exact HB.out|apply below_alloc|apply pw_below_drewN|apply below_drew1|refine below_set ?_ GE237.out)|exact HB.out)⟩⟩
    ·replace c9:=Bool.eq_false_iff.mpr c9
     subst c9
     have H1:(understudyref05_method.j0 k l0 true a1_0 a1_1 a1_2 a1_3 a1_4 l1_5 l1_6 l1_7)=some r:=by rw [if_neg (show ¬ (false=true) by decide)] at H;exact H
     clear H
     have H:=H1
     clear H1
     have H':=Aside0.mk H
     clear H
     have hcz17_0:w4.cell? ⟨gb237,0,none⟩=some (.int .i64 a1_0):=(blk_cell BK237.out 0).trans rfl
     have hcz17_1:w4.cell? ⟨gb237,1,none⟩=some (.int .i64 a1_1):=(blk_cell BK237.out 1).trans rfl
     have hcz17_2:w4.cell? ⟨gb237,2,none⟩=some (.int .i64 a1_2):=(blk_cell BK237.out 2).trans rfl
     have hcz17_3:w4.cell? ⟨gb237,3,none⟩=some (.int .i64 a1_3):=(blk_cell BK237.out 3).trans rfl
     have hcz17_4:w4.cell? ⟨gb237,4,none⟩=some (.int .i64 a1_4):=(blk_cell BK237.out 4).trans rfl
     have hcz17_5:w4.cell? ⟨gb237,5,none⟩=some (.slice A1_5 l1_5.length c1_5):=(blk_cell BK237.out 5).trans rfl
     have hcz17_6:w4.cell? ⟨gb237,6,none⟩=some (.slice A1_6 l1_6.length c1_6):=(blk_cell BK237.out 6).trans rfl
     have hcz17_7:w4.cell? ⟨gb237,7,none⟩=some (.slice A1_7 l1_7.length c1_7):=(blk_cell BK237.out 7).trans rfl
     have hfz17_0:=blk_frozen BK237.out 0
     have hfz17_1:=blk_frozen BK237.out 1
     have hfz17_2:=blk_frozen BK237.out 2
     have hfz17_3:=blk_frozen BK237.out 3
     have hfz17_4:=blk_frozen BK237.out 4
     have hfz17_5:=blk_frozen BK237.out 5
     have hfz17_6:=blk_frozen BK237.out 6
     have hfz17_7:=blk_frozen BK237.out 7
     go_wp2_with (first|(go_at_call 18;(with_reducible refine (understudyref05_utf.calls _ _ l0 a1_1 true _ ?side1 ?side2 A6.out).mono ?_);(case side1 => repeat (first|exact (Kd.C_below HR0.out HB.out)|(with_reducible refine Kd.C_alloc ?_ _)|(with_reducible refine Kd.C_drewN ?_ _)|(with_reducible refine Kd.C_drew ?_)));(case side2 => exact HC0.out);rintro e w' ⟨rfl,⟨nd,rfl⟩⟩)|(go_at_call 18;(with_reducible refine (understudyref05_utf.calls _ _ l0 a1_2 false _ ?side1 ?side2 A8.out).mono ?_);(case side1 => repeat (first|exact (Kd.C_below HR0.out (by repeat (first|(with_reducible first|exact HB.out|apply below_alloc|apply pw_below_drewN|apply below_drew1|refine below_set ?_ GE237.out)|exact HB.out)))|(with_reducible refine Kd.C_alloc ?_ _)|(with_reducible refine Kd.C_drewN ?_ _)|(with_reducible refine Kd.C_drew ?_)));(case side2 => exact HC0.out);rintro e w' ⟨rfl,⟨nd,rfl⟩⟩))
     go_meet
     case rel => exact ⟨_,(true),(by first|rfl|(simp;done)|(simp [*];done)),H',⟨by first|omega|exact Nat.le_refl _⟩,⟨by (with_reducible repeat (first|refine blk_drewN ?_ _|refine blk_drew ?_|refine blk_alloc ?_ _));exact BK237.out⟩,⟨by repeat (first|(with_reducible first|exact HB.out|apply below_alloc|apply pw_below_drewN|apply below_drew1|refine below_set ?_ GE237.out)|exact HB.out)⟩⟩
   ·replace c7:=Bool.eq_false_iff.mpr c7
    subst c7
    have H1:(understudyref05_method.j0 k l0 true a1_0 a1_1 a1_2 a1_3 a1_4 l1_5 l1_6 l1_7)=some r:=by rw [if_neg (show ¬ (false=true) by decide)] at H;exact H
    clear H
    have H:=H1
    clear H1
    have H':=Aside0.mk H
    clear H
    have hcz18_0:w4.cell? ⟨gb237,0,none⟩=some (.int .i64 a1_0):=(blk_cell BK237.out 0).trans rfl
    have hcz18_1:w4.cell? ⟨gb237,1,none⟩=some (.int .i64 a1_1):=(blk_cell BK237.out 1).trans rfl
    have hcz18_2:w4.cell? ⟨gb237,2,none⟩=some (.int .i64 a1_2):=(blk_cell BK237.out 2).trans rfl
    have hcz18_3:w4.cell? ⟨gb237,3,none⟩=some (.int .i64 a1_3):=(blk_cell BK237.out 3).trans rfl
    have hcz18_4:w4.cell? ⟨gb237,4,none⟩=some (.int .i64 a1_4):=(blk_cell BK237.out 4).trans rfl
    have hcz18_5:w4.cell? ⟨gb237,5,none⟩=some (.slice A1_5 l1_5.length c1_5):=(blk_cell BK237.out 5).trans rfl
    have hcz18_6:w4.cell? ⟨gb237,6,none⟩=some (.slice A1_6 l1_6.length c1_6):=(blk_cell BK237.out 6).trans rfl
    have hcz18_7:w4.cell? ⟨gb237,7,none⟩=some (.slice A1_7 l1_7.length c1_7):=(blk_cell BK237.out 7).trans rfl
    have hfz18_0:=blk_frozen BK237.out 0
    have hfz18_1:=blk_frozen BK237.out 1
    have hfz18_2:=blk_frozen BK237.out 2
    have hfz18_3:=blk_frozen BK237.out 3
    have hfz18_4:=blk_frozen BK237.out 4
    have hfz18_5:=blk_frozen BK237.out 5
    have hfz18_6:=blk_frozen BK237.out 6
    have hfz18_7:=blk_frozen BK237.out 7
    go_wp2_with (first|(go_at_call 18;(with_reducible refine (understudyref05_utf.calls _ _ l0 a1_1 false _ ?side1 ?side2 A6.out).mono ?_);(case side1 => repeat (first|exact (Kd.C_below HR0.out HB.out)|(with_reducible refine Kd.C_alloc ?_ _)|(with_reducible refine Kd.C_drewN ?_ _)|(with_reducible refine Kd.C_drew ?_)));(case side2 => exact HC0.out);rintro e w' ⟨rfl,⟨nd,rfl⟩⟩))
    go_meet
    case rel => exact ⟨_,(true),(by first|rfl|(simp;done)|(simp [*];done)),H',⟨by first|omega|exact Nat.le_refl _⟩,⟨by (with_reducible repeat (first|refine blk_drewN ?_ _|refine blk_drew ?_|refine blk_alloc ?_ _));exact BK237.out⟩,⟨by repeat (first|(with_reducible first|exact HB.out|apply below_alloc|apply pw_below_drewN|apply below_drew1|refine below_set ?_ GE237.out)|exact HB.out)⟩⟩
  ·rw [if_neg c5] at H
   have c5b0:(a1_0==0)=false:=beq_eq_false_iff_ne.mpr c5
   have c5b1:(a1_0 != 0)=true:=bne_iff_ne.mpr c5
   (first|rw [c5b0]|(simp only [i64_w,i32_w];rw [c5b0])|skip)
   by_cases c19:a1_0=8
   ·rw [if_pos c19] at H
    have c19b0:(a1_0==8)=true:=beq_iff_eq.mpr c19
    have c19b1:(a1_0 != 8)=false:=bne_eq_false_iff_eq.mpr c19
    clear c19
    replace H:=Option.bind_eq_some_iff.mp H
    obtain ⟨t240,A200,H⟩:=H
    replace H:(if t240=true then ((understudyref05_utf.f l0 a1_2).bind fun t241 => (if t241=true then (if a1_3 < 0 then (understudyref05_method.j0 k l0 true a1_0 a1_1 a1_2 a1_3 a1_4 l1_5 l1_6 l1_7) else (if a1_3 > 64 then (understudyref05_method.j0 k l0 true a1_0 a1_1 a1_2 a1_3 a1_4 l1_5 l1_6 l1_7) else (if a1_4 < 0 then (understudyref05_method.j0 k l0 true a1_0 a1_1 a1_2 a1_3 a1_4 l1_5 l1_6 l1_7) else (understudyref05_method.j0 k l0 (decide (a1_4 > 64)) a1_0 a1_1 a1_2 a1_3 a1_4 l1_5 l1_6 l1_7)))) else (understudyref05_method.j0 k l0 true a1_0 a1_1 a1_2 a1_3 a1_4 l1_5 l1_6 l1_7))) else (understudyref05_method.j0 k l0 true a1_0 a1_1 a1_2 a1_3 a1_4 l1_5 l1_6 l1_7))=some r:=H
    have A20:=Aside0.mk A200
    clear A200
    by_cases c21:t240=true
    ·subst c21
     have H1:((understudyref05_utf.f l0 a1_2).bind fun t241 => (if t241=true then (if a1_3 < 0 then (understudyref05_method.j0 k l0 true a1_0 a1_1 a1_2 a1_3 a1_4 l1_5 l1_6 l1_7) else (if a1_3 > 64 then (understudyref05_method.j0 k l0 true a1_0 a1_1 a1_2 a1_3 a1_4 l1_5 l1_6 l1_7) else (if a1_4 < 0 then (understudyref05_method.j0 k l0 true a1_0 a1_1 a1_2 a1_3 a1_4 l1_5 l1_6 l1_7) else (understudyref05_method.j0 k l0 (decide (a1_4 > 64)) a1_0 a1_1 a1_2 a1_3 a1_4 l1_5 l1_6 l1_7)))) else (understudyref05_method.j0 k l0 true a1_0 a1_1 a1_2 a1_3 a1_4 l1_5 l1_6 l1_7)))=some r:=by rw [if_pos rfl] at H;exact H
     clear H
     have H:=H1
     clear H1
     replace H:=Option.bind_eq_some_iff.mp H
     obtain ⟨t241,A220,H⟩:=H
     replace H:(if t241=true then (if a1_3 < 0 then (understudyref05_method.j0 k l0 true a1_0 a1_1 a1_2 a1_3 a1_4 l1_5 l1_6 l1_7) else (if a1_3 > 64 then (understudyref05_method.j0 k l0 true a1_0 a1_1 a1_2 a1_3 a1_4 l1_5 l1_6 l1_7) else (if a1_4 < 0 then (understudyref05_method.j0 k l0 true a1_0 a1_1 a1_2 a1_3 a1_4 l1_5 l1_6 l1_7) else (understudyref05_method.j0 k l0 (decide (a1_4 > 64)) a1_0 a1_1 a1_2 a1_3 a1_4 l1_5 l1_6 l1_7)))) else (understudyref05_method.j0 k l0 true a1_0 a1_1 a1_2 a1_3 a1_4 l1_5 l1_6 l1_7))=some r:=H
     have A22:=Aside0.mk A220
     clear A220
     by_cases c23:t241=true
     ·subst c23
      have H1:(if a1_3 < 0 then (understudyref05_method.j0 k l0 true a1_0 a1_1 a1_2 a1_3 a1_4 l1_5 l1_6 l1_7) else (if a1_3 > 64 then (understudyref05_method.j0 k l0 true a1_0 a1_1 a1_2 a1_3 a1_4 l1_5 l1_6 l1_7) else (if a1_4 < 0 then (understudyref05_method.j0 k l0 true a1_0 a1_1 a1_2 a1_3 a1_4 l1_5 l1_6 l1_7) else (understudyref05_method.j0 k l0 (decide (a1_4 > 64)) a1_0 a1_1 a1_2 a1_3 a1_4 l1_5 l1_6 l1_7))))=some r:=by rw [if_pos rfl] at H;exact H
      clear H
      have H:=H1
      clear H1
      by_cases c24:a1_3 < 0
      ·rw [if_pos c24] at H
       have c24b0:decide (a1_3 < 0)=true:=decide_eq_true c24
       clear c24
       have H':=Aside0.mk H
       clear H
       have hcz25_0:w4.cell? ⟨gb237,0,none⟩=some (.int .i64 a1_0):=(blk_cell BK237.out 0).trans rfl
       have hcz25_1:w4.cell? ⟨gb237,1,none⟩=some (.int .i64 a1_1):=(blk_cell BK237.out 1).trans rfl
       have hcz25_2:w4.cell? ⟨gb237,2,none⟩=some (.int .i64 a1_2):=(blk_cell BK237.out 2).trans rfl
       have hcz25_3:w4.cell? ⟨gb237,3,none⟩=some (.int .i64 a1_3):=(blk_cell BK237.out 3).trans rfl
       have hcz25_4:w4.cell? ⟨gb237,4,none⟩=some (.int .i64 a1_4):=(blk_cell BK237.out 4).trans rfl
       have hcz25_5:w4.cell? ⟨gb237,5,none⟩=some (.slice A1_5 l1_5.length c1_5):=(blk_cell BK237.out 5).trans rfl
       have hcz25_6:w4.cell? ⟨gb237,6,none⟩=some (.slice A1_6 l1_6.length c1_6):=(blk_cell BK237.out 6).trans rfl
       have hcz25_7:w4.cell? ⟨gb237,7,none⟩=some (.slice A1_7 l1_7.length c1_7):=(blk_cell BK237.out 7).trans rfl
       have hfz25_0:=blk_frozen BK237.out 0
       have hfz25_1:=blk_frozen BK237.out 1
       have hfz25_2:=blk_frozen BK237.out 2
       have hfz25_3:=blk_frozen BK237.out 3
       have hfz25_4:=blk_frozen BK237.out 4
       have hfz25_5:=blk_frozen BK237.out 5
       have hfz25_6:=blk_frozen BK237.out 6
       have hfz25_7:=blk_frozen BK237.out 7
       go_wp2_with (first|(go_at_call 18;(with_reducible refine (understudyref05_utf.calls _ _ l0 a1_1 true _ ?side1 ?side2 A20.out).mono ?_);(case side1 => repeat (first|exact (Kd.C_below HR0.out HB.out)|(with_reducible refine Kd.C_alloc ?_ _)|(with_reducible refine Kd.C_drewN ?_ _)|(with_reducible refine Kd.C_drew ?_)));(case side2 => exact HC0.out);rintro e w' ⟨rfl,⟨nd,rfl⟩⟩)|(go_at_call 18;(with_reducible refine (understudyref05_utf.calls _ _ l0 a1_2 true _ ?side1 ?side2 A22.out).mono ?_);(case side1 => repeat (first|exact (Kd.C_below HR0.out (by repeat (first|(with_reducible first|exact HB.out|apply below_alloc|apply pw_below_drewN|apply below_drew1|refine below_set ?_ GE237.out)|exact HB.out)))|(with_reducible refine Kd.C_alloc ?_ _)|(with_reducible refine Kd.C_drewN ?_ _)|(with_reducible refine Kd.C_drew ?_)));(case side2 => exact HC0.out);rintro e w' ⟨rfl,⟨nd,rfl⟩⟩))
       go_meet
       case rel => exact ⟨_,(true),(by first|rfl|(simp;done)|(simp [*];done)),H',⟨by first|omega|exact Nat.le_refl _⟩,⟨by (with_reducible repeat (first|refine blk_drewN ?_ _|refine blk_drew ?_|refine blk_alloc ?_ _));exact BK237.out⟩,⟨by repeat (first|(with_reducible first|exact HB.out|apply below_alloc|apply pw_below_drewN|apply below_drew1|refine below_set ?_ GE237.out)|exact HB.out)⟩⟩
      ·rw [if_neg c24] at H
       have c24b0:decide (a1_3 < 0)=false:=decide_eq_false c24
       clear c24
       by_cases c26:a1_3 > 64
       ·rw [if_pos c26] at H
        have c26b0:decide (64 < a1_3)=true:=decide_eq_true c26
        clear c26
        have H':=Aside0.mk H
        clear H
        have hcz27_0:w4.cell? ⟨gb237,0,none⟩=some (.int .i64 a1_0):=(blk_cell BK237.out 0).trans rfl
        have hcz27_1:w4.cell? ⟨gb237,1,none⟩=some (.int .i64 a1_1):=(blk_cell BK237.out 1).trans rfl
        have hcz27_2:w4.cell? ⟨gb237,2,none⟩=some (.int .i64 a1_2):=(blk_cell BK237.out 2).trans rfl
        have hcz27_3:w4.cell? ⟨gb237,3,none⟩=some (.int .i64 a1_3):=(blk_cell BK237.out 3).trans rfl
        have hcz27_4:w4.cell? ⟨gb237,4,none⟩=some (.int .i64 a1_4):=(blk_cell BK237.out 4).trans rfl
        have hcz27_5:w4.cell? ⟨gb237,5,none⟩=some (.slice A1_5 l1_5.length c1_5):=(blk_cell BK237.out 5).trans rfl
        have hcz27_6:w4.cell? ⟨gb237,6,none⟩=some (.slice A1_6 l1_6.length c1_6):=(blk_cell BK237.out 6).trans rfl
        have hcz27_7:w4.cell? ⟨gb237,7,none⟩=some (.slice A1_7 l1_7.length c1_7):=(blk_cell BK237.out 7).trans rfl
        have hfz27_0:=blk_frozen BK237.out 0
        have hfz27_1:=blk_frozen BK237.out 1
        have hfz27_2:=blk_frozen BK237.out 2
        have hfz27_3:=blk_frozen BK237.out 3
        have hfz27_4:=blk_frozen BK237.out 4
        have hfz27_5:=blk_frozen BK237.out 5
        have hfz27_6:=blk_frozen BK237.out 6
        have hfz27_7:=blk_frozen BK237.out 7
        go_wp2_with (first|(go_at_call 18;(with_reducible refine (understudyref05_utf.calls _ _ l0 a1_1 true _ ?side1 ?side2 A20.out).mono ?_);(case side1 => repeat (first|exact (Kd.C_below HR0.out HB.out)|(with_reducible refine Kd.C_alloc ?_ _)|(with_reducible refine Kd.C_drewN ?_ _)|(with_reducible refine Kd.C_drew ?_)));(case side2 => exact HC0.out);rintro e w' ⟨rfl,⟨nd,rfl⟩⟩)|(go_at_call 18;(with_reducible refine (understudyref05_utf.calls _ _ l0 a1_2 true _ ?side1 ?side2 A22.out).mono ?_);(case side1 => repeat (first|exact (Kd.C_below HR0.out (by repeat (first|(with_reducible first|exact HB.out|apply below_alloc|apply pw_below_drewN|apply below_drew1|refine below_set ?_ GE237.out)|exact HB.out)))|(with_reducible refine Kd.C_alloc ?_ _)|(with_reducible refine Kd.C_drewN ?_ _)|(with_reducible refine Kd.C_drew ?_)));(case side2 => exact HC0.out);rintro e w' ⟨rfl,⟨nd,rfl⟩⟩))
        go_meet
        case rel => exact ⟨_,(true),(by first|rfl|(simp;done)|(simp [*];done)),H',⟨by first|omega|exact Nat.le_refl _⟩,⟨by (with_reducible repeat (first|refine blk_drewN ?_ _|refine blk_drew ?_|refine blk_alloc ?_ _));exact BK237.out⟩,⟨by repeat (first|(with_reducible first|exact HB.out|apply below_alloc|apply pw_below_drewN|apply below_drew1|refine below_set ?_ GE237.out)|exact HB.out)⟩⟩
       ·rw [if_neg c26] at H
        have c26b0:decide (64 < a1_3)=false:=decide_eq_false c26
        clear c26
        by_cases c28:a1_4 < 0
        ·rw [if_pos c28] at H
         have c28b0:decide (a1_4 < 0)=true:=decide_eq_true c28
         clear c28
         have H':=Aside0.mk H
         clear H
         have hcz29_0:w4.cell? ⟨gb237,0,none⟩=some (.int .i64 a1_0):=(blk_cell BK237.out 0).trans rfl
         have hcz29_1:w4.cell? ⟨gb237,1,none⟩=some (.int .i64 a1_1):=(blk_cell BK237.out 1).trans rfl
         have hcz29_2:w4.cell? ⟨gb237,2,none⟩=some (.int .i64 a1_2):=(blk_cell BK237.out 2).trans rfl
         have hcz29_3:w4.cell? ⟨gb237,3,none⟩=some (.int .i64 a1_3):=(blk_cell BK237.out 3).trans rfl
         have hcz29_4:w4.cell? ⟨gb237,4,none⟩=some (.int .i64 a1_4):=(blk_cell BK237.out 4).trans rfl
         have hcz29_5:w4.cell? ⟨gb237,5,none⟩=some (.slice A1_5 l1_5.length c1_5):=(blk_cell BK237.out 5).trans rfl
         have hcz29_6:w4.cell? ⟨gb237,6,none⟩=some (.slice A1_6 l1_6.length c1_6):=(blk_cell BK237.out 6).trans rfl
         have hcz29_7:w4.cell? ⟨gb237,7,none⟩=some (.slice A1_7 l1_7.length c1_7):=(blk_cell BK237.out 7).trans rfl
         have hfz29_0:=blk_frozen BK237.out 0
         have hfz29_1:=blk_frozen BK237.out 1
         have hfz29_2:=blk_frozen BK237.out 2
         have hfz29_3:=blk_frozen BK237.out 3
         have hfz29_4:=blk_frozen BK237.out 4
         have hfz29_5:=blk_frozen BK237.out 5
         have hfz29_6:=blk_frozen BK237.out 6
         have hfz29_7:=blk_frozen BK237.out 7
         go_wp2_with (first|(go_at_call 18;(with_reducible refine (understudyref05_utf.calls _ _ l0 a1_1 true _ ?side1 ?side2 A20.out).mono ?_);(case side1 => repeat (first|exact (Kd.C_below HR0.out HB.out)|(with_reducible refine Kd.C_alloc ?_ _)|(with_reducible refine Kd.C_drewN ?_ _)|(with_reducible refine Kd.C_drew ?_)));(case side2 => exact HC0.out);rintro e w' ⟨rfl,⟨nd,rfl⟩⟩)|(go_at_call 18;(with_reducible refine (understudyref05_utf.calls _ _ l0 a1_2 true _ ?side1 ?side2 A22.out).mono ?_);(case side1 => repeat (first|exact (Kd.C_below HR0.out (by repeat (first|(with_reducible first|exact HB.out|apply below_alloc|apply pw_below_drewN|apply below_drew1|refine below_set ?_ GE237.out)|exact HB.out)))|(with_reducible refine Kd.C_alloc ?_ _)|(with_reducible refine Kd.C_drewN ?_ _)|(with_reducible refine Kd.C_drew ?_)));(case side2 => exact HC0.out);rintro e w' ⟨rfl,⟨nd,rfl⟩⟩))
         go_meet
         case rel => exact ⟨_,(true),(by first|rfl|(simp;done)|(simp [*];done)),H',⟨by first|omega|exact Nat.le_refl _⟩,⟨by (with_reducible repeat (first|refine blk_drewN ?_ _|refine blk_drew ?_|refine blk_alloc ?_ _));exact BK237.out⟩,⟨by repeat (first|(with_reducible first|exact HB.out|apply below_alloc|apply pw_below_drewN|apply below_drew1|refine below_set ?_ GE237.out)|exact HB.out)⟩⟩
        ·rw [if_neg c28] at H
         have c28b0:decide (a1_4 < 0)=false:=decide_eq_false c28
         clear c28
         have H':=Aside0.mk H
         clear H
         have hcz30_0:w4.cell? ⟨gb237,0,none⟩=some (.int .i64 a1_0):=(blk_cell BK237.out 0).trans rfl
         have hcz30_1:w4.cell? ⟨gb237,1,none⟩=some (.int .i64 a1_1):=(blk_cell BK237.out 1).trans rfl
         have hcz30_2:w4.cell? ⟨gb237,2,none⟩=some (.int .i64 a1_2):=(blk_cell BK237.out 2).trans rfl
         have hcz30_3:w4.cell? ⟨gb237,3,none⟩=some (.int .i64 a1_3):=(blk_cell BK237.out 3).trans rfl
         have hcz30_4:w4.cell? ⟨gb237,4,none⟩=some (.int .i64 a1_4):=(blk_cell BK237.out 4).trans rfl
         have hcz30_5:w4.cell? ⟨gb237,5,none⟩=some (.slice A1_5 l1_5.length c1_5):=(blk_cell BK237.out 5).trans rfl
         have hcz30_6:w4.cell? ⟨gb237,6,none⟩=some (.slice A1_6 l1_6.length c1_6):=(blk_cell BK237.out 6).trans rfl
         have hcz30_7:w4.cell? ⟨gb237,7,none⟩=some (.slice A1_7 l1_7.length c1_7):=(blk_cell BK237.out 7).trans rfl
         have hfz30_0:=blk_frozen BK237.out 0
         have hfz30_1:=blk_frozen BK237.out 1
         have hfz30_2:=blk_frozen BK237.out 2
         have hfz30_3:=blk_frozen BK237.out 3
         have hfz30_4:=blk_frozen BK237.out 4
         have hfz30_5:=blk_frozen BK237.out 5
         have hfz30_6:=blk_frozen BK237.out 6
         have hfz30_7:=blk_frozen BK237.out 7
         go_wp2_with (first|(go_at_call 18;(with_reducible refine (understudyref05_utf.calls _ _ l0 a1_1 true _ ?side1 ?side2 A20.out).mono ?_);(case side1 => repeat (first|exact (Kd.C_below HR0.out HB.out)|(with_reducible refine Kd.C_alloc ?_ _)|(with_reducible refine Kd.C_drewN ?_ _)|(with_reducible refine Kd.C_drew ?_)));(case side2 => exact HC0.out);rintro e w' ⟨rfl,⟨nd,rfl⟩⟩)|(go_at_call 18;(with_reducible refine (understudyref05_utf.calls _ _ l0 a1_2 true _ ?side1 ?side2 A22.out).mono ?_);(case side1 => repeat (first|exact (Kd.C_below HR0.out (by repeat (first|(with_reducible first|exact HB.out|apply below_alloc|apply pw_below_drewN|apply below_drew1|refine below_set ?_ GE237.out)|exact HB.out)))|(with_reducible refine Kd.C_alloc ?_ _)|(with_reducible refine Kd.C_drewN ?_ _)|(with_reducible refine Kd.C_drew ?_)));(case side2 => exact HC0.out);rintro e w' ⟨rfl,⟨nd,rfl⟩⟩))
         go_meet
         case rel => exact ⟨_,(decide (a1_4 > 64)),(by first|rfl|(simp;done)|(simp [*];done)),H',⟨by first|omega|exact Nat.le_refl _⟩,⟨by (with_reducible repeat (first|refine blk_drewN ?_ _|refine blk_drew ?_|refine blk_alloc ?_ _));exact BK237.out⟩,⟨by repeat (first|(with_reducible first|exact HB.out|apply below_alloc|apply pw_below_drewN|apply below_drew1|refine below_set ?_ GE237.out)|exact HB.out)⟩⟩
     ·replace c23:=Bool.eq_false_iff.mpr c23
      subst c23
      have H1:(understudyref05_method.j0 k l0 true a1_0 a1_1 a1_2 a1_3 a1_4 l1_5 l1_6 l1_7)=some r:=by rw [if_neg (show ¬ (false=true) by decide)] at H;exact H
      clear H
      have H:=H1
      clear H1
      have H':=Aside0.mk H
      clear H
      have hcz31_0:w4.cell? ⟨gb237,0,none⟩=some (.int .i64 a1_0):=(blk_cell BK237.out 0).trans rfl
      have hcz31_1:w4.cell? ⟨gb237,1,none⟩=some (.int .i64 a1_1):=(blk_cell BK237.out 1).trans rfl
      have hcz31_2:w4.cell? ⟨gb237,2,none⟩=some (.int .i64 a1_2):=(blk_cell BK237.out 2).trans rfl
      have hcz31_3:w4.cell? ⟨gb237,3,none⟩=some (.int .i64 a1_3):=(blk_cell BK237.out 3).trans rfl
      have hcz31_4:w4.cell? ⟨gb237,4,none⟩=some (.int .i64 a1_4):=(blk_cell BK237.out 4).trans rfl
      have hcz31_5:w4.cell? ⟨gb237,5,none⟩=some (.slice A1_5 l1_5.length c1_5):=(blk_cell BK237.out 5).trans rfl
      have hcz31_6:w4.cell? ⟨gb237,6,none⟩=some (.slice A1_6 l1_6.length c1_6):=(blk_cell BK237.out 6).trans rfl
      have hcz31_7:w4.cell? ⟨gb237,7,none⟩=some (.slice A1_7 l1_7.length c1_7):=(blk_cell BK237.out 7).trans rfl
      have hfz31_0:=blk_frozen BK237.out 0
      have hfz31_1:=blk_frozen BK237.out 1
      have hfz31_2:=blk_frozen BK237.out 2
      have hfz31_3:=blk_frozen BK237.out 3
      have hfz31_4:=blk_frozen BK237.out 4
      have hfz31_5:=blk_frozen BK237.out 5
      have hfz31_6:=blk_frozen BK237.out 6
      have hfz31_7:=blk_frozen BK237.out 7
      go_wp2_with (first|(go_at_call 18;(with_reducible refine (understudyref05_utf.calls _ _ l0 a1_1 true _ ?side1 ?side2 A20.out).mono ?_);(case side1 => repeat (first|exact (Kd.C_below HR0.out HB.out)|(with_reducible refine Kd.C_alloc ?_ _)|(with_reducible refine Kd.C_drewN ?_ _)|(with_reducible refine Kd.C_drew ?_)));(case side2 => exact HC0.out);rintro e w' ⟨rfl,⟨nd,rfl⟩⟩)|(go_at_call 18;(with_reducible refine (understudyref05_utf.calls _ _ l0 a1_2 false _ ?side1 ?side2 A22.out).mono ?_);(case side1 => repeat (first|exact (Kd.C_below HR0.out (by repeat (first|(with_reducible first|exact HB.out|apply below_alloc|apply pw_below_drewN|apply below_drew1|refine below_set ?_ GE237.out)|exact HB.out)))|(with_reducible refine Kd.C_alloc ?_ _)|(with_reducible refine Kd.C_drewN ?_ _)|(with_reducible refine Kd.C_drew ?_)));(case side2 => exact HC0.out);rintro e w' ⟨rfl,⟨nd,rfl⟩⟩))
      go_meet
      case rel => exact ⟨_,(true),(by first|rfl|(simp;done)|(simp [*];done)),H',⟨by first|omega|exact Nat.le_refl _⟩,⟨by (with_reducible repeat (first|refine blk_drewN ?_ _|refine blk_drew ?_|refine blk_alloc ?_ _));exact BK237.out⟩,⟨by repeat (first|(with_reducible first|exact HB.out|apply below_alloc|apply pw_below_drewN|apply below_drew1|refine below_set ?_ GE237.out)|exact HB.out)⟩⟩
    ·replace c21:=Bool.eq_false_iff.mpr c21
     subst c21
     have H1:(understudyref05_method.j0 k l0 true a1_0 a1_1 a1_2 a1_3 a1_4 l1_5 l1_6 l1_7)=some r:=by rw [if_neg (show ¬ (false=true) by decide)] at H;exact H
     clear H
     have H:=H1
     clear H1
     have H':=Aside0.mk H
     clear H
     have hcz32_0:w4.cell? ⟨gb237,0,none⟩=some (.int .i64 a1_0):=(blk_cell BK237.out 0).trans rfl
     have hcz32_1:w4.cell? ⟨gb237,1,none⟩=some (.int .i64 a1_1):=(blk_cell BK237.out 1).trans rfl
     have hcz32_2:w4.cell? ⟨gb237,2,none⟩=some (.int .i64 a1_2):=(blk_cell BK237.out 2).trans rfl
     have hcz32_3:w4.cell? ⟨gb237,3,none⟩=some (.int .i64 a1_3):=(blk_cell BK237.out 3).trans rfl
     have hcz32_4:w4.cell? ⟨gb237,4,none⟩=some (.int .i64 a1_4):=(blk_cell BK237.out 4).trans rfl
     have hcz32_5:w4.cell? ⟨gb237,5,none⟩=some (.slice A1_5 l1_5.length c1_5):=(blk_cell BK237.out 5).trans rfl
     have hcz32_6:w4.cell? ⟨gb237,6,none⟩=some (.slice A1_6 l1_6.length c1_6):=(blk_cell BK237.out 6).trans rfl
     have hcz32_7:w4.cell? ⟨gb237,7,none⟩=some (.slice A1_7 l1_7.length c1_7):=(blk_cell BK237.out 7).trans rfl
     have hfz32_0:=blk_frozen BK237.out 0
     have hfz32_1:=blk_frozen BK237.out 1
     have hfz32_2:=blk_frozen BK237.out 2
     have hfz32_3:=blk_frozen BK237.out 3
     have hfz32_4:=blk_frozen BK237.out 4
     have hfz32_5:=blk_frozen BK237.out 5
     have hfz32_6:=blk_frozen BK237.out 6
     have hfz32_7:=blk_frozen BK237.out 7
     go_wp2_with (first|(go_at_call 18;(with_reducible refine (understudyref05_utf.calls _ _ l0 a1_1 false _ ?side1 ?side2 A20.out).mono ?_);(case side1 => repeat (first|exact (Kd.C_below HR0.out HB.out)|(with_reducible refine Kd.C_alloc ?_ _)|(with_reducible refine Kd.C_drewN ?_ _)|(with_reducible refine Kd.C_drew ?_)));(case side2 => exact HC0.out);rintro e w' ⟨rfl,⟨nd,rfl⟩⟩))
     go_meet
     case rel => exact ⟨_,(true),(by first|rfl|(simp;done)|(simp [*];done)),H',⟨by first|omega|exact Nat.le_refl _⟩,⟨by (with_reducible repeat (first|refine blk_drewN ?_ _|refine blk_drew ?_|refine blk_alloc ?_ _));exact BK237.out⟩,⟨by repeat (first|(with_reducible first|exact HB.out|apply below_alloc|apply pw_below_drewN|apply below_drew1|refine below_set ?_ GE237.out)|exact HB.out)⟩⟩
   ·rw [if_neg c19] at H
    have c19b0:(a1_0==8)=false:=beq_eq_false_iff_ne.mpr c19
    have c19b1:(a1_0 != 8)=true:=bne_iff_ne.mpr c19
    have H':=Aside0.mk H
    clear H
    have hcz33_0:w4.cell? ⟨gb237,0,none⟩=some (.int .i64 a1_0):=(blk_cell BK237.out 0).trans rfl
    have hcz33_1:w4.cell? ⟨gb237,1,none⟩=some (.int .i64 a1_1):=(blk_cell BK237.out 1).trans rfl
    have hcz33_2:w4.cell? ⟨gb237,2,none⟩=some (.int .i64 a1_2):=(blk_cell BK237.out 2).trans rfl
    have hcz33_3:w4.cell? ⟨gb237,3,none⟩=some (.int .i64 a1_3):=(blk_cell BK237.out 3).trans rfl
    have hcz33_4:w4.cell? ⟨gb237,4,none⟩=some (.int .i64 a1_4):=(blk_cell BK237.out 4).trans rfl
    have hcz33_5:w4.cell? ⟨gb237,5,none⟩=some (.slice A1_5 l1_5.length c1_5):=(blk_cell BK237.out 5).trans rfl
    have hcz33_6:w4.cell? ⟨gb237,6,none⟩=some (.slice A1_6 l1_6.length c1_6):=(blk_cell BK237.out 6).trans rfl
    have hcz33_7:w4.cell? ⟨gb237,7,none⟩=some (.slice A1_7 l1_7.length c1_7):=(blk_cell BK237.out 7).trans rfl
    have hfz33_0:=blk_frozen BK237.out 0
    have hfz33_1:=blk_frozen BK237.out 1
    have hfz33_2:=blk_frozen BK237.out 2
    have hfz33_3:=blk_frozen BK237.out 3
    have hfz33_4:=blk_frozen BK237.out 4
    have hfz33_5:=blk_frozen BK237.out 5
    have hfz33_6:=blk_frozen BK237.out 6
    have hfz33_7:=blk_frozen BK237.out 7
    go_wp2
    go_meet
    case rel => exact ⟨_,(true),(by first|rfl|(simp;done)|(simp [*];done)),H',⟨by first|omega|exact Nat.le_refl _⟩,⟨by (with_reducible repeat (first|refine blk_drewN ?_ _|refine blk_drew ?_|refine blk_alloc ?_ _));exact BK237.out⟩,⟨by repeat (first|(with_reducible first|exact HB.out|apply below_alloc|apply pw_below_drewN|apply below_drew1|refine below_set ?_ GE237.out)|exact HB.out)⟩⟩
 case rest =>
  clear HC3
  try clear c1;try clear c2;try clear p2;try clear c5;try clear c5b0;try clear c5b1;try clear c7;try clear c9;try clear c10;try clear c10b0;try clear c12;try clear c12b0;try clear c14;try clear c14b0;try clear c19;try clear c19b0;try clear c19b1;try clear c21;try clear c23;try clear c24;try clear c24b0;try clear c26;try clear c26b0;try clear c28;try clear c28b0;try clear hcz11_0;try clear hcz11_1;try clear hcz11_2;try clear hcz11_3;try clear hcz11_4;try clear hcz11_5;try clear hcz11_6;try clear hcz11_7;try clear hcz13_0;try clear hcz13_1;try clear hcz13_2;try clear hcz13_3;try clear hcz13_4;try clear hcz13_5;try clear hcz13_6;try clear hcz13_7;try clear hcz15_0;try clear hcz15_1;try clear hcz15_2;try clear hcz15_3;try clear hcz15_4;try clear hcz15_5;try clear hcz15_6;try clear hcz15_7;try clear hcz16_0;try clear hcz16_1;try clear hcz16_2;try clear hcz16_3;try clear hcz16_4;try clear hcz16_5;try clear hcz16_6;try clear hcz16_7;try clear hcz17_0;try clear hcz17_1;try clear hcz17_2;try clear hcz17_3;try clear hcz17_4;try clear hcz17_5;try clear hcz17_6;try clear hcz17_7;try clear hcz18_0;try clear hcz18_1;try clear hcz18_2;try clear hcz18_3;try clear hcz18_4;try clear hcz18_5;try clear hcz18_6;try clear hcz18_7;try clear hcz25_0;try clear hcz25_1;try clear hcz25_2;try clear hcz25_3;try clear hcz25_4;try clear hcz25_5;try clear hcz25_6;try clear hcz25_7;try clear hcz27_0;try clear hcz27_1;try clear hcz27_2;try clear hcz27_3;try clear hcz27_4;try clear hcz27_5;try clear hcz27_6;try clear hcz27_7;try clear hcz29_0;try clear hcz29_1;try clear hcz29_2;try clear hcz29_3;try clear hcz29_4;try clear hcz29_5;try clear hcz29_6;try clear hcz29_7;try clear hcz30_0;try clear hcz30_1;try clear hcz30_2;try clear hcz30_3;try clear hcz30_4;try clear hcz30_5;try clear hcz30_6;try clear hcz30_7;try clear hcz31_0;try clear hcz31_1;try clear hcz31_2;try clear hcz31_3;try clear hcz31_4;try clear hcz31_5;try clear hcz31_6;try clear hcz31_7;try clear hcz32_0;try clear hcz32_1;try clear hcz32_2;try clear hcz32_3;try clear hcz32_4;try clear hcz32_5;try clear hcz32_6;try clear hcz32_7;try clear hcz33_0;try clear hcz33_1;try clear hcz33_2;try clear hcz33_3;try clear hcz33_4;try clear hcz33_5;try clear hcz33_6;try clear hcz33_7;try clear hfz11_0;try clear hfz11_1;try clear hfz11_2;try clear hfz11_3;try clear hfz11_4;try clear hfz11_5;try clear hfz11_6;try clear hfz11_7;try clear hfz13_0;try clear hfz13_1;try clear hfz13_2;try clear hfz13_3;try clear hfz13_4;try clear hfz13_5;try clear hfz13_6;try clear hfz13_7;try clear hfz15_0;try clear hfz15_1;try clear hfz15_2;try clear hfz15_3;try clear hfz15_4;try clear hfz15_5;try clear hfz15_6;try clear hfz15_7;try clear hfz16_0;try clear hfz16_1;try clear hfz16_2;try clear hfz16_3;try clear hfz16_4;try clear hfz16_5;try clear hfz16_6;try clear hfz16_7;try clear hfz17_0;try clear hfz17_1;try clear hfz17_2;try clear hfz17_3;try clear hfz17_4;try clear hfz17_5;try clear hfz17_6;try clear hfz17_7;try clear hfz18_0;try clear hfz18_1;try clear hfz18_2;try clear hfz18_3;try clear hfz18_4;try clear hfz18_5;try clear hfz18_6;try clear hfz18_7;try clear hfz25_0;try clear hfz25_1;try clear hfz25_2;try clear hfz25_3;try clear hfz25_4;try clear hfz25_5;try clear hfz25_6;try clear hfz25_7;try clear hfz27_0;try clear hfz27_1;try clear hfz27_2;try clear hfz27_3;try clear hfz27_4;try clear hfz27_5;try clear hfz27_6;try clear hfz27_7;try clear hfz29_0;try clear hfz29_1;try clear hfz29_2;try clear hfz29_3;try clear hfz29_4;try clear hfz29_5;try clear hfz29_6;try clear hfz29_7;try clear hfz30_0;try clear hfz30_1;try clear hfz30_2;try clear hfz30_3;try clear hfz30_4;try clear hfz30_5;try clear hfz30_6;try clear hfz30_7;try clear hfz31_0;try clear hfz31_1;try clear hfz31_2;try clear hfz31_3;try clear hfz31_4;try clear hfz31_5;try clear hfz31_6;try clear hfz31_7;try clear hfz32_0;try clear hfz32_1;try clear hfz32_2;try clear hfz32_3;try clear hfz32_4;try clear hfz32_5;try clear hfz32_6;try clear hfz32_7;try clear hfz33_0;try clear hfz33_1;try clear hfz33_2;try clear hfz33_3;try clear hfz33_4;try clear hfz33_5;try clear hfz33_6;try clear hfz33_7
  obtain ⟨kq,x49_2,rfl,HA,HJ2,BK237,HB⟩:=hcut
  cases kq with
  | zero => exact absurd HA.out (by simp [understudyref05_method.j0])
  | succ kj2 =>
   have H:=HA.out
   clear HA
   simp only [understudyref05_method.j0] at H
   by_cases c34:x49_2=true
   ·subst c34
    have H1:(some false)=some r:=by rw [if_pos rfl] at H;exact H
    clear H
    have H:=H1
    clear H1
    obtain rfl:=Option.some.inj H
    go_wp2
    go_ret
    exact ⟨by first|rfl|(simp [errW_none,errW_some] <;> rfl)|(simp [*,errW_none,errW_some] <;> rfl),by repeat (first|(with_reducible first|exact HB.out|apply below_alloc|apply pw_below_drewN|apply below_drew1|refine below_set ?_ GE237.out)|exact HB.out)⟩
   ·replace c34:=Bool.eq_false_iff.mpr c34
    subst c34
    have H1:(if (l1_5.length:Int) < 1 then (understudyref05_method.j1 kj2 l0 (l1_5.length:Int) true a1_0 a1_1 a1_2 a1_3 a1_4 l1_5 l1_6 l1_7) else (if (l1_5.length:Int) > 4096 then (understudyref05_method.j1 kj2 l0 (l1_5.length:Int) true a1_0 a1_1 a1_2 a1_3 a1_4 l1_5 l1_6 l1_7) else (if (l1_7.length:Int) > 4096 then (understudyref05_method.j1 kj2 l0 (l1_5.length:Int) true a1_0 a1_1 a1_2 a1_3 a1_4 l1_5 l1_6 l1_7) else ((understudyref05_text.f kj2 l0 (⟨#[67,111,100,101]⟩:ByteArray)).bind fun t242 => (if t242=0 then (understudyref05_method.j1 kj2 l0 (l1_5.length:Int) true a1_0 a1_1 a1_2 a1_3 a1_4 l1_5 l1_6 l1_7) else (if (l1_7.length:Int) > 0 then ((understudyref05_text.f kj2 l0 (⟨#[83,116,97,99,107,77,97,112,84,97,98,108,101]⟩:ByteArray)).bind fun t243 => (understudyref05_method.j1 kj2 l0 (l1_5.length:Int) (t243==0) a1_0 a1_1 a1_2 a1_3 a1_4 l1_5 l1_6 l1_7)) else (understudyref05_method.j1 kj2 l0 (l1_5.length:Int) false a1_0 a1_1 a1_2 a1_3 a1_4 l1_5 l1_6 l1_7)))))))=some r:=by rw [if_neg (show ¬ (false=true) by decide)] at H;exact H
    clear H
    have H:=H1
    clear H1
    have HC35:=Aside0.mk H
    clear H
    have hcz36_0:wc.cell? ⟨gb237,0,none⟩=some (.int .i64 a1_0):=(blk_cell BK237.out 0).trans rfl
    have hcz36_1:wc.cell? ⟨gb237,1,none⟩=some (.int .i64 a1_1):=(blk_cell BK237.out 1).trans rfl
    have hcz36_2:wc.cell? ⟨gb237,2,none⟩=some (.int .i64 a1_2):=(blk_cell BK237.out 2).trans rfl
    have hcz36_3:wc.cell? ⟨gb237,3,none⟩=some (.int .i64 a1_3):=(blk_cell BK237.out 3).trans rfl
    have hcz36_4:wc.cell? ⟨gb237,4,none⟩=some (.int .i64 a1_4):=(blk_cell BK237.out 4).trans rfl
    have hcz36_5:wc.cell? ⟨gb237,5,none⟩=some (.slice A1_5 l1_5.length c1_5):=(blk_cell BK237.out 5).trans rfl
    have hcz36_6:wc.cell? ⟨gb237,6,none⟩=some (.slice A1_6 l1_6.length c1_6):=(blk_cell BK237.out 6).trans rfl
    have hcz36_7:wc.cell? ⟨gb237,7,none⟩=some (.slice A1_7 l1_7.length c1_7):=(blk_cell BK237.out 7).trans rfl
    have hfz36_0:=blk_frozen BK237.out 0
    have hfz36_1:=blk_frozen BK237.out 1
    have hfz36_2:=blk_frozen BK237.out 2
    have hfz36_3:=blk_frozen BK237.out 3
    have hfz36_4:=blk_frozen BK237.out 4
    have hfz36_5:=blk_frozen BK237.out 5
    have hfz36_6:=blk_frozen BK237.out 6
    have hfz36_7:=blk_frozen BK237.out 7
    go_upto_region 4 with (fail)
    go_cut [80] (fun v80 wc => ∃ (kq:Nat) (x80_34:Bool),v80=.bool x80_34∧Aside0 (understudyref05_method.j1 kq l0 (l1_5.length:Int) x80_34 a1_0 a1_1 a1_2 a1_3 a1_4 l1_5 l1_6 l1_7=some r)∧Aside0 (kq≤kj2)∧Aside0 (wc.heap[gb237]?=some (.cells #[.int .i64 a1_0,.int .i64 a1_1,.int .i64 a1_2,.int .i64 a1_3,.int .i64 a1_4,(.slice A1_5 l1_5.length c1_5),(.slice A1_6 l1_6.length c1_6),(.slice A1_7 l1_7.length c1_7)] 37 (0,0)))∧Aside0 (Below w.heap.size w wc))
    case first =>
     have H:=HC35.out
     clear HC35
     by_cases c37:(l1_5.length:Int) < 1
     ·rw [if_pos c37] at H
      have c37b0:decide ((l1_5.length:Int) < 1)=true:=decide_eq_true c37
      have c37b1:decide (l1_5.length < 1)=true:=decide_eq_true (by omega)
      clear c37
      (first|rw [c37b0]|(simp only [i64_w,i32_w];rw [c37b0])|skip)
      have H':=Aside0.mk H
      clear H
      go_wp2
      go_meet
      case rel => exact ⟨_,(true),(by first|rfl|(simp;done)|(simp [*];done)),H',⟨by have:=HJ2.out;first|omega|exact Nat.le_refl _⟩,⟨by (with_reducible repeat (first|refine blk_drewN ?_ _|refine blk_drew ?_|refine blk_alloc ?_ _));exact BK237.out⟩,⟨by repeat (first|(with_reducible first|exact HB.out|apply below_alloc|apply pw_below_drewN|apply below_drew1|refine below_set ?_ GE237.out)|exact HB.out)⟩⟩
     ·rw [if_neg c37] at H
      have c37b0:decide ((l1_5.length:Int) < 1)=false:=decide_eq_false c37
      have c37b1:decide (l1_5.length < 1)=false:=decide_eq_false (by omega)
      clear c37
      (first|rw [c37b0]|(simp only [i64_w,i32_w];rw [c37b0])|skip)
      by_cases c38:(l1_5.length:Int) > 4096
      ·rw [if_pos c38] at H
       have c38b0:decide (4096 < (l1_5.length:Int))=true:=decide_eq_true c38
       have c38b1:decide (4096 < l1_5.length)=true:=decide_eq_true (by omega)
       clear c38
       have H':=Aside0.mk H
       clear H
       go_wp2
       go_meet
       case rel => exact ⟨_,(true),(by first|rfl|(simp;done)|(simp [*];done)),H',⟨by have:=HJ2.out;first|omega|exact Nat.le_refl _⟩,⟨by (with_reducible repeat (first|refine blk_drewN ?_ _|refine blk_drew ?_|refine blk_alloc ?_ _));exact BK237.out⟩,⟨by repeat (first|(with_reducible first|exact HB.out|apply below_alloc|apply pw_below_drewN|apply below_drew1|refine below_set ?_ GE237.out)|exact HB.out)⟩⟩
      ·rw [if_neg c38] at H
       have c38b0:decide (4096 < (l1_5.length:Int))=false:=decide_eq_false c38
       have c38b1:decide (4096 < l1_5.length)=false:=decide_eq_false (by omega)
       clear c38
       by_cases c39:(l1_7.length:Int) > 4096
       ·rw [if_pos c39] at H
        have c39b0:decide (4096 < (l1_7.length:Int))=true:=decide_eq_true c39
        have c39b1:decide (4096 < l1_7.length)=true:=decide_eq_true (by omega)
        clear c39
        have H':=Aside0.mk H
        clear H
        have hcz40_0:wc.cell? ⟨gb237,0,none⟩=some (.int .i64 a1_0):=(blk_cell BK237.out 0).trans rfl
        have hcz40_1:wc.cell? ⟨gb237,1,none⟩=some (.int .i64 a1_1):=(blk_cell BK237.out 1).trans rfl
        have hcz40_2:wc.cell? ⟨gb237,2,none⟩=some (.int .i64 a1_2):=(blk_cell BK237.out 2).trans rfl
        have hcz40_3:wc.cell? ⟨gb237,3,none⟩=some (.int .i64 a1_3):=(blk_cell BK237.out 3).trans rfl
        have hcz40_4:wc.cell? ⟨gb237,4,none⟩=some (.int .i64 a1_4):=(blk_cell BK237.out 4).trans rfl
        have hcz40_5:wc.cell? ⟨gb237,5,none⟩=some (.slice A1_5 l1_5.length c1_5):=(blk_cell BK237.out 5).trans rfl
        have hcz40_6:wc.cell? ⟨gb237,6,none⟩=some (.slice A1_6 l1_6.length c1_6):=(blk_cell BK237.out 6).trans rfl
        have hcz40_7:wc.cell? ⟨gb237,7,none⟩=some (.slice A1_7 l1_7.length c1_7):=(blk_cell BK237.out 7).trans rfl
        have hfz40_0:=blk_frozen BK237.out 0
        have hfz40_1:=blk_frozen BK237.out 1
        have hfz40_2:=blk_frozen BK237.out 2
        have hfz40_3:=blk_frozen BK237.out 3
        have hfz40_4:=blk_frozen BK237.out 4
        have hfz40_5:=blk_frozen BK237.out 5
        have hfz40_6:=blk_frozen BK237.out 6
        have hfz40_7:=blk_frozen BK237.out 7
        go_wp2
        go_meet
        case rel => exact ⟨_,(true),(by first|rfl|(simp;done)|(simp [*];done)),H',⟨by have:=HJ2.out;first|omega|exact Nat.le_refl _⟩,⟨by (with_reducible repeat (first|refine blk_drewN ?_ _|refine blk_drew ?_|refine blk_alloc ?_ _));exact BK237.out⟩,⟨by repeat (first|(with_reducible first|exact HB.out|apply below_alloc|apply pw_below_drewN|apply below_drew1|refine below_set ?_ GE237.out)|exact HB.out)⟩⟩
       ·rw [if_neg c39] at H
        have c39b0:decide (4096 < (l1_7.length:Int))=false:=decide_eq_false c39
        have c39b1:decide (4096 < l1_7.length)=false:=decide_eq_false (by omega)
        clear c39
        replace H:=Option.bind_eq_some_iff.mp H
        obtain ⟨t242,A410,H⟩:=H
        replace H:(if t242=0 then (understudyref05_method.j1 kj2 l0 (l1_5.length:Int) true a1_0 a1_1 a1_2 a1_3 a1_4 l1_5 l1_6 l1_7) else (if (l1_7.length:Int) > 0 then ((understudyref05_text.f kj2 l0 (⟨#[83,116,97,99,107,77,97,112,84,97,98,108,101]⟩:ByteArray)).bind fun t243 => (understudyref05_method.j1 kj2 l0 (l1_5.length:Int) (t243==0) a1_0 a1_1 a1_2 a1_3 a1_4 l1_5 l1_6 l1_7)) else (understudyref05_method.j1 kj2 l0 (l1_5.length:Int) false a1_0 a1_1 a1_2 a1_3 a1_4 l1_5 l1_6 l1_7)))=some r:=H
        have A41:=Aside0.mk A410
        clear A410
        by_cases c42:t242=0
        ·rw [if_pos c42] at H
         have c42b0:(t242==0)=true:=beq_iff_eq.mpr c42
         have c42b1:(t242 != 0)=false:=bne_eq_false_iff_eq.mpr c42
         clear c42
         have H':=Aside0.mk H
         clear H
         have hcz43_0:wc.cell? ⟨gb237,0,none⟩=some (.int .i64 a1_0):=(blk_cell BK237.out 0).trans rfl
         have hcz43_1:wc.cell? ⟨gb237,1,none⟩=some (.int .i64 a1_1):=(blk_cell BK237.out 1).trans rfl
         have hcz43_2:wc.cell? ⟨gb237,2,none⟩=some (.int .i64 a1_2):=(blk_cell BK237.out 2).trans rfl
         have hcz43_3:wc.cell? ⟨gb237,3,none⟩=some (.int .i64 a1_3):=(blk_cell BK237.out 3).trans rfl
         have hcz43_4:wc.cell? ⟨gb237,4,none⟩=some (.int .i64 a1_4):=(blk_cell BK237.out 4).trans rfl
         have hcz43_5:wc.cell? ⟨gb237,5,none⟩=some (.slice A1_5 l1_5.length c1_5):=(blk_cell BK237.out 5).trans rfl
         have hcz43_6:wc.cell? ⟨gb237,6,none⟩=some (.slice A1_6 l1_6.length c1_6):=(blk_cell BK237.out 6).trans rfl
         have hcz43_7:wc.cell? ⟨gb237,7,none⟩=some (.slice A1_7 l1_7.length c1_7):=(blk_cell BK237.out 7).trans rfl
         have hfz43_0:=blk_frozen BK237.out 0
         have hfz43_1:=blk_frozen BK237.out 1
         have hfz43_2:=blk_frozen BK237.out 2
         have hfz43_3:=blk_frozen BK237.out 3
         have hfz43_4:=blk_frozen BK237.out 4
         have hfz43_5:=blk_frozen BK237.out 5
         have hfz43_6:=blk_frozen BK237.out 6
         have hfz43_7:=blk_frozen BK237.out 7
         go_wp2_with (first|(go_at_call 29;(with_reducible refine (understudyref05_text.calls kj2 _ _ l0 (⟨#[67,111,100,101]⟩:ByteArray) t242 _ ?side1 ?side2 A41.out).mono ?_);(case side1 => repeat (first|exact (Kd.C_below HR0.out HB.out)|(with_reducible refine Kd.C_alloc ?_ _)|(with_reducible refine Kd.C_drewN ?_ _)|(with_reducible refine Kd.C_drew ?_)));(case side2 => exact HC0.out);rintro e w' ⟨rfl,⟨nd,rfl⟩⟩))
         go_meet
         case rel => exact ⟨_,(true),(by first|rfl|(simp;done)|(simp [*];done)),H',⟨by have:=HJ2.out;first|omega|exact Nat.le_refl _⟩,⟨by (with_reducible repeat (first|refine blk_drewN ?_ _|refine blk_drew ?_|refine blk_alloc ?_ _));exact BK237.out⟩,⟨by repeat (first|(with_reducible first|exact HB.out|apply below_alloc|apply pw_below_drewN|apply below_drew1|refine below_set ?_ GE237.out)|exact HB.out)⟩⟩
        ·rw [if_neg c42] at H
         have c42b0:(t242==0)=false:=beq_eq_false_iff_ne.mpr c42
         have c42b1:(t242 != 0)=true:=bne_iff_ne.mpr c42
         by_cases c44:(l1_7.length:Int) > 0
         ·rw [if_pos c44] at H
          have c44b0:decide (0 < (l1_7.length:Int))=true:=decide_eq_true c44
          have c44b1:decide (0 < l1_7.length)=true:=decide_eq_true (by omega)
          clear c44
          replace H:=Option.bind_eq_some_iff.mp H
          obtain ⟨t243,A450,H⟩:=H
          replace H:(understudyref05_method.j1 kj2 l0 (l1_5.length:Int) (t243==0) a1_0 a1_1 a1_2 a1_3 a1_4 l1_5 l1_6 l1_7)=some r:=H
          have A45:=Aside0.mk A450
          clear A450
          have H':=Aside0.mk H
          clear H
          have hcz46_0:wc.cell? ⟨gb237,0,none⟩=some (.int .i64 a1_0):=(blk_cell BK237.out 0).trans rfl
          have hcz46_1:wc.cell? ⟨gb237,1,none⟩=some (.int .i64 a1_1):=(blk_cell BK237.out 1).trans rfl
          have hcz46_2:wc.cell? ⟨gb237,2,none⟩=some (.int .i64 a1_2):=(blk_cell BK237.out 2).trans rfl
          have hcz46_3:wc.cell? ⟨gb237,3,none⟩=some (.int .i64 a1_3):=(blk_cell BK237.out 3).trans rfl
          have hcz46_4:wc.cell? ⟨gb237,4,none⟩=some (.int .i64 a1_4):=(blk_cell BK237.out 4).trans rfl
          have hcz46_5:wc.cell? ⟨gb237,5,none⟩=some (.slice A1_5 l1_5.length c1_5):=(blk_cell BK237.out 5).trans rfl
          have hcz46_6:wc.cell? ⟨gb237,6,none⟩=some (.slice A1_6 l1_6.length c1_6):=(blk_cell BK237.out 6).trans rfl
          have hcz46_7:wc.cell? ⟨gb237,7,none⟩=some (.slice A1_7 l1_7.length c1_7):=(blk_cell BK237.out 7).trans rfl
          have hfz46_0:=blk_frozen BK237.out 0
          have hfz46_1:=blk_frozen BK237.out 1
          have hfz46_2:=blk_frozen BK237.out 2
          have hfz46_3:=blk_frozen BK237.out 3
          have hfz46_4:=blk_frozen BK237.out 4
          have hfz46_5:=blk_frozen BK237.out 5
          have hfz46_6:=blk_frozen BK237.out 6
          have hfz46_7:=blk_frozen BK237.out 7
          go_wp2_with (first|(go_at_call 29;(with_reducible refine (understudyref05_text.calls kj2 _ _ l0 (⟨#[67,111,100,101]⟩:ByteArray) t242 _ ?side1 ?side2 A41.out).mono ?_);(case side1 => repeat (first|exact (Kd.C_below HR0.out HB.out)|(with_reducible refine Kd.C_alloc ?_ _)|(with_reducible refine Kd.C_drewN ?_ _)|(with_reducible refine Kd.C_drew ?_)));(case side2 => exact HC0.out);rintro e w' ⟨rfl,⟨nd,rfl⟩⟩)|(go_at_call 29;(with_reducible refine (understudyref05_text.calls kj2 _ _ l0 (⟨#[83,116,97,99,107,77,97,112,84,97,98,108,101]⟩:ByteArray) t243 _ ?side1 ?side2 A45.out).mono ?_);(case side1 => repeat (first|exact (Kd.C_below HR0.out (by repeat (first|(with_reducible first|exact HB.out|apply below_alloc|apply pw_below_drewN|apply below_drew1|refine below_set ?_ GE237.out)|exact HB.out)))|(with_reducible refine Kd.C_alloc ?_ _)|(with_reducible refine Kd.C_drewN ?_ _)|(with_reducible refine Kd.C_drew ?_)));(case side2 => exact HC0.out);rintro e w' ⟨rfl,⟨nd,rfl⟩⟩))
          go_meet
          case rel => exact ⟨_,((t243==0)),(by first|rfl|(simp;done)|(simp [*];done)),H',⟨by have:=HJ2.out;first|omega|exact Nat.le_refl _⟩,⟨by (with_reducible repeat (first|refine blk_drewN ?_ _|refine blk_drew ?_|refine blk_alloc ?_ _));exact BK237.out⟩,⟨by repeat (first|(with_reducible first|exact HB.out|apply below_alloc|apply pw_below_drewN|apply below_drew1|refine below_set ?_ GE237.out)|exact HB.out)⟩⟩
         ·rw [if_neg c44] at H
          have c44b0:decide (0 < (l1_7.length:Int))=false:=decide_eq_false c44
          have c44b1:decide (0 < l1_7.length)=false:=decide_eq_false (by omega)
          clear c44
          have H':=Aside0.mk H
          clear H
          have hcz47_0:wc.cell? ⟨gb237,0,none⟩=some (.int .i64 a1_0):=(blk_cell BK237.out 0).trans rfl
          have hcz47_1:wc.cell? ⟨gb237,1,none⟩=some (.int .i64 a1_1):=(blk_cell BK237.out 1).trans rfl
          have hcz47_2:wc.cell? ⟨gb237,2,none⟩=some (.int .i64 a1_2):=(blk_cell BK237.out 2).trans rfl
          have hcz47_3:wc.cell? ⟨gb237,3,none⟩=some (.int .i64 a1_3):=(blk_cell BK237.out 3).trans rfl
          have hcz47_4:wc.cell? ⟨gb237,4,none⟩=some (.int .i64 a1_4):=(blk_cell BK237.out 4).trans rfl
          have hcz47_5:wc.cell? ⟨gb237,5,none⟩=some (.slice A1_5 l1_5.length c1_5):=(blk_cell BK237.out 5).trans rfl
          have hcz47_6:wc.cell? ⟨gb237,6,none⟩=some (.slice A1_6 l1_6.length c1_6):=(blk_cell BK237.out 6).trans rfl
          have hcz47_7:wc.cell? ⟨gb237,7,none⟩=some (.slice A1_7 l1_7.length c1_7):=(blk_cell BK237.out 7).trans rfl
          have hfz47_0:=blk_frozen BK237.out 0
          have hfz47_1:=blk_frozen BK237.out 1
          have hfz47_2:=blk_frozen BK237.out 2
          have hfz47_3:=blk_frozen BK237.out 3
          have hfz47_4:=blk_frozen BK237.out 4
          have hfz47_5:=blk_frozen BK237.out 5
          have hfz47_6:=blk_frozen BK237.out 6
          have hfz47_7:=blk_frozen BK237.out 7
          go_wp2_with (first|(go_at_call 29;(with_reducible refine (understudyref05_text.calls kj2 _ _ l0 (⟨#[67,111,100,101]⟩:ByteArray) t242 _ ?side1 ?side2 A41.out).mono ?_);(case side1 => repeat (first|exact (Kd.C_below HR0.out HB.out)|(with_reducible refine Kd.C_alloc ?_ _)|(with_reducible refine Kd.C_drewN ?_ _)|(with_reducible refine Kd.C_drew ?_)));(case side2 => exact HC0.out);rintro e w' ⟨rfl,⟨nd,rfl⟩⟩))
          go_meet
          case rel => exact ⟨_,(false),(by first|rfl|(simp;done)|(simp [*];done)),H',⟨by have:=HJ2.out;first|omega|exact Nat.le_refl _⟩,⟨by (with_reducible repeat (first|refine blk_drewN ?_ _|refine blk_drew ?_|refine blk_alloc ?_ _));exact BK237.out⟩,⟨by repeat (first|(with_reducible first|exact HB.out|apply below_alloc|apply pw_below_drewN|apply below_drew1|refine below_set ?_ GE237.out)|exact HB.out)⟩⟩
    case rest =>
     clear HC35
     try clear c1;try clear c2;try clear p2;try clear c3;try clear c4;try clear c5;try clear c5b0;try clear c5b1;try clear c7;try clear c9;try clear c10;try clear c10b0;try clear c12;try clear c12b0;try clear c14;try clear c14b0;try clear c19;try clear c19b0;try clear c19b1;try clear c21;try clear c23;try clear c24;try clear c24b0;try clear c26;try clear c26b0;try clear c28;try clear c28b0;try clear c34;try clear c37;try clear c37b0;try clear c37b1;try clear c38;try clear c38b0;try clear c38b1;try clear c39;try clear c39b0;try clear c39b1;try clear c42;try clear c42b0;try clear c42b1;try clear c44;try clear c44b0;try clear c44b1;try clear hcz11_0;try clear hcz11_1;try clear hcz11_2;try clear hcz11_3;try clear hcz11_4;try clear hcz11_5;try clear hcz11_6;try clear hcz11_7;try clear hcz13_0;try clear hcz13_1;try clear hcz13_2;try clear hcz13_3;try clear hcz13_4;try clear hcz13_5;try clear hcz13_6;try clear hcz13_7;try clear hcz15_0;try clear hcz15_1;try clear hcz15_2;try clear hcz15_3;try clear hcz15_4;try clear hcz15_5;try clear hcz15_6;try clear hcz15_7;try clear hcz16_0;try clear hcz16_1;try clear hcz16_2;try clear hcz16_3;try clear hcz16_4;try clear hcz16_5;try clear hcz16_6;try clear hcz16_7;try clear hcz17_0;try clear hcz17_1;try clear hcz17_2;try clear hcz17_3;try clear hcz17_4;try clear hcz17_5;try clear hcz17_6;try clear hcz17_7;try clear hcz18_0;try clear hcz18_1;try clear hcz18_2;try clear hcz18_3;try clear hcz18_4;try clear hcz18_5;try clear hcz18_6;try clear hcz18_7;try clear hcz25_0;try clear hcz25_1;try clear hcz25_2;try clear hcz25_3;try clear hcz25_4;try clear hcz25_5;try clear hcz25_6;try clear hcz25_7;try clear hcz27_0;try clear hcz27_1;try clear hcz27_2;try clear hcz27_3;try clear hcz27_4;try clear hcz27_5;try clear hcz27_6;try clear hcz27_7;try clear hcz29_0;try clear hcz29_1;try clear hcz29_2;try clear hcz29_3;try clear hcz29_4;try clear hcz29_5;try clear hcz29_6;try clear hcz29_7;try clear hcz30_0;try clear hcz30_1;try clear hcz30_2;try clear hcz30_3;try clear hcz30_4;try clear hcz30_5;try clear hcz30_6;try clear hcz30_7;try clear hcz31_0;try clear hcz31_1;try clear hcz31_2;try clear hcz31_3;try clear hcz31_4;try clear hcz31_5;try clear hcz31_6;try clear hcz31_7;try clear hcz32_0;try clear hcz32_1;try clear hcz32_2;try clear hcz32_3;try clear hcz32_4;try clear hcz32_5;try clear hcz32_6;try clear hcz32_7;try clear hcz33_0;try clear hcz33_1;try clear hcz33_2;try clear hcz33_3;try clear hcz33_4;try clear hcz33_5;try clear hcz33_6;try clear hcz33_7;try clear hcz36_0;try clear hcz36_1;try clear hcz36_2;try clear hcz36_3;try clear hcz36_4;try clear hcz36_5;try clear hcz36_6;try clear hcz36_7;try clear hcz40_0;try clear hcz40_1;try clear hcz40_2;try clear hcz40_3;try clear hcz40_4;try clear hcz40_5;try clear hcz40_6;try clear hcz40_7;try clear hcz43_0;try clear hcz43_1;try clear hcz43_2;try clear hcz43_3;try clear hcz43_4;try clear hcz43_5;try clear hcz43_6;try clear hcz43_7;try clear hcz46_0;try clear hcz46_1;try clear hcz46_2;try clear hcz46_3;try clear hcz46_4;try clear hcz46_5;try clear hcz46_6;try clear hcz46_7;try clear hcz47_0;try clear hcz47_1;try clear hcz47_2;try clear hcz47_3;try clear hcz47_4;try clear hcz47_5;try clear hcz47_6;try clear hcz47_7;try clear hfz11_0;try clear hfz11_1;try clear hfz11_2;try clear hfz11_3;try clear hfz11_4;try clear hfz11_5;try clear hfz11_6;try clear hfz11_7;try clear hfz13_0;try clear hfz13_1;try clear hfz13_2;try clear hfz13_3;try clear hfz13_4;try clear hfz13_5;try clear hfz13_6;try clear hfz13_7;try clear hfz15_0;try clear hfz15_1;try clear hfz15_2;try clear hfz15_3;try clear hfz15_4;try clear hfz15_5;try clear hfz15_6;try clear hfz15_7;try clear hfz16_0;try clear hfz16_1;try clear hfz16_2;try clear hfz16_3;try clear hfz16_4;try clear hfz16_5;try clear hfz16_6;try clear hfz16_7;try clear hfz17_0;try clear hfz17_1;try clear hfz17_2;try clear hfz17_3;try clear hfz17_4;try clear hfz17_5;try clear hfz17_6;try clear hfz17_7;try clear hfz18_0;try clear hfz18_1;try clear hfz18_2;try clear hfz18_3;try clear hfz18_4;try clear hfz18_5;try clear hfz18_6;try clear hfz18_7;try clear hfz25_0;try clear hfz25_1;try clear hfz25_2;try clear hfz25_3;try clear hfz25_4;try clear hfz25_5;try clear hfz25_6;try clear hfz25_7;try clear hfz27_0;try clear hfz27_1;try clear hfz27_2;try clear hfz27_3;try clear hfz27_4;try clear hfz27_5;try clear hfz27_6;try clear hfz27_7;try clear hfz29_0;try clear hfz29_1;try clear hfz29_2;try clear hfz29_3;try clear hfz29_4;try clear hfz29_5;try clear hfz29_6;try clear hfz29_7;try clear hfz30_0;try clear hfz30_1;try clear hfz30_2;try clear hfz30_3;try clear hfz30_4;try clear hfz30_5;try clear hfz30_6;try clear hfz30_7;try clear hfz31_0;try clear hfz31_1;try clear hfz31_2;try clear hfz31_3;try clear hfz31_4;try clear hfz31_5;try clear hfz31_6;try clear hfz31_7;try clear hfz32_0;try clear hfz32_1;try clear hfz32_2;try clear hfz32_3;try clear hfz32_4;try clear hfz32_5;try clear hfz32_6;try clear hfz32_7;try clear hfz33_0;try clear hfz33_1;try clear hfz33_2;try clear hfz33_3;try clear hfz33_4;try clear hfz33_5;try clear hfz33_6;try clear hfz33_7;try clear hfz36_0;try clear hfz36_1;try clear hfz36_2;try clear hfz36_3;try clear hfz36_4;try clear hfz36_5;try clear hfz36_6;try clear hfz36_7;try clear hfz40_0;try clear hfz40_1;try clear hfz40_2;try clear hfz40_3;try clear hfz40_4;try clear hfz40_5;try clear hfz40_6;try clear hfz40_7;try clear hfz43_0;try clear hfz43_1;try clear hfz43_2;try clear hfz43_3;try clear hfz43_4;try clear hfz43_5;try clear hfz43_6;try clear hfz43_7;try clear hfz46_0;try clear hfz46_1;try clear hfz46_2;try clear hfz46_3;try clear hfz46_4;try clear hfz46_5;try clear hfz46_6;try clear hfz46_7;try clear hfz47_0;try clear hfz47_1;try clear hfz47_2;try clear hfz47_3;try clear hfz47_4;try clear hfz47_5;try clear hfz47_6;try clear hfz47_7;try clear p2
     obtain ⟨kq,x80_34,rfl,HA,HJ34,BK237,HB⟩:=hcut
     cases kq with
     | zero => exact absurd HA.out (by simp [understudyref05_method.j1])
     | succ kj34 =>
      have H:=HA.out
      clear HA
      simp only [understudyref05_method.j1] at H
      by_cases c48:x80_34=true
      ·subst c48
       have H1:(some false)=some r:=by rw [if_pos rfl] at H;exact H
       clear H
       have H:=H1
       clear H1
       obtain rfl:=Option.some.inj H
       go_wp2
       go_ret
       exact ⟨by first|rfl|(simp [errW_none,errW_some] <;> rfl)|(simp [*,errW_none,errW_some] <;> rfl),by repeat (first|(with_reducible first|exact HB.out|apply below_alloc|apply pw_below_drewN|apply below_drew1|refine below_set ?_ GE237.out)|exact HB.out)⟩
      ·replace c48:=Bool.eq_false_iff.mpr c48
       subst c48
       have H1:(understudyref05_method.l0 kj34 l0 (l1_5.length:Int) 0 a1_0 a1_1 a1_2 a1_3 a1_4 l1_5 l1_6 l1_7)=some r:=by rw [if_neg (show ¬ (false=true) by decide)] at H;exact H
       clear H
       have H:=H1
       clear H1
       have H':=Aside0.mk H
       clear H
       go_wp2
       go_loopg [6] kj34 (fun kq v6 w' => ∃ (x6_3:Int),v6=.int .i64 x6_3∧Aside0 (understudyref05_method.l0 kq l0 (l1_5.length:Int) x6_3 a1_0 a1_1 a1_2 a1_3 a1_4 l1_5 l1_6 l1_7=some r)∧Aside0 (kq≤kj34)∧Aside0 (w'.heap[gb237]?=some (.cells #[.int .i64 a1_0,.int .i64 a1_1,.int .i64 a1_2,.int .i64 a1_3,.int .i64 a1_4,(.slice A1_5 l1_5.length c1_5),(.slice A1_6 l1_6.length c1_6),(.slice A1_7 l1_7.length c1_7)] 37 (0,0)))∧Aside0 (Below w.heap.size w w'))
       case atStart => exact ⟨(0),(by first|rfl|(simp;done)|(simp [*];done)),H',⟨Nat.le_refl _⟩,⟨by (with_reducible repeat (first|refine blk_drewN ?_ _|refine blk_drew ?_|refine blk_alloc ?_ _));exact BK237.out⟩,⟨by repeat (first|(with_reducible first|exact HB.out|apply below_alloc|apply pw_below_drewN|apply below_drew1|refine below_set ?_ GE237.out)|exact HB.out)⟩⟩
       case round =>
        clear H'
        try clear c1;try clear c2;try clear p2;try clear c3;try clear c4;try clear c5;try clear c5b0;try clear c5b1;try clear c7;try clear c9;try clear c10;try clear c10b0;try clear c12;try clear c12b0;try clear c14;try clear c14b0;try clear c19;try clear c19b0;try clear c19b1;try clear c21;try clear c23;try clear c24;try clear c24b0;try clear c26;try clear c26b0;try clear c28;try clear c28b0;try clear c34;try clear c37;try clear c37b0;try clear c37b1;try clear c38;try clear c38b0;try clear c38b1;try clear c39;try clear c39b0;try clear c39b1;try clear c42;try clear c42b0;try clear c42b1;try clear c44;try clear c44b0;try clear c44b1;try clear c48;try clear hcz11_0;try clear hcz11_1;try clear hcz11_2;try clear hcz11_3;try clear hcz11_4;try clear hcz11_5;try clear hcz11_6;try clear hcz11_7;try clear hcz13_0;try clear hcz13_1;try clear hcz13_2;try clear hcz13_3;try clear hcz13_4;try clear hcz13_5;try clear hcz13_6;try clear hcz13_7;try clear hcz15_0;try clear hcz15_1;try clear hcz15_2;try clear hcz15_3;try clear hcz15_4;try clear hcz15_5;try clear hcz15_6;try clear hcz15_7;try clear hcz16_0;try clear hcz16_1;try clear hcz16_2;try clear hcz16_3;try clear hcz16_4;try clear hcz16_5;try clear hcz16_6;try clear hcz16_7;try clear hcz17_0;try clear hcz17_1;try clear hcz17_2;try clear hcz17_3;try clear hcz17_4;try clear hcz17_5;try clear hcz17_6;try clear hcz17_7;try clear hcz18_0;try clear hcz18_1;try clear hcz18_2;try clear hcz18_3;try clear hcz18_4;try clear hcz18_5;try clear hcz18_6;try clear hcz18_7;try clear hcz25_0;try clear hcz25_1;try clear hcz25_2;try clear hcz25_3;try clear hcz25_4;try clear hcz25_5;try clear hcz25_6;try clear hcz25_7;try clear hcz27_0;try clear hcz27_1;try clear hcz27_2;try clear hcz27_3;try clear hcz27_4;try clear hcz27_5;try clear hcz27_6;try clear hcz27_7;try clear hcz29_0;try clear hcz29_1;try clear hcz29_2;try clear hcz29_3;try clear hcz29_4;try clear hcz29_5;try clear hcz29_6;try clear hcz29_7;try clear hcz30_0;try clear hcz30_1;try clear hcz30_2;try clear hcz30_3;try clear hcz30_4;try clear hcz30_5;try clear hcz30_6;try clear hcz30_7;try clear hcz31_0;try clear hcz31_1;try clear hcz31_2;try clear hcz31_3;try clear hcz31_4;try clear hcz31_5;try clear hcz31_6;try clear hcz31_7;try clear hcz32_0;try clear hcz32_1;try clear hcz32_2;try clear hcz32_3;try clear hcz32_4;try clear hcz32_5;try clear hcz32_6;try clear hcz32_7;try clear hcz33_0;try clear hcz33_1;try clear hcz33_2;try clear hcz33_3;try clear hcz33_4;try clear hcz33_5;try clear hcz33_6;try clear hcz33_7;try clear hcz36_0;try clear hcz36_1;try clear hcz36_2;try clear hcz36_3;try clear hcz36_4;try clear hcz36_5;try clear hcz36_6;try clear hcz36_7;try clear hcz40_0;try clear hcz40_1;try clear hcz40_2;try clear hcz40_3;try clear hcz40_4;try clear hcz40_5;try clear hcz40_6;try clear hcz40_7;try clear hcz43_0;try clear hcz43_1;try clear hcz43_2;try clear hcz43_3;try clear hcz43_4;try clear hcz43_5;try clear hcz43_6;try clear hcz43_7;try clear hcz46_0;try clear hcz46_1;try clear hcz46_2;try clear hcz46_3;try clear hcz46_4;try clear hcz46_5;try clear hcz46_6;try clear hcz46_7;try clear hcz47_0;try clear hcz47_1;try clear hcz47_2;try clear hcz47_3;try clear hcz47_4;try clear hcz47_5;try clear hcz47_6;try clear hcz47_7;try clear hfz11_0;try clear hfz11_1;try clear hfz11_2;try clear hfz11_3;try clear hfz11_4;try clear hfz11_5;try clear hfz11_6;try clear hfz11_7;try clear hfz13_0;try clear hfz13_1;try clear hfz13_2;try clear hfz13_3;try clear hfz13_4;try clear hfz13_5;try clear hfz13_6;try clear hfz13_7;try clear hfz15_0;try clear hfz15_1;try clear hfz15_2;try clear hfz15_3;try clear hfz15_4;try clear hfz15_5;try clear hfz15_6;try clear hfz15_7;try clear hfz16_0;try clear hfz16_1;try clear hfz16_2;try clear hfz16_3;try clear hfz16_4;try clear hfz16_5;try clear hfz16_6;try clear hfz16_7;try clear hfz17_0;try clear hfz17_1;try clear hfz17_2;try clear hfz17_3;try clear hfz17_4;try clear hfz17_5;try clear hfz17_6;try clear hfz17_7;try clear hfz18_0;try clear hfz18_1;try clear hfz18_2;try clear hfz18_3;try clear hfz18_4;try clear hfz18_5;try clear hfz18_6;try clear hfz18_7;try clear hfz25_0;try clear hfz25_1;try clear hfz25_2;try clear hfz25_3;try clear hfz25_4;try clear hfz25_5;try clear hfz25_6;try clear hfz25_7;try clear hfz27_0;try clear hfz27_1;try clear hfz27_2;try clear hfz27_3;try clear hfz27_4;try clear hfz27_5;try clear hfz27_6;try clear hfz27_7;try clear hfz29_0;try clear hfz29_1;try clear hfz29_2;try clear hfz29_3;try clear hfz29_4;try clear hfz29_5;try clear hfz29_6;try clear hfz29_7;try clear hfz30_0;try clear hfz30_1;try clear hfz30_2;try clear hfz30_3;try clear hfz30_4;try clear hfz30_5;try clear hfz30_6;try clear hfz30_7;try clear hfz31_0;try clear hfz31_1;try clear hfz31_2;try clear hfz31_3;try clear hfz31_4;try clear hfz31_5;try clear hfz31_6;try clear hfz31_7;try clear hfz32_0;try clear hfz32_1;try clear hfz32_2;try clear hfz32_3;try clear hfz32_4;try clear hfz32_5;try clear hfz32_6;try clear hfz32_7;try clear hfz33_0;try clear hfz33_1;try clear hfz33_2;try clear hfz33_3;try clear hfz33_4;try clear hfz33_5;try clear hfz33_6;try clear hfz33_7;try clear hfz36_0;try clear hfz36_1;try clear hfz36_2;try clear hfz36_3;try clear hfz36_4;try clear hfz36_5;try clear hfz36_6;try clear hfz36_7;try clear hfz40_0;try clear hfz40_1;try clear hfz40_2;try clear hfz40_3;try clear hfz40_4;try clear hfz40_5;try clear hfz40_6;try clear hfz40_7;try clear hfz43_0;try clear hfz43_1;try clear hfz43_2;try clear hfz43_3;try clear hfz43_4;try clear hfz43_5;try clear hfz43_6;try clear hfz43_7;try clear hfz46_0;try clear hfz46_1;try clear hfz46_2;try clear hfz46_3;try clear hfz46_4;try clear hfz46_5;try clear hfz46_6;try clear hfz46_7;try clear hfz47_0;try clear hfz47_1;try clear hfz47_2;try clear hfz47_3;try clear hfz47_4;try clear hfz47_5;try clear hfz47_6;try clear hfz47_7;try clear p2
        obtain ⟨x6_3,rfl,HA,HK3,BK237,HB⟩:=hrel
        cases gk with
        | zero => exact absurd HA.out (by simp [understudyref05_method.l0])
        | succ k3 =>
         have H:=HA.out
         clear HA
         simp only [understudyref05_method.l0] at H
         by_cases c49:x6_3 < (l1_6.length:Int)
         ·rw [if_pos c49] at H
          have c49b0:decide (x6_3 < (l1_6.length:Int))=true:=decide_eq_true c49
          clear c49
          by_cases c50:0≤x6_3
          ·rw [if_pos c50] at H
           have c50b0:decide (0≤x6_3)=true:=decide_eq_true c50
           clear c50
           have HC51:=Aside0.mk H
           clear H
           have hcz52_0:wr.cell? ⟨gb237,0,none⟩=some (.int .i64 a1_0):=(blk_cell BK237.out 0).trans rfl
           have hcz52_1:wr.cell? ⟨gb237,1,none⟩=some (.int .i64 a1_1):=(blk_cell BK237.out 1).trans rfl
           have hcz52_2:wr.cell? ⟨gb237,2,none⟩=some (.int .i64 a1_2):=(blk_cell BK237.out 2).trans rfl
           have hcz52_3:wr.cell? ⟨gb237,3,none⟩=some (.int .i64 a1_3):=(blk_cell BK237.out 3).trans rfl
           have hcz52_4:wr.cell? ⟨gb237,4,none⟩=some (.int .i64 a1_4):=(blk_cell BK237.out 4).trans rfl
           have hcz52_5:wr.cell? ⟨gb237,5,none⟩=some (.slice A1_5 l1_5.length c1_5):=(blk_cell BK237.out 5).trans rfl
           have hcz52_6:wr.cell? ⟨gb237,6,none⟩=some (.slice A1_6 l1_6.length c1_6):=(blk_cell BK237.out 6).trans rfl
           have hcz52_7:wr.cell? ⟨gb237,7,none⟩=some (.slice A1_7 l1_7.length c1_7):=(blk_cell BK237.out 7).trans rfl
           have hfz52_0:=blk_frozen BK237.out 0
           have hfz52_1:=blk_frozen BK237.out 1
           have hfz52_2:=blk_frozen BK237.out 2
           have hfz52_3:=blk_frozen BK237.out 3
           have hfz52_4:=blk_frozen BK237.out 4
           have hfz52_5:=blk_frozen BK237.out 5
           have hfz52_6:=blk_frozen BK237.out 6
           have hfz52_7:=blk_frozen BK237.out 7
           have p244:0≤(x6_3:Int):=of_decide_eq_true (by first|(with_reducible assumption)|assumption)
           have q244:x6_3 < (l1_6.length:Int):=of_decide_eq_true (by first|(with_reducible assumption)|assumption)
           obtain ⟨ad244,e244,hx244_0,hx244_1,hx244_2,hx244_3⟩:=at_T62 HR1_6.out x6_3 p244 q244
           cases e244
           replace hx244_0:=(HB.out.cell (World.block_lt_of_cell? w _ hx244_0)).trans hx244_0
           replace hx244_1:=(HB.out.cell (World.block_lt_of_cell? w _ hx244_1)).trans hx244_1
           replace hx244_2:=(HB.out.cell (World.block_lt_of_cell? w _ hx244_2)).trans hx244_2
           replace hx244_3:=(HB.out.cell (World.block_lt_of_cell? w _ hx244_3)).trans hx244_3
           replace p244:=eq_true p244
           replace q244:=eq_true q244
           go_upto_region 10 with (first|((with_reducible refine gate_dst (N:=7) rfl ?_);(try (refine gate_guard (by rfl) ?_;dsimp only));refine box_event ?hg (N:=7) ?hd (cs:=#[.int .i64 0,.int .i64 0,.int .i64 0,.int .i64 0]) (t:=62) ?hr ?_;(case hd => rfl);(case hg => rfl);(case hr => first|(go_simp;done)|(go_simp;rfl));intro gb245 hg w53 hbox hb;have n0_:=Aside0.mk (blk_below (g:=gb237) (o:=.cells #[.int .i64 a1_0,.int .i64 a1_1,.int .i64 a1_2,.int .i64 a1_3,.int .i64 a1_4,.slice A1_5 l1_5.length c1_5,.slice (some ad244) l1_6.length c1_6,.slice A1_7 l1_7.length c1_7] 37 (0,0)) (by (with_reducible repeat (first|refine blk_drewN ?_ _|refine blk_drew ?_|refine blk_alloc ?_ _));exact BK237.out) hb);have n1_:=Aside0.mk (below_step (by repeat (first|(with_reducible first|exact HB.out|apply below_alloc|apply pw_below_drewN|apply below_drew1|refine below_set ?_ GE237.out)|exact HB.out)) hb);have n2_:=Aside0.mk (hbox);have n3_:=Aside0.mk ((by rw [hg];exact (below_size (by repeat (first|(with_reducible first|exact HB.out|apply below_alloc|apply pw_below_drewN|apply below_drew1|refine below_set ?_ GE237.out)|exact HB.out))):w.heap.size≤gb245));have n4_:=Aside0.mk ((by rw [hg];exact (below_size (by repeat (first|(with_reducible first|exact HB.out|apply below_alloc|apply pw_below_drewN|apply below_drew1|refine below_set ?_ GE237.out)|exact HB.out))):w.heap.size≤gb245));have n5_:=Aside0.mk ((by rw [hg];exact Nat.ne_of_lt (blk_lt (g:=gb237) (o:=.cells #[.int .i64 a1_0,.int .i64 a1_1,.int .i64 a1_2,.int .i64 a1_3,.int .i64 a1_4,.slice A1_5 l1_5.length c1_5,.slice (some ad244) l1_6.length c1_6,.slice A1_7 l1_7.length c1_7] 37 (0,0)) (by (with_reducible repeat (first|refine blk_drewN ?_ _|refine blk_drew ?_|refine blk_alloc ?_ _));exact BK237.out)):gb237 ≠ gb245));have n6_:=Aside0.mk ((by rw [hg];exact Nat.ne_of_gt (blk_lt (g:=gb237) (o:=.cells #[.int .i64 a1_0,.int .i64 a1_1,.int .i64 a1_2,.int .i64 a1_3,.int .i64 a1_4,.slice A1_5 l1_5.length c1_5,.slice (some ad244) l1_6.length c1_6,.slice A1_7 l1_7.length c1_7] 37 (0,0)) (by (with_reducible repeat (first|refine blk_drewN ?_ _|refine blk_drew ?_|refine blk_alloc ?_ _));exact BK237.out)):gb245 ≠ gb237));clear BK237;clear HB;have BK237:=n0_;have HB:=n1_;have BK245:=n2_;have GW245:=n3_;have GE245:=n4_;have NB237_245:=n5_;have NB245_237:=n6_;clear n0_ n1_ n2_ n3_ n4_ n5_ n6_;clear hb hbox hg;have hnb54:=NB245_237.out;have hnc54:=NB237_245.out;have hcz55_0:w53.cell? ⟨gb245,0,none⟩=some (.int .i64 0):=(blk_cell BK245.out 0).trans rfl;have hcz55_1:w53.cell? ⟨gb245,1,none⟩=some (.int .i64 0):=(blk_cell BK245.out 1).trans rfl;have hcz55_2:w53.cell? ⟨gb245,2,none⟩=some (.int .i64 0):=(blk_cell BK245.out 2).trans rfl;have hcz55_3:w53.cell? ⟨gb245,3,none⟩=some (.int .i64 0):=(blk_cell BK245.out 3).trans rfl;have hfz55_0:=blk_frozen BK245.out 0;have hfz55_1:=blk_frozen BK245.out 1;have hfz55_2:=blk_frozen BK245.out 2;have hfz55_3:=blk_frozen BK245.out 3))
           (try simp only [Act.put,List.setIfInBounds_toArray,List.set_cons_zero,List.set_cons_succ])
           go_cut [131] (fun v131 wc => ∃ (kq:Nat) (x131_50:Bool),v131=.bool x131_50∧Aside0 (understudyref05_method.j3 kq l0 (l1_5.length:Int) x6_3 x131_50 a1_0 a1_1 a1_2 a1_3 a1_4 l1_5 l1_6 l1_7=some r)∧Aside0 (kq≤k3)∧Aside0 (wc.heap[gb237]?=some (.cells #[.int .i64 a1_0,.int .i64 a1_1,.int .i64 a1_2,.int .i64 a1_3,.int .i64 a1_4,(.slice A1_5 l1_5.length c1_5),(.slice (some ad244) l1_6.length c1_6),(.slice A1_7 l1_7.length c1_7)] 37 (0,0)))∧Aside0 (wc.heap[gb245]?=some (.cells #[.int .i64 ((rd_T62 l1_6 x6_3).f0),.int .i64 ((rd_T62 l1_6 x6_3).f1),.int .i64 ((rd_T62 l1_6 x6_3).f2),.int .i64 ((rd_T62 l1_6 x6_3).f3)] 62 (0,0)))∧Aside0 (Below w.heap.size w wc))
           case first =>
            have H:=HC51.out
            clear HC51
            by_cases c56:((rd_T62 l1_6 x6_3).f0) < 0
            ·rw [if_pos c56] at H
             have c56b0:decide (((rd_T62 l1_6 x6_3).f0) < 0)=true:=decide_eq_true c56
             clear c56
             (first|rw [c56b0]|(simp only [i64_w,i32_w];rw [c56b0])|skip)
             have H':=Aside0.mk H
             clear H
             have hnb57:=NB245_237.out
             have hnc57:=NB237_245.out
             have hcz58_0:w53.cell? ⟨gb245,0,none⟩=some (.int .i64 0):=(blk_cell BK245.out 0).trans rfl
             have hcz58_1:w53.cell? ⟨gb245,1,none⟩=some (.int .i64 0):=(blk_cell BK245.out 1).trans rfl
             have hcz58_2:w53.cell? ⟨gb245,2,none⟩=some (.int .i64 0):=(blk_cell BK245.out 2).trans rfl
             have hcz58_3:w53.cell? ⟨gb245,3,none⟩=some (.int .i64 0):=(blk_cell BK245.out 3).trans rfl
             have hfz58_0:=blk_frozen BK245.out 0
             have hfz58_1:=blk_frozen BK245.out 1
             have hfz58_2:=blk_frozen BK245.out 2
             have hfz58_3:=blk_frozen BK245.out 3
             go_wp2
             go_meet
             case rel => exact ⟨_,(true),(by first|rfl|(simp;done)|(simp [*];done)),H',⟨by have:=HJ2.out;have:=HJ34.out;have:=HK3.out;first|omega|exact Nat.le_refl _⟩,⟨by (with_reducible repeat (first|refine blk_drewN ?_ _|refine blk_drew ?_|refine blk_alloc ?_ _));refine blk_far ?_ NB237_245.out _;(with_reducible repeat (first|refine blk_drewN ?_ _|refine blk_drew ?_|refine blk_alloc ?_ _));refine blk_far ?_ NB237_245.out _;(with_reducible repeat (first|refine blk_drewN ?_ _|refine blk_drew ?_|refine blk_alloc ?_ _));refine blk_far ?_ NB237_245.out _;(with_reducible repeat (first|refine blk_drewN ?_ _|refine blk_drew ?_|refine blk_alloc ?_ _));refine blk_far ?_ NB237_245.out _;(with_reducible repeat (first|refine blk_drewN ?_ _|refine blk_drew ?_|refine blk_alloc ?_ _));exact BK237.out⟩,⟨by (with_reducible repeat (first|refine blk_drewN ?_ _|refine blk_drew ?_|refine blk_alloc ?_ _));refine blk_put (cs:=#[.int .i64 ((rd_T62 l1_6 x6_3).f0),.int .i64 ((rd_T62 l1_6 x6_3).f1),.int .i64 ((rd_T62 l1_6 x6_3).f2),.int .i64 0]) ?_ 3 _ rfl;(with_reducible repeat (first|refine blk_drewN ?_ _|refine blk_drew ?_|refine blk_alloc ?_ _));refine blk_put (cs:=#[.int .i64 ((rd_T62 l1_6 x6_3).f0),.int .i64 ((rd_T62 l1_6 x6_3).f1),.int .i64 0,.int .i64 0]) ?_ 2 _ rfl;(with_reducible repeat (first|refine blk_drewN ?_ _|refine blk_drew ?_|refine blk_alloc ?_ _));refine blk_put (cs:=#[.int .i64 ((rd_T62 l1_6 x6_3).f0),.int .i64 0,.int .i64 0,.int .i64 0]) ?_ 1 _ rfl;(with_reducible repeat (first|refine blk_drewN ?_ _|refine blk_drew ?_|refine blk_alloc ?_ _));refine blk_put (cs:=#[.int .i64 0,.int .i64 0,.int .i64 0,.int .i64 0]) ?_ 0 _ rfl;(with_reducible repeat (first|refine blk_drewN ?_ _|refine blk_drew ?_|refine blk_alloc ?_ _));exact BK245.out⟩,⟨by repeat (first|(with_reducible first|exact HB.out|apply below_alloc|apply pw_below_drewN|apply below_drew1|refine below_set ?_ GE237.out|refine below_set ?_ GE245.out)|exact HB.out)⟩⟩
            ·rw [if_neg c56] at H
             have c56b0:decide (((rd_T62 l1_6 x6_3).f0) < 0)=false:=decide_eq_false c56
             clear c56
             (first|rw [c56b0]|(simp only [i64_w,i32_w];rw [c56b0])|skip)
             by_cases c59:((rd_T62 l1_6 x6_3).f0) ≥ ((rd_T62 l1_6 x6_3).f1)
             ·rw [if_pos c59] at H
              have c59b0:decide (((rd_T62 l1_6 x6_3).f1)≤((rd_T62 l1_6 x6_3).f0))=true:=decide_eq_true c59
              clear c59
              have H':=Aside0.mk H
              clear H
              have hnb60:=NB245_237.out
              have hnc60:=NB237_245.out
              have hcz61_0:w53.cell? ⟨gb245,0,none⟩=some (.int .i64 0):=(blk_cell BK245.out 0).trans rfl
              have hcz61_1:w53.cell? ⟨gb245,1,none⟩=some (.int .i64 0):=(blk_cell BK245.out 1).trans rfl
              have hcz61_2:w53.cell? ⟨gb245,2,none⟩=some (.int .i64 0):=(blk_cell BK245.out 2).trans rfl
              have hcz61_3:w53.cell? ⟨gb245,3,none⟩=some (.int .i64 0):=(blk_cell BK245.out 3).trans rfl
              have hfz61_0:=blk_frozen BK245.out 0
              have hfz61_1:=blk_frozen BK245.out 1
              have hfz61_2:=blk_frozen BK245.out 2
              have hfz61_3:=blk_frozen BK245.out 3
              go_wp2
              go_meet
              case rel => exact ⟨_,(true),(by first|rfl|(simp;done)|(simp [*];done)),H',⟨by have:=HJ2.out;have:=HJ34.out;have:=HK3.out;first|omega|exact Nat.le_refl _⟩,⟨by (with_reducible repeat (first|refine blk_drewN ?_ _|refine blk_drew ?_|refine blk_alloc ?_ _));refine blk_far ?_ NB237_245.out _;(with_reducible repeat (first|refine blk_drewN ?_ _|refine blk_drew ?_|refine blk_alloc ?_ _));refine blk_far ?_ NB237_245.out _;(with_reducible repeat (first|refine blk_drewN ?_ _|refine blk_drew ?_|refine blk_alloc ?_ _));refine blk_far ?_ NB237_245.out _;(with_reducible repeat (first|refine blk_drewN ?_ _|refine blk_drew ?_|refine blk_alloc ?_ _));refine blk_far ?_ NB237_245.out _;(with_reducible repeat (first|refine blk_drewN ?_ _|refine blk_drew ?_|refine blk_alloc ?_ _));exact BK237.out⟩,⟨by (with_reducible repeat (first|refine blk_drewN ?_ _|refine blk_drew ?_|refine blk_alloc ?_ _));refine blk_put (cs:=#[.int .i64 ((rd_T62 l1_6 x6_3).f0),.int .i64 ((rd_T62 l1_6 x6_3).f1),.int .i64 ((rd_T62 l1_6 x6_3).f2),.int .i64 0]) ?_ 3 _ rfl;(with_reducible repeat (first|refine blk_drewN ?_ _|refine blk_drew ?_|refine blk_alloc ?_ _));refine blk_put (cs:=#[.int .i64 ((rd_T62 l1_6 x6_3).f0),.int .i64 ((rd_T62 l1_6 x6_3).f1),.int .i64 0,.int .i64 0]) ?_ 2 _ rfl;(with_reducible repeat (first|refine blk_drewN ?_ _|refine blk_drew ?_|refine blk_alloc ?_ _));refine blk_put (cs:=#[.int .i64 ((rd_T62 l1_6 x6_3).f0),.int .i64 0,.int .i64 0,.int .i64 0]) ?_ 1 _ rfl;(with_reducible repeat (first|refine blk_drewN ?_ _|refine blk_drew ?_|refine blk_alloc ?_ _));refine blk_put (cs:=#[.int .i64 0,.int .i64 0,.int .i64 0,.int .i64 0]) ?_ 0 _ rfl;(with_reducible repeat (first|refine blk_drewN ?_ _|refine blk_drew ?_|refine blk_alloc ?_ _));exact BK245.out⟩,⟨by repeat (first|(with_reducible first|exact HB.out|apply below_alloc|apply pw_below_drewN|apply below_drew1|refine below_set ?_ GE237.out|refine below_set ?_ GE245.out)|exact HB.out)⟩⟩
             ·rw [if_neg c59] at H
              have c59b0:decide (((rd_T62 l1_6 x6_3).f1)≤((rd_T62 l1_6 x6_3).f0))=false:=decide_eq_false c59
              clear c59
              by_cases c62:((rd_T62 l1_6 x6_3).f1) > (l1_5.length:Int)
              ·rw [if_pos c62] at H
               have c62b0:decide ((l1_5.length:Int) < ((rd_T62 l1_6 x6_3).f1))=true:=decide_eq_true c62
               clear c62
               have H':=Aside0.mk H
               clear H
               have hnb63:=NB245_237.out
               have hnc63:=NB237_245.out
               have hcz64_0:w53.cell? ⟨gb245,0,none⟩=some (.int .i64 0):=(blk_cell BK245.out 0).trans rfl
               have hcz64_1:w53.cell? ⟨gb245,1,none⟩=some (.int .i64 0):=(blk_cell BK245.out 1).trans rfl
               have hcz64_2:w53.cell? ⟨gb245,2,none⟩=some (.int .i64 0):=(blk_cell BK245.out 2).trans rfl
               have hcz64_3:w53.cell? ⟨gb245,3,none⟩=some (.int .i64 0):=(blk_cell BK245.out 3).trans rfl
               have hfz64_0:=blk_frozen BK245.out 0
               have hfz64_1:=blk_frozen BK245.out 1
               have hfz64_2:=blk_frozen BK245.out 2
               have hfz64_3:=blk_frozen BK245.out 3
               go_wp2
               go_meet
               case rel => exact ⟨_,(true),(by first|rfl|(simp;done)|(simp [*];done)),H',⟨by have:=HJ2.out;have:=HJ34.out;have:=HK3.out;first|omega|exact Nat.le_refl _⟩,⟨by (with_reducible repeat (first|refine blk_drewN ?_ _|refine blk_drew ?_|refine blk_alloc ?_ _));refine blk_far ?_ NB237_245.out _;(with_reducible repeat (first|refine blk_drewN ?_ _|refine blk_drew ?_|refine blk_alloc ?_ _));refine blk_far ?_ NB237_245.out _;(with_reducible repeat (first|refine blk_drewN ?_ _|refine blk_drew ?_|refine blk_alloc ?_ _));refine blk_far ?_ NB237_245.out _;(with_reducible repeat (first|refine blk_drewN ?_ _|refine blk_drew ?_|refine blk_alloc ?_ _));refine blk_far ?_ NB237_245.out _;(with_reducible repeat (first|refine blk_drewN ?_ _|refine blk_drew ?_|refine blk_alloc ?_ _));exact BK237.out⟩,⟨by (with_reducible repeat (first|refine blk_drewN ?_ _|refine blk_drew ?_|refine blk_alloc ?_ _));refine blk_put (cs:=#[.int .i64 ((rd_T62 l1_6 x6_3).f0),.int .i64 ((rd_T62 l1_6 x6_3).f1),.int .i64 ((rd_T62 l1_6 x6_3).f2),.int .i64 0]) ?_ 3 _ rfl;(with_reducible repeat (first|refine blk_drewN ?_ _|refine blk_drew ?_|refine blk_alloc ?_ _));refine blk_put (cs:=#[.int .i64 ((rd_T62 l1_6 x6_3).f0),.int .i64 ((rd_T62 l1_6 x6_3).f1),.int .i64 0,.int .i64 0]) ?_ 2 _ rfl;(with_reducible repeat (first|refine blk_drewN ?_ _|refine blk_drew ?_|refine blk_alloc ?_ _));refine blk_put (cs:=#[.int .i64 ((rd_T62 l1_6 x6_3).f0),.int .i64 0,.int .i64 0,.int .i64 0]) ?_ 1 _ rfl;(with_reducible repeat (first|refine blk_drewN ?_ _|refine blk_drew ?_|refine blk_alloc ?_ _));refine blk_put (cs:=#[.int .i64 0,.int .i64 0,.int .i64 0,.int .i64 0]) ?_ 0 _ rfl;(with_reducible repeat (first|refine blk_drewN ?_ _|refine blk_drew ?_|refine blk_alloc ?_ _));exact BK245.out⟩,⟨by repeat (first|(with_reducible first|exact HB.out|apply below_alloc|apply pw_below_drewN|apply below_drew1|refine below_set ?_ GE237.out|refine below_set ?_ GE245.out)|exact HB.out)⟩⟩
              ·rw [if_neg c62] at H
               have c62b0:decide ((l1_5.length:Int) < ((rd_T62 l1_6 x6_3).f1))=false:=decide_eq_false c62
               clear c62
               by_cases c65:((rd_T62 l1_6 x6_3).f2) < 0
               ·rw [if_pos c65] at H
                have c65b0:decide (((rd_T62 l1_6 x6_3).f2) < 0)=true:=decide_eq_true c65
                clear c65
                have H':=Aside0.mk H
                clear H
                have hnb66:=NB245_237.out
                have hnc66:=NB237_245.out
                have hcz67_0:w53.cell? ⟨gb245,0,none⟩=some (.int .i64 0):=(blk_cell BK245.out 0).trans rfl
                have hcz67_1:w53.cell? ⟨gb245,1,none⟩=some (.int .i64 0):=(blk_cell BK245.out 1).trans rfl
                have hcz67_2:w53.cell? ⟨gb245,2,none⟩=some (.int .i64 0):=(blk_cell BK245.out 2).trans rfl
                have hcz67_3:w53.cell? ⟨gb245,3,none⟩=some (.int .i64 0):=(blk_cell BK245.out 3).trans rfl
                have hfz67_0:=blk_frozen BK245.out 0
                have hfz67_1:=blk_frozen BK245.out 1
                have hfz67_2:=blk_frozen BK245.out 2
                have hfz67_3:=blk_frozen BK245.out 3
                go_wp2
                go_meet
                case rel => exact ⟨_,(true),(by first|rfl|(simp;done)|(simp [*];done)),H',⟨by have:=HJ2.out;have:=HJ34.out;have:=HK3.out;first|omega|exact Nat.le_refl _⟩,⟨by (with_reducible repeat (first|refine blk_drewN ?_ _|refine blk_drew ?_|refine blk_alloc ?_ _));refine blk_far ?_ NB237_245.out _;(with_reducible repeat (first|refine blk_drewN ?_ _|refine blk_drew ?_|refine blk_alloc ?_ _));refine blk_far ?_ NB237_245.out _;(with_reducible repeat (first|refine blk_drewN ?_ _|refine blk_drew ?_|refine blk_alloc ?_ _));refine blk_far ?_ NB237_245.out _;(with_reducible repeat (first|refine blk_drewN ?_ _|refine blk_drew ?_|refine blk_alloc ?_ _));refine blk_far ?_ NB237_245.out _;(with_reducible repeat (first|refine blk_drewN ?_ _|refine blk_drew ?_|refine blk_alloc ?_ _));exact BK237.out⟩,⟨by (with_reducible repeat (first|refine blk_drewN ?_ _|refine blk_drew ?_|refine blk_alloc ?_ _));refine blk_put (cs:=#[.int .i64 ((rd_T62 l1_6 x6_3).f0),.int .i64 ((rd_T62 l1_6 x6_3).f1),.int .i64 ((rd_T62 l1_6 x6_3).f2),.int .i64 0]) ?_ 3 _ rfl;(with_reducible repeat (first|refine blk_drewN ?_ _|refine blk_drew ?_|refine blk_alloc ?_ _));refine blk_put (cs:=#[.int .i64 ((rd_T62 l1_6 x6_3).f0),.int .i64 ((rd_T62 l1_6 x6_3).f1),.int .i64 0,.int .i64 0]) ?_ 2 _ rfl;(with_reducible repeat (first|refine blk_drewN ?_ _|refine blk_drew ?_|refine blk_alloc ?_ _));refine blk_put (cs:=#[.int .i64 ((rd_T62 l1_6 x6_3).f0),.int .i64 0,.int .i64 0,.int .i64 0]) ?_ 1 _ rfl;(with_reducible repeat (first|refine blk_drewN ?_ _|refine blk_drew ?_|refine blk_alloc ?_ _));refine blk_put (cs:=#[.int .i64 0,.int .i64 0,.int .i64 0,.int .i64 0]) ?_ 0 _ rfl;(with_reducible repeat (first|refine blk_drewN ?_ _|refine blk_drew ?_|refine blk_alloc ?_ _));exact BK245.out⟩,⟨by repeat (first|(with_reducible first|exact HB.out|apply below_alloc|apply pw_below_drewN|apply below_drew1|refine below_set ?_ GE237.out|refine below_set ?_ GE245.out)|exact HB.out)⟩⟩
               ·rw [if_neg c65] at H
                have c65b0:decide (((rd_T62 l1_6 x6_3).f2) < 0)=false:=decide_eq_false c65
                clear c65
                by_cases c68:((rd_T62 l1_6 x6_3).f2) ≥ (l1_5.length:Int)
                ·rw [if_pos c68] at H
                 have c68b0:decide ((l1_5.length:Int)≤((rd_T62 l1_6 x6_3).f2))=true:=decide_eq_true c68
                 clear c68
                 have H':=Aside0.mk H
                 clear H
                 have hnb69:=NB245_237.out
                 have hnc69:=NB237_245.out
                 have hcz70_0:w53.cell? ⟨gb245,0,none⟩=some (.int .i64 0):=(blk_cell BK245.out 0).trans rfl
                 have hcz70_1:w53.cell? ⟨gb245,1,none⟩=some (.int .i64 0):=(blk_cell BK245.out 1).trans rfl
                 have hcz70_2:w53.cell? ⟨gb245,2,none⟩=some (.int .i64 0):=(blk_cell BK245.out 2).trans rfl
                 have hcz70_3:w53.cell? ⟨gb245,3,none⟩=some (.int .i64 0):=(blk_cell BK245.out 3).trans rfl
                 have hfz70_0:=blk_frozen BK245.out 0
                 have hfz70_1:=blk_frozen BK245.out 1
                 have hfz70_2:=blk_frozen BK245.out 2
                 have hfz70_3:=blk_frozen BK245.out 3
                 go_wp2
                 go_meet
                 case rel => exact ⟨_,(true),(by first|rfl|(simp;done)|(simp [*];done)),H',⟨by have:=HJ2.out;have:=HJ34.out;have:=HK3.out;first|omega|exact Nat.le_refl _⟩,⟨by (with_reducible repeat (first|refine blk_drewN ?_ _|refine blk_drew ?_|refine blk_alloc ?_ _));refine blk_far ?_ NB237_245.out _;(with_reducible repeat (first|refine blk_drewN ?_ _|refine blk_drew ?_|refine blk_alloc ?_ _));refine blk_far ?_ NB237_245.out _;(with_reducible repeat (first|refine blk_drewN ?_ _|refine blk_drew ?_|refine blk_alloc ?_ _));refine blk_far ?_ NB237_245.out _;(with_reducible repeat (first|refine blk_drewN ?_ _|refine blk_drew ?_|refine blk_alloc ?_ _));refine blk_far ?_ NB237_245.out _;(with_reducible repeat (first|refine blk_drewN ?_ _|refine blk_drew ?_|refine blk_alloc ?_ _));exact BK237.out⟩,⟨by (with_reducible repeat (first|refine blk_drewN ?_ _|refine blk_drew ?_|refine blk_alloc ?_ _));refine blk_put (cs:=#[.int .i64 ((rd_T62 l1_6 x6_3).f0),.int .i64 ((rd_T62 l1_6 x6_3).f1),.int .i64 ((rd_T62 l1_6 x6_3).f2),.int .i64 0]) ?_ 3 _ rfl;(with_reducible repeat (first|refine blk_drewN ?_ _|refine blk_drew ?_|refine blk_alloc ?_ _));refine blk_put (cs:=#[.int .i64 ((rd_T62 l1_6 x6_3).f0),.int .i64 ((rd_T62 l1_6 x6_3).f1),.int .i64 0,.int .i64 0]) ?_ 2 _ rfl;(with_reducible repeat (first|refine blk_drewN ?_ _|refine blk_drew ?_|refine blk_alloc ?_ _));refine blk_put (cs:=#[.int .i64 ((rd_T62 l1_6 x6_3).f0),.int .i64 0,.int .i64 0,.int .i64 0]) ?_ 1 _ rfl;(with_reducible repeat (first|refine blk_drewN ?_ _|refine blk_drew ?_|refine blk_alloc ?_ _));refine blk_put (cs:=#[.int .i64 0,.int .i64 0,.int .i64 0,.int .i64 0]) ?_ 0 _ rfl;(with_reducible repeat (first|refine blk_drewN ?_ _|refine blk_drew ?_|refine blk_alloc ?_ _));exact BK245.out⟩,⟨by repeat (first|(with_reducible first|exact HB.out|apply below_alloc|apply pw_below_drewN|apply below_drew1|refine below_set ?_ GE237.out|refine below_set ?_ GE245.out)|exact HB.out)⟩⟩
                ·rw [if_neg c68] at H
                 have c68b0:decide ((l1_5.length:Int)≤((rd_T62 l1_6 x6_3).f2))=false:=decide_eq_false c68
                 clear c68
                 by_cases c71:((rd_T62 l1_6 x6_3).f3)=0
                 ·rw [if_pos c71] at H
                  have c71b0:(((rd_T62 l1_6 x6_3).f3)==0)=true:=beq_iff_eq.mpr c71
                  have c71b1:(((rd_T62 l1_6 x6_3).f3) != 0)=false:=bne_eq_false_iff_eq.mpr c71
                  clear c71
                  have H':=Aside0.mk H
                  clear H
                  have hnb72:=NB245_237.out
                  have hnc72:=NB237_245.out
                  have hcz73_0:w53.cell? ⟨gb245,0,none⟩=some (.int .i64 0):=(blk_cell BK245.out 0).trans rfl
                  have hcz73_1:w53.cell? ⟨gb245,1,none⟩=some (.int .i64 0):=(blk_cell BK245.out 1).trans rfl
                  have hcz73_2:w53.cell? ⟨gb245,2,none⟩=some (.int .i64 0):=(blk_cell BK245.out 2).trans rfl
                  have hcz73_3:w53.cell? ⟨gb245,3,none⟩=some (.int .i64 0):=(blk_cell BK245.out 3).trans rfl
                  have hfz73_0:=blk_frozen BK245.out 0
                  have hfz73_1:=blk_frozen BK245.out 1
                  have hfz73_2:=blk_frozen BK245.out 2
                  have hfz73_3:=blk_frozen BK245.out 3
                  go_wp2
                  go_meet
                  case rel => exact ⟨_,(false),(by first|rfl|(simp;done)|(simp [*];done)),H',⟨by have:=HJ2.out;have:=HJ34.out;have:=HK3.out;first|omega|exact Nat.le_refl _⟩,⟨by (with_reducible repeat (first|refine blk_drewN ?_ _|refine blk_drew ?_|refine blk_alloc ?_ _));refine blk_far ?_ NB237_245.out _;(with_reducible repeat (first|refine blk_drewN ?_ _|refine blk_drew ?_|refine blk_alloc ?_ _));refine blk_far ?_ NB237_245.out _;(with_reducible repeat (first|refine blk_drewN ?_ _|refine blk_drew ?_|refine blk_alloc ?_ _));refine blk_far ?_ NB237_245.out _;(with_reducible repeat (first|refine blk_drewN ?_ _|refine blk_drew ?_|refine blk_alloc ?_ _));refine blk_far ?_ NB237_245.out _;(with_reducible repeat (first|refine blk_drewN ?_ _|refine blk_drew ?_|refine blk_alloc ?_ _));exact BK237.out⟩,⟨by (with_reducible repeat (first|refine blk_drewN ?_ _|refine blk_drew ?_|refine blk_alloc ?_ _));refine blk_put (cs:=#[.int .i64 ((rd_T62 l1_6 x6_3).f0),.int .i64 ((rd_T62 l1_6 x6_3).f1),.int .i64 ((rd_T62 l1_6 x6_3).f2),.int .i64 0]) ?_ 3 _ rfl;(with_reducible repeat (first|refine blk_drewN ?_ _|refine blk_drew ?_|refine blk_alloc ?_ _));refine blk_put (cs:=#[.int .i64 ((rd_T62 l1_6 x6_3).f0),.int .i64 ((rd_T62 l1_6 x6_3).f1),.int .i64 0,.int .i64 0]) ?_ 2 _ rfl;(with_reducible repeat (first|refine blk_drewN ?_ _|refine blk_drew ?_|refine blk_alloc ?_ _));refine blk_put (cs:=#[.int .i64 ((rd_T62 l1_6 x6_3).f0),.int .i64 0,.int .i64 0,.int .i64 0]) ?_ 1 _ rfl;(with_reducible repeat (first|refine blk_drewN ?_ _|refine blk_drew ?_|refine blk_alloc ?_ _));refine blk_put (cs:=#[.int .i64 0,.int .i64 0,.int .i64 0,.int .i64 0]) ?_ 0 _ rfl;(with_reducible repeat (first|refine blk_drewN ?_ _|refine blk_drew ?_|refine blk_alloc ?_ _));exact BK245.out⟩,⟨by repeat (first|(with_reducible first|exact HB.out|apply below_alloc|apply pw_below_drewN|apply below_drew1|refine below_set ?_ GE237.out|refine below_set ?_ GE245.out)|exact HB.out)⟩⟩
                 ·rw [if_neg c71] at H
                  have c71b0:(((rd_T62 l1_6 x6_3).f3)==0)=false:=beq_eq_false_iff_ne.mpr c71
                  have c71b1:(((rd_T62 l1_6 x6_3).f3) != 0)=true:=bne_iff_ne.mpr c71
                  replace H:=Option.bind_eq_some_iff.mp H
                  obtain ⟨t246,A740,H⟩:=H
                  replace H:(understudyref05_method.j3 k3 l0 (l1_5.length:Int) x6_3 (!t246) a1_0 a1_1 a1_2 a1_3 a1_4 l1_5 l1_6 l1_7)=some r:=H
                  have A74:=Aside0.mk A740
                  clear A740
                  have H':=Aside0.mk H
                  clear H
                  have hnb75:=NB245_237.out
                  have hnc75:=NB237_245.out
                  have hcz76_0:w53.cell? ⟨gb245,0,none⟩=some (.int .i64 0):=(blk_cell BK245.out 0).trans rfl
                  have hcz76_1:w53.cell? ⟨gb245,1,none⟩=some (.int .i64 0):=(blk_cell BK245.out 1).trans rfl
                  have hcz76_2:w53.cell? ⟨gb245,2,none⟩=some (.int .i64 0):=(blk_cell BK245.out 2).trans rfl
                  have hcz76_3:w53.cell? ⟨gb245,3,none⟩=some (.int .i64 0):=(blk_cell BK245.out 3).trans rfl
                  have hfz76_0:=blk_frozen BK245.out 0
                  have hfz76_1:=blk_frozen BK245.out 1
                  have hfz76_2:=blk_frozen BK245.out 2
                  have hfz76_3:=blk_frozen BK245.out 3
                  go_wp2_with (first|(go_at_call 17;(with_reducible refine (understudyref05_cls.calls _ _ l0 ((rd_T62 l1_6 x6_3).f3) t246 _ ?side1 ?side2 A74.out).mono ?_);(case side1 => exact Kd.C_below HR0.out (by repeat (first|(with_reducible first|exact HB.out|apply below_alloc|apply pw_below_drewN|apply below_drew1|refine below_set ?_ GE237.out|refine below_set ?_ GE245.out)|exact HB.out)));(case side2 => exact HC0.out);rintro e w' ⟨rfl,⟨nd,rfl⟩⟩))
                  go_meet
                  case rel => exact ⟨_,(!t246),(by first|rfl|(simp;done)|(simp [*];done)),H',⟨by have:=HJ2.out;have:=HJ34.out;have:=HK3.out;first|omega|exact Nat.le_refl _⟩,⟨by (with_reducible repeat (first|refine blk_drewN ?_ _|refine blk_drew ?_|refine blk_alloc ?_ _));refine blk_far ?_ NB237_245.out _;(with_reducible repeat (first|refine blk_drewN ?_ _|refine blk_drew ?_|refine blk_alloc ?_ _));refine blk_far ?_ NB237_245.out _;(with_reducible repeat (first|refine blk_drewN ?_ _|refine blk_drew ?_|refine blk_alloc ?_ _));refine blk_far ?_ NB237_245.out _;(with_reducible repeat (first|refine blk_drewN ?_ _|refine blk_drew ?_|refine blk_alloc ?_ _));refine blk_far ?_ NB237_245.out _;(with_reducible repeat (first|refine blk_drewN ?_ _|refine blk_drew ?_|refine blk_alloc ?_ _));exact BK237.out⟩,⟨by (with_reducible repeat (first|refine blk_drewN ?_ _|refine blk_drew ?_|refine blk_alloc ?_ _));refine blk_put (cs:=#[.int .i64 ((rd_T62 l1_6 x6_3).f0),.int .i64 ((rd_T62 l1_6 x6_3).f1),.int .i64 ((rd_T62 l1_6 x6_3).f2),.int .i64 0]) ?_ 3 _ rfl;(with_reducible repeat (first|refine blk_drewN ?_ _|refine blk_drew ?_|refine blk_alloc ?_ _));refine blk_put (cs:=#[.int .i64 ((rd_T62 l1_6 x6_3).f0),.int .i64 ((rd_T62 l1_6 x6_3).f1),.int .i64 0,.int .i64 0]) ?_ 2 _ rfl;(with_reducible repeat (first|refine blk_drewN ?_ _|refine blk_drew ?_|refine blk_alloc ?_ _));refine blk_put (cs:=#[.int .i64 ((rd_T62 l1_6 x6_3).f0),.int .i64 0,.int .i64 0,.int .i64 0]) ?_ 1 _ rfl;(with_reducible repeat (first|refine blk_drewN ?_ _|refine blk_drew ?_|refine blk_alloc ?_ _));refine blk_put (cs:=#[.int .i64 0,.int .i64 0,.int .i64 0,.int .i64 0]) ?_ 0 _ rfl;(with_reducible repeat (first|refine blk_drewN ?_ _|refine blk_drew ?_|refine blk_alloc ?_ _));exact BK245.out⟩,⟨by repeat (first|(with_reducible first|exact HB.out|apply below_alloc|apply pw_below_drewN|apply below_drew1|refine below_set ?_ GE237.out|refine below_set ?_ GE245.out)|exact HB.out)⟩⟩
           case rest =>
            clear HC51
            try clear c1;try clear c2;try clear p2;try clear q2;try clear hx2;try clear c3;try clear c4;try clear c5;try clear c5b0;try clear c5b1;try clear c6;try clear c7;try clear c9;try clear c10;try clear c10b0;try clear c12;try clear c12b0;try clear c14;try clear c14b0;try clear c19;try clear c19b0;try clear c19b1;try clear c21;try clear c23;try clear c24;try clear c24b0;try clear p24;try clear q24;try clear hx24;try clear c26;try clear c26b0;try clear c28;try clear c28b0;try clear c34;try clear c37;try clear c37b0;try clear c37b1;try clear c38;try clear c38b0;try clear c38b1;try clear c39;try clear c39b0;try clear c39b1;try clear c42;try clear c42b0;try clear c42b1;try clear c44;try clear c44b0;try clear c44b1;try clear c48;try clear c49;try clear c49b0;try clear c50;try clear c50b0;try clear c54;try clear c56;try clear c56b0;try clear c57;try clear c59;try clear c59b0;try clear c60;try clear c62;try clear c62b0;try clear c63;try clear c65;try clear c65b0;try clear c66;try clear c68;try clear c68b0;try clear c69;try clear c71;try clear c71b0;try clear c71b1;try clear c72;try clear c75;try clear hcz11_0;try clear hcz11_1;try clear hcz11_2;try clear hcz11_3;try clear hcz11_4;try clear hcz11_5;try clear hcz11_6;try clear hcz11_7;try clear hcz13_0;try clear hcz13_1;try clear hcz13_2;try clear hcz13_3;try clear hcz13_4;try clear hcz13_5;try clear hcz13_6;try clear hcz13_7;try clear hcz15_0;try clear hcz15_1;try clear hcz15_2;try clear hcz15_3;try clear hcz15_4;try clear hcz15_5;try clear hcz15_6;try clear hcz15_7;try clear hcz16_0;try clear hcz16_1;try clear hcz16_2;try clear hcz16_3;try clear hcz16_4;try clear hcz16_5;try clear hcz16_6;try clear hcz16_7;try clear hcz17_0;try clear hcz17_1;try clear hcz17_2;try clear hcz17_3;try clear hcz17_4;try clear hcz17_5;try clear hcz17_6;try clear hcz17_7;try clear hcz18_0;try clear hcz18_1;try clear hcz18_2;try clear hcz18_3;try clear hcz18_4;try clear hcz18_5;try clear hcz18_6;try clear hcz18_7;try clear hcz25_0;try clear hcz25_1;try clear hcz25_2;try clear hcz25_3;try clear hcz25_4;try clear hcz25_5;try clear hcz25_6;try clear hcz25_7;try clear hcz27_0;try clear hcz27_1;try clear hcz27_2;try clear hcz27_3;try clear hcz27_4;try clear hcz27_5;try clear hcz27_6;try clear hcz27_7;try clear hcz29_0;try clear hcz29_1;try clear hcz29_2;try clear hcz29_3;try clear hcz29_4;try clear hcz29_5;try clear hcz29_6;try clear hcz29_7;try clear hcz30_0;try clear hcz30_1;try clear hcz30_2;try clear hcz30_3;try clear hcz30_4;try clear hcz30_5;try clear hcz30_6;try clear hcz30_7;try clear hcz31_0;try clear hcz31_1;try clear hcz31_2;try clear hcz31_3;try clear hcz31_4;try clear hcz31_5;try clear hcz31_6;try clear hcz31_7;try clear hcz32_0;try clear hcz32_1;try clear hcz32_2;try clear hcz32_3;try clear hcz32_4;try clear hcz32_5;try clear hcz32_6;try clear hcz32_7;try clear hcz33_0;try clear hcz33_1;try clear hcz33_2;try clear hcz33_3;try clear hcz33_4;try clear hcz33_5;try clear hcz33_6;try clear hcz33_7;try clear hcz36_0;try clear hcz36_1;try clear hcz36_2;try clear hcz36_3;try clear hcz36_4;try clear hcz36_5;try clear hcz36_6;try clear hcz36_7;try clear hcz40_0;try clear hcz40_1;try clear hcz40_2;try clear hcz40_3;try clear hcz40_4;try clear hcz40_5;try clear hcz40_6;try clear hcz40_7;try clear hcz43_0;try clear hcz43_1;try clear hcz43_2;try clear hcz43_3;try clear hcz43_4;try clear hcz43_5;try clear hcz43_6;try clear hcz43_7;try clear hcz46_0;try clear hcz46_1;try clear hcz46_2;try clear hcz46_3;try clear hcz46_4;try clear hcz46_5;try clear hcz46_6;try clear hcz46_7;try clear hcz47_0;try clear hcz47_1;try clear hcz47_2;try clear hcz47_3;try clear hcz47_4;try clear hcz47_5;try clear hcz47_6;try clear hcz47_7;try clear hcz52_0;try clear hcz52_1;try clear hcz52_2;try clear hcz52_3;try clear hcz52_4;try clear hcz52_5;try clear hcz52_6;try clear hcz52_7;try clear hcz55_0;try clear hcz55_1;try clear hcz55_2;try clear hcz55_3;try clear hcz58_0;try clear hcz58_1;try clear hcz58_2;try clear hcz58_3;try clear hcz61_0;try clear hcz61_1;try clear hcz61_2;try clear hcz61_3;try clear hcz64_0;try clear hcz64_1;try clear hcz64_2;try clear hcz64_3;try clear hcz67_0;try clear hcz67_1;try clear hcz67_2;try clear hcz67_3;try clear hcz70_0;try clear hcz70_1;try clear hcz70_2;try clear hcz70_3;try clear hcz73_0;try clear hcz73_1;try clear hcz73_2;try clear hcz73_3;try clear hcz76_0;try clear hcz76_1;try clear hcz76_2;try clear hcz76_3;try clear hfz11_0;try clear hfz11_1;try clear hfz11_2;try clear hfz11_3;try clear hfz11_4;try clear hfz11_5;try clear hfz11_6;try clear hfz11_7;try clear hfz13_0;try clear hfz13_1;try clear hfz13_2;try clear hfz13_3;try clear hfz13_4;try clear hfz13_5;try clear hfz13_6;try clear hfz13_7;try clear hfz15_0;try clear hfz15_1;try clear hfz15_2;try clear hfz15_3;try clear hfz15_4;try clear hfz15_5;try clear hfz15_6;try clear hfz15_7;try clear hfz16_0;try clear hfz16_1;try clear hfz16_2;try clear hfz16_3;try clear hfz16_4;try clear hfz16_5;try clear hfz16_6;try clear hfz16_7;try clear hfz17_0;try clear hfz17_1;try clear hfz17_2;try clear hfz17_3;try clear hfz17_4;try clear hfz17_5;try clear hfz17_6;try clear hfz17_7;try clear hfz18_0;try clear hfz18_1;try clear hfz18_2;try clear hfz18_3;try clear hfz18_4;try clear hfz18_5;try clear hfz18_6;try clear hfz18_7;try clear hfz25_0;try clear hfz25_1;try clear hfz25_2;try clear hfz25_3;try clear hfz25_4;try clear hfz25_5;try clear hfz25_6;try clear hfz25_7;try clear hfz27_0;try clear hfz27_1;try clear hfz27_2;try clear hfz27_3;try clear hfz27_4;try clear hfz27_5;try clear hfz27_6;try clear hfz27_7;try clear hfz29_0;try clear hfz29_1;try clear hfz29_2;try clear hfz29_3;try clear hfz29_4;try clear hfz29_5;try clear hfz29_6;try clear hfz29_7;try clear hfz30_0;try clear hfz30_1;try clear hfz30_2;try clear hfz30_3;try clear hfz30_4;try clear hfz30_5;try clear hfz30_6;try clear hfz30_7;try clear hfz31_0;try clear hfz31_1;try clear hfz31_2;try clear hfz31_3;try clear hfz31_4;try clear hfz31_5;try clear hfz31_6;try clear hfz31_7;try clear hfz32_0;try clear hfz32_1;try clear hfz32_2;try clear hfz32_3;try clear hfz32_4;try clear hfz32_5;try clear hfz32_6;try clear hfz32_7;try clear hfz33_0;try clear hfz33_1;try clear hfz33_2;try clear hfz33_3;try clear hfz33_4;try clear hfz33_5;try clear hfz33_6;try clear hfz33_7;try clear hfz36_0;try clear hfz36_1;try clear hfz36_2;try clear hfz36_3;try clear hfz36_4;try clear hfz36_5;try clear hfz36_6;try clear hfz36_7;try clear hfz40_0;try clear hfz40_1;try clear hfz40_2;try clear hfz40_3;try clear hfz40_4;try clear hfz40_5;try clear hfz40_6;try clear hfz40_7;try clear hfz43_0;try clear hfz43_1;try clear hfz43_2;try clear hfz43_3;try clear hfz43_4;try clear hfz43_5;try clear hfz43_6;try clear hfz43_7;try clear hfz46_0;try clear hfz46_1;try clear hfz46_2;try clear hfz46_3;try clear hfz46_4;try clear hfz46_5;try clear hfz46_6;try clear hfz46_7;try clear hfz47_0;try clear hfz47_1;try clear hfz47_2;try clear hfz47_3;try clear hfz47_4;try clear hfz47_5;try clear hfz47_6;try clear hfz47_7;try clear hfz52_0;try clear hfz52_1;try clear hfz52_2;try clear hfz52_3;try clear hfz52_4;try clear hfz52_5;try clear hfz52_6;try clear hfz52_7;try clear hfz55_0;try clear hfz55_1;try clear hfz55_2;try clear hfz55_3;try clear hfz58_0;try clear hfz58_1;try clear hfz58_2;try clear hfz58_3;try clear hfz61_0;try clear hfz61_1;try clear hfz61_2;try clear hfz61_3;try clear hfz64_0;try clear hfz64_1;try clear hfz64_2;try clear hfz64_3;try clear hfz67_0;try clear hfz67_1;try clear hfz67_2;try clear hfz67_3;try clear hfz70_0;try clear hfz70_1;try clear hfz70_2;try clear hfz70_3;try clear hfz73_0;try clear hfz73_1;try clear hfz73_2;try clear hfz73_3;try clear hfz76_0;try clear hfz76_1;try clear hfz76_2;try clear hfz76_3;try clear hx244_0;try clear hx244_1;try clear hx244_2;try clear hx244_3;try clear p2;try clear p244;try clear q244
            obtain ⟨kq,x131_50,rfl,HA,HJ50,BK237,BK245,HB⟩:=hcut
            cases kq with
            | zero => exact absurd HA.out (by simp [understudyref05_method.j3])
            | succ kj50 =>
             have H:=HA.out
             clear HA
             simp only [understudyref05_method.j3] at H
             by_cases c77:x131_50=true
             ·subst c77
              have H1:(some false)=some r:=by rw [if_pos rfl] at H;exact H
              clear H
              have H:=H1
              clear H1
              obtain rfl:=Option.some.inj H
              go_wp2
              go_ret
              exact ⟨by first|rfl|(simp [errW_none,errW_some] <;> rfl)|(simp [*,errW_none,errW_some] <;> rfl),by repeat (first|(with_reducible first|exact HB.out|apply below_alloc|apply pw_below_drewN|apply below_drew1|refine below_set ?_ GE237.out|refine below_set ?_ GE245.out)|exact HB.out)⟩
             ·replace c77:=Bool.eq_false_iff.mpr c77
              subst c77
              have H1:(understudyref05_method.l0 kj50 l0 (l1_5.length:Int) (wrap64 (x6_3 + 1)) a1_0 a1_1 a1_2 a1_3 a1_4 l1_5 l1_6 l1_7)=some r:=by rw [if_neg (show ¬ (false=true) by decide)] at H;exact H
              clear H
              have H:=H1
              clear H1
              have H':=Aside0.mk H
              clear H
              go_wp2
              go_roundg kj50
              case measure => have:=HJ2.out;have:=HJ34.out;have:=HK3.out;have:=HJ50.out;omega
              case rel => exact ⟨(wrap64 (x6_3 + 1)),(by first|rfl|(simp;done)|(simp [*];done)),H',⟨by have:=HJ2.out;have:=HJ34.out;have:=HK3.out;have:=HJ50.out;omega⟩,⟨by (with_reducible repeat (first|refine blk_drewN ?_ _|refine blk_drew ?_|refine blk_alloc ?_ _));exact BK237.out⟩,⟨by repeat (first|(with_reducible first|exact HB.out|apply below_alloc|apply pw_below_drewN|apply below_drew1|refine below_set ?_ GE237.out|refine below_set ?_ GE245.out)|exact HB.out)⟩⟩
          ·rw [if_neg c50] at H
           exact absurd H (by simp)
         ·rw [if_neg c49] at H
          have c49b0:decide (x6_3 < (l1_6.length:Int))=false:=decide_eq_false c49
          clear c49
          obtain rfl:=Option.some.inj H
          have hcz78_0:wr.cell? ⟨gb237,0,none⟩=some (.int .i64 a1_0):=(blk_cell BK237.out 0).trans rfl
          have hcz78_1:wr.cell? ⟨gb237,1,none⟩=some (.int .i64 a1_1):=(blk_cell BK237.out 1).trans rfl
          have hcz78_2:wr.cell? ⟨gb237,2,none⟩=some (.int .i64 a1_2):=(blk_cell BK237.out 2).trans rfl
          have hcz78_3:wr.cell? ⟨gb237,3,none⟩=some (.int .i64 a1_3):=(blk_cell BK237.out 3).trans rfl
          have hcz78_4:wr.cell? ⟨gb237,4,none⟩=some (.int .i64 a1_4):=(blk_cell BK237.out 4).trans rfl
          have hcz78_5:wr.cell? ⟨gb237,5,none⟩=some (.slice A1_5 l1_5.length c1_5):=(blk_cell BK237.out 5).trans rfl
          have hcz78_6:wr.cell? ⟨gb237,6,none⟩=some (.slice A1_6 l1_6.length c1_6):=(blk_cell BK237.out 6).trans rfl
          have hcz78_7:wr.cell? ⟨gb237,7,none⟩=some (.slice A1_7 l1_7.length c1_7):=(blk_cell BK237.out 7).trans rfl
          have hfz78_0:=blk_frozen BK237.out 0
          have hfz78_1:=blk_frozen BK237.out 1
          have hfz78_2:=blk_frozen BK237.out 2
          have hfz78_3:=blk_frozen BK237.out 3
          have hfz78_4:=blk_frozen BK237.out 4
          have hfz78_5:=blk_frozen BK237.out 5
          have hfz78_6:=blk_frozen BK237.out 6
          have hfz78_7:=blk_frozen BK237.out 7
          go_wp2
          go_ret
          exact ⟨by first|rfl|(simp [errW_none,errW_some] <;> rfl)|(simp [*,errW_none,errW_some] <;> rfl),by repeat (first|(with_reducible first|exact HB.out|apply below_alloc|apply pw_below_drewN|apply below_drew1|refine below_set ?_ GE237.out)|exact HB.out)⟩
end Go.Proofs.YtiolgmklpldpcaaDoor.Px
