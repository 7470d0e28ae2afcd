
import Derived.Test.YtmloaijagkebpaaDoorM1
import Derived.Test.YtmloaijagkebpaaDoorM2
namespace Go.Proofs.YtmloaijagkebpaaDoor.Px
open Go.RowKit Go.Proofs.YtmloaijagkebpaaDoorW.PrintWords Go.Proofs.YtmloaijagkebpaaDoorW.PrintLast Go.Proofs.YtmloaijagkebpaaDoorW.PrintMore
attribute [local go_sem] max2_int min2_int max_two min_two max_three min_three max_four min_four
set_option linter.unusedVariables false
set_option linter.unusedSimpArgs false
mutual
def understudyref05_method.j0:Nat→List (S60)→Bool→Int→Int→Int→Int→Int→List Int→List (S78)→List Int→Option (Bool)
 | 0,_,_,_,_,_,_,_,_,_,_ => none
 | k + 1,x0,x49,x238000,x238001,x238002,x238003,x238004,x238005,x238006,x238007 => if x49=true then (some false) else (if (x238005.length:Int) < 1 then (understudyref05_method.j1 k x0 (x238005.length:Int) true x238000 x238001 x238002 x238003 x238004 x238005 x238006 x238007) else (if (x238005.length:Int) > 4096 then (understudyref05_method.j1 k x0 (x238005.length:Int) true x238000 x238001 x238002 x238003 x238004 x238005 x238006 x238007) else (if (x238007.length:Int) > 4096 then (understudyref05_method.j1 k x0 (x238005.length:Int) true x238000 x238001 x238002 x238003 x238004 x238005 x238006 x238007) else ((understudyref05_text.f k x0 (⟨#[67,111,100,101]⟩:ByteArray)).bind fun t242 => (if t242=0 then (understudyref05_method.j1 k x0 (x238005.length:Int) true x238000 x238001 x238002 x238003 x238004 x238005 x238006 x238007) else (if (x238007.length:Int) > 0 then ((understudyref05_text.f k x0 (⟨#[83,116,97,99,107,77,97,112,84,97,98,108,101]⟩:ByteArray)).bind fun t243 => (understudyref05_method.j1 k x0 (x238005.length:Int) (t243==0) x238000 x238001 x238002 x238003 x238004 x238005 x238006 x238007)) else (understudyref05_method.j1 k x0 (x238005.length:Int) false x238000 x238001 x238002 x238003 x238004 x238005 x238006 x238007)))))))
def understudyref05_method.j1:Nat→List (S60)→Int→Bool→Int→Int→Int→Int→Int→List Int→List (S78)→List Int→Option (Bool)
 | 0,_,_,_,_,_,_,_,_,_,_,_ => none
 | k + 1,x0,x5,x80,x238000,x238001,x238002,x238003,x238004,x238005,x238006,x238007 => if x80=true then (some false) else (understudyref05_method.l0 k x0 x5 0 x238000 x238001 x238002 x238003 x238004 x238005 x238006 x238007)
def understudyref05_method.l0:Nat→List (S60)→Int→Int→Int→Int→Int→Int→Int→List Int→List (S78)→List Int→Option (Bool)
 | 0,_,_,_,_,_,_,_,_,_,_,_ => none
 | k + 1,x0,x5,x6,x238000,x238001,x238002,x238003,x238004,x238005,x238006,x238007 => if x6 < (x238006.length:Int) then (if 0≤x6 then (if ((rd_T78 x238006 x6).f0) < 0 then (understudyref05_method.j3 k x0 x5 x6 true x238000 x238001 x238002 x238003 x238004 x238005 x238006 x238007) else (if ((rd_T78 x238006 x6).f0) ≥ ((rd_T78 x238006 x6).f1) then (understudyref05_method.j3 k x0 x5 x6 true x238000 x238001 x238002 x238003 x238004 x238005 x238006 x238007) else (if ((rd_T78 x238006 x6).f1) > x5 then (understudyref05_method.j3 k x0 x5 x6 true x238000 x238001 x238002 x238003 x238004 x238005 x238006 x238007) else (if ((rd_T78 x238006 x6).f2) < 0 then (understudyref05_method.j3 k x0 x5 x6 true x238000 x238001 x238002 x238003 x238004 x238005 x238006 x238007) else (if ((rd_T78 x238006 x6).f2) ≥ x5 then (understudyref05_method.j3 k x0 x5 x6 true x238000 x238001 x238002 x238003 x238004 x238005 x238006 x238007) else (if ((rd_T78 x238006 x6).f3)=0 then (understudyref05_method.j3 k x0 x5 x6 false x238000 x238001 x238002 x238003 x238004 x238005 x238006 x238007) else ((understudyref05_cls.f x0 ((rd_T78 x238006 x6).f3)).bind fun t246 => (understudyref05_method.j3 k x0 x5 x6 (!t246) x238000 x238001 x238002 x238003 x238004 x238005 x238006 x238007)))))))) else (none)) else (some true)
def understudyref05_method.j3:Nat→List (S60)→Int→Int→Bool→Int→Int→Int→Int→Int→List Int→List (S78)→List Int→Option (Bool)
 | 0,_,_,_,_,_,_,_,_,_,_,_,_ => none
 | k + 1,x0,x5,x6,x131,x238000,x238001,x238002,x238003,x238004,x238005,x238006,x238007 => if x131=true then (some false) else (understudyref05_method.l0 k x0 x5 (wrap64 (x6 + 1)) x238000 x238001 x238002 x238003 x238004 x238005 x238006 x238007)
end
def understudyref05_method.f (k:Nat) (l0:List (S60)) (a1_0:Int) (a1_1:Int) (a1_2:Int) (a1_3:Int) (a1_4:Int) (l1_5:List Int) (l1_6:List (S78)) (l1_7:List Int):Option (Bool):=if a1_0=0 then ((understudyref05_utf.f l0 a1_1).bind fun t238 => (if t238=true then ((understudyref05_utf.f l0 a1_2).bind fun t239 => (if t239=true then (if a1_3 < 0 then (understudyref05_method.j0 k l0 true a1_0 a1_1 a1_2 a1_3 a1_4 l1_5 l1_6 l1_7) else (if a1_3 > 64 then (understudyref05_method.j0 k l0 true a1_0 a1_1 a1_2 a1_3 a1_4 l1_5 l1_6 l1_7) else (if a1_4 < 0 then (understudyref05_method.j0 k l0 true a1_0 a1_1 a1_2 a1_3 a1_4 l1_5 l1_6 l1_7) else (understudyref05_method.j0 k l0 (decide (a1_4 > 64)) a1_0 a1_1 a1_2 a1_3 a1_4 l1_5 l1_6 l1_7)))) else (understudyref05_method.j0 k l0 true a1_0 a1_1 a1_2 a1_3 a1_4 l1_5 l1_6 l1_7))) else (understudyref05_method.j0 k l0 true a1_0 a1_1 a1_2 a1_3 a1_4 l1_5 l1_6 l1_7))) else (if a1_0=8 then ((understudyref05_utf.f l0 a1_1).bind fun t240 => (if t240=true then ((understudyref05_utf.f l0 a1_2).bind fun t241 => (if t241=true then (if a1_3 < 0 then (understudyref05_method.j0 k l0 true a1_0 a1_1 a1_2 a1_3 a1_4 l1_5 l1_6 l1_7) else (if a1_3 > 64 then (understudyref05_method.j0 k l0 true a1_0 a1_1 a1_2 a1_3 a1_4 l1_5 l1_6 l1_7) else (if a1_4 < 0 then (understudyref05_method.j0 k l0 true a1_0 a1_1 a1_2 a1_3 a1_4 l1_5 l1_6 l1_7) else (understudyref05_method.j0 k l0 (decide (a1_4 > 64)) a1_0 a1_1 a1_2 a1_3 a1_4 l1_5 l1_6 l1_7)))) else (understudyref05_method.j0 k l0 true a1_0 a1_1 a1_2 a1_3 a1_4 l1_5 l1_6 l1_7))) else (understudyref05_method.j0 k l0 true a1_0 a1_1 a1_2 a1_3 a1_4 l1_5 l1_6 l1_7))) else (understudyref05_method.j0 k l0 true a1_0 a1_1 a1_2 a1_3 a1_4 l1_5 l1_6 l1_7))
theorem understudyref05_method.mono_l:∀ k,(∀ y0 y1 y2 y3 y4 y5 y6 y7 y8 y9,LeO (understudyref05_method.j0 k y0 y1 y2 y3 y4 y5 y6 y7 y8 y9) (understudyref05_method.j0 (k + 1) y0 y1 y2 y3 y4 y5 y6 y7 y8 y9))∧(∀ y0 y1 y2 y3 y4 y5 y6 y7 y8 y9 y10,LeO (understudyref05_method.j1 k y0 y1 y2 y3 y4 y5 y6 y7 y8 y9 y10) (understudyref05_method.j1 (k + 1) y0 y1 y2 y3 y4 y5 y6 y7 y8 y9 y10))∧(∀ y0 y1 y2 y3 y4 y5 y6 y7 y8 y9 y10,LeO (understudyref05_method.l0 k y0 y1 y2 y3 y4 y5 y6 y7 y8 y9 y10) (understudyref05_method.l0 (k + 1) y0 y1 y2 y3 y4 y5 y6 y7 y8 y9 y10))∧(∀ y0 y1 y2 y3 y4 y5 y6 y7 y8 y9 y10 y11,LeO (understudyref05_method.j3 k y0 y1 y2 y3 y4 y5 y6 y7 y8 y9 y10 y11) (understudyref05_method.j3 (k + 1) y0 y1 y2 y3 y4 y5 y6 y7 y8 y9 y10 y11))
 | 0 => ⟨fun _ _ _ _ _ _ _ _ _ _ r h => by simp [understudyref05_method.j0] at h,fun _ _ _ _ _ _ _ _ _ _ _ r h => by simp [understudyref05_method.j1] at h,fun _ _ _ _ _ _ _ _ _ _ _ r h => by simp [understudyref05_method.l0] at h,fun _ _ _ _ _ _ _ _ _ _ _ _ r h => by simp [understudyref05_method.j3] at h⟩
 | k + 1 => by
  obtain ⟨ih0,ih1,ih2,ih3⟩:=understudyref05_method.mono_l k
  refine ⟨?_,?_,?_,?_⟩
  ·intro y0 y1 y2 y3 y4 y5 y6 y7 y8 y9
   unfold understudyref05_method.j0
   repeat' first
   | (with_reducible exact ih0 _ _ _ _ _ _ _ _ _ _)
   | (with_reducible exact ih1 _ _ _ _ _ _ _ _ _ _ _)
   | (with_reducible exact ih2 _ _ _ _ _ _ _ _ _ _ _)
   | (with_reducible exact ih3 _ _ _ _ _ _ _ _ _ _ _ _)
   | (with_reducible exact understudyref05_text.mono _ _ _)
   | (with_reducible exact LeO.refl _)
   | (with_reducible exact LeO.none _)
   | (with_reducible refine LeO.ite ?_ ?_)
   | (with_reducible refine LeO.bind ?_ (fun _ => ?_))
   | exact ih0 _ _ _ _ _ _ _ _ _ _
   | exact ih1 _ _ _ _ _ _ _ _ _ _ _
   | exact ih2 _ _ _ _ _ _ _ _ _ _ _
   | exact ih3 _ _ _ _ _ _ _ _ _ _ _ _
   | exact understudyref05_text.mono _ _ _
   | exact LeO.none _
   | refine LeO.ite ?_ ?_
   | refine LeO.bind ?_ (fun _ => ?_)
  ·intro y0 y1 y2 y3 y4 y5 y6 y7 y8 y9 y10
   unfold understudyref05_method.j1
   repeat' first
   | (with_reducible exact ih0 _ _ _ _ _ _ _ _ _ _)
   | (with_reducible exact ih1 _ _ _ _ _ _ _ _ _ _ _)
   | (with_reducible exact ih2 _ _ _ _ _ _ _ _ _ _ _)
   | (with_reducible exact ih3 _ _ _ _ _ _ _ _ _ _ _ _)
   | (with_reducible exact understudyref05_text.mono _ _ _)
   | (with_reducible exact LeO.refl _)
   | (with_reducible exact LeO.none _)
   | (with_reducible refine LeO.ite ?_ ?_)
   | (with_reducible refine LeO.bind ?_ (fun _ => ?_))
   | exact ih0 _ _ _ _ _ _ _ _ _ _
   | exact ih1 _ _ _ _ _ _ _ _ _ _ _
   | exact ih2 _ _ _ _ _ _ _ _ _ _ _
   | exact ih3 _ _ _ _ _ _ _ _ _ _ _ _
   | exact understudyref05_text.mono _ _ _
   | exact LeO.none _
   | refine LeO.ite ?_ ?_
   | refine LeO.bind ?_ (fun _ => ?_)
  ·intro y0 y1 y2 y3 y4 y5 y6 y7 y8 y9 y10
   unfold understudyref05_method.l0
   repeat' first
   | (with_reducible exact ih0 _ _ _ _ _ _ _ _ _ _)
   | (with_reducible exact ih1 _ _ _ _ _ _ _ _ _ _ _)
   | (with_reducible exact ih2 _ _ _ _ _ _ _ _ _ _ _)
   | (with_reducible exact ih3 _ _ _ _ _ _ _ _ _ _ _ _)
   | (with_reducible exact understudyref05_text.mono _ _ _)
   | (with_reducible exact LeO.refl _)
   | (with_reducible exact LeO.none _)
   | (with_reducible refine LeO.ite ?_ ?_)
   | (with_reducible refine LeO.bind ?_ (fun _ => ?_))
   | exact ih0 _ _ _ _ _ _ _ _ _ _
   | exact ih1 _ _ _ _ _ _ _ _ _ _ _
   | exact ih2 _ _ _ _ _ _ _ _ _ _ _
   | exact ih3 _ _ _ _ _ _ _ _ _ _ _ _
   | exact understudyref05_text.mono _ _ _
   | exact LeO.none _
   | refine LeO.ite ?_ ?_
   | refine LeO.bind ?_ (fun _ => ?_)
  ·intro y0 y1 y2 y3 y4 y5 y6 y7 y8 y9 y10 y11
   unfold understudyref05_method.j3
   repeat' first
   | (with_reducible exact ih0 _ _ _ _ _ _ _ _ _ _)
   | (with_reducible exact ih1 _ _ _ _ _ _ _ _ _ _ _)
   | (with_reducible exact ih2 _ _ _ _ _ _ _ _ _ _ _)
   | (with_reducible exact ih3 _ _ _ _ _ _ _ _ _ _ _ _)
   | (with_reducible exact understudyref05_text.mono _ _ _)
   | (with_reducible exact LeO.refl _)
   | (with_reducible exact LeO.none _)
   | (with_reducible refine LeO.ite ?_ ?_)
   | (with_reducible refine LeO.bind ?_ (fun _ => ?_))
   | exact ih0 _ _ _ _ _ _ _ _ _ _
   | exact ih1 _ _ _ _ _ _ _ _ _ _ _
   | exact ih2 _ _ _ _ _ _ _ _ _ _ _
   | exact ih3 _ _ _ _ _ _ _ _ _ _ _ _
   | exact understudyref05_text.mono _ _ _
   | exact LeO.none _
   | refine LeO.ite ?_ ?_
   | refine LeO.bind ?_ (fun _ => ?_)
theorem understudyref05_method.mono:∀ a0 a1 a2 a3 a4 a5 a6 a7 a8 k,LeO (understudyref05_method.f k a0 a1 a2 a3 a4 a5 a6 a7 a8) (understudyref05_method.f (k + 1) a0 a1 a2 a3 a4 a5 a6 a7 a8):=by
 intro a0 a1 a2 a3 a4 a5 a6 a7 a8 k
 obtain ⟨ih0,ih1,ih2,ih3⟩:=understudyref05_method.mono_l k
 unfold understudyref05_method.f
 repeat' first
   | (with_reducible exact ih0 _ _ _ _ _ _ _ _ _ _)
   | (with_reducible exact ih1 _ _ _ _ _ _ _ _ _ _ _)
   | (with_reducible exact ih2 _ _ _ _ _ _ _ _ _ _ _)
   | (with_reducible exact ih3 _ _ _ _ _ _ _ _ _ _ _ _)
   | (with_reducible exact understudyref05_text.mono _ _ _)
   | (with_reducible exact LeO.refl _)
   | (with_reducible exact LeO.none _)
   | (with_reducible refine LeO.ite ?_ ?_)
   | (with_reducible refine LeO.bind ?_ (fun _ => ?_))
   | exact ih0 _ _ _ _ _ _ _ _ _ _
   | exact ih1 _ _ _ _ _ _ _ _ _ _ _
   | exact ih2 _ _ _ _ _ _ _ _ _ _ _
   | exact ih3 _ _ _ _ _ _ _ _ _ _ _ _
   | exact understudyref05_text.mono _ _ _
   | exact LeO.none _
   | refine LeO.ite ?_ ?_
   | refine LeO.bind ?_ (fun _ => ?_)
set_option maxHeartbeats 80000000 in
set_option maxRecDepth 100000 in
theorem understudyref05_method.calls (k:Nat) (A0:Option Addr) (c0:Nat) (l0:List (S60)) (a1_0:Int) (a1_1:Int) (a1_2:Int) (a1_3:Int) (a1_4:Int) (A1_5:Option Addr) (c1_5:Nat) (l1_5:List Int) (A1_6:Option Addr) (c1_6:Nat) (l1_6:List (S78)) (A1_7:Option Addr) (c1_7:Nat) (l1_7:List Int) (r:Bool) (w:World) (hr0:Kd.C k60 w A0 l0.length l0) (hc0:l0.length≤c0) (hr1_5:Kd.C (Kd.int .u8) w A1_5 l1_5.length l1_5) (hc1_5:l1_5.length≤c1_5) (hr1_6:Kd.C k78 w A1_6 l1_6.length l1_6) (hc1_6:l1_6.length≤c1_6) (hr1_7:Kd.C (Kd.int .u8) w A1_7 l1_7.length l1_7) (hc1_7:l1_7.length≤c1_7) (h:understudyref05_method.f k l0 a1_0 a1_1 a1_2 a1_3 a1_4 l1_5 l1_6 l1_7=some r) :
  Calls Tryd.prog 38 #[.slice A0 l0.length c0,.agg #[.int .i64 a1_0,.int .i64 a1_1,.int .i64 a1_2,.int .i64 a1_3,.int .i64 a1_4,.slice A1_5 l1_5.length c1_5,.slice A1_6 l1_6.length c1_6,.slice A1_7 l1_7.length c1_7]] w fun e w' => e=.returned (.bool r)∧Below w.heap.size w w':=by
 have hu49:=Tryd.underlying49
 have hu78:=Tryd.underlying78
 have HR0:=Aside0.mk hr0
 have HC0:=Aside0.mk hc0
 clear hr0 hc0
 have HR1_5:=Aside0.mk hr1_5
 have HC1_5:=Aside0.mk hc1_5
 clear hr1_5 hc1_5
 have HR1_6:=Aside0.mk hr1_6
 have HC1_6:=Aside0.mk hc1_6
 clear hr1_6 hc1_6
 have HR1_7:=Aside0.mk hr1_7
 have HC1_7:=Aside0.mk hc1_7
 clear hr1_7 hc1_7
 have HB:=Aside0.mk (Below.refl w.heap.size w)
 have H:(if a1_0=0 then ((understudyref05_utf.f l0 a1_1).bind fun t238 => (if t238=true then ((understudyref05_utf.f l0 a1_2).bind fun t239 => (if t239=true then (if a1_3 < 0 then (understudyref05_method.j0 k l0 true a1_0 a1_1 a1_2 a1_3 a1_4 l1_5 l1_6 l1_7) else (if a1_3 > 64 then (understudyref05_method.j0 k l0 true a1_0 a1_1 a1_2 a1_3 a1_4 l1_5 l1_6 l1_7) else (if a1_4 < 0 then (understudyref05_method.j0 k l0 true a1_0 a1_1 a1_2 a1_3 a1_4 l1_5 l1_6 l1_7) else (understudyref05_method.j0 k l0 (decide (a1_4 > 64)) a1_0 a1_1 a1_2 a1_3 a1_4 l1_5 l1_6 l1_7)))) else (understudyref05_method.j0 k l0 true a1_0 a1_1 a1_2 a1_3 a1_4 l1_5 l1_6 l1_7))) else (understudyref05_method.j0 k l0 true a1_0 a1_1 a1_2 a1_3 a1_4 l1_5 l1_6 l1_7))) else (if a1_0=8 then ((understudyref05_utf.f l0 a1_1).bind fun t240 => (if t240=true then ((understudyref05_utf.f l0 a1_2).bind fun t241 => (if t241=true then (if a1_3 < 0 then (understudyref05_method.j0 k l0 true a1_0 a1_1 a1_2 a1_3 a1_4 l1_5 l1_6 l1_7) else (if a1_3 > 64 then (understudyref05_method.j0 k l0 true a1_0 a1_1 a1_2 a1_3 a1_4 l1_5 l1_6 l1_7) else (if a1_4 < 0 then (understudyref05_method.j0 k l0 true a1_0 a1_1 a1_2 a1_3 a1_4 l1_5 l1_6 l1_7) else (understudyref05_method.j0 k l0 (decide (a1_4 > 64)) a1_0 a1_1 a1_2 a1_3 a1_4 l1_5 l1_6 l1_7)))) else (understudyref05_method.j0 k l0 true a1_0 a1_1 a1_2 a1_3 a1_4 l1_5 l1_6 l1_7))) else (understudyref05_method.j0 k l0 true a1_0 a1_1 a1_2 a1_3 a1_4 l1_5 l1_6 l1_7))) else (understudyref05_method.j0 k l0 true a1_0 a1_1 a1_2 a1_3 a1_4 l1_5 l1_6 l1_7)))=some r:=h
 clear h
 have HC3:=Aside0.mk H
 clear H
 go_enter Tryd.func38,Tryd.ntmps38
 go_upto_region 1 with (first|((with_reducible refine gate_dst (N:=3) rfl ?_);(try (refine gate_guard (by rfl) ?_;dsimp only));refine box_event ?hg (N:=3) ?hd (cs:=#[.int .i64 a1_0,.int .i64 a1_1,.int .i64 a1_2,.int .i64 a1_3,.int .i64 a1_4,.slice A1_5 l1_5.length c1_5,.slice A1_6 l1_6.length c1_6,.slice A1_7 l1_7.length c1_7]) (t:=49) ?hr ?_;(case hd => rfl);(case hg => rfl);(case hr => first|(go_simp;done)|(go_simp;rfl));intro gb237 hg w4 hbox hb;have n0_:=Aside0.mk (below_step bl_ hb);have n1_:=Aside0.mk (hbox);have n2_:=Aside0.mk ((by rw [hg];exact (below_size bl_):w.heap.size≤gb237));have n3_:=Aside0.mk ((by rw [hg];exact (below_size bl_):w.heap.size≤gb237));clear HB;have HB:=n0_;have BK237:=n1_;have GW237:=n2_;have GE237:=n3_;clear n0_ n1_ n2_ n3_;clear hb hbox hg))
 (try simp only [Act.put,List.setIfInBounds_toArray,List.set_cons_zero,List.set_cons_succ])
 go_cut [49] (fun v49 wc => ∃ (kq:Nat) (x49_2:Bool),v49=.bool x49_2∧Aside0 (understudyref05_method.j0 kq l0 x49_2 a1_0 a1_1 a1_2 a1_3 a1_4 l1_5 l1_6 l1_7=some r)∧Aside0 (kq≤k)∧Aside0 (wc.heap[gb237]?=some (.cells #[.int .i64 a1_0,.int .i64 a1_1,.int .i64 a1_2,.int .i64 a1_3,.int .i64 a1_4,(.slice A1_5 l1_5.length c1_5),(.slice A1_6 l1_6.length c1_6),(.slice A1_7 l1_7.length c1_7)] 49 (0,0)))∧Aside0 (Below w.heap.size w wc))
 case first =>
  have H:=HC3.out
  clear HC3
  by_cases c5:a1_0=0
  ·rw [if_pos c5] at H
   have c5b0:(a1_0==0)=true:=beq_iff_eq.mpr c5
   have c5b1:(a1_0 != 0)=false:=bne_eq_false_iff_eq.mpr c5
   clear c5
   (first|rw [c5b0]|(simp only [i64_w,i32_w];rw [c5b0])|skip)
   replace H:=Option.bind_eq_some_iff.mp H
   obtain ⟨t238,A60,H⟩:=H
   try dsimp only at H
   have A6:=Aside0.mk A60
   clear A60
   by_cases c7:t238=true
   ·subst c7
    rw [if_pos rfl] at H
    replace H:=Option.bind_eq_some_iff.mp H
    obtain ⟨t239,A80,H⟩:=H
    try dsimp only at H
    have A8:=Aside0.mk A80
    clear A80
    by_cases c9:t239=true
    ·subst c9
     rw [if_pos rfl] at H
     by_cases c10:a1_3 < 0
     ·rw [if_pos c10] at H
      have c10b0:decide (a1_3 < 0)=true:=decide_eq_true c10
      clear c10
      have H':=Aside0.mk H
      clear H
      obtain ⟨hcz11_0,hcz11_1,hcz11_2,hcz11_3,hcz11_4,hcz11_5,hcz11_6,hcz11_7,hfz11_0,hfz11_1,hfz11_2,hfz11_3,hfz11_4,hfz11_5,hfz11_6,hfz11_7⟩:=blk8_ BK237.out
      go_wp2_with (first|(go_at_call 37;(with_reducible refine (understudyref05_utf.calls _ _ l0 a1_1 true _ ?side1 ?side2 A6.out).mono ?_);(case side1 => exact kc_ (Kd.C_below HR0.out HB.out));(case side2 => exact HC0.out);rintro e w' ⟨rfl,⟨nd,rfl⟩⟩)|(go_at_call 37;(with_reducible refine (understudyref05_utf.calls _ _ l0 a1_2 true _ ?side1 ?side2 A8.out).mono ?_);(case side1 => exact kc_ (Kd.C_below HR0.out bl_));(case side2 => exact HC0.out);rintro e w' ⟨rfl,⟨nd,rfl⟩⟩))
      go_meet
      case rel => exact ⟨_,(true),r3_,H',⟨by first|omega|exact Nat.le_refl _⟩,⟨bk_⟩,⟨bl_⟩⟩
     ·rw [if_neg c10] at H
      have c10b0:decide (a1_3 < 0)=false:=decide_eq_false c10
      clear c10
      by_cases c12:a1_3 > 64
      ·rw [if_pos c12] at H
       have c12b0:decide (64 < a1_3)=true:=decide_eq_true c12
       clear c12
       have H':=Aside0.mk H
       clear H
       obtain ⟨hcz13_0,hcz13_1,hcz13_2,hcz13_3,hcz13_4,hcz13_5,hcz13_6,hcz13_7,hfz13_0,hfz13_1,hfz13_2,hfz13_3,hfz13_4,hfz13_5,hfz13_6,hfz13_7⟩:=blk8_ BK237.out
       go_wp2_with (first|(go_at_call 37;(with_reducible refine (understudyref05_utf.calls _ _ l0 a1_1 true _ ?side1 ?side2 A6.out).mono ?_);(case side1 => exact kc_ (Kd.C_below HR0.out HB.out));(case side2 => exact HC0.out);rintro e w' ⟨rfl,⟨nd,rfl⟩⟩)|(go_at_call 37;(with_reducible refine (understudyref05_utf.calls _ _ l0 a1_2 true _ ?side1 ?side2 A8.out).mono ?_);(case side1 => exact kc_ (Kd.C_below HR0.out bl_));(case side2 => exact HC0.out);rintro e w' ⟨rfl,⟨nd,rfl⟩⟩))
       go_meet
       case rel => exact ⟨_,(true),r3_,H',⟨by first|omega|exact Nat.le_refl _⟩,⟨bk_⟩,⟨bl_⟩⟩
      ·rw [if_neg c12] at H
       have c12b0:decide (64 < a1_3)=false:=decide_eq_false c12
       clear c12
       by_cases c14:a1_4 < 0
       ·rw [if_pos c14] at H
        have c14b0:decide (a1_4 < 0)=true:=decide_eq_true c14
        clear c14
        have H':=Aside0.mk H
        clear H
        obtain ⟨hcz15_0,hcz15_1,hcz15_2,hcz15_3,hcz15_4,hcz15_5,hcz15_6,hcz15_7,hfz15_0,hfz15_1,hfz15_2,hfz15_3,hfz15_4,hfz15_5,hfz15_6,hfz15_7⟩:=blk8_ BK237.out
        go_wp2_with (first|(go_at_call 37;(with_reducible refine (understudyref05_utf.calls _ _ l0 a1_1 true _ ?side1 ?side2 A6.out).mono ?_);(case side1 => exact kc_ (Kd.C_below HR0.out HB.out));(case side2 => exact HC0.out);rintro e w' ⟨rfl,⟨nd,rfl⟩⟩)|(go_at_call 37;(with_reducible refine (understudyref05_utf.calls _ _ l0 a1_2 true _ ?side1 ?side2 A8.out).mono ?_);(case side1 => exact kc_ (Kd.C_below HR0.out bl_));(case side2 => exact HC0.out);rintro e w' ⟨rfl,⟨nd,rfl⟩⟩))
        go_meet
        case rel => exact ⟨_,(true),r3_,H',⟨by first|omega|exact Nat.le_refl _⟩,⟨bk_⟩,⟨bl_⟩⟩
       ·rw [if_neg c14] at H
        have c14b0:decide (a1_4 < 0)=false:=decide_eq_false c14
        clear c14
        have H':=Aside0.mk H
        clear H
        obtain ⟨hcz16_0,hcz16_1,hcz16_2,hcz16_3,hcz16_4,hcz16_5,hcz16_6,hcz16_7,hfz16_0,hfz16_1,hfz16_2,hfz16_3,hfz16_4,hfz16_5,hfz16_6,hfz16_7⟩:=blk8_ BK237.out
        go_wp2_with (first|(go_at_call 37;(with_reducible refine (understudyref05_utf.calls _ _ l0 a1_1 true _ ?side1 ?side2 A6.out).mono ?_);(case side1 => exact kc_ (Kd.C_below HR0.out HB.out));(case side2 => exact HC0.out);rintro e w' ⟨rfl,⟨nd,rfl⟩⟩)|(go_at_call 37;(with_reducible refine (understudyref05_utf.calls _ _ l0 a1_2 true _ ?side1 ?side2 A8.out).mono ?_);(case side1 => exact kc_ (Kd.C_below HR0.out bl_));(case side2 => exact HC0.out);rintro e w' ⟨rfl,⟨nd,rfl⟩⟩))
        go_meet
        case rel => exact ⟨_,(decide (a1_4 > 64)),r3_,H',⟨by first|omega|exact Nat.le_refl _⟩,⟨bk_⟩,⟨bl_⟩⟩
    ·replace c9:=Bool.eq_false_iff.mpr c9
     subst c9
     rw [if_neg (show ¬ (false=true) by decide)] at H
     have H':=Aside0.mk H
     clear H
     obtain ⟨hcz17_0,hcz17_1,hcz17_2,hcz17_3,hcz17_4,hcz17_5,hcz17_6,hcz17_7,hfz17_0,hfz17_1,hfz17_2,hfz17_3,hfz17_4,hfz17_5,hfz17_6,hfz17_7⟩:=blk8_ BK237.out
     go_wp2_with (first|(go_at_call 37;(with_reducible refine (understudyref05_utf.calls _ _ l0 a1_1 true _ ?side1 ?side2 A6.out).mono ?_);(case side1 => exact kc_ (Kd.C_below HR0.out HB.out));(case side2 => exact HC0.out);rintro e w' ⟨rfl,⟨nd,rfl⟩⟩)|(go_at_call 37;(with_reducible refine (understudyref05_utf.calls _ _ l0 a1_2 false _ ?side1 ?side2 A8.out).mono ?_);(case side1 => exact kc_ (Kd.C_below HR0.out bl_));(case side2 => exact HC0.out);rintro e w' ⟨rfl,⟨nd,rfl⟩⟩))
     go_meet
     case rel => exact ⟨_,(true),r3_,H',⟨by first|omega|exact Nat.le_refl _⟩,⟨bk_⟩,⟨bl_⟩⟩
   ·replace c7:=Bool.eq_false_iff.mpr c7
    subst c7
    rw [if_neg (show ¬ (false=true) by decide)] at H
    have H':=Aside0.mk H
    clear H
    obtain ⟨hcz18_0,hcz18_1,hcz18_2,hcz18_3,hcz18_4,hcz18_5,hcz18_6,hcz18_7,hfz18_0,hfz18_1,hfz18_2,hfz18_3,hfz18_4,hfz18_5,hfz18_6,hfz18_7⟩:=blk8_ BK237.out
    go_wp2_with (first|(go_at_call 37;(with_reducible refine (understudyref05_utf.calls _ _ l0 a1_1 false _ ?side1 ?side2 A6.out).mono ?_);(case side1 => exact kc_ (Kd.C_below HR0.out HB.out));(case side2 => exact HC0.out);rintro e w' ⟨rfl,⟨nd,rfl⟩⟩))
    go_meet
    case rel => exact ⟨_,(true),r3_,H',⟨by first|omega|exact Nat.le_refl _⟩,⟨bk_⟩,⟨bl_⟩⟩
  ·rw [if_neg c5] at H
   have c5b0:(a1_0==0)=false:=beq_eq_false_iff_ne.mpr c5
   have c5b1:(a1_0 != 0)=true:=bne_iff_ne.mpr c5
   (first|rw [c5b0]|(simp only [i64_w,i32_w];rw [c5b0])|skip)
   by_cases c19:a1_0=8
   ·rw [if_pos c19] at H
    have c19b0:(a1_0==8)=true:=beq_iff_eq.mpr c19
    have c19b1:(a1_0 != 8)=false:=bne_eq_false_iff_eq.mpr c19
    clear c19
    replace H:=Option.bind_eq_some_iff.mp H
    obtain ⟨t240,A200,H⟩:=H
    try dsimp only at H
    have A20:=Aside0.mk A200
    clear A200
    by_cases c21:t240=true
    ·subst c21
     rw [if_pos rfl] at H
     replace H:=Option.bind_eq_some_iff.mp H
     obtain ⟨t241,A220,H⟩:=H
     try dsimp only at H
     have A22:=Aside0.mk A220
     clear A220
     by_cases c23:t241=true
     ·subst c23
      rw [if_pos rfl] at H
      by_cases c24:a1_3 < 0
      ·rw [if_pos c24] at H
       have c24b0:decide (a1_3 < 0)=true:=decide_eq_true c24
       clear c24
       have H':=Aside0.mk H
       clear H
       obtain ⟨hcz25_0,hcz25_1,hcz25_2,hcz25_3,hcz25_4,hcz25_5,hcz25_6,hcz25_7,hfz25_0,hfz25_1,hfz25_2,hfz25_3,hfz25_4,hfz25_5,hfz25_6,hfz25_7⟩:=blk8_ BK237.out
       go_wp2_with (first|(go_at_call 37;(with_reducible refine (understudyref05_utf.calls _ _ l0 a1_1 true _ ?side1 ?side2 A20.out).mono ?_);(case side1 => exact kc_ (Kd.C_below HR0.out HB.out));(case side2 => exact HC0.out);rintro e w' ⟨rfl,⟨nd,rfl⟩⟩)|(go_at_call 37;(with_reducible refine (understudyref05_utf.calls _ _ l0 a1_2 true _ ?side1 ?side2 A22.out).mono ?_);(case side1 => exact kc_ (Kd.C_below HR0.out bl_));(case side2 => exact HC0.out);rintro e w' ⟨rfl,⟨nd,rfl⟩⟩))
       go_meet
       case rel => exact ⟨_,(true),r3_,H',⟨by first|omega|exact Nat.le_refl _⟩,⟨bk_⟩,⟨bl_⟩⟩
      ·rw [if_neg c24] at H
       have c24b0:decide (a1_3 < 0)=false:=decide_eq_false c24
       clear c24
       by_cases c26:a1_3 > 64
       ·rw [if_pos c26] at H
        have c26b0:decide (64 < a1_3)=true:=decide_eq_true c26
        clear c26
        have H':=Aside0.mk H
        clear H
        obtain ⟨hcz27_0,hcz27_1,hcz27_2,hcz27_3,hcz27_4,hcz27_5,hcz27_6,hcz27_7,hfz27_0,hfz27_1,hfz27_2,hfz27_3,hfz27_4,hfz27_5,hfz27_6,hfz27_7⟩:=blk8_ BK237.out
        go_wp2_with (first|(go_at_call 37;(with_reducible refine (understudyref05_utf.calls _ _ l0 a1_1 true _ ?side1 ?side2 A20.out).mono ?_);(case side1 => exact kc_ (Kd.C_below HR0.out HB.out));(case side2 => exact HC0.out);rintro e w' ⟨rfl,⟨nd,rfl⟩⟩)|(go_at_call 37;(with_reducible refine (understudyref05_utf.calls _ _ l0 a1_2 true _ ?side1 ?side2 A22.out).mono ?_);(case side1 => exact kc_ (Kd.C_below HR0.out bl_));(case side2 => exact HC0.out);rintro e w' ⟨rfl,⟨nd,rfl⟩⟩))
        go_meet
        case rel => exact ⟨_,(true),r3_,H',⟨by first|omega|exact Nat.le_refl _⟩,⟨bk_⟩,⟨bl_⟩⟩
       ·rw [if_neg c26] at H
        have c26b0:decide (64 < a1_3)=false:=decide_eq_false c26
        clear c26
        by_cases c28:a1_4 < 0
        ·rw [if_pos c28] at H
         have c28b0:decide (a1_4 < 0)=true:=decide_eq_true c28
         clear c28
         have H':=Aside0.mk H
         clear H
         obtain ⟨hcz29_0,hcz29_1,hcz29_2,hcz29_3,hcz29_4,hcz29_5,hcz29_6,hcz29_7,hfz29_0,hfz29_1,hfz29_2,hfz29_3,hfz29_4,hfz29_5,hfz29_6,hfz29_7⟩:=blk8_ BK237.out
         go_wp2_with (first|(go_at_call 37;(with_reducible refine (understudyref05_utf.calls _ _ l0 a1_1 true _ ?side1 ?side2 A20.out).mono ?_);(case side1 => exact kc_ (Kd.C_below HR0.out HB.out));(case side2 => exact HC0.out);rintro e w' ⟨rfl,⟨nd,rfl⟩⟩)|(go_at_call 37;(with_reducible refine (understudyref05_utf.calls _ _ l0 a1_2 true _ ?side1 ?side2 A22.out).mono ?_);(case side1 => exact kc_ (Kd.C_below HR0.out bl_));(case side2 => exact HC0.out);rintro e w' ⟨rfl,⟨nd,rfl⟩⟩))
         go_meet
         case rel => exact ⟨_,(true),r3_,H',⟨by first|omega|exact Nat.le_refl _⟩,⟨bk_⟩,⟨bl_⟩⟩
        ·rw [if_neg c28] at H
         have c28b0:decide (a1_4 < 0)=false:=decide_eq_false c28
         clear c28
         have H':=Aside0.mk H
         clear H
         obtain ⟨hcz30_0,hcz30_1,hcz30_2,hcz30_3,hcz30_4,hcz30_5,hcz30_6,hcz30_7,hfz30_0,hfz30_1,hfz30_2,hfz30_3,hfz30_4,hfz30_5,hfz30_6,hfz30_7⟩:=blk8_ BK237.out
         go_wp2_with (first|(go_at_call 37;(with_reducible refine (understudyref05_utf.calls _ _ l0 a1_1 true _ ?side1 ?side2 A20.out).mono ?_);(case side1 => exact kc_ (Kd.C_below HR0.out HB.out));(case side2 => exact HC0.out);rintro e w' ⟨rfl,⟨nd,rfl⟩⟩)|(go_at_call 37;(with_reducible refine (understudyref05_utf.calls _ _ l0 a1_2 true _ ?side1 ?side2 A22.out).mono ?_);(case side1 => exact kc_ (Kd.C_below HR0.out bl_));(case side2 => exact HC0.out);rintro e w' ⟨rfl,⟨nd,rfl⟩⟩))
         go_meet
         case rel => exact ⟨_,(decide (a1_4 > 64)),r3_,H',⟨by first|omega|exact Nat.le_refl _⟩,⟨bk_⟩,⟨bl_⟩⟩
     ·replace c23:=Bool.eq_false_iff.mpr c23
      subst c23
      rw [if_neg (show ¬ (false=true) by decide)] at H
      have H':=Aside0.mk H
      clear H
      obtain ⟨hcz31_0,hcz31_1,hcz31_2,hcz31_3,hcz31_4,hcz31_5,hcz31_6,hcz31_7,hfz31_0,hfz31_1,hfz31_2,hfz31_3,hfz31_4,hfz31_5,hfz31_6,hfz31_7⟩:=blk8_ BK237.out
      go_wp2_with (first|(go_at_call 37;(with_reducible refine (understudyref05_utf.calls _ _ l0 a1_1 true _ ?side1 ?side2 A20.out).mono ?_);(case side1 => exact kc_ (Kd.C_below HR0.out HB.out));(case side2 => exact HC0.out);rintro e w' ⟨rfl,⟨nd,rfl⟩⟩)|(go_at_call 37;(with_reducible refine (understudyref05_utf.calls _ _ l0 a1_2 false _ ?side1 ?side2 A22.out).mono ?_);(case side1 => exact kc_ (Kd.C_below HR0.out bl_));(case side2 => exact HC0.out);rintro e w' ⟨rfl,⟨nd,rfl⟩⟩))
      go_meet
      case rel => exact ⟨_,(true),r3_,H',⟨by first|omega|exact Nat.le_refl _⟩,⟨bk_⟩,⟨bl_⟩⟩
    ·replace c21:=Bool.eq_false_iff.mpr c21
     subst c21
     rw [if_neg (show ¬ (false=true) by decide)] at H
     have H':=Aside0.mk H
     clear H
     obtain ⟨hcz32_0,hcz32_1,hcz32_2,hcz32_3,hcz32_4,hcz32_5,hcz32_6,hcz32_7,hfz32_0,hfz32_1,hfz32_2,hfz32_3,hfz32_4,hfz32_5,hfz32_6,hfz32_7⟩:=blk8_ BK237.out
     go_wp2_with (first|(go_at_call 37;(with_reducible refine (understudyref05_utf.calls _ _ l0 a1_1 false _ ?side1 ?side2 A20.out).mono ?_);(case side1 => exact kc_ (Kd.C_below HR0.out HB.out));(case side2 => exact HC0.out);rintro e w' ⟨rfl,⟨nd,rfl⟩⟩))
     go_meet
     case rel => exact ⟨_,(true),r3_,H',⟨by first|omega|exact Nat.le_refl _⟩,⟨bk_⟩,⟨bl_⟩⟩
   ·rw [if_neg c19] at H
    have c19b0:(a1_0==8)=false:=beq_eq_false_iff_ne.mpr c19
    have c19b1:(a1_0 != 8)=true:=bne_iff_ne.mpr c19
    have H':=Aside0.mk H
    clear H
    obtain ⟨hcz33_0,hcz33_1,hcz33_2,hcz33_3,hcz33_4,hcz33_5,hcz33_6,hcz33_7,hfz33_0,hfz33_1,hfz33_2,hfz33_3,hfz33_4,hfz33_5,hfz33_6,hfz33_7⟩:=blk8_ BK237.out
    go_wp2
    go_meet
    case rel => exact ⟨_,(true),r3_,H',⟨by first|omega|exact Nat.le_refl _⟩,⟨bk_⟩,⟨bl_⟩⟩
 case rest =>
  clear HC3
  obtain ⟨kq,x49_2,rfl,HA,HJ2,BK237,HB⟩:=hcut
  cases kq with
  | zero => exact absurd HA.out (by simp [understudyref05_method.j0])
  | succ kj2 =>
   have H:=HA.out
   clear HA
   simp only [understudyref05_method.j0] at H
   by_cases c34:x49_2=true
   ·subst c34
    rw [if_pos rfl] at H
    obtain rfl:=Option.some.inj H
    go_wp2
    go_ret
    exact ⟨ew_,bl_⟩
   ·replace c34:=Bool.eq_false_iff.mpr c34
    subst c34
    rw [if_neg (show ¬ (false=true) by decide)] at H
    have HC35:=Aside0.mk H
    clear H
    obtain ⟨hcz36_0,hcz36_1,hcz36_2,hcz36_3,hcz36_4,hcz36_5,hcz36_6,hcz36_7,hfz36_0,hfz36_1,hfz36_2,hfz36_3,hfz36_4,hfz36_5,hfz36_6,hfz36_7⟩:=blk8_ BK237.out
    go_upto_region 4 with (fail)
    go_cut [80] (fun v80 wc => ∃ (kq:Nat) (x80_34:Bool),v80=.bool x80_34∧Aside0 (understudyref05_method.j1 kq l0 (l1_5.length:Int) x80_34 a1_0 a1_1 a1_2 a1_3 a1_4 l1_5 l1_6 l1_7=some r)∧Aside0 (kq≤kj2)∧Aside0 (wc.heap[gb237]?=some (.cells #[.int .i64 a1_0,.int .i64 a1_1,.int .i64 a1_2,.int .i64 a1_3,.int .i64 a1_4,(.slice A1_5 l1_5.length c1_5),(.slice A1_6 l1_6.length c1_6),(.slice A1_7 l1_7.length c1_7)] 49 (0,0)))∧Aside0 (Below w.heap.size w wc))
    case first =>
     have H:=HC35.out
     clear HC35
     by_cases c37:(l1_5.length:Int) < 1
     ·rw [if_pos c37] at H
      have c37b0:decide ((l1_5.length:Int) < 1)=true:=decide_eq_true c37
      have c37b1:decide (l1_5.length < 1)=true:=decide_eq_true (by omega)
      clear c37
      (first|rw [c37b0]|(simp only [i64_w,i32_w];rw [c37b0])|skip)
      have H':=Aside0.mk H
      clear H
      go_wp2
      go_meet
      case rel => exact ⟨_,(true),r3_,H',⟨by have:=HJ2.out;first|omega|exact Nat.le_refl _⟩,⟨bk_⟩,⟨bl_⟩⟩
     ·rw [if_neg c37] at H
      have c37b0:decide ((l1_5.length:Int) < 1)=false:=decide_eq_false c37
      have c37b1:decide (l1_5.length < 1)=false:=decide_eq_false (by omega)
      clear c37
      (first|rw [c37b0]|(simp only [i64_w,i32_w];rw [c37b0])|skip)
      by_cases c38:(l1_5.length:Int) > 4096
      ·rw [if_pos c38] at H
       have c38b0:decide (4096 < (l1_5.length:Int))=true:=decide_eq_true c38
       have c38b1:decide (4096 < l1_5.length)=true:=decide_eq_true (by omega)
       clear c38
       have H':=Aside0.mk H
       clear H
       go_wp2
       go_meet
       case rel => exact ⟨_,(true),r3_,H',⟨by have:=HJ2.out;first|omega|exact Nat.le_refl _⟩,⟨bk_⟩,⟨bl_⟩⟩
      ·rw [if_neg c38] at H
       have c38b0:decide (4096 < (l1_5.length:Int))=false:=decide_eq_false c38
       have c38b1:decide (4096 < l1_5.length)=false:=decide_eq_false (by omega)
       clear c38
       by_cases c39:(l1_7.length:Int) > 4096
       ·rw [if_pos c39] at H
        have c39b0:decide (4096 < (l1_7.length:Int))=true:=decide_eq_true c39
        have c39b1:decide (4096 < l1_7.length)=true:=decide_eq_true (by omega)
        clear c39
        have H':=Aside0.mk H
        clear H
        obtain ⟨hcz40_0,hcz40_1,hcz40_2,hcz40_3,hcz40_4,hcz40_5,hcz40_6,hcz40_7,hfz40_0,hfz40_1,hfz40_2,hfz40_3,hfz40_4,hfz40_5,hfz40_6,hfz40_7⟩:=blk8_ BK237.out
        go_wp2
        go_meet
        case rel => exact ⟨_,(true),r3_,H',⟨by have:=HJ2.out;first|omega|exact Nat.le_refl _⟩,⟨bk_⟩,⟨bl_⟩⟩
       ·rw [if_neg c39] at H
        have c39b0:decide (4096 < (l1_7.length:Int))=false:=decide_eq_false c39
        have c39b1:decide (4096 < l1_7.length)=false:=decide_eq_false (by omega)
        clear c39
        replace H:=Option.bind_eq_some_iff.mp H
        obtain ⟨t242,A410,H⟩:=H
        try dsimp only at H
        have A41:=Aside0.mk A410
        clear A410
        by_cases c42:t242=0
        ·rw [if_pos c42] at H
         have c42b0:(t242==0)=true:=beq_iff_eq.mpr c42
         have c42b1:(t242 != 0)=false:=bne_eq_false_iff_eq.mpr c42
         clear c42
         have H':=Aside0.mk H
         clear H
         obtain ⟨hcz43_0,hcz43_1,hcz43_2,hcz43_3,hcz43_4,hcz43_5,hcz43_6,hcz43_7,hfz43_0,hfz43_1,hfz43_2,hfz43_3,hfz43_4,hfz43_5,hfz43_6,hfz43_7⟩:=blk8_ BK237.out
         go_wp2_with (first|(go_at_call 21;(with_reducible refine (understudyref05_text.calls kj2 _ _ l0 (⟨#[67,111,100,101]⟩:ByteArray) t242 _ ?side1 ?side2 A41.out).mono ?_);(case side1 => exact kc_ (Kd.C_below HR0.out HB.out));(case side2 => exact HC0.out);rintro e w' ⟨rfl,⟨nd,rfl⟩⟩))
         go_meet
         case rel => exact ⟨_,(true),r3_,H',⟨by have:=HJ2.out;first|omega|exact Nat.le_refl _⟩,⟨bk_⟩,⟨bl_⟩⟩
        ·rw [if_neg c42] at H
         have c42b0:(t242==0)=false:=beq_eq_false_iff_ne.mpr c42
         have c42b1:(t242 != 0)=true:=bne_iff_ne.mpr c42
         by_cases c44:(l1_7.length:Int) > 0
         ·rw [if_pos c44] at H
          have c44b0:decide (0 < (l1_7.length:Int))=true:=decide_eq_true c44
          have c44b1:decide (0 < l1_7.length)=true:=decide_eq_true (by omega)
          clear c44
          replace H:=Option.bind_eq_some_iff.mp H
          obtain ⟨t243,A450,H⟩:=H
          try dsimp only at H
          have A45:=Aside0.mk A450
          clear A450
          have H':=Aside0.mk H
          clear H
          obtain ⟨hcz46_0,hcz46_1,hcz46_2,hcz46_3,hcz46_4,hcz46_5,hcz46_6,hcz46_7,hfz46_0,hfz46_1,hfz46_2,hfz46_3,hfz46_4,hfz46_5,hfz46_6,hfz46_7⟩:=blk8_ BK237.out
          go_wp2_with (first|(go_at_call 21;(with_reducible refine (understudyref05_text.calls kj2 _ _ l0 (⟨#[67,111,100,101]⟩:ByteArray) t242 _ ?side1 ?side2 A41.out).mono ?_);(case side1 => exact kc_ (Kd.C_below HR0.out HB.out));(case side2 => exact HC0.out);rintro e w' ⟨rfl,⟨nd,rfl⟩⟩)|(go_at_call 21;(with_reducible refine (understudyref05_text.calls kj2 _ _ l0 (⟨#[83,116,97,99,107,77,97,112,84,97,98,108,101]⟩:ByteArray) t243 _ ?side1 ?side2 A45.out).mono ?_);(case side1 => exact kc_ (Kd.C_below HR0.out bl_));(case side2 => exact HC0.out);rintro e w' ⟨rfl,⟨nd,rfl⟩⟩))
          go_meet
          case rel => exact ⟨_,((t243==0)),r3_,H',⟨by have:=HJ2.out;first|omega|exact Nat.le_refl _⟩,⟨bk_⟩,⟨bl_⟩⟩
         ·rw [if_neg c44] at H
          have c44b0:decide (0 < (l1_7.length:Int))=false:=decide_eq_false c44
          have c44b1:decide (0 < l1_7.length)=false:=decide_eq_false (by omega)
          clear c44
          have H':=Aside0.mk H
          clear H
          obtain ⟨hcz47_0,hcz47_1,hcz47_2,hcz47_3,hcz47_4,hcz47_5,hcz47_6,hcz47_7,hfz47_0,hfz47_1,hfz47_2,hfz47_3,hfz47_4,hfz47_5,hfz47_6,hfz47_7⟩:=blk8_ BK237.out
          go_wp2_with (first|(go_at_call 21;(with_reducible refine (understudyref05_text.calls kj2 _ _ l0 (⟨#[67,111,100,101]⟩:ByteArray) t242 _ ?side1 ?side2 A41.out).mono ?_);(case side1 => exact kc_ (Kd.C_below HR0.out HB.out));(case side2 => exact HC0.out);rintro e w' ⟨rfl,⟨nd,rfl⟩⟩))
          go_meet
          case rel => exact ⟨_,(false),r3_,H',⟨by have:=HJ2.out;first|omega|exact Nat.le_refl _⟩,⟨bk_⟩,⟨bl_⟩⟩
    case rest =>
     clear HC35
     try clear c34;try clear hcz36_0;try clear hcz36_1;try clear hcz36_2;try clear hcz36_3;try clear hcz36_4;try clear hcz36_5;try clear hcz36_6;try clear hcz36_7;try clear hfz36_0;try clear hfz36_1;try clear hfz36_2;try clear hfz36_3;try clear hfz36_4;try clear hfz36_5;try clear hfz36_6;try clear hfz36_7
     obtain ⟨kq,x80_34,rfl,HA,HJ34,BK237,HB⟩:=hcut
     cases kq with
     | zero => exact absurd HA.out (by simp [understudyref05_method.j1])
     | succ kj34 =>
      have H:=HA.out
      clear HA
      simp only [understudyref05_method.j1] at H
      by_cases c48:x80_34=true
      ·subst c48
       rw [if_pos rfl] at H
       obtain rfl:=Option.some.inj H
       go_wp2
       go_ret
       exact ⟨ew_,bl_⟩
      ·replace c48:=Bool.eq_false_iff.mpr c48
       subst c48
       rw [if_neg (show ¬ (false=true) by decide)] at H
       have H':=Aside0.mk H
       clear H
       go_wp2
       go_loopg [6] kj34 (fun kq v6 w' => ∃ (x6_3:Int),v6=.int .i64 x6_3∧Aside0 (understudyref05_method.l0 kq l0 (l1_5.length:Int) x6_3 a1_0 a1_1 a1_2 a1_3 a1_4 l1_5 l1_6 l1_7=some r)∧Aside0 (kq≤kj34)∧Aside0 (w'.heap[gb237]?=some (.cells #[.int .i64 a1_0,.int .i64 a1_1,.int .i64 a1_2,.int .i64 a1_3,.int .i64 a1_4,(.slice A1_5 l1_5.length c1_5),(.slice A1_6 l1_6.length c1_6),(.slice A1_7 l1_7.length c1_7)] 49 (0,0)))∧Aside0 (Below w.heap.size w w'))
       case atStart => exact ⟨(0),r3_,H',⟨Nat.le_refl _⟩,⟨bk_⟩,⟨bl_⟩⟩
       case round =>
        clear H'
        try clear c48
        obtain ⟨x6_3,rfl,HA,HK3,BK237,HB⟩:=hrel
        cases gk with
        | zero => exact absurd HA.out (by simp [understudyref05_method.l0])
        | succ k3 =>
         have H:=HA.out
         clear HA
         simp only [understudyref05_method.l0] at H
         by_cases c49:x6_3 < (l1_6.length:Int)
         ·rw [if_pos c49] at H
          have c49b0:decide (x6_3 < (l1_6.length:Int))=true:=decide_eq_true c49
          clear c49
          by_cases c50:0≤x6_3
          ·rw [if_pos c50] at H
           have c50b0:decide (0≤x6_3)=true:=decide_eq_true c50
           clear c50
           have HC51:=Aside0.mk H
           clear H
           obtain ⟨hcz52_0,hcz52_1,hcz52_2,hcz52_3,hcz52_4,hcz52_5,hcz52_6,hcz52_7,hfz52_0,hfz52_1,hfz52_2,hfz52_3,hfz52_4,hfz52_5,hfz52_6,hfz52_7⟩:=blk8_ BK237.out
           have p244:0≤(x6_3:Int):=od_
           have q244:x6_3 < (l1_6.length:Int):=od_
           obtain ⟨ad244,e244,hx244_0,hx244_1,hx244_2,hx244_3⟩:=at_T78 HR1_6.out x6_3 p244 q244
           cases e244
           replace hx244_0:=hb_ HB hx244_0
           replace hx244_1:=hb_ HB hx244_1
           replace hx244_2:=hb_ HB hx244_2
           replace hx244_3:=hb_ HB hx244_3
           replace p244:=eq_true p244
           replace q244:=eq_true q244
           go_upto_region 10 with (first|((with_reducible refine gate_dst (N:=7) rfl ?_);(try (refine gate_guard (by rfl) ?_;dsimp only));refine box_event ?hg (N:=7) ?hd (cs:=#[.int .i64 0,.int .i64 0,.int .i64 0,.int .i64 0]) (t:=78) ?hr ?_;(case hd => rfl);(case hg => rfl);(case hr => first|(go_simp;done)|(go_simp;rfl));intro gb245 hg w53 hbox hb;have n0_:=Aside0.mk (blk_below (g:=gb237) (o:=.cells #[.int .i64 a1_0,.int .i64 a1_1,.int .i64 a1_2,.int .i64 a1_3,.int .i64 a1_4,.slice A1_5 l1_5.length c1_5,.slice (some ad244) l1_6.length c1_6,.slice A1_7 l1_7.length c1_7] 49 (0,0)) bk_ hb);have n1_:=Aside0.mk (below_step bl_ hb);have n2_:=Aside0.mk (hbox);have n3_:=Aside0.mk ((by rw [hg];exact (below_size bl_):w.heap.size≤gb245));have n4_:=Aside0.mk ((by rw [hg];exact (below_size bl_):w.heap.size≤gb245));have n5_:=Aside0.mk ((by rw [hg];exact Nat.ne_of_lt (blk_lt (g:=gb237) (o:=.cells #[.int .i64 a1_0,.int .i64 a1_1,.int .i64 a1_2,.int .i64 a1_3,.int .i64 a1_4,.slice A1_5 l1_5.length c1_5,.slice (some ad244) l1_6.length c1_6,.slice A1_7 l1_7.length c1_7] 49 (0,0)) bk_):gb237 ≠ gb245));have n6_:=Aside0.mk ((by rw [hg];exact Nat.ne_of_gt (blk_lt (g:=gb237) (o:=.cells #[.int .i64 a1_0,.int .i64 a1_1,.int .i64 a1_2,.int .i64 a1_3,.int .i64 a1_4,.slice A1_5 l1_5.length c1_5,.slice (some ad244) l1_6.length c1_6,.slice A1_7 l1_7.length c1_7] 49 (0,0)) bk_):gb245 ≠ gb237));clear BK237;clear HB;have BK237:=n0_;have HB:=n1_;have BK245:=n2_;have GW245:=n3_;have GE245:=n4_;have NB237_245:=n5_;have NB245_237:=n6_;clear n0_ n1_ n2_ n3_ n4_ n5_ n6_;clear hb hbox hg;have hnb54:=NB245_237.out;have hnc54:=NB237_245.out;obtain ⟨hcz55_0,hcz55_1,hcz55_2,hcz55_3⟩:=blc4_ BK245.out;have hfz55_0:=blk_frozen BK245.out 0;have hfz55_1:=blk_frozen BK245.out 1;have hfz55_2:=blk_frozen BK245.out 2;have hfz55_3:=blk_frozen BK245.out 3))
           (try simp only [Act.put,List.setIfInBounds_toArray,List.set_cons_zero,List.set_cons_succ])
           go_cut [131] (fun v131 wc => ∃ (kq:Nat) (x131_50:Bool),v131=.bool x131_50∧Aside0 (understudyref05_method.j3 kq l0 (l1_5.length:Int) x6_3 x131_50 a1_0 a1_1 a1_2 a1_3 a1_4 l1_5 l1_6 l1_7=some r)∧Aside0 (kq≤k3)∧Aside0 (wc.heap[gb237]?=some (.cells #[.int .i64 a1_0,.int .i64 a1_1,.int .i64 a1_2,.int .i64 a1_3,.int .i64 a1_4,(.slice A1_5 l1_5.length c1_5),(.slice (some ad244) l1_6.length c1_6),(.slice A1_7 l1_7.length c1_7)] 49 (0,0)))∧Aside0 (wc.heap[gb245]?=some (.cells #[.int .i64 ((rd_T78 l1_6 x6_3).f0),.int .i64 ((rd_T78 l1_6 x6_3).f1),.int .i64 ((rd_T78 l1_6 x6_3).f2),.int .i64 ((rd_T78 l1_6 x6_3).f3)] 78 (0,0)))∧Aside0 (Below w.heap.size w wc))
           case first =>
            have H:=HC51.out
            clear HC51
            by_cases c56:((rd_T78 l1_6 x6_3).f0) < 0
            ·rw [if_pos c56] at H
             have c56b0:decide (((rd_T78 l1_6 x6_3).f0) < 0)=true:=decide_eq_true c56
             clear c56
             (first|rw [c56b0]|(simp only [i64_w,i32_w];rw [c56b0])|skip)
             have H':=Aside0.mk H
             clear H
             have hnb57:=NB245_237.out
             have hnc57:=NB237_245.out
             obtain ⟨hcz58_0,hcz58_1,hcz58_2,hcz58_3,hfz58_0,hfz58_1,hfz58_2,hfz58_3⟩:=blk4_ BK245.out
             go_wp2
             go_meet
             case rel => exact ⟨_,(true),r3_,H',⟨by have:=HJ2.out;have:=HJ34.out;have:=HK3.out;first|omega|exact Nat.le_refl _⟩,⟨bk_⟩,⟨st4_ BK245.out⟩,⟨bl_⟩⟩
            ·rw [if_neg c56] at H
             have c56b0:decide (((rd_T78 l1_6 x6_3).f0) < 0)=false:=decide_eq_false c56
             clear c56
             (first|rw [c56b0]|(simp only [i64_w,i32_w];rw [c56b0])|skip)
             by_cases c59:((rd_T78 l1_6 x6_3).f0) ≥ ((rd_T78 l1_6 x6_3).f1)
             ·rw [if_pos c59] at H
              have c59b0:decide (((rd_T78 l1_6 x6_3).f1)≤((rd_T78 l1_6 x6_3).f0))=true:=decide_eq_true c59
              clear c59
              have H':=Aside0.mk H
              clear H
              have hnb60:=NB245_237.out
              have hnc60:=NB237_245.out
              obtain ⟨hcz61_0,hcz61_1,hcz61_2,hcz61_3,hfz61_0,hfz61_1,hfz61_2,hfz61_3⟩:=blk4_ BK245.out
              go_wp2
              go_meet
              case rel => exact ⟨_,(true),r3_,H',⟨by have:=HJ2.out;have:=HJ34.out;have:=HK3.out;first|omega|exact Nat.le_refl _⟩,⟨bk_⟩,⟨st4_ BK245.out⟩,⟨bl_⟩⟩
             ·rw [if_neg c59] at H
              have c59b0:decide (((rd_T78 l1_6 x6_3).f1)≤((rd_T78 l1_6 x6_3).f0))=false:=decide_eq_false c59
              clear c59
              by_cases c62:((rd_T78 l1_6 x6_3).f1) > (l1_5.length:Int)
              ·rw [if_pos c62] at H
               have c62b0:decide ((l1_5.length:Int) < ((rd_T78 l1_6 x6_3).f1))=true:=decide_eq_true c62
               clear c62
               have H':=Aside0.mk H
               clear H
               have hnb63:=NB245_237.out
               have hnc63:=NB237_245.out
               obtain ⟨hcz64_0,hcz64_1,hcz64_2,hcz64_3,hfz64_0,hfz64_1,hfz64_2,hfz64_3⟩:=blk4_ BK245.out
               go_wp2
               go_meet
               case rel => exact ⟨_,(true),r3_,H',⟨by have:=HJ2.out;have:=HJ34.out;have:=HK3.out;first|omega|exact Nat.le_refl _⟩,⟨bk_⟩,⟨st4_ BK245.out⟩,⟨bl_⟩⟩
              ·rw [if_neg c62] at H
               have c62b0:decide ((l1_5.length:Int) < ((rd_T78 l1_6 x6_3).f1))=false:=decide_eq_false c62
               clear c62
               by_cases c65:((rd_T78 l1_6 x6_3).f2) < 0
               ·rw [if_pos c65] at H
                have c65b0:decide (((rd_T78 l1_6 x6_3).f2) < 0)=true:=decide_eq_true c65
                clear c65
                have H':=Aside0.mk H
                clear H
                have hnb66:=NB245_237.out
                have hnc66:=NB237_245.out
                obtain ⟨hcz67_0,hcz67_1,hcz67_2,hcz67_3,hfz67_0,hfz67_1,hfz67_2,hfz67_3⟩:=blk4_ BK245.out
                go_wp2
                go_meet
                case rel => exact ⟨_,(true),r3_,H',⟨by have:=HJ2.out;have:=HJ34.out;have:=HK3.out;first|omega|exact Nat.le_refl _⟩,⟨bk_⟩,⟨st4_ BK245.out⟩,⟨bl_⟩⟩
               ·rw [if_neg c65] at H
                have c65b0:decide (((rd_T78 l1_6 x6_3).f2) < 0)=false:=decide_eq_false c65
                clear c65
                by_cases c68:((rd_T78 l1_6 x6_3).f2) ≥ (l1_5.length:Int)
                ·rw [if_pos c68] at H
                 have c68b0:decide ((l1_5.length:Int)≤((rd_T78 l1_6 x6_3).f2))=true:=decide_eq_true c68
                 clear c68
                 have H':=Aside0.mk H
                 clear H
                 have hnb69:=NB245_237.out
                 have hnc69:=NB237_245.out
                 obtain ⟨hcz70_0,hcz70_1,hcz70_2,hcz70_3,hfz70_0,hfz70_1,hfz70_2,hfz70_3⟩:=blk4_ BK245.out
                 go_wp2
                 go_meet
                 case rel => exact ⟨_,(true),r3_,H',⟨by have:=HJ2.out;have:=HJ34.out;have:=HK3.out;first|omega|exact Nat.le_refl _⟩,⟨bk_⟩,⟨st4_ BK245.out⟩,⟨bl_⟩⟩
                ·rw [if_neg c68] at H
                 have c68b0:decide ((l1_5.length:Int)≤((rd_T78 l1_6 x6_3).f2))=false:=decide_eq_false c68
                 clear c68
                 by_cases c71:((rd_T78 l1_6 x6_3).f3)=0
                 ·rw [if_pos c71] at H
                  have c71b0:(((rd_T78 l1_6 x6_3).f3)==0)=true:=beq_iff_eq.mpr c71
                  have c71b1:(((rd_T78 l1_6 x6_3).f3) != 0)=false:=bne_eq_false_iff_eq.mpr c71
                  clear c71
                  have H':=Aside0.mk H
                  clear H
                  have hnb72:=NB245_237.out
                  have hnc72:=NB237_245.out
                  obtain ⟨hcz73_0,hcz73_1,hcz73_2,hcz73_3,hfz73_0,hfz73_1,hfz73_2,hfz73_3⟩:=blk4_ BK245.out
                  go_wp2
                  go_meet
                  case rel => exact ⟨_,(false),r3_,H',⟨by have:=HJ2.out;have:=HJ34.out;have:=HK3.out;first|omega|exact Nat.le_refl _⟩,⟨bk_⟩,⟨st4_ BK245.out⟩,⟨bl_⟩⟩
                 ·rw [if_neg c71] at H
                  have c71b0:(((rd_T78 l1_6 x6_3).f3)==0)=false:=beq_eq_false_iff_ne.mpr c71
                  have c71b1:(((rd_T78 l1_6 x6_3).f3) != 0)=true:=bne_iff_ne.mpr c71
                  replace H:=Option.bind_eq_some_iff.mp H
                  obtain ⟨t246,A740,H⟩:=H
                  try dsimp only at H
                  have A74:=Aside0.mk A740
                  clear A740
                  have H':=Aside0.mk H
                  clear H
                  have hnb75:=NB245_237.out
                  have hnc75:=NB237_245.out
                  obtain ⟨hcz76_0,hcz76_1,hcz76_2,hcz76_3,hfz76_0,hfz76_1,hfz76_2,hfz76_3⟩:=blk4_ BK245.out
                  go_wp2_with (first|(go_at_call 36;(with_reducible refine (understudyref05_cls.calls _ _ l0 ((rd_T78 l1_6 x6_3).f3) t246 _ ?side1 ?side2 A74.out).mono ?_);(case side1 => exact Kd.C_below HR0.out bl_);(case side2 => exact HC0.out);rintro e w' ⟨rfl,⟨nd,rfl⟩⟩))
                  go_meet
                  case rel => exact ⟨_,(!t246),r3_,H',⟨by have:=HJ2.out;have:=HJ34.out;have:=HK3.out;first|omega|exact Nat.le_refl _⟩,⟨bk_⟩,⟨st4_ BK245.out⟩,⟨bl_⟩⟩
           case rest =>
            clear HC51
            try clear c49;try clear c49b0;try clear c50;try clear c50b0;try clear hcz52_0;try clear hcz52_1;try clear hcz52_2;try clear hcz52_3;try clear hcz52_4;try clear hcz52_5;try clear hcz52_6;try clear hcz52_7;try clear hcz55_0;try clear hcz55_1;try clear hcz55_2;try clear hcz55_3;try clear hfz52_0;try clear hfz52_1;try clear hfz52_2;try clear hfz52_3;try clear hfz52_4;try clear hfz52_5;try clear hfz52_6;try clear hfz52_7;try clear hfz55_0;try clear hfz55_1;try clear hfz55_2;try clear hfz55_3;try clear hx244_0;try clear hx244_1;try clear hx244_2;try clear hx244_3;try clear p244;try clear q244
            obtain ⟨kq,x131_50,rfl,HA,HJ50,BK237,BK245,HB⟩:=hcut
            cases kq with
            | zero => exact absurd HA.out (by simp [understudyref05_method.j3])
            | succ kj50 =>
             have H:=HA.out
             clear HA
             simp only [understudyref05_method.j3] at H
             by_cases c77:x131_50=true
             ·subst c77
              rw [if_pos rfl] at H
              obtain rfl:=Option.some.inj H
              go_wp2
              go_ret
              exact ⟨ew_,bl_⟩
             ·replace c77:=Bool.eq_false_iff.mpr c77
              subst c77
              rw [if_neg (show ¬ (false=true) by decide)] at H
              have H':=Aside0.mk H
              clear H
              go_wp2
              go_roundg kj50
              case measure => have:=HJ2.out;have:=HJ34.out;have:=HK3.out;have:=HJ50.out;omega
              case rel => exact ⟨(wrap64 (x6_3 + 1)),r3_,H',⟨by have:=HJ2.out;have:=HJ34.out;have:=HK3.out;have:=HJ50.out;omega⟩,⟨bk_⟩,⟨bl_⟩⟩
          ·rw [if_neg c50] at H
           exact absurd H (by simp)
         ·rw [if_neg c49] at H
          have c49b0:decide (x6_3 < (l1_6.length:Int))=false:=decide_eq_false c49
          clear c49
          obtain rfl:=Option.some.inj H
          obtain ⟨hcz78_0,hcz78_1,hcz78_2,hcz78_3,hcz78_4,hcz78_5,hcz78_6,hcz78_7,hfz78_0,hfz78_1,hfz78_2,hfz78_3,hfz78_4,hfz78_5,hfz78_6,hfz78_7⟩:=blk8_ BK237.out
          go_wp2
          go_ret
          exact ⟨ew_,bl_⟩
end Go.Proofs.YtmloaijagkebpaaDoor.Px
namespace Go.Proofs.YtmloaijagkebpaaDoor.Px
open Go.RowKit Go.Proofs.YtmloaijagkebpaaDoorW.PrintWords Go.Proofs.YtmloaijagkebpaaDoorW.PrintLast Go.Proofs.YtmloaijagkebpaaDoorW.PrintMore
attribute [local go_sem] max2_int min2_int max_two min_two max_three min_three max_four min_four
set_option linter.unusedVariables false
set_option linter.unusedSimpArgs false
mutual
def understudyref05_Check.j0:Nat→Bool→List (S60)→Int→Int→List (S46)→List (S49)→Option (Int)
 | 0,_,_,_,_,_,_ => none
 | k + 1,x23,x248000,x248001,x248002,x248003,x248004 => if x23=true then (some 2) else (understudyref05_Check.l0 k 0 x248000 x248001 x248002 x248003 x248004)
def understudyref05_Check.l0:Nat→Int→List (S60)→Int→Int→List (S46)→List (S49)→Option (Int)
 | 0,_,_,_,_,_,_ => none
 | k + 1,x4,x248000,x248001,x248002,x248003,x248004 => if x4 < (x248004.length:Int) then (if 0≤x4 then (if (((rd_T49 x248004 x4).f6).length:Int) > 64 then (some 2) else (understudyref05_Check.l0 k (wrap64 (x4 + 1)) x248000 x248001 x248002 x248003 x248004)) else (none)) else ((understudyref05_cls.f x248000 x248001).bind fun t250 => (if t250=true then ((understudyref05_cls.f x248000 x248002).bind fun t251 => (understudyref05_Check.j2 k (!t251) x248000 x248001 x248002 x248003 x248004)) else (understudyref05_Check.j2 k true x248000 x248001 x248002 x248003 x248004)))
def understudyref05_Check.j2:Nat→Bool→List (S60)→Int→Int→List (S46)→List (S49)→Option (Int)
 | 0,_,_,_,_,_,_ => none
 | k + 1,x52,x248000,x248001,x248002,x248003,x248004 => if x52=true then (some 50) else (understudyref05_Check.l1 k 0 x248000 x248001 x248002 x248003 x248004)
def understudyref05_Check.l1:Nat→Int→List (S60)→Int→Int→List (S46)→List (S49)→Option (Int)
 | 0,_,_,_,_,_,_ => none
 | k + 1,x5,x248000,x248001,x248002,x248003,x248004 => if x5 < (x248003.length:Int) then (if 0≤x5 then (if ((rd_T46 x248003 x5).f0)=0 then ((understudyref05_utf.f x248000 ((rd_T46 x248003 x5).f1)).bind fun t254 => (if t254=true then ((understudyref05_utf.f x248000 ((rd_T46 x248003 x5).f2)).bind fun t255 => (understudyref05_Check.j4 k x5 (!t255) x248000 x248001 x248002 x248003 x248004)) else (understudyref05_Check.j4 k x5 true x248000 x248001 x248002 x248003 x248004))) else (if ((rd_T46 x248003 x5).f0)=8 then ((understudyref05_utf.f x248000 ((rd_T46 x248003 x5).f1)).bind fun t256 => (if t256=true then ((understudyref05_utf.f x248000 ((rd_T46 x248003 x5).f2)).bind fun t257 => (understudyref05_Check.j4 k x5 (!t257) x248000 x248001 x248002 x248003 x248004)) else (understudyref05_Check.j4 k x5 true x248000 x248001 x248002 x248003 x248004))) else (understudyref05_Check.j4 k x5 true x248000 x248001 x248002 x248003 x248004))) else (none)) else (understudyref05_Check.l2 k 0 x248000 x248001 x248002 x248003 x248004)
def understudyref05_Check.j4:Nat→Int→Bool→List (S60)→Int→Int→List (S46)→List (S49)→Option (Int)
 | 0,_,_,_,_,_,_,_ => none
 | k + 1,x5,x88,x248000,x248001,x248002,x248003,x248004 => if x88=true then (some 50) else (understudyref05_Check.l1 k (wrap64 (x5 + 1)) x248000 x248001 x248002 x248003 x248004)
def understudyref05_Check.l2:Nat→Int→List (S60)→Int→Int→List (S46)→List (S49)→Option (Int)
 | 0,_,_,_,_,_,_ => none
 | k + 1,x7,x248000,x248001,x248002,x248003,x248004 => if x7 < (x248004.length:Int) then (if 0≤x7 then ((understudyref05_method.f k x248000 ((rd_T49 x248004 x7).f0) ((rd_T49 x248004 x7).f1) ((rd_T49 x248004 x7).f2) ((rd_T49 x248004 x7).f3) ((rd_T49 x248004 x7).f4) ((rd_T49 x248004 x7).f5) ((rd_T49 x248004 x7).f6) ((rd_T49 x248004 x7).f7)).bind fun t259 => (if t259=true then (understudyref05_Check.l2 k (wrap64 (x7 + 1)) x248000 x248001 x248002 x248003 x248004) else (some 50))) else (none)) else (some 0)
end
def understudyref05_Check.f (k:Nat) (l0_0:List (S60)) (a0_1:Int) (a0_2:Int) (l0_3:List (S46)) (l0_4:List (S49)):Option (Int):=(understudyref04_Check.f k l0_0).bind fun t248 => (if t248=0 then (if (l0_3.length:Int) > 64 then (understudyref05_Check.j0 k true l0_0 a0_1 a0_2 l0_3 l0_4) else (understudyref05_Check.j0 k (decide ((l0_4.length:Int) > 64)) l0_0 a0_1 a0_2 l0_3 l0_4)) else (some t248))
theorem understudyref05_Check.mono_l:∀ k,(∀ y0 y1 y2 y3 y4 y5,LeO (understudyref05_Check.j0 k y0 y1 y2 y3 y4 y5) (understudyref05_Check.j0 (k + 1) y0 y1 y2 y3 y4 y5))∧(∀ y0 y1 y2 y3 y4 y5,LeO (understudyref05_Check.l0 k y0 y1 y2 y3 y4 y5) (understudyref05_Check.l0 (k + 1) y0 y1 y2 y3 y4 y5))∧(∀ y0 y1 y2 y3 y4 y5,LeO (understudyref05_Check.j2 k y0 y1 y2 y3 y4 y5) (understudyref05_Check.j2 (k + 1) y0 y1 y2 y3 y4 y5))∧(∀ y0 y1 y2 y3 y4 y5,LeO (understudyref05_Check.l1 k y0 y1 y2 y3 y4 y5) (understudyref05_Check.l1 (k + 1) y0 y1 y2 y3 y4 y5))∧(∀ y0 y1 y2 y3 y4 y5 y6,LeO (understudyref05_Check.j4 k y0 y1 y2 y3 y4 y5 y6) (understudyref05_Check.j4 (k + 1) y0 y1 y2 y3 y4 y5 y6))∧(∀ y0 y1 y2 y3 y4 y5,LeO (understudyref05_Check.l2 k y0 y1 y2 y3 y4 y5) (understudyref05_Check.l2 (k + 1) y0 y1 y2 y3 y4 y5))
 | 0 => ⟨fun _ _ _ _ _ _ r h => by simp [understudyref05_Check.j0] at h,fun _ _ _ _ _ _ r h => by simp [understudyref05_Check.l0] at h,fun _ _ _ _ _ _ r h => by simp [understudyref05_Check.j2] at h,fun _ _ _ _ _ _ r h => by simp [understudyref05_Check.l1] at h,fun _ _ _ _ _ _ _ r h => by simp [understudyref05_Check.j4] at h,fun _ _ _ _ _ _ r h => by simp [understudyref05_Check.l2] at h⟩
 | k + 1 => by
  obtain ⟨ih0,ih1,ih2,ih3,ih4,ih5⟩:=understudyref05_Check.mono_l k
  refine ⟨?_,?_,?_,?_,?_,?_⟩
  ·intro y0 y1 y2 y3 y4 y5
   unfold understudyref05_Check.j0
   repeat' first
   | (with_reducible exact ih0 _ _ _ _ _ _)
   | (with_reducible exact ih1 _ _ _ _ _ _)
   | (with_reducible exact ih2 _ _ _ _ _ _)
   | (with_reducible exact ih3 _ _ _ _ _ _)
   | (with_reducible exact ih4 _ _ _ _ _ _ _)
   | (with_reducible exact ih5 _ _ _ _ _ _)
   | (with_reducible exact understudyref04_Check.mono _ _)
   | (with_reducible exact understudyref05_method.mono _ _ _ _ _ _ _ _ _ _)
   | (with_reducible exact LeO.refl _)
   | (with_reducible exact LeO.none _)
   | (with_reducible refine LeO.ite ?_ ?_)
   | (with_reducible refine LeO.bind ?_ (fun _ => ?_))
   | exact ih0 _ _ _ _ _ _
   | exact ih1 _ _ _ _ _ _
   | exact ih2 _ _ _ _ _ _
   | exact ih3 _ _ _ _ _ _
   | exact ih4 _ _ _ _ _ _ _
   | exact ih5 _ _ _ _ _ _
   | exact understudyref04_Check.mono _ _
   | exact understudyref05_method.mono _ _ _ _ _ _ _ _ _ _
   | exact LeO.none _
   | refine LeO.ite ?_ ?_
   | refine LeO.bind ?_ (fun _ => ?_)
  ·intro y0 y1 y2 y3 y4 y5
   unfold understudyref05_Check.l0
   repeat' first
   | (with_reducible exact ih0 _ _ _ _ _ _)
   | (with_reducible exact ih1 _ _ _ _ _ _)
   | (with_reducible exact ih2 _ _ _ _ _ _)
   | (with_reducible exact ih3 _ _ _ _ _ _)
   | (with_reducible exact ih4 _ _ _ _ _ _ _)
   | (with_reducible exact ih5 _ _ _ _ _ _)
   | (with_reducible exact understudyref04_Check.mono _ _)
   | (with_reducible exact understudyref05_method.mono _ _ _ _ _ _ _ _ _ _)
   | (with_reducible exact LeO.refl _)
   | (with_reducible exact LeO.none _)
   | (with_reducible refine LeO.ite ?_ ?_)
   | (with_reducible refine LeO.bind ?_ (fun _ => ?_))
   | exact ih0 _ _ _ _ _ _
   | exact ih1 _ _ _ _ _ _
   | exact ih2 _ _ _ _ _ _
   | exact ih3 _ _ _ _ _ _
   | exact ih4 _ _ _ _ _ _ _
   | exact ih5 _ _ _ _ _ _
   | exact understudyref04_Check.mono _ _
   | exact understudyref05_method.mono _ _ _ _ _ _ _ _ _ _
   | exact LeO.none _
   | refine LeO.ite ?_ ?_
   | refine LeO.bind ?_ (fun _ => ?_)
  ·intro y0 y1 y2 y3 y4 y5
   unfold understudyref05_Check.j2
   repeat' first
   | (with_reducible exact ih0 _ _ _ _ _ _)
   | (with_reducible exact ih1 _ _ _ _ _ _)
   | (with_reducible exact ih2 _ _ _ _ _ _)
   | (with_reducible exact ih3 _ _ _ _ _ _)
   | (with_reducible exact ih4 _ _ _ _ _ _ _)
   | (with_reducible exact ih5 _ _ _ _ _ _)
   | (with_reducible exact understudyref04_Check.mono _ _)
   | (with_reducible exact understudyref05_method.mono _ _ _ _ _ _ _ _ _ _)
   | (with_reducible exact LeO.refl _)
   | (with_reducible exact LeO.none _)
   | (with_reducible refine LeO.ite ?_ ?_)
   | (with_reducible refine LeO.bind ?_ (fun _ => ?_))
   | exact ih0 _ _ _ _ _ _
   | exact ih1 _ _ _ _ _ _
   | exact ih2 _ _ _ _ _ _
   | exact ih3 _ _ _ _ _ _
   | exact ih4 _ _ _ _ _ _ _
   | exact ih5 _ _ _ _ _ _
   | exact understudyref04_Check.mono _ _
   | exact understudyref05_method.mono _ _ _ _ _ _ _ _ _ _
   | exact LeO.none _
   | refine LeO.ite ?_ ?_
   | refine LeO.bind ?_ (fun _ => ?_)
  ·intro y0 y1 y2 y3 y4 y5
   unfold understudyref05_Check.l1
   repeat' first
   | (with_reducible exact ih0 _ _ _ _ _ _)
   | (with_reducible exact ih1 _ _ _ _ _ _)
   | (with_reducible exact ih2 _ _ _ _ _ _)
   | (with_reducible exact ih3 _ _ _ _ _ _)
   | (with_reducible exact ih4 _ _ _ _ _ _ _)
   | (with_reducible exact ih5 _ _ _ _ _ _)
   | (with_reducible exact understudyref04_Check.mono _ _)
   | (with_reducible exact understudyref05_method.mono _ _ _ _ _ _ _ _ _ _)
   | (with_reducible exact LeO.refl _)
   | (with_reducible exact LeO.none _)
   | (with_reducible refine LeO.ite ?_ ?_)
   | (with_reducible refine LeO.bind ?_ (fun _ => ?_))
   | exact ih0 _ _ _ _ _ _
   | exact ih1 _ _ _ _ _ _
   | exact ih2 _ _ _ _ _ _
   | exact ih3 _ _ _ _ _ _
   | exact ih4 _ _ _ _ _ _ _
   | exact ih5 _ _ _ _ _ _
   | exact understudyref04_Check.mono _ _
   | exact understudyref05_method.mono _ _ _ _ _ _ _ _ _ _
   | exact LeO.none _
   | refine LeO.ite ?_ ?_
   | refine LeO.bind ?_ (fun _ => ?_)
  ·intro y0 y1 y2 y3 y4 y5 y6
   unfold understudyref05_Check.j4
   repeat' first
   | (with_reducible exact ih0 _ _ _ _ _ _)
   | (with_reducible exact ih1 _ _ _ _ _ _)
   | (with_reducible exact ih2 _ _ _ _ _ _)
   | (with_reducible exact ih3 _ _ _ _ _ _)
   | (with_reducible exact ih4 _ _ _ _ _ _ _)
   | (with_reducible exact ih5 _ _ _ _ _ _)
   | (with_reducible exact understudyref04_Check.mono _ _)
   | (with_reducible exact understudyref05_method.mono _ _ _ _ _ _ _ _ _ _)
   | (with_reducible exact LeO.refl _)
   | (with_reducible exact LeO.none _)
   | (with_reducible refine LeO.ite ?_ ?_)
   | (with_reducible refine LeO.bind ?_ (fun _ => ?_))
   | exact ih0 _ _ _ _ _ _
   | exact ih1 _ _ _ _ _ _
   | exact ih2 _ _ _ _ _ _
   | exact ih3 _ _ _ _ _ _
   | exact ih4 _ _ _ _ _ _ _
   | exact ih5 _ _ _ _ _ _
   | exact understudyref04_Check.mono _ _
   | exact understudyref05_method.mono _ _ _ _ _ _ _ _ _ _
   | exact LeO.none _
   | refine LeO.ite ?_ ?_
   | refine LeO.bind ?_ (fun _ => ?_)
  ·intro y0 y1 y2 y3 y4 y5
   unfold understudyref05_Check.l2
   repeat' first
   | (with_reducible exact ih0 _ _ _ _ _ _)
   | (with_reducible exact ih1 _ _ _ _ _ _)
   | (with_reducible exact ih2 _ _ _ _ _ _)
   | (with_reducible exact ih3 _ _ _ _ _ _)
   | (with_reducible exact ih4 _ _ _ _ _ _ _)
   | (with_reducible exact ih5 _ _ _ _ _ _)
   | (with_reducible exact understudyref04_Check.mono _ _)
   | (with_reducible exact understudyref05_method.mono _ _ _ _ _ _ _ _ _ _)
   | (with_reducible exact LeO.refl _)
   | (with_reducible exact LeO.none _)
   | (with_reducible refine LeO.ite ?_ ?_)
   | (with_reducible refine LeO.bind ?_ (fun _ => ?_))
   | exact ih0 _ _ _ _ _ _
   | exact ih1 _ _ _ _ _ _
   | exact ih2 _ _ _ _ _ _
   | exact ih3 _ _ _ _ _ _
   | exact ih4 _ _ _ _ _ _ _
   | exact ih5 _ _ _ _ _ _
   | exact understudyref04_Check.mono _ _
   | exact understudyref05_method.mono _ _ _ _ _ _ _ _ _ _
   | exact LeO.none _
   | refine LeO.ite ?_ ?_
   | refine LeO.bind ?_ (fun _ => ?_)
theorem understudyref05_Check.mono:∀ a0 a1 a2 a3 a4 k,LeO (understudyref05_Check.f k a0 a1 a2 a3 a4) (understudyref05_Check.f (k + 1) a0 a1 a2 a3 a4):=by
 intro a0 a1 a2 a3 a4 k
 obtain ⟨ih0,ih1,ih2,ih3,ih4,ih5⟩:=understudyref05_Check.mono_l k
 unfold understudyref05_Check.f
 repeat' first
   | (with_reducible exact ih0 _ _ _ _ _ _)
   | (with_reducible exact ih1 _ _ _ _ _ _)
   | (with_reducible exact ih2 _ _ _ _ _ _)
   | (with_reducible exact ih3 _ _ _ _ _ _)
   | (with_reducible exact ih4 _ _ _ _ _ _ _)
   | (with_reducible exact ih5 _ _ _ _ _ _)
   | (with_reducible exact understudyref04_Check.mono _ _)
   | (with_reducible exact understudyref05_method.mono _ _ _ _ _ _ _ _ _ _)
   | (with_reducible exact LeO.refl _)
   | (with_reducible exact LeO.none _)
   | (with_reducible refine LeO.ite ?_ ?_)
   | (with_reducible refine LeO.bind ?_ (fun _ => ?_))
   | exact ih0 _ _ _ _ _ _
   | exact ih1 _ _ _ _ _ _
   | exact ih2 _ _ _ _ _ _
   | exact ih3 _ _ _ _ _ _
   | exact ih4 _ _ _ _ _ _ _
   | exact ih5 _ _ _ _ _ _
   | exact understudyref04_Check.mono _ _
   | exact understudyref05_method.mono _ _ _ _ _ _ _ _ _ _
   | exact LeO.none _
   | refine LeO.ite ?_ ?_
   | refine LeO.bind ?_ (fun _ => ?_)
def understudyref05_Check.T22:Bool × List (List Nat × List Nat):=(true,[([],[]),([0],[0]),([],[]),([2],[2]),([],[]),([3,4],[3,4]),([5],[5]),([1,6],[1,6]),([7],[7])])
def understudyref05_Check.B22:List Nat:=[0,1,0,4,0,28,60,127,255]
theorem understudyref05_Check.tab22:rtab .any (opsOf Tryd.f17 22)=understudyref05_Check.T22:=by kernel_rfl
theorem understudyref05_Check.bits22:waitsOk understudyref05_Check.T22.2 understudyref05_Check.B22=true:=by kernel_rfl
set_option maxHeartbeats 80000000 in
set_option maxRecDepth 100000 in
theorem understudyref05_Check.calls (k:Nat) (A0_0:Option Addr) (c0_0:Nat) (l0_0:List (S60)) (a0_1:Int) (a0_2:Int) (A0_3:Option Addr) (c0_3:Nat) (l0_3:List (S46)) (A0_4:Option Addr) (c0_4:Nat) (l0_4:List (S49)) (r:Int) (w:World) (hr0_0:Kd.C k60 w A0_0 l0_0.length l0_0) (hc0_0:l0_0.length≤c0_0) (hr0_3:Kd.C k46 w A0_3 l0_3.length l0_3) (hc0_3:l0_3.length≤c0_3) (hr0_4:Kd.C k49 w A0_4 l0_4.length l0_4) (hc0_4:l0_4.length≤c0_4) (h:understudyref05_Check.f k l0_0 a0_1 a0_2 l0_3 l0_4=some r) :
  Calls Tryd.prog 17 #[.agg #[.slice A0_0 l0_0.length c0_0,.int .i64 a0_1,.int .i64 a0_2,.slice A0_3 l0_3.length c0_3,.slice A0_4 l0_4.length c0_4]] w fun e w' => e=.returned (.int .i64 r)∧Below w.heap.size w w':=by
 have hu26:=Tryd.underlying26
 have hu46:=Tryd.underlying46
 have hu49:=Tryd.underlying49
 have HR0_0:=Aside0.mk hr0_0
 have HC0_0:=Aside0.mk hc0_0
 clear hr0_0 hc0_0
 have HR0_3:=Aside0.mk hr0_3
 have HC0_3:=Aside0.mk hc0_3
 clear hr0_3 hc0_3
 have HR0_4:=Aside0.mk hr0_4
 have HC0_4:=Aside0.mk hc0_4
 clear hr0_4 hc0_4
 have HB:=Aside0.mk (Below.refl w.heap.size w)
 have H:((understudyref04_Check.f k l0_0).bind fun t248 => (if t248=0 then (if (l0_3.length:Int) > 64 then (understudyref05_Check.j0 k true l0_0 a0_1 a0_2 l0_3 l0_4) else (understudyref05_Check.j0 k (decide ((l0_4.length:Int) > 64)) l0_0 a0_1 a0_2 l0_3 l0_4)) else (some t248)))=some r:=h
 clear h
 replace H:=Option.bind_eq_some_iff.mp H
 obtain ⟨t248,A20,H⟩:=H
 try dsimp only at H
 have A2:=Aside0.mk A20
 clear A20
 by_cases c3:t248=0
 ·rw [if_pos c3] at H
  have c3b0:(t248==0)=true:=beq_iff_eq.mpr c3
  have c3b1:(t248 != 0)=false:=bne_eq_false_iff_eq.mpr c3
  clear c3
  have HC4:=Aside0.mk H
  clear H
  go_enter Tryd.func17,Tryd.ntmps17
  go_upto_region 4 with (first|((with_reducible refine gate_dst (N:=1) rfl ?_);(try (refine gate_guard (by rfl) ?_;dsimp only));refine box_event ?hg (N:=1) ?hd (cs:=#[.slice A0_0 l0_0.length c0_0,.int .i64 a0_1,.int .i64 a0_2,.slice A0_3 l0_3.length c0_3,.slice A0_4 l0_4.length c0_4]) (t:=26) ?hr ?_;(case hd => rfl);(case hg => rfl);(case hr => first|(go_simp;done)|(go_simp;rfl));intro gb247 hg w5 hbox hb;have n0_:=Aside0.mk (below_step bl_ hb);have n1_:=Aside0.mk (hbox);have n2_:=Aside0.mk ((by rw [hg];exact (below_size bl_):w.heap.size≤gb247));have n3_:=Aside0.mk ((by rw [hg];exact (below_size bl_):w.heap.size≤gb247));clear HB;have HB:=n0_;have BK247:=n1_;have GW247:=n2_;have GE247:=n3_;clear n0_ n1_ n2_ n3_;clear hb hbox hg;obtain ⟨hcz6_0,hcz6_1,hcz6_2,hcz6_3,hcz6_4⟩:=blc5_ BK247.out;have hfz6_0:=blk_frozen BK247.out 0;have hfz6_1:=blk_frozen BK247.out 1;have hfz6_2:=blk_frozen BK247.out 2;have hfz6_3:=blk_frozen BK247.out 3;have hfz6_4:=blk_frozen BK247.out 4)|(refine callA_ (f:=35) (some 10) Tryd.func35 #[.slice A0_0 l0_0.length c0_0] ?_;(with_reducible refine (understudyref04_Check.calls k _ _ l0_0 t248 _ ?side1 ?side2 A2.out).mono ?_);(case side1 => exact kc_ (Kd.C_below HR0_0.out HB.out));(case side2 => exact HC0_0.out);rintro e w7 ⟨rfl,hb⟩;refine ⟨_,rfl,?_⟩;have n0_:=Aside0.mk (blk_below (g:=gb247) (o:=.cells #[.slice A0_0 l0_0.length c0_0,.int .i64 a0_1,.int .i64 a0_2,.slice A0_3 l0_3.length c0_3,.slice A0_4 l0_4.length c0_4] 26 (0,0)) bk_ hb);have n1_:=Aside0.mk (below_step bl_ hb);clear BK247;clear HB;have BK247:=n0_;have HB:=n1_;clear n0_ n1_;(try clear hb);(try clear hb2);(try clear hk);(try clear hi)))
  (try simp only [Act.put,List.setIfInBounds_toArray,List.set_cons_zero,List.set_cons_succ])
  go_cut [23] (fun v23 wc => ∃ (kq:Nat) (x23_3:Bool),v23=.bool x23_3∧Aside0 (understudyref05_Check.j0 kq x23_3 l0_0 a0_1 a0_2 l0_3 l0_4=some r)∧Aside0 (kq≤k)∧Aside0 (wc.heap[gb247]?=some (.cells #[(.slice A0_0 l0_0.length c0_0),.int .i64 a0_1,.int .i64 a0_2,(.slice A0_3 l0_3.length c0_3),(.slice A0_4 l0_4.length c0_4)] 26 (0,0)))∧Aside0 (Below w.heap.size w wc))
  case first =>
   have H:=HC4.out
   clear HC4
   by_cases c8:(l0_3.length:Int) > 64
   ·rw [if_pos c8] at H
    have c8b0:decide (64 < (l0_3.length:Int))=true:=decide_eq_true c8
    have c8b1:decide (64 < l0_3.length)=true:=decide_eq_true (by omega)
    clear c8
    (first|rw [c8b0]|(simp only [i64_w,i32_w];rw [c8b0])|skip)
    have H':=Aside0.mk H
    clear H
    obtain ⟨hcz9_0,hcz9_1,hcz9_2,hcz9_3,hcz9_4,hfz9_0,hfz9_1,hfz9_2,hfz9_3,hfz9_4⟩:=blk5_ BK247.out
    go_wp2
    go_meet
    case rel => exact ⟨_,(true),r3_,H',⟨by first|omega|exact Nat.le_refl _⟩,⟨bk_⟩,⟨bl_⟩⟩
   ·rw [if_neg c8] at H
    have c8b0:decide (64 < (l0_3.length:Int))=false:=decide_eq_false c8
    have c8b1:decide (64 < l0_3.length)=false:=decide_eq_false (by omega)
    clear c8
    (first|rw [c8b0]|(simp only [i64_w,i32_w];rw [c8b0])|skip)
    have H':=Aside0.mk H
    clear H
    obtain ⟨hcz10_0,hcz10_1,hcz10_2,hcz10_3,hcz10_4,hfz10_0,hfz10_1,hfz10_2,hfz10_3,hfz10_4⟩:=blk5_ BK247.out
    go_wp2
    go_meet
    case rel => exact ⟨_,(decide ((l0_4.length:Int) > 64)),r3_,H',⟨by first|omega|exact Nat.le_refl _⟩,⟨bk_⟩,⟨bl_⟩⟩
  case rest =>
   clear HC4
   try clear c3;try clear c3b0;try clear c3b1;try clear hcz6_0;try clear hcz6_1;try clear hcz6_2;try clear hcz6_3;try clear hcz6_4;try clear hfz6_0;try clear hfz6_1;try clear hfz6_2;try clear hfz6_3;try clear hfz6_4
   obtain ⟨kq,x23_3,rfl,HA,HJ3,BK247,HB⟩:=hcut
   cases kq with
   | zero => exact absurd HA.out (by simp [understudyref05_Check.j0])
   | succ kj3 =>
    have H:=HA.out
    clear HA
    simp only [understudyref05_Check.j0] at H
    by_cases c11:x23_3=true
    ·subst c11
     rw [if_pos rfl] at H
     obtain rfl:=Option.some.inj H
     go_wp2
     go_ret
     exact ⟨ew_,bl_⟩
    ·replace c11:=Bool.eq_false_iff.mpr c11
     subst c11
     rw [if_neg (show ¬ (false=true) by decide)] at H
     have H':=Aside0.mk H
     clear H
     go_wp2
     go_loopg [4] kj3 (fun kq v4 w' => ∃ (x4_2:Int),v4=.int .i64 x4_2∧Aside0 (understudyref05_Check.l0 kq x4_2 l0_0 a0_1 a0_2 l0_3 l0_4=some r)∧Aside0 (kq≤kj3)∧Aside0 (w'.heap[gb247]?=some (.cells #[(.slice A0_0 l0_0.length c0_0),.int .i64 a0_1,.int .i64 a0_2,(.slice A0_3 l0_3.length c0_3),(.slice A0_4 l0_4.length c0_4)] 26 (0,0)))∧Aside0 (Below w.heap.size w w'))
     case atStart => exact ⟨(0),r3_,H',⟨Nat.le_refl _⟩,⟨bk_⟩,⟨bl_⟩⟩
     case round =>
      clear H'
      try clear c11
      obtain ⟨x4_2,rfl,HA,HK2,BK247,HB⟩:=hrel
      cases gk with
      | zero => exact absurd HA.out (by simp [understudyref05_Check.l0])
      | succ k2 =>
       have H:=HA.out
       clear HA
       simp only [understudyref05_Check.l0] at H
       by_cases c12:x4_2 < (l0_4.length:Int)
       ·rw [if_pos c12] at H
        have c12b0:decide (x4_2 < (l0_4.length:Int))=true:=decide_eq_true c12
        clear c12
        by_cases c13:0≤x4_2
        ·rw [if_pos c13] at H
         have c13b0:decide (0≤x4_2)=true:=decide_eq_true c13
         clear c13
         by_cases c14:(((rd_T49 l0_4 x4_2).f6).length:Int) > 64
         ·rw [if_pos c14] at H
          have c14b0:decide (64 < (((rd_T49 l0_4 x4_2).f6).length:Int))=true:=decide_eq_true c14
          have c14b1:decide (64 < ((rd_T49 l0_4 x4_2).f6).length)=true:=decide_eq_true (by omega)
          clear c14
          obtain rfl:=Option.some.inj H
          obtain ⟨hcz15_0,hcz15_1,hcz15_2,hcz15_3,hcz15_4,hfz15_0,hfz15_1,hfz15_2,hfz15_3,hfz15_4⟩:=blk5_ BK247.out
          have p249:0≤(x4_2:Int):=od_
          have q249:x4_2 < (l0_4.length:Int):=od_
          obtain ⟨ad249,A249_5,c249_5,A249_6,c249_6,A249_7,c249_7,e249,hx249_0,hx249_1,hx249_2,hx249_3,hx249_4,hx249_5,hx249_6,hx249_7,hl249_5,hi249_5,hl249_6,hi249_6,hl249_7,hi249_7⟩:=at_T49 HR0_4.out x4_2 p249 q249
          cases e249
          replace hx249_0:=hb_ HB hx249_0
          replace hx249_1:=hb_ HB hx249_1
          replace hx249_2:=hb_ HB hx249_2
          replace hx249_3:=hb_ HB hx249_3
          replace hx249_4:=hb_ HB hx249_4
          replace hx249_5:=hb_ HB hx249_5
          replace hx249_6:=hb_ HB hx249_6
          replace hx249_7:=hb_ HB hx249_7
          have HR249_5:=Aside0.mk hi249_5
          have HC249_5:=Aside0.mk hl249_5
          clear hi249_5 hl249_5
          have HR249_6:=Aside0.mk hi249_6
          have HC249_6:=Aside0.mk hl249_6
          clear hi249_6 hl249_6
          have HR249_7:=Aside0.mk hi249_7
          have HC249_7:=Aside0.mk hl249_7
          clear hi249_7 hl249_7
          replace p249:=eq_true p249
          replace q249:=eq_true q249
          go_wp2
          go_ret
          exact ⟨ew_,bl_⟩
         ·rw [if_neg c14] at H
          have c14b0:decide (64 < (((rd_T49 l0_4 x4_2).f6).length:Int))=false:=decide_eq_false c14
          have c14b1:decide (64 < ((rd_T49 l0_4 x4_2).f6).length)=false:=decide_eq_false (by omega)
          clear c14
          have H':=Aside0.mk H
          clear H
          obtain ⟨hcz16_0,hcz16_1,hcz16_2,hcz16_3,hcz16_4,hfz16_0,hfz16_1,hfz16_2,hfz16_3,hfz16_4⟩:=blk5_ BK247.out
          have p249:0≤(x4_2:Int):=od_
          have q249:x4_2 < (l0_4.length:Int):=od_
          obtain ⟨ad249,A249_5,c249_5,A249_6,c249_6,A249_7,c249_7,e249,hx249_0,hx249_1,hx249_2,hx249_3,hx249_4,hx249_5,hx249_6,hx249_7,hl249_5,hi249_5,hl249_6,hi249_6,hl249_7,hi249_7⟩:=at_T49 HR0_4.out x4_2 p249 q249
          cases e249
          replace hx249_0:=hb_ HB hx249_0
          replace hx249_1:=hb_ HB hx249_1
          replace hx249_2:=hb_ HB hx249_2
          replace hx249_3:=hb_ HB hx249_3
          replace hx249_4:=hb_ HB hx249_4
          replace hx249_5:=hb_ HB hx249_5
          replace hx249_6:=hb_ HB hx249_6
          replace hx249_7:=hb_ HB hx249_7
          have HR249_5:=Aside0.mk hi249_5
          have HC249_5:=Aside0.mk hl249_5
          clear hi249_5 hl249_5
          have HR249_6:=Aside0.mk hi249_6
          have HC249_6:=Aside0.mk hl249_6
          clear hi249_6 hl249_6
          have HR249_7:=Aside0.mk hi249_7
          have HC249_7:=Aside0.mk hl249_7
          clear hi249_7 hl249_7
          replace p249:=eq_true p249
          replace q249:=eq_true q249
          go_wp2
          go_roundg k2
          case measure => have:=HJ3.out;have:=HK2.out;omega
          case rel => exact ⟨(wrap64 (x4_2 + 1)),r3_,H',⟨by have:=HJ3.out;have:=HK2.out;omega⟩,⟨bk_⟩,⟨bl_⟩⟩
        ·rw [if_neg c13] at H
         exact absurd H (by simp)
       ·rw [if_neg c12] at H
        have c12b0:decide (x4_2 < (l0_4.length:Int))=false:=decide_eq_false c12
        clear c12
        have HC17:=Aside0.mk H
        clear H
        obtain ⟨hcz18_0,hcz18_1,hcz18_2,hcz18_3,hcz18_4,hfz18_0,hfz18_1,hfz18_2,hfz18_3,hfz18_4⟩:=blk5_ BK247.out
        go_upto_region 11 with (fail)
        go_cut [52] (fun v52 wc => ∃ (kq:Nat) (x52_16:Bool),v52=.bool x52_16∧Aside0 (understudyref05_Check.j2 kq x52_16 l0_0 a0_1 a0_2 l0_3 l0_4=some r)∧Aside0 (kq≤k2)∧Aside0 (wc.heap[gb247]?=some (.cells #[(.slice A0_0 l0_0.length c0_0),.int .i64 a0_1,.int .i64 a0_2,(.slice A0_3 l0_3.length c0_3),(.slice A0_4 l0_4.length c0_4)] 26 (0,0)))∧Aside0 (Below w.heap.size w wc))
        case first =>
         have H:=HC17.out
         clear HC17
         replace H:=Option.bind_eq_some_iff.mp H
         obtain ⟨t250,A190,H⟩:=H
         try dsimp only at H
         have A19:=Aside0.mk A190
         clear A190
         by_cases c20:t250=true
         ·subst c20
          rw [if_pos rfl] at H
          replace H:=Option.bind_eq_some_iff.mp H
          obtain ⟨t251,A210,H⟩:=H
          try dsimp only at H
          have A21:=Aside0.mk A210
          clear A210
          have H':=Aside0.mk H
          clear H
          obtain ⟨hcz22_0,hcz22_1,hcz22_2,hcz22_3,hcz22_4,hfz22_0,hfz22_1,hfz22_2,hfz22_3,hfz22_4⟩:=blk5_ BK247.out
          go_wp2_with (first|(refine callA_ (f:=36) (some 43) Tryd.func36 #[.slice A0_0 l0_0.length c0_0,.int .i64 a0_1] ?_;(with_reducible refine (understudyref05_cls.calls _ _ l0_0 a0_1 true _ ?side1 ?side2 A19.out).mono ?_);(case side1 => exact kc_ (Kd.C_below HR0_0.out HB.out));(case side2 => exact HC0_0.out);rintro e w' ⟨rfl,⟨nd,rfl⟩⟩;refine ⟨_,rfl,?_⟩)|(go_at_call 36;(with_reducible refine (understudyref05_cls.calls _ _ l0_0 a0_2 t251 _ ?side1 ?side2 A21.out).mono ?_);(case side1 => exact kc_ (Kd.C_below HR0_0.out bl_));(case side2 => exact HC0_0.out);rintro e w' ⟨rfl,⟨nd,rfl⟩⟩))
          go_meet
          case rel => exact ⟨_,(!t251),r3_,H',⟨by have:=HJ3.out;have:=HK2.out;first|omega|exact Nat.le_refl _⟩,⟨bk_⟩,⟨bl_⟩⟩
         ·replace c20:=Bool.eq_false_iff.mpr c20
          subst c20
          rw [if_neg (show ¬ (false=true) by decide)] at H
          have H':=Aside0.mk H
          clear H
          obtain ⟨hcz23_0,hcz23_1,hcz23_2,hcz23_3,hcz23_4,hfz23_0,hfz23_1,hfz23_2,hfz23_3,hfz23_4⟩:=blk5_ BK247.out
          go_wp2_with (first|(refine callA_ (f:=36) (some 43) Tryd.func36 #[.slice A0_0 l0_0.length c0_0,.int .i64 a0_1] ?_;(with_reducible refine (understudyref05_cls.calls _ _ l0_0 a0_1 false _ ?side1 ?side2 A19.out).mono ?_);(case side1 => exact kc_ (Kd.C_below HR0_0.out HB.out));(case side2 => exact HC0_0.out);rintro e w' ⟨rfl,⟨nd,rfl⟩⟩;refine ⟨_,rfl,?_⟩))
          go_meet
          case rel => exact ⟨_,(true),r3_,H',⟨by have:=HJ3.out;have:=HK2.out;first|omega|exact Nat.le_refl _⟩,⟨bk_⟩,⟨bl_⟩⟩
        case rest =>
         clear HC17
         try clear c12;try clear c12b0;try clear hcz18_0;try clear hcz18_1;try clear hcz18_2;try clear hcz18_3;try clear hcz18_4;try clear hfz18_0;try clear hfz18_1;try clear hfz18_2;try clear hfz18_3;try clear hfz18_4
         obtain ⟨kq,x52_16,rfl,HA,HJ16,BK247,HB⟩:=hcut
         cases kq with
         | zero => exact absurd HA.out (by simp [understudyref05_Check.j2])
         | succ kj16 =>
          have H:=HA.out
          clear HA
          simp only [understudyref05_Check.j2] at H
          by_cases c24:x52_16=true
          ·subst c24
           rw [if_pos rfl] at H
           obtain rfl:=Option.some.inj H
           go_wp2
           go_ret
           exact ⟨ew_,bl_⟩
          ·replace c24:=Bool.eq_false_iff.mpr c24
           subst c24
           rw [if_neg (show ¬ (false=true) by decide)] at H
           have H':=Aside0.mk H
           clear H
           go_wp2
           go_loopg [5] kj16 (fun kq v5 w' => ∃ (x5_4:Int),v5=.int .i64 x5_4∧Aside0 (understudyref05_Check.l1 kq x5_4 l0_0 a0_1 a0_2 l0_3 l0_4=some r)∧Aside0 (kq≤kj16)∧Aside0 (w'.heap[gb247]?=some (.cells #[(.slice A0_0 l0_0.length c0_0),.int .i64 a0_1,.int .i64 a0_2,(.slice A0_3 l0_3.length c0_3),(.slice A0_4 l0_4.length c0_4)] 26 (0,0)))∧Aside0 (Below w.heap.size w w'))
           case atStart => exact ⟨(0),r3_,H',⟨Nat.le_refl _⟩,⟨bk_⟩,⟨bl_⟩⟩
           case round =>
            clear H'
            try clear c24
            obtain ⟨x5_4,rfl,HA,HK4,BK247,HB⟩:=hrel
            cases gk with
            | zero => exact absurd HA.out (by simp [understudyref05_Check.l1])
            | succ k4 =>
             have H:=HA.out
             clear HA
             simp only [understudyref05_Check.l1] at H
             by_cases c25:x5_4 < (l0_3.length:Int)
             ·rw [if_pos c25] at H
              have c25b0:decide (x5_4 < (l0_3.length:Int))=true:=decide_eq_true c25
              clear c25
              by_cases c26:0≤x5_4
              ·rw [if_pos c26] at H
               have c26b0:decide (0≤x5_4)=true:=decide_eq_true c26
               clear c26
               have HC27:=Aside0.mk H
               clear H
               obtain ⟨hcz28_0,hcz28_1,hcz28_2,hcz28_3,hcz28_4,hfz28_0,hfz28_1,hfz28_2,hfz28_3,hfz28_4⟩:=blk5_ BK247.out
               have p252:0≤(x5_4:Int):=od_
               have q252:x5_4 < (l0_3.length:Int):=od_
               obtain ⟨ad252,e252,hx252_0,hx252_1,hx252_2⟩:=at_T46 HR0_3.out x5_4 p252 q252
               cases e252
               replace hx252_0:=hb_ HB hx252_0
               replace hx252_1:=hb_ HB hx252_1
               replace hx252_2:=hb_ HB hx252_2
               replace p252:=eq_true p252
               replace q252:=eq_true q252
               go_upto_region 17 with (first|((with_reducible refine gate_dst (N:=6) rfl ?_);(try (refine gate_guard (by rfl) ?_;dsimp only));refine box_event ?hg (N:=6) ?hd (cs:=#[.int .i64 0,.int .i64 0,.int .i64 0]) (t:=46) ?hr ?_;(case hd => rfl);(case hg => rfl);(case hr => first|(go_simp;done)|(go_simp;rfl));intro gb253 hg w29 hbox hb;have n0_:=Aside0.mk (blk_below (g:=gb247) (o:=.cells #[.slice A0_0 l0_0.length c0_0,.int .i64 a0_1,.int .i64 a0_2,.slice (some ad252) l0_3.length c0_3,.slice A0_4 l0_4.length c0_4] 26 (0,0)) bk_ hb);have n1_:=Aside0.mk (below_step bl_ hb);have n2_:=Aside0.mk (hbox);have n3_:=Aside0.mk ((by rw [hg];exact (below_size bl_):w.heap.size≤gb253));have n4_:=Aside0.mk ((by rw [hg];exact (below_size bl_):w.heap.size≤gb253));have n5_:=Aside0.mk ((by rw [hg];exact Nat.ne_of_lt (blk_lt (g:=gb247) (o:=.cells #[.slice A0_0 l0_0.length c0_0,.int .i64 a0_1,.int .i64 a0_2,.slice (some ad252) l0_3.length c0_3,.slice A0_4 l0_4.length c0_4] 26 (0,0)) bk_):gb247 ≠ gb253));have n6_:=Aside0.mk ((by rw [hg];exact Nat.ne_of_gt (blk_lt (g:=gb247) (o:=.cells #[.slice A0_0 l0_0.length c0_0,.int .i64 a0_1,.int .i64 a0_2,.slice (some ad252) l0_3.length c0_3,.slice A0_4 l0_4.length c0_4] 26 (0,0)) bk_):gb253 ≠ gb247));clear BK247;clear HB;have BK247:=n0_;have HB:=n1_;have BK253:=n2_;have GW253:=n3_;have GE253:=n4_;have NB247_253:=n5_;have NB253_247:=n6_;clear n0_ n1_ n2_ n3_ n4_ n5_ n6_;clear hb hbox hg;have hnb30:=NB253_247.out;have hnc30:=NB247_253.out;obtain ⟨hcz31_0,hcz31_1,hcz31_2⟩:=blc3_ BK253.out;have hfz31_0:=blk_frozen BK253.out 0;have hfz31_1:=blk_frozen BK253.out 1;have hfz31_2:=blk_frozen BK253.out 2))
               (try simp only [Act.put,List.setIfInBounds_toArray,List.set_cons_zero,List.set_cons_succ])
               go_cut [88] (fun v88 wc => ∃ (kq:Nat) (x88_26:Bool),v88=.bool x88_26∧Aside0 (understudyref05_Check.j4 kq x5_4 x88_26 l0_0 a0_1 a0_2 l0_3 l0_4=some r)∧Aside0 (kq≤k4)∧Aside0 (wc.heap[gb247]?=some (.cells #[(.slice A0_0 l0_0.length c0_0),.int .i64 a0_1,.int .i64 a0_2,(.slice (some ad252) l0_3.length c0_3),(.slice A0_4 l0_4.length c0_4)] 26 (0,0)))∧Aside0 (wc.heap[gb253]?=some (.cells #[.int .i64 ((rd_T46 l0_3 x5_4).f0),.int .i64 ((rd_T46 l0_3 x5_4).f1),.int .i64 ((rd_T46 l0_3 x5_4).f2)] 46 (0,0)))∧Aside0 (Below w.heap.size w wc))
               case first =>
                have H:=HC27.out
                clear HC27
                by_cases c32:((rd_T46 l0_3 x5_4).f0)=0
                ·rw [if_pos c32] at H
                 have c32b0:(((rd_T46 l0_3 x5_4).f0)==0)=true:=beq_iff_eq.mpr c32
                 have c32b1:(((rd_T46 l0_3 x5_4).f0) != 0)=false:=bne_eq_false_iff_eq.mpr c32
                 clear c32
                 (first|rw [c32b0]|(simp only [i64_w,i32_w];rw [c32b0])|skip)
                 replace H:=Option.bind_eq_some_iff.mp H
                 obtain ⟨t254,A330,H⟩:=H
                 try dsimp only at H
                 have A33:=Aside0.mk A330
                 clear A330
                 by_cases c34:t254=true
                 ·subst c34
                  rw [if_pos rfl] at H
                  replace H:=Option.bind_eq_some_iff.mp H
                  obtain ⟨t255,A350,H⟩:=H
                  try dsimp only at H
                  have A35:=Aside0.mk A350
                  clear A350
                  have H':=Aside0.mk H
                  clear H
                  have hnb36:=NB253_247.out
                  have hnc36:=NB247_253.out
                  obtain ⟨hcz37_0,hcz37_1,hcz37_2,hfz37_0,hfz37_1,hfz37_2⟩:=blk3_ BK253.out
                  obtain ⟨hcz38_0,hcz38_1,hcz38_2,hcz38_3,hcz38_4,hfz38_0,hfz38_1,hfz38_2,hfz38_3,hfz38_4⟩:=blk5_ BK247.out
                  go_wp2_with (first|(go_at_call 37;(with_reducible refine (understudyref05_utf.calls _ _ l0_0 ((rd_T46 l0_3 x5_4).f1) true _ ?side1 ?side2 A33.out).mono ?_);(case side1 => exact Kd.C_below HR0_0.out bl_);(case side2 => exact HC0_0.out);rintro e w' ⟨rfl,⟨nd,rfl⟩⟩)|(go_at_call 37;(with_reducible refine (understudyref05_utf.calls _ _ l0_0 ((rd_T46 l0_3 x5_4).f2) t255 _ ?side1 ?side2 A35.out).mono ?_);(case side1 => exact Kd.C_below HR0_0.out bl_);(case side2 => exact HC0_0.out);rintro e w' ⟨rfl,⟨nd,rfl⟩⟩))
                  go_meet
                  case rel => exact ⟨_,(!t255),r3_,H',⟨by have:=HJ3.out;have:=HK2.out;have:=HJ16.out;have:=HK4.out;first|omega|exact Nat.le_refl _⟩,⟨bk_⟩,⟨st3_ BK253.out⟩,⟨bl_⟩⟩
                 ·replace c34:=Bool.eq_false_iff.mpr c34
                  subst c34
                  rw [if_neg (show ¬ (false=true) by decide)] at H
                  have H':=Aside0.mk H
                  clear H
                  have hnb39:=NB253_247.out
                  have hnc39:=NB247_253.out
                  obtain ⟨hcz40_0,hcz40_1,hcz40_2,hfz40_0,hfz40_1,hfz40_2⟩:=blk3_ BK253.out
                  obtain ⟨hcz41_0,hcz41_1,hcz41_2,hcz41_3,hcz41_4,hfz41_0,hfz41_1,hfz41_2,hfz41_3,hfz41_4⟩:=blk5_ BK247.out
                  go_wp2_with (first|(go_at_call 37;(with_reducible refine (understudyref05_utf.calls _ _ l0_0 ((rd_T46 l0_3 x5_4).f1) false _ ?side1 ?side2 A33.out).mono ?_);(case side1 => exact Kd.C_below HR0_0.out bl_);(case side2 => exact HC0_0.out);rintro e w' ⟨rfl,⟨nd,rfl⟩⟩))
                  go_meet
                  case rel => exact ⟨_,(true),r3_,H',⟨by have:=HJ3.out;have:=HK2.out;have:=HJ16.out;have:=HK4.out;first|omega|exact Nat.le_refl _⟩,⟨bk_⟩,⟨st3_ BK253.out⟩,⟨bl_⟩⟩
                ·rw [if_neg c32] at H
                 have c32b0:(((rd_T46 l0_3 x5_4).f0)==0)=false:=beq_eq_false_iff_ne.mpr c32
                 have c32b1:(((rd_T46 l0_3 x5_4).f0) != 0)=true:=bne_iff_ne.mpr c32
                 (first|rw [c32b0]|(simp only [i64_w,i32_w];rw [c32b0])|skip)
                 by_cases c42:((rd_T46 l0_3 x5_4).f0)=8
                 ·rw [if_pos c42] at H
                  have c42b0:(((rd_T46 l0_3 x5_4).f0)==8)=true:=beq_iff_eq.mpr c42
                  have c42b1:(((rd_T46 l0_3 x5_4).f0) != 8)=false:=bne_eq_false_iff_eq.mpr c42
                  clear c42
                  replace H:=Option.bind_eq_some_iff.mp H
                  obtain ⟨t256,A430,H⟩:=H
                  try dsimp only at H
                  have A43:=Aside0.mk A430
                  clear A430
                  by_cases c44:t256=true
                  ·subst c44
                   rw [if_pos rfl] at H
                   replace H:=Option.bind_eq_some_iff.mp H
                   obtain ⟨t257,A450,H⟩:=H
                   try dsimp only at H
                   have A45:=Aside0.mk A450
                   clear A450
                   have H':=Aside0.mk H
                   clear H
                   have hnb46:=NB253_247.out
                   have hnc46:=NB247_253.out
                   obtain ⟨hcz47_0,hcz47_1,hcz47_2,hfz47_0,hfz47_1,hfz47_2⟩:=blk3_ BK253.out
                   obtain ⟨hcz48_0,hcz48_1,hcz48_2,hcz48_3,hcz48_4,hfz48_0,hfz48_1,hfz48_2,hfz48_3,hfz48_4⟩:=blk5_ BK247.out
                   go_wp2_with (first|(go_at_call 37;(with_reducible refine (understudyref05_utf.calls _ _ l0_0 ((rd_T46 l0_3 x5_4).f1) true _ ?side1 ?side2 A43.out).mono ?_);(case side1 => exact Kd.C_below HR0_0.out bl_);(case side2 => exact HC0_0.out);rintro e w' ⟨rfl,⟨nd,rfl⟩⟩)|(go_at_call 37;(with_reducible refine (understudyref05_utf.calls _ _ l0_0 ((rd_T46 l0_3 x5_4).f2) t257 _ ?side1 ?side2 A45.out).mono ?_);(case side1 => exact Kd.C_below HR0_0.out bl_);(case side2 => exact HC0_0.out);rintro e w' ⟨rfl,⟨nd,rfl⟩⟩))
                   go_meet
                   case rel => exact ⟨_,(!t257),r3_,H',⟨by have:=HJ3.out;have:=HK2.out;have:=HJ16.out;have:=HK4.out;first|omega|exact Nat.le_refl _⟩,⟨bk_⟩,⟨st3_ BK253.out⟩,⟨bl_⟩⟩
                  ·replace c44:=Bool.eq_false_iff.mpr c44
                   subst c44
                   rw [if_neg (show ¬ (false=true) by decide)] at H
                   have H':=Aside0.mk H
                   clear H
                   have hnb49:=NB253_247.out
                   have hnc49:=NB247_253.out
                   obtain ⟨hcz50_0,hcz50_1,hcz50_2,hfz50_0,hfz50_1,hfz50_2⟩:=blk3_ BK253.out
                   obtain ⟨hcz51_0,hcz51_1,hcz51_2,hcz51_3,hcz51_4,hfz51_0,hfz51_1,hfz51_2,hfz51_3,hfz51_4⟩:=blk5_ BK247.out
                   go_wp2_with (first|(go_at_call 37;(with_reducible refine (understudyref05_utf.calls _ _ l0_0 ((rd_T46 l0_3 x5_4).f1) false _ ?side1 ?side2 A43.out).mono ?_);(case side1 => exact Kd.C_below HR0_0.out bl_);(case side2 => exact HC0_0.out);rintro e w' ⟨rfl,⟨nd,rfl⟩⟩))
                   go_meet
                   case rel => exact ⟨_,(true),r3_,H',⟨by have:=HJ3.out;have:=HK2.out;have:=HJ16.out;have:=HK4.out;first|omega|exact Nat.le_refl _⟩,⟨bk_⟩,⟨st3_ BK253.out⟩,⟨bl_⟩⟩
                 ·rw [if_neg c42] at H
                  have c42b0:(((rd_T46 l0_3 x5_4).f0)==8)=false:=beq_eq_false_iff_ne.mpr c42
                  have c42b1:(((rd_T46 l0_3 x5_4).f0) != 8)=true:=bne_iff_ne.mpr c42
                  have H':=Aside0.mk H
                  clear H
                  have hnb52:=NB253_247.out
                  have hnc52:=NB247_253.out
                  obtain ⟨hcz53_0,hcz53_1,hcz53_2,hfz53_0,hfz53_1,hfz53_2⟩:=blk3_ BK253.out
                  go_wp2
                  go_meet
                  case rel => exact ⟨_,(true),r3_,H',⟨by have:=HJ3.out;have:=HK2.out;have:=HJ16.out;have:=HK4.out;first|omega|exact Nat.le_refl _⟩,⟨bk_⟩,⟨st3_ BK253.out⟩,⟨bl_⟩⟩
               case rest =>
                clear HC27
                try clear c25;try clear c25b0;try clear c26;try clear c26b0;try clear hcz28_0;try clear hcz28_1;try clear hcz28_2;try clear hcz28_3;try clear hcz28_4;try clear hcz31_0;try clear hcz31_1;try clear hcz31_2;try clear hfz28_0;try clear hfz28_1;try clear hfz28_2;try clear hfz28_3;try clear hfz28_4;try clear hfz31_0;try clear hfz31_1;try clear hfz31_2;try clear hx252_0;try clear hx252_1;try clear hx252_2;try clear p252;try clear q252
                obtain ⟨kq,x88_26,rfl,HA,HJ26,BK247,BK253,HB⟩:=hcut
                cases kq with
                | zero => exact absurd HA.out (by simp [understudyref05_Check.j4])
                | succ kj26 =>
                 have H:=HA.out
                 clear HA
                 simp only [understudyref05_Check.j4] at H
                 by_cases c54:x88_26=true
                 ·subst c54
                  rw [if_pos rfl] at H
                  obtain rfl:=Option.some.inj H
                  go_wp2
                  go_ret
                  exact ⟨ew_,bl_⟩
                 ·replace c54:=Bool.eq_false_iff.mpr c54
                  subst c54
                  rw [if_neg (show ¬ (false=true) by decide)] at H
                  have H':=Aside0.mk H
                  clear H
                  go_wp2
                  go_roundg kj26
                  case measure => have:=HJ3.out;have:=HK2.out;have:=HJ16.out;have:=HK4.out;have:=HJ26.out;omega
                  case rel => exact ⟨(wrap64 (x5_4 + 1)),r3_,H',⟨by have:=HJ3.out;have:=HK2.out;have:=HJ16.out;have:=HK4.out;have:=HJ26.out;omega⟩,⟨bk_⟩,⟨bl_⟩⟩
              ·rw [if_neg c26] at H
               exact absurd H (by simp)
             ·rw [if_neg c25] at H
              have c25b0:decide (x5_4 < (l0_3.length:Int))=false:=decide_eq_false c25
              clear c25
              have H':=Aside0.mk H
              clear H
              obtain ⟨hcz55_0,hcz55_1,hcz55_2,hcz55_3,hcz55_4,hfz55_0,hfz55_1,hfz55_2,hfz55_3,hfz55_4⟩:=blk5_ BK247.out
              go_wp2
              go_loopg [7] k4 (fun kq v7 w' => ∃ (x7_5:Int),v7=.int .i64 x7_5∧Aside0 (understudyref05_Check.l2 kq x7_5 l0_0 a0_1 a0_2 l0_3 l0_4=some r)∧Aside0 (kq≤k4)∧Aside0 (w'.heap[gb247]?=some (.cells #[(.slice A0_0 l0_0.length c0_0),.int .i64 a0_1,.int .i64 a0_2,(.slice A0_3 l0_3.length c0_3),(.slice A0_4 l0_4.length c0_4)] 26 (0,0)))∧Aside0 (Below w.heap.size w w'))
              case atStart => exact ⟨(0),r3_,H',⟨Nat.le_refl _⟩,⟨bk_⟩,⟨bl_⟩⟩
              case round =>
               clear H'
               try clear c25;try clear c25b0;try clear hcz55_0;try clear hcz55_1;try clear hcz55_2;try clear hcz55_3;try clear hcz55_4;try clear hfz55_0;try clear hfz55_1;try clear hfz55_2;try clear hfz55_3;try clear hfz55_4
               obtain ⟨x7_5,rfl,HA,HK5,BK247,HB⟩:=hrel
               cases gk with
               | zero => exact absurd HA.out (by simp [understudyref05_Check.l2])
               | succ k5 =>
                have H:=HA.out
                clear HA
                simp only [understudyref05_Check.l2] at H
                by_cases c56:x7_5 < (l0_4.length:Int)
                ·rw [if_pos c56] at H
                 have c56b0:decide (x7_5 < (l0_4.length:Int))=true:=decide_eq_true c56
                 clear c56
                 by_cases c57:0≤x7_5
                 ·rw [if_pos c57] at H
                  have c57b0:decide (0≤x7_5)=true:=decide_eq_true c57
                  clear c57
                  replace H:=Option.bind_eq_some_iff.mp H
                  obtain ⟨t259,A580,H⟩:=H
                  try dsimp only at H
                  have A58:=Aside0.mk A580
                  clear A580
                  by_cases c59:t259=true
                  ·subst c59
                   rw [if_pos rfl] at H
                   have H':=Aside0.mk H
                   clear H
                   obtain ⟨hcz60_0,hcz60_1,hcz60_2,hcz60_3,hcz60_4,hfz60_0,hfz60_1,hfz60_2,hfz60_3,hfz60_4⟩:=blk5_ BK247.out
                   try go_wp2
                   have n0_:=Aside0.mk (blk_drew BK247.out)
                   have n1_:=Aside0.mk (below_drew1 HB.out)
                   clear BK247
                   clear HB
                   have BK247:=n0_
                   have HB:=n1_
                   clear n0_ n1_
                   have p258:0≤(x7_5:Int):=od_
                   have q258:x7_5 < (l0_4.length:Int):=od_
                   obtain ⟨ad258,A258_5,c258_5,A258_6,c258_6,A258_7,c258_7,e258,hx258_0,hx258_1,hx258_2,hx258_3,hx258_4,hx258_5,hx258_6,hx258_7,hl258_5,hi258_5,hl258_6,hi258_6,hl258_7,hi258_7⟩:=at_T49 HR0_4.out x7_5 p258 q258
                   have hw258_7:=hx258_7
                   have hw258_6:=hx258_6
                   have hw258_5:=hx258_5
                   have hw258_4:=hx258_4
                   have hw258_3:=hx258_3
                   have hw258_2:=hx258_2
                   have hw258_1:=hx258_1
                   have hw258_0:=hx258_0
                   cases e258
                   replace hx258_0:=hb_ HB hx258_0
                   replace hx258_1:=hb_ HB hx258_1
                   replace hx258_2:=hb_ HB hx258_2
                   replace hx258_3:=hb_ HB hx258_3
                   replace hx258_4:=hb_ HB hx258_4
                   replace hx258_5:=hb_ HB hx258_5
                   replace hx258_6:=hb_ HB hx258_6
                   replace hx258_7:=hb_ HB hx258_7
                   have HR258_5:=Aside0.mk hi258_5
                   have HC258_5:=Aside0.mk hl258_5
                   clear hi258_5 hl258_5
                   have HR258_6:=Aside0.mk hi258_6
                   have HC258_6:=Aside0.mk hl258_6
                   clear hi258_6 hl258_6
                   have HR258_7:=Aside0.mk hi258_7
                   have HC258_7:=Aside0.mk hl258_7
                   clear hi258_7 hl258_7
                   replace p258:=eq_true p258
                   replace q258:=eq_true q258
                   refine start_ (n:=9) (S:=fun w' => w'.cell? ⟨gb247,0,none⟩=some (.slice A0_0 l0_0.length c0_0)∧w'.cell? ⟨gb247,1,none⟩=some (.int .i64 a0_1)∧w'.cell? ⟨gb247,2,none⟩=some (.int .i64 a0_2)∧w'.cell? ⟨gb247,3,none⟩=some (.slice A0_3 l0_3.length c0_3)∧w'.cell? ⟨gb247,4,none⟩=some (.slice (some ad258) l0_4.length c0_4)∧w'.cell? (ad258.add ((x7_5).toNat * 8))=some (.int .i64 ((rd_T49 l0_4 x7_5).f0))∧w'.cell? ⟨(ad258.add ((x7_5).toNat * 8)).block,(ad258.add ((x7_5).toNat * 8)).off + 1,none⟩=some (.int .i64 ((rd_T49 l0_4 x7_5).f1))∧w'.cell? ⟨(ad258.add ((x7_5).toNat * 8)).block,(ad258.add ((x7_5).toNat * 8)).off + 2,none⟩=some (.int .i64 ((rd_T49 l0_4 x7_5).f2))∧w'.cell? ⟨(ad258.add ((x7_5).toNat * 8)).block,(ad258.add ((x7_5).toNat * 8)).off + 3,none⟩=some (.int .i64 ((rd_T49 l0_4 x7_5).f3))∧w'.cell? ⟨(ad258.add ((x7_5).toNat * 8)).block,(ad258.add ((x7_5).toNat * 8)).off + 4,none⟩=some (.int .i64 ((rd_T49 l0_4 x7_5).f4))∧w'.cell? ⟨(ad258.add ((x7_5).toNat * 8)).block,(ad258.add ((x7_5).toNat * 8)).off + 5,none⟩=some (.slice A258_5 ((rd_T49 l0_4 x7_5).f5).length c258_5)∧w'.cell? ⟨(ad258.add ((x7_5).toNat * 8)).block,(ad258.add ((x7_5).toNat * 8)).off + 6,none⟩=some (.slice A258_6 ((rd_T49 l0_4 x7_5).f6).length c258_6)∧w'.cell? ⟨(ad258.add ((x7_5).toNat * 8)).block,(ad258.add ((x7_5).toNat * 8)).off + 7,none⟩=some (.slice A258_7 ((rd_T49 l0_4 x7_5).f7).length c258_7)) (ds:=[]) #[false,false,false,false,false,false,false,false,false] (by kernel_rfl) rfl rfl ⟨(blk_cell BK247.out 0).trans rfl,(blk_cell BK247.out 1).trans rfl,(blk_cell BK247.out 2).trans rfl,(blk_cell BK247.out 3).trans rfl,(blk_cell BK247.out 4).trans rfl,((HB.out.cell (World.block_lt_of_cell? w _ hw258_0)).trans hw258_0),((HB.out.cell (World.block_lt_of_cell? w _ hw258_1)).trans hw258_1),((HB.out.cell (World.block_lt_of_cell? w _ hw258_2)).trans hw258_2),((HB.out.cell (World.block_lt_of_cell? w _ hw258_3)).trans hw258_3),((HB.out.cell (World.block_lt_of_cell? w _ hw258_4)).trans hw258_4),((HB.out.cell (World.block_lt_of_cell? w _ hw258_5)).trans hw258_5),((HB.out.cell (World.block_lt_of_cell? w _ hw258_6)).trans hw258_6),((HB.out.cell (World.block_lt_of_cell? w _ hw258_7)).trans hw258_7)⟩ (fun hHeld => ?_);refine with_tabW understudyref05_Check.tab22 understudyref05_Check.bits22 (fun HT_ HW_ => ?_)
                   generalize wr.drew=w61 at BK247 HB HR258_5 HR258_6 HR258_7 hx258_0 hx258_1 hx258_2 hx258_3 hx258_4 hx258_5 hx258_6 hx258_7 hHeld ⊢
                   refine pure_ (i:=0) (N:=some 96) (v:=?_) (a':=?_) #[true,false,false,false,false,false,false,false,false] rfl rfl (any_of HT_.out (by kernel_rfl)) (fun _ _ _ h => h) (Or.inl ⟨by rfl,?_⟩) ?_ ?_
                   rotate_left
                   ·intro w'
                    go_simp
                    with_reducible rfl
                   rotate_left
                   ·simp only [Act.put,List.setIfInBounds_toArray,List.set_cons_zero,List.set_cons_succ,i64_w,i32_w]
                    rfl
                   refine pure_ (i:=2) (N:=some 98) (v:=?_) (a':=?_) #[true,false,true,false,false,false,false,false,false] rfl rfl (any_of HT_.out (by kernel_rfl)) (fun _ _ _ h => h) (Or.inl ⟨by rfl,?_⟩) ?_ ?_
                   rotate_left
                   ·intro w'
                    go_simp
                    with_reducible rfl
                   rotate_left
                   ·simp only [Act.put,List.setIfInBounds_toArray,List.set_cons_zero,List.set_cons_succ,i64_w,i32_w]
                    rfl
                   refine pure_ (i:=4) (N:=some 100) (v:=?_) (a':=?_) #[true,false,true,false,true,false,false,false,false] rfl rfl (any_of HT_.out (by kernel_rfl)) (fun _ _ _ h => h) (Or.inl ⟨by rfl,?_⟩) ?_ ?_
                   rotate_left
                   ·intro w'
                    go_simp
                    with_reducible rfl
                   rotate_left
                   ·simp only [Act.put,List.setIfInBounds_toArray,List.set_cons_zero,List.set_cons_succ,i64_w,i32_w]
                    rfl
                   refine take_ (i:=1) (N:=some 97) (v:=?_) (a':=?_) #[true,true,true,false,true,false,false,false,false] rfl rfl (take_ofW HT_.out HW_.out (by kernel_rfl)) (fun _ _ _ h => h) (Or.inl ⟨by rfl,?_⟩) hHeld ?_ ?_
                   rotate_left
                   ·rintro w' ⟨s0,s1,s2,s3,s4,s5,s6,s7,s8,s9,s10,s11,s12⟩
                    go_simp
                    with_reducible rfl
                   rotate_left
                   ·simp only [Act.put,List.setIfInBounds_toArray,List.set_cons_zero,List.set_cons_succ,i64_w,i32_w]
                    rfl
                   refine take_ (i:=3) (N:=some 99) (v:=?_) (a':=?_) #[true,true,true,true,true,false,false,false,false] rfl rfl (take_ofW HT_.out HW_.out (by kernel_rfl)) (fun _ _ _ h => h) (Or.inl ⟨by rfl,?_⟩) hHeld ?_ ?_
                   rotate_left
                   ·rintro w' ⟨s0,s1,s2,s3,s4,s5,s6,s7,s8,s9,s10,s11,s12⟩
                    go_simp
                    with_reducible rfl
                   rotate_left
                   ·simp only [Act.put,List.setIfInBounds_toArray,List.set_cons_zero,List.set_cons_succ,i64_w,i32_w]
                    rfl
                   refine pure_ (i:=5) (N:=some 101) (v:=?_) (a':=?_) #[true,true,true,true,true,true,false,false,false] rfl rfl (any_of HT_.out (by kernel_rfl)) (fun _ _ _ h => h) (Or.inl ⟨by rfl,?_⟩) ?_ ?_
                   rotate_left
                   ·intro w'
                    go_simp
                    with_reducible rfl
                   rotate_left
                   ·simp only [Act.put,List.setIfInBounds_toArray,List.set_cons_zero,List.set_cons_succ,i64_w,i32_w]
                    rfl
                   refine take_ (i:=6) (N:=some 102) (v:=?_) (a':=?_) #[true,true,true,true,true,true,true,false,false] rfl rfl (take_ofW HT_.out HW_.out (by kernel_rfl)) (fun _ _ _ h => h) (Or.inl ⟨by rfl,?_⟩) hHeld ?_ ?_
                   rotate_left
                   ·rintro w' ⟨s0,s1,s2,s3,s4,s5,s6,s7,s8,s9,s10,s11,s12⟩
                    go_simp
                    with_reducible rfl
                   rotate_left
                   ·simp only [Act.put,List.setIfInBounds_toArray,List.set_cons_zero,List.set_cons_succ,i64_w,i32_w]
                    rfl
                   refine one_ (i:=7) (N:=some 103) #[true,true,true,true,true,true,true,true,false] rfl rfl (one_of HT_.out (by kernel_rfl)) (by decide) (fun K hK => ?_)
                   refine goes_ Tryd.func38 (by kernel_rfl) rfl #[.slice A0_0 l0_0.length c0_0,.agg #[.int .i64 ((rd_T49 l0_4 x7_5).f0),.int .i64 ((rd_T49 l0_4 x7_5).f1),.int .i64 ((rd_T49 l0_4 x7_5).f2),.int .i64 ((rd_T49 l0_4 x7_5).f3),.int .i64 ((rd_T49 l0_4 x7_5).f4),.slice A258_5 ((rd_T49 l0_4 x7_5).f5).length c258_5,.slice A258_6 ((rd_T49 l0_4 x7_5).f6).length c258_6,.slice A258_7 ((rd_T49 l0_4 x7_5).f7).length c258_7]] (by rfl) rfl rfl (by (try simp only [List.map_toArray,List.map_cons,List.map_nil]);first|done|rfl|(simp only [List.length_drop,List.length_take];rfl)) ?_
                   with_reducible refine (understudyref05_method.calls k5 _ _ l0_0 ((rd_T49 l0_4 x7_5).f0) ((rd_T49 l0_4 x7_5).f1) ((rd_T49 l0_4 x7_5).f2) ((rd_T49 l0_4 x7_5).f3) ((rd_T49 l0_4 x7_5).f4) _ _ ((rd_T49 l0_4 x7_5).f5) _ _ ((rd_T49 l0_4 x7_5).f6) _ _ ((rd_T49 l0_4 x7_5).f7) true _ ?side1 ?side2 ?side3 ?side4 ?side5 ?side6 ?side7 ?side8 A58.out).mono ?_
                   (case side1 => exact kc_ (Kd.C_below HR0_0.out HB.out))
                   (case side2 => exact HC0_0.out)
                   (case side3 => exact kc_ (Kd.C_below HR258_5.out HB.out))
                   (case side4 => exact HC258_5.out)
                   (case side5 => exact kc_ (Kd.C_below HR258_6.out HB.out))
                   (case side6 => exact HC258_6.out)
                   (case side7 => exact kc_ (Kd.C_below HR258_7.out HB.out))
                   (case side8 => exact HC258_7.out)
                   rintro e w62 ⟨rfl,hb⟩
                   refine ⟨_,rfl,?_⟩
                   have n0_:=Aside0.mk (blk_below (g:=gb247) (o:=.cells #[.slice A0_0 l0_0.length c0_0,.int .i64 a0_1,.int .i64 a0_2,.slice A0_3 l0_3.length c0_3,.slice (some ad258) l0_4.length c0_4] 26 (0,0)) bk_ hb)
                   have n1_:=Aside0.mk (below_step bl_ hb)
                   clear BK247
                   clear HB
                   have BK247:=n0_
                   have HB:=n1_
                   clear n0_ n1_
                   (try clear hb)
                   (try clear hb2)
                   (try clear hk)
                   (try clear hi)
                   refine hK.out _ _ ⟨(blk_cell BK247.out 0).trans rfl,(blk_cell BK247.out 1).trans rfl,(blk_cell BK247.out 2).trans rfl,(blk_cell BK247.out 3).trans rfl,(blk_cell BK247.out 4).trans rfl,((HB.out.cell (World.block_lt_of_cell? w _ hw258_0)).trans hw258_0),((HB.out.cell (World.block_lt_of_cell? w _ hw258_1)).trans hw258_1),((HB.out.cell (World.block_lt_of_cell? w _ hw258_2)).trans hw258_2),((HB.out.cell (World.block_lt_of_cell? w _ hw258_3)).trans hw258_3),((HB.out.cell (World.block_lt_of_cell? w _ hw258_4)).trans hw258_4),((HB.out.cell (World.block_lt_of_cell? w _ hw258_5)).trans hw258_5),((HB.out.cell (World.block_lt_of_cell? w _ hw258_6)).trans hw258_6),((HB.out.cell (World.block_lt_of_cell? w _ hw258_7)).trans hw258_7)⟩ (fun hHeld => ?_)
                   clear hK K
                   refine norm_ (a':=?_) ?_ ?_
                   rotate_left
                   ·show Act.put _ (some 103) _=_
                    simp only [Act.put,List.setIfInBounds_toArray,List.set_cons_zero,List.set_cons_succ,i64_w,i32_w]
                    rfl
                   refine pure_ (i:=8) (N:=some 104) (v:=?_) (a':=?_) #[true,true,true,true,true,true,true,true,true] rfl rfl (any_of HT_.out (by kernel_rfl)) (fun _ _ _ h => h) (Or.inl ⟨by rfl,?_⟩) ?_ ?_
                   rotate_left
                   ·intro w'
                    go_simp
                    with_reducible rfl
                   rotate_left
                   ·simp only [Act.put,List.setIfInBounds_toArray,List.set_cons_zero,List.set_cons_succ,i64_w,i32_w]
                    rfl
                   refine done_ (done_of HT_.out (by kernel_rfl)) ?_
                   try go_wp2
                   go_roundg k5
                   case measure => have:=HJ3.out;have:=HK2.out;have:=HJ16.out;have:=HK4.out;have:=HK5.out;omega
                   case rel => exact ⟨(wrap64 (x7_5 + 1)),r3_,H',⟨by have:=HJ3.out;have:=HK2.out;have:=HJ16.out;have:=HK4.out;have:=HK5.out;omega⟩,⟨bk_⟩,⟨bl_⟩⟩
                  ·replace c59:=Bool.eq_false_iff.mpr c59
                   subst c59
                   rw [if_neg (show ¬ (false=true) by decide)] at H
                   obtain rfl:=Option.some.inj H
                   obtain ⟨hcz63_0,hcz63_1,hcz63_2,hcz63_3,hcz63_4,hfz63_0,hfz63_1,hfz63_2,hfz63_3,hfz63_4⟩:=blk5_ BK247.out
                   try go_wp2
                   have n0_:=Aside0.mk (blk_drew BK247.out)
                   have n1_:=Aside0.mk (below_drew1 HB.out)
                   clear BK247
                   clear HB
                   have BK247:=n0_
                   have HB:=n1_
                   clear n0_ n1_
                   have p258:0≤(x7_5:Int):=od_
                   have q258:x7_5 < (l0_4.length:Int):=od_
                   obtain ⟨ad258,A258_5,c258_5,A258_6,c258_6,A258_7,c258_7,e258,hx258_0,hx258_1,hx258_2,hx258_3,hx258_4,hx258_5,hx258_6,hx258_7,hl258_5,hi258_5,hl258_6,hi258_6,hl258_7,hi258_7⟩:=at_T49 HR0_4.out x7_5 p258 q258
                   have hw258_7:=hx258_7
                   have hw258_6:=hx258_6
                   have hw258_5:=hx258_5
                   have hw258_4:=hx258_4
                   have hw258_3:=hx258_3
                   have hw258_2:=hx258_2
                   have hw258_1:=hx258_1
                   have hw258_0:=hx258_0
                   cases e258
                   replace hx258_0:=hb_ HB hx258_0
                   replace hx258_1:=hb_ HB hx258_1
                   replace hx258_2:=hb_ HB hx258_2
                   replace hx258_3:=hb_ HB hx258_3
                   replace hx258_4:=hb_ HB hx258_4
                   replace hx258_5:=hb_ HB hx258_5
                   replace hx258_6:=hb_ HB hx258_6
                   replace hx258_7:=hb_ HB hx258_7
                   have HR258_5:=Aside0.mk hi258_5
                   have HC258_5:=Aside0.mk hl258_5
                   clear hi258_5 hl258_5
                   have HR258_6:=Aside0.mk hi258_6
                   have HC258_6:=Aside0.mk hl258_6
                   clear hi258_6 hl258_6
                   have HR258_7:=Aside0.mk hi258_7
                   have HC258_7:=Aside0.mk hl258_7
                   clear hi258_7 hl258_7
                   replace p258:=eq_true p258
                   replace q258:=eq_true q258
                   refine start_ (n:=9) (S:=fun w' => w'.cell? ⟨gb247,0,none⟩=some (.slice A0_0 l0_0.length c0_0)∧w'.cell? ⟨gb247,1,none⟩=some (.int .i64 a0_1)∧w'.cell? ⟨gb247,2,none⟩=some (.int .i64 a0_2)∧w'.cell? ⟨gb247,3,none⟩=some (.slice A0_3 l0_3.length c0_3)∧w'.cell? ⟨gb247,4,none⟩=some (.slice (some ad258) l0_4.length c0_4)∧w'.cell? (ad258.add ((x7_5).toNat * 8))=some (.int .i64 ((rd_T49 l0_4 x7_5).f0))∧w'.cell? ⟨(ad258.add ((x7_5).toNat * 8)).block,(ad258.add ((x7_5).toNat * 8)).off + 1,none⟩=some (.int .i64 ((rd_T49 l0_4 x7_5).f1))∧w'.cell? ⟨(ad258.add ((x7_5).toNat * 8)).block,(ad258.add ((x7_5).toNat * 8)).off + 2,none⟩=some (.int .i64 ((rd_T49 l0_4 x7_5).f2))∧w'.cell? ⟨(ad258.add ((x7_5).toNat * 8)).block,(ad258.add ((x7_5).toNat * 8)).off + 3,none⟩=some (.int .i64 ((rd_T49 l0_4 x7_5).f3))∧w'.cell? ⟨(ad258.add ((x7_5).toNat * 8)).block,(ad258.add ((x7_5).toNat * 8)).off + 4,none⟩=some (.int .i64 ((rd_T49 l0_4 x7_5).f4))∧w'.cell? ⟨(ad258.add ((x7_5).toNat * 8)).block,(ad258.add ((x7_5).toNat * 8)).off + 5,none⟩=some (.slice A258_5 ((rd_T49 l0_4 x7_5).f5).length c258_5)∧w'.cell? ⟨(ad258.add ((x7_5).toNat * 8)).block,(ad258.add ((x7_5).toNat * 8)).off + 6,none⟩=some (.slice A258_6 ((rd_T49 l0_4 x7_5).f6).length c258_6)∧w'.cell? ⟨(ad258.add ((x7_5).toNat * 8)).block,(ad258.add ((x7_5).toNat * 8)).off + 7,none⟩=some (.slice A258_7 ((rd_T49 l0_4 x7_5).f7).length c258_7)) (ds:=[]) #[false,false,false,false,false,false,false,false,false] (by kernel_rfl) rfl rfl ⟨(blk_cell BK247.out 0).trans rfl,(blk_cell BK247.out 1).trans rfl,(blk_cell BK247.out 2).trans rfl,(blk_cell BK247.out 3).trans rfl,(blk_cell BK247.out 4).trans rfl,((HB.out.cell (World.block_lt_of_cell? w _ hw258_0)).trans hw258_0),((HB.out.cell (World.block_lt_of_cell? w _ hw258_1)).trans hw258_1),((HB.out.cell (World.block_lt_of_cell? w _ hw258_2)).trans hw258_2),((HB.out.cell (World.block_lt_of_cell? w _ hw258_3)).trans hw258_3),((HB.out.cell (World.block_lt_of_cell? w _ hw258_4)).trans hw258_4),((HB.out.cell (World.block_lt_of_cell? w _ hw258_5)).trans hw258_5),((HB.out.cell (World.block_lt_of_cell? w _ hw258_6)).trans hw258_6),((HB.out.cell (World.block_lt_of_cell? w _ hw258_7)).trans hw258_7)⟩ (fun hHeld => ?_);refine with_tabW understudyref05_Check.tab22 understudyref05_Check.bits22 (fun HT_ HW_ => ?_)
                   generalize wr.drew=w64 at BK247 HB HR258_5 HR258_6 HR258_7 hx258_0 hx258_1 hx258_2 hx258_3 hx258_4 hx258_5 hx258_6 hx258_7 hHeld ⊢
                   refine pure_ (i:=0) (N:=some 96) (v:=?_) (a':=?_) #[true,false,false,false,false,false,false,false,false] rfl rfl (any_of HT_.out (by kernel_rfl)) (fun _ _ _ h => h) (Or.inl ⟨by rfl,?_⟩) ?_ ?_
                   rotate_left
                   ·intro w'
                    go_simp
                    with_reducible rfl
                   rotate_left
                   ·simp only [Act.put,List.setIfInBounds_toArray,List.set_cons_zero,List.set_cons_succ,i64_w,i32_w]
                    rfl
                   refine pure_ (i:=2) (N:=some 98) (v:=?_) (a':=?_) #[true,false,true,false,false,false,false,false,false] rfl rfl (any_of HT_.out (by kernel_rfl)) (fun _ _ _ h => h) (Or.inl ⟨by rfl,?_⟩) ?_ ?_
                   rotate_left
                   ·intro w'
                    go_simp
                    with_reducible rfl
                   rotate_left
                   ·simp only [Act.put,List.setIfInBounds_toArray,List.set_cons_zero,List.set_cons_succ,i64_w,i32_w]
                    rfl
                   refine pure_ (i:=4) (N:=some 100) (v:=?_) (a':=?_) #[true,false,true,false,true,false,false,false,false] rfl rfl (any_of HT_.out (by kernel_rfl)) (fun _ _ _ h => h) (Or.inl ⟨by rfl,?_⟩) ?_ ?_
                   rotate_left
                   ·intro w'
                    go_simp
                    with_reducible rfl
                   rotate_left
                   ·simp only [Act.put,List.setIfInBounds_toArray,List.set_cons_zero,List.set_cons_succ,i64_w,i32_w]
                    rfl
                   refine take_ (i:=1) (N:=some 97) (v:=?_) (a':=?_) #[true,true,true,false,true,false,false,false,false] rfl rfl (take_ofW HT_.out HW_.out (by kernel_rfl)) (fun _ _ _ h => h) (Or.inl ⟨by rfl,?_⟩) hHeld ?_ ?_
                   rotate_left
                   ·rintro w' ⟨s0,s1,s2,s3,s4,s5,s6,s7,s8,s9,s10,s11,s12⟩
                    go_simp
                    with_reducible rfl
                   rotate_left
                   ·simp only [Act.put,List.setIfInBounds_toArray,List.set_cons_zero,List.set_cons_succ,i64_w,i32_w]
                    rfl
                   refine take_ (i:=3) (N:=some 99) (v:=?_) (a':=?_) #[true,true,true,true,true,false,false,false,false] rfl rfl (take_ofW HT_.out HW_.out (by kernel_rfl)) (fun _ _ _ h => h) (Or.inl ⟨by rfl,?_⟩) hHeld ?_ ?_
                   rotate_left
                   ·rintro w' ⟨s0,s1,s2,s3,s4,s5,s6,s7,s8,s9,s10,s11,s12⟩
                    go_simp
                    with_reducible rfl
                   rotate_left
                   ·simp only [Act.put,List.setIfInBounds_toArray,List.set_cons_zero,List.set_cons_succ,i64_w,i32_w]
                    rfl
                   refine pure_ (i:=5) (N:=some 101) (v:=?_) (a':=?_) #[true,true,true,true,true,true,false,false,false] rfl rfl (any_of HT_.out (by kernel_rfl)) (fun _ _ _ h => h) (Or.inl ⟨by rfl,?_⟩) ?_ ?_
                   rotate_left
                   ·intro w'
                    go_simp
                    with_reducible rfl
                   rotate_left
                   ·simp only [Act.put,List.setIfInBounds_toArray,List.set_cons_zero,List.set_cons_succ,i64_w,i32_w]
                    rfl
                   refine take_ (i:=6) (N:=some 102) (v:=?_) (a':=?_) #[true,true,true,true,true,true,true,false,false] rfl rfl (take_ofW HT_.out HW_.out (by kernel_rfl)) (fun _ _ _ h => h) (Or.inl ⟨by rfl,?_⟩) hHeld ?_ ?_
                   rotate_left
                   ·rintro w' ⟨s0,s1,s2,s3,s4,s5,s6,s7,s8,s9,s10,s11,s12⟩
                    go_simp
                    with_reducible rfl
                   rotate_left
                   ·simp only [Act.put,List.setIfInBounds_toArray,List.set_cons_zero,List.set_cons_succ,i64_w,i32_w]
                    rfl
                   refine one_ (i:=7) (N:=some 103) #[true,true,true,true,true,true,true,true,false] rfl rfl (one_of HT_.out (by kernel_rfl)) (by decide) (fun K hK => ?_)
                   refine goes_ Tryd.func38 (by kernel_rfl) rfl #[.slice A0_0 l0_0.length c0_0,.agg #[.int .i64 ((rd_T49 l0_4 x7_5).f0),.int .i64 ((rd_T49 l0_4 x7_5).f1),.int .i64 ((rd_T49 l0_4 x7_5).f2),.int .i64 ((rd_T49 l0_4 x7_5).f3),.int .i64 ((rd_T49 l0_4 x7_5).f4),.slice A258_5 ((rd_T49 l0_4 x7_5).f5).length c258_5,.slice A258_6 ((rd_T49 l0_4 x7_5).f6).length c258_6,.slice A258_7 ((rd_T49 l0_4 x7_5).f7).length c258_7]] (by rfl) rfl rfl (by (try simp only [List.map_toArray,List.map_cons,List.map_nil]);first|done|rfl|(simp only [List.length_drop,List.length_take];rfl)) ?_
                   with_reducible refine (understudyref05_method.calls k5 _ _ l0_0 ((rd_T49 l0_4 x7_5).f0) ((rd_T49 l0_4 x7_5).f1) ((rd_T49 l0_4 x7_5).f2) ((rd_T49 l0_4 x7_5).f3) ((rd_T49 l0_4 x7_5).f4) _ _ ((rd_T49 l0_4 x7_5).f5) _ _ ((rd_T49 l0_4 x7_5).f6) _ _ ((rd_T49 l0_4 x7_5).f7) false _ ?side1 ?side2 ?side3 ?side4 ?side5 ?side6 ?side7 ?side8 A58.out).mono ?_
                   (case side1 => exact kc_ (Kd.C_below HR0_0.out HB.out))
                   (case side2 => exact HC0_0.out)
                   (case side3 => exact kc_ (Kd.C_below HR258_5.out HB.out))
                   (case side4 => exact HC258_5.out)
                   (case side5 => exact kc_ (Kd.C_below HR258_6.out HB.out))
                   (case side6 => exact HC258_6.out)
                   (case side7 => exact kc_ (Kd.C_below HR258_7.out HB.out))
                   (case side8 => exact HC258_7.out)
                   rintro e w65 ⟨rfl,hb⟩
                   refine ⟨_,rfl,?_⟩
                   have n0_:=Aside0.mk (blk_below (g:=gb247) (o:=.cells #[.slice A0_0 l0_0.length c0_0,.int .i64 a0_1,.int .i64 a0_2,.slice A0_3 l0_3.length c0_3,.slice (some ad258) l0_4.length c0_4] 26 (0,0)) bk_ hb)
                   have n1_:=Aside0.mk (below_step bl_ hb)
                   clear BK247
                   clear HB
                   have BK247:=n0_
                   have HB:=n1_
                   clear n0_ n1_
                   (try clear hb)
                   (try clear hb2)
                   (try clear hk)
                   (try clear hi)
                   refine hK.out _ _ ⟨(blk_cell BK247.out 0).trans rfl,(blk_cell BK247.out 1).trans rfl,(blk_cell BK247.out 2).trans rfl,(blk_cell BK247.out 3).trans rfl,(blk_cell BK247.out 4).trans rfl,((HB.out.cell (World.block_lt_of_cell? w _ hw258_0)).trans hw258_0),((HB.out.cell (World.block_lt_of_cell? w _ hw258_1)).trans hw258_1),((HB.out.cell (World.block_lt_of_cell? w _ hw258_2)).trans hw258_2),((HB.out.cell (World.block_lt_of_cell? w _ hw258_3)).trans hw258_3),((HB.out.cell (World.block_lt_of_cell? w _ hw258_4)).trans hw258_4),((HB.out.cell (World.block_lt_of_cell? w _ hw258_5)).trans hw258_5),((HB.out.cell (World.block_lt_of_cell? w _ hw258_6)).trans hw258_6),((HB.out.cell (World.block_lt_of_cell? w _ hw258_7)).trans hw258_7)⟩ (fun hHeld => ?_)
                   clear hK K
                   refine norm_ (a':=?_) ?_ ?_
                   rotate_left
                   ·show Act.put _ (some 103) _=_
                    simp only [Act.put,List.setIfInBounds_toArray,List.set_cons_zero,List.set_cons_succ,i64_w,i32_w]
                    rfl
                   refine pure_ (i:=8) (N:=some 104) (v:=?_) (a':=?_) #[true,true,true,true,true,true,true,true,true] rfl rfl (any_of HT_.out (by kernel_rfl)) (fun _ _ _ h => h) (Or.inl ⟨by rfl,?_⟩) ?_ ?_
                   rotate_left
                   ·intro w'
                    go_simp
                    with_reducible rfl
                   rotate_left
                   ·simp only [Act.put,List.setIfInBounds_toArray,List.set_cons_zero,List.set_cons_succ,i64_w,i32_w]
                    rfl
                   refine done_ (done_of HT_.out (by kernel_rfl)) ?_
                   try go_wp2
                   go_ret
                   exact ⟨ew_,bl_⟩
                 ·rw [if_neg c57] at H
                  exact absurd H (by simp)
                ·rw [if_neg c56] at H
                 have c56b0:decide (x7_5 < (l0_4.length:Int))=false:=decide_eq_false c56
                 clear c56
                 obtain rfl:=Option.some.inj H
                 obtain ⟨hcz66_0,hcz66_1,hcz66_2,hcz66_3,hcz66_4,hfz66_0,hfz66_1,hfz66_2,hfz66_3,hfz66_4⟩:=blk5_ BK247.out
                 go_wp2
                 go_ret
                 exact ⟨ew_,bl_⟩
 ·rw [if_neg c3] at H
  have c3b0:(t248==0)=false:=beq_eq_false_iff_ne.mpr c3
  have c3b1:(t248 != 0)=true:=bne_iff_ne.mpr c3
  obtain rfl:=Option.some.inj H
  go_enter Tryd.func17,Tryd.ntmps17
  go_wp2_with (first|((with_reducible refine gate_dst (N:=1) rfl ?_);(try (refine gate_guard (by rfl) ?_;dsimp only));refine box_event ?hg (N:=1) ?hd (cs:=#[.slice A0_0 l0_0.length c0_0,.int .i64 a0_1,.int .i64 a0_2,.slice A0_3 l0_3.length c0_3,.slice A0_4 l0_4.length c0_4]) (t:=26) ?hr ?_;(case hd => rfl);(case hg => rfl);(case hr => first|(go_simp;done)|(go_simp;rfl));intro gb247 hg w67 hbox hb;have n0_:=Aside0.mk (below_step bl_ hb);have n1_:=Aside0.mk (hbox);have n2_:=Aside0.mk ((by rw [hg];exact (below_size bl_):w.heap.size≤gb247));have n3_:=Aside0.mk ((by rw [hg];exact (below_size bl_):w.heap.size≤gb247));clear HB;have HB:=n0_;have BK247:=n1_;have GW247:=n2_;have GE247:=n3_;clear n0_ n1_ n2_ n3_;clear hb hbox hg;obtain ⟨hcz68_0,hcz68_1,hcz68_2,hcz68_3,hcz68_4⟩:=blc5_ BK247.out;have hfz68_0:=blk_frozen BK247.out 0;have hfz68_1:=blk_frozen BK247.out 1;have hfz68_2:=blk_frozen BK247.out 2;have hfz68_3:=blk_frozen BK247.out 3;have hfz68_4:=blk_frozen BK247.out 4)|(refine callA_ (f:=35) (some 10) Tryd.func35 #[.slice A0_0 l0_0.length c0_0] ?_;(with_reducible refine (understudyref04_Check.calls k _ _ l0_0 t248 _ ?side1 ?side2 A2.out).mono ?_);(case side1 => exact kc_ (Kd.C_below HR0_0.out HB.out));(case side2 => exact HC0_0.out);rintro e w69 ⟨rfl,hb⟩;refine ⟨_,rfl,?_⟩;have n0_:=Aside0.mk (blk_below (g:=gb247) (o:=.cells #[.slice A0_0 l0_0.length c0_0,.int .i64 a0_1,.int .i64 a0_2,.slice A0_3 l0_3.length c0_3,.slice A0_4 l0_4.length c0_4] 26 (0,0)) bk_ hb);have n1_:=Aside0.mk (below_step bl_ hb);clear BK247;clear HB;have BK247:=n0_;have HB:=n1_;clear n0_ n1_;(try clear hb);(try clear hb2);(try clear hk);(try clear hi)))
  go_ret
  exact ⟨ew_,bl_⟩
end Go.Proofs.YtmloaijagkebpaaDoor.Px
namespace Go.Proofs.YtmloaijagkebpaaDoor.Px
open Go.RowKit Go.Proofs.YtmloaijagkebpaaDoorW.PrintWords Go.Proofs.YtmloaijagkebpaaDoorW.PrintLast Go.Proofs.YtmloaijagkebpaaDoorW.PrintMore
attribute [local go_sem] max2_int min2_int max_two min_two max_three min_three max_four min_four
set_option linter.unusedVariables false
set_option linter.unusedSimpArgs false
def understudyref04_two.f (a0:Int):Option (List Int):=some (([(a0 / 256) % 256,(a0) % 256]:List Int))
set_option maxHeartbeats 80000000 in
set_option maxRecDepth 100000 in
theorem understudyref04_two.calls (a0:Int) (r:List Int) (w:World) (h:understudyref04_two.f a0=some r) :
  Calls Tryd.prog 39 #[.int .i64 a0] w fun e w' => ∃ v0_:Value,e=.returned (v0_)∧Kd.R (Kd.int .u8) 5 w' w.heap.size (fun _ => True) v0_ r∧Below w.heap.size w w':=by
 have HB:=Aside0.mk (Below.refl w.heap.size w)
 have H:(some (([(a0 / 256) % 256,(a0) % 256]:List Int)))=some r:=h
 clear h
 obtain ⟨y260,hy260⟩:∃ y_:List Int,y_=(([(a0 / 256) % 256,(a0) % 256]:List Int)):=⟨_,rfl⟩
 replace H:(some y260)=some r:=by first|(rw [hy260];with_reducible exact H)|(have H2_:=(Option.bind_some _ _).symm.trans H;rw [hy260];with_reducible exact H2_)|(have H2_:=(Option.bind_some _ _).symm.trans H;with_reducible exact H2_)|with_reducible exact H|(rw [hy260];exact H)|exact H
 have Ny260:=Aside0.mk hy260
 clear hy260
 obtain rfl:=Option.some.inj H
 go_enter Tryd.func39,Tryd.ntmps39
 go_wp2_with (first|((with_reducible refine gate_dst (N:=8) rfl ?_);refine Kd.R_lit (Kd.int .u8) _ 5 ?hg (N:=8) ?hd (xs:=([(a0 / 256) % 256,(a0) % 256]:List Int)) (inner:=[.int .u8 ((a0 / 256) % 256),.int .u8 ((a0) % 256)]) (ok:=fun _ => True) (okp:=fun _ => True) ?hr ?hp (fun _ hk => hk) trivial (Below.refl _ _) (Nat.le_refl _) (by simp) ?_;(case hd => rfl);(case hg => rfl);(case hr => first|(go_simp;done)|(go_simp;rfl));(case hp => exact (Reps.one (show Kd.M (Kd.int .u8) _ _ _ ((a0 / 256) % 256) [.int .u8 ((a0 / 256) % 256)] from rfl) (Reps.one (show Kd.M (Kd.int .u8) _ _ _ ((a0) % 256) [.int .u8 ((a0) % 256)] from rfl) (Reps.none _ _))));intro v261 w2 ho3 hb hg_ hnew_;clear hg_ hnew_;(first|rw [← Ny260.out] at ho3|(simp only [Int.reduceToNat] at ho3;rw [← Ny260.out] at ho3));have n0_:=Aside0.mk (Kd.R_lower ho3 (below_size bl_));have n1_:=Aside0.mk (below_step bl_ hb);clear HB;have HO262:=n0_;have HB:=n1_;clear n0_ n1_;clear hb ho3))
 go_ret
 exact ⟨_,ew_,kr_ HO262.out,bl_⟩
mutual
def understudyref04_Encode.l0:Nat→List (S60)→List Int→Int→Option (List Int × Int)
 | 0,_,_,_ => none
 | k + 1,x0,x5,x6 => if x6 < (x0.length:Int) then (if 0≤x6 then (if x5.length < 140737488355328 then ((some (x5++[((rd_T60 x0 x6).f0) % 256]:List Int)).bind fun y269 => (if ((rd_T60 x0 x6).f0)=1 then ((understudyref02_Encode.f k ((rd_T60 x0 x6).f1)).bind fun bt272 => ((understudyref04_two.f (bt272.1.length:Int)).bind fun t276 => (if y269.length + t276.length < 140737488355328 then ((some (y269++t276:List Int)).bind fun y279 => (if y279.length + bt272.1.length < 140737488355328 then (understudyref04_Encode.l0 k x0 (y279++bt272.1) (wrap64 (x6 + 1))) else (none))) else (none)))) else (if ((rd_T60 x0 x6).f0)=3 then ((some (([(((rd_T60 x0 x6).f2) / 16777216) % 256,(((rd_T60 x0 x6).f2) / 65536) % 256,(((rd_T60 x0 x6).f2) / 256) % 256,((rd_T60 x0 x6).f2) % 256]:List Int):List Int)).bind fun y285 => (if y269.length + y285.length < 140737488355328 then (understudyref04_Encode.l0 k x0 (y269++y285) (wrap64 (x6 + 1))) else (none))) else (if ((rd_T60 x0 x6).f0)=5 then (understudyref04_Encode.l1 k x0 y269 x6 56 ((rd_T60 x0 x6).f0) ((rd_T60 x0 x6).f1) ((rd_T60 x0 x6).f2) ((rd_T60 x0 x6).f3) ((rd_T60 x0 x6).f4)) else (if ((rd_T60 x0 x6).f0)=7 then ((understudyref04_two.f ((rd_T60 x0 x6).f3)).bind fun t294 => (if y269.length + t294.length < 140737488355328 then (understudyref04_Encode.l0 k x0 (y269++t294) (wrap64 (x6 + 1))) else (none))) else ((understudyref04_two.f ((rd_T60 x0 x6).f3)).bind fun t300 => (if y269.length + t300.length < 140737488355328 then ((some (y269++t300:List Int)).bind fun y303 => ((understudyref04_two.f ((rd_T60 x0 x6).f4)).bind fun t306 => (if y303.length + t306.length < 140737488355328 then (understudyref04_Encode.l0 k x0 (y303++t306) (wrap64 (x6 + 1))) else (none)))) else (none)))))))) else (none)) else (none)) else (some (x5,0))
def understudyref04_Encode.l1:Nat→List (S60)→List Int→Int→Int→Int→ByteArray→Int→Int→Int→Option (List Int × Int)
 | 0,_,_,_,_,_,_,_,_,_ => none
 | k + 1,x0,x5,x6,x10,x269000,x269001,x269002,x269003,x269004 => if x10 ≥ 0 then (if 0≤x10 then (if x5.length < 140737488355328 then (understudyref04_Encode.l1 k x0 (x5++[(shr .i64 x269002 x10) % 256]) x6 (wrap64 (x10 - 8)) x269000 x269001 x269002 x269003 x269004) else (none)) else (none)) else (understudyref04_Encode.l0 k x0 x5 (wrap64 (x6 + 1)))
end
def understudyref04_Encode.f (k:Nat) (l0:List (S60)):Option (List Int × Int):=(understudyref04_Check.f k l0).bind fun t263 => (if t263=0 then ((understudyref04_two.f (l0.length:Int)).bind fun t264 => (understudyref04_Encode.l0 k l0 t264 1)) else (some (([]:List Int),t263)))
theorem understudyref04_Encode.mono_l:∀ k,(∀ y0 y1 y2,LeO (understudyref04_Encode.l0 k y0 y1 y2) (understudyref04_Encode.l0 (k + 1) y0 y1 y2))∧(∀ y0 y1 y2 y3 y4 y5 y6 y7 y8,LeO (understudyref04_Encode.l1 k y0 y1 y2 y3 y4 y5 y6 y7 y8) (understudyref04_Encode.l1 (k + 1) y0 y1 y2 y3 y4 y5 y6 y7 y8))
 | 0 => ⟨fun _ _ _ r h => by simp [understudyref04_Encode.l0] at h,fun _ _ _ _ _ _ _ _ _ r h => by simp [understudyref04_Encode.l1] at h⟩
 | k + 1 => by
  obtain ⟨ih0,ih1⟩:=understudyref04_Encode.mono_l k
  refine ⟨?_,?_⟩
  ·intro y0 y1 y2
   unfold understudyref04_Encode.l0
   repeat' first
   | (with_reducible exact ih0 _ _ _)
   | (with_reducible exact ih1 _ _ _ _ _ _ _ _ _)
   | (with_reducible exact understudyref02_Encode.mono _ _)
   | (with_reducible exact understudyref04_Check.mono _ _)
   | (with_reducible exact LeO.refl _)
   | (with_reducible exact LeO.none _)
   | (with_reducible refine LeO.ite ?_ ?_)
   | (with_reducible refine LeO.bind ?_ (fun _ => ?_))
   | exact ih0 _ _ _
   | exact ih1 _ _ _ _ _ _ _ _ _
   | exact understudyref02_Encode.mono _ _
   | exact understudyref04_Check.mono _ _
   | exact LeO.none _
   | refine LeO.ite ?_ ?_
   | refine LeO.bind ?_ (fun _ => ?_)
  ·intro y0 y1 y2 y3 y4 y5 y6 y7 y8
   unfold understudyref04_Encode.l1
   repeat' first
   | (with_reducible exact ih0 _ _ _)
   | (with_reducible exact ih1 _ _ _ _ _ _ _ _ _)
   | (with_reducible exact understudyref02_Encode.mono _ _)
   | (with_reducible exact understudyref04_Check.mono _ _)
   | (with_reducible exact LeO.refl _)
   | (with_reducible exact LeO.none _)
   | (with_reducible refine LeO.ite ?_ ?_)
   | (with_reducible refine LeO.bind ?_ (fun _ => ?_))
   | exact ih0 _ _ _
   | exact ih1 _ _ _ _ _ _ _ _ _
   | exact understudyref02_Encode.mono _ _
   | exact understudyref04_Check.mono _ _
   | exact LeO.none _
   | refine LeO.ite ?_ ?_
   | refine LeO.bind ?_ (fun _ => ?_)
theorem understudyref04_Encode.mono:∀ a0 k,LeO (understudyref04_Encode.f k a0) (understudyref04_Encode.f (k + 1) a0):=by
 intro a0 k
 obtain ⟨ih0,ih1⟩:=understudyref04_Encode.mono_l k
 unfold understudyref04_Encode.f
 repeat' first
   | (with_reducible exact ih0 _ _ _)
   | (with_reducible exact ih1 _ _ _ _ _ _ _ _ _)
   | (with_reducible exact understudyref02_Encode.mono _ _)
   | (with_reducible exact understudyref04_Check.mono _ _)
   | (with_reducible exact LeO.refl _)
   | (with_reducible exact LeO.none _)
   | (with_reducible refine LeO.ite ?_ ?_)
   | (with_reducible refine LeO.bind ?_ (fun _ => ?_))
   | exact ih0 _ _ _
   | exact ih1 _ _ _ _ _ _ _ _ _
   | exact understudyref02_Encode.mono _ _
   | exact understudyref04_Check.mono _ _
   | exact LeO.none _
   | refine LeO.ite ?_ ?_
   | refine LeO.bind ?_ (fun _ => ?_)
set_option maxHeartbeats 80000000 in
set_option maxRecDepth 100000 in
theorem understudyref04_Encode.calls (k:Nat) (A0:Option Addr) (c0:Nat) (l0:List (S60)) (r1:List Int) (r2:Int) (w:World) (hr0:Kd.C k60 w A0 l0.length l0) (hc0:l0.length≤c0) (h:understudyref04_Encode.f k l0=some (r1,r2)) :
  Calls Tryd.prog 18 #[.slice A0 l0.length c0] w fun e w' => ∃ v0_:Value,e=.returned (.tuple #[v0_,.int .i64 r2])∧Kd.R (Kd.int .u8) 5 w' w.heap.size (fun _ => True) v0_ r1∧Below w.heap.size w w':=by
 have hu60:=Tryd.underlying60
 have HR0:=Aside0.mk hr0
 have HC0:=Aside0.mk hc0
 clear hr0 hc0
 have HB:=Aside0.mk (Below.refl w.heap.size w)
 have H:((understudyref04_Check.f k l0).bind fun t263 => (if t263=0 then ((understudyref04_two.f (l0.length:Int)).bind fun t264 => (understudyref04_Encode.l0 k l0 t264 1)) else (some (([]:List Int),t263))))=some (r1,r2):=h
 clear h
 replace H:=Option.bind_eq_some_iff.mp H
 obtain ⟨t263,A20,H⟩:=H
 try dsimp only at H
 have A2:=Aside0.mk A20
 clear A20
 by_cases c3:t263=0
 ·rw [if_pos c3] at H
  have c3b0:(t263==0)=true:=beq_iff_eq.mpr c3
  have c3b1:(t263 != 0)=false:=bne_eq_false_iff_eq.mpr c3
  clear c3
  replace H:=Option.bind_eq_some_iff.mp H
  obtain ⟨t264,A40,H⟩:=H
  try dsimp only at H
  have A4:=Aside0.mk A40
  clear A40
  have H':=Aside0.mk H
  clear H
  go_enter Tryd.func18,Tryd.ntmps18
  go_wp2_with (first|(refine callA_ (f:=35) (some 12) Tryd.func35 #[.slice A0 l0.length c0] ?_;(with_reducible refine (understudyref04_Check.calls k _ _ l0 t263 _ ?side1 ?side2 A2.out).mono ?_);(case side1 => exact kc_ HR0.out);(case side2 => exact HC0.out);rintro e w5 ⟨rfl,hb⟩;refine ⟨_,rfl,?_⟩;have n0_:=Aside0.mk (below_step bl_ hb);clear HB;have HB:=n0_;clear n0_;(try clear hb);(try clear hb2);(try clear hk);(try clear hi))|(refine callA_ (f:=39) (some 18) Tryd.func39 #[.int .i64 (l0.length:Int)] ?_;(with_reducible refine (understudyref04_two.calls (l0.length:Int) t264 _ A4.out).mono ?_);rintro e w6 ⟨v265,rfl,ho0,hb⟩;refine ⟨_,rfl,?_⟩;have n0_:=Aside0.mk (Kd.R_lower ho0 (below_size bl_));have n1_:=Aside0.mk (below_step bl_ hb);clear HB;have HO266:=n0_;have HB:=n1_;clear n0_ n1_;(try clear hb);(try clear hb2);(try clear hk);(try clear hi);(try clear ho0)))
  go_loopg [5,6] k (fun kq v5 v6 w' => ∃ (x5_1:List Int) (x6_1:Int),v6=.int .i64 x6_1∧Aside0 (understudyref04_Encode.l0 kq l0 x5_1 x6_1=some (r1,r2))∧Aside0 (kq≤k)∧Aside0 (Kd.R (Kd.int .u8) 5 w' w.heap.size (fun _ => True) v5 x5_1)∧Aside0 (Below w.heap.size w w'))
  case atStart => exact ⟨(t264),(1),r3_,H',⟨Nat.le_refl _⟩,⟨kr_ HO266.out⟩,⟨bl_⟩⟩
  case round =>
   clear H'
   try clear c3;try clear c3b0;try clear c3b1
   obtain ⟨x5_1,x6_1,rfl,HA,HK1,HO_5,HB⟩:=hrel
   cases gk with
   | zero => exact absurd HA.out (by simp [understudyref04_Encode.l0])
   | succ k1 =>
    have H:=HA.out
    clear HA
    simp only [understudyref04_Encode.l0] at H
    by_cases c7:x6_1 < (l0.length:Int)
    ·rw [if_pos c7] at H
     have c7b0:decide (x6_1 < (l0.length:Int))=true:=decide_eq_true c7
     clear c7
     by_cases c8:0≤x6_1
     ·rw [if_pos c8] at H
      have c8b0:decide (0≤x6_1)=true:=decide_eq_true c8
      clear c8
      by_cases c9:x5_1.length < 140737488355328
      ·rw [if_pos c9] at H
       have LMc9:=Aside0.mk c9
       clear c9
       obtain ⟨y269,hy269⟩:∃ y_:List Int,y_=(x5_1++[((rd_T60 l0 x6_1).f0) % 256]):=⟨_,rfl⟩
       replace H:(if ((rd_T60 l0 x6_1).f0)=1 then ((understudyref02_Encode.f k1 ((rd_T60 l0 x6_1).f1)).bind fun bt272 => ((understudyref04_two.f (bt272.1.length:Int)).bind fun t276 => (if y269.length + t276.length < 140737488355328 then ((some (y269++t276:List Int)).bind fun y279 => (if y279.length + bt272.1.length < 140737488355328 then (understudyref04_Encode.l0 k1 l0 (y279++bt272.1) (wrap64 (x6_1 + 1))) else (none))) else (none)))) else (if ((rd_T60 l0 x6_1).f0)=3 then ((some (([(((rd_T60 l0 x6_1).f2) / 16777216) % 256,(((rd_T60 l0 x6_1).f2) / 65536) % 256,(((rd_T60 l0 x6_1).f2) / 256) % 256,((rd_T60 l0 x6_1).f2) % 256]:List Int):List Int)).bind fun y285 => (if y269.length + y285.length < 140737488355328 then (understudyref04_Encode.l0 k1 l0 (y269++y285) (wrap64 (x6_1 + 1))) else (none))) else (if ((rd_T60 l0 x6_1).f0)=5 then (understudyref04_Encode.l1 k1 l0 y269 x6_1 56 ((rd_T60 l0 x6_1).f0) ((rd_T60 l0 x6_1).f1) ((rd_T60 l0 x6_1).f2) ((rd_T60 l0 x6_1).f3) ((rd_T60 l0 x6_1).f4)) else (if ((rd_T60 l0 x6_1).f0)=7 then ((understudyref04_two.f ((rd_T60 l0 x6_1).f3)).bind fun t294 => (if y269.length + t294.length < 140737488355328 then (understudyref04_Encode.l0 k1 l0 (y269++t294) (wrap64 (x6_1 + 1))) else (none))) else ((understudyref04_two.f ((rd_T60 l0 x6_1).f3)).bind fun t300 => (if y269.length + t300.length < 140737488355328 then ((some (y269++t300:List Int)).bind fun y303 => ((understudyref04_two.f ((rd_T60 l0 x6_1).f4)).bind fun t306 => (if y303.length + t306.length < 140737488355328 then (understudyref04_Encode.l0 k1 l0 (y303++t306) (wrap64 (x6_1 + 1))) else (none)))) else (none)))))))=some (r1,r2):=by first|(rw [hy269];with_reducible exact H)|(have H2_:=(Option.bind_some _ _).symm.trans H;rw [hy269];with_reducible exact H2_)|(have H2_:=(Option.bind_some _ _).symm.trans H;with_reducible exact H2_)|with_reducible exact H|(rw [hy269];exact H)|exact H
       have Ny269:=Aside0.mk hy269
       clear hy269
       by_cases c10:((rd_T60 l0 x6_1).f0)=1
       ·rw [if_pos c10] at H
        have c10b0:(((rd_T60 l0 x6_1).f0)==1)=true:=beq_iff_eq.mpr c10
        have c10b1:(((rd_T60 l0 x6_1).f0) != 1)=false:=bne_eq_false_iff_eq.mpr c10
        clear c10
        replace H:=Option.bind_eq_some_iff.mp H
        obtain ⟨⟨t272,t273⟩,A110,H⟩:=H
        try dsimp only at H
        have A11:=Aside0.mk A110
        clear A110
        replace H:=Option.bind_eq_some_iff.mp H
        obtain ⟨t276,A120,H⟩:=H
        try dsimp only at H
        have A12:=Aside0.mk A120
        clear A120
        by_cases c13:y269.length + t276.length < 140737488355328
        ·rw [if_pos c13] at H
         have LMc13:=Aside0.mk c13
         clear c13
         obtain ⟨y279,hy279⟩:∃ y_:List Int,y_=(y269++t276):=⟨_,rfl⟩
         replace H:(if y279.length + t272.length < 140737488355328 then (understudyref04_Encode.l0 k1 l0 (y279++t272) (wrap64 (x6_1 + 1))) else (none))=some (r1,r2):=by first|(rw [hy279];with_reducible exact H)|(have H2_:=(Option.bind_some _ _).symm.trans H;rw [hy279];with_reducible exact H2_)|(have H2_:=(Option.bind_some _ _).symm.trans H;with_reducible exact H2_)|with_reducible exact H|(rw [hy279];exact H)|exact H
         have Ny279:=Aside0.mk hy279
         clear hy279
         by_cases c14:y279.length + t272.length < 140737488355328
         ·rw [if_pos c14] at H
          have LMc14:=Aside0.mk c14
          clear c14
          obtain ⟨y282,hy282⟩:∃ y_:List Int,y_=(y279++t272):=⟨_,rfl⟩
          replace H:(understudyref04_Encode.l0 k1 l0 y282 (wrap64 (x6_1 + 1)))=some (r1,r2):=by first|(rw [hy282];with_reducible exact H)|(have H2_:=(Option.bind_some _ _).symm.trans H;rw [hy282];with_reducible exact H2_)|(have H2_:=(Option.bind_some _ _).symm.trans H;with_reducible exact H2_)|with_reducible exact H|(rw [hy282];exact H)|exact H
          have Ny282:=Aside0.mk hy282
          clear hy282
          have H':=Aside0.mk H
          clear H
          have p267:0≤(x6_1:Int):=od_
          have q267:x6_1 < (l0.length:Int):=od_
          obtain ⟨ad267,e267,hx267_0,hx267_1,hx267_2,hx267_3,hx267_4⟩:=at_T60 HR0.out x6_1 p267 q267
          cases e267
          replace hx267_0:=hb_ HB hx267_0
          replace hx267_1:=hb_ HB hx267_1
          replace hx267_2:=hb_ HB hx267_2
          replace hx267_3:=hb_ HB hx267_3
          replace hx267_4:=hb_ HB hx267_4
          replace p267:=eq_true p267
          replace q267:=eq_true q267
          go_wp2_with (first|((with_reducible refine gate_dst (N:=7) rfl ?_);refine box_event ?hg (N:=7) ?hd (cs:=#[.int .i64 0,.string (⟨#[]⟩:ByteArray),.int .i64 0,.int .i64 0,.int .i64 0]) (t:=60) ?hr ?_;(case hd => rfl);(case hg => rfl);(case hr => first|(go_simp;done)|(go_simp;rfl));intro gb268 hg w15 hbox hb;have n0_:=Aside0.mk (Kd.R_below (kr_ HO_5.out) hb);have n1_:=Aside0.mk (below_step bl_ hb);have n2_:=Aside0.mk (hbox);have n3_:=Aside0.mk ((by rw [hg];exact (below_size bl_):w.heap.size≤gb268));have n4_:=Aside0.mk ((by rw [hg];exact (below_size bl_):w.heap.size≤gb268));clear HO_5;clear HB;have HO_5:=n0_;have HB:=n1_;have BK268:=n2_;have GW268:=n3_;have GE268:=n4_;clear n0_ n1_ n2_ n3_ n4_;clear hb hbox hg;obtain ⟨hcz16_0,hcz16_1,hcz16_2,hcz16_3,hcz16_4⟩:=blc5_ BK268.out;have hfz16_0:=blk_frozen BK268.out 0;have hfz16_1:=blk_frozen BK268.out 1;have hfz16_2:=blk_frozen BK268.out 2;have hfz16_3:=blk_frozen BK268.out 3;have hfz16_4:=blk_frozen BK268.out 4)|((with_reducible refine gate_store (t:=60) (p:=7) rfl ?_);refine store_event (t:=60) (p:=7) (v:=?vo_w17) (w1:=(((((w15.setCell ⟨gb268,0,none⟩ (.int .i64 ((rd_T60 l0 x6_1).f0))).setCell ⟨gb268,1,none⟩ (.string ((rd_T60 l0 x6_1).f1))).setCell ⟨gb268,2,none⟩ (.int .i64 ((rd_T60 l0 x6_1).f2))).setCell ⟨gb268,3,none⟩ (.int .i64 ((rd_T60 l0 x6_1).f3))).setCell ⟨gb268,4,none⟩ (.int .i64 ((rd_T60 l0 x6_1).f4)))) ?hg ?ho ?hn ?hr ?_;(case ho => rfl);(case hg => rfl);(case hn => rfl);(case hr => first|(go_simp;done)|(go_simp;rfl));intro w17 hw;have n0_:Aside0 (Kd.R (Kd.int .u8) 5 w17 w.heap.size (fun _ => True) u5 x5_1):=⟨(by rw [hw];exact (by (with_reducible repeat (first|apply Kd.R_alloc|apply Kd.R_drewN|apply Kd.R_drew));exact Kd.R_mono (Kd.R_far (p:=⟨gb268,4,none⟩) (Kd.R_far (p:=⟨gb268,3,none⟩) (Kd.R_far (p:=⟨gb268,2,none⟩) (Kd.R_far (p:=⟨gb268,1,none⟩) (Kd.R_far (p:=⟨gb268,0,none⟩) (Kd.R_types HO_5.out BK268.out (by decide)) (fun _ hk => hk.2) (.int .i64 ((rd_T60 l0 x6_1).f0))) (fun _ hk => hk.2) (.string ((rd_T60 l0 x6_1).f1))) (fun _ hk => hk.2) (.int .i64 ((rd_T60 l0 x6_1).f2))) (fun _ hk => hk.2) (.int .i64 ((rd_T60 l0 x6_1).f3))) (fun _ hk => hk.2) (.int .i64 ((rd_T60 l0 x6_1).f4))) (fun _ hk => trivial)))⟩;have n1_:Aside0 (w17.heap[gb268]?=some (.cells #[.int .i64 ((rd_T60 l0 x6_1).f0),.string ((rd_T60 l0 x6_1).f1),.int .i64 ((rd_T60 l0 x6_1).f2),.int .i64 ((rd_T60 l0 x6_1).f3),.int .i64 ((rd_T60 l0 x6_1).f4)] 60 (0,0))):=⟨(by rw [hw];exact (st5_ BK268.out))⟩;have n2_:Aside0 (Below w.heap.size w w17):=⟨(by rw [hw];exact bl_)⟩;clear hw;clear HO_5;clear BK268;clear HB;have HO_5:=n0_;have BK268:=n1_;have HB:=n2_;clear n0_ n1_ n2_;obtain ⟨hcz18_0,hcz18_1,hcz18_2,hcz18_3,hcz18_4⟩:=blc5_ BK268.out;have hfz18_0:=blk_frozen BK268.out 0;have hfz18_1:=blk_frozen BK268.out 1;have hfz18_2:=blk_frozen BK268.out 2;have hfz18_3:=blk_frozen BK268.out 3;have hfz18_4:=blk_frozen BK268.out 4)|((with_reducible refine gate_builtin (b:=.append) (xs:=#[.tmp 29,.tmp 33]) rfl ?_);at_builtin;refine Kd.R_append (Kd.int .u8) (w0:=w) w.heap.size rfl (.tmp 29) (.tmp 33) 27 5 (.int .u8 0) 1 rfl Tryd.underlying27 info5 rfl (by decide) (by omega) u5 x5_1 (((rd_T60 l0 x6_1).f0) % 256) [.int .u8 (((rd_T60 l0 x6_1).f0) % 256)] (fun _ => True) (fun _ => False) rfl rfl ?aP (fun _ hk => hk.elim) ?aF ?aO ?aB ?aS ?aL ?_;(case aP => exact rfl);(case aB => exact bl_);(case aF => exact (fun _ _ => trivial));(case aO => exact (kr_ HO_5.out));(case aS => exact (below_size bl_));(case aL => have:=LMc9.out;omega);intro v270 w19 ho hb hg hat;rw [← Ny269.out] at ho;have n0_:=Aside0.mk (blk_grown (g:=gb268) (o:=.cells #[.int .i64 ((rd_T60 l0 x6_1).f0),.string ((rd_T60 l0 x6_1).f1),.int .i64 ((rd_T60 l0 x6_1).f2),.int .i64 ((rd_T60 l0 x6_1).f3),.int .i64 ((rd_T60 l0 x6_1).f4)] 60 (0,0)) bk_ hg (Kd.R_ne HO_5.out BK268.out (by decide)));have n1_:=Aside0.mk (hb);have n2_:=Aside0.mk (ho);clear BK268;clear HB;clear HO_5;have BK268:=n0_;have HB:=n1_;have HO271:=n2_;clear n0_ n1_ n2_;clear ho hb hg hat;obtain ⟨hcz20_0,hcz20_1,hcz20_2,hcz20_3,hcz20_4⟩:=blc5_ BK268.out;have hfz20_0:=blk_frozen BK268.out 0;have hfz20_1:=blk_frozen BK268.out 1;have hfz20_2:=blk_frozen BK268.out 2;have hfz20_3:=blk_frozen BK268.out 3;have hfz20_4:=blk_frozen BK268.out 4)|(refine callA_ (f:=40) (some 52) Tryd.func40 #[.string ((rd_T60 l0 x6_1).f1)] ?_;(with_reducible refine (understudyref02_Encode.calls k1 ((rd_T60 l0 x6_1).f1) t272 t273 _ A11.out).mono ?_);rintro e w21 ⟨v274,rfl,ho0,hb⟩;refine ⟨_,rfl,?_⟩;have n0_:=Aside0.mk (Kd.R_elder' (kr_ HO271.out) (Kd.R_base ho0) hb);have n1_:=Aside0.mk (Kd.R_lower (Kd.R_new' ho0 (Kd.R_lt (kr_ HO271.out))) (below_size bl_));have n2_:=Aside0.mk (blk_below (g:=gb268) (o:=.cells #[.int .i64 ((rd_T60 l0 x6_1).f0),.string ((rd_T60 l0 x6_1).f1),.int .i64 ((rd_T60 l0 x6_1).f2),.int .i64 ((rd_T60 l0 x6_1).f3),.int .i64 ((rd_T60 l0 x6_1).f4)] 60 (0,0)) bk_ hb);have n3_:=Aside0.mk (below_step bl_ hb);clear HO271;clear BK268;clear HB;have HO271:=n0_;have HO275:=n1_;have BK268:=n2_;have HB:=n3_;clear n0_ n1_ n2_ n3_;(try clear hb);(try clear hb2);(try clear hk);(try clear hi);(try clear ho0);obtain ⟨Ao22,co22,eo22⟩:=Kd.R_slice HO275.out;subst eo22)|(refine callA_ (f:=39) (some 58) Tryd.func39 #[.int .i64 (t272.length:Int)] ?_;(with_reducible refine (understudyref04_two.calls (t272.length:Int) t276 _ A12.out).mono ?_);rintro e w23 ⟨v277,rfl,ho0,hb⟩;refine ⟨_,rfl,?_⟩;have n0_:=Aside0.mk (Kd.R_elder' (kr_ HO271.out) (Kd.R_base ho0) hb);have n1_:=Aside0.mk (Kd.R_elder' (kr_ HO275.out) (Kd.R_base ho0) hb);have n2_:=Aside0.mk (Kd.R_lower (Kd.R_new' (Kd.R_new' ho0 (Kd.R_lt (kr_ HO271.out))) (Kd.R_lt (kr_ HO275.out))) (below_size bl_));have n3_:=Aside0.mk (blk_below (g:=gb268) (o:=.cells #[.int .i64 ((rd_T60 l0 x6_1).f0),.string ((rd_T60 l0 x6_1).f1),.int .i64 ((rd_T60 l0 x6_1).f2),.int .i64 ((rd_T60 l0 x6_1).f3),.int .i64 ((rd_T60 l0 x6_1).f4)] 60 (0,0)) bk_ hb);have n4_:=Aside0.mk (below_step bl_ hb);clear HO271;clear HO275;clear BK268;clear HB;have HO271:=n0_;have HO275:=n1_;have HO278:=n2_;have BK268:=n3_;have HB:=n4_;clear n0_ n1_ n2_ n3_ n4_;(try clear hb);(try clear hb2);(try clear hk);(try clear hi);(try clear ho0);obtain ⟨Ao25,co25,eo25⟩:=Kd.R_slice HO278.out;subst eo25)|((with_reducible refine gate_builtin (b:=.append) (xs:=#[.tmp 55,.tmp 58]) rfl ?_);at_builtin;refine Kd.R_append_rows (Kd.int .u8) (w0:=w) w.heap.size rfl (.tmp 55) (.tmp 58) 27 5 (.int .u8 0) 1 rfl Tryd.underlying27 info5 rfl (by decide) (by omega) v270 y269 t276 _ _ _ (fun k_ => some k_ ≠ (.slice Ao22 t272.length co22:Value).ownBlock∧some k_ ≠ (.slice Ao25 t276.length co25:Value).ownBlock) (fun _ => False) rfl rfl ?aO ?aR (fun _ _ h => h) (fun _ h => h.elim) ?aF ?aB ?aS ?aL ?_;(case aR => exact kc_ (Kd.R_reads' HO278.out).2.2);(case aB => exact bl_);(case aF => exact (fun k_ hk => ⟨Kd.fresh' (Kd.R_lt (kr_ HO275.out)) k_ hk,Kd.fresh' (Kd.R_lt (kr_ HO278.out)) k_ hk⟩));(case aO => exact (by (with_reducible repeat (first|apply Kd.R_alloc|apply Kd.R_drewN|apply Kd.R_drew));exact Kd.R_mono HO271.out (fun _ hk => ⟨hk.1.2,hk.2⟩)));(case aS => exact (below_size bl_));(case aL => have:=LMc13.out;omega);intro v280 w24 ho hb hg hat;rw [← Ny279.out] at ho;have n0_:=Aside0.mk (blk_grown (g:=gb268) (o:=.cells #[.int .i64 ((rd_T60 l0 x6_1).f0),.string ((rd_T60 l0 x6_1).f1),.int .i64 ((rd_T60 l0 x6_1).f2),.int .i64 ((rd_T60 l0 x6_1).f3),.int .i64 ((rd_T60 l0 x6_1).f4)] 60 (0,0)) bk_ hg (Kd.R_ne HO271.out BK268.out (by decide)));have n1_:=Aside0.mk (Kd.R_after (ok:=(fun k_ => some k_ ≠ (.slice Ao25 t276.length co25:Value).ownBlock)) (by (with_reducible repeat (first|apply Kd.R_alloc|apply Kd.R_drewN|apply Kd.R_drew));exact Kd.R_mono HO275.out (fun _ hk => ⟨hk.2,hk.1.2⟩)) hg hat);have n2_:=Aside0.mk (Kd.R_after (ok:=(fun k_ => some k_ ≠ (.slice Ao22 t272.length co22:Value).ownBlock)) (by (with_reducible repeat (first|apply Kd.R_alloc|apply Kd.R_drewN|apply Kd.R_drew));exact Kd.R_mono HO278.out (fun _ hk => ⟨hk.2,hk.1.2⟩)) hg hat);have n3_:=Aside0.mk (hb);have n4_:=Aside0.mk (ho);clear BK268;clear HO275;clear HO278;clear HB;clear HO271;have BK268:=n0_;have HO275:=n1_;have HO278:=n2_;have HB:=n3_;have HO281:=n4_;clear n0_ n1_ n2_ n3_ n4_;clear ho hb hg hat)|((with_reducible refine gate_builtin (b:=.append) (xs:=#[.tmp 60,.tmp 61]) rfl ?_);at_builtin;refine Kd.R_append_rows (Kd.int .u8) (w0:=w) w.heap.size rfl (.tmp 60) (.tmp 61) 27 5 (.int .u8 0) 1 rfl Tryd.underlying27 info5 rfl (by decide) (by omega) v280 y279 t272 _ _ _ (fun k_ => some k_ ≠ (.slice Ao22 t272.length co22:Value).ownBlock∧some k_ ≠ (.slice Ao25 t276.length co25:Value).ownBlock) (fun _ => False) rfl rfl ?aO ?aR (fun _ _ h => h) (fun _ h => h.elim) ?aF ?aB ?aS ?aL ?_;(case aR => exact kc_ (Kd.R_reads' HO275.out).2.2);(case aB => exact bl_);(case aF => exact (fun k_ hk => ⟨Kd.fresh' (Kd.R_lt (kr_ HO275.out)) k_ hk,Kd.fresh' (Kd.R_lt (kr_ HO278.out)) k_ hk⟩));(case aO => exact (kr_ HO281.out));(case aS => exact (below_size bl_));(case aL => have:=LMc14.out;omega);intro v283 w26 ho hb hg hat;rw [← Ny282.out] at ho;have n0_:=Aside0.mk (blk_grown (g:=gb268) (o:=.cells #[.int .i64 ((rd_T60 l0 x6_1).f0),.string ((rd_T60 l0 x6_1).f1),.int .i64 ((rd_T60 l0 x6_1).f2),.int .i64 ((rd_T60 l0 x6_1).f3),.int .i64 ((rd_T60 l0 x6_1).f4)] 60 (0,0)) bk_ hg (Kd.R_ne HO281.out BK268.out (by decide)));have n1_:=Aside0.mk (Kd.R_after (ok:=(fun k_ => some k_ ≠ (.slice Ao25 t276.length co25:Value).ownBlock)) (kr_ HO275.out) hg hat);have n2_:=Aside0.mk (Kd.R_after (ok:=(fun k_ => some k_ ≠ (.slice Ao22 t272.length co22:Value).ownBlock)) (kr_ HO278.out) hg hat);have n3_:=Aside0.mk (hb);have n4_:=Aside0.mk (ho);clear BK268;clear HO275;clear HO278;clear HB;clear HO281;have BK268:=n0_;have HO275:=n1_;have HO278:=n2_;have HB:=n3_;have HO284:=n4_;clear n0_ n1_ n2_ n3_ n4_;clear ho hb hg hat))
          go_roundg k1
          case measure => have:=HK1.out;omega
          case rel => exact ⟨(y282),(wrap64 (x6_1 + 1)),r3_,H',⟨by have:=HK1.out;omega⟩,⟨by (with_reducible repeat (first|apply Kd.R_alloc|apply Kd.R_drewN|apply Kd.R_drew));exact Kd.R_mono HO284.out (fun _ hk => trivial)⟩,⟨bl_⟩⟩
         ·rw [if_neg c14] at H
          exact absurd H (by simp)
        ·rw [if_neg c13] at H
         exact absurd H (by simp)
       ·rw [if_neg c10] at H
        have c10b0:(((rd_T60 l0 x6_1).f0)==1)=false:=beq_eq_false_iff_ne.mpr c10
        have c10b1:(((rd_T60 l0 x6_1).f0) != 1)=true:=bne_iff_ne.mpr c10
        by_cases c27:((rd_T60 l0 x6_1).f0)=3
        ·rw [if_pos c27] at H
         have c27b0:(((rd_T60 l0 x6_1).f0)==3)=true:=beq_iff_eq.mpr c27
         have c27b1:(((rd_T60 l0 x6_1).f0) != 3)=false:=bne_eq_false_iff_eq.mpr c27
         clear c27
         obtain ⟨y285,hy285⟩:∃ y_:List Int,y_=(([(((rd_T60 l0 x6_1).f2) / 16777216) % 256,(((rd_T60 l0 x6_1).f2) / 65536) % 256,(((rd_T60 l0 x6_1).f2) / 256) % 256,((rd_T60 l0 x6_1).f2) % 256]:List Int)):=⟨_,rfl⟩
         replace H:(if y269.length + y285.length < 140737488355328 then (understudyref04_Encode.l0 k1 l0 (y269++y285) (wrap64 (x6_1 + 1))) else (none))=some (r1,r2):=by first|(rw [hy285];with_reducible exact H)|(have H2_:=(Option.bind_some _ _).symm.trans H;rw [hy285];with_reducible exact H2_)|(have H2_:=(Option.bind_some _ _).symm.trans H;with_reducible exact H2_)|with_reducible exact H|(rw [hy285];exact H)|exact H
         have Ny285:=Aside0.mk hy285
         clear hy285
         by_cases c28:y269.length + y285.length < 140737488355328
         ·rw [if_pos c28] at H
          have LMc28:=Aside0.mk c28
          clear c28
          obtain ⟨y288,hy288⟩:∃ y_:List Int,y_=(y269++y285):=⟨_,rfl⟩
          replace H:(understudyref04_Encode.l0 k1 l0 y288 (wrap64 (x6_1 + 1)))=some (r1,r2):=by first|(rw [hy288];with_reducible exact H)|(have H2_:=(Option.bind_some _ _).symm.trans H;rw [hy288];with_reducible exact H2_)|(have H2_:=(Option.bind_some _ _).symm.trans H;with_reducible exact H2_)|with_reducible exact H|(rw [hy288];exact H)|exact H
          have Ny288:=Aside0.mk hy288
          clear hy288
          have H':=Aside0.mk H
          clear H
          have p267:0≤(x6_1:Int):=od_
          have q267:x6_1 < (l0.length:Int):=od_
          obtain ⟨ad267,e267,hx267_0,hx267_1,hx267_2,hx267_3,hx267_4⟩:=at_T60 HR0.out x6_1 p267 q267
          cases e267
          replace hx267_0:=hb_ HB hx267_0
          replace hx267_1:=hb_ HB hx267_1
          replace hx267_2:=hb_ HB hx267_2
          replace hx267_3:=hb_ HB hx267_3
          replace hx267_4:=hb_ HB hx267_4
          replace p267:=eq_true p267
          replace q267:=eq_true q267
          go_wp2_with (first|((with_reducible refine gate_dst (N:=7) rfl ?_);refine box_event ?hg (N:=7) ?hd (cs:=#[.int .i64 0,.string (⟨#[]⟩:ByteArray),.int .i64 0,.int .i64 0,.int .i64 0]) (t:=60) ?hr ?_;(case hd => rfl);(case hg => rfl);(case hr => first|(go_simp;done)|(go_simp;rfl));intro gb268 hg w29 hbox hb;have n0_:=Aside0.mk (Kd.R_below (kr_ HO_5.out) hb);have n1_:=Aside0.mk (below_step bl_ hb);have n2_:=Aside0.mk (hbox);have n3_:=Aside0.mk ((by rw [hg];exact (below_size bl_):w.heap.size≤gb268));have n4_:=Aside0.mk ((by rw [hg];exact (below_size bl_):w.heap.size≤gb268));clear HO_5;clear HB;have HO_5:=n0_;have HB:=n1_;have BK268:=n2_;have GW268:=n3_;have GE268:=n4_;clear n0_ n1_ n2_ n3_ n4_;clear hb hbox hg;obtain ⟨hcz30_0,hcz30_1,hcz30_2,hcz30_3,hcz30_4⟩:=blc5_ BK268.out;have hfz30_0:=blk_frozen BK268.out 0;have hfz30_1:=blk_frozen BK268.out 1;have hfz30_2:=blk_frozen BK268.out 2;have hfz30_3:=blk_frozen BK268.out 3;have hfz30_4:=blk_frozen BK268.out 4)|((with_reducible refine gate_store (t:=60) (p:=7) rfl ?_);refine store_event (t:=60) (p:=7) (v:=?vo_w31) (w1:=(((((w29.setCell ⟨gb268,0,none⟩ (.int .i64 ((rd_T60 l0 x6_1).f0))).setCell ⟨gb268,1,none⟩ (.string ((rd_T60 l0 x6_1).f1))).setCell ⟨gb268,2,none⟩ (.int .i64 ((rd_T60 l0 x6_1).f2))).setCell ⟨gb268,3,none⟩ (.int .i64 ((rd_T60 l0 x6_1).f3))).setCell ⟨gb268,4,none⟩ (.int .i64 ((rd_T60 l0 x6_1).f4)))) ?hg ?ho ?hn ?hr ?_;(case ho => rfl);(case hg => rfl);(case hn => rfl);(case hr => first|(go_simp;done)|(go_simp;rfl));intro w31 hw;have n0_:Aside0 (Kd.R (Kd.int .u8) 5 w31 w.heap.size (fun _ => True) u5 x5_1):=⟨(by rw [hw];exact (by (with_reducible repeat (first|apply Kd.R_alloc|apply Kd.R_drewN|apply Kd.R_drew));exact Kd.R_mono (Kd.R_far (p:=⟨gb268,4,none⟩) (Kd.R_far (p:=⟨gb268,3,none⟩) (Kd.R_far (p:=⟨gb268,2,none⟩) (Kd.R_far (p:=⟨gb268,1,none⟩) (Kd.R_far (p:=⟨gb268,0,none⟩) (Kd.R_types HO_5.out BK268.out (by decide)) (fun _ hk => hk.2) (.int .i64 ((rd_T60 l0 x6_1).f0))) (fun _ hk => hk.2) (.string ((rd_T60 l0 x6_1).f1))) (fun _ hk => hk.2) (.int .i64 ((rd_T60 l0 x6_1).f2))) (fun _ hk => hk.2) (.int .i64 ((rd_T60 l0 x6_1).f3))) (fun _ hk => hk.2) (.int .i64 ((rd_T60 l0 x6_1).f4))) (fun _ hk => trivial)))⟩;have n1_:Aside0 (w31.heap[gb268]?=some (.cells #[.int .i64 ((rd_T60 l0 x6_1).f0),.string ((rd_T60 l0 x6_1).f1),.int .i64 ((rd_T60 l0 x6_1).f2),.int .i64 ((rd_T60 l0 x6_1).f3),.int .i64 ((rd_T60 l0 x6_1).f4)] 60 (0,0))):=⟨(by rw [hw];exact (st5_ BK268.out))⟩;have n2_:Aside0 (Below w.heap.size w w31):=⟨(by rw [hw];exact bl_)⟩;clear hw;clear HO_5;clear BK268;clear HB;have HO_5:=n0_;have BK268:=n1_;have HB:=n2_;clear n0_ n1_ n2_;obtain ⟨hcz32_0,hcz32_1,hcz32_2,hcz32_3,hcz32_4⟩:=blc5_ BK268.out;have hfz32_0:=blk_frozen BK268.out 0;have hfz32_1:=blk_frozen BK268.out 1;have hfz32_2:=blk_frozen BK268.out 2;have hfz32_3:=blk_frozen BK268.out 3;have hfz32_4:=blk_frozen BK268.out 4)|((with_reducible refine gate_builtin (b:=.append) (xs:=#[.tmp 29,.tmp 33]) rfl ?_);at_builtin;refine Kd.R_append (Kd.int .u8) (w0:=w) w.heap.size rfl (.tmp 29) (.tmp 33) 27 5 (.int .u8 0) 1 rfl Tryd.underlying27 info5 rfl (by decide) (by omega) u5 x5_1 (((rd_T60 l0 x6_1).f0) % 256) [.int .u8 (((rd_T60 l0 x6_1).f0) % 256)] (fun _ => True) (fun _ => False) rfl rfl ?aP (fun _ hk => hk.elim) ?aF ?aO ?aB ?aS ?aL ?_;(case aP => exact rfl);(case aB => exact bl_);(case aF => exact (fun _ _ => trivial));(case aO => exact (kr_ HO_5.out));(case aS => exact (below_size bl_));(case aL => have:=LMc9.out;omega);intro v270 w33 ho hb hg hat;rw [← Ny269.out] at ho;have n0_:=Aside0.mk (blk_grown (g:=gb268) (o:=.cells #[.int .i64 ((rd_T60 l0 x6_1).f0),.string ((rd_T60 l0 x6_1).f1),.int .i64 ((rd_T60 l0 x6_1).f2),.int .i64 ((rd_T60 l0 x6_1).f3),.int .i64 ((rd_T60 l0 x6_1).f4)] 60 (0,0)) bk_ hg (Kd.R_ne HO_5.out BK268.out (by decide)));have n1_:=Aside0.mk (hb);have n2_:=Aside0.mk (ho);clear BK268;clear HB;clear HO_5;have BK268:=n0_;have HB:=n1_;have HO271:=n2_;clear n0_ n1_ n2_;clear ho hb hg hat;obtain ⟨hcz34_0,hcz34_1,hcz34_2,hcz34_3,hcz34_4⟩:=blc5_ BK268.out;have hfz34_0:=blk_frozen BK268.out 0;have hfz34_1:=blk_frozen BK268.out 1;have hfz34_2:=blk_frozen BK268.out 2;have hfz34_3:=blk_frozen BK268.out 3;have hfz34_4:=blk_frozen BK268.out 4)|((with_reducible refine gate_dst (N:=81) rfl ?_);refine Kd.R_lit (Kd.int .u8) _ 5 ?hg (N:=81) ?hd (xs:=([(((rd_T60 l0 x6_1).f2) / 16777216) % 256,(((rd_T60 l0 x6_1).f2) / 65536) % 256,(((rd_T60 l0 x6_1).f2) / 256) % 256,((rd_T60 l0 x6_1).f2) % 256]:List Int)) (inner:=[.int .u8 ((((rd_T60 l0 x6_1).f2) / 16777216) % 256),.int .u8 ((((rd_T60 l0 x6_1).f2) / 65536) % 256),.int .u8 ((((rd_T60 l0 x6_1).f2) / 256) % 256),.int .u8 (((rd_T60 l0 x6_1).f2) % 256)]) (ok:=fun _ => True) (okp:=fun _ => True) ?hr ?hp (fun _ hk => hk) trivial (Below.refl _ _) (Nat.le_refl _) (by simp) ?_;(case hd => rfl);(case hg => rfl);(case hr => first|(go_simp;done)|(go_simp;rfl));(case hp => exact (Reps.one (show Kd.M (Kd.int .u8) _ _ _ ((((rd_T60 l0 x6_1).f2) / 16777216) % 256) [.int .u8 ((((rd_T60 l0 x6_1).f2) / 16777216) % 256)] from rfl) (Reps.one (show Kd.M (Kd.int .u8) _ _ _ ((((rd_T60 l0 x6_1).f2) / 65536) % 256) [.int .u8 ((((rd_T60 l0 x6_1).f2) / 65536) % 256)] from rfl) (Reps.one (show Kd.M (Kd.int .u8) _ _ _ ((((rd_T60 l0 x6_1).f2) / 256) % 256) [.int .u8 ((((rd_T60 l0 x6_1).f2) / 256) % 256)] from rfl) (Reps.one (show Kd.M (Kd.int .u8) _ _ _ (((rd_T60 l0 x6_1).f2) % 256) [.int .u8 (((rd_T60 l0 x6_1).f2) % 256)] from rfl) (Reps.none _ _))))));intro v286 w35 ho36 hb hg_ hnew_;clear hg_ hnew_;(first|rw [← Ny285.out] at ho36|(simp only [Int.reduceToNat] at ho36;rw [← Ny285.out] at ho36));have n0_:=Aside0.mk (Kd.R_elder' (kr_ HO271.out) (Kd.R_base ho36) hb);have n1_:=Aside0.mk (Kd.R_lower (Kd.R_new' ho36 (Kd.R_lt (kr_ HO271.out))) (below_size bl_));have n2_:=Aside0.mk (blk_below (g:=gb268) (o:=.cells #[.int .i64 ((rd_T60 l0 x6_1).f0),.string ((rd_T60 l0 x6_1).f1),.int .i64 ((rd_T60 l0 x6_1).f2),.int .i64 ((rd_T60 l0 x6_1).f3),.int .i64 ((rd_T60 l0 x6_1).f4)] 60 (0,0)) bk_ hb);have n3_:=Aside0.mk (below_step bl_ hb);clear HO271;clear BK268;clear HB;have HO271:=n0_;have HO287:=n1_;have BK268:=n2_;have HB:=n3_;clear n0_ n1_ n2_ n3_;clear hb ho36;obtain ⟨Ao38,co38,eo38⟩:=Kd.R_slice HO287.out;subst eo38)|((with_reducible refine gate_builtin (b:=.append) (xs:=#[.tmp 65,.tmp 81]) rfl ?_);at_builtin;refine Kd.R_append_rows (Kd.int .u8) (w0:=w) w.heap.size rfl (.tmp 65) (.tmp 81) 27 5 (.int .u8 0) 1 rfl Tryd.underlying27 info5 rfl (by decide) (by omega) v270 y269 y285 _ _ _ (fun k_ => some k_ ≠ (.slice Ao38 y285.length co38:Value).ownBlock) (fun _ => False) rfl rfl ?aO ?aR (fun _ _ h => h) (fun _ h => h.elim) ?aF ?aB ?aS ?aL ?_;(case aR => exact kc_ (Kd.R_reads' HO287.out).2.2);(case aB => exact bl_);(case aF => exact (fun k_ hk => Kd.fresh' (Kd.R_lt (kr_ HO287.out)) k_ hk));(case aO => exact (by (with_reducible repeat (first|apply Kd.R_alloc|apply Kd.R_drewN|apply Kd.R_drew));exact Kd.R_mono HO271.out (fun _ hk => hk.2)));(case aS => exact (below_size bl_));(case aL => have:=LMc28.out;omega);intro v289 w37 ho hb hg hat;rw [← Ny288.out] at ho;have n0_:=Aside0.mk (blk_grown (g:=gb268) (o:=.cells #[.int .i64 ((rd_T60 l0 x6_1).f0),.string ((rd_T60 l0 x6_1).f1),.int .i64 ((rd_T60 l0 x6_1).f2),.int .i64 ((rd_T60 l0 x6_1).f3),.int .i64 ((rd_T60 l0 x6_1).f4)] 60 (0,0)) bk_ hg (Kd.R_ne HO271.out BK268.out (by decide)));have n1_:=Aside0.mk (Kd.R_after (ok:=(fun _ => True)) (kr_ HO287.out) hg hat);have n2_:=Aside0.mk (hb);have n3_:=Aside0.mk (ho);clear BK268;clear HO287;clear HB;clear HO271;have BK268:=n0_;have HO287:=n1_;have HB:=n2_;have HO290:=n3_;clear n0_ n1_ n2_ n3_;clear ho hb hg hat))
          go_roundg k1
          case measure => have:=HK1.out;omega
          case rel => exact ⟨(y288),(wrap64 (x6_1 + 1)),r3_,H',⟨by have:=HK1.out;omega⟩,⟨by (with_reducible repeat (first|apply Kd.R_alloc|apply Kd.R_drewN|apply Kd.R_drew));exact Kd.R_mono HO290.out (fun _ hk => trivial)⟩,⟨bl_⟩⟩
         ·rw [if_neg c28] at H
          exact absurd H (by simp)
        ·rw [if_neg c27] at H
         have c27b0:(((rd_T60 l0 x6_1).f0)==3)=false:=beq_eq_false_iff_ne.mpr c27
         have c27b1:(((rd_T60 l0 x6_1).f0) != 3)=true:=bne_iff_ne.mpr c27
         by_cases c39:((rd_T60 l0 x6_1).f0)=5
         ·rw [if_pos c39] at H
          have c39b0:(((rd_T60 l0 x6_1).f0)==5)=true:=beq_iff_eq.mpr c39
          have c39b1:(((rd_T60 l0 x6_1).f0) != 5)=false:=bne_eq_false_iff_eq.mpr c39
          clear c39
          have H':=Aside0.mk H
          clear H
          have p267:0≤(x6_1:Int):=od_
          have q267:x6_1 < (l0.length:Int):=od_
          obtain ⟨ad267,e267,hx267_0,hx267_1,hx267_2,hx267_3,hx267_4⟩:=at_T60 HR0.out x6_1 p267 q267
          cases e267
          replace hx267_0:=hb_ HB hx267_0
          replace hx267_1:=hb_ HB hx267_1
          replace hx267_2:=hb_ HB hx267_2
          replace hx267_3:=hb_ HB hx267_3
          replace hx267_4:=hb_ HB hx267_4
          replace p267:=eq_true p267
          replace q267:=eq_true q267
          go_wp2_with (first|((with_reducible refine gate_dst (N:=7) rfl ?_);refine box_event ?hg (N:=7) ?hd (cs:=#[.int .i64 0,.string (⟨#[]⟩:ByteArray),.int .i64 0,.int .i64 0,.int .i64 0]) (t:=60) ?hr ?_;(case hd => rfl);(case hg => rfl);(case hr => first|(go_simp;done)|(go_simp;rfl));intro gb268 hg w40 hbox hb;have n0_:=Aside0.mk (Kd.R_below (kr_ HO_5.out) hb);have n1_:=Aside0.mk (below_step bl_ hb);have n2_:=Aside0.mk (hbox);have n3_:=Aside0.mk ((by rw [hg];exact (below_size bl_):w.heap.size≤gb268));have n4_:=Aside0.mk ((by rw [hg];exact (below_size bl_):w.heap.size≤gb268));clear HO_5;clear HB;have HO_5:=n0_;have HB:=n1_;have BK268:=n2_;have GW268:=n3_;have GE268:=n4_;clear n0_ n1_ n2_ n3_ n4_;clear hb hbox hg;obtain ⟨hcz41_0,hcz41_1,hcz41_2,hcz41_3,hcz41_4⟩:=blc5_ BK268.out;have hfz41_0:=blk_frozen BK268.out 0;have hfz41_1:=blk_frozen BK268.out 1;have hfz41_2:=blk_frozen BK268.out 2;have hfz41_3:=blk_frozen BK268.out 3;have hfz41_4:=blk_frozen BK268.out 4)|((with_reducible refine gate_store (t:=60) (p:=7) rfl ?_);refine store_event (t:=60) (p:=7) (v:=?vo_w42) (w1:=(((((w40.setCell ⟨gb268,0,none⟩ (.int .i64 ((rd_T60 l0 x6_1).f0))).setCell ⟨gb268,1,none⟩ (.string ((rd_T60 l0 x6_1).f1))).setCell ⟨gb268,2,none⟩ (.int .i64 ((rd_T60 l0 x6_1).f2))).setCell ⟨gb268,3,none⟩ (.int .i64 ((rd_T60 l0 x6_1).f3))).setCell ⟨gb268,4,none⟩ (.int .i64 ((rd_T60 l0 x6_1).f4)))) ?hg ?ho ?hn ?hr ?_;(case ho => rfl);(case hg => rfl);(case hn => rfl);(case hr => first|(go_simp;done)|(go_simp;rfl));intro w42 hw;have n0_:Aside0 (Kd.R (Kd.int .u8) 5 w42 w.heap.size (fun _ => True) u5 x5_1):=⟨(by rw [hw];exact (by (with_reducible repeat (first|apply Kd.R_alloc|apply Kd.R_drewN|apply Kd.R_drew));exact Kd.R_mono (Kd.R_far (p:=⟨gb268,4,none⟩) (Kd.R_far (p:=⟨gb268,3,none⟩) (Kd.R_far (p:=⟨gb268,2,none⟩) (Kd.R_far (p:=⟨gb268,1,none⟩) (Kd.R_far (p:=⟨gb268,0,none⟩) (Kd.R_types HO_5.out BK268.out (by decide)) (fun _ hk => hk.2) (.int .i64 ((rd_T60 l0 x6_1).f0))) (fun _ hk => hk.2) (.string ((rd_T60 l0 x6_1).f1))) (fun _ hk => hk.2) (.int .i64 ((rd_T60 l0 x6_1).f2))) (fun _ hk => hk.2) (.int .i64 ((rd_T60 l0 x6_1).f3))) (fun _ hk => hk.2) (.int .i64 ((rd_T60 l0 x6_1).f4))) (fun _ hk => trivial)))⟩;have n1_:Aside0 (w42.heap[gb268]?=some (.cells #[.int .i64 ((rd_T60 l0 x6_1).f0),.string ((rd_T60 l0 x6_1).f1),.int .i64 ((rd_T60 l0 x6_1).f2),.int .i64 ((rd_T60 l0 x6_1).f3),.int .i64 ((rd_T60 l0 x6_1).f4)] 60 (0,0))):=⟨(by rw [hw];exact (st5_ BK268.out))⟩;have n2_:Aside0 (Below w.heap.size w w42):=⟨(by rw [hw];exact bl_)⟩;clear hw;clear HO_5;clear BK268;clear HB;have HO_5:=n0_;have BK268:=n1_;have HB:=n2_;clear n0_ n1_ n2_;obtain ⟨hcz43_0,hcz43_1,hcz43_2,hcz43_3,hcz43_4⟩:=blc5_ BK268.out;have hfz43_0:=blk_frozen BK268.out 0;have hfz43_1:=blk_frozen BK268.out 1;have hfz43_2:=blk_frozen BK268.out 2;have hfz43_3:=blk_frozen BK268.out 3;have hfz43_4:=blk_frozen BK268.out 4)|((with_reducible refine gate_builtin (b:=.append) (xs:=#[.tmp 29,.tmp 33]) rfl ?_);at_builtin;refine Kd.R_append (Kd.int .u8) (w0:=w) w.heap.size rfl (.tmp 29) (.tmp 33) 27 5 (.int .u8 0) 1 rfl Tryd.underlying27 info5 rfl (by decide) (by omega) u5 x5_1 (((rd_T60 l0 x6_1).f0) % 256) [.int .u8 (((rd_T60 l0 x6_1).f0) % 256)] (fun _ => True) (fun _ => False) rfl rfl ?aP (fun _ hk => hk.elim) ?aF ?aO ?aB ?aS ?aL ?_;(case aP => exact rfl);(case aB => exact bl_);(case aF => exact (fun _ _ => trivial));(case aO => exact (kr_ HO_5.out));(case aS => exact (below_size bl_));(case aL => have:=LMc9.out;omega);intro v270 w44 ho hb hg hat;rw [← Ny269.out] at ho;have n0_:=Aside0.mk (blk_grown (g:=gb268) (o:=.cells #[.int .i64 ((rd_T60 l0 x6_1).f0),.string ((rd_T60 l0 x6_1).f1),.int .i64 ((rd_T60 l0 x6_1).f2),.int .i64 ((rd_T60 l0 x6_1).f3),.int .i64 ((rd_T60 l0 x6_1).f4)] 60 (0,0)) bk_ hg (Kd.R_ne HO_5.out BK268.out (by decide)));have n1_:=Aside0.mk (hb);have n2_:=Aside0.mk (ho);clear BK268;clear HB;clear HO_5;have BK268:=n0_;have HB:=n1_;have HO271:=n2_;clear n0_ n1_ n2_;clear ho hb hg hat;obtain ⟨hcz45_0,hcz45_1,hcz45_2,hcz45_3,hcz45_4⟩:=blc5_ BK268.out;have hfz45_0:=blk_frozen BK268.out 0;have hfz45_1:=blk_frozen BK268.out 1;have hfz45_2:=blk_frozen BK268.out 2;have hfz45_3:=blk_frozen BK268.out 3;have hfz45_4:=blk_frozen BK268.out 4))
          go_loopg [5,10] k1 (fun kq v5 v10 w' => ∃ (x5_2:List Int) (x10_2:Int),v10=.int .i64 x10_2∧Aside0 (understudyref04_Encode.l1 kq l0 x5_2 x6_1 x10_2 ((rd_T60 l0 x6_1).f0) ((rd_T60 l0 x6_1).f1) ((rd_T60 l0 x6_1).f2) ((rd_T60 l0 x6_1).f3) ((rd_T60 l0 x6_1).f4)=some (r1,r2))∧Aside0 (kq≤k1)∧Aside0 (Kd.R (Kd.int .u8) 5 w' w.heap.size (fun _ => True) v5 x5_2)∧Aside0 (w'.heap[gb268]?=some (.cells #[.int .i64 ((rd_T60 l0 x6_1).f0),.string ((rd_T60 l0 x6_1).f1),.int .i64 ((rd_T60 l0 x6_1).f2),.int .i64 ((rd_T60 l0 x6_1).f3),.int .i64 ((rd_T60 l0 x6_1).f4)] 60 (0,0)))∧Aside0 (Below w.heap.size w w'))
          case atStart => exact ⟨(y269),(56),r3_,H',⟨Nat.le_refl _⟩,⟨kr_ HO271.out⟩,⟨bk_⟩,⟨bl_⟩⟩
          case round =>
           clear H'
           try clear c7;try clear c7b0;try clear c8;try clear c8b0;try clear c9;try clear c10;try clear c10b0;try clear c10b1;try clear c27;try clear c27b0;try clear c27b1;try clear c39;try clear c39b0;try clear c39b1;try clear hcz41_0;try clear hcz41_1;try clear hcz41_2;try clear hcz41_3;try clear hcz41_4;try clear hcz43_0;try clear hcz43_1;try clear hcz43_2;try clear hcz43_3;try clear hcz43_4;try clear hcz45_0;try clear hcz45_1;try clear hcz45_2;try clear hcz45_3;try clear hcz45_4;try clear hfz41_0;try clear hfz41_1;try clear hfz41_2;try clear hfz41_3;try clear hfz41_4;try clear hfz43_0;try clear hfz43_1;try clear hfz43_2;try clear hfz43_3;try clear hfz43_4;try clear hfz45_0;try clear hfz45_1;try clear hfz45_2;try clear hfz45_3;try clear hfz45_4;try clear hx267_0;try clear hx267_1;try clear hx267_2;try clear hx267_3;try clear hx267_4;try clear p267;try clear q267
           obtain ⟨x5_2,x10_2,rfl,HA,HK2,HO_5,BK268,HB⟩:=hrel
           cases gk with
           | zero => exact absurd HA.out (by simp [understudyref04_Encode.l1])
           | succ k2 =>
            have H:=HA.out
            clear HA
            simp only [understudyref04_Encode.l1] at H
            by_cases c46:x10_2 ≥ 0
            ·rw [if_pos c46] at H
             have c46b0:decide (0≤x10_2)=true:=decide_eq_true c46
             clear c46
             by_cases c47:0≤x10_2
             ·rw [if_pos c47] at H
              have c47b0:=eq_true c47
              have c47b1:decide (0≤x10_2)=true:=decide_eq_true c47
              clear c47
              obtain ⟨ji48,hji48⟩:∃ j_:Int,(shr .i64 ((rd_T60 l0 x6_1).f2) x10_2)=j_:=⟨_,rfl⟩
              replace H:(if x5_2.length < 140737488355328 then (understudyref04_Encode.l1 k2 l0 (x5_2++[(ji48) % 256]) x6_1 (wrap64 (x10_2 - 8)) ((rd_T60 l0 x6_1).f0) ((rd_T60 l0 x6_1).f1) ((rd_T60 l0 x6_1).f2) ((rd_T60 l0 x6_1).f3) ((rd_T60 l0 x6_1).f4)) else (none))=some (r1,r2):=by first|(rw [hji48] at H;exact H)|(simp only [hji48] at H ⊢;exact H)
              have hji48_:(((rd_T60 l0 x6_1).f2) / 2 ^ min x10_2.toNat 64)=ji48:=hji48
              have hji48z:x10_2≤64→(((rd_T60 l0 x6_1).f2) / 2 ^ x10_2.toNat)=ji48:=shr_small hji48
              by_cases c49:x5_2.length < 140737488355328
              ·rw [if_pos c49] at H
               have LMc49:=Aside0.mk c49
               clear c49
               obtain ⟨y291,hy291⟩:∃ y_:List Int,y_=(x5_2++[(ji48) % 256]):=⟨_,rfl⟩
               replace H:(understudyref04_Encode.l1 k2 l0 y291 x6_1 (wrap64 (x10_2 - 8)) ((rd_T60 l0 x6_1).f0) ((rd_T60 l0 x6_1).f1) ((rd_T60 l0 x6_1).f2) ((rd_T60 l0 x6_1).f3) ((rd_T60 l0 x6_1).f4))=some (r1,r2):=by first|(rw [hy291];with_reducible exact H)|(have H2_:=(Option.bind_some _ _).symm.trans H;rw [hy291];with_reducible exact H2_)|(have H2_:=(Option.bind_some _ _).symm.trans H;with_reducible exact H2_)|with_reducible exact H|(rw [hy291];exact H)|exact H
               have Ny291:=Aside0.mk hy291
               clear hy291
               have H':=Aside0.mk H
               clear H
               obtain ⟨hcz50_0,hcz50_1,hcz50_2,hcz50_3,hcz50_4,hfz50_0,hfz50_1,hfz50_2,hfz50_3,hfz50_4⟩:=blk5_ BK268.out
               go_wp2_with (first|((with_reducible refine gate_builtin (b:=.append) (xs:=#[.tmp 89,.tmp 95]) rfl ?_);at_builtin;refine Kd.R_append (Kd.int .u8) (w0:=w) w.heap.size rfl (.tmp 89) (.tmp 95) 27 5 (.int .u8 0) 1 rfl Tryd.underlying27 info5 rfl (by decide) (by omega) u5 x5_2 ((ji48) % 256) [.int .u8 ((ji48) % 256)] (fun _ => True) (fun _ => False) rfl rfl ?aP (fun _ hk => hk.elim) ?aF ?aO ?aB ?aS ?aL ?_;(case aP => exact rfl);(case aB => exact bl_);(case aF => exact (fun _ _ => trivial));(case aO => exact (kr_ HO_5.out));(case aS => exact (below_size bl_));(case aL => have:=LMc49.out;omega);intro v292 w51 ho hb hg hat;rw [← Ny291.out] at ho;have n0_:=Aside0.mk (blk_grown (g:=gb268) (o:=.cells #[.int .i64 ((rd_T60 l0 x6_1).f0),.string ((rd_T60 l0 x6_1).f1),.int .i64 ((rd_T60 l0 x6_1).f2),.int .i64 ((rd_T60 l0 x6_1).f3),.int .i64 ((rd_T60 l0 x6_1).f4)] 60 (0,0)) bk_ hg (Kd.R_ne HO_5.out BK268.out (by decide)));have n1_:=Aside0.mk (hb);have n2_:=Aside0.mk (ho);clear BK268;clear HB;clear HO_5;have BK268:=n0_;have HB:=n1_;have HO293:=n2_;clear n0_ n1_ n2_;clear ho hb hg hat))
               go_roundg k2
               case measure => have:=HK1.out;have:=HK2.out;omega
               case rel => exact ⟨(y291),(wrap64 (x10_2 - 8)),r3_,H',⟨by have:=HK1.out;have:=HK2.out;omega⟩,⟨kr_ HO293.out⟩,⟨bk_⟩,⟨bl_⟩⟩
              ·rw [if_neg c49] at H
               exact absurd H (by simp)
             ·rw [if_neg c47] at H
              exact absurd H (by simp)
            ·rw [if_neg c46] at H
             have c46b0:decide (0≤x10_2)=false:=decide_eq_false c46
             clear c46
             have H':=Aside0.mk H
             clear H
             go_wp2
             go_roundg k2
             case measure => have:=HK1.out;have:=HK2.out;omega
             case rel => exact ⟨(x5_2),(wrap64 (x6_1 + 1)),r3_,H',⟨by have:=HK1.out;have:=HK2.out;omega⟩,⟨kr_ HO_5.out⟩,⟨bl_⟩⟩
         ·rw [if_neg c39] at H
          have c39b0:(((rd_T60 l0 x6_1).f0)==5)=false:=beq_eq_false_iff_ne.mpr c39
          have c39b1:(((rd_T60 l0 x6_1).f0) != 5)=true:=bne_iff_ne.mpr c39
          by_cases c52:((rd_T60 l0 x6_1).f0)=7
          ·rw [if_pos c52] at H
           have c52b0:(((rd_T60 l0 x6_1).f0)==7)=true:=beq_iff_eq.mpr c52
           have c52b1:(((rd_T60 l0 x6_1).f0) != 7)=false:=bne_eq_false_iff_eq.mpr c52
           clear c52
           replace H:=Option.bind_eq_some_iff.mp H
           obtain ⟨t294,A530,H⟩:=H
           try dsimp only at H
           have A53:=Aside0.mk A530
           clear A530
           by_cases c54:y269.length + t294.length < 140737488355328
           ·rw [if_pos c54] at H
            have LMc54:=Aside0.mk c54
            clear c54
            obtain ⟨y297,hy297⟩:∃ y_:List Int,y_=(y269++t294):=⟨_,rfl⟩
            replace H:(understudyref04_Encode.l0 k1 l0 y297 (wrap64 (x6_1 + 1)))=some (r1,r2):=by first|(rw [hy297];with_reducible exact H)|(have H2_:=(Option.bind_some _ _).symm.trans H;rw [hy297];with_reducible exact H2_)|(have H2_:=(Option.bind_some _ _).symm.trans H;with_reducible exact H2_)|with_reducible exact H|(rw [hy297];exact H)|exact H
            have Ny297:=Aside0.mk hy297
            clear hy297
            have H':=Aside0.mk H
            clear H
            have p267:0≤(x6_1:Int):=od_
            have q267:x6_1 < (l0.length:Int):=od_
            obtain ⟨ad267,e267,hx267_0,hx267_1,hx267_2,hx267_3,hx267_4⟩:=at_T60 HR0.out x6_1 p267 q267
            cases e267
            replace hx267_0:=hb_ HB hx267_0
            replace hx267_1:=hb_ HB hx267_1
            replace hx267_2:=hb_ HB hx267_2
            replace hx267_3:=hb_ HB hx267_3
            replace hx267_4:=hb_ HB hx267_4
            replace p267:=eq_true p267
            replace q267:=eq_true q267
            go_wp2_with (first|((with_reducible refine gate_dst (N:=7) rfl ?_);refine box_event ?hg (N:=7) ?hd (cs:=#[.int .i64 0,.string (⟨#[]⟩:ByteArray),.int .i64 0,.int .i64 0,.int .i64 0]) (t:=60) ?hr ?_;(case hd => rfl);(case hg => rfl);(case hr => first|(go_simp;done)|(go_simp;rfl));intro gb268 hg w55 hbox hb;have n0_:=Aside0.mk (Kd.R_below (kr_ HO_5.out) hb);have n1_:=Aside0.mk (below_step bl_ hb);have n2_:=Aside0.mk (hbox);have n3_:=Aside0.mk ((by rw [hg];exact (below_size bl_):w.heap.size≤gb268));have n4_:=Aside0.mk ((by rw [hg];exact (below_size bl_):w.heap.size≤gb268));clear HO_5;clear HB;have HO_5:=n0_;have HB:=n1_;have BK268:=n2_;have GW268:=n3_;have GE268:=n4_;clear n0_ n1_ n2_ n3_ n4_;clear hb hbox hg;obtain ⟨hcz56_0,hcz56_1,hcz56_2,hcz56_3,hcz56_4⟩:=blc5_ BK268.out;have hfz56_0:=blk_frozen BK268.out 0;have hfz56_1:=blk_frozen BK268.out 1;have hfz56_2:=blk_frozen BK268.out 2;have hfz56_3:=blk_frozen BK268.out 3;have hfz56_4:=blk_frozen BK268.out 4)|((with_reducible refine gate_store (t:=60) (p:=7) rfl ?_);refine store_event (t:=60) (p:=7) (v:=?vo_w57) (w1:=(((((w55.setCell ⟨gb268,0,none⟩ (.int .i64 ((rd_T60 l0 x6_1).f0))).setCell ⟨gb268,1,none⟩ (.string ((rd_T60 l0 x6_1).f1))).setCell ⟨gb268,2,none⟩ (.int .i64 ((rd_T60 l0 x6_1).f2))).setCell ⟨gb268,3,none⟩ (.int .i64 ((rd_T60 l0 x6_1).f3))).setCell ⟨gb268,4,none⟩ (.int .i64 ((rd_T60 l0 x6_1).f4)))) ?hg ?ho ?hn ?hr ?_;(case ho => rfl);(case hg => rfl);(case hn => rfl);(case hr => first|(go_simp;done)|(go_simp;rfl));intro w57 hw;have n0_:Aside0 (Kd.R (Kd.int .u8) 5 w57 w.heap.size (fun _ => True) u5 x5_1):=⟨(by rw [hw];exact (by (with_reducible repeat (first|apply Kd.R_alloc|apply Kd.R_drewN|apply Kd.R_drew));exact Kd.R_mono (Kd.R_far (p:=⟨gb268,4,none⟩) (Kd.R_far (p:=⟨gb268,3,none⟩) (Kd.R_far (p:=⟨gb268,2,none⟩) (Kd.R_far (p:=⟨gb268,1,none⟩) (Kd.R_far (p:=⟨gb268,0,none⟩) (Kd.R_types HO_5.out BK268.out (by decide)) (fun _ hk => hk.2) (.int .i64 ((rd_T60 l0 x6_1).f0))) (fun _ hk => hk.2) (.string ((rd_T60 l0 x6_1).f1))) (fun _ hk => hk.2) (.int .i64 ((rd_T60 l0 x6_1).f2))) (fun _ hk => hk.2) (.int .i64 ((rd_T60 l0 x6_1).f3))) (fun _ hk => hk.2) (.int .i64 ((rd_T60 l0 x6_1).f4))) (fun _ hk => trivial)))⟩;have n1_:Aside0 (w57.heap[gb268]?=some (.cells #[.int .i64 ((rd_T60 l0 x6_1).f0),.string ((rd_T60 l0 x6_1).f1),.int .i64 ((rd_T60 l0 x6_1).f2),.int .i64 ((rd_T60 l0 x6_1).f3),.int .i64 ((rd_T60 l0 x6_1).f4)] 60 (0,0))):=⟨(by rw [hw];exact (st5_ BK268.out))⟩;have n2_:Aside0 (Below w.heap.size w w57):=⟨(by rw [hw];exact bl_)⟩;clear hw;clear HO_5;clear BK268;clear HB;have HO_5:=n0_;have BK268:=n1_;have HB:=n2_;clear n0_ n1_ n2_;obtain ⟨hcz58_0,hcz58_1,hcz58_2,hcz58_3,hcz58_4⟩:=blc5_ BK268.out;have hfz58_0:=blk_frozen BK268.out 0;have hfz58_1:=blk_frozen BK268.out 1;have hfz58_2:=blk_frozen BK268.out 2;have hfz58_3:=blk_frozen BK268.out 3;have hfz58_4:=blk_frozen BK268.out 4)|((with_reducible refine gate_builtin (b:=.append) (xs:=#[.tmp 29,.tmp 33]) rfl ?_);at_builtin;refine Kd.R_append (Kd.int .u8) (w0:=w) w.heap.size rfl (.tmp 29) (.tmp 33) 27 5 (.int .u8 0) 1 rfl Tryd.underlying27 info5 rfl (by decide) (by omega) u5 x5_1 (((rd_T60 l0 x6_1).f0) % 256) [.int .u8 (((rd_T60 l0 x6_1).f0) % 256)] (fun _ => True) (fun _ => False) rfl rfl ?aP (fun _ hk => hk.elim) ?aF ?aO ?aB ?aS ?aL ?_;(case aP => exact rfl);(case aB => exact bl_);(case aF => exact (fun _ _ => trivial));(case aO => exact (kr_ HO_5.out));(case aS => exact (below_size bl_));(case aL => have:=LMc9.out;omega);intro v270 w59 ho hb hg hat;rw [← Ny269.out] at ho;have n0_:=Aside0.mk (blk_grown (g:=gb268) (o:=.cells #[.int .i64 ((rd_T60 l0 x6_1).f0),.string ((rd_T60 l0 x6_1).f1),.int .i64 ((rd_T60 l0 x6_1).f2),.int .i64 ((rd_T60 l0 x6_1).f3),.int .i64 ((rd_T60 l0 x6_1).f4)] 60 (0,0)) bk_ hg (Kd.R_ne HO_5.out BK268.out (by decide)));have n1_:=Aside0.mk (hb);have n2_:=Aside0.mk (ho);clear BK268;clear HB;clear HO_5;have BK268:=n0_;have HB:=n1_;have HO271:=n2_;clear n0_ n1_ n2_;clear ho hb hg hat;obtain ⟨hcz60_0,hcz60_1,hcz60_2,hcz60_3,hcz60_4⟩:=blc5_ BK268.out;have hfz60_0:=blk_frozen BK268.out 0;have hfz60_1:=blk_frozen BK268.out 1;have hfz60_2:=blk_frozen BK268.out 2;have hfz60_3:=blk_frozen BK268.out 3;have hfz60_4:=blk_frozen BK268.out 4)|(refine callA_ (f:=39) (some 102) Tryd.func39 #[.int .i64 ((rd_T60 l0 x6_1).f3)] ?_;(with_reducible refine (understudyref04_two.calls ((rd_T60 l0 x6_1).f3) t294 _ A53.out).mono ?_);rintro e w61 ⟨v295,rfl,ho0,hb⟩;refine ⟨_,rfl,?_⟩;have n0_:=Aside0.mk (Kd.R_elder' (kr_ HO271.out) (Kd.R_base ho0) hb);have n1_:=Aside0.mk (Kd.R_lower (Kd.R_new' ho0 (Kd.R_lt (kr_ HO271.out))) (below_size bl_));have n2_:=Aside0.mk (blk_below (g:=gb268) (o:=.cells #[.int .i64 ((rd_T60 l0 x6_1).f0),.string ((rd_T60 l0 x6_1).f1),.int .i64 ((rd_T60 l0 x6_1).f2),.int .i64 ((rd_T60 l0 x6_1).f3),.int .i64 ((rd_T60 l0 x6_1).f4)] 60 (0,0)) bk_ hb);have n3_:=Aside0.mk (below_step bl_ hb);clear HO271;clear BK268;clear HB;have HO271:=n0_;have HO296:=n1_;have BK268:=n2_;have HB:=n3_;clear n0_ n1_ n2_ n3_;(try clear hb);(try clear hb2);(try clear hk);(try clear hi);(try clear ho0);obtain ⟨Ao63,co63,eo63⟩:=Kd.R_slice HO296.out;subst eo63)|((with_reducible refine gate_builtin (b:=.append) (xs:=#[.tmp 99,.tmp 102]) rfl ?_);at_builtin;refine Kd.R_append_rows (Kd.int .u8) (w0:=w) w.heap.size rfl (.tmp 99) (.tmp 102) 27 5 (.int .u8 0) 1 rfl Tryd.underlying27 info5 rfl (by decide) (by omega) v270 y269 t294 _ _ _ (fun k_ => some k_ ≠ (.slice Ao63 t294.length co63:Value).ownBlock) (fun _ => False) rfl rfl ?aO ?aR (fun _ _ h => h) (fun _ h => h.elim) ?aF ?aB ?aS ?aL ?_;(case aR => exact kc_ (Kd.R_reads' HO296.out).2.2);(case aB => exact bl_);(case aF => exact (fun k_ hk => Kd.fresh' (Kd.R_lt (kr_ HO296.out)) k_ hk));(case aO => exact (by (with_reducible repeat (first|apply Kd.R_alloc|apply Kd.R_drewN|apply Kd.R_drew));exact Kd.R_mono HO271.out (fun _ hk => hk.2)));(case aS => exact (below_size bl_));(case aL => have:=LMc54.out;omega);intro v298 w62 ho hb hg hat;rw [← Ny297.out] at ho;have n0_:=Aside0.mk (blk_grown (g:=gb268) (o:=.cells #[.int .i64 ((rd_T60 l0 x6_1).f0),.string ((rd_T60 l0 x6_1).f1),.int .i64 ((rd_T60 l0 x6_1).f2),.int .i64 ((rd_T60 l0 x6_1).f3),.int .i64 ((rd_T60 l0 x6_1).f4)] 60 (0,0)) bk_ hg (Kd.R_ne HO271.out BK268.out (by decide)));have n1_:=Aside0.mk (Kd.R_after (ok:=(fun _ => True)) (kr_ HO296.out) hg hat);have n2_:=Aside0.mk (hb);have n3_:=Aside0.mk (ho);clear BK268;clear HO296;clear HB;clear HO271;have BK268:=n0_;have HO296:=n1_;have HB:=n2_;have HO299:=n3_;clear n0_ n1_ n2_ n3_;clear ho hb hg hat))
            go_roundg k1
            case measure => have:=HK1.out;omega
            case rel => exact ⟨(y297),(wrap64 (x6_1 + 1)),r3_,H',⟨by have:=HK1.out;omega⟩,⟨by (with_reducible repeat (first|apply Kd.R_alloc|apply Kd.R_drewN|apply Kd.R_drew));exact Kd.R_mono HO299.out (fun _ hk => trivial)⟩,⟨bl_⟩⟩
           ·rw [if_neg c54] at H
            exact absurd H (by simp)
          ·rw [if_neg c52] at H
           have c52b0:(((rd_T60 l0 x6_1).f0)==7)=false:=beq_eq_false_iff_ne.mpr c52
           have c52b1:(((rd_T60 l0 x6_1).f0) != 7)=true:=bne_iff_ne.mpr c52
           replace H:=Option.bind_eq_some_iff.mp H
           obtain ⟨t300,A640,H⟩:=H
           try dsimp only at H
           have A64:=Aside0.mk A640
           clear A640
           by_cases c65:y269.length + t300.length < 140737488355328
           ·rw [if_pos c65] at H
            have LMc65:=Aside0.mk c65
            clear c65
            obtain ⟨y303,hy303⟩:∃ y_:List Int,y_=(y269++t300):=⟨_,rfl⟩
            replace H:((understudyref04_two.f ((rd_T60 l0 x6_1).f4)).bind fun t306 => (if y303.length + t306.length < 140737488355328 then (understudyref04_Encode.l0 k1 l0 (y303++t306) (wrap64 (x6_1 + 1))) else (none)))=some (r1,r2):=by first|(rw [hy303];with_reducible exact H)|(have H2_:=(Option.bind_some _ _).symm.trans H;rw [hy303];with_reducible exact H2_)|(have H2_:=(Option.bind_some _ _).symm.trans H;with_reducible exact H2_)|with_reducible exact H|(rw [hy303];exact H)|exact H
            have Ny303:=Aside0.mk hy303
            clear hy303
            replace H:=Option.bind_eq_some_iff.mp H
            obtain ⟨t306,A660,H⟩:=H
            try dsimp only at H
            have A66:=Aside0.mk A660
            clear A660
            by_cases c67:y303.length + t306.length < 140737488355328
            ·rw [if_pos c67] at H
             have LMc67:=Aside0.mk c67
             clear c67
             obtain ⟨y309,hy309⟩:∃ y_:List Int,y_=(y303++t306):=⟨_,rfl⟩
             replace H:(understudyref04_Encode.l0 k1 l0 y309 (wrap64 (x6_1 + 1)))=some (r1,r2):=by first|(rw [hy309];with_reducible exact H)|(have H2_:=(Option.bind_some _ _).symm.trans H;rw [hy309];with_reducible exact H2_)|(have H2_:=(Option.bind_some _ _).symm.trans H;with_reducible exact H2_)|with_reducible exact H|(rw [hy309];exact H)|exact H
             have Ny309:=Aside0.mk hy309
             clear hy309
             have H':=Aside0.mk H
             clear H
             have p267:0≤(x6_1:Int):=od_
             have q267:x6_1 < (l0.length:Int):=od_
             obtain ⟨ad267,e267,hx267_0,hx267_1,hx267_2,hx267_3,hx267_4⟩:=at_T60 HR0.out x6_1 p267 q267
             cases e267
             replace hx267_0:=hb_ HB hx267_0
             replace hx267_1:=hb_ HB hx267_1
             replace hx267_2:=hb_ HB hx267_2
             replace hx267_3:=hb_ HB hx267_3
             replace hx267_4:=hb_ HB hx267_4
             replace p267:=eq_true p267
             replace q267:=eq_true q267
             go_wp2_with (first|((with_reducible refine gate_dst (N:=7) rfl ?_);refine box_event ?hg (N:=7) ?hd (cs:=#[.int .i64 0,.string (⟨#[]⟩:ByteArray),.int .i64 0,.int .i64 0,.int .i64 0]) (t:=60) ?hr ?_;(case hd => rfl);(case hg => rfl);(case hr => first|(go_simp;done)|(go_simp;rfl));intro gb268 hg w68 hbox hb;have n0_:=Aside0.mk (Kd.R_below (kr_ HO_5.out) hb);have n1_:=Aside0.mk (below_step bl_ hb);have n2_:=Aside0.mk (hbox);have n3_:=Aside0.mk ((by rw [hg];exact (below_size bl_):w.heap.size≤gb268));have n4_:=Aside0.mk ((by rw [hg];exact (below_size bl_):w.heap.size≤gb268));clear HO_5;clear HB;have HO_5:=n0_;have HB:=n1_;have BK268:=n2_;have GW268:=n3_;have GE268:=n4_;clear n0_ n1_ n2_ n3_ n4_;clear hb hbox hg;obtain ⟨hcz69_0,hcz69_1,hcz69_2,hcz69_3,hcz69_4⟩:=blc5_ BK268.out;have hfz69_0:=blk_frozen BK268.out 0;have hfz69_1:=blk_frozen BK268.out 1;have hfz69_2:=blk_frozen BK268.out 2;have hfz69_3:=blk_frozen BK268.out 3;have hfz69_4:=blk_frozen BK268.out 4)|((with_reducible refine gate_store (t:=60) (p:=7) rfl ?_);refine store_event (t:=60) (p:=7) (v:=?vo_w70) (w1:=(((((w68.setCell ⟨gb268,0,none⟩ (.int .i64 ((rd_T60 l0 x6_1).f0))).setCell ⟨gb268,1,none⟩ (.string ((rd_T60 l0 x6_1).f1))).setCell ⟨gb268,2,none⟩ (.int .i64 ((rd_T60 l0 x6_1).f2))).setCell ⟨gb268,3,none⟩ (.int .i64 ((rd_T60 l0 x6_1).f3))).setCell ⟨gb268,4,none⟩ (.int .i64 ((rd_T60 l0 x6_1).f4)))) ?hg ?ho ?hn ?hr ?_;(case ho => rfl);(case hg => rfl);(case hn => rfl);(case hr => first|(go_simp;done)|(go_simp;rfl));intro w70 hw;have n0_:Aside0 (Kd.R (Kd.int .u8) 5 w70 w.heap.size (fun _ => True) u5 x5_1):=⟨(by rw [hw];exact (by (with_reducible repeat (first|apply Kd.R_alloc|apply Kd.R_drewN|apply Kd.R_drew));exact Kd.R_mono (Kd.R_far (p:=⟨gb268,4,none⟩) (Kd.R_far (p:=⟨gb268,3,none⟩) (Kd.R_far (p:=⟨gb268,2,none⟩) (Kd.R_far (p:=⟨gb268,1,none⟩) (Kd.R_far (p:=⟨gb268,0,none⟩) (Kd.R_types HO_5.out BK268.out (by decide)) (fun _ hk => hk.2) (.int .i64 ((rd_T60 l0 x6_1).f0))) (fun _ hk => hk.2) (.string ((rd_T60 l0 x6_1).f1))) (fun _ hk => hk.2) (.int .i64 ((rd_T60 l0 x6_1).f2))) (fun _ hk => hk.2) (.int .i64 ((rd_T60 l0 x6_1).f3))) (fun _ hk => hk.2) (.int .i64 ((rd_T60 l0 x6_1).f4))) (fun _ hk => trivial)))⟩;have n1_:Aside0 (w70.heap[gb268]?=some (.cells #[.int .i64 ((rd_T60 l0 x6_1).f0),.string ((rd_T60 l0 x6_1).f1),.int .i64 ((rd_T60 l0 x6_1).f2),.int .i64 ((rd_T60 l0 x6_1).f3),.int .i64 ((rd_T60 l0 x6_1).f4)] 60 (0,0))):=⟨(by rw [hw];exact (st5_ BK268.out))⟩;have n2_:Aside0 (Below w.heap.size w w70):=⟨(by rw [hw];exact bl_)⟩;clear hw;clear HO_5;clear BK268;clear HB;have HO_5:=n0_;have BK268:=n1_;have HB:=n2_;clear n0_ n1_ n2_;obtain ⟨hcz71_0,hcz71_1,hcz71_2,hcz71_3,hcz71_4⟩:=blc5_ BK268.out;have hfz71_0:=blk_frozen BK268.out 0;have hfz71_1:=blk_frozen BK268.out 1;have hfz71_2:=blk_frozen BK268.out 2;have hfz71_3:=blk_frozen BK268.out 3;have hfz71_4:=blk_frozen BK268.out 4)|((with_reducible refine gate_builtin (b:=.append) (xs:=#[.tmp 29,.tmp 33]) rfl ?_);at_builtin;refine Kd.R_append (Kd.int .u8) (w0:=w) w.heap.size rfl (.tmp 29) (.tmp 33) 27 5 (.int .u8 0) 1 rfl Tryd.underlying27 info5 rfl (by decide) (by omega) u5 x5_1 (((rd_T60 l0 x6_1).f0) % 256) [.int .u8 (((rd_T60 l0 x6_1).f0) % 256)] (fun _ => True) (fun _ => False) rfl rfl ?aP (fun _ hk => hk.elim) ?aF ?aO ?aB ?aS ?aL ?_;(case aP => exact rfl);(case aB => exact bl_);(case aF => exact (fun _ _ => trivial));(case aO => exact (kr_ HO_5.out));(case aS => exact (below_size bl_));(case aL => have:=LMc9.out;omega);intro v270 w72 ho hb hg hat;rw [← Ny269.out] at ho;have n0_:=Aside0.mk (blk_grown (g:=gb268) (o:=.cells #[.int .i64 ((rd_T60 l0 x6_1).f0),.string ((rd_T60 l0 x6_1).f1),.int .i64 ((rd_T60 l0 x6_1).f2),.int .i64 ((rd_T60 l0 x6_1).f3),.int .i64 ((rd_T60 l0 x6_1).f4)] 60 (0,0)) bk_ hg (Kd.R_ne HO_5.out BK268.out (by decide)));have n1_:=Aside0.mk (hb);have n2_:=Aside0.mk (ho);clear BK268;clear HB;clear HO_5;have BK268:=n0_;have HB:=n1_;have HO271:=n2_;clear n0_ n1_ n2_;clear ho hb hg hat;obtain ⟨hcz73_0,hcz73_1,hcz73_2,hcz73_3,hcz73_4⟩:=blc5_ BK268.out;have hfz73_0:=blk_frozen BK268.out 0;have hfz73_1:=blk_frozen BK268.out 1;have hfz73_2:=blk_frozen BK268.out 2;have hfz73_3:=blk_frozen BK268.out 3;have hfz73_4:=blk_frozen BK268.out 4)|(refine callA_ (f:=39) (some 40) Tryd.func39 #[.int .i64 ((rd_T60 l0 x6_1).f3)] ?_;(with_reducible refine (understudyref04_two.calls ((rd_T60 l0 x6_1).f3) t300 _ A64.out).mono ?_);rintro e w74 ⟨v301,rfl,ho0,hb⟩;refine ⟨_,rfl,?_⟩;have n0_:=Aside0.mk (Kd.R_elder' (kr_ HO271.out) (Kd.R_base ho0) hb);have n1_:=Aside0.mk (Kd.R_lower (Kd.R_new' ho0 (Kd.R_lt (kr_ HO271.out))) (below_size bl_));have n2_:=Aside0.mk (blk_below (g:=gb268) (o:=.cells #[.int .i64 ((rd_T60 l0 x6_1).f0),.string ((rd_T60 l0 x6_1).f1),.int .i64 ((rd_T60 l0 x6_1).f2),.int .i64 ((rd_T60 l0 x6_1).f3),.int .i64 ((rd_T60 l0 x6_1).f4)] 60 (0,0)) bk_ hb);have n3_:=Aside0.mk (below_step bl_ hb);clear HO271;clear BK268;clear HB;have HO271:=n0_;have HO302:=n1_;have BK268:=n2_;have HB:=n3_;clear n0_ n1_ n2_ n3_;(try clear hb);(try clear hb2);(try clear hk);(try clear hi);(try clear ho0);obtain ⟨Ao76,co76,eo76⟩:=Kd.R_slice HO302.out;subst eo76)|((with_reducible refine gate_builtin (b:=.append) (xs:=#[.tmp 37,.tmp 40]) rfl ?_);at_builtin;refine Kd.R_append_rows (Kd.int .u8) (w0:=w) w.heap.size rfl (.tmp 37) (.tmp 40) 27 5 (.int .u8 0) 1 rfl Tryd.underlying27 info5 rfl (by decide) (by omega) v270 y269 t300 _ _ _ (fun k_ => some k_ ≠ (.slice Ao76 t300.length co76:Value).ownBlock) (fun _ => False) rfl rfl ?aO ?aR (fun _ _ h => h) (fun _ h => h.elim) ?aF ?aB ?aS ?aL ?_;(case aR => exact kc_ (Kd.R_reads' HO302.out).2.2);(case aB => exact bl_);(case aF => exact (fun k_ hk => Kd.fresh' (Kd.R_lt (kr_ HO302.out)) k_ hk));(case aO => exact (by (with_reducible repeat (first|apply Kd.R_alloc|apply Kd.R_drewN|apply Kd.R_drew));exact Kd.R_mono HO271.out (fun _ hk => hk.2)));(case aS => exact (below_size bl_));(case aL => have:=LMc65.out;omega);intro v304 w75 ho hb hg hat;rw [← Ny303.out] at ho;have n0_:=Aside0.mk (blk_grown (g:=gb268) (o:=.cells #[.int .i64 ((rd_T60 l0 x6_1).f0),.string ((rd_T60 l0 x6_1).f1),.int .i64 ((rd_T60 l0 x6_1).f2),.int .i64 ((rd_T60 l0 x6_1).f3),.int .i64 ((rd_T60 l0 x6_1).f4)] 60 (0,0)) bk_ hg (Kd.R_ne HO271.out BK268.out (by decide)));have n1_:=Aside0.mk (Kd.R_after (ok:=(fun _ => True)) (kr_ HO302.out) hg hat);have n2_:=Aside0.mk (hb);have n3_:=Aside0.mk (ho);clear BK268;clear HO302;clear HB;clear HO271;have BK268:=n0_;have HO302:=n1_;have HB:=n2_;have HO305:=n3_;clear n0_ n1_ n2_ n3_;clear ho hb hg hat;obtain ⟨hcz77_0,hcz77_1,hcz77_2,hcz77_3,hcz77_4⟩:=blc5_ BK268.out;have hfz77_0:=blk_frozen BK268.out 0;have hfz77_1:=blk_frozen BK268.out 1;have hfz77_2:=blk_frozen BK268.out 2;have hfz77_3:=blk_frozen BK268.out 3;have hfz77_4:=blk_frozen BK268.out 4)|(refine callA_ (f:=39) (some 45) Tryd.func39 #[.int .i64 ((rd_T60 l0 x6_1).f4)] ?_;(with_reducible refine (understudyref04_two.calls ((rd_T60 l0 x6_1).f4) t306 _ A66.out).mono ?_);rintro e w78 ⟨v307,rfl,ho0,hb⟩;refine ⟨_,rfl,?_⟩;have n0_:=Aside0.mk (Kd.R_elder' (kr_ HO302.out) (Kd.R_base ho0) hb);have n1_:=Aside0.mk (Kd.R_elder' (kr_ HO305.out) (Kd.R_base ho0) hb);have n2_:=Aside0.mk (Kd.R_lower (Kd.R_new' (Kd.R_new' ho0 (Kd.R_lt (kr_ HO302.out))) (Kd.R_lt (kr_ HO305.out))) (below_size bl_));have n3_:=Aside0.mk (blk_below (g:=gb268) (o:=.cells #[.int .i64 ((rd_T60 l0 x6_1).f0),.string ((rd_T60 l0 x6_1).f1),.int .i64 ((rd_T60 l0 x6_1).f2),.int .i64 ((rd_T60 l0 x6_1).f3),.int .i64 ((rd_T60 l0 x6_1).f4)] 60 (0,0)) bk_ hb);have n4_:=Aside0.mk (below_step bl_ hb);clear HO302;clear HO305;clear BK268;clear HB;have HO302:=n0_;have HO305:=n1_;have HO308:=n2_;have BK268:=n3_;have HB:=n4_;clear n0_ n1_ n2_ n3_ n4_;(try clear hb);(try clear hb2);(try clear hk);(try clear hi);(try clear ho0);obtain ⟨Ao80,co80,eo80⟩:=Kd.R_slice HO308.out;subst eo80)|((with_reducible refine gate_builtin (b:=.append) (xs:=#[.tmp 42,.tmp 45]) rfl ?_);at_builtin;refine Kd.R_append_rows (Kd.int .u8) (w0:=w) w.heap.size rfl (.tmp 42) (.tmp 45) 27 5 (.int .u8 0) 1 rfl Tryd.underlying27 info5 rfl (by decide) (by omega) v304 y303 t306 _ _ _ (fun k_ => some k_ ≠ (.slice Ao76 t300.length co76:Value).ownBlock∧some k_ ≠ (.slice Ao80 t306.length co80:Value).ownBlock) (fun _ => False) rfl rfl ?aO ?aR (fun _ _ h => h) (fun _ h => h.elim) ?aF ?aB ?aS ?aL ?_;(case aR => exact kc_ (Kd.R_reads' HO308.out).2.2);(case aB => exact bl_);(case aF => exact (fun k_ hk => ⟨Kd.fresh' (Kd.R_lt (kr_ HO302.out)) k_ hk,Kd.fresh' (Kd.R_lt (kr_ HO308.out)) k_ hk⟩));(case aO => exact (kr_ HO305.out));(case aS => exact (below_size bl_));(case aL => have:=LMc67.out;omega);intro v310 w79 ho hb hg hat;rw [← Ny309.out] at ho;have n0_:=Aside0.mk (blk_grown (g:=gb268) (o:=.cells #[.int .i64 ((rd_T60 l0 x6_1).f0),.string ((rd_T60 l0 x6_1).f1),.int .i64 ((rd_T60 l0 x6_1).f2),.int .i64 ((rd_T60 l0 x6_1).f3),.int .i64 ((rd_T60 l0 x6_1).f4)] 60 (0,0)) bk_ hg (Kd.R_ne HO305.out BK268.out (by decide)));have n1_:=Aside0.mk (Kd.R_after (ok:=(fun k_ => some k_ ≠ (.slice Ao80 t306.length co80:Value).ownBlock)) (by (with_reducible repeat (first|apply Kd.R_alloc|apply Kd.R_drewN|apply Kd.R_drew));exact Kd.R_mono HO302.out (fun _ hk => ⟨hk.2,hk.1.2⟩)) hg hat);have n2_:=Aside0.mk (Kd.R_after (ok:=(fun k_ => some k_ ≠ (.slice Ao76 t300.length co76:Value).ownBlock)) (by (with_reducible repeat (first|apply Kd.R_alloc|apply Kd.R_drewN|apply Kd.R_drew));exact Kd.R_mono HO308.out (fun _ hk => ⟨hk.1.2,hk.2⟩)) hg hat);have n3_:=Aside0.mk (hb);have n4_:=Aside0.mk (ho);clear BK268;clear HO302;clear HO308;clear HB;clear HO305;have BK268:=n0_;have HO302:=n1_;have HO308:=n2_;have HB:=n3_;have HO311:=n4_;clear n0_ n1_ n2_ n3_ n4_;clear ho hb hg hat))
             go_roundg k1
             case measure => have:=HK1.out;omega
             case rel => exact ⟨(y309),(wrap64 (x6_1 + 1)),r3_,H',⟨by have:=HK1.out;omega⟩,⟨by (with_reducible repeat (first|apply Kd.R_alloc|apply Kd.R_drewN|apply Kd.R_drew));exact Kd.R_mono HO311.out (fun _ hk => trivial)⟩,⟨bl_⟩⟩
            ·rw [if_neg c67] at H
             exact absurd H (by simp)
           ·rw [if_neg c65] at H
            exact absurd H (by simp)
      ·rw [if_neg c9] at H
       exact absurd H (by simp)
     ·rw [if_neg c8] at H
      exact absurd H (by simp)
    ·rw [if_neg c7] at H
     have c7b0:decide (x6_1 < (l0.length:Int))=false:=decide_eq_false c7
     clear c7
     simp only [Option.some.injEq,Prod.mk.injEq] at H
     obtain ⟨rfl,rfl⟩:=H
     go_wp2
     go_ret2
     exact ⟨_,ew_,kr_ HO_5.out,bl_⟩
 ·rw [if_neg c3] at H
  have c3b0:(t263==0)=false:=beq_eq_false_iff_ne.mpr c3
  have c3b1:(t263 != 0)=true:=bne_iff_ne.mpr c3
  simp only [Option.some.injEq,Prod.mk.injEq] at H
  obtain ⟨rfl,rfl⟩:=H
  go_enter Tryd.func18,Tryd.ntmps18
  go_wp2_with (first|(refine callA_ (f:=35) (some 12) Tryd.func35 #[.slice A0 l0.length c0] ?_;(with_reducible refine (understudyref04_Check.calls k _ _ l0 t263 _ ?side1 ?side2 A2.out).mono ?_);(case side1 => exact kc_ HR0.out);(case side2 => exact HC0.out);rintro e w81 ⟨rfl,hb⟩;refine ⟨_,rfl,?_⟩;have n0_:=Aside0.mk (below_step bl_ hb);clear HB;have HB:=n0_;clear n0_;(try clear hb);(try clear hb2);(try clear hk);(try clear hi)))
  go_ret2
  exact ⟨_,ew_,by first|exact Kd.R_nil _ _ _ _ _|exact Kd.N_nil _ _ _ _ _|exact Kd.V_nil _ _ _ _ _|exact Kd.Q_nil _ _ _ _ _|exact Kd.S_nil _ _ _ _ _,bl_⟩
def understudyref05_put.l0:Nat→List Int→List Int→Int→Option (List Int)
 | 0,_,_,_ => none
 | k + 1,x0,x1,x5 => if x5 < (x1.length:Int) then (if 0≤x5 then ((some (([((rd x1 x5) / 256) % 256,(rd x1 x5) % 256]:List Int):List Int)).bind fun y314 => (if x0.length + y314.length < 140737488355328 then (understudyref05_put.l0 k (x0++y314) x1 (wrap64 (x5 + 1))) else (none))) else (none)) else (some x0)
def understudyref05_put.f (k:Nat) (l0:List Int) (l1:List Int):Option (List Int):=understudyref05_put.l0 k l0 l1 0
theorem understudyref05_put.mono_l:∀ k,(∀ y0 y1 y2,LeO (understudyref05_put.l0 k y0 y1 y2) (understudyref05_put.l0 (k + 1) y0 y1 y2))
 | 0 => fun _ _ _ r h => by simp [understudyref05_put.l0] at h
 | k + 1 => by
  have ih0:=understudyref05_put.mono_l k
  ·intro y0 y1 y2
   unfold understudyref05_put.l0
   repeat' first
   | (with_reducible exact ih0 _ _ _)
   | (with_reducible exact LeO.refl _)
   | (with_reducible exact LeO.none _)
   | (with_reducible refine LeO.ite ?_ ?_)
   | (with_reducible refine LeO.bind ?_ (fun _ => ?_))
   | exact ih0 _ _ _
   | exact LeO.none _
   | refine LeO.ite ?_ ?_
   | refine LeO.bind ?_ (fun _ => ?_)
theorem understudyref05_put.mono:∀ a0 a1 k,LeO (understudyref05_put.f k a0 a1) (understudyref05_put.f (k + 1) a0 a1):=by
 intro a0 a1 k
 have ih0:=understudyref05_put.mono_l k
 unfold understudyref05_put.f
 repeat' first
   | (with_reducible exact ih0 _ _ _)
   | (with_reducible exact LeO.refl _)
   | (with_reducible exact LeO.none _)
   | (with_reducible refine LeO.ite ?_ ?_)
   | (with_reducible refine LeO.bind ?_ (fun _ => ?_))
   | exact ih0 _ _ _
   | exact LeO.none _
   | refine LeO.ite ?_ ?_
   | refine LeO.bind ?_ (fun _ => ?_)
def understudyref05_put.T4:Bool × List (List Nat × List Nat):=(true,[([],[]),([],[]),([],[]),([1,2],[1,2]),([3],[3]),([4],[4]),([5],[5]),([],[]),([],[]),([7,8],[7,8]),([9],[9]),([10],[10]),([6,11],[6,11]),([0,12],[0,12]),([13,13,0,1,2,3,4,5,6,7,8,9,10,11,12,13],[0,13])])
def understudyref05_put.B4:List Nat:=[0,0,0,6,14,30,62,0,0,384,896,1920,4094,8191,16383]
theorem understudyref05_put.tab4:rtab .any (opsOf Tryd.f19 4)=understudyref05_put.T4:=by kernel_rfl
theorem understudyref05_put.bits4:waitsOk understudyref05_put.T4.2 understudyref05_put.B4=true:=by kernel_rfl
set_option maxHeartbeats 80000000 in
set_option maxRecDepth 100000 in
theorem understudyref05_put.calls (k:Nat) (P0_:Nat→Prop) (u9000_:Value) (l0:List Int) (A1:Option Addr) (c1:Nat) (l1:List Int) (r:List Int) (w0 w:World) (hB:Below w0.heap.size w0 w) (ho0:Kd.R (Kd.int .u8) 5 w w0.heap.size P0_ u9000_ l0) (hr1:∀ W_,Kept w W_ (fun k_ => P0_ k_)→Kd.C (Kd.int .i64) W_ A1 l1.length l1) (hc1:l1.length≤c1) (h:understudyref05_put.f k l0 l1=some r) :
  Calls Tryd.prog 19 #[u9000_,.slice A1 l1.length c1] w fun e w' => ∃ v0_:Value,e=.returned (v0_)∧Kd.R (Kd.int .u8) 5 w' w0.heap.size (fun k_ => (P0_ k_ ∨ w.heap.size≤k_)) v0_ r∧Below w0.heap.size w0 w'∧Kept w w' (fun k_ => P0_ k_):=by
 have HO0:=Aside0.mk (show Kd.R (Kd.int .u8) 5 w w0.heap.size (fun k_ => (P0_ k_ ∨ w.heap.size≤k_)) u9000_ l0 from Kd.R_mono ho0 (fun k_ hk => (.inl hk)))
 have HR1:=Aside0.mk hr1
 have HC1:=Aside0.mk hc1
 clear hr1 hc1
 have HK:=Aside0.mk (Kept.refl w (fun k_ => P0_ k_))
 have HW0:=Aside0.mk hB.size
 have HB:=Aside0.mk hB
 clear hB
 have H:(understudyref05_put.l0 k l0 l1 0)=some r:=h
 clear h
 have H':=Aside0.mk H
 clear H
 go_enter Tryd.func19,Tryd.ntmps19
 go_wp2
 go_loopg [0,5] k (fun kq v0 v5 w' => ∃ (x0_1:List Int) (x5_1:Int),v5=.int .i64 x5_1∧Aside0 (understudyref05_put.l0 kq x0_1 l1 x5_1=some r)∧Aside0 (kq≤k)∧Aside0 (Kd.R (Kd.int .u8) 5 w' w0.heap.size (fun k_ => (P0_ k_ ∨ w.heap.size≤k_)) v0 x0_1)∧Aside0 (Kept w w' (fun k_ => P0_ k_))∧Aside0 (Below w0.heap.size w0 w'))
 case atStart => exact ⟨(l0),(0),r3_,H',⟨Nat.le_refl _⟩,⟨kr_ HO0.out⟩,⟨by repeat (first|(with_reducible first|exact HK.out|apply Kept.alloc|apply Kept.drewN|apply Kept.drew)|exact HK.out)⟩,⟨bl_⟩⟩
 case round =>
  clear H'
  try clear c1
  obtain ⟨x0_1,x5_1,rfl,HA,HK1,HO_0,HK,HB⟩:=hrel
  cases gk with
  | zero => exact absurd HA.out (by simp [understudyref05_put.l0])
  | succ k1 =>
   have H:=HA.out
   clear HA
   simp only [understudyref05_put.l0] at H
   by_cases c3:x5_1 < (l1.length:Int)
   ·rw [if_pos c3] at H
    have c3b0:decide (x5_1 < (l1.length:Int))=true:=decide_eq_true c3
    clear c3
    by_cases c4:0≤x5_1
    ·rw [if_pos c4] at H
     have c4b0:decide (0≤x5_1)=true:=decide_eq_true c4
     clear c4
     obtain ⟨y314,hy314⟩:∃ y_:List Int,y_=(([((rd l1 x5_1) / 256) % 256,(rd l1 x5_1) % 256]:List Int)):=⟨_,rfl⟩
     replace H:(if x0_1.length + y314.length < 140737488355328 then (understudyref05_put.l0 k1 (x0_1++y314) l1 (wrap64 (x5_1 + 1))) else (none))=some r:=by first|(rw [hy314];with_reducible exact H)|(have H2_:=(Option.bind_some _ _).symm.trans H;rw [hy314];with_reducible exact H2_)|(have H2_:=(Option.bind_some _ _).symm.trans H;with_reducible exact H2_)|with_reducible exact H|(rw [hy314];exact H)|exact H
     have Ny314:=Aside0.mk hy314
     clear hy314
     by_cases c5:x0_1.length + y314.length < 140737488355328
     ·rw [if_pos c5] at H
      have LMc5:=Aside0.mk c5
      clear c5
      obtain ⟨y317,hy317⟩:∃ y_:List Int,y_=(x0_1++y314):=⟨_,rfl⟩
      replace H:(understudyref05_put.l0 k1 y317 l1 (wrap64 (x5_1 + 1)))=some r:=by first|(rw [hy317];with_reducible exact H)|(have H2_:=(Option.bind_some _ _).symm.trans H;rw [hy317];with_reducible exact H2_)|(have H2_:=(Option.bind_some _ _).symm.trans H;with_reducible exact H2_)|with_reducible exact H|(rw [hy317];exact H)|exact H
      have Ny317:=Aside0.mk hy317
      clear hy317
      have H':=Aside0.mk H
      clear H
      try go_wp2
      have n0_:=Aside0.mk (Kd.R_drew HO_0.out)
      have n1_:=Aside0.mk (Kept.drew HK.out)
      have n2_:=Aside0.mk (below_drew1 HB.out)
      clear HO_0
      clear HK
      clear HB
      have HO_0:=n0_
      have HK:=n1_
      have HB:=n2_
      clear n0_ n1_ n2_
      have p312:0≤(x5_1:Int):=od_
      have q312:x5_1 < (l1.length:Int):=od_
      obtain ⟨ad312,e312,hx312_0⟩:=Kd.at_int (Kd.C_kept_now HR1.out HK.out) x5_1 p312 q312
      have hw312_0:=hx312_0
      cases e312
      replace p312:=eq_true p312
      replace q312:=eq_true q312
      have p313:0≤(x5_1:Int):=od_
      have q313:x5_1 < (l1.length:Int):=od_
      obtain ⟨ad313,e313,hx313_0⟩:=Kd.at_int (Kd.C_kept_now HR1.out HK.out) x5_1 p313 q313
      have hw313_0:=hx313_0
      obtain rfl:ad312=ad313:=(by injection e313)
      replace p313:=eq_true p313
      replace q313:=eq_true q313
      refine start_ (n:=15) (S:=fun w' => w'.cell? (ad312.add (x5_1).toNat)=some (.int .i64 (rd l1 x5_1))∧w'.cell? (ad312.add (x5_1).toNat)=some (.int .i64 (rd l1 x5_1))) (ds:=[]) #[false,false,false,false,false,false,false,false,false,false,false,false,false,false,false] (by kernel_rfl) rfl rfl ⟨(Kd.foot_int (HR1.out _ (by repeat (first|exact HK.out|apply Kept.alloc|apply Kept.drewN|apply Kept.drew))) x5_1 (of_eq_true p312) (of_eq_true q312)),(Kd.foot_int (HR1.out _ (by repeat (first|exact HK.out|apply Kept.alloc|apply Kept.drewN|apply Kept.drew))) x5_1 (of_eq_true p313) (of_eq_true q313))⟩ (fun hHeld => ?_);refine with_tabW understudyref05_put.tab4 understudyref05_put.bits4 (fun HT_ HW_ => ?_)
      generalize wr.drew=w6 at HO_0 HK HB hx312_0 hx313_0 hHeld ⊢
      refine pure_ (i:=0) (N:=some 12) (v:=?_) (a':=?_) #[true,false,false,false,false,false,false,false,false,false,false,false,false,false,false] rfl rfl (any_of HT_.out (by kernel_rfl)) (fun _ _ _ h => h) (Or.inl ⟨by rfl,?_⟩) ?_ ?_
      rotate_left
      ·intro w'
       go_simp
       with_reducible rfl
      rotate_left
      ·simp only [Act.put,List.setIfInBounds_toArray,List.set_cons_zero,List.set_cons_succ,i64_w,i32_w]
       rfl
      refine pure_ (i:=1) (N:=some 13) (v:=?_) (a':=?_) #[true,true,false,false,false,false,false,false,false,false,false,false,false,false,false] rfl rfl (any_of HT_.out (by kernel_rfl)) (fun _ _ _ h => h) (Or.inl ⟨by rfl,?_⟩) ?_ ?_
      rotate_left
      ·intro w'
       go_simp
       with_reducible rfl
      rotate_left
      ·simp only [Act.put,List.setIfInBounds_toArray,List.set_cons_zero,List.set_cons_succ,i64_w,i32_w]
       rfl
      refine pure_ (i:=2) (N:=some 14) (v:=?_) (a':=?_) #[true,true,true,false,false,false,false,false,false,false,false,false,false,false,false] rfl rfl (any_of HT_.out (by kernel_rfl)) (fun _ _ _ h => h) (Or.inl ⟨by rfl,?_⟩) ?_ ?_
      rotate_left
      ·intro w'
       go_simp
       with_reducible rfl
      rotate_left
      ·simp only [Act.put,List.setIfInBounds_toArray,List.set_cons_zero,List.set_cons_succ,i64_w,i32_w]
       rfl
      refine pure_ (i:=3) (N:=some 15) (v:=?_) (a':=?_) #[true,true,true,true,false,false,false,false,false,false,false,false,false,false,false] rfl rfl (any_of HT_.out (by kernel_rfl)) (fun _ _ _ h => h) (Or.inl ⟨by rfl,?_⟩) ?_ ?_
      rotate_left
      ·intro w'
       go_simp
       with_reducible rfl
      rotate_left
      ·simp only [Act.put,List.setIfInBounds_toArray,List.set_cons_zero,List.set_cons_succ,i64_w,i32_w]
       rfl
      refine pure_ (i:=7) (N:=some 19) (v:=?_) (a':=?_) #[true,true,true,true,false,false,false,true,false,false,false,false,false,false,false] rfl rfl (any_of HT_.out (by kernel_rfl)) (fun _ _ _ h => h) (Or.inl ⟨by rfl,?_⟩) ?_ ?_
      rotate_left
      ·intro w'
       go_simp
       with_reducible rfl
      rotate_left
      ·simp only [Act.put,List.setIfInBounds_toArray,List.set_cons_zero,List.set_cons_succ,i64_w,i32_w]
       rfl
      refine pure_ (i:=8) (N:=some 20) (v:=?_) (a':=?_) #[true,true,true,true,false,false,false,true,true,false,false,false,false,false,false] rfl rfl (any_of HT_.out (by kernel_rfl)) (fun _ _ _ h => h) (Or.inl ⟨by rfl,?_⟩) ?_ ?_
      rotate_left
      ·intro w'
       go_simp
       with_reducible rfl
      rotate_left
      ·simp only [Act.put,List.setIfInBounds_toArray,List.set_cons_zero,List.set_cons_succ,i64_w,i32_w]
       rfl
      refine pure_ (i:=9) (N:=some 21) (v:=?_) (a':=?_) #[true,true,true,true,false,false,false,true,true,true,false,false,false,false,false] rfl rfl (any_of HT_.out (by kernel_rfl)) (fun _ _ _ h => h) (Or.inl ⟨by rfl,?_⟩) ?_ ?_
      rotate_left
      ·intro w'
       go_simp
       with_reducible rfl
      rotate_left
      ·simp only [Act.put,List.setIfInBounds_toArray,List.set_cons_zero,List.set_cons_succ,i64_w,i32_w]
       rfl
      refine take_ (i:=4) (N:=some 16) (v:=?_) (a':=?_) #[true,true,true,true,true,false,false,true,true,true,false,false,false,false,false] rfl rfl (take_ofW HT_.out HW_.out (by kernel_rfl)) (fun _ _ _ h => h) (Or.inl ⟨by rfl,?_⟩) hHeld ?_ ?_
      rotate_left
      ·rintro w' ⟨s0,s1⟩
       go_simp
       with_reducible rfl
      rotate_left
      ·simp only [Act.put,List.setIfInBounds_toArray,List.set_cons_zero,List.set_cons_succ,i64_w,i32_w]
       rfl
      refine pure_ (i:=5) (N:=some 17) (v:=?_) (a':=?_) #[true,true,true,true,true,true,false,true,true,true,false,false,false,false,false] rfl rfl (any_of HT_.out (by kernel_rfl)) (fun _ _ _ h => h) (Or.inl ⟨by rfl,?_⟩) ?_ ?_
      rotate_left
      ·intro w'
       go_simp
       with_reducible rfl
      rotate_left
      ·simp only [Act.put,List.setIfInBounds_toArray,List.set_cons_zero,List.set_cons_succ,i64_w,i32_w]
       rfl
      refine pure_ (i:=6) (N:=some 18) (v:=?_) (a':=?_) #[true,true,true,true,true,true,true,true,true,true,false,false,false,false,false] rfl rfl (any_of HT_.out (by kernel_rfl)) (fun _ _ _ h => h) (Or.inl ⟨by rfl,?_⟩) ?_ ?_
      rotate_left
      ·intro w'
       go_simp
       with_reducible rfl
      rotate_left
      ·simp only [Act.put,List.setIfInBounds_toArray,List.set_cons_zero,List.set_cons_succ,i64_w,i32_w]
       rfl
      refine take_ (i:=10) (N:=some 22) (v:=?_) (a':=?_) #[true,true,true,true,true,true,true,true,true,true,true,false,false,false,false] rfl rfl (take_ofW HT_.out HW_.out (by kernel_rfl)) (fun _ _ _ h => h) (Or.inl ⟨by rfl,?_⟩) hHeld ?_ ?_
      rotate_left
      ·rintro w' ⟨s0,s1⟩
       go_simp
       with_reducible rfl
      rotate_left
      ·simp only [Act.put,List.setIfInBounds_toArray,List.set_cons_zero,List.set_cons_succ,i64_w,i32_w]
       rfl
      refine pure_ (i:=11) (N:=some 23) (v:=?_) (a':=?_) #[true,true,true,true,true,true,true,true,true,true,true,true,false,false,false] rfl rfl (any_of HT_.out (by kernel_rfl)) (fun _ _ _ h => h) (Or.inl ⟨by rfl,?_⟩) ?_ ?_
      rotate_left
      ·intro w'
       go_simp
       with_reducible rfl
      rotate_left
      ·simp only [Act.put,List.setIfInBounds_toArray,List.set_cons_zero,List.set_cons_succ,i64_w,i32_w]
       rfl
      refine one_ (i:=12) (N:=some 24) #[true,true,true,true,true,true,true,true,true,true,true,true,true,false,false] rfl rfl (one_of HT_.out (by kernel_rfl)) (by decide) (fun K hK => ?_)
      refine Kd.R_lit_step (Kd.int .u8) _ 5 ?hg (N:=24) ?hd (xs:=([((rd l1 x5_1) / 256) % 256,(rd l1 x5_1) % 256]:List Int)) (inner:=[.int .u8 (((rd l1 x5_1) / 256) % 256),.int .u8 ((rd l1 x5_1) % 256)]) (ok:=fun _ => True) (okp:=fun _ => True) ?hr ?hp (fun _ hk => hk) trivial (Below.refl _ _) (Nat.le_refl _) (by simp) ?_;(case hd => rfl);(case hg => rfl);(case hr => first|(go_simp;done)|(go_simp;rfl));(case hp => exact (Reps.one (show Kd.M (Kd.int .u8) _ _ _ (((rd l1 x5_1) / 256) % 256) [.int .u8 (((rd l1 x5_1) / 256) % 256)] from rfl) (Reps.one (show Kd.M (Kd.int .u8) _ _ _ ((rd l1 x5_1) % 256) [.int .u8 ((rd l1 x5_1) % 256)] from rfl) (Reps.none _ _))))
      intro v315 w7 ho8 hb hg_ hnew_
      clear hg_ hnew_
      (first|rw [← Ny314.out] at ho8|(simp only [Int.reduceToNat] at ho8;rw [← Ny314.out] at ho8))
      have n0_:=Aside0.mk (Kd.R_elder' (kr_ HO_0.out) (Kd.R_base ho8) hb)
      have n1_:=Aside0.mk (Kd.R_lower (Kd.R_new' (Kd.R_newM (M:=fun k_ => (P0_ k_ ∨ w.heap.size≤k_)) ho8 (by first|exact HK.out.1|exact (show Kept w _ (fun k_ => P0_ k_) from by repeat (first|(with_reducible first|exact HK.out|apply Kept.alloc|apply Kept.drewN|apply Kept.drew)|exact HK.out)).1) (fun k_ h_ => .inr h_)) (Kd.R_lt (kr_ HO_0.out))) (below_size bl_))
      have n2_:=Aside0.mk (Kept.below (S:=(fun k_ => P0_ k_)) (by repeat (first|(with_reducible first|exact HK.out|apply Kept.alloc|apply Kept.drewN|apply Kept.drew)|exact HK.out)) hb)
      have n3_:=Aside0.mk (below_step bl_ hb)
      clear HO_0
      clear HK
      clear HB
      have HO_0:=n0_
      have HO316:=n1_
      have HK:=n2_
      have HB:=n3_
      clear n0_ n1_ n2_ n3_
      clear hb ho8
      obtain ⟨Ao10,co10,eo10⟩:=Kd.R_slice HO316.out
      (first|subst eo10|(injection eo10 with f1_ f2_ f3_;have f4_:=f1_.symm;have f5_:=f3_.symm;clear f1_ f2_ f3_;subst f4_;subst f5_))
      refine hK.out _ _ ⟨(Kd.foot_int (HR1.out _ (by repeat (first|exact HK.out|apply Kept.alloc|apply Kept.drewN|apply Kept.drew))) x5_1 (of_eq_true p312) (of_eq_true q312)),(Kd.foot_int (HR1.out _ (by repeat (first|exact HK.out|apply Kept.alloc|apply Kept.drewN|apply Kept.drew))) x5_1 (of_eq_true p313) (of_eq_true q313))⟩ (fun hHeld => ?_)
      clear hK K
      refine norm_ (a':=?_) ?_ ?_
      rotate_left
      ·show Act.put _ (some 24) _=_
       simp only [Act.put,List.setIfInBounds_toArray,List.set_cons_zero,List.set_cons_succ,i64_w,i32_w]
       rfl
      refine one_ (i:=13) (N:=some 25) #[true,true,true,true,true,true,true,true,true,true,true,true,true,true,false] rfl rfl (one_of HT_.out (by kernel_rfl)) (by decide) (fun K hK => ?_)
      refine Kd.R_append_rows_step (Kd.int .u8) (w0:=w0) w0.heap.size (by rfl) (.tmp 12) (.tmp 24) 27 5 (.int .u8 0) 1 rfl Tryd.underlying27 info5 rfl (by decide) (by omega) u0 x0_1 y314 _ _ _ (fun k_ => (P0_ k_ ∨ w.heap.size≤k_)∧some k_ ≠ (.slice Ao10 y314.length co10:Value).ownBlock) (fun _ => False) rfl rfl ?aO ?aR (fun _ _ h => h) (fun _ h => h.elim) ?aF ?aB ?aS ?aL ?_
      (case aR => exact kc_ (Kd.R_reads' HO316.out).2.2)
      (case aB => exact bl_)
      (case aF => exact (fun k_ hk => ⟨(.inr (Nat.le_trans (by first|exact HK.out.1|exact (show Kept w _ (fun k_ => P0_ k_) from by repeat (first|(with_reducible first|exact HK.out|apply Kept.alloc|apply Kept.drewN|apply Kept.drew)|exact HK.out)).1) hk)),Kd.fresh' (Kd.R_lt (kr_ HO316.out)) k_ hk⟩))
      (case aO => exact (kr_ HO_0.out))
      (case aS => exact (below_size bl_))
      (case aL => have:=LMc5.out;omega)
      intro v318 w9 ho hb hg hat
      rw [← Ny317.out] at ho
      have n0_:=Aside0.mk (Kd.R_after (ok:=(fun k_ => (P0_ k_ ∨ w.heap.size≤k_))) (by (with_reducible repeat (first|apply Kd.R_alloc|apply Kd.R_drewN|apply Kd.R_drew));exact Kd.R_mono HO316.out (fun _ hk => ⟨hk.1.1,hk.2⟩)) hg hat)
      have n1_:=Aside0.mk (hb)
      have n2_:=Aside0.mk (Kept.of_grown (S:=(fun k_ => P0_ k_)) hg (by repeat (first|(with_reducible first|exact HK.out|apply Kept.alloc|apply Kept.drewN|apply Kept.drew)|exact HK.out)) (fun k_ e_ => (HO_0.out.1 k_ e_).1))
      have n3_:=Aside0.mk (ho)
      clear HO316
      clear HB
      clear HK
      clear HO_0
      have HO316:=n0_
      have HB:=n1_
      have HK:=n2_
      have HO319:=n3_
      clear n0_ n1_ n2_ n3_
      clear ho hb hg hat
      refine hK.out _ _ ⟨(Kd.foot_int (HR1.out _ (by repeat (first|exact HK.out|apply Kept.alloc|apply Kept.drewN|apply Kept.drew))) x5_1 (of_eq_true p312) (of_eq_true q312)),(Kd.foot_int (HR1.out _ (by repeat (first|exact HK.out|apply Kept.alloc|apply Kept.drewN|apply Kept.drew))) x5_1 (of_eq_true p313) (of_eq_true q313))⟩ (fun hHeld => ?_)
      clear hK K
      refine norm_ (a':=?_) ?_ ?_
      rotate_left
      ·show Act.put _ (some 25) _=_
       simp only [Act.put,List.setIfInBounds_toArray,List.set_cons_zero,List.set_cons_succ,i64_w,i32_w]
       rfl
      refine pure_ (i:=14) (N:=some 0) (v:=?_) (a':=?_) #[true,true,true,true,true,true,true,true,true,true,true,true,true,true,true] rfl rfl (any_of HT_.out (by kernel_rfl)) (fun _ _ _ h => h) (Or.inl ⟨by rfl,?_⟩) ?_ ?_
      rotate_left
      ·intro w'
       go_simp
       with_reducible rfl
      rotate_left
      ·simp only [Act.put,List.setIfInBounds_toArray,List.set_cons_zero,List.set_cons_succ,i64_w,i32_w]
       rfl
      refine done_ (done_of HT_.out (by kernel_rfl)) ?_
      try go_wp2
      go_roundg k1
      case measure => have:=HK1.out;omega
      case rel => exact ⟨(y317),(wrap64 (x5_1 + 1)),r3_,H',⟨by have:=HK1.out;omega⟩,⟨by (with_reducible repeat (first|apply Kd.R_alloc|apply Kd.R_drewN|apply Kd.R_drew));exact Kd.R_mono HO319.out (fun _ hk => hk.1)⟩,⟨by repeat (first|(with_reducible first|exact HK.out|apply Kept.alloc|apply Kept.drewN|apply Kept.drew)|exact HK.out)⟩,⟨bl_⟩⟩
     ·rw [if_neg c5] at H
      exact absurd H (by simp)
    ·rw [if_neg c4] at H
     exact absurd H (by simp)
   ·rw [if_neg c3] at H
    have c3b0:decide (x5_1 < (l1.length:Int))=false:=decide_eq_false c3
    clear c3
    obtain rfl:=Option.some.inj H
    go_wp2
    go_ret
    exact ⟨_,ew_,kr_ HO_0.out,bl_,by repeat (first|(with_reducible first|exact HK.out|apply Kept.alloc|apply Kept.drewN|apply Kept.drew)|exact HK.out)⟩
def understudyref05_four.f (l0:List Int) (a1:Int):Option (List Int):=(some (([(a1 / 16777216) % 256,(a1 / 65536) % 256,(a1 / 256) % 256,(a1) % 256]:List Int):List Int)).bind fun y320 => (if l0.length + y320.length < 140737488355328 then (some (l0++y320)) else (none))
set_option maxHeartbeats 80000000 in
set_option maxRecDepth 100000 in
theorem understudyref05_four.calls (P0_:Nat→Prop) (u9000_:Value) (l0:List Int) (a1:Int) (r:List Int) (w0 w:World) (hB:Below w0.heap.size w0 w) (ho0:Kd.R (Kd.int .u8) 5 w w0.heap.size P0_ u9000_ l0) (h:understudyref05_four.f l0 a1=some r) :
  Calls Tryd.prog 22 #[u9000_,.int .i64 a1] w fun e w' => ∃ v0_:Value,e=.returned (v0_)∧Kd.R (Kd.int .u8) 5 w' w0.heap.size (fun k_ => (P0_ k_ ∨ w.heap.size≤k_)) v0_ r∧Below w0.heap.size w0 w'∧Kept w w' (fun k_ => P0_ k_):=by
 have HO0:=Aside0.mk (show Kd.R (Kd.int .u8) 5 w w0.heap.size (fun k_ => (P0_ k_ ∨ w.heap.size≤k_)) u9000_ l0 from Kd.R_mono ho0 (fun k_ hk => (.inl hk)))
 have HK:=Aside0.mk (Kept.refl w (fun k_ => P0_ k_))
 have HW0:=Aside0.mk hB.size
 have HB:=Aside0.mk hB
 clear hB
 have H:((some (([(a1 / 16777216) % 256,(a1 / 65536) % 256,(a1 / 256) % 256,(a1) % 256]:List Int):List Int)).bind fun y320 => (if l0.length + y320.length < 140737488355328 then (some (l0++y320)) else (none)))=some r:=h
 clear h
 obtain ⟨y320,hy320⟩:∃ y_:List Int,y_=(([(a1 / 16777216) % 256,(a1 / 65536) % 256,(a1 / 256) % 256,(a1) % 256]:List Int)):=⟨_,rfl⟩
 replace H:(if l0.length + y320.length < 140737488355328 then (some (l0++y320)) else (none))=some r:=by first|(rw [hy320];with_reducible exact H)|(have H2_:=(Option.bind_some _ _).symm.trans H;rw [hy320];with_reducible exact H2_)|(have H2_:=(Option.bind_some _ _).symm.trans H;with_reducible exact H2_)|with_reducible exact H|(rw [hy320];exact H)|exact H
 have Ny320:=Aside0.mk hy320
 clear hy320
 by_cases c3:l0.length + y320.length < 140737488355328
 ·rw [if_pos c3] at H
  have LMc3:=Aside0.mk c3
  clear c3
  obtain ⟨y323,hy323⟩:∃ y_:List Int,y_=(l0++y320):=⟨_,rfl⟩
  replace H:(some y323)=some r:=by first|(rw [hy323];with_reducible exact H)|(have H2_:=(Option.bind_some _ _).symm.trans H;rw [hy323];with_reducible exact H2_)|(have H2_:=(Option.bind_some _ _).symm.trans H;with_reducible exact H2_)|with_reducible exact H|(rw [hy323];exact H)|exact H
  have Ny323:=Aside0.mk hy323
  clear hy323
  obtain rfl:=Option.some.inj H
  go_enter Tryd.func22,Tryd.ntmps22
  go_wp2_with (first|((with_reducible refine gate_dst (N:=17) rfl ?_);refine Kd.R_lit (Kd.int .u8) _ 5 ?hg (N:=17) ?hd (xs:=([(a1 / 16777216) % 256,(a1 / 65536) % 256,(a1 / 256) % 256,(a1) % 256]:List Int)) (inner:=[.int .u8 ((a1 / 16777216) % 256),.int .u8 ((a1 / 65536) % 256),.int .u8 ((a1 / 256) % 256),.int .u8 ((a1) % 256)]) (ok:=fun _ => True) (okp:=fun _ => True) ?hr ?hp (fun _ hk => hk) trivial (Below.refl _ _) (Nat.le_refl _) (by simp) ?_;(case hd => rfl);(case hg => rfl);(case hr => first|(go_simp;done)|(go_simp;rfl));(case hp => exact (Reps.one (show Kd.M (Kd.int .u8) _ _ _ ((a1 / 16777216) % 256) [.int .u8 ((a1 / 16777216) % 256)] from rfl) (Reps.one (show Kd.M (Kd.int .u8) _ _ _ ((a1 / 65536) % 256) [.int .u8 ((a1 / 65536) % 256)] from rfl) (Reps.one (show Kd.M (Kd.int .u8) _ _ _ ((a1 / 256) % 256) [.int .u8 ((a1 / 256) % 256)] from rfl) (Reps.one (show Kd.M (Kd.int .u8) _ _ _ ((a1) % 256) [.int .u8 ((a1) % 256)] from rfl) (Reps.none _ _))))));intro v321 w4 ho5 hb hg_ hnew_;clear hg_ hnew_;(first|rw [← Ny320.out] at ho5|(simp only [Int.reduceToNat] at ho5;rw [← Ny320.out] at ho5));have n0_:=Aside0.mk (Kd.R_elder' (kr_ HO0.out) (Kd.R_base ho5) hb);have n1_:=Aside0.mk (Kd.R_lower (Kd.R_new' (Kd.R_newM (M:=fun k_ => (P0_ k_ ∨ w.heap.size≤k_)) ho5 (by first|exact HK.out.1|exact (show Kept w _ (fun k_ => P0_ k_) from by repeat (first|(with_reducible first|exact HK.out|apply Kept.alloc|apply Kept.drewN|apply Kept.drew)|exact HK.out)).1) (fun k_ h_ => .inr h_)) (Kd.R_lt (kr_ HO0.out))) (below_size bl_));have n2_:=Aside0.mk (Kept.below (S:=(fun k_ => P0_ k_)) (by repeat (first|(with_reducible first|exact HK.out|apply Kept.alloc|apply Kept.drewN|apply Kept.drew)|exact HK.out)) hb);have n3_:=Aside0.mk (below_step bl_ hb);clear HO0;clear HK;clear HB;have HO0:=n0_;have HO322:=n1_;have HK:=n2_;have HB:=n3_;clear n0_ n1_ n2_ n3_;clear hb ho5;obtain ⟨Ao7,co7,eo7⟩:=Kd.R_slice HO322.out;subst eo7)|((with_reducible refine gate_builtin (b:=.append) (xs:=#[.tmp 5,.tmp 17]) rfl ?_);at_builtin;refine Kd.R_append_rows (Kd.int .u8) (w0:=w0) w0.heap.size rfl (.tmp 5) (.tmp 17) 27 5 (.int .u8 0) 1 rfl Tryd.underlying27 info5 rfl (by decide) (by omega) u9000_ l0 y320 _ _ _ (fun k_ => (P0_ k_ ∨ w.heap.size≤k_)∧some k_ ≠ (.slice Ao7 y320.length co7:Value).ownBlock) (fun _ => False) rfl rfl ?aO ?aR (fun _ _ h => h) (fun _ h => h.elim) ?aF ?aB ?aS ?aL ?_;(case aR => exact kc_ (Kd.R_reads' HO322.out).2.2);(case aB => exact bl_);(case aF => exact (fun k_ hk => ⟨(.inr (Nat.le_trans (by first|exact HK.out.1|exact (show Kept w _ (fun k_ => P0_ k_) from by repeat (first|(with_reducible first|exact HK.out|apply Kept.alloc|apply Kept.drewN|apply Kept.drew)|exact HK.out)).1) hk)),Kd.fresh' (Kd.R_lt (kr_ HO322.out)) k_ hk⟩));(case aO => exact (kr_ HO0.out));(case aS => exact (below_size bl_));(case aL => have:=LMc3.out;omega);intro v324 w6 ho hb hg hat;rw [← Ny323.out] at ho;have n0_:=Aside0.mk (Kd.R_after (ok:=(fun k_ => (P0_ k_ ∨ w.heap.size≤k_))) (by (with_reducible repeat (first|apply Kd.R_alloc|apply Kd.R_drewN|apply Kd.R_drew));exact Kd.R_mono HO322.out (fun _ hk => ⟨hk.1.1,hk.2⟩)) hg hat);have n1_:=Aside0.mk (hb);have n2_:=Aside0.mk (Kept.of_grown (S:=(fun k_ => P0_ k_)) hg (by repeat (first|(with_reducible first|exact HK.out|apply Kept.alloc|apply Kept.drewN|apply Kept.drew)|exact HK.out)) (fun k_ e_ => (HO0.out.1 k_ e_).1));have n3_:=Aside0.mk (ho);clear HO322;clear HB;clear HK;clear HO0;have HO322:=n0_;have HB:=n1_;have HK:=n2_;have HO325:=n3_;clear n0_ n1_ n2_ n3_;clear ho hb hg hat))
  go_ret
  exact ⟨_,ew_,by (with_reducible repeat (first|apply Kd.R_alloc|apply Kd.R_drewN|apply Kd.R_drew));exact Kd.R_mono HO325.out (fun _ hk => hk.1),bl_,by repeat (first|(with_reducible first|exact HK.out|apply Kept.alloc|apply Kept.drewN|apply Kept.drew)|exact HK.out)⟩
 ·rw [if_neg c3] at H
  exact absurd H (by simp)
end Go.Proofs.YtmloaijagkebpaaDoor.Px
namespace Go.Proofs.YtmloaijagkebpaaDoor.Px
open Go.RowKit Go.Proofs.YtmloaijagkebpaaDoorW.PrintWords Go.Proofs.YtmloaijagkebpaaDoorW.PrintLast Go.Proofs.YtmloaijagkebpaaDoorW.PrintMore
attribute [local go_sem] max2_int min2_int max_two min_two max_three min_three max_four min_four
set_option linter.unusedVariables false
set_option linter.unusedSimpArgs false
def understudyref05_code.l0:Nat→List (S60)→List Int→Int→Int→Int→Int→Int→Int→List Int→List (S78)→List Int→Option (List Int)
 | 0,_,_,_,_,_,_,_,_,_,_,_ => none
 | k + 1,x0,x5,x6,x327000,x327001,x327002,x327003,x327004,x327005,x327006,x327007 => if x6 < (x327006.length:Int) then (if 0≤x6 then ((understudyref05_put.f k x5 (([(rd_T78 x327006 x6).f0,(rd_T78 x327006 x6).f1,(rd_T78 x327006 x6).f2,(rd_T78 x327006 x6).f3]:List Int))).bind fun t350 => (understudyref05_code.l0 k x0 t350 (wrap64 (x6 + 1)) x327000 x327001 x327002 x327003 x327004 x327005 x327006 x327007)) else (none)) else (if (x327007.length:Int)=0 then ((understudyref05_put.f k x5 (([0]:List Int))).bind fun t356 => (some t356)) else ((understudyref05_text.f k x0 (⟨#[83,116,97,99,107,77,97,112,84,97,98,108,101]⟩:ByteArray)).bind fun t359 => ((understudyref05_put.f k x5 (([1,t359]:List Int))).bind fun t363 => ((understudyref05_four.f t363 (x327007.length:Int)).bind fun t366 => (if t366.length + x327007.length < 140737488355328 then (some (t366++x327007)) else (none))))))
def understudyref05_code.f (k:Nat) (l0:List (S60)) (a1_0:Int) (a1_1:Int) (a1_2:Int) (a1_3:Int) (a1_4:Int) (l1_5:List Int) (l1_6:List (S78)) (l1_7:List Int):Option (List Int):=(understudyref05_put.f k ([]:List Int) (([a1_3,a1_4]:List Int))).bind fun t330 => ((understudyref05_four.f t330 (l1_5.length:Int)).bind fun t333 => (if t333.length + l1_5.length < 140737488355328 then ((understudyref05_put.f k (t333++l1_5) (([(l1_6.length:Int)]:List Int))).bind fun t342 => (understudyref05_code.l0 k l0 t342 0 a1_0 a1_1 a1_2 a1_3 a1_4 l1_5 l1_6 l1_7)) else (none)))
theorem understudyref05_code.mono_l:∀ k,(∀ y0 y1 y2 y3 y4 y5 y6 y7 y8 y9 y10,LeO (understudyref05_code.l0 k y0 y1 y2 y3 y4 y5 y6 y7 y8 y9 y10) (understudyref05_code.l0 (k + 1) y0 y1 y2 y3 y4 y5 y6 y7 y8 y9 y10))
 | 0 => fun _ _ _ _ _ _ _ _ _ _ _ r h => by simp [understudyref05_code.l0] at h
 | k + 1 => by
  have ih0:=understudyref05_code.mono_l k
  ·intro y0 y1 y2 y3 y4 y5 y6 y7 y8 y9 y10
   unfold understudyref05_code.l0
   repeat' first
   | (with_reducible exact ih0 _ _ _ _ _ _ _ _ _ _ _)
   | (with_reducible exact understudyref05_put.mono _ _ _)
   | (with_reducible exact understudyref05_text.mono _ _ _)
   | (with_reducible exact LeO.refl _)
   | (with_reducible exact LeO.none _)
   | (with_reducible refine LeO.ite ?_ ?_)
   | (with_reducible refine LeO.bind ?_ (fun _ => ?_))
   | exact ih0 _ _ _ _ _ _ _ _ _ _ _
   | exact understudyref05_put.mono _ _ _
   | exact understudyref05_text.mono _ _ _
   | exact LeO.none _
   | refine LeO.ite ?_ ?_
   | refine LeO.bind ?_ (fun _ => ?_)
theorem understudyref05_code.mono:∀ a0 a1 a2 a3 a4 a5 a6 a7 a8 k,LeO (understudyref05_code.f k a0 a1 a2 a3 a4 a5 a6 a7 a8) (understudyref05_code.f (k + 1) a0 a1 a2 a3 a4 a5 a6 a7 a8):=by
 intro a0 a1 a2 a3 a4 a5 a6 a7 a8 k
 have ih0:=understudyref05_code.mono_l k
 unfold understudyref05_code.f
 repeat' first
   | (with_reducible exact ih0 _ _ _ _ _ _ _ _ _ _ _)
   | (with_reducible exact understudyref05_put.mono _ _ _)
   | (with_reducible exact understudyref05_text.mono _ _ _)
   | (with_reducible exact LeO.refl _)
   | (with_reducible exact LeO.none _)
   | (with_reducible refine LeO.ite ?_ ?_)
   | (with_reducible refine LeO.bind ?_ (fun _ => ?_))
   | exact ih0 _ _ _ _ _ _ _ _ _ _ _
   | exact understudyref05_put.mono _ _ _
   | exact understudyref05_text.mono _ _ _
   | exact LeO.none _
   | refine LeO.ite ?_ ?_
   | refine LeO.bind ?_ (fun _ => ?_)
set_option maxHeartbeats 80000000 in
set_option maxRecDepth 100000 in
theorem understudyref05_code.calls (k:Nat) (A0:Option Addr) (c0:Nat) (l0:List (S60)) (a1_0:Int) (a1_1:Int) (a1_2:Int) (a1_3:Int) (a1_4:Int) (A1_5:Option Addr) (c1_5:Nat) (l1_5:List Int) (A1_6:Option Addr) (c1_6:Nat) (l1_6:List (S78)) (A1_7:Option Addr) (c1_7:Nat) (l1_7:List Int) (r:List Int) (w:World) (hr0:Kd.C k60 w A0 l0.length l0) (hc0:l0.length≤c0) (hr1_5:Kd.C (Kd.int .u8) w A1_5 l1_5.length l1_5) (hc1_5:l1_5.length≤c1_5) (hr1_6:Kd.C k78 w A1_6 l1_6.length l1_6) (hc1_6:l1_6.length≤c1_6) (hr1_7:Kd.C (Kd.int .u8) w A1_7 l1_7.length l1_7) (hc1_7:l1_7.length≤c1_7) (h:understudyref05_code.f k l0 a1_0 a1_1 a1_2 a1_3 a1_4 l1_5 l1_6 l1_7=some r) :
  Calls Tryd.prog 20 #[.slice A0 l0.length c0,.agg #[.int .i64 a1_0,.int .i64 a1_1,.int .i64 a1_2,.int .i64 a1_3,.int .i64 a1_4,.slice A1_5 l1_5.length c1_5,.slice A1_6 l1_6.length c1_6,.slice A1_7 l1_7.length c1_7]] w fun e w' => ∃ v0_:Value,e=.returned (v0_)∧Kd.R (Kd.int .u8) 5 w' w.heap.size (fun _ => True) v0_ r∧Below w.heap.size w w':=by
 have hu49:=Tryd.underlying49
 have hu78:=Tryd.underlying78
 have HR0:=Aside0.mk hr0
 have HC0:=Aside0.mk hc0
 clear hr0 hc0
 have HR1_5:=Aside0.mk hr1_5
 have HC1_5:=Aside0.mk hc1_5
 clear hr1_5 hc1_5
 have HR1_6:=Aside0.mk hr1_6
 have HC1_6:=Aside0.mk hc1_6
 clear hr1_6 hc1_6
 have HR1_7:=Aside0.mk hr1_7
 have HC1_7:=Aside0.mk hc1_7
 clear hr1_7 hc1_7
 have HB:=Aside0.mk (Below.refl w.heap.size w)
 have H:((understudyref05_put.f k ([]:List Int) (([a1_3,a1_4]:List Int))).bind fun t330 => ((understudyref05_four.f t330 (l1_5.length:Int)).bind fun t333 => (if t333.length + l1_5.length < 140737488355328 then ((understudyref05_put.f k (t333++l1_5) (([(l1_6.length:Int)]:List Int))).bind fun t342 => (understudyref05_code.l0 k l0 t342 0 a1_0 a1_1 a1_2 a1_3 a1_4 l1_5 l1_6 l1_7)) else (none))))=some r:=h
 clear h
 obtain ⟨y327,hy327⟩:∃ y_:List Int,y_=(([a1_3,a1_4]:List Int)):=⟨_,rfl⟩
 replace H:((understudyref05_put.f k ([]:List Int) y327).bind fun t330 => ((understudyref05_four.f t330 (l1_5.length:Int)).bind fun t333 => (if t333.length + l1_5.length < 140737488355328 then ((understudyref05_put.f k (t333++l1_5) (([(l1_6.length:Int)]:List Int))).bind fun t342 => (understudyref05_code.l0 k l0 t342 0 a1_0 a1_1 a1_2 a1_3 a1_4 l1_5 l1_6 l1_7)) else (none))))=some r:=by first|(rw [hy327];with_reducible exact H)|(have H2_:=(Option.bind_some _ _).symm.trans H;rw [hy327];with_reducible exact H2_)|(have H2_:=(Option.bind_some _ _).symm.trans H;with_reducible exact H2_)|with_reducible exact H|(rw [hy327];exact H)|exact H
 have Ny327:=Aside0.mk hy327
 clear hy327
 replace H:=Option.bind_eq_some_iff.mp H
 obtain ⟨t330,A30,H⟩:=H
 try dsimp only at H
 have A3:=Aside0.mk A30
 clear A30
 replace H:=Option.bind_eq_some_iff.mp H
 obtain ⟨t333,A40,H⟩:=H
 try dsimp only at H
 have A4:=Aside0.mk A40
 clear A40
 by_cases c5:t333.length + l1_5.length < 140737488355328
 ·rw [if_pos c5] at H
  have LMc5:=Aside0.mk c5
  clear c5
  obtain ⟨y336,hy336⟩:∃ y_:List Int,y_=(t333++l1_5):=⟨_,rfl⟩
  replace H:((understudyref05_put.f k y336 (([(l1_6.length:Int)]:List Int))).bind fun t342 => (understudyref05_code.l0 k l0 t342 0 a1_0 a1_1 a1_2 a1_3 a1_4 l1_5 l1_6 l1_7))=some r:=by first|(rw [hy336];with_reducible exact H)|(have H2_:=(Option.bind_some _ _).symm.trans H;rw [hy336];with_reducible exact H2_)|(have H2_:=(Option.bind_some _ _).symm.trans H;with_reducible exact H2_)|with_reducible exact H|(rw [hy336];exact H)|exact H
  have Ny336:=Aside0.mk hy336
  clear hy336
  obtain ⟨y339,hy339⟩:∃ y_:List Int,y_=(([(l1_6.length:Int)]:List Int)):=⟨_,rfl⟩
  replace H:((understudyref05_put.f k y336 y339).bind fun t342 => (understudyref05_code.l0 k l0 t342 0 a1_0 a1_1 a1_2 a1_3 a1_4 l1_5 l1_6 l1_7))=some r:=by first|(rw [hy339];with_reducible exact H)|(have H2_:=(Option.bind_some _ _).symm.trans H;rw [hy339];with_reducible exact H2_)|(have H2_:=(Option.bind_some _ _).symm.trans H;with_reducible exact H2_)|with_reducible exact H|(rw [hy339];exact H)|exact H
  have Ny339:=Aside0.mk hy339
  clear hy339
  replace H:=Option.bind_eq_some_iff.mp H
  obtain ⟨t342,A60,H⟩:=H
  try dsimp only at H
  have A6:=Aside0.mk A60
  clear A60
  have H':=Aside0.mk H
  clear H
  go_enter Tryd.func20,Tryd.ntmps20
  go_wp2_with (first|((with_reducible refine gate_dst (N:=3) rfl ?_);refine box_event ?hg (N:=3) ?hd (cs:=#[.int .i64 a1_0,.int .i64 a1_1,.int .i64 a1_2,.int .i64 a1_3,.int .i64 a1_4,.slice A1_5 l1_5.length c1_5,.slice A1_6 l1_6.length c1_6,.slice A1_7 l1_7.length c1_7]) (t:=49) ?hr ?_;(case hd => rfl);(case hg => rfl);(case hr => first|(go_simp;done)|(go_simp;rfl));intro gb326 hg w7 hbox hb;have n0_:=Aside0.mk (below_step bl_ hb);have n1_:=Aside0.mk (hbox);have n2_:=Aside0.mk ((by rw [hg];exact (below_size bl_):w.heap.size≤gb326));have n3_:=Aside0.mk ((by rw [hg];exact (below_size bl_):w.heap.size≤gb326));clear HB;have HB:=n0_;have BK326:=n1_;have GW326:=n2_;have GE326:=n3_;clear n0_ n1_ n2_ n3_;clear hb hbox hg;obtain ⟨hcz8_0,hcz8_1,hcz8_2,hcz8_3,hcz8_4,hcz8_5,hcz8_6,hcz8_7⟩:=blc8_ BK326.out;have hfz8_0:=blk_frozen BK326.out 0;have hfz8_1:=blk_frozen BK326.out 1;have hfz8_2:=blk_frozen BK326.out 2;have hfz8_3:=blk_frozen BK326.out 3;have hfz8_4:=blk_frozen BK326.out 4;have hfz8_5:=blk_frozen BK326.out 5;have hfz8_6:=blk_frozen BK326.out 6;have hfz8_7:=blk_frozen BK326.out 7)|((with_reducible refine gate_dst (N:=12) rfl ?_);refine Kd.R_lit (Kd.int .i64) _ 3 ?hg (N:=12) ?hd (xs:=([a1_3,a1_4]:List Int)) (inner:=[.int .i64 a1_3,.int .i64 a1_4]) (ok:=fun _ => True) (okp:=fun _ => True) ?hr ?hp (fun _ hk => hk) trivial (Below.refl _ _) (Nat.le_refl _) (by simp) ?_;(case hd => rfl);(case hg => rfl);(case hr => first|(go_simp;done)|(go_simp;rfl));(case hp => exact (Reps.one (show Kd.M (Kd.int .i64) _ _ _ a1_3 [.int .i64 a1_3] from rfl) (Reps.one (show Kd.M (Kd.int .i64) _ _ _ a1_4 [.int .i64 a1_4] from rfl) (Reps.none _ _))));intro v328 w9 ho10 hb hg_ hnew_;clear hg_ hnew_;(first|rw [← Ny327.out] at ho10|(simp only [Int.reduceToNat] at ho10;rw [← Ny327.out] at ho10));have n0_:=Aside0.mk (Kd.R_lower ho10 (below_size bl_));have n1_:=Aside0.mk (blk_below (g:=gb326) (o:=.cells #[.int .i64 a1_0,.int .i64 a1_1,.int .i64 a1_2,.int .i64 a1_3,.int .i64 a1_4,.slice A1_5 l1_5.length c1_5,.slice A1_6 l1_6.length c1_6,.slice A1_7 l1_7.length c1_7] 49 (0,0)) bk_ hb);have n2_:=Aside0.mk (below_step bl_ hb);clear BK326;clear HB;have HO329:=n0_;have BK326:=n1_;have HB:=n2_;clear n0_ n1_ n2_;clear hb ho10;obtain ⟨Ao11,co11,eo11⟩:=Kd.R_slice HO329.out;subst eo11)|(refine callA_ (f:=19) (some 13) Tryd.func19 #[.slice none 0 0,.slice Ao11 y327.length co11] ?_;(refine (understudyref05_put.calls k (fun k_ => some k_=(.slice none 0 0:Value).ownBlock) (.slice none 0 0) ([]:List Int) _ _ y327 t330 w _ ?side1 ?side2 ?side3 ?side4 A3.out).mono ?_);(case side1 => repeat (first|(with_reducible first|exact HB.out|apply below_alloc|apply pw_below_drewN|apply below_drew1|refine below_set ?_ GE326.out)|exact HB.out));(case side2 => exact Kd.R_nil _ _ _ _ _);(case side3 => exact Kd.C_kept_own (HO329.out) (fun k_ hk_ hs_ => (fun e_ => by simp [Value.ownBlock] at e_) hs_));(case side4 => exact (Kd.R_reads' HO329.out).2.1);rintro e w12 ⟨v331,rfl,ho0,hb,hkp⟩;refine ⟨_,rfl,?_⟩;have n0_:=Aside0.mk (blk_kept bk_ hkp (fun hs_ => (fun e_ => by simp [Value.ownBlock] at e_) hs_));have n1_:=Aside0.mk (Kd.R_mono (ok':=fun k_ => True) (Kd.R_keptB (HO329.out) hkp (fun k_ hk_ hs_ => (fun e_ => by simp [Value.ownBlock] at e_) hs_)) (fun k_ hk_ => trivial));have n2_:=Aside0.mk (Kd.R_mono (ok':=fun k_ => True) ho0 (fun k_ hk_ => trivial));have n3_:=Aside0.mk (hb);clear BK326;clear HO329;clear HB;have BK326:=n0_;have HO329:=n1_;have HO332:=n2_;have HB:=n3_;clear n0_ n1_ n2_ n3_;(try clear hb);(try clear hkp);(try clear ho0);obtain ⟨hcz13_0,hcz13_1,hcz13_2,hcz13_3,hcz13_4,hcz13_5,hcz13_6,hcz13_7,hfz13_0,hfz13_1,hfz13_2,hfz13_3,hfz13_4,hfz13_5,hfz13_6,hfz13_7⟩:=blk8_ BK326.out;obtain ⟨Ao14,co14,eo14⟩:=Kd.R_slice HO332.out;subst eo14)|(refine callA_ (f:=22) (some 18) Tryd.func22 #[.slice Ao14 t330.length co14,.int .i64 (l1_5.length:Int)] ?_;(with_reducible refine (understudyref05_four.calls (fun k_ => some k_=(.slice Ao14 t330.length co14:Value).ownBlock) (.slice Ao14 t330.length co14) t330 (l1_5.length:Int) t333 w _ ?side1 ?side2 A4.out).mono ?_);(case side1 => repeat (first|(with_reducible first|exact HB.out|apply below_alloc|apply pw_below_drewN|apply below_drew1|refine below_set ?_ GE326.out)|exact HB.out));(case side2 => exact Kd.R_tight rfl HO332.out);rintro e w15 ⟨v334,rfl,ho0,hb,hkp⟩;refine ⟨_,rfl,?_⟩;have n0_:=Aside0.mk (blk_kept bk_ hkp (fun hs_ => (fun e_ => (Kd.R_ne HO332.out BK326.out (by decide)) e_) hs_));have n1_:=Aside0.mk (Kd.R_mono (ok':=fun k_ => True) (Kd.R_keptB ((Kd.R_apart' HO329.out (Kd.R_typed HO332.out) (by decide))) hkp (fun k_ hk_ hs_ => (hk_.2) hs_)) (fun k_ hk_ => trivial));have n2_:=Aside0.mk (Kd.R_mono (ok':=fun k_ => True) ho0 (fun k_ hk_ => trivial));have n3_:=Aside0.mk (hb);clear BK326;clear HO329;clear HB;clear HO332;have BK326:=n0_;have HO329:=n1_;have HO335:=n2_;have HB:=n3_;clear n0_ n1_ n2_ n3_;(try clear hb);(try clear hkp);(try clear ho0);obtain ⟨hcz16_0,hcz16_1,hcz16_2,hcz16_3,hcz16_4,hcz16_5,hcz16_6,hcz16_7⟩:=blc8_ BK326.out;have hfz16_0:=blk_frozen BK326.out 0;have hfz16_1:=blk_frozen BK326.out 1;have hfz16_2:=blk_frozen BK326.out 2;have hfz16_3:=blk_frozen BK326.out 3;have hfz16_4:=blk_frozen BK326.out 4;have hfz16_5:=blk_frozen BK326.out 5;have hfz16_6:=blk_frozen BK326.out 6;have hfz16_7:=blk_frozen BK326.out 7)|((with_reducible refine gate_builtin (b:=.append) (xs:=#[.tmp 19,.tmp 21]) rfl ?_);at_builtin;refine Kd.R_append_rows (Kd.int .u8) (w0:=w) w.heap.size rfl (.tmp 19) (.tmp 21) 27 5 (.int .u8 0) 1 rfl Tryd.underlying27 info5 rfl (by decide) (by omega) v334 t333 l1_5 _ _ _ (fun _ => True) (fun _ => False) rfl rfl ?aO ?aR (fun _ _ h => h) (fun _ h => h.elim) ?aF ?aB ?aS ?aL ?_;(case aR => exact kc_ (Kd.C_below HR1_5.out HB.out));(case aB => exact bl_);(case aF => exact (fun _ _ => trivial));(case aO => exact (kr_ HO335.out));(case aS => exact (below_size bl_));(case aL => have:=LMc5.out;omega);intro v337 w17 ho hb hg hat;rw [← Ny336.out] at ho;have n0_:=Aside0.mk (blk_grown (g:=gb326) (o:=.cells #[.int .i64 a1_0,.int .i64 a1_1,.int .i64 a1_2,.int .i64 a1_3,.int .i64 a1_4,.slice A1_5 l1_5.length c1_5,.slice A1_6 l1_6.length c1_6,.slice A1_7 l1_7.length c1_7] 49 (0,0)) bk_ hg (Kd.R_ne HO335.out BK326.out (by decide)));have n1_:=Aside0.mk (Kd.R_over' (kr_ HO329.out) (Kd.R_typed (kr_ HO335.out)) (by decide) hg);have n2_:=Aside0.mk (hb);have n3_:=Aside0.mk (ho);clear BK326;clear HO329;clear HB;clear HO335;have BK326:=n0_;have HO329:=n1_;have HB:=n2_;have HO338:=n3_;clear n0_ n1_ n2_ n3_;clear ho hb hg hat;obtain ⟨hcz18_0,hcz18_1,hcz18_2,hcz18_3,hcz18_4,hcz18_5,hcz18_6,hcz18_7⟩:=blc8_ BK326.out;have hfz18_0:=blk_frozen BK326.out 0;have hfz18_1:=blk_frozen BK326.out 1;have hfz18_2:=blk_frozen BK326.out 2;have hfz18_3:=blk_frozen BK326.out 3;have hfz18_4:=blk_frozen BK326.out 4;have hfz18_5:=blk_frozen BK326.out 5;have hfz18_6:=blk_frozen BK326.out 6;have hfz18_7:=blk_frozen BK326.out 7)|((with_reducible refine gate_dst (N:=27) rfl ?_);refine Kd.R_lit (Kd.int .i64) _ 3 ?hg (N:=27) ?hd (xs:=([(l1_6.length:Int)]:List Int)) (inner:=[.int .i64 (l1_6.length:Int)]) (ok:=fun _ => True) (okp:=fun _ => True) ?hr ?hp (fun _ hk => hk) trivial (Below.refl _ _) (Nat.le_refl _) (by simp) ?_;(case hd => rfl);(case hg => rfl);(case hr => first|(go_simp;done)|(go_simp;rfl));(case hp => exact (Reps.one (show Kd.M (Kd.int .i64) _ _ _ (l1_6.length:Int) [.int .i64 (l1_6.length:Int)] from rfl) (Reps.none _ _)));intro v340 w19 ho20 hb hg_ hnew_;clear hg_ hnew_;(first|rw [← Ny339.out] at ho20|(simp only [Int.reduceToNat] at ho20;rw [← Ny339.out] at ho20));have n0_:=Aside0.mk (Kd.R_elder' (kr_ HO329.out) (Kd.R_base ho20) hb);have n1_:=Aside0.mk (Kd.R_below (kr_ HO338.out) hb);have n2_:=Aside0.mk (Kd.R_lower (Kd.R_new' ho20 (Kd.R_lt (kr_ HO329.out))) (below_size bl_));have n3_:=Aside0.mk (blk_below (g:=gb326) (o:=.cells #[.int .i64 a1_0,.int .i64 a1_1,.int .i64 a1_2,.int .i64 a1_3,.int .i64 a1_4,.slice A1_5 l1_5.length c1_5,.slice A1_6 l1_6.length c1_6,.slice A1_7 l1_7.length c1_7] 49 (0,0)) bk_ hb);have n4_:=Aside0.mk (below_step bl_ hb);clear HO329;clear HO338;clear BK326;clear HB;have HO329:=n0_;have HO338:=n1_;have HO341:=n2_;have BK326:=n3_;have HB:=n4_;clear n0_ n1_ n2_ n3_ n4_;clear hb ho20;obtain ⟨Ao21,co21,eo21⟩:=Kd.R_slice HO338.out;subst eo21;obtain ⟨Ao22,co22,eo22⟩:=Kd.R_slice HO341.out;subst eo22)|(refine callA_ (f:=19) (some 28) Tryd.func19 #[.slice Ao21 y336.length co21,.slice Ao22 y339.length co22] ?_;(with_reducible refine (understudyref05_put.calls k (fun k_ => some k_=(.slice Ao21 y336.length co21:Value).ownBlock) (.slice Ao21 y336.length co21) y336 _ _ y339 t342 w _ ?side1 ?side2 ?side3 ?side4 A6.out).mono ?_);(case side1 => repeat (first|(with_reducible first|exact HB.out|apply below_alloc|apply pw_below_drewN|apply below_drew1|refine below_set ?_ GE326.out)|exact HB.out));(case side2 => exact Kd.R_tight rfl HO338.out);(case side3 => exact Kd.C_kept_own ((Kd.R_apart' HO341.out (Kd.R_typed HO338.out) (by decide))) (fun k_ hk_ hs_ => (hk_.2) hs_));(case side4 => exact (Kd.R_reads' HO341.out).2.1);rintro e w23 ⟨v343,rfl,ho0,hb,hkp⟩;refine ⟨_,rfl,?_⟩;have n0_:=Aside0.mk (blk_kept bk_ hkp (fun hs_ => (fun e_ => (Kd.R_ne HO338.out BK326.out (by decide)) e_) hs_));have n1_:=Aside0.mk (Kd.R_mono (ok':=fun k_ => some k_ ≠ (.slice Ao22 y339.length co22:Value).ownBlock) (Kd.R_keptB ((Kd.R_apart' HO329.out (Kd.R_typed HO338.out) (by decide))) hkp (fun k_ hk_ hs_ => (hk_.2) hs_)) (fun k_ hk_ => hk_.1.1.2));have n2_:=Aside0.mk (Kd.R_mono (ok':=fun k_ => some k_ ≠ (.slice Ao11 y327.length co11:Value).ownBlock) (Kd.R_keptB ((Kd.R_apart' HO341.out (Kd.R_typed HO338.out) (by decide))) hkp (fun k_ hk_ hs_ => (hk_.2) hs_)) (fun k_ hk_ => hk_.1.1.2));have n3_:=Aside0.mk (Kd.R_mono (ok':=fun k_ => True) ho0 (fun k_ hk_ => trivial));have n4_:=Aside0.mk (hb);clear BK326;clear HO329;clear HO341;clear HB;clear HO338;have BK326:=n0_;have HO329:=n1_;have HO341:=n2_;have HO344:=n3_;have HB:=n4_;clear n0_ n1_ n2_ n3_ n4_;(try clear hb);(try clear hkp);(try clear ho0)))
  go_loopg [5,6] k (fun kq v5 v6 w' => ∃ (x5_1:List Int) (x6_1:Int),v6=.int .i64 x6_1∧Aside0 (understudyref05_code.l0 kq l0 x5_1 x6_1 a1_0 a1_1 a1_2 a1_3 a1_4 l1_5 l1_6 l1_7=some r)∧Aside0 (kq≤k)∧Aside0 (Kd.R (Kd.int .u8) 5 w' w.heap.size (fun _ => True) v5 x5_1)∧Aside0 (w'.heap[gb326]?=some (.cells #[.int .i64 a1_0,.int .i64 a1_1,.int .i64 a1_2,.int .i64 a1_3,.int .i64 a1_4,(.slice A1_5 l1_5.length c1_5),(.slice A1_6 l1_6.length c1_6),(.slice A1_7 l1_7.length c1_7)] 49 (0,0)))∧Aside0 (Below w.heap.size w w'))
  case atStart => exact ⟨(t342),(0),r3_,H',⟨Nat.le_refl _⟩,⟨kr_ HO344.out⟩,⟨bk_⟩,⟨bl_⟩⟩
  case round =>
   clear H'
   try clear c5;try clear hcz13_0;try clear hcz13_1;try clear hcz13_2;try clear hcz13_3;try clear hcz13_4;try clear hcz13_5;try clear hcz13_6;try clear hcz13_7;try clear hcz16_0;try clear hcz16_1;try clear hcz16_2;try clear hcz16_3;try clear hcz16_4;try clear hcz16_5;try clear hcz16_6;try clear hcz16_7;try clear hcz18_0;try clear hcz18_1;try clear hcz18_2;try clear hcz18_3;try clear hcz18_4;try clear hcz18_5;try clear hcz18_6;try clear hcz18_7;try clear hcz8_0;try clear hcz8_1;try clear hcz8_2;try clear hcz8_3;try clear hcz8_4;try clear hcz8_5;try clear hcz8_6;try clear hcz8_7;try clear hfz13_0;try clear hfz13_1;try clear hfz13_2;try clear hfz13_3;try clear hfz13_4;try clear hfz13_5;try clear hfz13_6;try clear hfz13_7;try clear hfz16_0;try clear hfz16_1;try clear hfz16_2;try clear hfz16_3;try clear hfz16_4;try clear hfz16_5;try clear hfz16_6;try clear hfz16_7;try clear hfz18_0;try clear hfz18_1;try clear hfz18_2;try clear hfz18_3;try clear hfz18_4;try clear hfz18_5;try clear hfz18_6;try clear hfz18_7;try clear hfz8_0;try clear hfz8_1;try clear hfz8_2;try clear hfz8_3;try clear hfz8_4;try clear hfz8_5;try clear hfz8_6;try clear hfz8_7
   obtain ⟨x5_1,x6_1,rfl,HA,HK1,HO_5,BK326,HB⟩:=hrel
   cases gk with
   | zero => exact absurd HA.out (by simp [understudyref05_code.l0])
   | succ k1 =>
    have H:=HA.out
    clear HA
    simp only [understudyref05_code.l0] at H
    by_cases c24:x6_1 < (l1_6.length:Int)
    ·rw [if_pos c24] at H
     have c24b0:decide (x6_1 < (l1_6.length:Int))=true:=decide_eq_true c24
     clear c24
     by_cases c25:0≤x6_1
     ·rw [if_pos c25] at H
      have c25b0:decide (0≤x6_1)=true:=decide_eq_true c25
      clear c25
      obtain ⟨y347,hy347⟩:∃ y_:List Int,y_=(([(rd_T78 l1_6 x6_1).f0,(rd_T78 l1_6 x6_1).f1,(rd_T78 l1_6 x6_1).f2,(rd_T78 l1_6 x6_1).f3]:List Int)):=⟨_,rfl⟩
      replace H:((understudyref05_put.f k1 x5_1 y347).bind fun t350 => (understudyref05_code.l0 k1 l0 t350 (wrap64 (x6_1 + 1)) a1_0 a1_1 a1_2 a1_3 a1_4 l1_5 l1_6 l1_7))=some r:=by first|(rw [hy347];with_reducible exact H)|(have H2_:=(Option.bind_some _ _).symm.trans H;rw [hy347];with_reducible exact H2_)|(have H2_:=(Option.bind_some _ _).symm.trans H;with_reducible exact H2_)|with_reducible exact H|(rw [hy347];exact H)|exact H
      have Ny347:=Aside0.mk hy347
      clear hy347
      replace H:=Option.bind_eq_some_iff.mp H
      obtain ⟨t350,A260,H⟩:=H
      try dsimp only at H
      have A26:=Aside0.mk A260
      clear A260
      have H':=Aside0.mk H
      clear H
      obtain ⟨hcz27_0,hcz27_1,hcz27_2,hcz27_3,hcz27_4,hcz27_5,hcz27_6,hcz27_7,hfz27_0,hfz27_1,hfz27_2,hfz27_3,hfz27_4,hfz27_5,hfz27_6,hfz27_7⟩:=blk8_ BK326.out
      have p345:0≤(x6_1:Int):=od_
      have q345:x6_1 < (l1_6.length:Int):=od_
      obtain ⟨ad345,e345,hx345_0,hx345_1,hx345_2,hx345_3⟩:=at_T78 HR1_6.out x6_1 p345 q345
      cases e345
      replace hx345_0:=hb_ HB hx345_0
      replace hx345_1:=hb_ HB hx345_1
      replace hx345_2:=hb_ HB hx345_2
      replace hx345_3:=hb_ HB hx345_3
      replace p345:=eq_true p345
      replace q345:=eq_true q345
      go_wp2_with (first|((with_reducible refine gate_dst (N:=7) rfl ?_);refine box_event ?hg (N:=7) ?hd (cs:=#[.int .i64 0,.int .i64 0,.int .i64 0,.int .i64 0]) (t:=78) ?hr ?_;(case hd => rfl);(case hg => rfl);(case hr => first|(go_simp;done)|(go_simp;rfl));intro gb346 hg w28 hbox hb;have n0_:=Aside0.mk (Kd.R_below (kr_ HO_5.out) hb);have n1_:=Aside0.mk (blk_below (g:=gb326) (o:=.cells #[.int .i64 a1_0,.int .i64 a1_1,.int .i64 a1_2,.int .i64 a1_3,.int .i64 a1_4,.slice A1_5 l1_5.length c1_5,.slice (some ad345) l1_6.length c1_6,.slice A1_7 l1_7.length c1_7] 49 (0,0)) bk_ hb);have n2_:=Aside0.mk (below_step bl_ hb);have n3_:=Aside0.mk (hbox);have n4_:=Aside0.mk ((by rw [hg];exact (below_size bl_):w.heap.size≤gb346));have n5_:=Aside0.mk ((by rw [hg];exact (below_size bl_):w.heap.size≤gb346));have n6_:=Aside0.mk ((by rw [hg];exact Nat.ne_of_lt (blk_lt (g:=gb326) (o:=.cells #[.int .i64 a1_0,.int .i64 a1_1,.int .i64 a1_2,.int .i64 a1_3,.int .i64 a1_4,.slice A1_5 l1_5.length c1_5,.slice (some ad345) l1_6.length c1_6,.slice A1_7 l1_7.length c1_7] 49 (0,0)) bk_):gb326 ≠ gb346));have n7_:=Aside0.mk ((by rw [hg];exact Nat.ne_of_gt (blk_lt (g:=gb326) (o:=.cells #[.int .i64 a1_0,.int .i64 a1_1,.int .i64 a1_2,.int .i64 a1_3,.int .i64 a1_4,.slice A1_5 l1_5.length c1_5,.slice (some ad345) l1_6.length c1_6,.slice A1_7 l1_7.length c1_7] 49 (0,0)) bk_):gb346 ≠ gb326));clear HO_5;clear BK326;clear HB;have HO_5:=n0_;have BK326:=n1_;have HB:=n2_;have BK346:=n3_;have GW346:=n4_;have GE346:=n5_;have NB326_346:=n6_;have NB346_326:=n7_;clear n0_ n1_ n2_ n3_ n4_ n5_ n6_ n7_;clear hb hbox hg;have hnb29:=NB346_326.out;have hnc29:=NB326_346.out;obtain ⟨hcz30_0,hcz30_1,hcz30_2,hcz30_3⟩:=blc4_ BK346.out;have hfz30_0:=blk_frozen BK346.out 0;have hfz30_1:=blk_frozen BK346.out 1;have hfz30_2:=blk_frozen BK346.out 2;have hfz30_3:=blk_frozen BK346.out 3)|((with_reducible refine gate_dst (N:=50) rfl ?_);refine Kd.R_lit (Kd.int .i64) _ 3 ?hg (N:=50) ?hd (xs:=([(rd_T78 l1_6 x6_1).f0,(rd_T78 l1_6 x6_1).f1,(rd_T78 l1_6 x6_1).f2,(rd_T78 l1_6 x6_1).f3]:List Int)) (inner:=[.int .i64 ((rd_T78 l1_6 x6_1).f0),.int .i64 ((rd_T78 l1_6 x6_1).f1),.int .i64 ((rd_T78 l1_6 x6_1).f2),.int .i64 ((rd_T78 l1_6 x6_1).f3)]) (ok:=fun _ => True) (okp:=fun _ => True) ?hr ?hp (fun _ hk => hk) trivial (Below.refl _ _) (Nat.le_refl _) (by simp) ?_;(case hd => rfl);(case hg => rfl);(case hr => first|(go_simp;done)|(go_simp;rfl));(case hp => exact (Reps.one (show Kd.M (Kd.int .i64) _ _ _ ((rd_T78 l1_6 x6_1).f0) [.int .i64 ((rd_T78 l1_6 x6_1).f0)] from rfl) (Reps.one (show Kd.M (Kd.int .i64) _ _ _ ((rd_T78 l1_6 x6_1).f1) [.int .i64 ((rd_T78 l1_6 x6_1).f1)] from rfl) (Reps.one (show Kd.M (Kd.int .i64) _ _ _ ((rd_T78 l1_6 x6_1).f2) [.int .i64 ((rd_T78 l1_6 x6_1).f2)] from rfl) (Reps.one (show Kd.M (Kd.int .i64) _ _ _ ((rd_T78 l1_6 x6_1).f3) [.int .i64 ((rd_T78 l1_6 x6_1).f3)] from rfl) (Reps.none _ _))))));intro v348 w31 ho32 hb hg_ hnew_;clear hg_ hnew_;(first|rw [← Ny347.out] at ho32|(simp only [Int.reduceToNat] at ho32;rw [← Ny347.out] at ho32));have n0_:=Aside0.mk (Kd.R_below (by (with_reducible repeat (first|apply Kd.R_alloc|apply Kd.R_drewN|apply Kd.R_drew));exact (Kd.R_mono (Kd.R_far (p:=⟨gb346,3,none⟩) (Kd.R_far (p:=⟨gb346,2,none⟩) (Kd.R_far (p:=⟨gb346,1,none⟩) (Kd.R_far (p:=⟨gb346,0,none⟩) (Kd.R_types HO_5.out BK346.out (by decide)) (fun _ hk => hk.2) (.int .i64 ((rd_T78 l1_6 x6_1).f0))) (fun _ hk => hk.2) (.int .i64 ((rd_T78 l1_6 x6_1).f1))) (fun _ hk => hk.2) (.int .i64 ((rd_T78 l1_6 x6_1).f2))) (fun _ hk => hk.2) (.int .i64 ((rd_T78 l1_6 x6_1).f3))) (fun _ h_ => h_.1))) hb);have n1_:=Aside0.mk (Kd.R_lower ho32 (below_size bl_));have n2_:=Aside0.mk (blk_below (g:=gb326) (o:=.cells #[.int .i64 a1_0,.int .i64 a1_1,.int .i64 a1_2,.int .i64 a1_3,.int .i64 a1_4,.slice A1_5 l1_5.length c1_5,.slice (some ad345) l1_6.length c1_6,.slice A1_7 l1_7.length c1_7] 49 (0,0)) bk_ hb);have n3_:=Aside0.mk (blk_below (g:=gb346) (o:=.cells #[.int .i64 ((rd_T78 l1_6 x6_1).f0),.int .i64 ((rd_T78 l1_6 x6_1).f1),.int .i64 ((rd_T78 l1_6 x6_1).f2),.int .i64 ((rd_T78 l1_6 x6_1).f3)] 78 (0,0)) (st4_ BK346.out) hb);have n4_:=Aside0.mk (below_step bl_ hb);clear HO_5;clear BK326;clear BK346;clear HB;have HO_5:=n0_;have HO349:=n1_;have BK326:=n2_;have BK346:=n3_;have HB:=n4_;clear n0_ n1_ n2_ n3_ n4_;clear hb ho32;obtain ⟨Ao33,co33,eo33⟩:=Kd.R_slice HO_5.out;subst eo33;obtain ⟨Ao34,co34,eo34⟩:=Kd.R_slice HO349.out;subst eo34)|(refine callA_ (f:=19) (some 51) Tryd.func19 #[.slice Ao33 x5_1.length co33,.slice Ao34 y347.length co34] ?_;(with_reducible refine (understudyref05_put.calls k1 (fun k_ => some k_=(.slice Ao33 x5_1.length co33:Value).ownBlock) (.slice Ao33 x5_1.length co33) x5_1 _ _ y347 t350 w _ ?side1 ?side2 ?side3 ?side4 A26.out).mono ?_);(case side1 => repeat (first|(with_reducible first|exact HB.out|apply below_alloc|apply pw_below_drewN|apply below_drew1|refine below_set ?_ GE326.out|refine below_set ?_ GE346.out)|exact HB.out));(case side2 => exact Kd.R_tight rfl HO_5.out);(case side3 => exact Kd.C_kept_own ((Kd.R_apart' HO349.out (Kd.R_typed HO_5.out) (by decide))) (fun k_ hk_ hs_ => (hk_.2) hs_));(case side4 => exact (Kd.R_reads' HO349.out).2.1);rintro e w35 ⟨v351,rfl,ho0,hb,hkp⟩;refine ⟨_,rfl,?_⟩;have n0_:=Aside0.mk (blk_kept bk_ hkp (fun hs_ => (fun e_ => (Kd.R_ne HO_5.out BK326.out (by decide)) e_) hs_));have n1_:=Aside0.mk (blk_kept bk_ hkp (fun hs_ => (fun e_ => (Kd.R_ne HO_5.out BK346.out (by decide)) e_) hs_));have n2_:=Aside0.mk (Kd.R_mono (ok':=fun k_ => True) (Kd.R_keptB ((Kd.R_apart' HO349.out (Kd.R_typed HO_5.out) (by decide))) hkp (fun k_ hk_ hs_ => (hk_.2) hs_)) (fun k_ hk_ => trivial));have n3_:=Aside0.mk (Kd.R_mono (ok':=fun k_ => True) ho0 (fun k_ hk_ => trivial));have n4_:=Aside0.mk (hb);clear BK326;clear BK346;clear HO349;clear HB;clear HO_5;have BK326:=n0_;have BK346:=n1_;have HO349:=n2_;have HO352:=n3_;have HB:=n4_;clear n0_ n1_ n2_ n3_ n4_;(try clear hb);(try clear hkp);(try clear ho0)))
      go_roundg k1
      case measure => have:=HK1.out;omega
      case rel => exact ⟨(t350),(wrap64 (x6_1 + 1)),r3_,H',⟨by have:=HK1.out;omega⟩,⟨kr_ HO352.out⟩,⟨bk_⟩,⟨bl_⟩⟩
     ·rw [if_neg c25] at H
      exact absurd H (by simp)
    ·rw [if_neg c24] at H
     have c24b0:decide (x6_1 < (l1_6.length:Int))=false:=decide_eq_false c24
     clear c24
     by_cases c36:(l1_7.length:Int)=0
     ·rw [if_pos c36] at H
      have c36b0:((l1_7.length:Int)==0)=true:=beq_iff_eq.mpr c36
      have c36b1:((l1_7.length:Int) != 0)=false:=bne_eq_false_iff_eq.mpr c36
      clear c36
      obtain ⟨y353,hy353⟩:∃ y_:List Int,y_=(([0]:List Int)):=⟨_,rfl⟩
      replace H:((understudyref05_put.f k1 x5_1 y353).bind fun t356 => (some t356))=some r:=by first|(rw [hy353];with_reducible exact H)|(have H2_:=(Option.bind_some _ _).symm.trans H;rw [hy353];with_reducible exact H2_)|(have H2_:=(Option.bind_some _ _).symm.trans H;with_reducible exact H2_)|with_reducible exact H|(rw [hy353];exact H)|exact H
      have Ny353:=Aside0.mk hy353
      clear hy353
      replace H:=Option.bind_eq_some_iff.mp H
      obtain ⟨t356,A370,H⟩:=H
      try dsimp only at H
      have A37:=Aside0.mk A370
      clear A370
      obtain rfl:=Option.some.inj H
      obtain ⟨hcz38_0,hcz38_1,hcz38_2,hcz38_3,hcz38_4,hcz38_5,hcz38_6,hcz38_7,hfz38_0,hfz38_1,hfz38_2,hfz38_3,hfz38_4,hfz38_5,hfz38_6,hfz38_7⟩:=blk8_ BK326.out
      go_wp2_with (first|((with_reducible refine gate_dst (N:=57) rfl ?_);refine Kd.R_lit (Kd.int .i64) _ 3 ?hg (N:=57) ?hd (xs:=([0]:List Int)) (inner:=[.int .i64 0]) (ok:=fun _ => True) (okp:=fun _ => True) ?hr ?hp (fun _ hk => hk) trivial (Below.refl _ _) (Nat.le_refl _) (by simp) ?_;(case hd => rfl);(case hg => rfl);(case hr => first|(go_simp;done)|(go_simp;rfl));(case hp => exact (Reps.one (show Kd.M (Kd.int .i64) _ _ _ 0 [.int .i64 0] from rfl) (Reps.none _ _)));intro v354 w39 ho40 hb hg_ hnew_;clear hg_ hnew_;(first|rw [← Ny353.out] at ho40|(simp only [Int.reduceToNat] at ho40;rw [← Ny353.out] at ho40));have n0_:=Aside0.mk (Kd.R_below (kr_ HO_5.out) hb);have n1_:=Aside0.mk (Kd.R_lower ho40 (below_size bl_));have n2_:=Aside0.mk (blk_below (g:=gb326) (o:=.cells #[.int .i64 a1_0,.int .i64 a1_1,.int .i64 a1_2,.int .i64 a1_3,.int .i64 a1_4,.slice A1_5 l1_5.length c1_5,.slice A1_6 l1_6.length c1_6,.slice A1_7 l1_7.length c1_7] 49 (0,0)) bk_ hb);have n3_:=Aside0.mk (below_step bl_ hb);clear HO_5;clear BK326;clear HB;have HO_5:=n0_;have HO355:=n1_;have BK326:=n2_;have HB:=n3_;clear n0_ n1_ n2_ n3_;clear hb ho40;obtain ⟨Ao41,co41,eo41⟩:=Kd.R_slice HO_5.out;subst eo41;obtain ⟨Ao42,co42,eo42⟩:=Kd.R_slice HO355.out;subst eo42)|(refine callA_ (f:=19) (some 58) Tryd.func19 #[.slice Ao41 x5_1.length co41,.slice Ao42 y353.length co42] ?_;(with_reducible refine (understudyref05_put.calls k1 (fun k_ => some k_=(.slice Ao41 x5_1.length co41:Value).ownBlock) (.slice Ao41 x5_1.length co41) x5_1 _ _ y353 t356 w _ ?side1 ?side2 ?side3 ?side4 A37.out).mono ?_);(case side1 => repeat (first|(with_reducible first|exact HB.out|apply below_alloc|apply pw_below_drewN|apply below_drew1|refine below_set ?_ GE326.out)|exact HB.out));(case side2 => exact Kd.R_tight rfl HO_5.out);(case side3 => exact Kd.C_kept_own ((Kd.R_apart' HO355.out (Kd.R_typed HO_5.out) (by decide))) (fun k_ hk_ hs_ => (hk_.2) hs_));(case side4 => exact (Kd.R_reads' HO355.out).2.1);rintro e w43 ⟨v357,rfl,ho0,hb,hkp⟩;refine ⟨_,rfl,?_⟩;have n0_:=Aside0.mk (blk_kept bk_ hkp (fun hs_ => (fun e_ => (Kd.R_ne HO_5.out BK326.out (by decide)) e_) hs_));have n1_:=Aside0.mk (Kd.R_mono (ok':=fun k_ => True) (Kd.R_keptB ((Kd.R_apart' HO355.out (Kd.R_typed HO_5.out) (by decide))) hkp (fun k_ hk_ hs_ => (hk_.2) hs_)) (fun k_ hk_ => trivial));have n2_:=Aside0.mk (Kd.R_mono (ok':=fun k_ => True) ho0 (fun k_ hk_ => trivial));have n3_:=Aside0.mk (hb);clear BK326;clear HO355;clear HB;clear HO_5;have BK326:=n0_;have HO355:=n1_;have HO358:=n2_;have HB:=n3_;clear n0_ n1_ n2_ n3_;(try clear hb);(try clear hkp);(try clear ho0)))
      go_ret
      exact ⟨_,ew_,kr_ HO358.out,bl_⟩
     ·rw [if_neg c36] at H
      have c36b0:((l1_7.length:Int)==0)=false:=beq_eq_false_iff_ne.mpr c36
      have c36b1:((l1_7.length:Int) != 0)=true:=bne_iff_ne.mpr c36
      have c36b2:¬ (l1_7=[]):=fun h_ => c36 (by rw [h_];rfl)
      replace H:=Option.bind_eq_some_iff.mp H
      obtain ⟨t359,A440,H⟩:=H
      try dsimp only at H
      have A44:=Aside0.mk A440
      clear A440
      obtain ⟨y360,hy360⟩:∃ y_:List Int,y_=(([1,t359]:List Int)):=⟨_,rfl⟩
      replace H:((understudyref05_put.f k1 x5_1 y360).bind fun t363 => ((understudyref05_four.f t363 (l1_7.length:Int)).bind fun t366 => (if t366.length + l1_7.length < 140737488355328 then (some (t366++l1_7)) else (none))))=some r:=by first|(rw [hy360];with_reducible exact H)|(have H2_:=(Option.bind_some _ _).symm.trans H;rw [hy360];with_reducible exact H2_)|(have H2_:=(Option.bind_some _ _).symm.trans H;with_reducible exact H2_)|with_reducible exact H|(rw [hy360];exact H)|exact H
      have Ny360:=Aside0.mk hy360
      clear hy360
      replace H:=Option.bind_eq_some_iff.mp H
      obtain ⟨t363,A450,H⟩:=H
      try dsimp only at H
      have A45:=Aside0.mk A450
      clear A450
      replace H:=Option.bind_eq_some_iff.mp H
      obtain ⟨t366,A460,H⟩:=H
      try dsimp only at H
      have A46:=Aside0.mk A460
      clear A460
      by_cases c47:t366.length + l1_7.length < 140737488355328
      ·rw [if_pos c47] at H
       have LMc47:=Aside0.mk c47
       clear c47
       obtain ⟨y369,hy369⟩:∃ y_:List Int,y_=(t366++l1_7):=⟨_,rfl⟩
       replace H:(some y369)=some r:=by first|(rw [hy369];with_reducible exact H)|(have H2_:=(Option.bind_some _ _).symm.trans H;rw [hy369];with_reducible exact H2_)|(have H2_:=(Option.bind_some _ _).symm.trans H;with_reducible exact H2_)|with_reducible exact H|(rw [hy369];exact H)|exact H
       have Ny369:=Aside0.mk hy369
       clear hy369
       obtain rfl:=Option.some.inj H
       obtain ⟨hcz48_0,hcz48_1,hcz48_2,hcz48_3,hcz48_4,hcz48_5,hcz48_6,hcz48_7,hfz48_0,hfz48_1,hfz48_2,hfz48_3,hfz48_4,hfz48_5,hfz48_6,hfz48_7⟩:=blk8_ BK326.out
       go_wp2_with (first|(refine callA_ (f:=21) (some 61) Tryd.func21 #[.slice A0 l0.length c0,.string (⟨#[83,116,97,99,107,77,97,112,84,97,98,108,101]⟩:ByteArray)] ?_;(with_reducible refine (understudyref05_text.calls k1 _ _ l0 (⟨#[83,116,97,99,107,77,97,112,84,97,98,108,101]⟩:ByteArray) t359 _ ?side1 ?side2 A44.out).mono ?_);(case side1 => exact kc_ (Kd.C_below HR0.out HB.out));(case side2 => exact HC0.out);rintro e w' ⟨rfl,⟨nd,rfl⟩⟩;refine ⟨_,rfl,?_⟩)|((with_reducible refine gate_dst (N:=62) rfl ?_);refine Kd.R_lit (Kd.int .i64) _ 3 ?hg (N:=62) ?hd (xs:=([1,t359]:List Int)) (inner:=[.int .i64 1,.int .i64 t359]) (ok:=fun _ => True) (okp:=fun _ => True) ?hr ?hp (fun _ hk => hk) trivial (Below.refl _ _) (Nat.le_refl _) (by simp) ?_;(case hd => rfl);(case hg => rfl);(case hr => first|(go_simp;done)|(go_simp;rfl));(case hp => exact (Reps.one (show Kd.M (Kd.int .i64) _ _ _ 1 [.int .i64 1] from rfl) (Reps.one (show Kd.M (Kd.int .i64) _ _ _ t359 [.int .i64 t359] from rfl) (Reps.none _ _))));intro v361 w49 ho50 hb hg_ hnew_;clear hg_ hnew_;(first|rw [← Ny360.out] at ho50|(simp only [Int.reduceToNat] at ho50;rw [← Ny360.out] at ho50));have n0_:=Aside0.mk (Kd.R_below (kr_ HO_5.out) hb);have n1_:=Aside0.mk (Kd.R_lower ho50 (below_size bl_));have n2_:=Aside0.mk (blk_below (g:=gb326) (o:=.cells #[.int .i64 a1_0,.int .i64 a1_1,.int .i64 a1_2,.int .i64 a1_3,.int .i64 a1_4,.slice A1_5 l1_5.length c1_5,.slice A1_6 l1_6.length c1_6,.slice A1_7 l1_7.length c1_7] 49 (0,0)) bk_ hb);have n3_:=Aside0.mk (below_step bl_ hb);clear HO_5;clear BK326;clear HB;have HO_5:=n0_;have HO362:=n1_;have BK326:=n2_;have HB:=n3_;clear n0_ n1_ n2_ n3_;clear hb ho50;obtain ⟨Ao51,co51,eo51⟩:=Kd.R_slice HO_5.out;subst eo51;obtain ⟨Ao52,co52,eo52⟩:=Kd.R_slice HO362.out;subst eo52)|(refine callA_ (f:=19) (some 63) Tryd.func19 #[.slice Ao51 x5_1.length co51,.slice Ao52 y360.length co52] ?_;(with_reducible refine (understudyref05_put.calls k1 (fun k_ => some k_=(.slice Ao51 x5_1.length co51:Value).ownBlock) (.slice Ao51 x5_1.length co51) x5_1 _ _ y360 t363 w _ ?side1 ?side2 ?side3 ?side4 A45.out).mono ?_);(case side1 => repeat (first|(with_reducible first|exact HB.out|apply below_alloc|apply pw_below_drewN|apply below_drew1|refine below_set ?_ GE326.out)|exact HB.out));(case side2 => exact Kd.R_tight rfl HO_5.out);(case side3 => exact Kd.C_kept_own ((Kd.R_apart' HO362.out (Kd.R_typed HO_5.out) (by decide))) (fun k_ hk_ hs_ => (hk_.2) hs_));(case side4 => exact (Kd.R_reads' HO362.out).2.1);rintro e w53 ⟨v364,rfl,ho0,hb,hkp⟩;refine ⟨_,rfl,?_⟩;have n0_:=Aside0.mk (blk_kept bk_ hkp (fun hs_ => (fun e_ => (Kd.R_ne HO_5.out BK326.out (by decide)) e_) hs_));have n1_:=Aside0.mk (Kd.R_mono (ok':=fun k_ => True) (Kd.R_keptB ((Kd.R_apart' HO362.out (Kd.R_typed HO_5.out) (by decide))) hkp (fun k_ hk_ hs_ => (hk_.2) hs_)) (fun k_ hk_ => trivial));have n2_:=Aside0.mk (Kd.R_mono (ok':=fun k_ => True) ho0 (fun k_ hk_ => trivial));have n3_:=Aside0.mk (hb);clear BK326;clear HO362;clear HB;clear HO_5;have BK326:=n0_;have HO362:=n1_;have HO365:=n2_;have HB:=n3_;clear n0_ n1_ n2_ n3_;(try clear hb);(try clear hkp);(try clear ho0);obtain ⟨hcz54_0,hcz54_1,hcz54_2,hcz54_3,hcz54_4,hcz54_5,hcz54_6,hcz54_7,hfz54_0,hfz54_1,hfz54_2,hfz54_3,hfz54_4,hfz54_5,hfz54_6,hfz54_7⟩:=blk8_ BK326.out;obtain ⟨Ao55,co55,eo55⟩:=Kd.R_slice HO365.out;subst eo55)|(refine callA_ (f:=22) (some 68) Tryd.func22 #[.slice Ao55 t363.length co55,.int .i64 (l1_7.length:Int)] ?_;(with_reducible refine (understudyref05_four.calls (fun k_ => some k_=(.slice Ao55 t363.length co55:Value).ownBlock) (.slice Ao55 t363.length co55) t363 (l1_7.length:Int) t366 w _ ?side1 ?side2 A46.out).mono ?_);(case side1 => repeat (first|(with_reducible first|exact HB.out|apply below_alloc|apply pw_below_drewN|apply below_drew1|refine below_set ?_ GE326.out)|exact HB.out));(case side2 => exact Kd.R_tight rfl HO365.out);rintro e w56 ⟨v367,rfl,ho0,hb,hkp⟩;refine ⟨_,rfl,?_⟩;have n0_:=Aside0.mk (blk_kept bk_ hkp (fun hs_ => (fun e_ => (Kd.R_ne HO365.out BK326.out (by decide)) e_) hs_));have n1_:=Aside0.mk (Kd.R_mono (ok':=fun k_ => True) (Kd.R_keptB ((Kd.R_apart' HO362.out (Kd.R_typed HO365.out) (by decide))) hkp (fun k_ hk_ hs_ => (hk_.2) hs_)) (fun k_ hk_ => trivial));have n2_:=Aside0.mk (Kd.R_mono (ok':=fun k_ => True) ho0 (fun k_ hk_ => trivial));have n3_:=Aside0.mk (hb);clear BK326;clear HO362;clear HB;clear HO365;have BK326:=n0_;have HO362:=n1_;have HO368:=n2_;have HB:=n3_;clear n0_ n1_ n2_ n3_;(try clear hb);(try clear hkp);(try clear ho0);obtain ⟨hcz57_0,hcz57_1,hcz57_2,hcz57_3,hcz57_4,hcz57_5,hcz57_6,hcz57_7⟩:=blc8_ BK326.out;have hfz57_0:=blk_frozen BK326.out 0;have hfz57_1:=blk_frozen BK326.out 1;have hfz57_2:=blk_frozen BK326.out 2;have hfz57_3:=blk_frozen BK326.out 3;have hfz57_4:=blk_frozen BK326.out 4;have hfz57_5:=blk_frozen BK326.out 5;have hfz57_6:=blk_frozen BK326.out 6;have hfz57_7:=blk_frozen BK326.out 7)|((with_reducible refine gate_builtin (b:=.append) (xs:=#[.tmp 69,.tmp 71]) rfl ?_);at_builtin;refine Kd.R_append_rows (Kd.int .u8) (w0:=w) w.heap.size rfl (.tmp 69) (.tmp 71) 27 5 (.int .u8 0) 1 rfl Tryd.underlying27 info5 rfl (by decide) (by omega) v367 t366 l1_7 _ _ _ (fun _ => True) (fun _ => False) rfl rfl ?aO ?aR (fun _ _ h => h) (fun _ h => h.elim) ?aF ?aB ?aS ?aL ?_;(case aR => exact kc_ (Kd.C_below HR1_7.out HB.out));(case aB => exact bl_);(case aF => exact (fun _ _ => trivial));(case aO => exact (kr_ HO368.out));(case aS => exact (below_size bl_));(case aL => have:=LMc47.out;omega);intro v370 w58 ho hb hg hat;rw [← Ny369.out] at ho;have n0_:=Aside0.mk (blk_grown (g:=gb326) (o:=.cells #[.int .i64 a1_0,.int .i64 a1_1,.int .i64 a1_2,.int .i64 a1_3,.int .i64 a1_4,.slice A1_5 l1_5.length c1_5,.slice A1_6 l1_6.length c1_6,.slice A1_7 l1_7.length c1_7] 49 (0,0)) bk_ hg (Kd.R_ne HO368.out BK326.out (by decide)));have n1_:=Aside0.mk (Kd.R_over' (kr_ HO362.out) (Kd.R_typed (kr_ HO368.out)) (by decide) hg);have n2_:=Aside0.mk (hb);have n3_:=Aside0.mk (ho);clear BK326;clear HO362;clear HB;clear HO368;have BK326:=n0_;have HO362:=n1_;have HB:=n2_;have HO371:=n3_;clear n0_ n1_ n2_ n3_;clear ho hb hg hat))
       go_ret
       exact ⟨_,ew_,kr_ HO371.out,bl_⟩
      ·rw [if_neg c47] at H
       exact absurd H (by simp)
 ·rw [if_neg c5] at H
  exact absurd H (by simp)
end Go.Proofs.YtmloaijagkebpaaDoor.Px
