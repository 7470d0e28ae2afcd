/- class.Encode: what it computes, as a Lean function, and the walk. -/
/- understudylaw05.same, of classes that are alike: true. -/
/- wire.Reader: NewReader, next, Uint, Int, Bytes, At: what they read and where they stand then, as contracts over a reader's block and row. -/
/- class.reader's small methods: must, num, two, same, count, named, long: what they do when all is well, how they die. -/
import Derived.Test.YtbgniepcoaiinaaDoorM1
import Derived.Test.YtbgniepcoaiinaaDoorM2
import Derived.BigCall
import Derived.Deep.CutBlock
import Derived.Deep.RegionHeld3
import Derived.WalkLawsBesides
namespace Go.Proofs.YtbgniepcoaiinaaDoor.Px
open Go.RowKit Go.Proofs.YtbgniepcoaiinaaDoorW.PrintWords Go.Proofs.YtbgniepcoaiinaaDoorW.PrintLast Go.Proofs.YtbgniepcoaiinaaDoorW.PrintMore
attribute [local go_sem] max2_int min2_int max_two min_two max_three min_three max_four min_four
set_option linter.unusedVariables false
set_option linter.unusedSimpArgs false
mutual
def class_Check.l0:Nat→Int→List (S56)→Int→Int→List (S67)→Int→Int→List (S53)→List (S56)→Option (Int)
 | 0,_,_,_,_,_,_,_,_,_ => none
 | k + 1,x4,x27,x28,x29,x162000,x162001,x162002,x162003,x162004 => if x29 < x28 then (if 0≤x29 then (if x29 < (x27.length:Int) then (class_Check.l0 k (mx x4 (((rd_T56 x27 x29).f6).length:Int)) x27 x28 (wrap64 (x29 + 1)) x162000 x162001 x162002 x162003 x162004) else (none)) else (none)) else (if x4 > 64 then (some 2) else ((class_rules_class.f k x162000 (([x162001,x162002]:List Int))).bind fun t169 => (class_Check.l1 k t169 x162003 (x162003.length:Int) 0 x162000 x162001 x162002 x162003 x162004 x162000)))
def class_Check.l1:Nat→Bool→List (S53)→Int→Int→List (S67)→Int→Int→List (S53)→List (S56)→List (S67)→Option (Int)
 | 0,_,_,_,_,_,_,_,_,_,_ => none
 | k + 1,x8,x52,x53,x54,x162000,x162001,x162002,x162003,x162004,x166000 => if x54 < x53 then (if 0≤x54 then (if x54 < (x52.length:Int) then (if x8=true then ((class_flags.f ((rd_T53 x52 x54).f0)).bind fun t172 => (if t172=true then ((class_rules_text.f k x166000 (([(rd_T53 x52 x54).f1,(rd_T53 x52 x54).f2]:List Int))).bind fun t176 => (class_Check.l1 k t176 x52 x53 (wrap64 (x54 + 1)) x162000 x162001 x162002 x162003 x162004 x166000)) else (class_Check.l1 k false x52 x53 (wrap64 (x54 + 1)) x162000 x162001 x162002 x162003 x162004 x166000))) else (class_Check.l1 k false x52 x53 (wrap64 (x54 + 1)) x162000 x162001 x162002 x162003 x162004 x166000)) else (none)) else (none)) else (class_Check.l2 k x8 x162004 (x162004.length:Int) 0 x166000)
def class_Check.l2:Nat→Bool→List (S56)→Int→Int→List (S67)→Option (Int)
 | 0,_,_,_,_,_ => none
 | k + 1,x8,x75,x76,x77,x166000 => if x77 < x76 then (if 0≤x77 then (if x77 < (x75.length:Int) then (if x8=true then ((class_rules_method.f k x166000 ((rd_T56 x75 x77).f0) ((rd_T56 x75 x77).f1) ((rd_T56 x75 x77).f2) ((rd_T56 x75 x77).f3) ((rd_T56 x75 x77).f4) ((rd_T56 x75 x77).f5) ((rd_T56 x75 x77).f6) ((rd_T56 x75 x77).f7)).bind fun t179 => (class_Check.l2 k t179 x75 x76 (wrap64 (x77 + 1)) x166000)) else (class_Check.l2 k false x75 x76 (wrap64 (x77 + 1)) x166000)) else (none)) else (none)) else (if x8=true then (some 0) else (some 50))
end
def class_Check.f (k:Nat) (l0_0:List (S67)) (a0_1:Int) (a0_2:Int) (l0_3:List (S53)) (l0_4:List (S56)):Option (Int):=(pool_Check.f k l0_0).bind fun t162 => (if t162=0 then (class_Check.l0 k (mx (l0_3.length:Int) (l0_4.length:Int)) l0_4 (l0_4.length:Int) 0 l0_0 a0_1 a0_2 l0_3 l0_4) else (some t162))
theorem class_Check.mono_l:∀ k,(∀ y0 y1 y2 y3 y4 y5 y6 y7 y8,LeO (class_Check.l0 k y0 y1 y2 y3 y4 y5 y6 y7 y8) (class_Check.l0 (k + 1) y0 y1 y2 y3 y4 y5 y6 y7 y8))∧(∀ y0 y1 y2 y3 y4 y5 y6 y7 y8 y9,LeO (class_Check.l1 k y0 y1 y2 y3 y4 y5 y6 y7 y8 y9) (class_Check.l1 (k + 1) y0 y1 y2 y3 y4 y5 y6 y7 y8 y9))∧(∀ y0 y1 y2 y3 y4,LeO (class_Check.l2 k y0 y1 y2 y3 y4) (class_Check.l2 (k + 1) y0 y1 y2 y3 y4))
 | 0 => ⟨fun _ _ _ _ _ _ _ _ _ r h => by simp [class_Check.l0] at h,fun _ _ _ _ _ _ _ _ _ _ r h => by simp [class_Check.l1] at h,fun _ _ _ _ _ r h => by simp [class_Check.l2] at h⟩
 | k + 1 => by
  obtain ⟨ih0,ih1,ih2⟩:=class_Check.mono_l k
  refine ⟨?_,?_,?_⟩
  ·intro y0 y1 y2 y3 y4 y5 y6 y7 y8
   unfold class_Check.l0
   repeat' first
   | (with_reducible exact ih0 _ _ _ _ _ _ _ _ _)
   | (with_reducible exact ih1 _ _ _ _ _ _ _ _ _ _)
   | (with_reducible exact ih2 _ _ _ _ _)
   | (with_reducible exact class_rules_class.mono _ _ _)
   | (with_reducible exact class_rules_method.mono _ _ _ _ _ _ _ _ _ _)
   | (with_reducible exact class_rules_text.mono _ _ _)
   | (with_reducible exact pool_Check.mono _ _)
   | (with_reducible exact LeO.refl _)
   | (with_reducible exact LeO.none _)
   | (with_reducible refine LeO.ite ?_ ?_)
   | (with_reducible refine LeO.bind ?_ (fun _ => ?_))
   | exact ih0 _ _ _ _ _ _ _ _ _
   | exact ih1 _ _ _ _ _ _ _ _ _ _
   | exact ih2 _ _ _ _ _
   | exact class_rules_class.mono _ _ _
   | exact class_rules_method.mono _ _ _ _ _ _ _ _ _ _
   | exact class_rules_text.mono _ _ _
   | exact pool_Check.mono _ _
   | exact LeO.none _
   | refine LeO.ite ?_ ?_
   | refine LeO.bind ?_ (fun _ => ?_)
  ·intro y0 y1 y2 y3 y4 y5 y6 y7 y8 y9
   unfold class_Check.l1
   repeat' first
   | (with_reducible exact ih0 _ _ _ _ _ _ _ _ _)
   | (with_reducible exact ih1 _ _ _ _ _ _ _ _ _ _)
   | (with_reducible exact ih2 _ _ _ _ _)
   | (with_reducible exact class_rules_class.mono _ _ _)
   | (with_reducible exact class_rules_method.mono _ _ _ _ _ _ _ _ _ _)
   | (with_reducible exact class_rules_text.mono _ _ _)
   | (with_reducible exact pool_Check.mono _ _)
   | (with_reducible exact LeO.refl _)
   | (with_reducible exact LeO.none _)
   | (with_reducible refine LeO.ite ?_ ?_)
   | (with_reducible refine LeO.bind ?_ (fun _ => ?_))
   | exact ih0 _ _ _ _ _ _ _ _ _
   | exact ih1 _ _ _ _ _ _ _ _ _ _
   | exact ih2 _ _ _ _ _
   | exact class_rules_class.mono _ _ _
   | exact class_rules_method.mono _ _ _ _ _ _ _ _ _ _
   | exact class_rules_text.mono _ _ _
   | exact pool_Check.mono _ _
   | exact LeO.none _
   | refine LeO.ite ?_ ?_
   | refine LeO.bind ?_ (fun _ => ?_)
  ·intro y0 y1 y2 y3 y4
   unfold class_Check.l2
   repeat' first
   | (with_reducible exact ih0 _ _ _ _ _ _ _ _ _)
   | (with_reducible exact ih1 _ _ _ _ _ _ _ _ _ _)
   | (with_reducible exact ih2 _ _ _ _ _)
   | (with_reducible exact class_rules_class.mono _ _ _)
   | (with_reducible exact class_rules_method.mono _ _ _ _ _ _ _ _ _ _)
   | (with_reducible exact class_rules_text.mono _ _ _)
   | (with_reducible exact pool_Check.mono _ _)
   | (with_reducible exact LeO.refl _)
   | (with_reducible exact LeO.none _)
   | (with_reducible refine LeO.ite ?_ ?_)
   | (with_reducible refine LeO.bind ?_ (fun _ => ?_))
   | exact ih0 _ _ _ _ _ _ _ _ _
   | exact ih1 _ _ _ _ _ _ _ _ _ _
   | exact ih2 _ _ _ _ _
   | exact class_rules_class.mono _ _ _
   | exact class_rules_method.mono _ _ _ _ _ _ _ _ _ _
   | exact class_rules_text.mono _ _ _
   | exact pool_Check.mono _ _
   | exact LeO.none _
   | refine LeO.ite ?_ ?_
   | refine LeO.bind ?_ (fun _ => ?_)
theorem class_Check.mono:∀ a0 a1 a2 a3 a4 k,LeO (class_Check.f k a0 a1 a2 a3 a4) (class_Check.f (k + 1) a0 a1 a2 a3 a4):=by
 intro a0 a1 a2 a3 a4 k
 obtain ⟨ih0,ih1,ih2⟩:=class_Check.mono_l k
 unfold class_Check.f
 repeat' first
   | (with_reducible exact ih0 _ _ _ _ _ _ _ _ _)
   | (with_reducible exact ih1 _ _ _ _ _ _ _ _ _ _)
   | (with_reducible exact ih2 _ _ _ _ _)
   | (with_reducible exact class_rules_class.mono _ _ _)
   | (with_reducible exact class_rules_method.mono _ _ _ _ _ _ _ _ _ _)
   | (with_reducible exact class_rules_text.mono _ _ _)
   | (with_reducible exact pool_Check.mono _ _)
   | (with_reducible exact LeO.refl _)
   | (with_reducible exact LeO.none _)
   | (with_reducible refine LeO.ite ?_ ?_)
   | (with_reducible refine LeO.bind ?_ (fun _ => ?_))
   | exact ih0 _ _ _ _ _ _ _ _ _
   | exact ih1 _ _ _ _ _ _ _ _ _ _
   | exact ih2 _ _ _ _ _
   | exact class_rules_class.mono _ _ _
   | exact class_rules_method.mono _ _ _ _ _ _ _ _ _ _
   | exact class_rules_text.mono _ _ _
   | exact pool_Check.mono _ _
   | exact LeO.none _
   | refine LeO.ite ?_ ?_
   | refine LeO.bind ?_ (fun _ => ?_)
set_option maxHeartbeats 80000000 in
set_option maxRecDepth 100000 in
theorem class_Check.calls (k:Nat) (A0_0:Option Addr) (c0_0:Nat) (l0_0:List (S67)) (a0_1:Int) (a0_2:Int) (A0_3:Option Addr) (c0_3:Nat) (l0_3:List (S53)) (A0_4:Option Addr) (c0_4:Nat) (l0_4:List (S56)) (r:Int) (w:World) (hG:Aside0 (GG w)) (hr0_0:Kd.C k67 w A0_0 l0_0.length l0_0) (hc0_0:l0_0.length≤c0_0) (hr0_3:Kd.C k53 w A0_3 l0_3.length l0_3) (hc0_3:l0_3.length≤c0_3) (hr0_4:Kd.C k56 w A0_4 l0_4.length l0_4) (hc0_4:l0_4.length≤c0_4) (h:class_Check.f k l0_0 a0_1 a0_2 l0_3 l0_4=some r) :
  Calls Tryd.prog 10 #[.agg #[.slice A0_0 l0_0.length c0_0,.int .i64 a0_1,.int .i64 a0_2,.slice A0_3 l0_3.length c0_3,.slice A0_4 l0_4.length c0_4]] w fun e w' => e=.returned (.int .i64 r)∧Below w.heap.size w w':=by
 have hu26:=Tryd.underlying26
 have hu56:=Tryd.underlying56
 have hu71:=Tryd.underlying71
 have hu53:=Tryd.underlying53
 have HR0_0:=Aside0.mk hr0_0
 have HC0_0:=Aside0.mk hc0_0
 clear hr0_0 hc0_0
 have HR0_3:=Aside0.mk hr0_3
 have HC0_3:=Aside0.mk hc0_3
 clear hr0_3 hc0_3
 have HR0_4:=Aside0.mk hr0_4
 have HC0_4:=Aside0.mk hc0_4
 clear hr0_4 hc0_4
 have HB:=Aside0.mk (Below.refl w.heap.size w)
 have H:((pool_Check.f k l0_0).bind fun t162 => (if t162=0 then (class_Check.l0 k (mx (l0_3.length:Int) (l0_4.length:Int)) l0_4 (l0_4.length:Int) 0 l0_0 a0_1 a0_2 l0_3 l0_4) else (some t162)))=some r:=h
 clear h
 replace H:=Option.bind_eq_some_iff.mp H
 obtain ⟨t162,A20,H⟩:=H
 replace H:(if t162=0 then (class_Check.l0 k (mx (l0_3.length:Int) (l0_4.length:Int)) l0_4 (l0_4.length:Int) 0 l0_0 a0_1 a0_2 l0_3 l0_4) else (some t162))=some r:=H
 have A2:=Aside0.mk A20
 clear A20
 by_cases c3:t162=0
 ·rw [if_pos c3] at H
  have c3b0:(t162==0)=true:=beq_iff_eq.mpr c3
  have c3b1:(t162 != 0)=false:=bne_eq_false_iff_eq.mpr c3
  clear c3
  obtain ⟨ji4,hji4⟩:∃ j_:Int,(mx (l0_3.length:Int) (l0_4.length:Int))=j_:=⟨_,rfl⟩
  replace H:(class_Check.l0 k ji4 l0_4 (l0_4.length:Int) 0 l0_0 a0_1 a0_2 l0_3 l0_4)=some r:=by first|(rw [hji4] at H;exact H)|(simp only [hji4] at H ⊢;exact H)
  (try rw [hji4] at A2)
  (try (have hji4l:0≤ji4:=by (rw [← hji4];unfold mx;(repeat' split) <;> omega)))
  (try (have hji4m:0≤ji4:=by omega))
  have hji4_:(if (l0_3.length:Int) < (l0_4.length:Int) then (l0_4.length:Int) else (l0_3.length:Int))=ji4:=hji4
  have hji4n_:(if l0_3.length < l0_4.length then (l0_4.length:Int) else (l0_3.length:Int))=ji4:=by (rw [← hji4_];(repeat' split) <;> first|rfl|omega)
  have H':=Aside0.mk H
  clear H
  go_enter Tryd.func10,Tryd.ntmps10
  go_wp2_with (first|((with_reducible refine gate_dst (N:=1) rfl ?_);(try (refine gate_guard (by rfl) ?_;dsimp only));refine box_event ?hg (N:=1) ?hd (cs:=#[.slice A0_0 l0_0.length c0_0,.int .i64 a0_1,.int .i64 a0_2,.slice A0_3 l0_3.length c0_3,.slice A0_4 l0_4.length c0_4]) (t:=26) ?hr ?_;(case hd => rfl);(case hg => rfl);(case hr => first|(go_simp;done)|(go_simp;rfl));intro gb161 hg w5 hbox hb;have n0_:=Aside0.mk (below_step (by repeat (first|(with_reducible first|exact HB.out|apply below_alloc|apply pw_below_drewN|apply below_drew1)|exact HB.out)) hb);have n1_:=Aside0.mk (hbox);have n2_:=Aside0.mk ((by rw [hg];exact (below_size (by repeat (first|(with_reducible first|exact HB.out|apply below_alloc|apply pw_below_drewN|apply below_drew1)|exact HB.out))):w.heap.size≤gb161));have n3_:=Aside0.mk ((by rw [hg];exact (below_size (by repeat (first|(with_reducible first|exact HB.out|apply below_alloc|apply pw_below_drewN|apply below_drew1)|exact HB.out))):w.heap.size≤gb161));clear HB;have HB:=n0_;have BK161:=n1_;have GW161:=n2_;have GE161:=n3_;clear n0_ n1_ n2_ n3_;clear hb hbox hg;have hcz6_0:w5.cell? ⟨gb161,0,none⟩=some (.slice A0_0 l0_0.length c0_0):=(blk_cell BK161.out 0).trans rfl;have hcz6_1:w5.cell? ⟨gb161,1,none⟩=some (.int .i64 a0_1):=(blk_cell BK161.out 1).trans rfl;have hcz6_2:w5.cell? ⟨gb161,2,none⟩=some (.int .i64 a0_2):=(blk_cell BK161.out 2).trans rfl;have hcz6_3:w5.cell? ⟨gb161,3,none⟩=some (.slice A0_3 l0_3.length c0_3):=(blk_cell BK161.out 3).trans rfl;have hcz6_4:w5.cell? ⟨gb161,4,none⟩=some (.slice A0_4 l0_4.length c0_4):=(blk_cell BK161.out 4).trans rfl;have hfz6_0:=blk_frozen BK161.out 0;have hfz6_1:=blk_frozen BK161.out 1;have hfz6_2:=blk_frozen BK161.out 2;have hfz6_3:=blk_frozen BK161.out 3;have hfz6_4:=blk_frozen BK161.out 4)|((with_reducible refine gate_callee (f:=29) rfl ?_);refine goesL_ (some 15) rfl rfl Tryd.func29 (by kernel_rfl) rfl #[.slice A0_0 l0_0.length c0_0] rfl (by (try simp only [List.map_toArray,List.map_cons,List.map_nil]);first|done|rfl|(simp only [List.length_drop,List.length_take];rfl)) ?_;(with_reducible refine (pool_Check.calls k _ _ l0_0 t162 _ ?side3 ?side1 ?side2 A2.out).mono ?_);(case side1 => repeat (first|exact (Kd.C_below HR0_0.out HB.out)|(with_reducible refine Kd.C_alloc ?_ _)|(with_reducible refine Kd.C_drewN ?_ _)|(with_reducible refine Kd.C_drew ?_)));(case side2 => exact HC0_0.out);(case side3 => exact ⟨GG.below hG.out (by repeat (first|(with_reducible first|exact HB.out|apply below_alloc|apply pw_below_drewN|apply below_drew1|refine below_set ?_ GE161.out)|exact HB.out))⟩);rintro e w7 ⟨rfl,hb⟩;refine ⟨_,rfl,?_⟩;have n0_:=Aside0.mk (blk_below (g:=gb161) (o:=.cells #[.slice A0_0 l0_0.length c0_0,.int .i64 a0_1,.int .i64 a0_2,.slice A0_3 l0_3.length c0_3,.slice A0_4 l0_4.length c0_4] 26 (0,0)) (by (with_reducible repeat (first|refine blk_drewN ?_ _|refine blk_drew ?_|refine blk_alloc ?_ _));exact BK161.out) hb);have n1_:=Aside0.mk (below_step (by repeat (first|(with_reducible first|exact HB.out|apply below_alloc|apply pw_below_drewN|apply below_drew1|refine below_set ?_ GE161.out)|exact HB.out)) hb);clear BK161;clear HB;have BK161:=n0_;have HB:=n1_;clear n0_ n1_;(try clear hb);(try clear hb2);(try clear hk);(try clear hi);have hcz8_0:w7.cell? ⟨gb161,0,none⟩=some (.slice A0_0 l0_0.length c0_0):=(blk_cell BK161.out 0).trans rfl;have hcz8_1:w7.cell? ⟨gb161,1,none⟩=some (.int .i64 a0_1):=(blk_cell BK161.out 1).trans rfl;have hcz8_2:w7.cell? ⟨gb161,2,none⟩=some (.int .i64 a0_2):=(blk_cell BK161.out 2).trans rfl;have hcz8_3:w7.cell? ⟨gb161,3,none⟩=some (.slice A0_3 l0_3.length c0_3):=(blk_cell BK161.out 3).trans rfl;have hcz8_4:w7.cell? ⟨gb161,4,none⟩=some (.slice A0_4 l0_4.length c0_4):=(blk_cell BK161.out 4).trans rfl;have hfz8_0:=blk_frozen BK161.out 0;have hfz8_1:=blk_frozen BK161.out 1;have hfz8_2:=blk_frozen BK161.out 2;have hfz8_3:=blk_frozen BK161.out 3;have hfz8_4:=blk_frozen BK161.out 4))
  go_loopg [4,29] k (fun kq v4 v29 w' => ∃ (x4_1:Int) (x29_1:Int),v4=.int .i64 x4_1∧v29=.int .i64 x29_1∧Aside0 (class_Check.l0 kq x4_1 l0_4 (l0_4.length:Int) x29_1 l0_0 a0_1 a0_2 l0_3 l0_4=some r)∧Aside0 (kq≤k)∧Aside0 (w'.heap[gb161]?=some (.cells #[(.slice A0_0 l0_0.length c0_0),.int .i64 a0_1,.int .i64 a0_2,(.slice A0_3 l0_3.length c0_3),(.slice A0_4 l0_4.length c0_4)] 26 (0,0)))∧Aside0 (Below w.heap.size w w'))
  case atStart => exact ⟨(ji4),(0),(by first|rfl|(simp;done)|(simp only [← hji4] <;> (first|rfl|simp))|(simp [*];done)),(by first|rfl|(simp;done)|(simp [*];done)),H',⟨Nat.le_refl _⟩,⟨by (with_reducible repeat (first|refine blk_drewN ?_ _|refine blk_drew ?_|refine blk_alloc ?_ _));exact BK161.out⟩,⟨by repeat (first|(with_reducible first|exact HB.out|apply below_alloc|apply pw_below_drewN|apply below_drew1|refine below_set ?_ GE161.out)|exact HB.out)⟩⟩
  case round =>
   clear H'
   try clear c1;try clear c2;try clear p2;try clear c3;try clear c3b0;try clear c3b1;try clear hcz6_0;try clear hcz6_1;try clear hcz6_2;try clear hcz6_3;try clear hcz6_4;try clear hcz8_0;try clear hcz8_1;try clear hcz8_2;try clear hcz8_3;try clear hcz8_4;try clear hfz6_0;try clear hfz6_1;try clear hfz6_2;try clear hfz6_3;try clear hfz6_4;try clear hfz8_0;try clear hfz8_1;try clear hfz8_2;try clear hfz8_3;try clear hfz8_4
   obtain ⟨x4_1,x29_1,rfl,rfl,HA,HK1,BK161,HB⟩:=hrel
   cases gk with
   | zero => exact absurd HA.out (by simp [class_Check.l0])
   | succ k1 =>
    have H:=HA.out
    clear HA
    simp only [class_Check.l0] at H
    by_cases c9:x29_1 < (l0_4.length:Int)
    ·rw [if_pos c9] at H
     have c9b0:decide (x29_1 < (l0_4.length:Int))=true:=decide_eq_true c9
     clear c9
     by_cases c10:0≤x29_1
     ·rw [if_pos c10] at H
      have c10b0:decide (0≤x29_1)=true:=decide_eq_true c10
      clear c10
      by_cases c11:x29_1 < (l0_4.length:Int)
      ·rw [if_pos c11] at H
       have c11b0:decide (x29_1 < (l0_4.length:Int))=true:=decide_eq_true c11
       clear c11
       obtain ⟨ji12,hji12⟩:∃ j_:Int,(mx x4_1 (((rd_T56 l0_4 x29_1).f6).length:Int))=j_:=⟨_,rfl⟩
       replace H:(class_Check.l0 k1 ji12 l0_4 (l0_4.length:Int) (wrap64 (x29_1 + 1)) l0_0 a0_1 a0_2 l0_3 l0_4)=some r:=by first|(rw [hji12] at H;exact H)|(simp only [hji12] at H ⊢;exact H)
       have hji12_:(if x4_1 < (((rd_T56 l0_4 x29_1).f6).length:Int) then (((rd_T56 l0_4 x29_1).f6).length:Int) else x4_1)=ji12:=hji12
       have H':=Aside0.mk H
       clear H
       have p163:0≤(x29_1:Int):=of_decide_eq_true (by first|(with_reducible assumption)|assumption)
       have q163:x29_1 < (l0_4.length:Int):=of_decide_eq_true (by first|(with_reducible assumption)|assumption)
       obtain ⟨ad163,A163_5,c163_5,A163_6,c163_6,A163_7,c163_7,e163,hx163_0,hx163_1,hx163_2,hx163_3,hx163_4,hx163_5,hx163_6,hx163_7,hl163_5,hi163_5,hl163_6,hi163_6,hl163_7,hi163_7⟩:=at_T56 HR0_4.out x29_1 p163 q163
       cases e163
       replace hx163_0:=(HB.out.cell (World.block_lt_of_cell? w _ hx163_0)).trans hx163_0
       replace hx163_1:=(HB.out.cell (World.block_lt_of_cell? w _ hx163_1)).trans hx163_1
       replace hx163_2:=(HB.out.cell (World.block_lt_of_cell? w _ hx163_2)).trans hx163_2
       replace hx163_3:=(HB.out.cell (World.block_lt_of_cell? w _ hx163_3)).trans hx163_3
       replace hx163_4:=(HB.out.cell (World.block_lt_of_cell? w _ hx163_4)).trans hx163_4
       replace hx163_5:=(HB.out.cell (World.block_lt_of_cell? w _ hx163_5)).trans hx163_5
       replace hx163_6:=(HB.out.cell (World.block_lt_of_cell? w _ hx163_6)).trans hx163_6
       replace hx163_7:=(HB.out.cell (World.block_lt_of_cell? w _ hx163_7)).trans hx163_7
       have HR163_5:=Aside0.mk hi163_5
       have HC163_5:=Aside0.mk hl163_5
       clear hi163_5 hl163_5
       have HR163_6:=Aside0.mk hi163_6
       have HC163_6:=Aside0.mk hl163_6
       clear hi163_6 hl163_6
       have HR163_7:=Aside0.mk hi163_7
       have HC163_7:=Aside0.mk hl163_7
       clear hi163_7 hl163_7
       replace p163:=eq_true p163
       replace q163:=eq_true q163
       go_wp2_with (first|((with_reducible refine gate_dst (N:=6) rfl ?_);(try (refine gate_guard (by rfl) ?_;dsimp only));refine box_event ?hg (N:=6) ?hd (cs:=#[.int .i64 0,.int .i64 0,.int .i64 0,.int .i64 0,.int .i64 0,.slice none 0 0,.slice none 0 0,.slice none 0 0]) (t:=56) ?hr ?_;(case hd => rfl);(case hg => rfl);(case hr => first|(go_simp;done)|(go_simp;rfl));intro gb164 hg w13 hbox hb;have n0_:=Aside0.mk (blk_below (g:=gb161) (o:=.cells #[.slice A0_0 l0_0.length c0_0,.int .i64 a0_1,.int .i64 a0_2,.slice A0_3 l0_3.length c0_3,.slice (some ad163) l0_4.length c0_4] 26 (0,0)) (by (with_reducible repeat (first|refine blk_drewN ?_ _|refine blk_drew ?_|refine blk_alloc ?_ _));exact BK161.out) hb);have n1_:=Aside0.mk (below_step (by repeat (first|(with_reducible first|exact HB.out|apply below_alloc|apply pw_below_drewN|apply below_drew1|refine below_set ?_ GE161.out)|exact HB.out)) hb);have n2_:=Aside0.mk (hbox);have n3_:=Aside0.mk ((by rw [hg];exact (below_size (by repeat (first|(with_reducible first|exact HB.out|apply below_alloc|apply pw_below_drewN|apply below_drew1|refine below_set ?_ GE161.out)|exact HB.out))):w.heap.size≤gb164));have n4_:=Aside0.mk ((by rw [hg];exact (below_size (by repeat (first|(with_reducible first|exact HB.out|apply below_alloc|apply pw_below_drewN|apply below_drew1|refine below_set ?_ GE161.out)|exact HB.out))):w.heap.size≤gb164));have n5_:=Aside0.mk ((by rw [hg];exact Nat.ne_of_lt (blk_lt (g:=gb161) (o:=.cells #[.slice A0_0 l0_0.length c0_0,.int .i64 a0_1,.int .i64 a0_2,.slice A0_3 l0_3.length c0_3,.slice (some ad163) l0_4.length c0_4] 26 (0,0)) (by (with_reducible repeat (first|refine blk_drewN ?_ _|refine blk_drew ?_|refine blk_alloc ?_ _));exact BK161.out)):gb161 ≠ gb164));have n6_:=Aside0.mk ((by rw [hg];exact Nat.ne_of_gt (blk_lt (g:=gb161) (o:=.cells #[.slice A0_0 l0_0.length c0_0,.int .i64 a0_1,.int .i64 a0_2,.slice A0_3 l0_3.length c0_3,.slice (some ad163) l0_4.length c0_4] 26 (0,0)) (by (with_reducible repeat (first|refine blk_drewN ?_ _|refine blk_drew ?_|refine blk_alloc ?_ _));exact BK161.out)):gb164 ≠ gb161));clear BK161;clear HB;have BK161:=n0_;have HB:=n1_;have BK164:=n2_;have GW164:=n3_;have GE164:=n4_;have NB161_164:=n5_;have NB164_161:=n6_;clear n0_ n1_ n2_ n3_ n4_ n5_ n6_;clear hb hbox hg;have hnb14:=NB164_161.out;have hnc14:=NB161_164.out;have hcz15_0:w13.cell? ⟨gb164,0,none⟩=some (.int .i64 0):=(blk_cell BK164.out 0).trans rfl;have hcz15_1:w13.cell? ⟨gb164,1,none⟩=some (.int .i64 0):=(blk_cell BK164.out 1).trans rfl;have hcz15_2:w13.cell? ⟨gb164,2,none⟩=some (.int .i64 0):=(blk_cell BK164.out 2).trans rfl;have hcz15_3:w13.cell? ⟨gb164,3,none⟩=some (.int .i64 0):=(blk_cell BK164.out 3).trans rfl;have hcz15_4:w13.cell? ⟨gb164,4,none⟩=some (.int .i64 0):=(blk_cell BK164.out 4).trans rfl;have hcz15_5:w13.cell? ⟨gb164,5,none⟩=some (.slice none 0 0):=(blk_cell BK164.out 5).trans rfl;have hcz15_6:w13.cell? ⟨gb164,6,none⟩=some (.slice none 0 0):=(blk_cell BK164.out 6).trans rfl;have hcz15_7:w13.cell? ⟨gb164,7,none⟩=some (.slice none 0 0):=(blk_cell BK164.out 7).trans rfl;have hfz15_0:=blk_frozen BK164.out 0;have hfz15_1:=blk_frozen BK164.out 1;have hfz15_2:=blk_frozen BK164.out 2;have hfz15_3:=blk_frozen BK164.out 3;have hfz15_4:=blk_frozen BK164.out 4;have hfz15_5:=blk_frozen BK164.out 5;have hfz15_6:=blk_frozen BK164.out 6;have hfz15_7:=blk_frozen BK164.out 7)|((with_reducible refine gate_store (t:=56) (p:=6) rfl ?_);refine store_event (t:=56) (p:=6) (v:=?vo_w16) (w1:=((((((((w13.setCell ⟨gb164,0,none⟩ (.int .i64 ((rd_T56 l0_4 x29_1).f0))).setCell ⟨gb164,1,none⟩ (.int .i64 ((rd_T56 l0_4 x29_1).f1))).setCell ⟨gb164,2,none⟩ (.int .i64 ((rd_T56 l0_4 x29_1).f2))).setCell ⟨gb164,3,none⟩ (.int .i64 ((rd_T56 l0_4 x29_1).f3))).setCell ⟨gb164,4,none⟩ (.int .i64 ((rd_T56 l0_4 x29_1).f4))).setCell ⟨gb164,5,none⟩ (.slice A163_5 ((rd_T56 l0_4 x29_1).f5).length c163_5)).setCell ⟨gb164,6,none⟩ (.slice A163_6 ((rd_T56 l0_4 x29_1).f6).length c163_6)).setCell ⟨gb164,7,none⟩ (.slice A163_7 ((rd_T56 l0_4 x29_1).f7).length c163_7))) ?hg ?ho ?hn ?hr ?_;(case ho => rfl);(case hg => rfl);(case hn => rfl);(case hr => first|(go_simp;done)|(go_simp;rfl));intro w16 hw;have n0_:Aside0 (w16.heap[gb161]?=some (.cells #[.slice A0_0 l0_0.length c0_0,.int .i64 a0_1,.int .i64 a0_2,.slice A0_3 l0_3.length c0_3,.slice (some ad163) l0_4.length c0_4] 26 (0,0))):=⟨(by rw [hw];exact (by (with_reducible repeat (first|refine blk_drewN ?_ _|refine blk_drew ?_|refine blk_alloc ?_ _));refine blk_far ?_ NB161_164.out _;(with_reducible repeat (first|refine blk_drewN ?_ _|refine blk_drew ?_|refine blk_alloc ?_ _));refine blk_far ?_ NB161_164.out _;(with_reducible repeat (first|refine blk_drewN ?_ _|refine blk_drew ?_|refine blk_alloc ?_ _));refine blk_far ?_ NB161_164.out _;(with_reducible repeat (first|refine blk_drewN ?_ _|refine blk_drew ?_|refine blk_alloc ?_ _));refine blk_far ?_ NB161_164.out _;(with_reducible repeat (first|refine blk_drewN ?_ _|refine blk_drew ?_|refine blk_alloc ?_ _));refine blk_far ?_ NB161_164.out _;(with_reducible repeat (first|refine blk_drewN ?_ _|refine blk_drew ?_|refine blk_alloc ?_ _));refine blk_far ?_ NB161_164.out _;(with_reducible repeat (first|refine blk_drewN ?_ _|refine blk_drew ?_|refine blk_alloc ?_ _));refine blk_far ?_ NB161_164.out _;(with_reducible repeat (first|refine blk_drewN ?_ _|refine blk_drew ?_|refine blk_alloc ?_ _));refine blk_far ?_ NB161_164.out _;(with_reducible repeat (first|refine blk_drewN ?_ _|refine blk_drew ?_|refine blk_alloc ?_ _));exact BK161.out))⟩;have n1_:Aside0 (w16.heap[gb164]?=some (.cells #[.int .i64 ((rd_T56 l0_4 x29_1).f0),.int .i64 ((rd_T56 l0_4 x29_1).f1),.int .i64 ((rd_T56 l0_4 x29_1).f2),.int .i64 ((rd_T56 l0_4 x29_1).f3),.int .i64 ((rd_T56 l0_4 x29_1).f4),.slice A163_5 ((rd_T56 l0_4 x29_1).f5).length c163_5,.slice A163_6 ((rd_T56 l0_4 x29_1).f6).length c163_6,.slice A163_7 ((rd_T56 l0_4 x29_1).f7).length c163_7] 56 (0,0))):=⟨(by rw [hw];exact (by (with_reducible repeat (first|refine blk_drewN ?_ _|refine blk_drew ?_|refine blk_alloc ?_ _));refine blk_put (cs:=#[.int .i64 ((rd_T56 l0_4 x29_1).f0),.int .i64 ((rd_T56 l0_4 x29_1).f1),.int .i64 ((rd_T56 l0_4 x29_1).f2),.int .i64 ((rd_T56 l0_4 x29_1).f3),.int .i64 ((rd_T56 l0_4 x29_1).f4),.slice A163_5 ((rd_T56 l0_4 x29_1).f5).length c163_5,.slice A163_6 ((rd_T56 l0_4 x29_1).f6).length c163_6,.slice none 0 0]) ?_ 7 _ rfl;(with_reducible repeat (first|refine blk_drewN ?_ _|refine blk_drew ?_|refine blk_alloc ?_ _));refine blk_put (cs:=#[.int .i64 ((rd_T56 l0_4 x29_1).f0),.int .i64 ((rd_T56 l0_4 x29_1).f1),.int .i64 ((rd_T56 l0_4 x29_1).f2),.int .i64 ((rd_T56 l0_4 x29_1).f3),.int .i64 ((rd_T56 l0_4 x29_1).f4),.slice A163_5 ((rd_T56 l0_4 x29_1).f5).length c163_5,.slice none 0 0,.slice none 0 0]) ?_ 6 _ rfl;(with_reducible repeat (first|refine blk_drewN ?_ _|refine blk_drew ?_|refine blk_alloc ?_ _));refine blk_put (cs:=#[.int .i64 ((rd_T56 l0_4 x29_1).f0),.int .i64 ((rd_T56 l0_4 x29_1).f1),.int .i64 ((rd_T56 l0_4 x29_1).f2),.int .i64 ((rd_T56 l0_4 x29_1).f3),.int .i64 ((rd_T56 l0_4 x29_1).f4),.slice none 0 0,.slice none 0 0,.slice none 0 0]) ?_ 5 _ rfl;(with_reducible repeat (first|refine blk_drewN ?_ _|refine blk_drew ?_|refine blk_alloc ?_ _));refine blk_put (cs:=#[.int .i64 ((rd_T56 l0_4 x29_1).f0),.int .i64 ((rd_T56 l0_4 x29_1).f1),.int .i64 ((rd_T56 l0_4 x29_1).f2),.int .i64 ((rd_T56 l0_4 x29_1).f3),.int .i64 0,.slice none 0 0,.slice none 0 0,.slice none 0 0]) ?_ 4 _ rfl;(with_reducible repeat (first|refine blk_drewN ?_ _|refine blk_drew ?_|refine blk_alloc ?_ _));refine blk_put (cs:=#[.int .i64 ((rd_T56 l0_4 x29_1).f0),.int .i64 ((rd_T56 l0_4 x29_1).f1),.int .i64 ((rd_T56 l0_4 x29_1).f2),.int .i64 0,.int .i64 0,.slice none 0 0,.slice none 0 0,.slice none 0 0]) ?_ 3 _ rfl;(with_reducible repeat (first|refine blk_drewN ?_ _|refine blk_drew ?_|refine blk_alloc ?_ _));refine blk_put (cs:=#[.int .i64 ((rd_T56 l0_4 x29_1).f0),.int .i64 ((rd_T56 l0_4 x29_1).f1),.int .i64 0,.int .i64 0,.int .i64 0,.slice none 0 0,.slice none 0 0,.slice none 0 0]) ?_ 2 _ rfl;(with_reducible repeat (first|refine blk_drewN ?_ _|refine blk_drew ?_|refine blk_alloc ?_ _));refine blk_put (cs:=#[.int .i64 ((rd_T56 l0_4 x29_1).f0),.int .i64 0,.int .i64 0,.int .i64 0,.int .i64 0,.slice none 0 0,.slice none 0 0,.slice none 0 0]) ?_ 1 _ rfl;(with_reducible repeat (first|refine blk_drewN ?_ _|refine blk_drew ?_|refine blk_alloc ?_ _));refine blk_put (cs:=#[.int .i64 0,.int .i64 0,.int .i64 0,.int .i64 0,.int .i64 0,.slice none 0 0,.slice none 0 0,.slice none 0 0]) ?_ 0 _ rfl;(with_reducible repeat (first|refine blk_drewN ?_ _|refine blk_drew ?_|refine blk_alloc ?_ _));exact BK164.out))⟩;have n2_:Aside0 (Below w.heap.size w w16):=⟨(by rw [hw];exact (by repeat (first|(with_reducible first|exact HB.out|apply below_alloc|apply pw_below_drewN|apply below_drew1|refine below_set ?_ GE161.out|refine below_set ?_ GE164.out)|exact HB.out)))⟩;clear hw;clear BK161;clear BK164;clear HB;have BK161:=n0_;have BK164:=n1_;have HB:=n2_;clear n0_ n1_ n2_;have hcz17_0:w16.cell? ⟨gb164,0,none⟩=some (.int .i64 ((rd_T56 l0_4 x29_1).f0)):=(blk_cell BK164.out 0).trans rfl;have hcz17_1:w16.cell? ⟨gb164,1,none⟩=some (.int .i64 ((rd_T56 l0_4 x29_1).f1)):=(blk_cell BK164.out 1).trans rfl;have hcz17_2:w16.cell? ⟨gb164,2,none⟩=some (.int .i64 ((rd_T56 l0_4 x29_1).f2)):=(blk_cell BK164.out 2).trans rfl;have hcz17_3:w16.cell? ⟨gb164,3,none⟩=some (.int .i64 ((rd_T56 l0_4 x29_1).f3)):=(blk_cell BK164.out 3).trans rfl;have hcz17_4:w16.cell? ⟨gb164,4,none⟩=some (.int .i64 ((rd_T56 l0_4 x29_1).f4)):=(blk_cell BK164.out 4).trans rfl;have hcz17_5:w16.cell? ⟨gb164,5,none⟩=some (.slice A163_5 ((rd_T56 l0_4 x29_1).f5).length c163_5):=(blk_cell BK164.out 5).trans rfl;have hcz17_6:w16.cell? ⟨gb164,6,none⟩=some (.slice A163_6 ((rd_T56 l0_4 x29_1).f6).length c163_6):=(blk_cell BK164.out 6).trans rfl;have hcz17_7:w16.cell? ⟨gb164,7,none⟩=some (.slice A163_7 ((rd_T56 l0_4 x29_1).f7).length c163_7):=(blk_cell BK164.out 7).trans rfl;have hfz17_0:=blk_frozen BK164.out 0;have hfz17_1:=blk_frozen BK164.out 1;have hfz17_2:=blk_frozen BK164.out 2;have hfz17_3:=blk_frozen BK164.out 3;have hfz17_4:=blk_frozen BK164.out 4;have hfz17_5:=blk_frozen BK164.out 5;have hfz17_6:=blk_frozen BK164.out 6;have hfz17_7:=blk_frozen BK164.out 7))
       go_roundg k1
       case measure => have:=HK1.out;omega
       case rel => exact ⟨(ji12),(wrap64 (x29_1 + 1)),(by first|rfl|(simp;done)|(simp only [← hji12] <;> (first|rfl|simp))|(simp [*];done)),(by first|rfl|(simp;done)|(simp [*];done)),H',⟨by have:=HK1.out;omega⟩,⟨by (with_reducible repeat (first|refine blk_drewN ?_ _|refine blk_drew ?_|refine blk_alloc ?_ _));exact BK161.out⟩,⟨by repeat (first|(with_reducible first|exact HB.out|apply below_alloc|apply pw_below_drewN|apply below_drew1|refine below_set ?_ GE161.out|refine below_set ?_ GE164.out)|exact HB.out)⟩⟩
      ·rw [if_neg c11] at H
       exact absurd H (by simp)
     ·rw [if_neg c10] at H
      exact absurd H (by simp)
    ·rw [if_neg c9] at H
     have c9b0:decide (x29_1 < (l0_4.length:Int))=false:=decide_eq_false c9
     clear c9
     by_cases c18:x4_1 > 64
     ·rw [if_pos c18] at H
      have c18b0:decide (64 < x4_1)=true:=decide_eq_true c18
      clear c18
      obtain rfl:=Option.some.inj H
      go_wp2
      go_ret
      exact ⟨by first|rfl|(simp [errW_none,errW_some] <;> rfl)|(simp only [← hji4];first|rfl|(simp [errW_none,errW_some] <;> rfl))|(simp [*,errW_none,errW_some] <;> rfl),by repeat (first|(with_reducible first|exact HB.out|apply below_alloc|apply pw_below_drewN|apply below_drew1|refine below_set ?_ GE161.out)|exact HB.out)⟩
     ·rw [if_neg c18] at H
      have c18b0:decide (64 < x4_1)=false:=decide_eq_false c18
      clear c18
      obtain ⟨y166,hy166⟩:∃ y_:List Int,y_=(([a0_1,a0_2]:List Int)):=⟨_,rfl⟩
      replace H:((class_rules_class.f k1 l0_0 y166).bind fun t169 => (class_Check.l1 k1 t169 l0_3 (l0_3.length:Int) 0 l0_0 a0_1 a0_2 l0_3 l0_4 l0_0))=some r:=by first|(rw [hy166];with_reducible exact H)|(have H2_:=(Option.bind_some _ _).symm.trans H;rw [hy166];with_reducible exact H2_)|(have H2_:=(Option.bind_some _ _).symm.trans H;with_reducible exact H2_)|with_reducible exact H|(rw [hy166];exact H)|exact H
      have Ny166:=Aside0.mk hy166
      clear hy166
      replace H:=Option.bind_eq_some_iff.mp H
      obtain ⟨t169,A190,H⟩:=H
      replace H:(class_Check.l1 k1 t169 l0_3 (l0_3.length:Int) 0 l0_0 a0_1 a0_2 l0_3 l0_4 l0_0)=some r:=H
      have A19:=Aside0.mk A190
      clear A190
      have H':=Aside0.mk H
      clear H
      have hcz20_0:wr.cell? ⟨gb161,0,none⟩=some (.slice A0_0 l0_0.length c0_0):=(blk_cell BK161.out 0).trans rfl
      have hcz20_1:wr.cell? ⟨gb161,1,none⟩=some (.int .i64 a0_1):=(blk_cell BK161.out 1).trans rfl
      have hcz20_2:wr.cell? ⟨gb161,2,none⟩=some (.int .i64 a0_2):=(blk_cell BK161.out 2).trans rfl
      have hcz20_3:wr.cell? ⟨gb161,3,none⟩=some (.slice A0_3 l0_3.length c0_3):=(blk_cell BK161.out 3).trans rfl
      have hcz20_4:wr.cell? ⟨gb161,4,none⟩=some (.slice A0_4 l0_4.length c0_4):=(blk_cell BK161.out 4).trans rfl
      have hfz20_0:=blk_frozen BK161.out 0
      have hfz20_1:=blk_frozen BK161.out 1
      have hfz20_2:=blk_frozen BK161.out 2
      have hfz20_3:=blk_frozen BK161.out 3
      have hfz20_4:=blk_frozen BK161.out 4
      go_wp2_with (first|((with_reducible refine gate_dst (N:=7) rfl ?_);(try (refine gate_guard (by rfl) ?_;dsimp only));refine box_event ?hg (N:=7) ?hd (cs:=#[.slice none 0 0]) (t:=71) ?hr ?_;(case hd => rfl);(case hg => rfl);(case hr => first|(go_simp;done)|(go_simp;rfl));intro gb165 hg w21 hbox hb;have n0_:=Aside0.mk (blk_below (g:=gb161) (o:=.cells #[.slice A0_0 l0_0.length c0_0,.int .i64 a0_1,.int .i64 a0_2,.slice A0_3 l0_3.length c0_3,.slice A0_4 l0_4.length c0_4] 26 (0,0)) (by (with_reducible repeat (first|refine blk_drewN ?_ _|refine blk_drew ?_|refine blk_alloc ?_ _));exact BK161.out) hb);have n1_:=Aside0.mk (below_step (by repeat (first|(with_reducible first|exact HB.out|apply below_alloc|apply pw_below_drewN|apply below_drew1|refine below_set ?_ GE161.out)|exact HB.out)) hb);have n2_:=Aside0.mk (hbox);have n3_:=Aside0.mk ((by rw [hg];exact (below_size (by repeat (first|(with_reducible first|exact HB.out|apply below_alloc|apply pw_below_drewN|apply below_drew1|refine below_set ?_ GE161.out)|exact HB.out))):w.heap.size≤gb165));have n4_:=Aside0.mk ((by rw [hg];exact (below_size (by repeat (first|(with_reducible first|exact HB.out|apply below_alloc|apply pw_below_drewN|apply below_drew1|refine below_set ?_ GE161.out)|exact HB.out))):w.heap.size≤gb165));have n5_:=Aside0.mk ((by rw [hg];exact Nat.ne_of_lt (blk_lt (g:=gb161) (o:=.cells #[.slice A0_0 l0_0.length c0_0,.int .i64 a0_1,.int .i64 a0_2,.slice A0_3 l0_3.length c0_3,.slice A0_4 l0_4.length c0_4] 26 (0,0)) (by (with_reducible repeat (first|refine blk_drewN ?_ _|refine blk_drew ?_|refine blk_alloc ?_ _));exact BK161.out)):gb161 ≠ gb165));have n6_:=Aside0.mk ((by rw [hg];exact Nat.ne_of_gt (blk_lt (g:=gb161) (o:=.cells #[.slice A0_0 l0_0.length c0_0,.int .i64 a0_1,.int .i64 a0_2,.slice A0_3 l0_3.length c0_3,.slice A0_4 l0_4.length c0_4] 26 (0,0)) (by (with_reducible repeat (first|refine blk_drewN ?_ _|refine blk_drew ?_|refine blk_alloc ?_ _));exact BK161.out)):gb165 ≠ gb161));clear BK161;clear HB;have BK161:=n0_;have HB:=n1_;have BK165:=n2_;have GW165:=n3_;have GE165:=n4_;have NB161_165:=n5_;have NB165_161:=n6_;clear n0_ n1_ n2_ n3_ n4_ n5_ n6_;clear hb hbox hg;have hnb22:=NB165_161.out;have hnc22:=NB161_165.out;have hcz23_0:w21.cell? ⟨gb165,0,none⟩=some (.slice none 0 0):=(blk_cell BK165.out 0).trans rfl;have hfz23_0:=blk_frozen BK165.out 0;have hcz24_0:w21.cell? ⟨gb161,0,none⟩=some (.slice A0_0 l0_0.length c0_0):=(blk_cell BK161.out 0).trans rfl;have hcz24_1:w21.cell? ⟨gb161,1,none⟩=some (.int .i64 a0_1):=(blk_cell BK161.out 1).trans rfl;have hcz24_2:w21.cell? ⟨gb161,2,none⟩=some (.int .i64 a0_2):=(blk_cell BK161.out 2).trans rfl;have hcz24_3:w21.cell? ⟨gb161,3,none⟩=some (.slice A0_3 l0_3.length c0_3):=(blk_cell BK161.out 3).trans rfl;have hcz24_4:w21.cell? ⟨gb161,4,none⟩=some (.slice A0_4 l0_4.length c0_4):=(blk_cell BK161.out 4).trans rfl;have hfz24_0:=blk_frozen BK161.out 0;have hfz24_1:=blk_frozen BK161.out 1;have hfz24_2:=blk_frozen BK161.out 2;have hfz24_3:=blk_frozen BK161.out 3;have hfz24_4:=blk_frozen BK161.out 4)|((with_reducible refine gate_dst (N:=49) rfl ?_);(try (refine gate_guard (by rfl) ?_;dsimp only));refine Kd.R_lit (Kd.int .i64) _ 3 ?hg (N:=49) ?hd (xs:=([a0_1,a0_2]:List Int)) (inner:=[.int .i64 a0_1,.int .i64 a0_2]) (ok:=fun _ => True) (okp:=fun _ => True) ?hr ?hp (fun _ hk => hk) trivial (Below.refl _ _) (Nat.le_refl _) (by simp) ?_;(case hd => rfl);(case hg => rfl);(case hr => first|(go_simp;done)|(go_simp;rfl));(case hp => exact (Reps.one (show Kd.M (Kd.int .i64) _ _ _ a0_1 [.int .i64 a0_1] from rfl) (Reps.one (show Kd.M (Kd.int .i64) _ _ _ a0_2 [.int .i64 a0_2] from rfl) (Reps.none _ _))));intro v167 w25 ho26 hb hg_ hnew_;clear hg_ hnew_;(first|rw [← Ny166.out] at ho26|(simp only [Int.reduceToNat] at ho26;rw [← Ny166.out] at ho26));have n0_:=Aside0.mk (Kd.R_lower ho26 (below_size (by repeat (first|(with_reducible first|exact HB.out|apply below_alloc|apply pw_below_drewN|apply below_drew1|refine below_set ?_ GE161.out|refine below_set ?_ GE165.out)|exact HB.out))));have n1_:=Aside0.mk (blk_below (g:=gb161) (o:=.cells #[.slice A0_0 l0_0.length c0_0,.int .i64 a0_1,.int .i64 a0_2,.slice A0_3 l0_3.length c0_3,.slice A0_4 l0_4.length c0_4] 26 (0,0)) (by (with_reducible repeat (first|refine blk_drewN ?_ _|refine blk_drew ?_|refine blk_alloc ?_ _));refine blk_far ?_ NB161_165.out _;(with_reducible repeat (first|refine blk_drewN ?_ _|refine blk_drew ?_|refine blk_alloc ?_ _));exact BK161.out) hb);have n2_:=Aside0.mk (blk_below (g:=gb165) (o:=.cells #[.slice A0_0 l0_0.length c0_0] 71 (0,0)) (by (with_reducible repeat (first|refine blk_drewN ?_ _|refine blk_drew ?_|refine blk_alloc ?_ _));refine blk_put (cs:=#[.slice none 0 0]) ?_ 0 _ rfl;(with_reducible repeat (first|refine blk_drewN ?_ _|refine blk_drew ?_|refine blk_alloc ?_ _));exact BK165.out) hb);have n3_:=Aside0.mk (below_step (by repeat (first|(with_reducible first|exact HB.out|apply below_alloc|apply pw_below_drewN|apply below_drew1|refine below_set ?_ GE161.out|refine below_set ?_ GE165.out)|exact HB.out)) hb);clear BK161;clear BK165;clear HB;have HO168:=n0_;have BK161:=n1_;have BK165:=n2_;have HB:=n3_;clear n0_ n1_ n2_ n3_;clear hb ho26;obtain ⟨Ao27,co27,eo27⟩:=Kd.R_slice HO168.out;subst eo27)|((with_reducible refine gate_callee (f:=30) rfl ?_);refine goesL_ (some 50) rfl rfl Tryd.func30 (by kernel_rfl) rfl #[.agg #[.slice A0_0 l0_0.length c0_0],.slice Ao27 y166.length co27] rfl (by (try simp only [List.map_toArray,List.map_cons,List.map_nil]);first|done|rfl|(simp only [List.length_drop,List.length_take];rfl)) ?_;(with_reducible refine (class_rules_class.calls k1 _ _ l0_0 _ _ y166 t169 _ ?side1 ?side2 ?side3 ?side4 A19.out).mono ?_);(case side1 => repeat (first|exact (Kd.C_below HR0_0.out HB.out)|(with_reducible refine Kd.C_alloc ?_ _)|(with_reducible refine Kd.C_drewN ?_ _)|(with_reducible refine Kd.C_drew ?_)));(case side2 => exact HC0_0.out);(case side3 => repeat (first|exact (Kd.R_reads' HO168.out).2.2|(with_reducible refine Kd.C_alloc ?_ _)|(with_reducible refine Kd.C_drewN ?_ _)|(with_reducible refine Kd.C_drew ?_)));(case side4 => exact (Kd.R_reads' HO168.out).2.1);rintro e w28 ⟨rfl,hb⟩;refine ⟨_,rfl,?_⟩;have n0_:=Aside0.mk (Kd.R_below (by (with_reducible repeat (first|apply Kd.R_alloc|apply Kd.R_drewN|apply Kd.R_drew));exact HO168.out) hb);have n1_:=Aside0.mk (blk_below (g:=gb161) (o:=.cells #[.slice A0_0 l0_0.length c0_0,.int .i64 a0_1,.int .i64 a0_2,.slice A0_3 l0_3.length c0_3,.slice A0_4 l0_4.length c0_4] 26 (0,0)) (by (with_reducible repeat (first|refine blk_drewN ?_ _|refine blk_drew ?_|refine blk_alloc ?_ _));exact BK161.out) hb);have n2_:=Aside0.mk (blk_below (g:=gb165) (o:=.cells #[.slice A0_0 l0_0.length c0_0] 71 (0,0)) (by (with_reducible repeat (first|refine blk_drewN ?_ _|refine blk_drew ?_|refine blk_alloc ?_ _));exact BK165.out) hb);have n3_:=Aside0.mk (below_step (by repeat (first|(with_reducible first|exact HB.out|apply below_alloc|apply pw_below_drewN|apply below_drew1|refine below_set ?_ GE161.out|refine below_set ?_ GE165.out)|exact HB.out)) hb);clear HO168;clear BK161;clear BK165;clear HB;have HO168:=n0_;have BK161:=n1_;have BK165:=n2_;have HB:=n3_;clear n0_ n1_ n2_ n3_;(try clear hb);(try clear hb2);(try clear hk);(try clear hi);have hcz29_0:w28.cell? ⟨gb161,0,none⟩=some (.slice A0_0 l0_0.length c0_0):=(blk_cell BK161.out 0).trans rfl;have hcz29_1:w28.cell? ⟨gb161,1,none⟩=some (.int .i64 a0_1):=(blk_cell BK161.out 1).trans rfl;have hcz29_2:w28.cell? ⟨gb161,2,none⟩=some (.int .i64 a0_2):=(blk_cell BK161.out 2).trans rfl;have hcz29_3:w28.cell? ⟨gb161,3,none⟩=some (.slice A0_3 l0_3.length c0_3):=(blk_cell BK161.out 3).trans rfl;have hcz29_4:w28.cell? ⟨gb161,4,none⟩=some (.slice A0_4 l0_4.length c0_4):=(blk_cell BK161.out 4).trans rfl;have hfz29_0:=blk_frozen BK161.out 0;have hfz29_1:=blk_frozen BK161.out 1;have hfz29_2:=blk_frozen BK161.out 2;have hfz29_3:=blk_frozen BK161.out 3;have hfz29_4:=blk_frozen BK161.out 4))
      go_loopg [8,54] k1 (fun kq v8 v54 w' => ∃ (x8_2:Bool) (x54_2:Int),v8=.bool x8_2∧v54=.int .i64 x54_2∧Aside0 (class_Check.l1 kq x8_2 l0_3 (l0_3.length:Int) x54_2 l0_0 a0_1 a0_2 l0_3 l0_4 l0_0=some r)∧Aside0 (kq≤k1)∧Aside0 (w'.heap[gb161]?=some (.cells #[(.slice A0_0 l0_0.length c0_0),.int .i64 a0_1,.int .i64 a0_2,(.slice A0_3 l0_3.length c0_3),(.slice A0_4 l0_4.length c0_4)] 26 (0,0)))∧Aside0 (w'.heap[gb165]?=some (.cells #[(.slice A0_0 l0_0.length c0_0)] 71 (0,0)))∧Aside0 (Below w.heap.size w w'))
      case atStart => exact ⟨(t169),(0),(by first|rfl|(simp;done)|(simp [*];done)),(by first|rfl|(simp;done)|(simp [*];done)),H',⟨Nat.le_refl _⟩,⟨by (with_reducible repeat (first|refine blk_drewN ?_ _|refine blk_drew ?_|refine blk_alloc ?_ _));exact BK161.out⟩,⟨by (with_reducible repeat (first|refine blk_drewN ?_ _|refine blk_drew ?_|refine blk_alloc ?_ _));exact BK165.out⟩,⟨by repeat (first|(with_reducible first|exact HB.out|apply below_alloc|apply pw_below_drewN|apply below_drew1|refine below_set ?_ GE161.out|refine below_set ?_ GE165.out)|exact HB.out)⟩⟩
      case round =>
       clear H'
       try clear c1;try clear p1;try clear q1;try clear hx1;try clear c2;try clear p2;try clear c3;try clear c3b0;try clear c3b1;try clear p6;try clear c9;try clear c9b0;try clear c10;try clear c10b0;try clear c11;try clear c11b0;try clear c14;try clear c16;try clear p16;try clear q16;try clear hx16;try clear c18;try clear c18b0;try clear c22;try clear c29;try clear hcz15_0;try clear hcz15_1;try clear hcz15_2;try clear hcz15_3;try clear hcz15_4;try clear hcz15_5;try clear hcz15_6;try clear hcz15_7;try clear hcz17_0;try clear hcz17_1;try clear hcz17_2;try clear hcz17_3;try clear hcz17_4;try clear hcz17_5;try clear hcz17_6;try clear hcz17_7;try clear hcz20_0;try clear hcz20_1;try clear hcz20_2;try clear hcz20_3;try clear hcz20_4;try clear hcz23_0;try clear hcz24_0;try clear hcz24_1;try clear hcz24_2;try clear hcz24_3;try clear hcz24_4;try clear hcz29_0;try clear hcz29_1;try clear hcz29_2;try clear hcz29_3;try clear hcz29_4;try clear hcz6_0;try clear hcz6_1;try clear hcz6_2;try clear hcz6_3;try clear hcz6_4;try clear hcz8_0;try clear hcz8_1;try clear hcz8_2;try clear hcz8_3;try clear hcz8_4;try clear hfz15_0;try clear hfz15_1;try clear hfz15_2;try clear hfz15_3;try clear hfz15_4;try clear hfz15_5;try clear hfz15_6;try clear hfz15_7;try clear hfz17_0;try clear hfz17_1;try clear hfz17_2;try clear hfz17_3;try clear hfz17_4;try clear hfz17_5;try clear hfz17_6;try clear hfz17_7;try clear hfz20_0;try clear hfz20_1;try clear hfz20_2;try clear hfz20_3;try clear hfz20_4;try clear hfz23_0;try clear hfz24_0;try clear hfz24_1;try clear hfz24_2;try clear hfz24_3;try clear hfz24_4;try clear hfz29_0;try clear hfz29_1;try clear hfz29_2;try clear hfz29_3;try clear hfz29_4;try clear hfz6_0;try clear hfz6_1;try clear hfz6_2;try clear hfz6_3;try clear hfz6_4;try clear hfz8_0;try clear hfz8_1;try clear hfz8_2;try clear hfz8_3;try clear hfz8_4;try clear hx163_0;try clear hx163_1;try clear hx163_2;try clear hx163_3;try clear hx163_4;try clear hx163_5;try clear hx163_6;try clear hx163_7;try clear p163;try clear p2;try clear q163
       obtain ⟨x8_2,x54_2,rfl,rfl,HA,HK2,BK161,BK165,HB⟩:=hrel
       cases gk with
       | zero => exact absurd HA.out (by simp [class_Check.l1])
       | succ k2 =>
        have H:=HA.out
        clear HA
        simp only [class_Check.l1] at H
        by_cases c30:x54_2 < (l0_3.length:Int)
        ·rw [if_pos c30] at H
         have c30b0:decide (x54_2 < (l0_3.length:Int))=true:=decide_eq_true c30
         clear c30
         by_cases c31:0≤x54_2
         ·rw [if_pos c31] at H
          have c31b0:decide (0≤x54_2)=true:=decide_eq_true c31
          clear c31
          by_cases c32:x54_2 < (l0_3.length:Int)
          ·rw [if_pos c32] at H
           have c32b0:decide (x54_2 < (l0_3.length:Int))=true:=decide_eq_true c32
           clear c32
           by_cases c33:x8_2=true
           ·subst c33
            have H1:((class_flags.f ((rd_T53 l0_3 x54_2).f0)).bind fun t172 => (if t172=true then ((class_rules_text.f k2 l0_0 (([(rd_T53 l0_3 x54_2).f1,(rd_T53 l0_3 x54_2).f2]:List Int))).bind fun t176 => (class_Check.l1 k2 t176 l0_3 (l0_3.length:Int) (wrap64 (x54_2 + 1)) l0_0 a0_1 a0_2 l0_3 l0_4 l0_0)) else (class_Check.l1 k2 false l0_3 (l0_3.length:Int) (wrap64 (x54_2 + 1)) l0_0 a0_1 a0_2 l0_3 l0_4 l0_0)))=some r:=by rw [if_pos rfl] at H;exact H
            clear H
            have H:=H1
            clear H1
            replace H:=Option.bind_eq_some_iff.mp H
            obtain ⟨t172,A340,H⟩:=H
            replace H:(if t172=true then ((class_rules_text.f k2 l0_0 (([(rd_T53 l0_3 x54_2).f1,(rd_T53 l0_3 x54_2).f2]:List Int))).bind fun t176 => (class_Check.l1 k2 t176 l0_3 (l0_3.length:Int) (wrap64 (x54_2 + 1)) l0_0 a0_1 a0_2 l0_3 l0_4 l0_0)) else (class_Check.l1 k2 false l0_3 (l0_3.length:Int) (wrap64 (x54_2 + 1)) l0_0 a0_1 a0_2 l0_3 l0_4 l0_0))=some r:=H
            have A34:=Aside0.mk A340
            clear A340
            by_cases c35:t172=true
            ·subst c35
             have H1:((class_rules_text.f k2 l0_0 (([(rd_T53 l0_3 x54_2).f1,(rd_T53 l0_3 x54_2).f2]:List Int))).bind fun t176 => (class_Check.l1 k2 t176 l0_3 (l0_3.length:Int) (wrap64 (x54_2 + 1)) l0_0 a0_1 a0_2 l0_3 l0_4 l0_0))=some r:=by rw [if_pos rfl] at H;exact H
             clear H
             have H:=H1
             clear H1
             obtain ⟨y173,hy173⟩:∃ y_:List Int,y_=(([(rd_T53 l0_3 x54_2).f1,(rd_T53 l0_3 x54_2).f2]:List Int)):=⟨_,rfl⟩
             replace H:((class_rules_text.f k2 l0_0 y173).bind fun t176 => (class_Check.l1 k2 t176 l0_3 (l0_3.length:Int) (wrap64 (x54_2 + 1)) l0_0 a0_1 a0_2 l0_3 l0_4 l0_0))=some r:=by first|(rw [hy173];with_reducible exact H)|(have H2_:=(Option.bind_some _ _).symm.trans H;rw [hy173];with_reducible exact H2_)|(have H2_:=(Option.bind_some _ _).symm.trans H;with_reducible exact H2_)|with_reducible exact H|(rw [hy173];exact H)|exact H
             have Ny173:=Aside0.mk hy173
             clear hy173
             replace H:=Option.bind_eq_some_iff.mp H
             obtain ⟨t176,A360,H⟩:=H
             replace H:(class_Check.l1 k2 t176 l0_3 (l0_3.length:Int) (wrap64 (x54_2 + 1)) l0_0 a0_1 a0_2 l0_3 l0_4 l0_0)=some r:=H
             have A36:=Aside0.mk A360
             clear A360
             have H':=Aside0.mk H
             clear H
             have p170:0≤(x54_2:Int):=of_decide_eq_true (by first|(with_reducible assumption)|assumption)
             have q170:x54_2 < (l0_3.length:Int):=of_decide_eq_true (by first|(with_reducible assumption)|assumption)
             obtain ⟨ad170,e170,hx170_0,hx170_1,hx170_2⟩:=at_T53 HR0_3.out x54_2 p170 q170
             cases e170
             replace hx170_0:=(HB.out.cell (World.block_lt_of_cell? w _ hx170_0)).trans hx170_0
             replace hx170_1:=(HB.out.cell (World.block_lt_of_cell? w _ hx170_1)).trans hx170_1
             replace hx170_2:=(HB.out.cell (World.block_lt_of_cell? w _ hx170_2)).trans hx170_2
             replace p170:=eq_true p170
             replace q170:=eq_true q170
             go_wp2_with (first|((with_reducible refine gate_dst (N:=10) rfl ?_);(try (refine gate_guard (by rfl) ?_;dsimp only));refine box_event ?hg (N:=10) ?hd (cs:=#[.int .i64 0,.int .i64 0,.int .i64 0]) (t:=53) ?hr ?_;(case hd => rfl);(case hg => rfl);(case hr => first|(go_simp;done)|(go_simp;rfl));intro gb171 hg w37 hbox hb;have n0_:=Aside0.mk (blk_below (g:=gb161) (o:=.cells #[.slice A0_0 l0_0.length c0_0,.int .i64 a0_1,.int .i64 a0_2,.slice (some ad170) l0_3.length c0_3,.slice A0_4 l0_4.length c0_4] 26 (0,0)) (by (with_reducible repeat (first|refine blk_drewN ?_ _|refine blk_drew ?_|refine blk_alloc ?_ _));exact BK161.out) hb);have n1_:=Aside0.mk (blk_below (g:=gb165) (o:=.cells #[.slice A0_0 l0_0.length c0_0] 71 (0,0)) (by (with_reducible repeat (first|refine blk_drewN ?_ _|refine blk_drew ?_|refine blk_alloc ?_ _));exact BK165.out) hb);have n2_:=Aside0.mk (below_step (by repeat (first|(with_reducible first|exact HB.out|apply below_alloc|apply pw_below_drewN|apply below_drew1|refine below_set ?_ GE161.out|refine below_set ?_ GE165.out)|exact HB.out)) hb);have n3_:=Aside0.mk (hbox);have n4_:=Aside0.mk ((by rw [hg];exact (below_size (by repeat (first|(with_reducible first|exact HB.out|apply below_alloc|apply pw_below_drewN|apply below_drew1|refine below_set ?_ GE161.out|refine below_set ?_ GE165.out)|exact HB.out))):w.heap.size≤gb171));have n5_:=Aside0.mk ((by rw [hg];exact (below_size (by repeat (first|(with_reducible first|exact HB.out|apply below_alloc|apply pw_below_drewN|apply below_drew1|refine below_set ?_ GE161.out|refine below_set ?_ GE165.out)|exact HB.out))):w.heap.size≤gb171));have n6_:=Aside0.mk ((by rw [hg];exact Nat.ne_of_lt (blk_lt (g:=gb161) (o:=.cells #[.slice A0_0 l0_0.length c0_0,.int .i64 a0_1,.int .i64 a0_2,.slice (some ad170) l0_3.length c0_3,.slice A0_4 l0_4.length c0_4] 26 (0,0)) (by (with_reducible repeat (first|refine blk_drewN ?_ _|refine blk_drew ?_|refine blk_alloc ?_ _));exact BK161.out)):gb161 ≠ gb171));have n7_:=Aside0.mk ((by rw [hg];exact Nat.ne_of_gt (blk_lt (g:=gb161) (o:=.cells #[.slice A0_0 l0_0.length c0_0,.int .i64 a0_1,.int .i64 a0_2,.slice (some ad170) l0_3.length c0_3,.slice A0_4 l0_4.length c0_4] 26 (0,0)) (by (with_reducible repeat (first|refine blk_drewN ?_ _|refine blk_drew ?_|refine blk_alloc ?_ _));exact BK161.out)):gb171 ≠ gb161));have n8_:=Aside0.mk ((by rw [hg];exact Nat.ne_of_lt (blk_lt (g:=gb165) (o:=.cells #[.slice A0_0 l0_0.length c0_0] 71 (0,0)) (by (with_reducible repeat (first|refine blk_drewN ?_ _|refine blk_drew ?_|refine blk_alloc ?_ _));exact BK165.out)):gb165 ≠ gb171));have n9_:=Aside0.mk ((by rw [hg];exact Nat.ne_of_gt (blk_lt (g:=gb165) (o:=.cells #[.slice A0_0 l0_0.length c0_0] 71 (0,0)) (by (with_reducible repeat (first|refine blk_drewN ?_ _|refine blk_drew ?_|refine blk_alloc ?_ _));exact BK165.out)):gb171 ≠ gb165));clear BK161;clear BK165;clear HB;have BK161:=n0_;have BK165:=n1_;have HB:=n2_;have BK171:=n3_;have GW171:=n4_;have GE171:=n5_;have NB161_171:=n6_;have NB171_161:=n7_;have NB165_171:=n8_;have NB171_165:=n9_;clear n0_ n1_ n2_ n3_ n4_ n5_ n6_ n7_ n8_ n9_;clear hb hbox hg;have hnb38:=NB171_161.out;have hnc38:=NB161_171.out;have hnb39:=NB171_165.out;have hnc39:=NB165_171.out;have hcz40_0:w37.cell? ⟨gb171,0,none⟩=some (.int .i64 0):=(blk_cell BK171.out 0).trans rfl;have hcz40_1:w37.cell? ⟨gb171,1,none⟩=some (.int .i64 0):=(blk_cell BK171.out 1).trans rfl;have hcz40_2:w37.cell? ⟨gb171,2,none⟩=some (.int .i64 0):=(blk_cell BK171.out 2).trans rfl;have hfz40_0:=blk_frozen BK171.out 0;have hfz40_1:=blk_frozen BK171.out 1;have hfz40_2:=blk_frozen BK171.out 2)|(go_at_call 31;(with_reducible refine (class_flags.calls ((rd_T53 l0_3 x54_2).f0) true _ A34.out).mono ?_);rintro e w' ⟨rfl,⟨nd,rfl⟩⟩;have hnb41:=NB165_161.out;have hnc41:=NB161_165.out;have hcz42_0:w37.cell? ⟨gb165,0,none⟩=some (.slice A0_0 l0_0.length c0_0):=(blk_cell BK165.out 0).trans rfl;have hfz42_0:=blk_frozen BK165.out 0)|((with_reducible refine gate_dst (N:=70) rfl ?_);(try (refine gate_guard (by rfl) ?_;dsimp only));refine Kd.R_lit (Kd.int .i64) _ 3 ?hg (N:=70) ?hd (xs:=([(rd_T53 l0_3 x54_2).f1,(rd_T53 l0_3 x54_2).f2]:List Int)) (inner:=[.int .i64 ((rd_T53 l0_3 x54_2).f1),.int .i64 ((rd_T53 l0_3 x54_2).f2)]) (ok:=fun _ => True) (okp:=fun _ => True) ?hr ?hp (fun _ hk => hk) trivial (Below.refl _ _) (Nat.le_refl _) (by simp) ?_;(case hd => rfl);(case hg => rfl);(case hr => first|(go_simp;done)|(go_simp;rfl));(case hp => exact (Reps.one (show Kd.M (Kd.int .i64) _ _ _ ((rd_T53 l0_3 x54_2).f1) [.int .i64 ((rd_T53 l0_3 x54_2).f1)] from rfl) (Reps.one (show Kd.M (Kd.int .i64) _ _ _ ((rd_T53 l0_3 x54_2).f2) [.int .i64 ((rd_T53 l0_3 x54_2).f2)] from rfl) (Reps.none _ _))));intro v174 w43 ho44 hb hg_ hnew_;clear hg_ hnew_;(first|rw [← Ny173.out] at ho44|(simp only [Int.reduceToNat] at ho44;rw [← Ny173.out] at ho44));have n0_:=Aside0.mk (Kd.R_lower ho44 (below_size (by repeat (first|(with_reducible first|exact HB.out|apply below_alloc|apply pw_below_drewN|apply below_drew1|refine below_set ?_ GE161.out|refine below_set ?_ GE165.out|refine below_set ?_ GE171.out)|exact HB.out))));have n1_:=Aside0.mk (blk_below (g:=gb161) (o:=.cells #[.slice A0_0 l0_0.length c0_0,.int .i64 a0_1,.int .i64 a0_2,.slice (some ad170) l0_3.length c0_3,.slice A0_4 l0_4.length c0_4] 26 (0,0)) (by (with_reducible repeat (first|refine blk_drewN ?_ _|refine blk_drew ?_|refine blk_alloc ?_ _));refine blk_far ?_ NB161_171.out _;(with_reducible repeat (first|refine blk_drewN ?_ _|refine blk_drew ?_|refine blk_alloc ?_ _));refine blk_far ?_ NB161_171.out _;(with_reducible repeat (first|refine blk_drewN ?_ _|refine blk_drew ?_|refine blk_alloc ?_ _));refine blk_far ?_ NB161_171.out _;(with_reducible repeat (first|refine blk_drewN ?_ _|refine blk_drew ?_|refine blk_alloc ?_ _));exact BK161.out) hb);have n2_:=Aside0.mk (blk_below (g:=gb165) (o:=.cells #[.slice A0_0 l0_0.length c0_0] 71 (0,0)) (by (with_reducible repeat (first|refine blk_drewN ?_ _|refine blk_drew ?_|refine blk_alloc ?_ _));refine blk_far ?_ NB165_171.out _;(with_reducible repeat (first|refine blk_drewN ?_ _|refine blk_drew ?_|refine blk_alloc ?_ _));refine blk_far ?_ NB165_171.out _;(with_reducible repeat (first|refine blk_drewN ?_ _|refine blk_drew ?_|refine blk_alloc ?_ _));refine blk_far ?_ NB165_171.out _;(with_reducible repeat (first|refine blk_drewN ?_ _|refine blk_drew ?_|refine blk_alloc ?_ _));exact BK165.out) hb);have n3_:=Aside0.mk (blk_below (g:=gb171) (o:=.cells #[.int .i64 ((rd_T53 l0_3 x54_2).f0),.int .i64 ((rd_T53 l0_3 x54_2).f1),.int .i64 ((rd_T53 l0_3 x54_2).f2)] 53 (0,0)) (by (with_reducible repeat (first|refine blk_drewN ?_ _|refine blk_drew ?_|refine blk_alloc ?_ _));refine blk_put (cs:=#[.int .i64 ((rd_T53 l0_3 x54_2).f0),.int .i64 ((rd_T53 l0_3 x54_2).f1),.int .i64 0]) ?_ 2 _ rfl;(with_reducible repeat (first|refine blk_drewN ?_ _|refine blk_drew ?_|refine blk_alloc ?_ _));refine blk_put (cs:=#[.int .i64 ((rd_T53 l0_3 x54_2).f0),.int .i64 0,.int .i64 0]) ?_ 1 _ rfl;(with_reducible repeat (first|refine blk_drewN ?_ _|refine blk_drew ?_|refine blk_alloc ?_ _));refine blk_put (cs:=#[.int .i64 0,.int .i64 0,.int .i64 0]) ?_ 0 _ rfl;(with_reducible repeat (first|refine blk_drewN ?_ _|refine blk_drew ?_|refine blk_alloc ?_ _));exact BK171.out) hb);have n4_:=Aside0.mk (below_step (by repeat (first|(with_reducible first|exact HB.out|apply below_alloc|apply pw_below_drewN|apply below_drew1|refine below_set ?_ GE161.out|refine below_set ?_ GE165.out|refine below_set ?_ GE171.out)|exact HB.out)) hb);clear BK161;clear BK165;clear BK171;clear HB;have HO175:=n0_;have BK161:=n1_;have BK165:=n2_;have BK171:=n3_;have HB:=n4_;clear n0_ n1_ n2_ n3_ n4_;clear hb ho44;obtain ⟨Ao45,co45,eo45⟩:=Kd.R_slice HO175.out;subst eo45)|(go_at_call 32;(with_reducible refine (class_rules_text.calls k2 _ _ l0_0 _ _ y173 t176 _ ?side1 ?side2 ?side3 ?side4 A36.out).mono ?_);(case side1 => repeat (first|exact (Kd.C_below HR0_0.out HB.out)|(with_reducible refine Kd.C_alloc ?_ _)|(with_reducible refine Kd.C_drewN ?_ _)|(with_reducible refine Kd.C_drew ?_)));(case side2 => exact HC0_0.out);(case side3 => repeat (first|exact (Kd.R_reads' HO175.out).2.2|(with_reducible refine Kd.C_alloc ?_ _)|(with_reducible refine Kd.C_drewN ?_ _)|(with_reducible refine Kd.C_drew ?_)));(case side4 => exact (Kd.R_reads' HO175.out).2.1);rintro e w46 ⟨rfl,hb⟩;have n0_:=Aside0.mk (Kd.R_below (by (with_reducible repeat (first|apply Kd.R_alloc|apply Kd.R_drewN|apply Kd.R_drew));exact HO175.out) hb);have n1_:=Aside0.mk (blk_below (g:=gb161) (o:=.cells #[.slice A0_0 l0_0.length c0_0,.int .i64 a0_1,.int .i64 a0_2,.slice (some ad170) l0_3.length c0_3,.slice A0_4 l0_4.length c0_4] 26 (0,0)) (by (with_reducible repeat (first|refine blk_drewN ?_ _|refine blk_drew ?_|refine blk_alloc ?_ _));exact BK161.out) hb);have n2_:=Aside0.mk (blk_below (g:=gb165) (o:=.cells #[.slice A0_0 l0_0.length c0_0] 71 (0,0)) (by (with_reducible repeat (first|refine blk_drewN ?_ _|refine blk_drew ?_|refine blk_alloc ?_ _));exact BK165.out) hb);have n3_:=Aside0.mk (blk_below (g:=gb171) (o:=.cells #[.int .i64 ((rd_T53 l0_3 x54_2).f0),.int .i64 ((rd_T53 l0_3 x54_2).f1),.int .i64 ((rd_T53 l0_3 x54_2).f2)] 53 (0,0)) (by (with_reducible repeat (first|refine blk_drewN ?_ _|refine blk_drew ?_|refine blk_alloc ?_ _));exact BK171.out) hb);have n4_:=Aside0.mk (below_step (by repeat (first|(with_reducible first|exact HB.out|apply below_alloc|apply pw_below_drewN|apply below_drew1|refine below_set ?_ GE161.out|refine below_set ?_ GE165.out|refine below_set ?_ GE171.out)|exact HB.out)) hb);clear HO175;clear BK161;clear BK165;clear BK171;clear HB;have HO175:=n0_;have BK161:=n1_;have BK165:=n2_;have BK171:=n3_;have HB:=n4_;clear n0_ n1_ n2_ n3_ n4_;(try clear hb);(try clear hb2);(try clear hk);(try clear hi)))
             go_roundg k2
             case measure => have:=HK1.out;have:=HK2.out;omega
             case rel => exact ⟨(t176),(wrap64 (x54_2 + 1)),(by first|rfl|(simp;done)|(simp [*];done)),(by first|rfl|(simp;done)|(simp [*];done)),H',⟨by have:=HK1.out;have:=HK2.out;omega⟩,⟨by (with_reducible repeat (first|refine blk_drewN ?_ _|refine blk_drew ?_|refine blk_alloc ?_ _));exact BK161.out⟩,⟨by (with_reducible repeat (first|refine blk_drewN ?_ _|refine blk_drew ?_|refine blk_alloc ?_ _));exact BK165.out⟩,⟨by repeat (first|(with_reducible first|exact HB.out|apply below_alloc|apply pw_below_drewN|apply below_drew1|refine below_set ?_ GE161.out|refine below_set ?_ GE165.out|refine below_set ?_ GE171.out)|exact HB.out)⟩⟩
            ·replace c35:=Bool.eq_false_iff.mpr c35
             subst c35
             have H1:(class_Check.l1 k2 false l0_3 (l0_3.length:Int) (wrap64 (x54_2 + 1)) l0_0 a0_1 a0_2 l0_3 l0_4 l0_0)=some r:=by rw [if_neg (show ¬ (false=true) by decide)] at H;exact H
             clear H
             have H:=H1
             clear H1
             have H':=Aside0.mk H
             clear H
             have p170:0≤(x54_2:Int):=of_decide_eq_true (by first|(with_reducible assumption)|assumption)
             have q170:x54_2 < (l0_3.length:Int):=of_decide_eq_true (by first|(with_reducible assumption)|assumption)
             obtain ⟨ad170,e170,hx170_0,hx170_1,hx170_2⟩:=at_T53 HR0_3.out x54_2 p170 q170
             cases e170
             replace hx170_0:=(HB.out.cell (World.block_lt_of_cell? w _ hx170_0)).trans hx170_0
             replace hx170_1:=(HB.out.cell (World.block_lt_of_cell? w _ hx170_1)).trans hx170_1
             replace hx170_2:=(HB.out.cell (World.block_lt_of_cell? w _ hx170_2)).trans hx170_2
             replace p170:=eq_true p170
             replace q170:=eq_true q170
             go_wp2_with (first|((with_reducible refine gate_dst (N:=10) rfl ?_);(try (refine gate_guard (by rfl) ?_;dsimp only));refine box_event ?hg (N:=10) ?hd (cs:=#[.int .i64 0,.int .i64 0,.int .i64 0]) (t:=53) ?hr ?_;(case hd => rfl);(case hg => rfl);(case hr => first|(go_simp;done)|(go_simp;rfl));intro gb171 hg w47 hbox hb;have n0_:=Aside0.mk (blk_below (g:=gb161) (o:=.cells #[.slice A0_0 l0_0.length c0_0,.int .i64 a0_1,.int .i64 a0_2,.slice (some ad170) l0_3.length c0_3,.slice A0_4 l0_4.length c0_4] 26 (0,0)) (by (with_reducible repeat (first|refine blk_drewN ?_ _|refine blk_drew ?_|refine blk_alloc ?_ _));exact BK161.out) hb);have n1_:=Aside0.mk (blk_below (g:=gb165) (o:=.cells #[.slice A0_0 l0_0.length c0_0] 71 (0,0)) (by (with_reducible repeat (first|refine blk_drewN ?_ _|refine blk_drew ?_|refine blk_alloc ?_ _));exact BK165.out) hb);have n2_:=Aside0.mk (below_step (by repeat (first|(with_reducible first|exact HB.out|apply below_alloc|apply pw_below_drewN|apply below_drew1|refine below_set ?_ GE161.out|refine below_set ?_ GE165.out)|exact HB.out)) hb);have n3_:=Aside0.mk (hbox);have n4_:=Aside0.mk ((by rw [hg];exact (below_size (by repeat (first|(with_reducible first|exact HB.out|apply below_alloc|apply pw_below_drewN|apply below_drew1|refine below_set ?_ GE161.out|refine below_set ?_ GE165.out)|exact HB.out))):w.heap.size≤gb171));have n5_:=Aside0.mk ((by rw [hg];exact (below_size (by repeat (first|(with_reducible first|exact HB.out|apply below_alloc|apply pw_below_drewN|apply below_drew1|refine below_set ?_ GE161.out|refine below_set ?_ GE165.out)|exact HB.out))):w.heap.size≤gb171));have n6_:=Aside0.mk ((by rw [hg];exact Nat.ne_of_lt (blk_lt (g:=gb161) (o:=.cells #[.slice A0_0 l0_0.length c0_0,.int .i64 a0_1,.int .i64 a0_2,.slice (some ad170) l0_3.length c0_3,.slice A0_4 l0_4.length c0_4] 26 (0,0)) (by (with_reducible repeat (first|refine blk_drewN ?_ _|refine blk_drew ?_|refine blk_alloc ?_ _));exact BK161.out)):gb161 ≠ gb171));have n7_:=Aside0.mk ((by rw [hg];exact Nat.ne_of_gt (blk_lt (g:=gb161) (o:=.cells #[.slice A0_0 l0_0.length c0_0,.int .i64 a0_1,.int .i64 a0_2,.slice (some ad170) l0_3.length c0_3,.slice A0_4 l0_4.length c0_4] 26 (0,0)) (by (with_reducible repeat (first|refine blk_drewN ?_ _|refine blk_drew ?_|refine blk_alloc ?_ _));exact BK161.out)):gb171 ≠ gb161));have n8_:=Aside0.mk ((by rw [hg];exact Nat.ne_of_lt (blk_lt (g:=gb165) (o:=.cells #[.slice A0_0 l0_0.length c0_0] 71 (0,0)) (by (with_reducible repeat (first|refine blk_drewN ?_ _|refine blk_drew ?_|refine blk_alloc ?_ _));exact BK165.out)):gb165 ≠ gb171));have n9_:=Aside0.mk ((by rw [hg];exact Nat.ne_of_gt (blk_lt (g:=gb165) (o:=.cells #[.slice A0_0 l0_0.length c0_0] 71 (0,0)) (by (with_reducible repeat (first|refine blk_drewN ?_ _|refine blk_drew ?_|refine blk_alloc ?_ _));exact BK165.out)):gb171 ≠ gb165));clear BK161;clear BK165;clear HB;have BK161:=n0_;have BK165:=n1_;have HB:=n2_;have BK171:=n3_;have GW171:=n4_;have GE171:=n5_;have NB161_171:=n6_;have NB171_161:=n7_;have NB165_171:=n8_;have NB171_165:=n9_;clear n0_ n1_ n2_ n3_ n4_ n5_ n6_ n7_ n8_ n9_;clear hb hbox hg;have hnb48:=NB171_161.out;have hnc48:=NB161_171.out;have hnb49:=NB171_165.out;have hnc49:=NB165_171.out;have hcz50_0:w47.cell? ⟨gb171,0,none⟩=some (.int .i64 0):=(blk_cell BK171.out 0).trans rfl;have hcz50_1:w47.cell? ⟨gb171,1,none⟩=some (.int .i64 0):=(blk_cell BK171.out 1).trans rfl;have hcz50_2:w47.cell? ⟨gb171,2,none⟩=some (.int .i64 0):=(blk_cell BK171.out 2).trans rfl;have hfz50_0:=blk_frozen BK171.out 0;have hfz50_1:=blk_frozen BK171.out 1;have hfz50_2:=blk_frozen BK171.out 2)|(go_at_call 31;(with_reducible refine (class_flags.calls ((rd_T53 l0_3 x54_2).f0) false _ A34.out).mono ?_);rintro e w' ⟨rfl,⟨nd,rfl⟩⟩))
             go_roundg k2
             case measure => have:=HK1.out;have:=HK2.out;omega
             case rel => exact ⟨(false),(wrap64 (x54_2 + 1)),(by first|rfl|(simp;done)|(simp [*];done)),(by first|rfl|(simp;done)|(simp [*];done)),H',⟨by have:=HK1.out;have:=HK2.out;omega⟩,⟨by (with_reducible repeat (first|refine blk_drewN ?_ _|refine blk_drew ?_|refine blk_alloc ?_ _));refine blk_far ?_ NB161_171.out _;(with_reducible repeat (first|refine blk_drewN ?_ _|refine blk_drew ?_|refine blk_alloc ?_ _));refine blk_far ?_ NB161_171.out _;(with_reducible repeat (first|refine blk_drewN ?_ _|refine blk_drew ?_|refine blk_alloc ?_ _));refine blk_far ?_ NB161_171.out _;(with_reducible repeat (first|refine blk_drewN ?_ _|refine blk_drew ?_|refine blk_alloc ?_ _));exact BK161.out⟩,⟨by (with_reducible repeat (first|refine blk_drewN ?_ _|refine blk_drew ?_|refine blk_alloc ?_ _));refine blk_far ?_ NB165_171.out _;(with_reducible repeat (first|refine blk_drewN ?_ _|refine blk_drew ?_|refine blk_alloc ?_ _));refine blk_far ?_ NB165_171.out _;(with_reducible repeat (first|refine blk_drewN ?_ _|refine blk_drew ?_|refine blk_alloc ?_ _));refine blk_far ?_ NB165_171.out _;(with_reducible repeat (first|refine blk_drewN ?_ _|refine blk_drew ?_|refine blk_alloc ?_ _));exact BK165.out⟩,⟨by repeat (first|(with_reducible first|exact HB.out|apply below_alloc|apply pw_below_drewN|apply below_drew1|refine below_set ?_ GE161.out|refine below_set ?_ GE165.out|refine below_set ?_ GE171.out)|exact HB.out)⟩⟩
           ·replace c33:=Bool.eq_false_iff.mpr c33
            subst c33
            have H1:(class_Check.l1 k2 false l0_3 (l0_3.length:Int) (wrap64 (x54_2 + 1)) l0_0 a0_1 a0_2 l0_3 l0_4 l0_0)=some r:=by rw [if_neg (show ¬ (false=true) by decide)] at H;exact H
            clear H
            have H:=H1
            clear H1
            have H':=Aside0.mk H
            clear H
            have p170:0≤(x54_2:Int):=of_decide_eq_true (by first|(with_reducible assumption)|assumption)
            have q170:x54_2 < (l0_3.length:Int):=of_decide_eq_true (by first|(with_reducible assumption)|assumption)
            obtain ⟨ad170,e170,hx170_0,hx170_1,hx170_2⟩:=at_T53 HR0_3.out x54_2 p170 q170
            cases e170
            replace hx170_0:=(HB.out.cell (World.block_lt_of_cell? w _ hx170_0)).trans hx170_0
            replace hx170_1:=(HB.out.cell (World.block_lt_of_cell? w _ hx170_1)).trans hx170_1
            replace hx170_2:=(HB.out.cell (World.block_lt_of_cell? w _ hx170_2)).trans hx170_2
            replace p170:=eq_true p170
            replace q170:=eq_true q170
            go_wp2_with (first|((with_reducible refine gate_dst (N:=10) rfl ?_);(try (refine gate_guard (by rfl) ?_;dsimp only));refine box_event ?hg (N:=10) ?hd (cs:=#[.int .i64 0,.int .i64 0,.int .i64 0]) (t:=53) ?hr ?_;(case hd => rfl);(case hg => rfl);(case hr => first|(go_simp;done)|(go_simp;rfl));intro gb171 hg w51 hbox hb;have n0_:=Aside0.mk (blk_below (g:=gb161) (o:=.cells #[.slice A0_0 l0_0.length c0_0,.int .i64 a0_1,.int .i64 a0_2,.slice (some ad170) l0_3.length c0_3,.slice A0_4 l0_4.length c0_4] 26 (0,0)) (by (with_reducible repeat (first|refine blk_drewN ?_ _|refine blk_drew ?_|refine blk_alloc ?_ _));exact BK161.out) hb);have n1_:=Aside0.mk (blk_below (g:=gb165) (o:=.cells #[.slice A0_0 l0_0.length c0_0] 71 (0,0)) (by (with_reducible repeat (first|refine blk_drewN ?_ _|refine blk_drew ?_|refine blk_alloc ?_ _));exact BK165.out) hb);have n2_:=Aside0.mk (below_step (by repeat (first|(with_reducible first|exact HB.out|apply below_alloc|apply pw_below_drewN|apply below_drew1|refine below_set ?_ GE161.out|refine below_set ?_ GE165.out)|exact HB.out)) hb);have n3_:=Aside0.mk (hbox);have n4_:=Aside0.mk ((by rw [hg];exact (below_size (by repeat (first|(with_reducible first|exact HB.out|apply below_alloc|apply pw_below_drewN|apply below_drew1|refine below_set ?_ GE161.out|refine below_set ?_ GE165.out)|exact HB.out))):w.heap.size≤gb171));have n5_:=Aside0.mk ((by rw [hg];exact (below_size (by repeat (first|(with_reducible first|exact HB.out|apply below_alloc|apply pw_below_drewN|apply below_drew1|refine below_set ?_ GE161.out|refine below_set ?_ GE165.out)|exact HB.out))):w.heap.size≤gb171));have n6_:=Aside0.mk ((by rw [hg];exact Nat.ne_of_lt (blk_lt (g:=gb161) (o:=.cells #[.slice A0_0 l0_0.length c0_0,.int .i64 a0_1,.int .i64 a0_2,.slice (some ad170) l0_3.length c0_3,.slice A0_4 l0_4.length c0_4] 26 (0,0)) (by (with_reducible repeat (first|refine blk_drewN ?_ _|refine blk_drew ?_|refine blk_alloc ?_ _));exact BK161.out)):gb161 ≠ gb171));have n7_:=Aside0.mk ((by rw [hg];exact Nat.ne_of_gt (blk_lt (g:=gb161) (o:=.cells #[.slice A0_0 l0_0.length c0_0,.int .i64 a0_1,.int .i64 a0_2,.slice (some ad170) l0_3.length c0_3,.slice A0_4 l0_4.length c0_4] 26 (0,0)) (by (with_reducible repeat (first|refine blk_drewN ?_ _|refine blk_drew ?_|refine blk_alloc ?_ _));exact BK161.out)):gb171 ≠ gb161));have n8_:=Aside0.mk ((by rw [hg];exact Nat.ne_of_lt (blk_lt (g:=gb165) (o:=.cells #[.slice A0_0 l0_0.length c0_0] 71 (0,0)) (by (with_reducible repeat (first|refine blk_drewN ?_ _|refine blk_drew ?_|refine blk_alloc ?_ _));exact BK165.out)):gb165 ≠ gb171));have n9_:=Aside0.mk ((by rw [hg];exact Nat.ne_of_gt (blk_lt (g:=gb165) (o:=.cells #[.slice A0_0 l0_0.length c0_0] 71 (0,0)) (by (with_reducible repeat (first|refine blk_drewN ?_ _|refine blk_drew ?_|refine blk_alloc ?_ _));exact BK165.out)):gb171 ≠ gb165));clear BK161;clear BK165;clear HB;have BK161:=n0_;have BK165:=n1_;have HB:=n2_;have BK171:=n3_;have GW171:=n4_;have GE171:=n5_;have NB161_171:=n6_;have NB171_161:=n7_;have NB165_171:=n8_;have NB171_165:=n9_;clear n0_ n1_ n2_ n3_ n4_ n5_ n6_ n7_ n8_ n9_;clear hb hbox hg;have hnb52:=NB171_161.out;have hnc52:=NB161_171.out;have hnb53:=NB171_165.out;have hnc53:=NB165_171.out;have hcz54_0:w51.cell? ⟨gb171,0,none⟩=some (.int .i64 0):=(blk_cell BK171.out 0).trans rfl;have hcz54_1:w51.cell? ⟨gb171,1,none⟩=some (.int .i64 0):=(blk_cell BK171.out 1).trans rfl;have hcz54_2:w51.cell? ⟨gb171,2,none⟩=some (.int .i64 0):=(blk_cell BK171.out 2).trans rfl;have hfz54_0:=blk_frozen BK171.out 0;have hfz54_1:=blk_frozen BK171.out 1;have hfz54_2:=blk_frozen BK171.out 2))
            go_roundg k2
            case measure => have:=HK1.out;have:=HK2.out;omega
            case rel => exact ⟨(false),(wrap64 (x54_2 + 1)),(by first|rfl|(simp;done)|(simp [*];done)),(by first|rfl|(simp;done)|(simp [*];done)),H',⟨by have:=HK1.out;have:=HK2.out;omega⟩,⟨by (with_reducible repeat (first|refine blk_drewN ?_ _|refine blk_drew ?_|refine blk_alloc ?_ _));refine blk_far ?_ NB161_171.out _;(with_reducible repeat (first|refine blk_drewN ?_ _|refine blk_drew ?_|refine blk_alloc ?_ _));refine blk_far ?_ NB161_171.out _;(with_reducible repeat (first|refine blk_drewN ?_ _|refine blk_drew ?_|refine blk_alloc ?_ _));refine blk_far ?_ NB161_171.out _;(with_reducible repeat (first|refine blk_drewN ?_ _|refine blk_drew ?_|refine blk_alloc ?_ _));exact BK161.out⟩,⟨by (with_reducible repeat (first|refine blk_drewN ?_ _|refine blk_drew ?_|refine blk_alloc ?_ _));refine blk_far ?_ NB165_171.out _;(with_reducible repeat (first|refine blk_drewN ?_ _|refine blk_drew ?_|refine blk_alloc ?_ _));refine blk_far ?_ NB165_171.out _;(with_reducible repeat (first|refine blk_drewN ?_ _|refine blk_drew ?_|refine blk_alloc ?_ _));refine blk_far ?_ NB165_171.out _;(with_reducible repeat (first|refine blk_drewN ?_ _|refine blk_drew ?_|refine blk_alloc ?_ _));exact BK165.out⟩,⟨by repeat (first|(with_reducible first|exact HB.out|apply below_alloc|apply pw_below_drewN|apply below_drew1|refine below_set ?_ GE161.out|refine below_set ?_ GE165.out|refine below_set ?_ GE171.out)|exact HB.out)⟩⟩
          ·rw [if_neg c32] at H
           exact absurd H (by simp)
         ·rw [if_neg c31] at H
          exact absurd H (by simp)
        ·rw [if_neg c30] at H
         have c30b0:decide (x54_2 < (l0_3.length:Int))=false:=decide_eq_false c30
         clear c30
         have H':=Aside0.mk H
         clear H
         have hnb55:=NB161_165.out
         have hnc55:=NB165_161.out
         have hcz56_0:wr.cell? ⟨gb161,0,none⟩=some (.slice A0_0 l0_0.length c0_0):=(blk_cell BK161.out 0).trans rfl
         have hcz56_1:wr.cell? ⟨gb161,1,none⟩=some (.int .i64 a0_1):=(blk_cell BK161.out 1).trans rfl
         have hcz56_2:wr.cell? ⟨gb161,2,none⟩=some (.int .i64 a0_2):=(blk_cell BK161.out 2).trans rfl
         have hcz56_3:wr.cell? ⟨gb161,3,none⟩=some (.slice A0_3 l0_3.length c0_3):=(blk_cell BK161.out 3).trans rfl
         have hcz56_4:wr.cell? ⟨gb161,4,none⟩=some (.slice A0_4 l0_4.length c0_4):=(blk_cell BK161.out 4).trans rfl
         have hfz56_0:=blk_frozen BK161.out 0
         have hfz56_1:=blk_frozen BK161.out 1
         have hfz56_2:=blk_frozen BK161.out 2
         have hfz56_3:=blk_frozen BK161.out 3
         have hfz56_4:=blk_frozen BK161.out 4
         go_wp2
         go_loopg [8,77] k2 (fun kq v8 v77 w' => ∃ (x8_3:Bool) (x77_3:Int),v8=.bool x8_3∧v77=.int .i64 x77_3∧Aside0 (class_Check.l2 kq x8_3 l0_4 (l0_4.length:Int) x77_3 l0_0=some r)∧Aside0 (kq≤k2)∧Aside0 (w'.heap[gb161]?=some (.cells #[(.slice A0_0 l0_0.length c0_0),.int .i64 a0_1,.int .i64 a0_2,(.slice A0_3 l0_3.length c0_3),(.slice A0_4 l0_4.length c0_4)] 26 (0,0)))∧Aside0 (w'.heap[gb165]?=some (.cells #[(.slice A0_0 l0_0.length c0_0)] 71 (0,0)))∧Aside0 (Below w.heap.size w w'))
         case atStart => exact ⟨(x8_2),(0),(by first|rfl|(simp;done)|(simp [*];done)),(by first|rfl|(simp;done)|(simp [*];done)),H',⟨Nat.le_refl _⟩,⟨by (with_reducible repeat (first|refine blk_drewN ?_ _|refine blk_drew ?_|refine blk_alloc ?_ _));exact BK161.out⟩,⟨by (with_reducible repeat (first|refine blk_drewN ?_ _|refine blk_drew ?_|refine blk_alloc ?_ _));exact BK165.out⟩,⟨by repeat (first|(with_reducible first|exact HB.out|apply below_alloc|apply pw_below_drewN|apply below_drew1|refine below_set ?_ GE161.out|refine below_set ?_ GE165.out)|exact HB.out)⟩⟩
         case round =>
          clear H'
          try clear c1;try clear p1;try clear q1;try clear hx1;try clear c2;try clear p2;try clear c3;try clear c3b0;try clear c3b1;try clear c4;try clear c5;try clear p6;try clear c9;try clear c9b0;try clear c10;try clear c10b0;try clear c11;try clear c11b0;try clear c14;try clear c16;try clear p16;try clear q16;try clear hx16;try clear p17;try clear q17;try clear hx17;try clear c18;try clear c18b0;try clear c22;try clear c29;try clear c30;try clear c30b0;try clear c31;try clear c31b0;try clear c32;try clear c32b0;try clear c33;try clear c35;try clear c38;try clear c39;try clear c41;try clear c48;try clear c49;try clear c52;try clear c53;try clear c55;try clear hcz15_0;try clear hcz15_1;try clear hcz15_2;try clear hcz15_3;try clear hcz15_4;try clear hcz15_5;try clear hcz15_6;try clear hcz15_7;try clear hcz17_0;try clear hcz17_1;try clear hcz17_2;try clear hcz17_3;try clear hcz17_4;try clear hcz17_5;try clear hcz17_6;try clear hcz17_7;try clear hcz20_0;try clear hcz20_1;try clear hcz20_2;try clear hcz20_3;try clear hcz20_4;try clear hcz23_0;try clear hcz24_0;try clear hcz24_1;try clear hcz24_2;try clear hcz24_3;try clear hcz24_4;try clear hcz29_0;try clear hcz29_1;try clear hcz29_2;try clear hcz29_3;try clear hcz29_4;try clear hcz40_0;try clear hcz40_1;try clear hcz40_2;try clear hcz42_0;try clear hcz50_0;try clear hcz50_1;try clear hcz50_2;try clear hcz54_0;try clear hcz54_1;try clear hcz54_2;try clear hcz56_0;try clear hcz56_1;try clear hcz56_2;try clear hcz56_3;try clear hcz56_4;try clear hcz6_0;try clear hcz6_1;try clear hcz6_2;try clear hcz6_3;try clear hcz6_4;try clear hcz8_0;try clear hcz8_1;try clear hcz8_2;try clear hcz8_3;try clear hcz8_4;try clear hfz15_0;try clear hfz15_1;try clear hfz15_2;try clear hfz15_3;try clear hfz15_4;try clear hfz15_5;try clear hfz15_6;try clear hfz15_7;try clear hfz17_0;try clear hfz17_1;try clear hfz17_2;try clear hfz17_3;try clear hfz17_4;try clear hfz17_5;try clear hfz17_6;try clear hfz17_7;try clear hfz20_0;try clear hfz20_1;try clear hfz20_2;try clear hfz20_3;try clear hfz20_4;try clear hfz23_0;try clear hfz24_0;try clear hfz24_1;try clear hfz24_2;try clear hfz24_3;try clear hfz24_4;try clear hfz29_0;try clear hfz29_1;try clear hfz29_2;try clear hfz29_3;try clear hfz29_4;try clear hfz40_0;try clear hfz40_1;try clear hfz40_2;try clear hfz42_0;try clear hfz50_0;try clear hfz50_1;try clear hfz50_2;try clear hfz54_0;try clear hfz54_1;try clear hfz54_2;try clear hfz56_0;try clear hfz56_1;try clear hfz56_2;try clear hfz56_3;try clear hfz56_4;try clear hfz6_0;try clear hfz6_1;try clear hfz6_2;try clear hfz6_3;try clear hfz6_4;try clear hfz8_0;try clear hfz8_1;try clear hfz8_2;try clear hfz8_3;try clear hfz8_4;try clear hx163_0;try clear hx163_1;try clear hx163_2;try clear hx163_3;try clear hx163_4;try clear hx163_5;try clear hx163_6;try clear hx163_7;try clear hx170_0;try clear hx170_1;try clear hx170_2;try clear p1;try clear p16;try clear p163;try clear p170;try clear p2;try clear p6;try clear q1;try clear q16;try clear q163;try clear q170
          obtain ⟨x8_3,x77_3,rfl,rfl,HA,HK3,BK161,BK165,HB⟩:=hrel
          cases gk with
          | zero => exact absurd HA.out (by simp [class_Check.l2])
          | succ k3 =>
           have H:=HA.out
           clear HA
           simp only [class_Check.l2] at H
           by_cases c57:x77_3 < (l0_4.length:Int)
           ·rw [if_pos c57] at H
            have c57b0:decide (x77_3 < (l0_4.length:Int))=true:=decide_eq_true c57
            clear c57
            by_cases c58:0≤x77_3
            ·rw [if_pos c58] at H
             have c58b0:decide (0≤x77_3)=true:=decide_eq_true c58
             clear c58
             by_cases c59:x77_3 < (l0_4.length:Int)
             ·rw [if_pos c59] at H
              have c59b0:decide (x77_3 < (l0_4.length:Int))=true:=decide_eq_true c59
              clear c59
              by_cases c60:x8_3=true
              ·subst c60
               have H1:((class_rules_method.f k3 l0_0 ((rd_T56 l0_4 x77_3).f0) ((rd_T56 l0_4 x77_3).f1) ((rd_T56 l0_4 x77_3).f2) ((rd_T56 l0_4 x77_3).f3) ((rd_T56 l0_4 x77_3).f4) ((rd_T56 l0_4 x77_3).f5) ((rd_T56 l0_4 x77_3).f6) ((rd_T56 l0_4 x77_3).f7)).bind fun t179 => (class_Check.l2 k3 t179 l0_4 (l0_4.length:Int) (wrap64 (x77_3 + 1)) l0_0))=some r:=by rw [if_pos rfl] at H;exact H
               clear H
               have H:=H1
               clear H1
               replace H:=Option.bind_eq_some_iff.mp H
               obtain ⟨t179,A610,H⟩:=H
               replace H:(class_Check.l2 k3 t179 l0_4 (l0_4.length:Int) (wrap64 (x77_3 + 1)) l0_0)=some r:=H
               have A61:=Aside0.mk A610
               clear A610
               have H':=Aside0.mk H
               clear H
               have p177:0≤(x77_3:Int):=of_decide_eq_true (by first|(with_reducible assumption)|assumption)
               have q177:x77_3 < (l0_4.length:Int):=of_decide_eq_true (by first|(with_reducible assumption)|assumption)
               obtain ⟨ad177,A177_5,c177_5,A177_6,c177_6,A177_7,c177_7,e177,hx177_0,hx177_1,hx177_2,hx177_3,hx177_4,hx177_5,hx177_6,hx177_7,hl177_5,hi177_5,hl177_6,hi177_6,hl177_7,hi177_7⟩:=at_T56 HR0_4.out x77_3 p177 q177
               cases e177
               replace hx177_0:=(HB.out.cell (World.block_lt_of_cell? w _ hx177_0)).trans hx177_0
               replace hx177_1:=(HB.out.cell (World.block_lt_of_cell? w _ hx177_1)).trans hx177_1
               replace hx177_2:=(HB.out.cell (World.block_lt_of_cell? w _ hx177_2)).trans hx177_2
               replace hx177_3:=(HB.out.cell (World.block_lt_of_cell? w _ hx177_3)).trans hx177_3
               replace hx177_4:=(HB.out.cell (World.block_lt_of_cell? w _ hx177_4)).trans hx177_4
               replace hx177_5:=(HB.out.cell (World.block_lt_of_cell? w _ hx177_5)).trans hx177_5
               replace hx177_6:=(HB.out.cell (World.block_lt_of_cell? w _ hx177_6)).trans hx177_6
               replace hx177_7:=(HB.out.cell (World.block_lt_of_cell? w _ hx177_7)).trans hx177_7
               have HR177_5:=Aside0.mk hi177_5
               have HC177_5:=Aside0.mk hl177_5
               clear hi177_5 hl177_5
               have HR177_6:=Aside0.mk hi177_6
               have HC177_6:=Aside0.mk hl177_6
               clear hi177_6 hl177_6
               have HR177_7:=Aside0.mk hi177_7
               have HC177_7:=Aside0.mk hl177_7
               clear hi177_7 hl177_7
               replace p177:=eq_true p177
               replace q177:=eq_true q177
               go_wp2_with (first|((with_reducible refine gate_dst (N:=12) rfl ?_);(try (refine gate_guard (by rfl) ?_;dsimp only));refine box_event ?hg (N:=12) ?hd (cs:=#[.int .i64 0,.int .i64 0,.int .i64 0,.int .i64 0,.int .i64 0,.slice none 0 0,.slice none 0 0,.slice none 0 0]) (t:=56) ?hr ?_;(case hd => rfl);(case hg => rfl);(case hr => first|(go_simp;done)|(go_simp;rfl));intro gb178 hg w62 hbox hb;have n0_:=Aside0.mk (blk_below (g:=gb161) (o:=.cells #[.slice A0_0 l0_0.length c0_0,.int .i64 a0_1,.int .i64 a0_2,.slice A0_3 l0_3.length c0_3,.slice (some ad177) l0_4.length c0_4] 26 (0,0)) (by (with_reducible repeat (first|refine blk_drewN ?_ _|refine blk_drew ?_|refine blk_alloc ?_ _));exact BK161.out) hb);have n1_:=Aside0.mk (blk_below (g:=gb165) (o:=.cells #[.slice A0_0 l0_0.length c0_0] 71 (0,0)) (by (with_reducible repeat (first|refine blk_drewN ?_ _|refine blk_drew ?_|refine blk_alloc ?_ _));exact BK165.out) hb);have n2_:=Aside0.mk (below_step (by repeat (first|(with_reducible first|exact HB.out|apply below_alloc|apply pw_below_drewN|apply below_drew1|refine below_set ?_ GE161.out|refine below_set ?_ GE165.out)|exact HB.out)) hb);have n3_:=Aside0.mk (hbox);have n4_:=Aside0.mk ((by rw [hg];exact (below_size (by repeat (first|(with_reducible first|exact HB.out|apply below_alloc|apply pw_below_drewN|apply below_drew1|refine below_set ?_ GE161.out|refine below_set ?_ GE165.out)|exact HB.out))):w.heap.size≤gb178));have n5_:=Aside0.mk ((by rw [hg];exact (below_size (by repeat (first|(with_reducible first|exact HB.out|apply below_alloc|apply pw_below_drewN|apply below_drew1|refine below_set ?_ GE161.out|refine below_set ?_ GE165.out)|exact HB.out))):w.heap.size≤gb178));have n6_:=Aside0.mk ((by rw [hg];exact Nat.ne_of_lt (blk_lt (g:=gb161) (o:=.cells #[.slice A0_0 l0_0.length c0_0,.int .i64 a0_1,.int .i64 a0_2,.slice A0_3 l0_3.length c0_3,.slice (some ad177) l0_4.length c0_4] 26 (0,0)) (by (with_reducible repeat (first|refine blk_drewN ?_ _|refine blk_drew ?_|refine blk_alloc ?_ _));exact BK161.out)):gb161 ≠ gb178));have n7_:=Aside0.mk ((by rw [hg];exact Nat.ne_of_gt (blk_lt (g:=gb161) (o:=.cells #[.slice A0_0 l0_0.length c0_0,.int .i64 a0_1,.int .i64 a0_2,.slice A0_3 l0_3.length c0_3,.slice (some ad177) l0_4.length c0_4] 26 (0,0)) (by (with_reducible repeat (first|refine blk_drewN ?_ _|refine blk_drew ?_|refine blk_alloc ?_ _));exact BK161.out)):gb178 ≠ gb161));have n8_:=Aside0.mk ((by rw [hg];exact Nat.ne_of_lt (blk_lt (g:=gb165) (o:=.cells #[.slice A0_0 l0_0.length c0_0] 71 (0,0)) (by (with_reducible repeat (first|refine blk_drewN ?_ _|refine blk_drew ?_|refine blk_alloc ?_ _));exact BK165.out)):gb165 ≠ gb178));have n9_:=Aside0.mk ((by rw [hg];exact Nat.ne_of_gt (blk_lt (g:=gb165) (o:=.cells #[.slice A0_0 l0_0.length c0_0] 71 (0,0)) (by (with_reducible repeat (first|refine blk_drewN ?_ _|refine blk_drew ?_|refine blk_alloc ?_ _));exact BK165.out)):gb178 ≠ gb165));clear BK161;clear BK165;clear HB;have BK161:=n0_;have BK165:=n1_;have HB:=n2_;have BK178:=n3_;have GW178:=n4_;have GE178:=n5_;have NB161_178:=n6_;have NB178_161:=n7_;have NB165_178:=n8_;have NB178_165:=n9_;clear n0_ n1_ n2_ n3_ n4_ n5_ n6_ n7_ n8_ n9_;clear hb hbox hg;have hnb63:=NB178_161.out;have hnc63:=NB161_178.out;have hnb64:=NB178_165.out;have hnc64:=NB165_178.out;have hcz65_0:w62.cell? ⟨gb178,0,none⟩=some (.int .i64 0):=(blk_cell BK178.out 0).trans rfl;have hcz65_1:w62.cell? ⟨gb178,1,none⟩=some (.int .i64 0):=(blk_cell BK178.out 1).trans rfl;have hcz65_2:w62.cell? ⟨gb178,2,none⟩=some (.int .i64 0):=(blk_cell BK178.out 2).trans rfl;have hcz65_3:w62.cell? ⟨gb178,3,none⟩=some (.int .i64 0):=(blk_cell BK178.out 3).trans rfl;have hcz65_4:w62.cell? ⟨gb178,4,none⟩=some (.int .i64 0):=(blk_cell BK178.out 4).trans rfl;have hcz65_5:w62.cell? ⟨gb178,5,none⟩=some (.slice none 0 0):=(blk_cell BK178.out 5).trans rfl;have hcz65_6:w62.cell? ⟨gb178,6,none⟩=some (.slice none 0 0):=(blk_cell BK178.out 6).trans rfl;have hcz65_7:w62.cell? ⟨gb178,7,none⟩=some (.slice none 0 0):=(blk_cell BK178.out 7).trans rfl;have hfz65_0:=blk_frozen BK178.out 0;have hfz65_1:=blk_frozen BK178.out 1;have hfz65_2:=blk_frozen BK178.out 2;have hfz65_3:=blk_frozen BK178.out 3;have hfz65_4:=blk_frozen BK178.out 4;have hfz65_5:=blk_frozen BK178.out 5;have hfz65_6:=blk_frozen BK178.out 6;have hfz65_7:=blk_frozen BK178.out 7)|((with_reducible refine gate_store (t:=56) (p:=12) rfl ?_);refine store_event (t:=56) (p:=12) (v:=?vo_w66) (w1:=((((((((w62.setCell ⟨gb178,0,none⟩ (.int .i64 ((rd_T56 l0_4 x77_3).f0))).setCell ⟨gb178,1,none⟩ (.int .i64 ((rd_T56 l0_4 x77_3).f1))).setCell ⟨gb178,2,none⟩ (.int .i64 ((rd_T56 l0_4 x77_3).f2))).setCell ⟨gb178,3,none⟩ (.int .i64 ((rd_T56 l0_4 x77_3).f3))).setCell ⟨gb178,4,none⟩ (.int .i64 ((rd_T56 l0_4 x77_3).f4))).setCell ⟨gb178,5,none⟩ (.slice A177_5 ((rd_T56 l0_4 x77_3).f5).length c177_5)).setCell ⟨gb178,6,none⟩ (.slice A177_6 ((rd_T56 l0_4 x77_3).f6).length c177_6)).setCell ⟨gb178,7,none⟩ (.slice A177_7 ((rd_T56 l0_4 x77_3).f7).length c177_7))) ?hg ?ho ?hn ?hr ?_;(case ho => rfl);(case hg => rfl);(case hn => rfl);(case hr => first|(go_simp;done)|(go_simp;rfl));intro w66 hw;have n0_:Aside0 (w66.heap[gb161]?=some (.cells #[.slice A0_0 l0_0.length c0_0,.int .i64 a0_1,.int .i64 a0_2,.slice A0_3 l0_3.length c0_3,.slice (some ad177) l0_4.length c0_4] 26 (0,0))):=⟨(by rw [hw];exact (by (with_reducible repeat (first|refine blk_drewN ?_ _|refine blk_drew ?_|refine blk_alloc ?_ _));refine blk_far ?_ NB161_178.out _;(with_reducible repeat (first|refine blk_drewN ?_ _|refine blk_drew ?_|refine blk_alloc ?_ _));refine blk_far ?_ NB161_178.out _;(with_reducible repeat (first|refine blk_drewN ?_ _|refine blk_drew ?_|refine blk_alloc ?_ _));refine blk_far ?_ NB161_178.out _;(with_reducible repeat (first|refine blk_drewN ?_ _|refine blk_drew ?_|refine blk_alloc ?_ _));refine blk_far ?_ NB161_178.out _;(with_reducible repeat (first|refine blk_drewN ?_ _|refine blk_drew ?_|refine blk_alloc ?_ _));refine blk_far ?_ NB161_178.out _;(with_reducible repeat (first|refine blk_drewN ?_ _|refine blk_drew ?_|refine blk_alloc ?_ _));refine blk_far ?_ NB161_178.out _;(with_reducible repeat (first|refine blk_drewN ?_ _|refine blk_drew ?_|refine blk_alloc ?_ _));refine blk_far ?_ NB161_178.out _;(with_reducible repeat (first|refine blk_drewN ?_ _|refine blk_drew ?_|refine blk_alloc ?_ _));refine blk_far ?_ NB161_178.out _;(with_reducible repeat (first|refine blk_drewN ?_ _|refine blk_drew ?_|refine blk_alloc ?_ _));exact BK161.out))⟩;have n1_:Aside0 (w66.heap[gb165]?=some (.cells #[.slice A0_0 l0_0.length c0_0] 71 (0,0))):=⟨(by rw [hw];exact (by (with_reducible repeat (first|refine blk_drewN ?_ _|refine blk_drew ?_|refine blk_alloc ?_ _));refine blk_far ?_ NB165_178.out _;(with_reducible repeat (first|refine blk_drewN ?_ _|refine blk_drew ?_|refine blk_alloc ?_ _));refine blk_far ?_ NB165_178.out _;(with_reducible repeat (first|refine blk_drewN ?_ _|refine blk_drew ?_|refine blk_alloc ?_ _));refine blk_far ?_ NB165_178.out _;(with_reducible repeat (first|refine blk_drewN ?_ _|refine blk_drew ?_|refine blk_alloc ?_ _));refine blk_far ?_ NB165_178.out _;(with_reducible repeat (first|refine blk_drewN ?_ _|refine blk_drew ?_|refine blk_alloc ?_ _));refine blk_far ?_ NB165_178.out _;(with_reducible repeat (first|refine blk_drewN ?_ _|refine blk_drew ?_|refine blk_alloc ?_ _));refine blk_far ?_ NB165_178.out _;(with_reducible repeat (first|refine blk_drewN ?_ _|refine blk_drew ?_|refine blk_alloc ?_ _));refine blk_far ?_ NB165_178.out _;(with_reducible repeat (first|refine blk_drewN ?_ _|refine blk_drew ?_|refine blk_alloc ?_ _));refine blk_far ?_ NB165_178.out _;(with_reducible repeat (first|refine blk_drewN ?_ _|refine blk_drew ?_|refine blk_alloc ?_ _));exact BK165.out))⟩;have n2_:Aside0 (w66.heap[gb178]?=some (.cells #[.int .i64 ((rd_T56 l0_4 x77_3).f0),.int .i64 ((rd_T56 l0_4 x77_3).f1),.int .i64 ((rd_T56 l0_4 x77_3).f2),.int .i64 ((rd_T56 l0_4 x77_3).f3),.int .i64 ((rd_T56 l0_4 x77_3).f4),.slice A177_5 ((rd_T56 l0_4 x77_3).f5).length c177_5,.slice A177_6 ((rd_T56 l0_4 x77_3).f6).length c177_6,.slice A177_7 ((rd_T56 l0_4 x77_3).f7).length c177_7] 56 (0,0))):=⟨(by rw [hw];exact (by (with_reducible repeat (first|refine blk_drewN ?_ _|refine blk_drew ?_|refine blk_alloc ?_ _));refine blk_put (cs:=#[.int .i64 ((rd_T56 l0_4 x77_3).f0),.int .i64 ((rd_T56 l0_4 x77_3).f1),.int .i64 ((rd_T56 l0_4 x77_3).f2),.int .i64 ((rd_T56 l0_4 x77_3).f3),.int .i64 ((rd_T56 l0_4 x77_3).f4),.slice A177_5 ((rd_T56 l0_4 x77_3).f5).length c177_5,.slice A177_6 ((rd_T56 l0_4 x77_3).f6).length c177_6,.slice none 0 0]) ?_ 7 _ rfl;(with_reducible repeat (first|refine blk_drewN ?_ _|refine blk_drew ?_|refine blk_alloc ?_ _));refine blk_put (cs:=#[.int .i64 ((rd_T56 l0_4 x77_3).f0),.int .i64 ((rd_T56 l0_4 x77_3).f1),.int .i64 ((rd_T56 l0_4 x77_3).f2),.int .i64 ((rd_T56 l0_4 x77_3).f3),.int .i64 ((rd_T56 l0_4 x77_3).f4),.slice A177_5 ((rd_T56 l0_4 x77_3).f5).length c177_5,.slice none 0 0,.slice none 0 0]) ?_ 6 _ rfl;(with_reducible repeat (first|refine blk_drewN ?_ _|refine blk_drew ?_|refine blk_alloc ?_ _));refine blk_put (cs:=#[.int .i64 ((rd_T56 l0_4 x77_3).f0),.int .i64 ((rd_T56 l0_4 x77_3).f1),.int .i64 ((rd_T56 l0_4 x77_3).f2),.int .i64 ((rd_T56 l0_4 x77_3).f3),.int .i64 ((rd_T56 l0_4 x77_3).f4),.slice none 0 0,.slice none 0 0,.slice none 0 0]) ?_ 5 _ rfl;(with_reducible repeat (first|refine blk_drewN ?_ _|refine blk_drew ?_|refine blk_alloc ?_ _));refine blk_put (cs:=#[.int .i64 ((rd_T56 l0_4 x77_3).f0),.int .i64 ((rd_T56 l0_4 x77_3).f1),.int .i64 ((rd_T56 l0_4 x77_3).f2),.int .i64 ((rd_T56 l0_4 x77_3).f3),.int .i64 0,.slice none 0 0,.slice none 0 0,.slice none 0 0]) ?_ 4 _ rfl;(with_reducible repeat (first|refine blk_drewN ?_ _|refine blk_drew ?_|refine blk_alloc ?_ _));refine blk_put (cs:=#[.int .i64 ((rd_T56 l0_4 x77_3).f0),.int .i64 ((rd_T56 l0_4 x77_3).f1),.int .i64 ((rd_T56 l0_4 x77_3).f2),.int .i64 0,.int .i64 0,.slice none 0 0,.slice none 0 0,.slice none 0 0]) ?_ 3 _ rfl;(with_reducible repeat (first|refine blk_drewN ?_ _|refine blk_drew ?_|refine blk_alloc ?_ _));refine blk_put (cs:=#[.int .i64 ((rd_T56 l0_4 x77_3).f0),.int .i64 ((rd_T56 l0_4 x77_3).f1),.int .i64 0,.int .i64 0,.int .i64 0,.slice none 0 0,.slice none 0 0,.slice none 0 0]) ?_ 2 _ rfl;(with_reducible repeat (first|refine blk_drewN ?_ _|refine blk_drew ?_|refine blk_alloc ?_ _));refine blk_put (cs:=#[.int .i64 ((rd_T56 l0_4 x77_3).f0),.int .i64 0,.int .i64 0,.int .i64 0,.int .i64 0,.slice none 0 0,.slice none 0 0,.slice none 0 0]) ?_ 1 _ rfl;(with_reducible repeat (first|refine blk_drewN ?_ _|refine blk_drew ?_|refine blk_alloc ?_ _));refine blk_put (cs:=#[.int .i64 0,.int .i64 0,.int .i64 0,.int .i64 0,.int .i64 0,.slice none 0 0,.slice none 0 0,.slice none 0 0]) ?_ 0 _ rfl;(with_reducible repeat (first|refine blk_drewN ?_ _|refine blk_drew ?_|refine blk_alloc ?_ _));exact BK178.out))⟩;have n3_:Aside0 (Below w.heap.size w w66):=⟨(by rw [hw];exact (by repeat (first|(with_reducible first|exact HB.out|apply below_alloc|apply pw_below_drewN|apply below_drew1|refine below_set ?_ GE161.out|refine below_set ?_ GE165.out|refine below_set ?_ GE178.out)|exact HB.out)))⟩;clear hw;clear BK161;clear BK165;clear BK178;clear HB;have BK161:=n0_;have BK165:=n1_;have BK178:=n2_;have HB:=n3_;clear n0_ n1_ n2_ n3_;have hnb67:=NB165_161.out;have hnc67:=NB161_165.out;have hcz68_0:w66.cell? ⟨gb165,0,none⟩=some (.slice A0_0 l0_0.length c0_0):=(blk_cell BK165.out 0).trans rfl;have hfz68_0:=blk_frozen BK165.out 0;have hcz69_0:w66.cell? ⟨gb178,0,none⟩=some (.int .i64 ((rd_T56 l0_4 x77_3).f0)):=(blk_cell BK178.out 0).trans rfl;have hcz69_1:w66.cell? ⟨gb178,1,none⟩=some (.int .i64 ((rd_T56 l0_4 x77_3).f1)):=(blk_cell BK178.out 1).trans rfl;have hcz69_2:w66.cell? ⟨gb178,2,none⟩=some (.int .i64 ((rd_T56 l0_4 x77_3).f2)):=(blk_cell BK178.out 2).trans rfl;have hcz69_3:w66.cell? ⟨gb178,3,none⟩=some (.int .i64 ((rd_T56 l0_4 x77_3).f3)):=(blk_cell BK178.out 3).trans rfl;have hcz69_4:w66.cell? ⟨gb178,4,none⟩=some (.int .i64 ((rd_T56 l0_4 x77_3).f4)):=(blk_cell BK178.out 4).trans rfl;have hcz69_5:w66.cell? ⟨gb178,5,none⟩=some (.slice A177_5 ((rd_T56 l0_4 x77_3).f5).length c177_5):=(blk_cell BK178.out 5).trans rfl;have hcz69_6:w66.cell? ⟨gb178,6,none⟩=some (.slice A177_6 ((rd_T56 l0_4 x77_3).f6).length c177_6):=(blk_cell BK178.out 6).trans rfl;have hcz69_7:w66.cell? ⟨gb178,7,none⟩=some (.slice A177_7 ((rd_T56 l0_4 x77_3).f7).length c177_7):=(blk_cell BK178.out 7).trans rfl;have hfz69_0:=blk_frozen BK178.out 0;have hfz69_1:=blk_frozen BK178.out 1;have hfz69_2:=blk_frozen BK178.out 2;have hfz69_3:=blk_frozen BK178.out 3;have hfz69_4:=blk_frozen BK178.out 4;have hfz69_5:=blk_frozen BK178.out 5;have hfz69_6:=blk_frozen BK178.out 6;have hfz69_7:=blk_frozen BK178.out 7)|(go_at_call 33;(with_reducible refine (class_rules_method.calls k3 _ _ l0_0 ((rd_T56 l0_4 x77_3).f0) ((rd_T56 l0_4 x77_3).f1) ((rd_T56 l0_4 x77_3).f2) ((rd_T56 l0_4 x77_3).f3) ((rd_T56 l0_4 x77_3).f4) _ _ ((rd_T56 l0_4 x77_3).f5) _ _ ((rd_T56 l0_4 x77_3).f6) _ _ ((rd_T56 l0_4 x77_3).f7) t179 _ ?side1 ?side2 ?side3 ?side4 ?side5 ?side6 ?side7 ?side8 A61.out).mono ?_);(case side1 => repeat (first|exact (Kd.C_below HR0_0.out HB.out)|(with_reducible refine Kd.C_alloc ?_ _)|(with_reducible refine Kd.C_drewN ?_ _)|(with_reducible refine Kd.C_drew ?_)));(case side2 => exact HC0_0.out);(case side3 => repeat (first|exact (Kd.C_below HR177_5.out HB.out)|(with_reducible refine Kd.C_alloc ?_ _)|(with_reducible refine Kd.C_drewN ?_ _)|(with_reducible refine Kd.C_drew ?_)));(case side4 => exact HC177_5.out);(case side5 => repeat (first|exact (Kd.C_below HR177_6.out HB.out)|(with_reducible refine Kd.C_alloc ?_ _)|(with_reducible refine Kd.C_drewN ?_ _)|(with_reducible refine Kd.C_drew ?_)));(case side6 => exact HC177_6.out);(case side7 => repeat (first|exact (Kd.C_below HR177_7.out HB.out)|(with_reducible refine Kd.C_alloc ?_ _)|(with_reducible refine Kd.C_drewN ?_ _)|(with_reducible refine Kd.C_drew ?_)));(case side8 => exact HC177_7.out);rintro e w70 ⟨rfl,hb⟩;have n0_:=Aside0.mk (blk_below (g:=gb161) (o:=.cells #[.slice A0_0 l0_0.length c0_0,.int .i64 a0_1,.int .i64 a0_2,.slice A0_3 l0_3.length c0_3,.slice (some ad177) l0_4.length c0_4] 26 (0,0)) (by (with_reducible repeat (first|refine blk_drewN ?_ _|refine blk_drew ?_|refine blk_alloc ?_ _));exact BK161.out) hb);have n1_:=Aside0.mk (blk_below (g:=gb165) (o:=.cells #[.slice A0_0 l0_0.length c0_0] 71 (0,0)) (by (with_reducible repeat (first|refine blk_drewN ?_ _|refine blk_drew ?_|refine blk_alloc ?_ _));exact BK165.out) hb);have n2_:=Aside0.mk (blk_below (g:=gb178) (o:=.cells #[.int .i64 ((rd_T56 l0_4 x77_3).f0),.int .i64 ((rd_T56 l0_4 x77_3).f1),.int .i64 ((rd_T56 l0_4 x77_3).f2),.int .i64 ((rd_T56 l0_4 x77_3).f3),.int .i64 ((rd_T56 l0_4 x77_3).f4),.slice A177_5 ((rd_T56 l0_4 x77_3).f5).length c177_5,.slice A177_6 ((rd_T56 l0_4 x77_3).f6).length c177_6,.slice A177_7 ((rd_T56 l0_4 x77_3).f7).length c177_7] 56 (0,0)) (by (with_reducible repeat (first|refine blk_drewN ?_ _|refine blk_drew ?_|refine blk_alloc ?_ _));exact BK178.out) hb);have n3_:=Aside0.mk (below_step (by repeat (first|(with_reducible first|exact HB.out|apply below_alloc|apply pw_below_drewN|apply below_drew1|refine below_set ?_ GE161.out|refine below_set ?_ GE165.out|refine below_set ?_ GE178.out)|exact HB.out)) hb);clear BK161;clear BK165;clear BK178;clear HB;have BK161:=n0_;have BK165:=n1_;have BK178:=n2_;have HB:=n3_;clear n0_ n1_ n2_ n3_;(try clear hb);(try clear hb2);(try clear hk);(try clear hi)))
               go_roundg k3
               case measure => have:=HK1.out;have:=HK2.out;have:=HK3.out;omega
               case rel => exact ⟨(t179),(wrap64 (x77_3 + 1)),(by first|rfl|(simp;done)|(simp [*];done)),(by first|rfl|(simp;done)|(simp [*];done)),H',⟨by have:=HK1.out;have:=HK2.out;have:=HK3.out;omega⟩,⟨by (with_reducible repeat (first|refine blk_drewN ?_ _|refine blk_drew ?_|refine blk_alloc ?_ _));exact BK161.out⟩,⟨by (with_reducible repeat (first|refine blk_drewN ?_ _|refine blk_drew ?_|refine blk_alloc ?_ _));exact BK165.out⟩,⟨by repeat (first|(with_reducible first|exact HB.out|apply below_alloc|apply pw_below_drewN|apply below_drew1|refine below_set ?_ GE161.out|refine below_set ?_ GE165.out|refine below_set ?_ GE178.out)|exact HB.out)⟩⟩
              ·replace c60:=Bool.eq_false_iff.mpr c60
               subst c60
               have H1:(class_Check.l2 k3 false l0_4 (l0_4.length:Int) (wrap64 (x77_3 + 1)) l0_0)=some r:=by rw [if_neg (show ¬ (false=true) by decide)] at H;exact H
               clear H
               have H:=H1
               clear H1
               have H':=Aside0.mk H
               clear H
               have p177:0≤(x77_3:Int):=of_decide_eq_true (by first|(with_reducible assumption)|assumption)
               have q177:x77_3 < (l0_4.length:Int):=of_decide_eq_true (by first|(with_reducible assumption)|assumption)
               obtain ⟨ad177,A177_5,c177_5,A177_6,c177_6,A177_7,c177_7,e177,hx177_0,hx177_1,hx177_2,hx177_3,hx177_4,hx177_5,hx177_6,hx177_7,hl177_5,hi177_5,hl177_6,hi177_6,hl177_7,hi177_7⟩:=at_T56 HR0_4.out x77_3 p177 q177
               cases e177
               replace hx177_0:=(HB.out.cell (World.block_lt_of_cell? w _ hx177_0)).trans hx177_0
               replace hx177_1:=(HB.out.cell (World.block_lt_of_cell? w _ hx177_1)).trans hx177_1
               replace hx177_2:=(HB.out.cell (World.block_lt_of_cell? w _ hx177_2)).trans hx177_2
               replace hx177_3:=(HB.out.cell (World.block_lt_of_cell? w _ hx177_3)).trans hx177_3
               replace hx177_4:=(HB.out.cell (World.block_lt_of_cell? w _ hx177_4)).trans hx177_4
               replace hx177_5:=(HB.out.cell (World.block_lt_of_cell? w _ hx177_5)).trans hx177_5
               replace hx177_6:=(HB.out.cell (World.block_lt_of_cell? w _ hx177_6)).trans hx177_6
               replace hx177_7:=(HB.out.cell (World.block_lt_of_cell? w _ hx177_7)).trans hx177_7
               have HR177_5:=Aside0.mk hi177_5
               have HC177_5:=Aside0.mk hl177_5
               clear hi177_5 hl177_5
               have HR177_6:=Aside0.mk hi177_6
               have HC177_6:=Aside0.mk hl177_6
               clear hi177_6 hl177_6
               have HR177_7:=Aside0.mk hi177_7
               have HC177_7:=Aside0.mk hl177_7
               clear hi177_7 hl177_7
               replace p177:=eq_true p177
               replace q177:=eq_true q177
               go_wp2_with (first|((with_reducible refine gate_dst (N:=12) rfl ?_);(try (refine gate_guard (by rfl) ?_;dsimp only));refine box_event ?hg (N:=12) ?hd (cs:=#[.int .i64 0,.int .i64 0,.int .i64 0,.int .i64 0,.int .i64 0,.slice none 0 0,.slice none 0 0,.slice none 0 0]) (t:=56) ?hr ?_;(case hd => rfl);(case hg => rfl);(case hr => first|(go_simp;done)|(go_simp;rfl));intro gb178 hg w71 hbox hb;have n0_:=Aside0.mk (blk_below (g:=gb161) (o:=.cells #[.slice A0_0 l0_0.length c0_0,.int .i64 a0_1,.int .i64 a0_2,.slice A0_3 l0_3.length c0_3,.slice (some ad177) l0_4.length c0_4] 26 (0,0)) (by (with_reducible repeat (first|refine blk_drewN ?_ _|refine blk_drew ?_|refine blk_alloc ?_ _));exact BK161.out) hb);have n1_:=Aside0.mk (blk_below (g:=gb165) (o:=.cells #[.slice A0_0 l0_0.length c0_0] 71 (0,0)) (by (with_reducible repeat (first|refine blk_drewN ?_ _|refine blk_drew ?_|refine blk_alloc ?_ _));exact BK165.out) hb);have n2_:=Aside0.mk (below_step (by repeat (first|(with_reducible first|exact HB.out|apply below_alloc|apply pw_below_drewN|apply below_drew1|refine below_set ?_ GE161.out|refine below_set ?_ GE165.out)|exact HB.out)) hb);have n3_:=Aside0.mk (hbox);have n4_:=Aside0.mk ((by rw [hg];exact (below_size (by repeat (first|(with_reducible first|exact HB.out|apply below_alloc|apply pw_below_drewN|apply below_drew1|refine below_set ?_ GE161.out|refine below_set ?_ GE165.out)|exact HB.out))):w.heap.size≤gb178));have n5_:=Aside0.mk ((by rw [hg];exact (below_size (by repeat (first|(with_reducible first|exact HB.out|apply below_alloc|apply pw_below_drewN|apply below_drew1|refine below_set ?_ GE161.out|refine below_set ?_ GE165.out)|exact HB.out))):w.heap.size≤gb178));have n6_:=Aside0.mk ((by rw [hg];exact Nat.ne_of_lt (blk_lt (g:=gb161) (o:=.cells #[.slice A0_0 l0_0.length c0_0,.int .i64 a0_1,.int .i64 a0_2,.slice A0_3 l0_3.length c0_3,.slice (some ad177) l0_4.length c0_4] 26 (0,0)) (by (with_reducible repeat (first|refine blk_drewN ?_ _|refine blk_drew ?_|refine blk_alloc ?_ _));exact BK161.out)):gb161 ≠ gb178));have n7_:=Aside0.mk ((by rw [hg];exact Nat.ne_of_gt (blk_lt (g:=gb161) (o:=.cells #[.slice A0_0 l0_0.length c0_0,.int .i64 a0_1,.int .i64 a0_2,.slice A0_3 l0_3.length c0_3,.slice (some ad177) l0_4.length c0_4] 26 (0,0)) (by (with_reducible repeat (first|refine blk_drewN ?_ _|refine blk_drew ?_|refine blk_alloc ?_ _));exact BK161.out)):gb178 ≠ gb161));have n8_:=Aside0.mk ((by rw [hg];exact Nat.ne_of_lt (blk_lt (g:=gb165) (o:=.cells #[.slice A0_0 l0_0.length c0_0] 71 (0,0)) (by (with_reducible repeat (first|refine blk_drewN ?_ _|refine blk_drew ?_|refine blk_alloc ?_ _));exact BK165.out)):gb165 ≠ gb178));have n9_:=Aside0.mk ((by rw [hg];exact Nat.ne_of_gt (blk_lt (g:=gb165) (o:=.cells #[.slice A0_0 l0_0.length c0_0] 71 (0,0)) (by (with_reducible repeat (first|refine blk_drewN ?_ _|refine blk_drew ?_|refine blk_alloc ?_ _));exact BK165.out)):gb178 ≠ gb165));clear BK161;clear BK165;clear HB;have BK161:=n0_;have BK165:=n1_;have HB:=n2_;have BK178:=n3_;have GW178:=n4_;have GE178:=n5_;have NB161_178:=n6_;have NB178_161:=n7_;have NB165_178:=n8_;have NB178_165:=n9_;clear n0_ n1_ n2_ n3_ n4_ n5_ n6_ n7_ n8_ n9_;clear hb hbox hg;have hnb72:=NB178_161.out;have hnc72:=NB161_178.out;have hnb73:=NB178_165.out;have hnc73:=NB165_178.out;have hcz74_0:w71.cell? ⟨gb178,0,none⟩=some (.int .i64 0):=(blk_cell BK178.out 0).trans rfl;have hcz74_1:w71.cell? ⟨gb178,1,none⟩=some (.int .i64 0):=(blk_cell BK178.out 1).trans rfl;have hcz74_2:w71.cell? ⟨gb178,2,none⟩=some (.int .i64 0):=(blk_cell BK178.out 2).trans rfl;have hcz74_3:w71.cell? ⟨gb178,3,none⟩=some (.int .i64 0):=(blk_cell BK178.out 3).trans rfl;have hcz74_4:w71.cell? ⟨gb178,4,none⟩=some (.int .i64 0):=(blk_cell BK178.out 4).trans rfl;have hcz74_5:w71.cell? ⟨gb178,5,none⟩=some (.slice none 0 0):=(blk_cell BK178.out 5).trans rfl;have hcz74_6:w71.cell? ⟨gb178,6,none⟩=some (.slice none 0 0):=(blk_cell BK178.out 6).trans rfl;have hcz74_7:w71.cell? ⟨gb178,7,none⟩=some (.slice none 0 0):=(blk_cell BK178.out 7).trans rfl;have hfz74_0:=blk_frozen BK178.out 0;have hfz74_1:=blk_frozen BK178.out 1;have hfz74_2:=blk_frozen BK178.out 2;have hfz74_3:=blk_frozen BK178.out 3;have hfz74_4:=blk_frozen BK178.out 4;have hfz74_5:=blk_frozen BK178.out 5;have hfz74_6:=blk_frozen BK178.out 6;have hfz74_7:=blk_frozen BK178.out 7)|((with_reducible refine gate_store (t:=56) (p:=12) rfl ?_);refine store_event (t:=56) (p:=12) (v:=?vo_w75) (w1:=((((((((w71.setCell ⟨gb178,0,none⟩ (.int .i64 ((rd_T56 l0_4 x77_3).f0))).setCell ⟨gb178,1,none⟩ (.int .i64 ((rd_T56 l0_4 x77_3).f1))).setCell ⟨gb178,2,none⟩ (.int .i64 ((rd_T56 l0_4 x77_3).f2))).setCell ⟨gb178,3,none⟩ (.int .i64 ((rd_T56 l0_4 x77_3).f3))).setCell ⟨gb178,4,none⟩ (.int .i64 ((rd_T56 l0_4 x77_3).f4))).setCell ⟨gb178,5,none⟩ (.slice A177_5 ((rd_T56 l0_4 x77_3).f5).length c177_5)).setCell ⟨gb178,6,none⟩ (.slice A177_6 ((rd_T56 l0_4 x77_3).f6).length c177_6)).setCell ⟨gb178,7,none⟩ (.slice A177_7 ((rd_T56 l0_4 x77_3).f7).length c177_7))) ?hg ?ho ?hn ?hr ?_;(case ho => rfl);(case hg => rfl);(case hn => rfl);(case hr => first|(go_simp;done)|(go_simp;rfl));intro w75 hw;have n0_:Aside0 (w75.heap[gb161]?=some (.cells #[.slice A0_0 l0_0.length c0_0,.int .i64 a0_1,.int .i64 a0_2,.slice A0_3 l0_3.length c0_3,.slice (some ad177) l0_4.length c0_4] 26 (0,0))):=⟨(by rw [hw];exact (by (with_reducible repeat (first|refine blk_drewN ?_ _|refine blk_drew ?_|refine blk_alloc ?_ _));refine blk_far ?_ NB161_178.out _;(with_reducible repeat (first|refine blk_drewN ?_ _|refine blk_drew ?_|refine blk_alloc ?_ _));refine blk_far ?_ NB161_178.out _;(with_reducible repeat (first|refine blk_drewN ?_ _|refine blk_drew ?_|refine blk_alloc ?_ _));refine blk_far ?_ NB161_178.out _;(with_reducible repeat (first|refine blk_drewN ?_ _|refine blk_drew ?_|refine blk_alloc ?_ _));refine blk_far ?_ NB161_178.out _;(with_reducible repeat (first|refine blk_drewN ?_ _|refine blk_drew ?_|refine blk_alloc ?_ _));refine blk_far ?_ NB161_178.out _;(with_reducible repeat (first|refine blk_drewN ?_ _|refine blk_drew ?_|refine blk_alloc ?_ _));refine blk_far ?_ NB161_178.out _;(with_reducible repeat (first|refine blk_drewN ?_ _|refine blk_drew ?_|refine blk_alloc ?_ _));refine blk_far ?_ NB161_178.out _;(with_reducible repeat (first|refine blk_drewN ?_ _|refine blk_drew ?_|refine blk_alloc ?_ _));refine blk_far ?_ NB161_178.out _;(with_reducible repeat (first|refine blk_drewN ?_ _|refine blk_drew ?_|refine blk_alloc ?_ _));exact BK161.out))⟩;have n1_:Aside0 (w75.heap[gb165]?=some (.cells #[.slice A0_0 l0_0.length c0_0] 71 (0,0))):=⟨(by rw [hw];exact (by (with_reducible repeat (first|refine blk_drewN ?_ _|refine blk_drew ?_|refine blk_alloc ?_ _));refine blk_far ?_ NB165_178.out _;(with_reducible repeat (first|refine blk_drewN ?_ _|refine blk_drew ?_|refine blk_alloc ?_ _));refine blk_far ?_ NB165_178.out _;(with_reducible repeat (first|refine blk_drewN ?_ _|refine blk_drew ?_|refine blk_alloc ?_ _));refine blk_far ?_ NB165_178.out _;(with_reducible repeat (first|refine blk_drewN ?_ _|refine blk_drew ?_|refine blk_alloc ?_ _));refine blk_far ?_ NB165_178.out _;(with_reducible repeat (first|refine blk_drewN ?_ _|refine blk_drew ?_|refine blk_alloc ?_ _));refine blk_far ?_ NB165_178.out _;(with_reducible repeat (first|refine blk_drewN ?_ _|refine blk_drew ?_|refine blk_alloc ?_ _));refine blk_far ?_ NB165_178.out _;(with_reducible repeat (first|refine blk_drewN ?_ _|refine blk_drew ?_|refine blk_alloc ?_ _));refine blk_far ?_ NB165_178.out _;(with_reducible repeat (first|refine blk_drewN ?_ _|refine blk_drew ?_|refine blk_alloc ?_ _));refine blk_far ?_ NB165_178.out _;(with_reducible repeat (first|refine blk_drewN ?_ _|refine blk_drew ?_|refine blk_alloc ?_ _));exact BK165.out))⟩;have n2_:Aside0 (w75.heap[gb178]?=some (.cells #[.int .i64 ((rd_T56 l0_4 x77_3).f0),.int .i64 ((rd_T56 l0_4 x77_3).f1),.int .i64 ((rd_T56 l0_4 x77_3).f2),.int .i64 ((rd_T56 l0_4 x77_3).f3),.int .i64 ((rd_T56 l0_4 x77_3).f4),.slice A177_5 ((rd_T56 l0_4 x77_3).f5).length c177_5,.slice A177_6 ((rd_T56 l0_4 x77_3).f6).length c177_6,.slice A177_7 ((rd_T56 l0_4 x77_3).f7).length c177_7] 56 (0,0))):=⟨(by rw [hw];exact (by (with_reducible repeat (first|refine blk_drewN ?_ _|refine blk_drew ?_|refine blk_alloc ?_ _));refine blk_put (cs:=#[.int .i64 ((rd_T56 l0_4 x77_3).f0),.int .i64 ((rd_T56 l0_4 x77_3).f1),.int .i64 ((rd_T56 l0_4 x77_3).f2),.int .i64 ((rd_T56 l0_4 x77_3).f3),.int .i64 ((rd_T56 l0_4 x77_3).f4),.slice A177_5 ((rd_T56 l0_4 x77_3).f5).length c177_5,.slice A177_6 ((rd_T56 l0_4 x77_3).f6).length c177_6,.slice none 0 0]) ?_ 7 _ rfl;(with_reducible repeat (first|refine blk_drewN ?_ _|refine blk_drew ?_|refine blk_alloc ?_ _));refine blk_put (cs:=#[.int .i64 ((rd_T56 l0_4 x77_3).f0),.int .i64 ((rd_T56 l0_4 x77_3).f1),.int .i64 ((rd_T56 l0_4 x77_3).f2),.int .i64 ((rd_T56 l0_4 x77_3).f3),.int .i64 ((rd_T56 l0_4 x77_3).f4),.slice A177_5 ((rd_T56 l0_4 x77_3).f5).length c177_5,.slice none 0 0,.slice none 0 0]) ?_ 6 _ rfl;(with_reducible repeat (first|refine blk_drewN ?_ _|refine blk_drew ?_|refine blk_alloc ?_ _));refine blk_put (cs:=#[.int .i64 ((rd_T56 l0_4 x77_3).f0),.int .i64 ((rd_T56 l0_4 x77_3).f1),.int .i64 ((rd_T56 l0_4 x77_3).f2),.int .i64 ((rd_T56 l0_4 x77_3).f3),.int .i64 ((rd_T56 l0_4 x77_3).f4),.slice none 0 0,.slice none 0 0,.slice none 0 0]) ?_ 5 _ rfl;(with_reducible repeat (first|refine blk_drewN ?_ _|refine blk_drew ?_|refine blk_alloc ?_ _));refine blk_put (cs:=#[.int .i64 ((rd_T56 l0_4 x77_3).f0),.int .i64 ((rd_T56 l0_4 x77_3).f1),.int .i64 ((rd_T56 l0_4 x77_3).f2),.int .i64 ((rd_T56 l0_4 x77_3).f3),.int .i64 0,.slice none 0 0,.slice none 0 0,.slice none 0 0]) ?_ 4 _ rfl;(with_reducible repeat (first|refine blk_drewN ?_ _|refine blk_drew ?_|refine blk_alloc ?_ _));refine blk_put (cs:=#[.int .i64 ((rd_T56 l0_4 x77_3).f0),.int .i64 ((rd_T56 l0_4 x77_3).f1),.int .i64 ((rd_T56 l0_4 x77_3).f2),.int .i64 0,.int .i64 0,.slice none 0 0,.slice none 0 0,.slice none 0 0]) ?_ 3 _ rfl;(with_reducible repeat (first|refine blk_drewN ?_ _|refine blk_drew ?_|refine blk_alloc ?_ _));refine blk_put (cs:=#[.int .i64 ((rd_T56 l0_4 x77_3).f0),.int .i64 ((rd_T56 l0_4 x77_3).f1),.int .i64 0,.int .i64 0,.int .i64 0,.slice none 0 0,.slice none 0 0,.slice none 0 0]) ?_ 2 _ rfl;(with_reducible repeat (first|refine blk_drewN ?_ _|refine blk_drew ?_|refine blk_alloc ?_ _));refine blk_put (cs:=#[.int .i64 ((rd_T56 l0_4 x77_3).f0),.int .i64 0,.int .i64 0,.int .i64 0,.int .i64 0,.slice none 0 0,.slice none 0 0,.slice none 0 0]) ?_ 1 _ rfl;(with_reducible repeat (first|refine blk_drewN ?_ _|refine blk_drew ?_|refine blk_alloc ?_ _));refine blk_put (cs:=#[.int .i64 0,.int .i64 0,.int .i64 0,.int .i64 0,.int .i64 0,.slice none 0 0,.slice none 0 0,.slice none 0 0]) ?_ 0 _ rfl;(with_reducible repeat (first|refine blk_drewN ?_ _|refine blk_drew ?_|refine blk_alloc ?_ _));exact BK178.out))⟩;have n3_:Aside0 (Below w.heap.size w w75):=⟨(by rw [hw];exact (by repeat (first|(with_reducible first|exact HB.out|apply below_alloc|apply pw_below_drewN|apply below_drew1|refine below_set ?_ GE161.out|refine below_set ?_ GE165.out|refine below_set ?_ GE178.out)|exact HB.out)))⟩;clear hw;clear BK161;clear BK165;clear BK178;clear HB;have BK161:=n0_;have BK165:=n1_;have BK178:=n2_;have HB:=n3_;clear n0_ n1_ n2_ n3_))
               go_roundg k3
               case measure => have:=HK1.out;have:=HK2.out;have:=HK3.out;omega
               case rel => exact ⟨(false),(wrap64 (x77_3 + 1)),(by first|rfl|(simp;done)|(simp [*];done)),(by first|rfl|(simp;done)|(simp [*];done)),H',⟨by have:=HK1.out;have:=HK2.out;have:=HK3.out;omega⟩,⟨by (with_reducible repeat (first|refine blk_drewN ?_ _|refine blk_drew ?_|refine blk_alloc ?_ _));exact BK161.out⟩,⟨by (with_reducible repeat (first|refine blk_drewN ?_ _|refine blk_drew ?_|refine blk_alloc ?_ _));exact BK165.out⟩,⟨by repeat (first|(with_reducible first|exact HB.out|apply below_alloc|apply pw_below_drewN|apply below_drew1|refine below_set ?_ GE161.out|refine below_set ?_ GE165.out|refine below_set ?_ GE178.out)|exact HB.out)⟩⟩
             ·rw [if_neg c59] at H
              exact absurd H (by simp)
            ·rw [if_neg c58] at H
             exact absurd H (by simp)
           ·rw [if_neg c57] at H
            have c57b0:decide (x77_3 < (l0_4.length:Int))=false:=decide_eq_false c57
            clear c57
            by_cases c76:x8_3=true
            ·subst c76
             have H1:(some 0)=some r:=by rw [if_pos rfl] at H;exact H
             clear H
             have H:=H1
             clear H1
             obtain rfl:=Option.some.inj H
             go_wp2
             go_ret
             exact ⟨by first|rfl|(simp [errW_none,errW_some] <;> rfl)|(simp only [← hji4];first|rfl|(simp [errW_none,errW_some] <;> rfl))|(simp [*,errW_none,errW_some] <;> rfl),by repeat (first|(with_reducible first|exact HB.out|apply below_alloc|apply pw_below_drewN|apply below_drew1|refine below_set ?_ GE161.out|refine below_set ?_ GE165.out)|exact HB.out)⟩
            ·replace c76:=Bool.eq_false_iff.mpr c76
             subst c76
             have H1:(some 50)=some r:=by rw [if_neg (show ¬ (false=true) by decide)] at H;exact H
             clear H
             have H:=H1
             clear H1
             obtain rfl:=Option.some.inj H
             go_wp2
             go_ret
             exact ⟨by first|rfl|(simp [errW_none,errW_some] <;> rfl)|(simp only [← hji4];first|rfl|(simp [errW_none,errW_some] <;> rfl))|(simp [*,errW_none,errW_some] <;> rfl),by repeat (first|(with_reducible first|exact HB.out|apply below_alloc|apply pw_below_drewN|apply below_drew1|refine below_set ?_ GE161.out|refine below_set ?_ GE165.out)|exact HB.out)⟩
 ·rw [if_neg c3] at H
  have c3b0:(t162==0)=false:=beq_eq_false_iff_ne.mpr c3
  have c3b1:(t162 != 0)=true:=bne_iff_ne.mpr c3
  obtain rfl:=Option.some.inj H
  go_enter Tryd.func10,Tryd.ntmps10
  go_wp2_with (first|((with_reducible refine gate_dst (N:=1) rfl ?_);(try (refine gate_guard (by rfl) ?_;dsimp only));refine box_event ?hg (N:=1) ?hd (cs:=#[.slice A0_0 l0_0.length c0_0,.int .i64 a0_1,.int .i64 a0_2,.slice A0_3 l0_3.length c0_3,.slice A0_4 l0_4.length c0_4]) (t:=26) ?hr ?_;(case hd => rfl);(case hg => rfl);(case hr => first|(go_simp;done)|(go_simp;rfl));intro gb161 hg w77 hbox hb;have n0_:=Aside0.mk (below_step (by repeat (first|(with_reducible first|exact HB.out|apply below_alloc|apply pw_below_drewN|apply below_drew1)|exact HB.out)) hb);have n1_:=Aside0.mk (hbox);have n2_:=Aside0.mk ((by rw [hg];exact (below_size (by repeat (first|(with_reducible first|exact HB.out|apply below_alloc|apply pw_below_drewN|apply below_drew1)|exact HB.out))):w.heap.size≤gb161));have n3_:=Aside0.mk ((by rw [hg];exact (below_size (by repeat (first|(with_reducible first|exact HB.out|apply below_alloc|apply pw_below_drewN|apply below_drew1)|exact HB.out))):w.heap.size≤gb161));clear HB;have HB:=n0_;have BK161:=n1_;have GW161:=n2_;have GE161:=n3_;clear n0_ n1_ n2_ n3_;clear hb hbox hg;have hcz78_0:w77.cell? ⟨gb161,0,none⟩=some (.slice A0_0 l0_0.length c0_0):=(blk_cell BK161.out 0).trans rfl;have hcz78_1:w77.cell? ⟨gb161,1,none⟩=some (.int .i64 a0_1):=(blk_cell BK161.out 1).trans rfl;have hcz78_2:w77.cell? ⟨gb161,2,none⟩=some (.int .i64 a0_2):=(blk_cell BK161.out 2).trans rfl;have hcz78_3:w77.cell? ⟨gb161,3,none⟩=some (.slice A0_3 l0_3.length c0_3):=(blk_cell BK161.out 3).trans rfl;have hcz78_4:w77.cell? ⟨gb161,4,none⟩=some (.slice A0_4 l0_4.length c0_4):=(blk_cell BK161.out 4).trans rfl;have hfz78_0:=blk_frozen BK161.out 0;have hfz78_1:=blk_frozen BK161.out 1;have hfz78_2:=blk_frozen BK161.out 2;have hfz78_3:=blk_frozen BK161.out 3;have hfz78_4:=blk_frozen BK161.out 4)|((with_reducible refine gate_callee (f:=29) rfl ?_);refine goesL_ (some 15) rfl rfl Tryd.func29 (by kernel_rfl) rfl #[.slice A0_0 l0_0.length c0_0] rfl (by (try simp only [List.map_toArray,List.map_cons,List.map_nil]);first|done|rfl|(simp only [List.length_drop,List.length_take];rfl)) ?_;(with_reducible refine (pool_Check.calls k _ _ l0_0 t162 _ ?side3 ?side1 ?side2 A2.out).mono ?_);(case side1 => repeat (first|exact (Kd.C_below HR0_0.out HB.out)|(with_reducible refine Kd.C_alloc ?_ _)|(with_reducible refine Kd.C_drewN ?_ _)|(with_reducible refine Kd.C_drew ?_)));(case side2 => exact HC0_0.out);(case side3 => exact ⟨GG.below hG.out (by repeat (first|(with_reducible first|exact HB.out|apply below_alloc|apply pw_below_drewN|apply below_drew1|refine below_set ?_ GE161.out)|exact HB.out))⟩);rintro e w79 ⟨rfl,hb⟩;refine ⟨_,rfl,?_⟩;have n0_:=Aside0.mk (blk_below (g:=gb161) (o:=.cells #[.slice A0_0 l0_0.length c0_0,.int .i64 a0_1,.int .i64 a0_2,.slice A0_3 l0_3.length c0_3,.slice A0_4 l0_4.length c0_4] 26 (0,0)) (by (with_reducible repeat (first|refine blk_drewN ?_ _|refine blk_drew ?_|refine blk_alloc ?_ _));exact BK161.out) hb);have n1_:=Aside0.mk (below_step (by repeat (first|(with_reducible first|exact HB.out|apply below_alloc|apply pw_below_drewN|apply below_drew1|refine below_set ?_ GE161.out)|exact HB.out)) hb);clear BK161;clear HB;have BK161:=n0_;have HB:=n1_;clear n0_ n1_;(try clear hb);(try clear hb2);(try clear hk);(try clear hi)))
  go_ret
  exact ⟨by first|rfl|(simp [errW_none,errW_some] <;> rfl)|(simp [*,errW_none,errW_some] <;> rfl),by repeat (first|(with_reducible first|exact HB.out|apply below_alloc|apply pw_below_drewN|apply below_drew1|refine below_set ?_ GE161.out)|exact HB.out)⟩
end Go.Proofs.YtbgniepcoaiinaaDoor.Px
namespace Go.Proofs.YtbgniepcoaiinaaDoor.Px
open Go.RowKit Go.Proofs.YtbgniepcoaiinaaDoorW.PrintWords Go.Proofs.YtbgniepcoaiinaaDoorW.PrintLast Go.Proofs.YtbgniepcoaiinaaDoorW.PrintMore
set_option linter.unusedVariables false
set_option linter.unusedSimpArgs false
abbrev Fld:=S53
def sCode:ByteArray:={ data:=#[67,111,100,101] }
def wFlds:List Fld→List Int→Option (List Int)
 | [],bs => some bs
 | t :: l,bs => (wTwos [t.f0,t.f1,t.f2,0] bs).bind (wFlds l)
def wMths (k:Nat) (p:List Cst):List Mth→List Int→Option (List Int)
 | [],bs => some bs
 | m :: l,bs => (class_place.f k p sCode).bind fun x => (wTwos [m.f0,m.f1,m.f2,1,x] bs).bind fun b6 => (class_body.f k p m.f3 m.f4 m.f5 m.f6 m.f7).bind fun bb => (wLong bb b6).bind (wMths k p l)
def class_Encode.w (k:Nat) (p:List Cst) (pb:List Int) (t s:Int) (fs:List Fld) (ms:List Mth):Option (List Int) :=
 (wU 4 3405691582 []).bind fun b1 => (wU 4 61 b1).bind fun b2 => (wB pb b2).bind fun b3 => if fs.length≤1048576∧ms.length≤1048576 then
  (wTwos [0,t,s,0,(fs.length:Int)] b3).bind fun b4 => (wFlds fs b4).bind fun b5 => (wTwos [(ms.length:Int)] b5).bind fun b6 => (wMths k p ms b6).bind fun b7 => (wTwos [0] b7).bind fun b => if b.length≤1048576 then some b else none
 else none
def class_Encode.f (k:Nat) (p:List Cst) (t s:Int) (fs:List Fld) (ms:List Mth):Option (List Int × Int) :=
 (class_Check.f k p t s fs ms).bind fun e => if e=0 then (pool_Encode.f k p).bind fun pb => (class_Encode.w k p pb.1 t s fs ms).bind fun b => some (b,0) else some ([],e)
theorem class_body.mono:∀ p s l c t m k,LeO (class_body.f k p s l c t m) (class_body.f (k + 1) p s l c t m):=by
 intro p s l c t m k
 unfold class_body.f
 refine LeO.bind (LeO.refl _) (fun _ => LeO.bind (LeO.refl _) (fun _ => LeO.ite (LeO.bind (LeO.refl _) (fun _ => LeO.bind (LeO.refl _) (fun _ => LeO.bind ?_ (fun _ => LeO.refl _)))) (LeO.refl _)))
 exact LeO.ite (LeO.refl _) (LeO.bind (class_place.mono _ _ _) (fun _ => LeO.refl _))
theorem wMths_mono (k:Nat) (p:List Cst):∀ l bs,LeO (wMths k p l bs) (wMths (k + 1) p l bs)
 | [],_ => LeO.refl _
 | m :: l,bs => by
  unfold wMths
  exact LeO.bind (class_place.mono _ _ _) (fun _ => LeO.bind (LeO.refl _) (fun _ => LeO.bind (class_body.mono _ _ _ _ _ _ _) (fun _ => LeO.bind (LeO.refl _) (fun _ => wMths_mono k p l _))))
theorem class_Encode.mono:∀ a0 a1 a2 a3 a4 k,LeO (class_Encode.f k a0 a1 a2 a3 a4) (class_Encode.f (k + 1) a0 a1 a2 a3 a4):=by
 intro p t s fs ms k
 unfold class_Encode.f
 refine LeO.bind (class_Check.mono _ _ _ _ _ _) (fun _ => LeO.ite (LeO.bind (pool_Encode.mono _ _) (fun _ => LeO.bind ?_ (fun _ => LeO.refl _))) (LeO.refl _))
 unfold class_Encode.w
 exact LeO.bind (LeO.refl _) (fun _ => LeO.bind (LeO.refl _) (fun _ => LeO.bind (LeO.refl _) (fun _ => LeO.ite (LeO.bind (LeO.refl _) (fun _ => LeO.bind (LeO.refl _) (fun _ => LeO.bind (LeO.refl _) (fun _ => LeO.bind (wMths_mono _ _ _ _) (fun _ => LeO.refl _))))) (LeO.refl _))))
abbrev ClsRow (v0:Value) (a1 a2:Int) (v3 v4:Value):Obj:=.cells #[v0,.int .i64 a1,.int .i64 a2,v3,v4] 26 (0,0)
theorem BodyAt.cp {w W:World} {bm bf g B:Nat} {M:Obj} {v:Value} {cur:List Int} {a1 a2:Int} {v0 v3 v4:Value} (h:BodyAt w W bm bf g B M v cur) (hM:M=ClsRow v0 a1 a2 v3 v4):W.cell? ⟨bm,0,none⟩=some v0:=by
 have hk:=h.km
 rw [hM] at hk
 exact (blk_cell hk 0).trans rfl
theorem BodyAt.cls {w W:World} {bm bf g B:Nat} {M:Obj} {v:Value} {cur:List Int} {a1 a2:Int} {v0 v3 v4:Value} (h:BodyAt w W bm bf g B M v cur) (hM:M=ClsRow v0 a1 a2 v3 v4):W.cell? ⟨bm,1,none⟩=some (.int .i64 a1)∧W.cell? ⟨bm,2,none⟩=some (.int .i64 a2)∧W.cell? ⟨bm,3,none⟩=some v3∧W.cell? ⟨bm,4,none⟩=some v4:=by
 have hk:=h.km
 rw [hM] at hk
 exact ⟨(blk_cell hk 1).trans rfl,(blk_cell hk 2).trans rfl,(blk_cell hk 3).trans rfl,(blk_cell hk 4).trans rfl⟩
structure MthAt (W:World) (g:Nat) (v:Value) (k:Nat) (m:Mth) (v5 v6 v7:Value):Prop where
 blk:W.heap[k]?=some (MthRow m.f0 m.f1 m.f2 m.f3 m.f4 v5 v6 v7)
 far:WrFar W g v k
theorem MthAt.step {B:Nat} {W W':World} {g k:Nat} {v v' v5 v6 v7:Value} {m:Mth} (h:MthAt W g v k m v5 v6 v7) (hS:WrStep B W W' g v v'):MthAt W' g v' k m v5 v6 v7:=⟨hS.blk h.far h.blk,hS.far h.far⟩
theorem MthAt.new {W W':World} {g k:Nat} {v v5 v6 v7:Value} {m:Mth} (h:MthAt W g v k m v5 v6 v7) (hb:Below W.heap.size W W'):MthAt W' g v k m v5 v6 v7:=⟨(hb.block _ (blk_lt h.blk)).trans h.blk,h.far.below hb.size⟩
theorem MthAt.cm {W:World} {g k:Nat} {v v5 v6 v7:Value} {m:Mth} (h:MthAt W g v k m v5 v6 v7):W.cell? ⟨k,0,none⟩=some (.int .i64 m.f0)∧W.cell? ⟨k,1,none⟩=some (.int .i64 m.f1)∧W.cell? ⟨k,2,none⟩=some (.int .i64 m.f2)∧W.cell? ⟨k,3,none⟩=some (.int .i64 m.f3)∧W.cell? ⟨k,4,none⟩=some (.int .i64 m.f4)∧W.cell? ⟨k,5,none⟩=some v5∧W.cell? ⟨k,6,none⟩=some v6∧W.cell? ⟨k,7,none⟩=some v7 :=
 ⟨(blk_cell h.blk 0).trans rfl,(blk_cell h.blk 1).trans rfl,(blk_cell h.blk 2).trans rfl,(blk_cell h.blk 3).trans rfl,(blk_cell h.blk 4).trans rfl,(blk_cell h.blk 5).trans rfl,(blk_cell h.blk 6).trans rfl,(blk_cell h.blk 7).trans rfl⟩
set_option maxHeartbeats 80000000 in
set_option maxRecDepth 100000 in
theorem class_Encode.calls (k:Nat) (A0_0:Option Addr) (c0_0:Nat) (l0_0:List Cst) (a0_1:Int) (a0_2:Int) (A0_3:Option Addr) (c0_3:Nat) (l0_3:List Fld) (A0_4:Option Addr) (c0_4:Nat) (l0_4:List Mth) (r1:List Int) (r2:Int) (w:World) (hG:Aside0 (GG w)) (hr0_0:Kd.C k67 w A0_0 l0_0.length l0_0) (hc0_0:l0_0.length≤c0_0) (hr0_3:Kd.C k53 w A0_3 l0_3.length l0_3) (hc0_3:l0_3.length≤c0_3) (hr0_4:Kd.C k56 w A0_4 l0_4.length l0_4) (hc0_4:l0_4.length≤c0_4) (h:class_Encode.f k l0_0 a0_1 a0_2 l0_3 l0_4=some (r1,r2)) :
  Calls Tryd.prog 7 #[.agg #[.slice A0_0 l0_0.length c0_0,.int .i64 a0_1,.int .i64 a0_2,.slice A0_3 l0_3.length c0_3,.slice A0_4 l0_4.length c0_4]] w fun e w' => ∃ v0_:Value,e=.returned (.tuple #[v0_,.int .i64 r2])∧Kd.R (Kd.int .u8) 5 w' w.heap.size (fun _ => True) v0_ r1∧Below w.heap.size w w':=by
 unfold class_Encode.f at h
 obtain ⟨e0,hE,h⟩:=Option.bind_eq_some_iff.mp h
 have HE:=Aside0.mk hE
 have HH:=Aside0.mk h
 have HR0_0:=Aside0.mk hr0_0
 have HC0_0:=Aside0.mk hc0_0
 have HR0_3:=Aside0.mk hr0_3
 have HC0_3:=Aside0.mk hc0_3
 have HR0_4:=Aside0.mk hr0_4
 have HC0_4:=Aside0.mk hc0_4
 have hu26:=Tryd.underlying26
 have hu56:=Tryd.underlying56
 have hu53:=Tryd.underlying53
 clear hE h hr0_0 hc0_0 hr0_3 hc0_3 hr0_4 hc0_4
 obtain ⟨M,hM⟩:∃ M,M=ClsRow (.slice A0_0 l0_0.length c0_0) a0_1 a0_2 (.slice A0_3 l0_3.length c0_3) (.slice A0_4 l0_4.length c0_4):=⟨_,rfl⟩
 have HM:=Aside0.mk hM
 clear hM
 go_enter Tryd.func7,Tryd.ntmps7
 go_wp2_with fail
 obtain ⟨bc,hbc⟩:∃ bc,bc=w.heap.size:=⟨_,rfl⟩
 obtain ⟨W1,hW1⟩:∃ W1,W1=w.alloc M:=⟨_,rfl⟩
 have hW1':=hW1
 rw [HM.out] at hW1'
 rw [← hW1',← hbc]
 have HB1:=Aside0.mk (show Below w.heap.size w W1 from by rw [hW1];exact below_alloc (Below.refl _ _) _)
 have HK1:=Aside0.mk (show W1.heap[bc]?=some M from by rw [hW1,hbc];exact blk_new _ _)
 clear hW1 hW1' hbc
 refine (class_Check.calls k A0_0 c0_0 l0_0 a0_1 a0_2 A0_3 c0_3 l0_3 A0_4 c0_4 l0_4 e0 W1 ⟨GG.below hG.out HB1.out⟩ (Kd.C_below HR0_0.out HB1.out) HC0_0.out (Kd.C_below HR0_3.out HB1.out) HC0_3.out (Kd.C_below HR0_4.out HB1.out) HC0_4.out HE.out).mono ?_
 rintro e W2 ⟨rfl,hb2⟩
 have HB2:=Aside0.mk (HB1.out.trans (hb2.mono HB1.out.size))
 have HM2:=Aside0.mk ((hb2.block _ (blk_lt HK1.out)).trans HK1.out)
 clear hb2 HB1 HK1 HE
 have h:=HH.out
 clear HH
 by_cases he:e0=0
 case neg =>
  rw [if_neg he] at h
  have heb:(e0 != 0)=true:=bne_iff_ne.mpr he
  have H:=Option.some.inj h
  injection H with H1 H2
  subst H1
  subst H2
  clear he h
  go_wp2
  go_ret2
  exact ⟨_,rfl,Kd.R_nil _ _ _ _ _,HB2.out⟩
 rw [if_pos he] at h
 have heb:(e0 != 0)=false:=bne_eq_false_iff_eq.mpr he
 obtain ⟨⟨pb,pe⟩,hP,h⟩:=Option.bind_eq_some_iff.mp h
 obtain ⟨bA,hw,h⟩:=Option.bind_eq_some_iff.mp h
 have H:=Option.some.inj h
 injection H with H1 H2
 subst H1
 subst H2
 unfold class_Encode.w at hw
 obtain ⟨b1,h1,hw⟩:=Option.bind_eq_some_iff.mp hw
 obtain ⟨b2,h2,hw⟩:=Option.bind_eq_some_iff.mp hw
 obtain ⟨b3,h3,hw⟩:=Option.bind_eq_some_iff.mp hw
 by_cases hl:l0_3.length≤1048576∧l0_4.length≤1048576
 case neg => rw [if_neg hl] at hw;cases hw
 rw [if_pos hl] at hw
 obtain ⟨b4,h4,hw⟩:=Option.bind_eq_some_iff.mp hw
 obtain ⟨b5,h5,hw⟩:=Option.bind_eq_some_iff.mp hw
 obtain ⟨b6,h6,hw⟩:=Option.bind_eq_some_iff.mp hw
 obtain ⟨b7,h7,hw⟩:=Option.bind_eq_some_iff.mp hw
 obtain ⟨b8,h8,hw⟩:=Option.bind_eq_some_iff.mp hw
 by_cases hl8:b8.length≤1048576
 case neg => rw [if_neg hl8] at hw;cases hw
 rw [if_pos hl8] at hw
 obtain rfl:=Option.some.inj hw
 have HP:=Aside0.mk hP
 have H1:=Aside0.mk h1
 have H2:=Aside0.mk h2
 have H3:=Aside0.mk h3
 have H4:=Aside0.mk h4
 have H5:=Aside0.mk h5
 have H6:=Aside0.mk h6
 have H7:=Aside0.mk h7
 have H8:=Aside0.mk h8
 have HL:=Aside0.mk hl
 have HL8:=Aside0.mk hl8
 clear hP h1 h2 h3 h4 h5 h6 h7 h8 hl hl8 hw h he
 go_wp2_with fail
 refine (class_fresh.calls W2).mono ?_
 rintro e W3 ⟨g,rfl,hg,hI3,hb3⟩
 have HI3:=Aside0.mk hI3
 have HG3:=Aside0.mk hg
 have HB3:=Aside0.mk hb3
 have HM3:=Aside0.mk ((hb3.block _ (blk_lt HM2.out)).trans HM2.out)
 clear hI3 hg hb3
 go_wp2_with fail
 obtain ⟨bf,hbf⟩:∃ bf,bf=W3.heap.size:=⟨_,rfl⟩
 obtain ⟨W4,hW4⟩:∃ W4,W4=W3.alloc (.cells #[.pointer (some ⟨g,0,none⟩)] 45 (0,0)):=⟨_,rfl⟩
 rw [← hW4,← hbf]
 have hb4:Below W3.heap.size W3 W4:=by rw [hW4];exact below_alloc (Below.refl _ _) _
 have hk4:W4.heap[bf]?=some (.cells #[.pointer (some ⟨g,0,none⟩)] 45 (0,0)):=by rw [hW4,hbf];exact blk_new _ _
 obtain ⟨B,hB⟩:∃ B,B=W2.heap.size:=⟨_,rfl⟩
 rw [← hB] at HI3 HG3
 have hlt:=blk_lt HM2.out
 have HA4:Aside0 (BodyAt w W4 bc bf g B M (.slice none 0 0) []):=⟨⟨HB2.out.trans ((HB3.out.mono HB2.out.size).trans (hb4.mono (Nat.le_trans HB2.out.size HB3.out.size))),HI3.out.below hb4,(hb4.block _ (blk_lt HM3.out)).trans HM3.out,hk4,⟨Nat.lt_of_lt_of_le (blk_lt HM3.out) hb4.size,by have:=HG3.out;omega,by rintro ⟨⟩⟩,HI3.out.far_new (by omega) (blk_lt hk4),by rw [hB];exact HB2.out.size⟩⟩
 clear hW4 hbf hb4 hk4 hB hlt HI3 HG3 HB3 HM3 HM2 HB2
 refine (wr_U (n:=4) HA4.out.I (by decide) (by decide) H1.out).mono ?_
 rintro e W5 ⟨rfl,v5,hI5,hS5⟩
 have HA5:=Aside0.mk (HA4.out.step hI5 hS5)
 clear hI5 hS5 HA4 H1
 have cf5:=HA5.out.cf
 go_wp2_with fail
 refine (wr_U (n:=4) HA5.out.I (by decide) (by decide) H2.out).mono ?_
 rintro e W6 ⟨rfl,v6,hI6,hS6⟩
 have HA6:=Aside0.mk (HA5.out.step hI6 hS6)
 clear hI6 hS6 HA5 H2 cf5
 have cp6:=HA6.out.cp HM.out
 go_wp2_with fail
 refine (pool_Encode.calls k A0_0 c0_0 l0_0 pb pe _ ⟨GG.below hG.out HA6.out.bl⟩ (Kd.C_below HR0_0.out HA6.out.bl) HC0_0.out HP.out).mono ?_
 rintro e W7 ⟨vp,rfl,hRp,hbp⟩
 obtain ⟨Ap,cp,hvp,hcp,_⟩:=Kd.R_reads hRp
 subst hvp
 have HRp:=Aside0.mk hRp
 have HA7:=Aside0.mk (HA6.out.new hbp)
 clear hRp hbp HA6 cp6 HP
 have cf7:=HA7.out.cf
 go_wp2_with fail
 refine (wr_B HA7.out.I (row_C HRp.out) H3.out).mono ?_
 rintro e W8 ⟨rfl,v8,hI8,hS8⟩
 have HA8:=Aside0.mk (HA7.out.step hI8 hS8)
 clear hI8 hS8 HA7 H3 HRp cf7
 have cf8:=HA8.out.cf
 obtain ⟨d1,d2,d3,_⟩:=HA8.out.cls HM.out
 go_wp2_with fail
 refine (two_at (l:=[0,a0_1,a0_2,0,(l0_3.length:Int)]) HA8.out.I H4.out rfl (by simp) rfl rfl).mono ?_
 rintro e W9 ⟨rfl,v9,hI9,hS9⟩
 have HA9:=Aside0.mk (HA8.out.step hI9 hS9)
 clear hI9 hS9 HA8 H4 cf8 d1 d2 d3
 obtain ⟨_,_,d3,_⟩:=HA9.out.cls HM.out
 go_wp2
 clear d3
 go_loopw [47] (fun vi wr => ∃ (i:Nat) (cur:List Int) (vr:Value),vi=.int .i64 (i:Int)∧Aside0 (i≤l0_3.length)∧Aside0 (wFlds (l0_3.drop i) cur=some b5)∧Aside0 (BodyAt w wr bc bf g B M vr cur)) (fun vi _ => (l0_3.length - (intOf vi).toNat))
 case atStart => exact ⟨0,b4,v9,rfl,⟨Nat.zero_le _⟩,H5,HA9⟩
 case round =>
  obtain ⟨i,cur,vr,rfl,HLI,HT,HAr⟩:=hrel
  clear HA9 H5
  by_cases hlt:i < l0_3.length
  ·have hpi:decide ((i:Int) < (l0_3.length:Int))=true:=decide_eq_true (by omega)
   have hpn:decide (i < l0_3.length)=true:=decide_eq_true hlt
   have hpt:(i < l0_3.length)=True:=eq_true hlt
   have hge:(0≤(i:Int))=True:=eq_true (by omega)
   obtain ⟨ad,ea,hx0,hx1,hx2⟩:=at_T53 (Kd.C_below HR0_3.out HAr.out.bl) (i:Int) (by omega) (by omega)
   subst ea
   simp only [Int.toNat_natCast] at hx0 hx1 hx2
   have hT:=HT.out
   have hdr:l0_3.drop i=rd_T53 l0_3 (i:Int) :: l0_3.drop (i + 1):=by
    rw [List.drop_eq_getElem_cons hlt]
    congr 1
    simp [rd_T53,List.getD_eq_getElem?_getD,List.getElem?_eq_getElem hlt]
   rw [hdr] at hT
   obtain ⟨bn,hU,hN⟩:=Option.bind_eq_some_iff.mp hT
   obtain ⟨tt,htt⟩:∃ tt,tt=rd_T53 l0_3 (i:Int):=⟨_,rfl⟩
   rw [← htt] at hU hx0 hx1 hx2
   have HU:=Aside0.mk hU
   have HN:=Aside0.mk hN
   have hwi:wrap64 ((i:Int) + 1)=(i:Int) + 1:=by have:=HL.out.1;unfold wrap64;omega
   have cfr:=HAr.out.cf
   have hltf:=blk_lt HAr.out.kf
   clear hT hdr hU hN HT hlt htt
   go_wp2_with fail
   have HAs:=Aside0.mk (HAr.out.new (below_alloc (Below.refl wr.heap.size wr) (.cells #[.int .i64 tt.f0,.int .i64 tt.f1,.int .i64 tt.f2] 53 (0,0))))
   refine (two_at (l:=[tt.f0,tt.f1,tt.f2,0]) HAs.out.I HU.out (by simp) (by simp) rfl rfl).mono ?_
   rintro e w3 ⟨rfl,v3,hI3,hS3⟩
   have HA3:=Aside0.mk (HAs.out.step hI3 hS3)
   clear hI3 hS3 hx0 hx1 hx2 cfr hltf HAs HAr
   go_wp2
   go_roundw
   case measure => exact fewer (of_decide_eq_true hpn) hwi
   case rel =>
    rw [hwi]
    exact ⟨i + 1,bn,v3,rfl,⟨of_decide_eq_true hpn⟩,HN,HA3⟩
  have hpi:decide ((i:Int) < (l0_3.length:Int))=false:=decide_eq_false (by omega)
  have hpn:decide (i < l0_3.length)=false:=decide_eq_false hlt
  have hT:=HT.out
  rw [List.drop_eq_nil_of_le (by omega)] at hT
  have e:=Option.some.inj hT
  subst e
  clear hT HT hlt HLI
  obtain ⟨W10,hW10⟩:∃ W10,W10=wr:=⟨_,rfl⟩
  have HA10:=HAr
  rw [← hW10] at HA10
  rw [← hW10]
  clear hW10 HAr
  have cf10:=HA10.out.cf
  obtain ⟨_,_,_,d4⟩:=HA10.out.cls HM.out
  go_wp2_with fail
  refine (two_at (l:=[(l0_4.length:Int)]) HA10.out.I H6.out rfl (by simp) rfl rfl).mono ?_
  rintro e W11 ⟨rfl,v11,hI11,hS11⟩
  have HA11:=Aside0.mk (HA10.out.step hI11 hS11)
  clear hI11 hS11 HA10 H6 cf10 d4
  obtain ⟨_,_,_,d4⟩:=HA11.out.cls HM.out
  go_wp2
  clear d4
  go_loopw [70] (fun vi wr => ∃ (i:Nat) (cur:List Int) (vr:Value),vi=.int .i64 (i:Int)∧Aside0 (i≤l0_4.length)∧Aside0 (wMths k l0_0 (l0_4.drop i) cur=some b7)∧Aside0 (BodyAt w wr bc bf g B M vr cur)) (fun vi _ => (l0_4.length - (intOf vi).toNat))
  case atStart => exact ⟨0,b6,v11,rfl,⟨Nat.zero_le _⟩,H7,HA11⟩
  case round =>
   obtain ⟨i,cur,vr,rfl,HLI,HT0,HAr⟩:=hrel
   clear HA11 H7
   by_cases hlt:i < l0_4.length
   ·have hpi:decide ((i:Int) < (l0_4.length:Int))=true:=decide_eq_true (by omega)
    have hpn:decide (i < l0_4.length)=true:=decide_eq_true hlt
    have hpt:(i < l0_4.length)=True:=eq_true hlt
    have hge:(0≤(i:Int))=True:=eq_true (by omega)
    obtain ⟨ad,A5,c5,A6,c6,A7,c7,ea,hx0,hx1,hx2,hx3,hx4,hx5,hx6,hx7,l5,g5,l6,g6,l7,g7⟩:=at_T56 HR0_4.out (i:Int) (by omega) (by omega)
    subst ea
    simp only [Int.toNat_natCast] at hx0 hx1 hx2 hx3 hx4 hx5 hx6 hx7
    have hT:=HT0.out
    have hdr:l0_4.drop i=rd_T56 l0_4 (i:Int) :: l0_4.drop (i + 1):=by
     rw [List.drop_eq_getElem_cons hlt]
     congr 1
     simp [rd_T56,List.getD_eq_getElem?_getD,List.getElem?_eq_getElem hlt]
    rw [hdr] at hT
    obtain ⟨x,hP,hT⟩:=Option.bind_eq_some_iff.mp hT
    obtain ⟨b6,hU,hT⟩:=Option.bind_eq_some_iff.mp hT
    obtain ⟨bb,hD,hT⟩:=Option.bind_eq_some_iff.mp hT
    obtain ⟨bn,hG1,hN⟩:=Option.bind_eq_some_iff.mp hT
    obtain ⟨mm,hmm⟩:∃ mm,mm=rd_T56 l0_4 (i:Int):=⟨_,rfl⟩
    rw [← hmm] at hU hD hx0 hx1 hx2 hx3 hx4 hx5 hx6 hx7 l5 g5 l6 g6 l7 g7
    have hy0:=pw_cell_below HAr.out.bl hx0
    have hy1:=pw_cell_below HAr.out.bl hx1
    have hy2:=pw_cell_below HAr.out.bl hx2
    have hy3:=pw_cell_below HAr.out.bl hx3
    have hy4:=pw_cell_below HAr.out.bl hx4
    have hy5:=pw_cell_below HAr.out.bl hx5
    have hy6:=pw_cell_below HAr.out.bl hx6
    have hy7:=pw_cell_below HAr.out.bl hx7
    have HPL:=Aside0.mk hP
    have HT:=Aside0.mk hU
    have HBD:=Aside0.mk hD
    have HLG:=Aside0.mk hG1
    have HN:=Aside0.mk hN
    have HQ5:=Aside0.mk g5
    have HQ6:=Aside0.mk g6
    have HQ7:=Aside0.mk g7
    have HL5:=Aside0.mk l5
    have HL6:=Aside0.mk l6
    have HL7:=Aside0.mk l7
    have hwi:wrap64 ((i:Int) + 1)=(i:Int) + 1:=by have:=HL.out.2;unfold wrap64;omega
    clear hT hdr hU hN HT0 hlt hmm hP hD hG1 g5 g6 g7 l5 l6 l7 hx0 hx1 hx2 hx3 hx4 hx5 hx6 hx7
    go_wp2
    obtain ⟨bk,hbk⟩:∃ bk,bk=wr.heap.size:=⟨_,rfl⟩
    obtain ⟨Wa,hWa⟩:∃ Wa,Wa=wr.alloc (MthRow mm.f0 mm.f1 mm.f2 mm.f3 mm.f4 (.slice A5 mm.f5.length c5) (.slice A6 mm.f6.length c6) (.slice A7 mm.f7.length c7)):=⟨_,rfl⟩
    rw [← hWa,← hbk]
    have hba:Below wr.heap.size wr Wa:=by rw [hWa];exact below_alloc (Below.refl _ _) _
    have hka:Wa.heap[bk]?=some (MthRow mm.f0 mm.f1 mm.f2 mm.f3 mm.f4 (.slice A5 mm.f5.length c5) (.slice A6 mm.f6.length c6) (.slice A7 mm.f7.length c7)):=by rw [hWa,hbk];exact blk_new _ _
    have HA7:=Aside0.mk (HAr.out.new hba)
    have HK7:Aside0 (MthAt Wa g vr bk mm (.slice A5 mm.f5.length c5) (.slice A6 mm.f6.length c6) (.slice A7 mm.f7.length c7)):=⟨⟨hka,HAr.out.I.far_new (w1:=Wa) (by omega) (blk_lt hka)⟩⟩
    clear hWa hbk hba hka hy0 hy1 hy2 hy3 hy4 hy5 hy6 hy7 HAr
    have cff:=HA7.out.cf
    have cfp:=HA7.out.cp HM.out
    obtain ⟨cm0,cm1,cm2,cm3,cm4,cm5,cm6,cm7⟩:=HK7.out.cm
    refine start_ (n:=12) (S:=fun w' => w'.cell? ⟨bf,0,none⟩=some (.pointer (some ⟨g,0,none⟩))∧w'.cell? ⟨bc,0,none⟩=some (.slice A0_0 l0_0.length c0_0)∧w'.cell? ⟨bk,0,none⟩=some (.int .i64 mm.f0)∧w'.cell? ⟨bk,1,none⟩=some (.int .i64 mm.f1)∧w'.cell? ⟨bk,2,none⟩=some (.int .i64 mm.f2)∧w'.cell? ⟨bk,3,none⟩=some (.int .i64 mm.f3)∧w'.cell? ⟨bk,4,none⟩=some (.int .i64 mm.f4)∧w'.cell? ⟨bk,5,none⟩=some (.slice A5 mm.f5.length c5)∧w'.cell? ⟨bk,6,none⟩=some (.slice A6 mm.f6.length c6)∧w'.cell? ⟨bk,7,none⟩=some (.slice A7 mm.f7.length c7)) (ds:=[]) #[false,false,false,false,false,false,false,false,false,false,false,false] (by kernel_rfl) rfl rfl ⟨cff,cfp,cm0,cm1,cm2,cm3,cm4,cm5,cm6,cm7⟩ (fun hHeld => ?_)
    refine pure_ (i:=1) (N:=some 75) (v:=?_) (a':=?_) #[false,true,false,false,false,false,false,false,false,false,false,false] rfl rfl (by kernel_rfl) (fun _ _ _ h => h) (Or.inl ⟨by rfl,?_⟩) ?_ ?_
    rotate_left
    ·intro w'
     go_simp
     with_reducible rfl
    rotate_left
    ·simp only [Act.put,List.setIfInBounds_toArray,List.set_cons_zero,List.set_cons_succ,i64_w,i32_w]
     rfl
    refine pure_ (i:=3) (N:=some 77) (v:=?_) (a':=?_) #[false,true,false,true,false,false,false,false,false,false,false,false] rfl rfl (by kernel_rfl) (fun _ _ _ h => h) (Or.inl ⟨by rfl,?_⟩) ?_ ?_
    rotate_left
    ·intro w'
     go_simp
     with_reducible rfl
    rotate_left
    ·simp only [Act.put,List.setIfInBounds_toArray,List.set_cons_zero,List.set_cons_succ,i64_w,i32_w]
     rfl
    refine pure_ (i:=5) (N:=some 79) (v:=?_) (a':=?_) #[false,true,false,true,false,true,false,false,false,false,false,false] rfl rfl (by kernel_rfl) (fun _ _ _ h => h) (Or.inl ⟨by rfl,?_⟩) ?_ ?_
    rotate_left
    ·intro w'
     go_simp
     with_reducible rfl
    rotate_left
    ·simp only [Act.put,List.setIfInBounds_toArray,List.set_cons_zero,List.set_cons_succ,i64_w,i32_w]
     rfl
    refine pure_ (i:=7) (N:=some 81) (v:=?_) (a':=?_) #[false,true,false,true,false,true,false,true,false,false,false,false] rfl rfl (by kernel_rfl) (fun _ _ _ h => h) (Or.inl ⟨by rfl,?_⟩) ?_ ?_
    rotate_left
    ·intro w'
     go_simp
     with_reducible rfl
    rotate_left
    ·simp only [Act.put,List.setIfInBounds_toArray,List.set_cons_zero,List.set_cons_succ,i64_w,i32_w]
     rfl
    refine take_ (i:=0) (N:=some 74) (v:=?_) (a':=?_) #[true,true,false,true,false,true,false,true,false,false,false,false] rfl rfl (by kernel_rfl) (fun _ _ _ h => h) (Or.inl ⟨by rfl,?_⟩) hHeld ?_ ?_
    rotate_left
    ·rintro w' ⟨s0,s1,s2,s3,s4,s5,s6,s7,s8,s9⟩
     go_simp
     with_reducible rfl
    rotate_left
    ·simp only [Act.put,List.setIfInBounds_toArray,List.set_cons_zero,List.set_cons_succ,i64_w,i32_w]
     rfl
    refine take_ (i:=2) (N:=some 76) (v:=?_) (a':=?_) #[true,true,true,true,false,true,false,true,false,false,false,false] rfl rfl (by kernel_rfl) (fun _ _ _ h => h) (Or.inl ⟨by rfl,?_⟩) hHeld ?_ ?_
    rotate_left
    ·rintro w' ⟨s0,s1,s2,s3,s4,s5,s6,s7,s8,s9⟩
     go_simp
     with_reducible rfl
    rotate_left
    ·simp only [Act.put,List.setIfInBounds_toArray,List.set_cons_zero,List.set_cons_succ,i64_w,i32_w]
     rfl
    refine take_ (i:=4) (N:=some 78) (v:=?_) (a':=?_) #[true,true,true,true,true,true,false,true,false,false,false,false] rfl rfl (by kernel_rfl) (fun _ _ _ h => h) (Or.inl ⟨by rfl,?_⟩) hHeld ?_ ?_
    rotate_left
    ·rintro w' ⟨s0,s1,s2,s3,s4,s5,s6,s7,s8,s9⟩
     go_simp
     with_reducible rfl
    rotate_left
    ·simp only [Act.put,List.setIfInBounds_toArray,List.set_cons_zero,List.set_cons_succ,i64_w,i32_w]
     rfl
    refine take_ (i:=6) (N:=some 80) (v:=?_) (a':=?_) #[true,true,true,true,true,true,true,true,false,false,false,false] rfl rfl (by kernel_rfl) (fun _ _ _ h => h) (Or.inl ⟨by rfl,?_⟩) hHeld ?_ ?_
    rotate_left
    ·rintro w' ⟨s0,s1,s2,s3,s4,s5,s6,s7,s8,s9⟩
     go_simp
     with_reducible rfl
    rotate_left
    ·simp only [Act.put,List.setIfInBounds_toArray,List.set_cons_zero,List.set_cons_succ,i64_w,i32_w]
     rfl
    refine take_ (i:=8) (N:=some 82) (v:=?_) (a':=?_) #[true,true,true,true,true,true,true,true,true,false,false,false] rfl rfl (by kernel_rfl) (fun _ _ _ h => h) (Or.inl ⟨by rfl,?_⟩) hHeld ?_ ?_
    rotate_left
    ·rintro w' ⟨s0,s1,s2,s3,s4,s5,s6,s7,s8,s9⟩
     go_simp
     with_reducible rfl
    rotate_left
    ·simp only [Act.put,List.setIfInBounds_toArray,List.set_cons_zero,List.set_cons_succ,i64_w,i32_w]
     rfl
    refine one_ (i:=9) (N:=some 83) #[true,true,true,true,true,true,true,true,true,true,false,false] rfl rfl (by kernel_rfl) (by decide) (fun K hK => ?_)
    refine goes_ Tryd.func18 (by kernel_rfl) rfl #[.slice A0_0 l0_0.length c0_0,.string sCode] (by rfl) rfl rfl (by simp only [List.map_toArray,List.map_cons,List.map_nil];rfl) ?_
    with_reducible refine (class_place.calls k A0_0 c0_0 l0_0 sCode x _ (Kd.C_below HR0_0.out (below_drew HA7.out.bl)) HC0_0.out HPL.out).mono ?_
    rintro e w8 ⟨rfl,⟨⟨nd,rfl⟩⟩⟩
    refine ⟨_,rfl,?_⟩
    refine hK.out _ _ ⟨(by exact hHeld.1),(by exact hHeld.2.1),(by exact hHeld.2.2.1),(by exact hHeld.2.2.2.1),(by exact hHeld.2.2.2.2.1),(by exact hHeld.2.2.2.2.2.1),(by exact hHeld.2.2.2.2.2.2.1),(by exact hHeld.2.2.2.2.2.2.2.1),(by exact hHeld.2.2.2.2.2.2.2.2.1),(by exact hHeld.2.2.2.2.2.2.2.2.2)⟩ (fun hHeld => ?_)
    clear hK K
    refine norm_ (a':=?_) ?_ ?_
    rotate_left
    ·show Act.put _ (some 83) _=_
     simp only [Act.put,List.setIfInBounds_toArray,List.set_cons_zero,List.set_cons_succ,i64_w,i32_w]
     rfl
    refine one_ (i:=10) (N:=some 84) #[true,true,true,true,true,true,true,true,true,true,true,false] rfl rfl (by kernel_rfl) (by decide) (fun K hK => ?_)
    refine value_ (w1:=?_) (v:=?_) (by rfl) rfl ?_ ?_
    rotate_left 2
    ·go_simp
     constructor
     ·rfl
     ·rfl
    refine hK.out _ _ ⟨(by exact pw_cell_below ((Below.refl _ _).alloc (Nat.le_refl _) _) hHeld.1),(by exact pw_cell_below ((Below.refl _ _).alloc (Nat.le_refl _) _) hHeld.2.1),(by exact pw_cell_below ((Below.refl _ _).alloc (Nat.le_refl _) _) hHeld.2.2.1),(by exact pw_cell_below ((Below.refl _ _).alloc (Nat.le_refl _) _) hHeld.2.2.2.1),(by exact pw_cell_below ((Below.refl _ _).alloc (Nat.le_refl _) _) hHeld.2.2.2.2.1),(by exact pw_cell_below ((Below.refl _ _).alloc (Nat.le_refl _) _) hHeld.2.2.2.2.2.1),(by exact pw_cell_below ((Below.refl _ _).alloc (Nat.le_refl _) _) hHeld.2.2.2.2.2.2.1),(by exact pw_cell_below ((Below.refl _ _).alloc (Nat.le_refl _) _) hHeld.2.2.2.2.2.2.2.1),(by exact pw_cell_below ((Below.refl _ _).alloc (Nat.le_refl _) _) hHeld.2.2.2.2.2.2.2.2.1),(by exact pw_cell_below ((Below.refl _ _).alloc (Nat.le_refl _) _) hHeld.2.2.2.2.2.2.2.2.2)⟩ (fun hHeld => ?_)
    clear hK K
    refine norm_ (a':=?_) ?_ ?_
    rotate_left
    ·show Act.put _ (some 84) _=_
     simp only [Act.put,List.setIfInBounds_toArray,List.set_cons_zero,List.set_cons_succ,i64_w,i32_w]
     rfl
    refine one_ (i:=11) (N:=some 85) #[true,true,true,true,true,true,true,true,true,true,true,true] rfl rfl (by kernel_rfl) (by decide) (fun K hK => ?_)
    have HA9:=Aside0.mk (HA7.out.new (pw_below_drewN (Below.refl Wa.heap.size Wa) (1 + nd)))
    have HK9:=Aside0.mk (HK7.out.new (pw_below_drewN (Below.refl Wa.heap.size Wa) (1 + nd)))
    refine goes_ Tryd.func17 (by kernel_rfl) rfl #[.agg #[.pointer (some ⟨g,0,none⟩)],.slice (some ⟨Wa.heap.size,0,none⟩) 5 5] (by rfl) rfl rfl (by simp only [List.map_toArray,List.map_cons,List.map_nil];rfl) ?_
    refine (two_at (l:=[mm.f0,mm.f1,mm.f2,1,x]) HA9.out.I HT.out rfl (by simp) rfl rfl).mono ?_
    rintro e w9 ⟨rfl,v9,hI9,hS9⟩
    refine ⟨_,rfl,?_⟩
    have HA10:=Aside0.mk (HA9.out.step hI9 hS9)
    have HK10:=Aside0.mk (HK9.out.step hS9)
    have cff:=HA10.out.cf
    have cfp:=HA10.out.cp HM.out
    obtain ⟨cm0,cm1,cm2,cm3,cm4,cm5,cm6,cm7⟩:=HK10.out.cm
    clear hI9 hS9
    refine hK.out _ _ ⟨cff,cfp,cm0,cm1,cm2,cm3,cm4,cm5,cm6,cm7⟩ (fun hHeld => ?_)
    clear hK K
    refine norm_ (a':=?_) ?_ ?_
    rotate_left
    ·show Act.put _ (some 85) _=_
     simp only [Act.put,List.setIfInBounds_toArray,List.set_cons_zero,List.set_cons_succ,i64_w,i32_w]
     rfl
    refine done_ (by kernel_rfl) ?_
    clear hHeld HA9 HK9 HA7 HK7 HT HPL
    go_wp2
    refine start_ (n:=6) (S:=fun w' => w'.cell? ⟨bf,0,none⟩=some (.pointer (some ⟨g,0,none⟩))∧w'.cell? ⟨bc,0,none⟩=some (.slice A0_0 l0_0.length c0_0)∧w'.cell? ⟨bk,0,none⟩=some (.int .i64 mm.f0)∧w'.cell? ⟨bk,1,none⟩=some (.int .i64 mm.f1)∧w'.cell? ⟨bk,2,none⟩=some (.int .i64 mm.f2)∧w'.cell? ⟨bk,3,none⟩=some (.int .i64 mm.f3)∧w'.cell? ⟨bk,4,none⟩=some (.int .i64 mm.f4)∧w'.cell? ⟨bk,5,none⟩=some (.slice A5 mm.f5.length c5)∧w'.cell? ⟨bk,6,none⟩=some (.slice A6 mm.f6.length c6)∧w'.cell? ⟨bk,7,none⟩=some (.slice A7 mm.f7.length c7)) (ds:=[]) #[false,false,false,false,false,false] (by kernel_rfl) rfl rfl ⟨cff,cfp,cm0,cm1,cm2,cm3,cm4,cm5,cm6,cm7⟩ (fun hHeld => ?_)
    refine pure_ (i:=1) (N:=some 87) (v:=?_) (a':=?_) #[false,true,false,false,false,false] rfl rfl (by kernel_rfl) (fun _ _ _ h => h) (Or.inl ⟨by rfl,?_⟩) ?_ ?_
    rotate_left
    ·intro w'
     go_simp
     with_reducible rfl
    rotate_left
    ·simp only [Act.put,List.setIfInBounds_toArray,List.set_cons_zero,List.set_cons_succ,i64_w,i32_w]
     rfl
    refine take_ (i:=0) (N:=some 86) (v:=?_) (a':=?_) #[true,true,false,false,false,false] rfl rfl (by kernel_rfl) (fun _ _ _ h => h) (Or.inl ⟨by rfl,?_⟩) hHeld ?_ ?_
    rotate_left
    ·rintro w' ⟨s0,s1,s2,s3,s4,s5,s6,s7,s8,s9⟩
     go_simp
     with_reducible rfl
    rotate_left
    ·simp only [Act.put,List.setIfInBounds_toArray,List.set_cons_zero,List.set_cons_succ,i64_w,i32_w]
     rfl
    refine take_ (i:=2) (N:=some 88) (v:=?_) (a':=?_) #[true,true,true,false,false,false] rfl rfl (by kernel_rfl) (fun _ _ _ h => h) (Or.inl ⟨by rfl,?_⟩) hHeld ?_ ?_
    rotate_left
    ·rintro w' ⟨s0,s1,s2,s3,s4,s5,s6,s7,s8,s9⟩
     go_simp
     with_reducible rfl
    rotate_left
    ·simp only [Act.put,List.setIfInBounds_toArray,List.set_cons_zero,List.set_cons_succ,i64_w,i32_w]
     rfl
    refine take_ (i:=3) (N:=some 89) (v:=?_) (a':=?_) #[true,true,true,true,false,false] rfl rfl (by kernel_rfl) (fun _ _ _ h => h) (Or.inl ⟨by rfl,?_⟩) hHeld ?_ ?_
    rotate_left
    ·rintro w' ⟨s0,s1,s2,s3,s4,s5,s6,s7,s8,s9⟩
     go_simp
     with_reducible rfl
    rotate_left
    ·simp only [Act.put,List.setIfInBounds_toArray,List.set_cons_zero,List.set_cons_succ,i64_w,i32_w]
     rfl
    refine one_ (i:=4) (N:=some 90) #[true,true,true,true,true,false] rfl rfl (by kernel_rfl) (by decide) (fun K hK => ?_)
    refine goes_ Tryd.func20 (by kernel_rfl) rfl #[.slice A0_0 l0_0.length c0_0,.agg #[.int .i64 mm.f0,.int .i64 mm.f1,.int .i64 mm.f2,.int .i64 mm.f3,.int .i64 mm.f4,.slice A5 mm.f5.length c5,.slice A6 mm.f6.length c6,.slice A7 mm.f7.length c7]] (by rfl) rfl rfl (by simp only [List.map_toArray,List.map_cons,List.map_nil];rfl) ?_
    with_reducible refine (class_body.calls k A0_0 c0_0 l0_0 mm.f0 mm.f1 mm.f2 mm.f3 mm.f4 A5 c5 mm.f5 A6 c6 mm.f6 A7 c7 mm.f7 bb _ (Kd.C_below HR0_0.out (below_drew HA10.out.bl)) HC0_0.out (Kd.C_below HQ5.out (below_drew HA10.out.bl)) HL5.out (Kd.C_below HQ6.out (below_drew HA10.out.bl)) HL6.out (Kd.C_below HQ7.out (below_drew HA10.out.bl)) HL7.out HBD.out).mono ?_
    rintro e w11 ⟨vb,rfl,hRb,hbb⟩
    refine ⟨_,rfl,?_⟩
    obtain ⟨Ab,cb,hvb,hcb,_⟩:=Kd.R_reads hRb
    subst hvb
    have HRb:=Aside0.mk hRb
    have HA11:=Aside0.mk (HA10.out.new (below_step (below_drew (Below.refl w9.heap.size w9)) hbb))
    have cff:=HA11.out.cf
    have cfp:=HA11.out.cp HM.out
    have HK11:=Aside0.mk (HK10.out.new (below_step (below_drew (Below.refl w9.heap.size w9)) hbb))
    obtain ⟨cm0,cm1,cm2,cm3,cm4,cm5,cm6,cm7⟩:=HK11.out.cm
    have HF11:=Aside0.mk (show ∀ q,w9.heap.size≤q→q < w11.heap.size→WrFar w11 g v9 q from fun q h1 h2 => HA10.out.I.far_new h1 h2)
    clear hRb hbb
    refine hK.out _ _ ⟨cff,cfp,cm0,cm1,cm2,cm3,cm4,cm5,cm6,cm7⟩ (fun hHeld => ?_)
    clear hK K
    refine norm_ (a':=?_) ?_ ?_
    rotate_left
    ·show Act.put _ (some 90) _=_
     simp only [Act.put,List.setIfInBounds_toArray,List.set_cons_zero,List.set_cons_succ,i64_w,i32_w]
     rfl
    refine one_ (i:=5) (N:=some 91) #[true,true,true,true,true,true] rfl rfl (by kernel_rfl) (by decide) (fun K hK => ?_)
    refine goes_ Tryd.func19 (by kernel_rfl) rfl #[.agg #[.pointer (some ⟨g,0,none⟩)],.slice Ab bb.length cb] (by rfl) rfl rfl (by simp only [List.map_toArray,List.map_cons,List.map_nil];rfl) ?_
    refine (file_long.calls B g v9 b6 bn bb Ab cb w11 HA11.out.I (fun w' v' hS => row_C (hS.R HRb.out (fun q h1 h2 => HF11.out q h1 h2))) HLG.out).mono ?_
    rintro e w12 ⟨rfl,v12,hI12,hS12⟩
    refine ⟨_,rfl,?_⟩
    have HA12:=Aside0.mk (HA11.out.step hI12 hS12)
    have cff:=HA12.out.cf
    have cfp:=HA12.out.cp HM.out
    have HK12:=Aside0.mk (HK11.out.step hS12)
    obtain ⟨cm0,cm1,cm2,cm3,cm4,cm5,cm6,cm7⟩:=HK12.out.cm
    clear hI12 hS12
    refine hK.out _ _ ⟨cff,cfp,cm0,cm1,cm2,cm3,cm4,cm5,cm6,cm7⟩ (fun hHeld => ?_)
    clear hK K
    refine norm_ (a':=?_) ?_ ?_
    rotate_left
    ·show Act.put _ (some 91) _=_
     simp only [Act.put,List.setIfInBounds_toArray,List.set_cons_zero,List.set_cons_succ,i64_w,i32_w]
     rfl
    refine done_ (by kernel_rfl) ?_
    clear hHeld HA10 HK10 HA11 HK11 HF11 HRb HBD HLG cff cfp cm0 cm1 cm2 cm3 cm4 cm5 cm6 cm7
    go_wp2
    go_roundw
    case measure => exact fewer (of_decide_eq_true hpn) hwi
    case rel =>
     rw [hwi]
     exact ⟨i + 1,bn,v12,rfl,⟨of_decide_eq_true hpn⟩,HN,HA12⟩
   ·have hpi:decide ((i:Int) < (l0_4.length:Int))=false:=decide_eq_false (by omega)
    have hpn:decide (i < l0_4.length)=false:=decide_eq_false hlt
    have hT:=HT0.out
    rw [List.drop_eq_nil_of_le (by omega)] at hT
    have e:=Option.some.inj hT
    subst e
    clear hT HT0 hlt HLI
    obtain ⟨W12,hW12⟩:∃ W12,W12=wr:=⟨_,rfl⟩
    have HA12:=HAr
    rw [← hW12] at HA12
    rw [← hW12]
    clear hW12 HAr
    have cf12:=HA12.out.cf
    go_wp2_with fail
    refine (two_at (l:=[0]) HA12.out.I H8.out rfl (by simp) rfl rfl).mono ?_
    rintro e W13 ⟨rfl,v13,hI13,hS13⟩
    have HA13:=Aside0.mk (HA12.out.step hI13 hS13)
    clear hI13 hS13 HA12 cf12
    have cf13:=HA13.out.cf
    go_wp2_with fail
    refine (wr_Out.calls B g v13 b8 1048576 _ HA13.out.I HL8.out).mono ?_
    rintro e wo ⟨vo,rfl,hRo,hbo⟩
    have HRo:=Aside0.mk hRo
    have HBo:=Aside0.mk (below_step HA13.out.bl hbo)
    clear hRo hbo
    go_wp2
    go_ret2
    exact ⟨_,rfl,Kd.R_lower HRo.out HA13.out.bl.size,HBo.out⟩
end Go.Proofs.YtbgniepcoaiinaaDoor.Px
namespace Go.Proofs.YtbgniepcoaiinaaDoor.Px
open Go.RowKit Go.Proofs.YtbgniepcoaiinaaDoorW.PrintWords Go.Proofs.YtbgniepcoaiinaaDoorW.PrintLast Go.Proofs.YtbgniepcoaiinaaDoorW.PrintMore
set_option linter.unusedVariables false
set_option linter.unusedSimpArgs false
structure SmAt (w W:World) (ba bb:Nat) (Ra Rb:Obj):Prop where
 b:Below w.heap.size w W
 ka:W.heap[ba]?=some Ra
 kb:W.heap[bb]?=some Rb
theorem SmAt.new {w W W':World} {ba bb:Nat} {Ra Rb:Obj} (h:SmAt w W ba bb Ra Rb) (hb:Below W.heap.size W W'):SmAt w W' ba bb Ra Rb :=
 ⟨h.b.trans (hb.mono h.b.size),(hb.block _ (blk_lt h.ka)).trans h.ka,(hb.block _ (blk_lt h.kb)).trans h.kb⟩
theorem SmAt.cell {w W:World} {ba bb:Nat} {Ra Rb:Obj} {ad:Addr} {v:Value} (h:SmAt w W ba bb Ra Rb) (hc:w.cell? ad=some v):W.cell? ad=some v:=(h.b.cell (World.block_lt_of_cell? w _ hc)).trans hc
theorem rd_mem_M {l:List Mth} {x:Int} (h0:0≤x) (h1:x < (l.length:Int)):rd_T56 l x ∈ l:=by
 unfold rd_T56
 rw [List.getD_eq_getElem?_getD,List.getElem?_eq_getElem (by omega:x.toNat < l.length)]
 exact List.getElem_mem _
set_option maxHeartbeats 80000000 in
set_option maxRecDepth 100000 in
theorem same_eq.calls {A0 B0 A3 B3 A4 B4:Option Addr} {c0 d0 c3 d3 c4 d4:Nat} {l0:List Cst} {l3:List Fld} {l4:List Mth} {t s:Int} {w:World} (ha0:Kd.C k67 w A0 l0.length l0) (hb0:Kd.C k67 w B0 l0.length l0) (ha3:Kd.C k53 w A3 l3.length l3) (hb3:Kd.C k53 w B3 l3.length l3) (ha4:Kd.C k56 w A4 l4.length l4) (hb4:Kd.C k56 w B4 l4.length l4)
  (hl0:l0.length≤1048576) (hl3:l3.length≤1048576) (hl4:l4.length≤1048576) (hl6:∀ m ∈ l4,m.f6.length≤1048576) :
  Calls Tryd.prog 12 #[.agg #[.slice A0 l0.length c0,.int .i64 t,.int .i64 s,.slice A3 l3.length c3,.slice A4 l4.length c4],.agg #[.slice B0 l0.length d0,.int .i64 t,.int .i64 s,.slice B3 l3.length d3,.slice B4 l4.length d4]] w fun e w' => e=.returned (.bool true)∧Below w.heap.size w w':=by
 have hu26:=Tryd.underlying26
 have hu67:=Tryd.underlying67
 have hu53:=Tryd.underlying53
 have hu56:=Tryd.underlying56
 have hu82:=Tryd.underlying82
 have HA0:=Aside0.mk ha0
 have HB0:=Aside0.mk hb0
 have HA3:=Aside0.mk ha3
 have HB3:=Aside0.mk hb3
 have HA4:=Aside0.mk ha4
 have HB4:=Aside0.mk hb4
 have HL0:=Aside0.mk hl0
 have HL3:=Aside0.mk hl3
 have HL4:=Aside0.mk hl4
 have HL6:=Aside0.mk hl6
 clear ha0 hb0 ha3 hb3 ha4 hb4 hl0 hl3 hl4 hl6
 have q1:(t != t)=false:=bne_eq_false_iff_eq.mpr rfl
 have q2:(s != s)=false:=bne_eq_false_iff_eq.mpr rfl
 have q3:((l0.length:Int) != (l0.length:Int))=false:=bne_eq_false_iff_eq.mpr rfl
 have q4:((l3.length:Int) != (l3.length:Int))=false:=bne_eq_false_iff_eq.mpr rfl
 have q5:((l4.length:Int) != (l4.length:Int))=false:=bne_eq_false_iff_eq.mpr rfl
 go_enter Tryd.func12,Tryd.ntmps12
 go_upto_region 1 with fail
 obtain ⟨W0,hW0⟩:∃ W0,W0=(w.alloc (.cells #[.slice A0 l0.length c0,.int .i64 t,.int .i64 s,.slice A3 l3.length c3,.slice A4 l4.length c4] 26 (0,0))).alloc (.cells #[.slice B0 l0.length d0,.int .i64 t,.int .i64 s,.slice B3 l3.length d3,.slice B4 l4.length d4] 26 (0,0)):=⟨_,rfl⟩
 obtain ⟨ba,hba⟩:∃ ba,ba=w.heap.size:=⟨_,rfl⟩
 obtain ⟨bb,hbb⟩:∃ bb,bb=w.heap.size + 1:=⟨_,rfl⟩
 rw [← hW0,← hbb,← hba]
 have k0:(w.alloc (.cells #[.slice A0 l0.length c0,.int .i64 t,.int .i64 s,.slice A3 l3.length c3,.slice A4 l4.length c4] 26 (0,0))).heap[ba]?=some (.cells #[.slice A0 l0.length c0,.int .i64 t,.int .i64 s,.slice A3 l3.length c3,.slice A4 l4.length c4] 26 (0,0)):=by rw [hba];exact blk_new _ _
 have HS:Aside0 (SmAt w W0 ba bb (.cells #[.slice A0 l0.length c0,.int .i64 t,.int .i64 s,.slice A3 l3.length c3,.slice A4 l4.length c4] 26 (0,0)) (.cells #[.slice B0 l0.length d0,.int .i64 t,.int .i64 s,.slice B3 l3.length d3,.slice B4 l4.length d4] 26 (0,0))):=⟨⟨by rw [hW0];exact below_alloc (below_alloc (Below.refl _ _) _) _,by rw [hW0];exact ((below_alloc (Below.refl _ _) _).block _ (blk_lt k0)).trans k0,by
  have e:bb=(w.alloc (.cells #[.slice A0 l0.length c0,.int .i64 t,.int .i64 s,.slice A3 l3.length c3,.slice A4 l4.length c4] 26 (0,0))).heap.size:=by rw [hbb];simp
  rw [hW0,e]
  exact blk_new _ _⟩⟩
 clear k0 hW0 hba hbb
 have ea0:=(blk_cell HS.out.ka 0).trans rfl
 have eb0:=(blk_cell HS.out.kb 0).trans rfl
 have ea1:=(blk_cell HS.out.ka 1).trans rfl
 have eb1:=(blk_cell HS.out.kb 1).trans rfl
 have ea2:=(blk_cell HS.out.ka 2).trans rfl
 have eb2:=(blk_cell HS.out.kb 2).trans rfl
 have ea3:=(blk_cell HS.out.ka 3).trans rfl
 have eb3:=(blk_cell HS.out.kb 3).trans rfl
 have ea4:=(blk_cell HS.out.ka 4).trans rfl
 have eb4:=(blk_cell HS.out.kb 4).trans rfl
 go_wp2
 repeat (go_quiet (fail);try go_wp2)
 clear ea0 eb0 ea1 eb1 ea2 eb2 ea3 eb3 ea4 eb4
 go_loopw [5] (fun v W => ∃ x:Int,v=.int .i64 x∧Aside0 (0≤x∧x≤(l0.length:Int))∧Aside0 (SmAt w W ba bb (.cells #[.slice A0 l0.length c0,.int .i64 t,.int .i64 s,.slice A3 l3.length c3,.slice A4 l4.length c4] 26 (0,0)) (.cells #[.slice B0 l0.length d0,.int .i64 t,.int .i64 s,.slice B3 l3.length d3,.slice B4 l4.length d4] 26 (0,0)))) (fun v _ => l0.length - (intOf v).toNat)
 case atStart => exact ⟨0,rfl,⟨by omega⟩,HS⟩
 case round =>
  obtain ⟨x,rfl,HI,HS⟩:=hrel
  by_cases hi:x < (l0.length:Int)
  ·have hd:decide (x < (l0.length:Int))=true:=decide_eq_true hi
   have HLT:=Aside0.mk hi
   have p0:0≤x:=HI.out.1
   have p1:x < (l0.length:Int):=hi
   have hw:wrap64 (x + 1)=x + 1:=by have:=HL0.out;unfold wrap64;omega
   clear hi
   have ea0:=(blk_cell HS.out.ka 0).trans rfl
   have eb0:=(blk_cell HS.out.kb 0).trans rfl
   have ea1:=(blk_cell HS.out.ka 1).trans rfl
   have eb1:=(blk_cell HS.out.kb 1).trans rfl
   have ea2:=(blk_cell HS.out.ka 2).trans rfl
   have eb2:=(blk_cell HS.out.kb 2).trans rfl
   have ea3:=(blk_cell HS.out.ka 3).trans rfl
   have eb3:=(blk_cell HS.out.kb 3).trans rfl
   have ea4:=(blk_cell HS.out.ka 4).trans rfl
   have eb4:=(blk_cell HS.out.kb 4).trans rfl
   obtain ⟨ad,ead,x0,x1,x2,x3,x4⟩:=at_T67 HA0.out x p0 p1
   cases ead
   obtain ⟨bd,ebd,y0,y1,y2,y3,y4⟩:=at_T67 HB0.out x p0 p1
   cases ebd
   replace x0:=HS.out.cell x0
   replace y0:=HS.out.cell y0
   replace x1:=HS.out.cell x1
   replace y1:=HS.out.cell y1
   replace x2:=HS.out.cell x2
   replace y2:=HS.out.cell y2
   replace x3:=HS.out.cell x3
   replace y3:=HS.out.cell y3
   replace x4:=HS.out.cell x4
   replace y4:=HS.out.cell y4
   replace p0:=eq_true p0
   replace p1:=eq_true p1
   generalize rd_T67 l0 x=cc at *
   have z:(!(cc.f0==cc.f0) || (!(cc.f1.toList==cc.f1.toList) || (!(cc.f2==cc.f2) || (!(cc.f3==cc.f3) || (!(cc.f4==cc.f4))))))=false:=by simp
   go_wp2
   repeat (go_quiet (fail);try go_wp2)
   clear z
   go_roundw
   case measure =>
    have:=HLT.out
    have:=HI.out.1
    show l0.length - (wrap64 (x + 1)).toNat < l0.length - x.toNat
    rw [hw]
    omega
   case rel => rw [hw];exact ⟨x + 1,rfl,⟨by have:=HLT.out;have:=HI.out.1;omega⟩,⟨HS.out.new (pw_below_drewN (Below.refl _ _) _)⟩⟩
  ·have hd:decide (x < (l0.length:Int))=false:=decide_eq_false hi
   clear hi
   have ea0:=(blk_cell HS.out.ka 0).trans rfl
   have eb0:=(blk_cell HS.out.kb 0).trans rfl
   have ea1:=(blk_cell HS.out.ka 1).trans rfl
   have eb1:=(blk_cell HS.out.kb 1).trans rfl
   have ea2:=(blk_cell HS.out.ka 2).trans rfl
   have eb2:=(blk_cell HS.out.kb 2).trans rfl
   have ea3:=(blk_cell HS.out.ka 3).trans rfl
   have eb3:=(blk_cell HS.out.kb 3).trans rfl
   have ea4:=(blk_cell HS.out.ka 4).trans rfl
   have eb4:=(blk_cell HS.out.kb 4).trans rfl
   go_wp2
   repeat (go_quiet (fail);try go_wp2)
   clear ea0 eb0 ea1 eb1 ea2 eb2 ea3 eb3 ea4 eb4
   clear hd
   go_loopw [6] (fun v W => ∃ x:Int,v=.int .i64 x∧Aside0 (0≤x∧x≤(l3.length:Int))∧Aside0 (SmAt w W ba bb (.cells #[.slice A0 l0.length c0,.int .i64 t,.int .i64 s,.slice A3 l3.length c3,.slice A4 l4.length c4] 26 (0,0)) (.cells #[.slice B0 l0.length d0,.int .i64 t,.int .i64 s,.slice B3 l3.length d3,.slice B4 l4.length d4] 26 (0,0)))) (fun v _ => l3.length - (intOf v).toNat)
   case atStart => exact ⟨0,rfl,⟨by omega⟩,HS⟩
   case round =>
    obtain ⟨x,rfl,HI,HS⟩:=hrel
    by_cases hi:x < (l3.length:Int)
    ·have hd:decide (x < (l3.length:Int))=true:=decide_eq_true hi
     have HLT:=Aside0.mk hi
     have p0:0≤x:=HI.out.1
     have p1:x < (l3.length:Int):=hi
     have hw:wrap64 (x + 1)=x + 1:=by have:=HL3.out;unfold wrap64;omega
     clear hi
     have ea0:=(blk_cell HS.out.ka 0).trans rfl
     have eb0:=(blk_cell HS.out.kb 0).trans rfl
     have ea1:=(blk_cell HS.out.ka 1).trans rfl
     have eb1:=(blk_cell HS.out.kb 1).trans rfl
     have ea2:=(blk_cell HS.out.ka 2).trans rfl
     have eb2:=(blk_cell HS.out.kb 2).trans rfl
     have ea3:=(blk_cell HS.out.ka 3).trans rfl
     have eb3:=(blk_cell HS.out.kb 3).trans rfl
     have ea4:=(blk_cell HS.out.ka 4).trans rfl
     have eb4:=(blk_cell HS.out.kb 4).trans rfl
     obtain ⟨ad,ead,x0,x1,x2⟩:=at_T53 HA3.out x p0 p1
     cases ead
     obtain ⟨bd,ebd,y0,y1,y2⟩:=at_T53 HB3.out x p0 p1
     cases ebd
     replace x0:=HS.out.cell x0
     replace y0:=HS.out.cell y0
     replace x1:=HS.out.cell x1
     replace y1:=HS.out.cell y1
     replace x2:=HS.out.cell x2
     replace y2:=HS.out.cell y2
     replace p0:=eq_true p0
     replace p1:=eq_true p1
     generalize rd_T53 l3 x=cc at *
     have z:(!(cc.f0==cc.f0) || (!(cc.f1==cc.f1) || (!(cc.f2==cc.f2))))=false:=by simp
     go_wp2
     repeat (go_quiet (fail);try go_wp2)
     clear z
     go_roundw
     case measure =>
      have:=HLT.out
      have:=HI.out.1
      show l3.length - (wrap64 (x + 1)).toNat < l3.length - x.toNat
      rw [hw]
      omega
     case rel => rw [hw];exact ⟨x + 1,rfl,⟨by have:=HLT.out;have:=HI.out.1;omega⟩,⟨HS.out.new (pw_below_drewN (Below.refl _ _) _)⟩⟩
    ·have hd:decide (x < (l3.length:Int))=false:=decide_eq_false hi
     clear hi
     have ea0:=(blk_cell HS.out.ka 0).trans rfl
     have eb0:=(blk_cell HS.out.kb 0).trans rfl
     have ea1:=(blk_cell HS.out.ka 1).trans rfl
     have eb1:=(blk_cell HS.out.kb 1).trans rfl
     have ea2:=(blk_cell HS.out.ka 2).trans rfl
     have eb2:=(blk_cell HS.out.kb 2).trans rfl
     have ea3:=(blk_cell HS.out.ka 3).trans rfl
     have eb3:=(blk_cell HS.out.kb 3).trans rfl
     have ea4:=(blk_cell HS.out.ka 4).trans rfl
     have eb4:=(blk_cell HS.out.kb 4).trans rfl
     go_wp2
     repeat (go_quiet (fail);try go_wp2)
     clear ea0 eb0 ea1 eb1 ea2 eb2 ea3 eb3 ea4 eb4
     clear hd
     go_loopw [7] (fun v W => ∃ x:Int,v=.int .i64 x∧Aside0 (0≤x∧x≤(l4.length:Int))∧Aside0 (SmAt w W ba bb (.cells #[.slice A0 l0.length c0,.int .i64 t,.int .i64 s,.slice A3 l3.length c3,.slice A4 l4.length c4] 26 (0,0)) (.cells #[.slice B0 l0.length d0,.int .i64 t,.int .i64 s,.slice B3 l3.length d3,.slice B4 l4.length d4] 26 (0,0)))) (fun v _ => l4.length - (intOf v).toNat)
     case atStart => exact ⟨0,rfl,⟨by omega⟩,HS⟩
     case round =>
      obtain ⟨x,rfl,HI,HS⟩:=hrel
      by_cases hi:x < (l4.length:Int)
      ·have hd:decide (x < (l4.length:Int))=true:=decide_eq_true hi
       have HLT:=Aside0.mk hi
       have p0:0≤x:=HI.out.1
       have p1:x < (l4.length:Int):=hi
       have hw:wrap64 (x + 1)=x + 1:=by have:=HL4.out;unfold wrap64;omega
       clear hi
       have ea0:=(blk_cell HS.out.ka 0).trans rfl
       have eb0:=(blk_cell HS.out.kb 0).trans rfl
       have ea1:=(blk_cell HS.out.ka 1).trans rfl
       have eb1:=(blk_cell HS.out.kb 1).trans rfl
       have ea2:=(blk_cell HS.out.ka 2).trans rfl
       have eb2:=(blk_cell HS.out.kb 2).trans rfl
       have ea3:=(blk_cell HS.out.ka 3).trans rfl
       have eb3:=(blk_cell HS.out.kb 3).trans rfl
       have ea4:=(blk_cell HS.out.ka 4).trans rfl
       have eb4:=(blk_cell HS.out.kb 4).trans rfl
       obtain ⟨ad,A5,a5,A6,a6,A7,a7,ead,x0,x1,x2,x3,x4,x5,x6,x7,_,i5,_,i6,_,i7⟩:=at_T56 HA4.out x p0 p1
       cases ead
       obtain ⟨bd,B5,b5,B6,b6,B7,b7,ebd,y0,y1,y2,y3,y4,y5,y6,y7,_,j5,_,j6,_,j7⟩:=at_T56 HB4.out x p0 p1
       cases ebd
       have HM6:=Aside0.mk (HL6.out _ (rd_mem_M p0 p1))
       have Y0:=Aside0.mk y0
       replace x0:=HS.out.cell x0
       clear y0
       have Y1:=Aside0.mk y1
       replace x1:=HS.out.cell x1
       clear y1
       have Y2:=Aside0.mk y2
       replace x2:=HS.out.cell x2
       clear y2
       have Y3:=Aside0.mk y3
       replace x3:=HS.out.cell x3
       clear y3
       have Y4:=Aside0.mk y4
       replace x4:=HS.out.cell x4
       clear y4
       have Y5:=Aside0.mk y5
       replace x5:=HS.out.cell x5
       clear y5
       have Y6:=Aside0.mk y6
       replace x6:=HS.out.cell x6
       clear y6
       have Y7:=Aside0.mk y7
       replace x7:=HS.out.cell x7
       clear y7
       have I5:=Aside0.mk i5
       have J5:=Aside0.mk j5
       clear i5 j5
       have I6:=Aside0.mk i6
       have J6:=Aside0.mk j6
       clear i6 j6
       have I7:=Aside0.mk i7
       have J7:=Aside0.mk j7
       clear i7 j7
       replace p0:=eq_true p0
       replace p1:=eq_true p1
       generalize rd_T56 l4 x=m at *
       go_upto_region 17 with fail
       obtain ⟨bx,hbx⟩:∃ bx,bx=wr.heap.size:=⟨_,rfl⟩
       obtain ⟨W1,hW1⟩:∃ W1,W1=wr.alloc (.cells #[.int .i64 m.f0,.int .i64 m.f1,.int .i64 m.f2,.int .i64 m.f3,.int .i64 m.f4,.slice A5 m.f5.length a5,.slice A6 m.f6.length a6,.slice A7 m.f7.length a7] 56 (0,0)):=⟨_,rfl⟩
       rw [← hW1,← hbx]
       have HS1:=Aside0.mk (HS.out.new (show Below wr.heap.size wr W1 from by rw [hW1];exact below_alloc (Below.refl _ _) _))
       have KX:=Aside0.mk (show W1.heap[bx]?=some (.cells #[.int .i64 m.f0,.int .i64 m.f1,.int .i64 m.f2,.int .i64 m.f3,.int .i64 m.f4,.slice A5 m.f5.length a5,.slice A6 m.f6.length a6,.slice A7 m.f7.length a7] 56 (0,0)) from by rw [hW1,hbx];exact blk_new _ _)
       clear hW1 hbx x0 x1 x2 x3 x4 x5 x6 x7 HS
       clear ea0 eb0 ea1 eb1 ea2 eb2 ea3 eb3 ea4 eb4
       have HS:=HS1
       clear HS1
       have y0:=HS.out.cell Y0.out
       have y1:=HS.out.cell Y1.out
       have y2:=HS.out.cell Y2.out
       have y3:=HS.out.cell Y3.out
       have y4:=HS.out.cell Y4.out
       have y5:=HS.out.cell Y5.out
       have y6:=HS.out.cell Y6.out
       have y7:=HS.out.cell Y7.out
       have ea0:=(blk_cell HS.out.ka 0).trans rfl
       have eb0:=(blk_cell HS.out.kb 0).trans rfl
       have ea1:=(blk_cell HS.out.ka 1).trans rfl
       have eb1:=(blk_cell HS.out.kb 1).trans rfl
       have ea2:=(blk_cell HS.out.ka 2).trans rfl
       have eb2:=(blk_cell HS.out.kb 2).trans rfl
       have ea3:=(blk_cell HS.out.ka 3).trans rfl
       have eb3:=(blk_cell HS.out.kb 3).trans rfl
       have ea4:=(blk_cell HS.out.ka 4).trans rfl
       have eb4:=(blk_cell HS.out.kb 4).trans rfl
       go_upto_region 18 with fail
       obtain ⟨bY,hbx⟩:∃ bY,bY=W1.heap.size:=⟨_,rfl⟩
       obtain ⟨W2,hW1⟩:∃ W2,W2=W1.alloc (.cells #[.int .i64 m.f0,.int .i64 m.f1,.int .i64 m.f2,.int .i64 m.f3,.int .i64 m.f4,.slice B5 m.f5.length b5,.slice B6 m.f6.length b6,.slice B7 m.f7.length b7] 56 (0,0)):=⟨_,rfl⟩
       rw [← hW1,← hbx]
       have hb2:Below W1.heap.size W1 W2:=by rw [hW1];exact below_alloc (Below.refl _ _) _
       have HS1:=Aside0.mk (HS.out.new hb2)
       have KX2:=Aside0.mk ((hb2.block _ (blk_lt KX.out)).trans KX.out)
       have KY:=Aside0.mk (show W2.heap[bY]?=some (.cells #[.int .i64 m.f0,.int .i64 m.f1,.int .i64 m.f2,.int .i64 m.f3,.int .i64 m.f4,.slice B5 m.f5.length b5,.slice B6 m.f6.length b6,.slice B7 m.f7.length b7] 56 (0,0)) from by rw [hW1,hbx];exact blk_new _ _)
       clear hW1 hbx hb2 y0 y1 y2 y3 y4 y5 y6 y7 HS KX p0 p1
       have HS:=HS1
       have KX:=KX2
       clear HS1 KX2
       clear ea0 eb0 ea1 eb1 ea2 eb2 ea3 eb3 ea4 eb4
       have x0:=(blk_cell KX.out 0).trans rfl
       have y0:=(blk_cell KY.out 0).trans rfl
       have x1:=(blk_cell KX.out 1).trans rfl
       have y1:=(blk_cell KY.out 1).trans rfl
       have x2:=(blk_cell KX.out 2).trans rfl
       have y2:=(blk_cell KY.out 2).trans rfl
       have x3:=(blk_cell KX.out 3).trans rfl
       have y3:=(blk_cell KY.out 3).trans rfl
       have x4:=(blk_cell KX.out 4).trans rfl
       have y4:=(blk_cell KY.out 4).trans rfl
       have x5:=(blk_cell KX.out 5).trans rfl
       have y5:=(blk_cell KY.out 5).trans rfl
       have x6:=(blk_cell KX.out 6).trans rfl
       have y6:=(blk_cell KY.out 6).trans rfl
       have x7:=(blk_cell KX.out 7).trans rfl
       have y7:=(blk_cell KY.out 7).trans rfl
       have s0:(m.f0 != m.f0)=false:=bne_eq_false_iff_eq.mpr rfl
       have s1:(m.f1 != m.f1)=false:=bne_eq_false_iff_eq.mpr rfl
       have s2:(m.f2 != m.f2)=false:=bne_eq_false_iff_eq.mpr rfl
       have s3:(m.f3 != m.f3)=false:=bne_eq_false_iff_eq.mpr rfl
       have s4:(m.f4 != m.f4)=false:=bne_eq_false_iff_eq.mpr rfl
       have s5:((strOfNums m.f5).toList != (strOfNums m.f5).toList)=false:=bne_eq_false_iff_eq.mpr rfl
       have s7:((strOfNums m.f7).toList != (strOfNums m.f7).toList)=false:=bne_eq_false_iff_eq.mpr rfl
       have s6:((m.f6.length:Int) != (m.f6.length:Int))=false:=bne_eq_false_iff_eq.mpr rfl
       have v5:=Kd.C_string (P:=Tryd.prog) (A:=A5) (c:=a5) Tryd.underlying27 Tryd.underlying5 Tryd.underlying9 (Kd.C_below I5.out HS.out.b)
       have v7:=Kd.C_string (P:=Tryd.prog) (A:=A7) (c:=a7) Tryd.underlying27 Tryd.underlying5 Tryd.underlying9 (Kd.C_below I7.out HS.out.b)
       have u5:=Kd.C_string (P:=Tryd.prog) (A:=B5) (c:=b5) Tryd.underlying27 Tryd.underlying5 Tryd.underlying9 (Kd.C_below J5.out HS.out.b)
       have u7:=Kd.C_string (P:=Tryd.prog) (A:=B7) (c:=b7) Tryd.underlying27 Tryd.underlying5 Tryd.underlying9 (Kd.C_below J7.out HS.out.b)
       go_wp2
       repeat (go_quiet (fail);try go_wp2)
       clear x0 y0 x1 y1 x2 y2 x3 y3 x4 y4 x5 y5 x6 y6 x7 y7
       clear s0 s1 s2 s3 s4 s5 s6 s7 v5 v7 u5 u7 hd
       have HSo:=HS
       have KXo:=KX
       have KYo:=KY
       clear HS KX KY
       go_loopw [10] (fun v W => ∃ j:Int,v=.int .i64 j∧Aside0 (0≤j∧j≤(m.f6.length:Int))∧Aside0 (SmAt w W ba bb (.cells #[.slice A0 l0.length c0,.int .i64 t,.int .i64 s,.slice A3 l3.length c3,.slice (some ad) l4.length c4] 26 (0,0)) (.cells #[.slice B0 l0.length d0,.int .i64 t,.int .i64 s,.slice B3 l3.length d3,.slice (some bd) l4.length d4] 26 (0,0)))∧Aside0 (W.heap[bx]?=some (.cells #[.int .i64 m.f0,.int .i64 m.f1,.int .i64 m.f2,.int .i64 m.f3,.int .i64 m.f4,.slice A5 m.f5.length a5,.slice A6 m.f6.length a6,.slice A7 m.f7.length a7] 56 (0,0)))∧Aside0 (W.heap[bY]?=some (.cells #[.int .i64 m.f0,.int .i64 m.f1,.int .i64 m.f2,.int .i64 m.f3,.int .i64 m.f4,.slice B5 m.f5.length b5,.slice B6 m.f6.length b6,.slice B7 m.f7.length b7] 56 (0,0)))) (fun v _ => m.f6.length - (intOf v).toNat)
       case atStart => exact ⟨0,rfl,⟨by omega⟩,HSo,KXo,KYo⟩
       case round =>
        obtain ⟨j,rfl,HJ,HS,KX,KY⟩:=hrel
        clear HSo KXo KYo
        by_cases hi:j < (m.f6.length:Int)
        ·have hd:decide (j < (m.f6.length:Int))=true:=decide_eq_true hi
         have HLJ:=Aside0.mk hi
         have p0:0≤j:=HJ.out.1
         have p1:j < (m.f6.length:Int):=hi
         have hwj:wrap64 (j + 1)=j + 1:=by have:=HM6.out;unfold wrap64;omega
         clear hi
         have x0:=(blk_cell KX.out 0).trans rfl
         have y0:=(blk_cell KY.out 0).trans rfl
         have x1:=(blk_cell KX.out 1).trans rfl
         have y1:=(blk_cell KY.out 1).trans rfl
         have x2:=(blk_cell KX.out 2).trans rfl
         have y2:=(blk_cell KY.out 2).trans rfl
         have x3:=(blk_cell KX.out 3).trans rfl
         have y3:=(blk_cell KY.out 3).trans rfl
         have x4:=(blk_cell KX.out 4).trans rfl
         have y4:=(blk_cell KY.out 4).trans rfl
         have x5:=(blk_cell KX.out 5).trans rfl
         have y5:=(blk_cell KY.out 5).trans rfl
         have x6:=(blk_cell KX.out 6).trans rfl
         have y6:=(blk_cell KY.out 6).trans rfl
         have x7:=(blk_cell KX.out 7).trans rfl
         have y7:=(blk_cell KY.out 7).trans rfl
         obtain ⟨td,etd,t0,t1,t2,t3⟩:=at_T82 (Kd.C_below I6.out HS.out.b) j p0 p1
         obtain ⟨ud,eud,r0,r1,r2,r3⟩:=at_T82 (Kd.C_below J6.out HS.out.b) j p0 p1
         subst etd
         subst eud
         replace p0:=eq_true p0
         replace p1:=eq_true p1
         generalize rd_T82 m.f6 j=cc at *
         have z:(!(cc.f0==cc.f0) || (!(cc.f1==cc.f1) || (!(cc.f2==cc.f2) || (!(cc.f3==cc.f3)))))=false:=by simp
         go_wp2
         repeat (go_quiet (fail);try go_wp2)
         clear z
         go_roundw
         case measure =>
          have:=HLJ.out
          have:=HJ.out.1
          show m.f6.length - (wrap64 (j + 1)).toNat < m.f6.length - j.toNat
          rw [hwj]
          omega
         case rel => rw [hwj];exact ⟨j + 1,rfl,⟨by have:=HLJ.out;have:=HJ.out.1;omega⟩,⟨HS.out.new (pw_below_drewN (Below.refl _ _) _)⟩,KX,KY⟩
        ·have hd:decide (j < (m.f6.length:Int))=false:=decide_eq_false hi
         clear hi
         have x0:=(blk_cell KX.out 0).trans rfl
         have y0:=(blk_cell KY.out 0).trans rfl
         have x1:=(blk_cell KX.out 1).trans rfl
         have y1:=(blk_cell KY.out 1).trans rfl
         have x2:=(blk_cell KX.out 2).trans rfl
         have y2:=(blk_cell KY.out 2).trans rfl
         have x3:=(blk_cell KX.out 3).trans rfl
         have y3:=(blk_cell KY.out 3).trans rfl
         have x4:=(blk_cell KX.out 4).trans rfl
         have y4:=(blk_cell KY.out 4).trans rfl
         have x5:=(blk_cell KX.out 5).trans rfl
         have y5:=(blk_cell KY.out 5).trans rfl
         have x6:=(blk_cell KX.out 6).trans rfl
         have y6:=(blk_cell KY.out 6).trans rfl
         have x7:=(blk_cell KX.out 7).trans rfl
         have y7:=(blk_cell KY.out 7).trans rfl
         go_wp2
         repeat (go_quiet (fail);try go_wp2)
         go_roundw
         case measure =>
          have:=HLT.out
          have:=HI.out.1
          show l4.length - (wrap64 (x + 1)).toNat < l4.length - x.toNat
          rw [hw]
          omega
         case rel => rw [hw];exact ⟨x + 1,rfl,⟨by have:=HLT.out;have:=HI.out.1;omega⟩,HS⟩
      ·have hd:decide (x < (l4.length:Int))=false:=decide_eq_false hi
       clear hi
       have ea0:=(blk_cell HS.out.ka 0).trans rfl
       have eb0:=(blk_cell HS.out.kb 0).trans rfl
       have ea1:=(blk_cell HS.out.ka 1).trans rfl
       have eb1:=(blk_cell HS.out.kb 1).trans rfl
       have ea2:=(blk_cell HS.out.ka 2).trans rfl
       have eb2:=(blk_cell HS.out.kb 2).trans rfl
       have ea3:=(blk_cell HS.out.ka 3).trans rfl
       have eb3:=(blk_cell HS.out.kb 3).trans rfl
       have ea4:=(blk_cell HS.out.ka 4).trans rfl
       have eb4:=(blk_cell HS.out.kb 4).trans rfl
       go_wp2
       repeat (go_quiet (fail);try go_wp2)
       go_ret
       exact ⟨rfl,HS.out.b⟩
end Go.Proofs.YtbgniepcoaiinaaDoor.Px
namespace Go.Proofs.YtbgniepcoaiinaaDoor.Px
open Go.RowKit Go.Proofs.YtbgniepcoaiinaaDoorW.PrintWords Go.Proofs.YtbgniepcoaiinaaDoorW.PrintLast Go.Proofs.YtbgniepcoaiinaaDoorW.PrintMore
attribute [local go_sem] max2_int min2_int max_two min_two max_three min_three max_four min_four
set_option linter.unusedVariables false
set_option linter.unusedSimpArgs false
def wire_gather_uint64.l0:Nat→Int→List Int→Int→Int→Option (Int)
 | 0,_,_,_,_ => none
 | k + 1,x1,x7,x8,x9 => if x9 < x8 then (if 0≤x9 then (if x9 < (x7.length:Int) then (wire_gather_uint64.l0 k (Go.bits .or .u64 (IntKind.u64.wrap (x1 * 256)) (IntKind.u64.wrap (rd x7 x9))) x7 x8 (wrap64 (x9 + 1))) else (none)) else (none)) else (some x1)
def wire_gather_uint64.f (k:Nat) (l0:List Int) (a1:Int):Option (Int):=wire_gather_uint64.l0 k a1 l0 (l0.length:Int) 0
theorem wire_gather_uint64.mono_l:∀ k,(∀ y0 y1 y2 y3,LeO (wire_gather_uint64.l0 k y0 y1 y2 y3) (wire_gather_uint64.l0 (k + 1) y0 y1 y2 y3))
 | 0 => fun _ _ _ _ r h => by simp [wire_gather_uint64.l0] at h
 | k + 1 => by
  have ih0:=wire_gather_uint64.mono_l k
  ·intro y0 y1 y2 y3
   unfold wire_gather_uint64.l0
   repeat' first
   | (with_reducible exact ih0 _ _ _ _)
   | (with_reducible exact LeO.refl _)
   | (with_reducible exact LeO.none _)
   | (with_reducible refine LeO.ite ?_ ?_)
   | (with_reducible refine LeO.bind ?_ (fun _ => ?_))
   | exact ih0 _ _ _ _
   | exact LeO.none _
   | refine LeO.ite ?_ ?_
   | refine LeO.bind ?_ (fun _ => ?_)
theorem wire_gather_uint64.mono:∀ a0 a1 k,LeO (wire_gather_uint64.f k a0 a1) (wire_gather_uint64.f (k + 1) a0 a1):=by
 intro a0 a1 k
 have ih0:=wire_gather_uint64.mono_l k
 unfold wire_gather_uint64.f
 repeat' first
   | (with_reducible exact ih0 _ _ _ _)
   | (with_reducible exact LeO.refl _)
   | (with_reducible exact LeO.none _)
   | (with_reducible refine LeO.ite ?_ ?_)
   | (with_reducible refine LeO.bind ?_ (fun _ => ?_))
   | exact ih0 _ _ _ _
   | exact LeO.none _
   | refine LeO.ite ?_ ?_
   | refine LeO.bind ?_ (fun _ => ?_)
set_option maxHeartbeats 80000000 in
set_option maxRecDepth 100000 in
theorem wire_gather_uint64.calls (k:Nat) (A0:Option Addr) (c0:Nat) (l0:List Int) (a1:Int) (r:Int) (w:World) (hr0:Kd.C (Kd.int .u8) w A0 l0.length l0) (hc0:l0.length≤c0) (h:wire_gather_uint64.f k l0 a1=some r) :
  Calls Tryd.prog 91 #[.slice A0 l0.length c0,.int .u64 a1] w fun e w' => e=.returned (.int .u64 r)∧Drawn0 w w':=by
 have HR0:=Aside0.mk hr0
 have HC0:=Aside0.mk hc0
 clear hr0 hc0
 have H:(wire_gather_uint64.l0 k a1 l0 (l0.length:Int) 0)=some r:=h
 clear h
 have H':=Aside0.mk H
 clear H
 go_enter Tryd.func91,Tryd.ntmps91
 go_wp2
 go_loopg [1,9] k (fun kq v1 v9 w' => ∃ (x1_1:Int) (x9_1:Int),v1=.int .u64 x1_1∧v9=.int .i64 x9_1∧Aside0 (wire_gather_uint64.l0 kq x1_1 l0 (l0.length:Int) x9_1=some r)∧Aside0 (kq≤k)∧Drawn0 w w')
 case atStart => exact ⟨(a1),(0),(by first|rfl|(simp;done)|(simp [*];done)),(by first|rfl|(simp;done)|(simp [*];done)),H',⟨Nat.le_refl _⟩,by repeat (first|exact Drawn0.refl _|apply Drawn0.step)⟩
 case round =>
  clear H'
  try clear p2
  obtain ⟨x1_1,x9_1,rfl,rfl,HA,HK1,⟨m1,rfl⟩⟩:=hrel
  cases gk with
  | zero => exact absurd HA.out (by simp [wire_gather_uint64.l0])
  | succ k1 =>
   have H:=HA.out
   clear HA
   simp only [wire_gather_uint64.l0] at H
   by_cases c3:x9_1 < (l0.length:Int)
   ·rw [if_pos c3] at H
    have c3b0:decide (x9_1 < (l0.length:Int))=true:=decide_eq_true c3
    clear c3
    by_cases c4:0≤x9_1
    ·rw [if_pos c4] at H
     have c4b0:decide (0≤x9_1)=true:=decide_eq_true c4
     clear c4
     by_cases c5:x9_1 < (l0.length:Int)
     ·rw [if_pos c5] at H
      have c5b0:decide (x9_1 < (l0.length:Int))=true:=decide_eq_true c5
      clear c5
      have H':=Aside0.mk H
      clear H
      have p189:0≤(x9_1:Int):=of_decide_eq_true (by first|(with_reducible assumption)|assumption)
      have q189:x9_1 < (l0.length:Int):=of_decide_eq_true (by first|(with_reducible assumption)|assumption)
      obtain ⟨ad189,e189,hx189_0⟩:=Kd.at_int HR0.out x9_1 p189 q189
      cases e189
      replace p189:=eq_true p189
      replace q189:=eq_true q189
      go_wp2
      go_roundg k1
      case measure => have:=HK1.out;omega
      case rel => exact ⟨(Go.bits .or .u64 (IntKind.u64.wrap (x1_1 * 256)) (IntKind.u64.wrap (rd l0 x9_1))),(wrap64 (x9_1 + 1)),(by first|rfl|(simp;done)|(simp [*];done)),(by first|rfl|(simp;done)|(simp [*];done)),H',⟨by have:=HK1.out;omega⟩,by repeat (first|exact Drawn0.refl _|apply Drawn0.step)⟩
     ·rw [if_neg c5] at H
      exact absurd H (by simp)
    ·rw [if_neg c4] at H
     exact absurd H (by simp)
   ·rw [if_neg c3] at H
    have c3b0:decide (x9_1 < (l0.length:Int))=false:=decide_eq_false c3
    clear c3
    obtain rfl:=Option.some.inj H
    go_wp2
    go_ret
    exact ⟨by first|rfl|(simp;done)|(simp [*];done),by repeat (first|exact Drawn0.refl _|apply Drawn0.step)⟩
def utf8_appendRuneNonASCII.j0:Nat→List Int→Int→Int→Bool→Option (List Int)
 | 0,_,_,_,_ => none
 | k + 1,x0,x1,x5,x25 => if x25=true then ((some (([Go.bits .or .u8 224 ((x1 / 4096) % 256),(128 + x1 / 64 % 64),(128 + x1 % 64)]:List Int):List Int)).bind fun y196 => (if x0.length + y196.length < 140737488355328 then (some (x0++y196)) else (none))) else (if x5 > 65535 then (if x5≤1114111 then ((some (([Go.bits .or .u8 240 ((x1 / 262144) % 256),(128 + x1 / 4096 % 64),(128 + x1 / 64 % 64),(128 + x1 % 64)]:List Int):List Int)).bind fun y202 => (if x0.length + y202.length < 140737488355328 then (some (x0++y202)) else (none))) else ((some (([239,191,189]:List Int):List Int)).bind fun y208 => (if x0.length + y208.length < 140737488355328 then (some (x0++y208)) else (none)))) else ((some (([239,191,189]:List Int):List Int)).bind fun y214 => (if x0.length + y214.length < 140737488355328 then (some (x0++y214)) else (none))))
def utf8_appendRuneNonASCII.f (k:Nat) (l0:List Int) (a1:Int):Option (List Int):=if ((a1) % 4294967296)≤2047 then ((some (([Go.bits .or .u8 192 ((a1 / 64) % 256),(128 + a1 % 64)]:List Int):List Int)).bind fun y190 => (if l0.length + y190.length < 140737488355328 then (some (l0++y190)) else (none))) else (if ((a1) % 4294967296) < 55296 then (utf8_appendRuneNonASCII.j0 k l0 a1 ((a1) % 4294967296) (decide (((a1) % 4294967296) < 55296))) else (if 57343 < ((a1) % 4294967296) then (utf8_appendRuneNonASCII.j0 k l0 a1 ((a1) % 4294967296) (decide (((a1) % 4294967296)≤65535))) else (utf8_appendRuneNonASCII.j0 k l0 a1 ((a1) % 4294967296) false)))
theorem utf8_appendRuneNonASCII.mono_l:∀ k,(∀ y0 y1 y2 y3,LeO (utf8_appendRuneNonASCII.j0 k y0 y1 y2 y3) (utf8_appendRuneNonASCII.j0 (k + 1) y0 y1 y2 y3))
 | 0 => fun _ _ _ _ r h => by simp [utf8_appendRuneNonASCII.j0] at h
 | k + 1 => by
  have ih0:=utf8_appendRuneNonASCII.mono_l k
  ·intro y0 y1 y2 y3
   unfold utf8_appendRuneNonASCII.j0
   repeat' first
   | (with_reducible exact ih0 _ _ _ _)
   | (with_reducible exact LeO.refl _)
   | (with_reducible exact LeO.none _)
   | (with_reducible refine LeO.ite ?_ ?_)
   | (with_reducible refine LeO.bind ?_ (fun _ => ?_))
   | exact ih0 _ _ _ _
   | exact LeO.none _
   | refine LeO.ite ?_ ?_
   | refine LeO.bind ?_ (fun _ => ?_)
theorem utf8_appendRuneNonASCII.mono:∀ a0 a1 k,LeO (utf8_appendRuneNonASCII.f k a0 a1) (utf8_appendRuneNonASCII.f (k + 1) a0 a1):=by
 intro a0 a1 k
 have ih0:=utf8_appendRuneNonASCII.mono_l k
 unfold utf8_appendRuneNonASCII.f
 repeat' first
   | (with_reducible exact ih0 _ _ _ _)
   | (with_reducible exact LeO.refl _)
   | (with_reducible exact LeO.none _)
   | (with_reducible refine LeO.ite ?_ ?_)
   | (with_reducible refine LeO.bind ?_ (fun _ => ?_))
   | exact ih0 _ _ _ _
   | exact LeO.none _
   | refine LeO.ite ?_ ?_
   | refine LeO.bind ?_ (fun _ => ?_)
set_option maxHeartbeats 80000000 in
set_option maxRecDepth 100000 in
theorem utf8_appendRuneNonASCII.calls (k:Nat) (P0_:Nat→Prop) (u9000_:Value) (l0:List Int) (a1:Int) (r:List Int) (w0 w:World) (hB:Below w0.heap.size w0 w) (ho0:Kd.R (Kd.int .u8) 5 w w0.heap.size P0_ u9000_ l0) (h:utf8_appendRuneNonASCII.f k l0 a1=some r) :
  Calls Tryd.prog 102 #[u9000_,.int .i32 a1] w fun e w' => ∃ v0_:Value,e=.returned (v0_)∧Kd.R (Kd.int .u8) 5 w' w0.heap.size (fun k_ => (P0_ k_ ∨ w.heap.size≤k_)) v0_ r∧Below w0.heap.size w0 w'∧Kept w w' (fun k_ => P0_ k_):=by
 have HO0:=Aside0.mk (show Kd.R (Kd.int .u8) 5 w w0.heap.size (fun k_ => (P0_ k_ ∨ w.heap.size≤k_)) u9000_ l0 from Kd.R_mono ho0 (fun k_ hk => (.inl hk)))
 have HK:=Aside0.mk (Kept.refl w (fun k_ => P0_ k_))
 have HW0:=Aside0.mk hB.size
 have HB:=Aside0.mk hB
 clear hB
 have H:(if ((a1) % 4294967296)≤2047 then ((some (([Go.bits .or .u8 192 ((a1 / 64) % 256),(128 + a1 % 64)]:List Int):List Int)).bind fun y190 => (if l0.length + y190.length < 140737488355328 then (some (l0++y190)) else (none))) else (if ((a1) % 4294967296) < 55296 then (utf8_appendRuneNonASCII.j0 k l0 a1 ((a1) % 4294967296) (decide (((a1) % 4294967296) < 55296))) else (if 57343 < ((a1) % 4294967296) then (utf8_appendRuneNonASCII.j0 k l0 a1 ((a1) % 4294967296) (decide (((a1) % 4294967296)≤65535))) else (utf8_appendRuneNonASCII.j0 k l0 a1 ((a1) % 4294967296) false))))=some r:=h
 clear h
 by_cases c3:((a1) % 4294967296)≤2047
 ·rw [if_pos c3] at H
  have c3b0:decide (((a1) % 4294967296)≤2047)=true:=decide_eq_true c3
  clear c3
  obtain ⟨y190,hy190⟩:∃ y_:List Int,y_=(([Go.bits .or .u8 192 ((a1 / 64) % 256),(128 + a1 % 64)]:List Int)):=⟨_,rfl⟩
  replace H:(if l0.length + y190.length < 140737488355328 then (some (l0++y190)) else (none))=some r:=by first|(rw [hy190];with_reducible exact H)|(have H2_:=(Option.bind_some _ _).symm.trans H;rw [hy190];with_reducible exact H2_)|(have H2_:=(Option.bind_some _ _).symm.trans H;with_reducible exact H2_)|with_reducible exact H|(rw [hy190];exact H)|exact H
  have Ny190:=Aside0.mk hy190
  clear hy190
  by_cases c4:l0.length + y190.length < 140737488355328
  ·rw [if_pos c4] at H
   have LMc4:=Aside0.mk c4
   clear c4
   obtain ⟨y193,hy193⟩:∃ y_:List Int,y_=(l0++y190):=⟨_,rfl⟩
   replace H:(some y193)=some r:=by first|(rw [hy193];with_reducible exact H)|(have H2_:=(Option.bind_some _ _).symm.trans H;rw [hy193];with_reducible exact H2_)|(have H2_:=(Option.bind_some _ _).symm.trans H;with_reducible exact H2_)|with_reducible exact H|(rw [hy193];exact H)|exact H
   have Ny193:=Aside0.mk hy193
   clear hy193
   obtain rfl:=Option.some.inj H
   go_enter Tryd.func102,Tryd.ntmps102
   go_wp2_with (first|((with_reducible refine gate_dst (N:=23) rfl ?_);refine Kd.R_lit (Kd.int .u8) _ 5 ?hg (N:=23) ?hd (xs:=([Go.bits .or .u8 192 ((a1 / 64) % 256),(128 + a1 % 64)]:List Int)) (inner:=[.int .u8 (Go.bits .or .u8 192 ((a1 / 64) % 256)),.int .u8 ((128 + a1 % 64))]) (ok:=fun _ => True) (okp:=fun _ => True) ?hr ?hp (fun _ hk => hk) trivial (Below.refl _ _) (Nat.le_refl _) (by simp) ?_;(case hd => rfl);(case hg => rfl);(case hr => first|(go_simp;done)|(go_simp;rfl));(case hp => exact (Reps.one (show Kd.M (Kd.int .u8) _ _ _ (Go.bits .or .u8 192 ((a1 / 64) % 256)) [.int .u8 (Go.bits .or .u8 192 ((a1 / 64) % 256))] from rfl) (Reps.one (show Kd.M (Kd.int .u8) _ _ _ ((128 + a1 % 64)) [.int .u8 ((128 + a1 % 64))] from rfl) (Reps.none _ _))));intro v191 w5 ho6 hb hg_ hnew_;clear hg_ hnew_;(first|rw [← Ny190.out] at ho6|(simp only [Int.reduceToNat] at ho6;rw [← Ny190.out] at ho6));have n0_:=Aside0.mk (Kd.R_elder' (by (with_reducible repeat (first|apply Kd.R_alloc|apply Kd.R_drewN|apply Kd.R_drew));exact HO0.out) (Kd.R_base ho6) hb);have n1_:=Aside0.mk (Kd.R_lower (Kd.R_new' (Kd.R_newM (M:=fun k_ => (P0_ k_ ∨ w.heap.size≤k_)) ho6 (by first|exact HK.out.1|exact (show Kept w _ (fun k_ => P0_ k_) from by repeat (first|(with_reducible first|exact HK.out|apply Kept.alloc|apply Kept.drewN|apply Kept.drew)|exact HK.out)).1) (fun k_ h_ => .inr h_)) (Kd.R_lt (by (with_reducible repeat (first|apply Kd.R_alloc|apply Kd.R_drewN|apply Kd.R_drew));exact HO0.out))) (below_size (by repeat (first|(with_reducible first|exact HB.out|apply below_alloc|apply pw_below_drewN|apply below_drew1)|exact HB.out))));have n2_:=Aside0.mk (Kept.below (S:=(fun k_ => P0_ k_)) (by repeat (first|(with_reducible first|exact HK.out|apply Kept.alloc|apply Kept.drewN|apply Kept.drew)|exact HK.out)) hb);have n3_:=Aside0.mk (below_step (by repeat (first|(with_reducible first|exact HB.out|apply below_alloc|apply pw_below_drewN|apply below_drew1)|exact HB.out)) hb);clear HO0;clear HK;clear HB;have HO0:=n0_;have HO192:=n1_;have HK:=n2_;have HB:=n3_;clear n0_ n1_ n2_ n3_;clear hb ho6;obtain ⟨Ao8,co8,eo8⟩:=Kd.R_slice HO192.out;subst eo8)|((with_reducible refine gate_builtin (b:=.append) (xs:=#[.tmp 14,.tmp 23]) rfl ?_);at_builtin;refine Kd.R_append_rows (Kd.int .u8) (w0:=w0) w0.heap.size rfl (.tmp 14) (.tmp 23) 27 5 (.int .u8 0) 1 rfl Tryd.underlying27 info5 rfl (by decide) (by omega) u9000_ l0 y190 _ _ _ (fun k_ => (P0_ k_ ∨ w.heap.size≤k_)∧some k_ ≠ (.slice Ao8 y190.length co8:Value).ownBlock) (fun _ => False) rfl rfl ?aO ?aR (fun _ _ h => h) (fun _ h => h.elim) ?aF ?aB ?aS ?aL ?_;(case aR => repeat (first|exact (Kd.R_reads' HO192.out).2.2|(with_reducible refine Kd.C_alloc ?_ _)|(with_reducible refine Kd.C_drewN ?_ _)|(with_reducible refine Kd.C_drew ?_)));(case aB => exact (by repeat (first|(with_reducible first|exact HB.out|apply below_alloc|apply pw_below_drewN|apply below_drew1)|exact HB.out)));(case aF => exact (fun k_ hk => ⟨(.inr (Nat.le_trans (by first|exact HK.out.1|exact (show Kept w _ (fun k_ => P0_ k_) from by repeat (first|(with_reducible first|exact HK.out|apply Kept.alloc|apply Kept.drewN|apply Kept.drew)|exact HK.out)).1) hk)),Kd.fresh' (Kd.R_lt (by (with_reducible repeat (first|apply Kd.R_alloc|apply Kd.R_drewN|apply Kd.R_drew));exact HO192.out)) k_ hk⟩));(case aO => exact (by (with_reducible repeat (first|apply Kd.R_alloc|apply Kd.R_drewN|apply Kd.R_drew));exact HO0.out));(case aS => exact (below_size (by repeat (first|(with_reducible first|exact HB.out|apply below_alloc|apply pw_below_drewN|apply below_drew1)|exact HB.out))));(case aL => have:=LMc4.out;omega);intro v194 w7 ho hb hg hat;rw [← Ny193.out] at ho;have n0_:=Aside0.mk (Kd.R_after (ok:=(fun k_ => (P0_ k_ ∨ w.heap.size≤k_))) (by (with_reducible repeat (first|apply Kd.R_alloc|apply Kd.R_drewN|apply Kd.R_drew));exact Kd.R_mono HO192.out (fun _ hk => ⟨hk.1.1,hk.2⟩)) hg hat);have n1_:=Aside0.mk (hb);have n2_:=Aside0.mk (Kept.of_grown (S:=(fun k_ => P0_ k_)) hg (by repeat (first|(with_reducible first|exact HK.out|apply Kept.alloc|apply Kept.drewN|apply Kept.drew)|exact HK.out)) (fun k_ e_ => (HO0.out.1 k_ e_).1));have n3_:=Aside0.mk (ho);clear HO192;clear HB;clear HK;clear HO0;have HO192:=n0_;have HB:=n1_;have HK:=n2_;have HO195:=n3_;clear n0_ n1_ n2_ n3_;clear ho hb hg hat))
   go_ret
   exact ⟨_,by first|rfl|(simp [errW_none,errW_some] <;> rfl)|(simp [*,errW_none,errW_some] <;> rfl),by (with_reducible repeat (first|apply Kd.R_alloc|apply Kd.R_drewN|apply Kd.R_drew));exact Kd.R_mono HO195.out (fun _ hk => hk.1),by repeat (first|(with_reducible first|exact HB.out|apply below_alloc|apply pw_below_drewN|apply below_drew1)|exact HB.out),by repeat (first|(with_reducible first|exact HK.out|apply Kept.alloc|apply Kept.drewN|apply Kept.drew)|exact HK.out)⟩
  ·rw [if_neg c4] at H
   exact absurd H (by simp)
 ·rw [if_neg c3] at H
  have c3b0:decide (((a1) % 4294967296)≤2047)=false:=decide_eq_false c3
  clear c3
  have HC9:=Aside0.mk H
  clear H
  go_enter Tryd.func102,Tryd.ntmps102
  go_upto_if 25 with (fail)
  go_cut [25] (fun v25 wc => ∃ (kq:Nat) (x25_8:Bool),v25=.bool x25_8∧Aside0 (utf8_appendRuneNonASCII.j0 kq l0 a1 ((a1) % 4294967296) x25_8=some r)∧Aside0 (kq≤k)∧Aside0 (Kd.R (Kd.int .u8) 5 wc w0.heap.size (fun k_ => (P0_ k_ ∨ w.heap.size≤k_)) u9000_ l0)∧Aside0 (Kept w wc (fun k_ => P0_ k_))∧Aside0 (Below w0.heap.size w0 wc))
  case first =>
   have H:=HC9.out
   clear HC9
   by_cases c10:((a1) % 4294967296) < 55296
   ·rw [if_pos c10] at H
    have c10b0:decide (((a1) % 4294967296) < 55296)=true:=decide_eq_true c10
    clear c10
    (first|rw [c10b0]|(simp only [i64_w,i32_w];rw [c10b0])|skip)
    have H':=Aside0.mk H
    clear H
    go_wp2
    go_meet
    case rel => exact ⟨_,(decide (((a1) % 4294967296) < 55296)),(by first|rfl|(simp;done)|(simp [*];done)),H',⟨by first|omega|exact Nat.le_refl _⟩,⟨by (with_reducible repeat (first|apply Kd.R_alloc|apply Kd.R_drewN|apply Kd.R_drew));exact HO0.out⟩,⟨by repeat (first|(with_reducible first|exact HK.out|apply Kept.alloc|apply Kept.drewN|apply Kept.drew)|exact HK.out)⟩,⟨by repeat (first|(with_reducible first|exact HB.out|apply below_alloc|apply pw_below_drewN|apply below_drew1)|exact HB.out)⟩⟩
   ·rw [if_neg c10] at H
    have c10b0:decide (((a1) % 4294967296) < 55296)=false:=decide_eq_false c10
    clear c10
    (first|rw [c10b0]|(simp only [i64_w,i32_w];rw [c10b0])|skip)
    by_cases c11:57343 < ((a1) % 4294967296)
    ·rw [if_pos c11] at H
     have c11b0:decide (57343 < ((a1) % 4294967296))=true:=decide_eq_true c11
     clear c11
     have H':=Aside0.mk H
     clear H
     go_wp2
     go_meet
     case rel => exact ⟨_,(decide (((a1) % 4294967296)≤65535)),(by first|rfl|(simp;done)|(simp [*];done)),H',⟨by first|omega|exact Nat.le_refl _⟩,⟨by (with_reducible repeat (first|apply Kd.R_alloc|apply Kd.R_drewN|apply Kd.R_drew));exact HO0.out⟩,⟨by repeat (first|(with_reducible first|exact HK.out|apply Kept.alloc|apply Kept.drewN|apply Kept.drew)|exact HK.out)⟩,⟨by repeat (first|(with_reducible first|exact HB.out|apply below_alloc|apply pw_below_drewN|apply below_drew1)|exact HB.out)⟩⟩
    ·rw [if_neg c11] at H
     have c11b0:decide (57343 < ((a1) % 4294967296))=false:=decide_eq_false c11
     clear c11
     have H':=Aside0.mk H
     clear H
     go_wp2
     go_meet
     case rel => exact ⟨_,(false),(by first|rfl|(simp;done)|(simp [*];done)),H',⟨by first|omega|exact Nat.le_refl _⟩,⟨by (with_reducible repeat (first|apply Kd.R_alloc|apply Kd.R_drewN|apply Kd.R_drew));exact HO0.out⟩,⟨by repeat (first|(with_reducible first|exact HK.out|apply Kept.alloc|apply Kept.drewN|apply Kept.drew)|exact HK.out)⟩,⟨by repeat (first|(with_reducible first|exact HB.out|apply below_alloc|apply pw_below_drewN|apply below_drew1)|exact HB.out)⟩⟩
  case rest =>
   clear HC9
   try clear c1;try clear p2;try clear c3;try clear c3b0;try clear c4;try clear c10;try clear c10b0;try clear c11;try clear c11b0
   obtain ⟨kq,x25_8,rfl,HA,HJ8,HO_0,HK,HB⟩:=hcut
   cases kq with
   | zero => exact absurd HA.out (by simp [utf8_appendRuneNonASCII.j0])
   | succ kj8 =>
    have H:=HA.out
    clear HA
    simp only [utf8_appendRuneNonASCII.j0] at H
    by_cases c12:x25_8=true
    ·subst c12
     have H1:((some (([Go.bits .or .u8 224 ((a1 / 4096) % 256),(128 + a1 / 64 % 64),(128 + a1 % 64)]:List Int):List Int)).bind fun y196 => (if l0.length + y196.length < 140737488355328 then (some (l0++y196)) else (none)))=some r:=by rw [if_pos rfl] at H;exact H
     clear H
     have H:=H1
     clear H1
     obtain ⟨y196,hy196⟩:∃ y_:List Int,y_=(([Go.bits .or .u8 224 ((a1 / 4096) % 256),(128 + a1 / 64 % 64),(128 + a1 % 64)]:List Int)):=⟨_,rfl⟩
     replace H:(if l0.length + y196.length < 140737488355328 then (some (l0++y196)) else (none))=some r:=by first|(rw [hy196];with_reducible exact H)|(have H2_:=(Option.bind_some _ _).symm.trans H;rw [hy196];with_reducible exact H2_)|(have H2_:=(Option.bind_some _ _).symm.trans H;with_reducible exact H2_)|with_reducible exact H|(rw [hy196];exact H)|exact H
     have Ny196:=Aside0.mk hy196
     clear hy196
     by_cases c13:l0.length + y196.length < 140737488355328
     ·rw [if_pos c13] at H
      have LMc13:=Aside0.mk c13
      clear c13
      obtain ⟨y199,hy199⟩:∃ y_:List Int,y_=(l0++y196):=⟨_,rfl⟩
      replace H:(some y199)=some r:=by first|(rw [hy199];with_reducible exact H)|(have H2_:=(Option.bind_some _ _).symm.trans H;rw [hy199];with_reducible exact H2_)|(have H2_:=(Option.bind_some _ _).symm.trans H;with_reducible exact H2_)|with_reducible exact H|(rw [hy199];exact H)|exact H
      have Ny199:=Aside0.mk hy199
      clear hy199
      obtain rfl:=Option.some.inj H
      go_wp2_with (first|((with_reducible refine gate_dst (N:=48) rfl ?_);refine Kd.R_lit (Kd.int .u8) _ 5 ?hg (N:=48) ?hd (xs:=([Go.bits .or .u8 224 ((a1 / 4096) % 256),(128 + a1 / 64 % 64),(128 + a1 % 64)]:List Int)) (inner:=[.int .u8 (Go.bits .or .u8 224 ((a1 / 4096) % 256)),.int .u8 ((128 + a1 / 64 % 64)),.int .u8 ((128 + a1 % 64))]) (ok:=fun _ => True) (okp:=fun _ => True) ?hr ?hp (fun _ hk => hk) trivial (Below.refl _ _) (Nat.le_refl _) (by simp) ?_;(case hd => rfl);(case hg => rfl);(case hr => first|(go_simp;done)|(go_simp;rfl));(case hp => exact (Reps.one (show Kd.M (Kd.int .u8) _ _ _ (Go.bits .or .u8 224 ((a1 / 4096) % 256)) [.int .u8 (Go.bits .or .u8 224 ((a1 / 4096) % 256))] from rfl) (Reps.one (show Kd.M (Kd.int .u8) _ _ _ ((128 + a1 / 64 % 64)) [.int .u8 ((128 + a1 / 64 % 64))] from rfl) (Reps.one (show Kd.M (Kd.int .u8) _ _ _ ((128 + a1 % 64)) [.int .u8 ((128 + a1 % 64))] from rfl) (Reps.none _ _)))));intro v197 w14 ho15 hb hg_ hnew_;clear hg_ hnew_;(first|rw [← Ny196.out] at ho15|(simp only [Int.reduceToNat] at ho15;rw [← Ny196.out] at ho15));have n0_:=Aside0.mk (Kd.R_elder' (by (with_reducible repeat (first|apply Kd.R_alloc|apply Kd.R_drewN|apply Kd.R_drew));exact HO_0.out) (Kd.R_base ho15) hb);have n1_:=Aside0.mk (Kd.R_lower (Kd.R_new' (Kd.R_newM (M:=fun k_ => (P0_ k_ ∨ w.heap.size≤k_)) ho15 (by first|exact HK.out.1|exact (show Kept w _ (fun k_ => P0_ k_) from by repeat (first|(with_reducible first|exact HK.out|apply Kept.alloc|apply Kept.drewN|apply Kept.drew)|exact HK.out)).1) (fun k_ h_ => .inr h_)) (Kd.R_lt (by (with_reducible repeat (first|apply Kd.R_alloc|apply Kd.R_drewN|apply Kd.R_drew));exact HO_0.out))) (below_size (by repeat (first|(with_reducible first|exact HB.out|apply below_alloc|apply pw_below_drewN|apply below_drew1)|exact HB.out))));have n2_:=Aside0.mk (Kept.below (S:=(fun k_ => P0_ k_)) (by repeat (first|(with_reducible first|exact HK.out|apply Kept.alloc|apply Kept.drewN|apply Kept.drew)|exact HK.out)) hb);have n3_:=Aside0.mk (below_step (by repeat (first|(with_reducible first|exact HB.out|apply below_alloc|apply pw_below_drewN|apply below_drew1)|exact HB.out)) hb);clear HO_0;clear HK;clear HB;have HO_0:=n0_;have HO198:=n1_;have HK:=n2_;have HB:=n3_;clear n0_ n1_ n2_ n3_;clear hb ho15;obtain ⟨Ao17,co17,eo17⟩:=Kd.R_slice HO198.out;subst eo17)|((with_reducible refine gate_builtin (b:=.append) (xs:=#[.tmp 34,.tmp 48]) rfl ?_);at_builtin;refine Kd.R_append_rows (Kd.int .u8) (w0:=w0) w0.heap.size rfl (.tmp 34) (.tmp 48) 27 5 (.int .u8 0) 1 rfl Tryd.underlying27 info5 rfl (by decide) (by omega) u9000_ l0 y196 _ _ _ (fun k_ => (P0_ k_ ∨ w.heap.size≤k_)∧some k_ ≠ (.slice Ao17 y196.length co17:Value).ownBlock) (fun _ => False) rfl rfl ?aO ?aR (fun _ _ h => h) (fun _ h => h.elim) ?aF ?aB ?aS ?aL ?_;(case aR => repeat (first|exact (Kd.R_reads' HO198.out).2.2|(with_reducible refine Kd.C_alloc ?_ _)|(with_reducible refine Kd.C_drewN ?_ _)|(with_reducible refine Kd.C_drew ?_)));(case aB => exact (by repeat (first|(with_reducible first|exact HB.out|apply below_alloc|apply pw_below_drewN|apply below_drew1)|exact HB.out)));(case aF => exact (fun k_ hk => ⟨(.inr (Nat.le_trans (by first|exact HK.out.1|exact (show Kept w _ (fun k_ => P0_ k_) from by repeat (first|(with_reducible first|exact HK.out|apply Kept.alloc|apply Kept.drewN|apply Kept.drew)|exact HK.out)).1) hk)),Kd.fresh' (Kd.R_lt (by (with_reducible repeat (first|apply Kd.R_alloc|apply Kd.R_drewN|apply Kd.R_drew));exact HO198.out)) k_ hk⟩));(case aO => exact (by (with_reducible repeat (first|apply Kd.R_alloc|apply Kd.R_drewN|apply Kd.R_drew));exact HO_0.out));(case aS => exact (below_size (by repeat (first|(with_reducible first|exact HB.out|apply below_alloc|apply pw_below_drewN|apply below_drew1)|exact HB.out))));(case aL => have:=LMc13.out;omega);intro v200 w16 ho hb hg hat;rw [← Ny199.out] at ho;have n0_:=Aside0.mk (Kd.R_after (ok:=(fun k_ => (P0_ k_ ∨ w.heap.size≤k_))) (by (with_reducible repeat (first|apply Kd.R_alloc|apply Kd.R_drewN|apply Kd.R_drew));exact Kd.R_mono HO198.out (fun _ hk => ⟨hk.1.1,hk.2⟩)) hg hat);have n1_:=Aside0.mk (hb);have n2_:=Aside0.mk (Kept.of_grown (S:=(fun k_ => P0_ k_)) hg (by repeat (first|(with_reducible first|exact HK.out|apply Kept.alloc|apply Kept.drewN|apply Kept.drew)|exact HK.out)) (fun k_ e_ => (HO_0.out.1 k_ e_).1));have n3_:=Aside0.mk (ho);clear HO198;clear HB;clear HK;clear HO_0;have HO198:=n0_;have HB:=n1_;have HK:=n2_;have HO201:=n3_;clear n0_ n1_ n2_ n3_;clear ho hb hg hat))
      go_ret
      exact ⟨_,by first|rfl|(simp [errW_none,errW_some] <;> rfl)|(simp [*,errW_none,errW_some] <;> rfl),by (with_reducible repeat (first|apply Kd.R_alloc|apply Kd.R_drewN|apply Kd.R_drew));exact Kd.R_mono HO201.out (fun _ hk => hk.1),by repeat (first|(with_reducible first|exact HB.out|apply below_alloc|apply pw_below_drewN|apply below_drew1)|exact HB.out),by repeat (first|(with_reducible first|exact HK.out|apply Kept.alloc|apply Kept.drewN|apply Kept.drew)|exact HK.out)⟩
     ·rw [if_neg c13] at H
      exact absurd H (by simp)
    ·replace c12:=Bool.eq_false_iff.mpr c12
     subst c12
     have H1:(if ((a1) % 4294967296) > 65535 then (if ((a1) % 4294967296)≤1114111 then ((some (([Go.bits .or .u8 240 ((a1 / 262144) % 256),(128 + a1 / 4096 % 64),(128 + a1 / 64 % 64),(128 + a1 % 64)]:List Int):List Int)).bind fun y202 => (if l0.length + y202.length < 140737488355328 then (some (l0++y202)) else (none))) else ((some (([239,191,189]:List Int):List Int)).bind fun y208 => (if l0.length + y208.length < 140737488355328 then (some (l0++y208)) else (none)))) else ((some (([239,191,189]:List Int):List Int)).bind fun y214 => (if l0.length + y214.length < 140737488355328 then (some (l0++y214)) else (none))))=some r:=by rw [if_neg (show ¬ (false=true) by decide)] at H;exact H
     clear H
     have H:=H1
     clear H1
     by_cases c18:((a1) % 4294967296) > 65535
     ·rw [if_pos c18] at H
      have c18b0:decide (65535 < ((a1) % 4294967296))=true:=decide_eq_true c18
      clear c18
      by_cases c19:((a1) % 4294967296)≤1114111
      ·rw [if_pos c19] at H
       have c19b0:decide (((a1) % 4294967296)≤1114111)=true:=decide_eq_true c19
       clear c19
       obtain ⟨y202,hy202⟩:∃ y_:List Int,y_=(([Go.bits .or .u8 240 ((a1 / 262144) % 256),(128 + a1 / 4096 % 64),(128 + a1 / 64 % 64),(128 + a1 % 64)]:List Int)):=⟨_,rfl⟩
       replace H:(if l0.length + y202.length < 140737488355328 then (some (l0++y202)) else (none))=some r:=by first|(rw [hy202];with_reducible exact H)|(have H2_:=(Option.bind_some _ _).symm.trans H;rw [hy202];with_reducible exact H2_)|(have H2_:=(Option.bind_some _ _).symm.trans H;with_reducible exact H2_)|with_reducible exact H|(rw [hy202];exact H)|exact H
       have Ny202:=Aside0.mk hy202
       clear hy202
       by_cases c20:l0.length + y202.length < 140737488355328
       ·rw [if_pos c20] at H
        have LMc20:=Aside0.mk c20
        clear c20
        obtain ⟨y205,hy205⟩:∃ y_:List Int,y_=(l0++y202):=⟨_,rfl⟩
        replace H:(some y205)=some r:=by first|(rw [hy205];with_reducible exact H)|(have H2_:=(Option.bind_some _ _).symm.trans H;rw [hy205];with_reducible exact H2_)|(have H2_:=(Option.bind_some _ _).symm.trans H;with_reducible exact H2_)|with_reducible exact H|(rw [hy205];exact H)|exact H
        have Ny205:=Aside0.mk hy205
        clear hy205
        obtain rfl:=Option.some.inj H
        go_wp2_with (first|((with_reducible refine gate_dst (N:=76) rfl ?_);refine Kd.R_lit (Kd.int .u8) _ 5 ?hg (N:=76) ?hd (xs:=([Go.bits .or .u8 240 ((a1 / 262144) % 256),(128 + a1 / 4096 % 64),(128 + a1 / 64 % 64),(128 + a1 % 64)]:List Int)) (inner:=[.int .u8 (Go.bits .or .u8 240 ((a1 / 262144) % 256)),.int .u8 ((128 + a1 / 4096 % 64)),.int .u8 ((128 + a1 / 64 % 64)),.int .u8 ((128 + a1 % 64))]) (ok:=fun _ => True) (okp:=fun _ => True) ?hr ?hp (fun _ hk => hk) trivial (Below.refl _ _) (Nat.le_refl _) (by simp) ?_;(case hd => rfl);(case hg => rfl);(case hr => first|(go_simp;done)|(go_simp;rfl));(case hp => exact (Reps.one (show Kd.M (Kd.int .u8) _ _ _ (Go.bits .or .u8 240 ((a1 / 262144) % 256)) [.int .u8 (Go.bits .or .u8 240 ((a1 / 262144) % 256))] from rfl) (Reps.one (show Kd.M (Kd.int .u8) _ _ _ ((128 + a1 / 4096 % 64)) [.int .u8 ((128 + a1 / 4096 % 64))] from rfl) (Reps.one (show Kd.M (Kd.int .u8) _ _ _ ((128 + a1 / 64 % 64)) [.int .u8 ((128 + a1 / 64 % 64))] from rfl) (Reps.one (show Kd.M (Kd.int .u8) _ _ _ ((128 + a1 % 64)) [.int .u8 ((128 + a1 % 64))] from rfl) (Reps.none _ _))))));intro v203 w21 ho22 hb hg_ hnew_;clear hg_ hnew_;(first|rw [← Ny202.out] at ho22|(simp only [Int.reduceToNat] at ho22;rw [← Ny202.out] at ho22));have n0_:=Aside0.mk (Kd.R_elder' (by (with_reducible repeat (first|apply Kd.R_alloc|apply Kd.R_drewN|apply Kd.R_drew));exact HO_0.out) (Kd.R_base ho22) hb);have n1_:=Aside0.mk (Kd.R_lower (Kd.R_new' (Kd.R_newM (M:=fun k_ => (P0_ k_ ∨ w.heap.size≤k_)) ho22 (by first|exact HK.out.1|exact (show Kept w _ (fun k_ => P0_ k_) from by repeat (first|(with_reducible first|exact HK.out|apply Kept.alloc|apply Kept.drewN|apply Kept.drew)|exact HK.out)).1) (fun k_ h_ => .inr h_)) (Kd.R_lt (by (with_reducible repeat (first|apply Kd.R_alloc|apply Kd.R_drewN|apply Kd.R_drew));exact HO_0.out))) (below_size (by repeat (first|(with_reducible first|exact HB.out|apply below_alloc|apply pw_below_drewN|apply below_drew1)|exact HB.out))));have n2_:=Aside0.mk (Kept.below (S:=(fun k_ => P0_ k_)) (by repeat (first|(with_reducible first|exact HK.out|apply Kept.alloc|apply Kept.drewN|apply Kept.drew)|exact HK.out)) hb);have n3_:=Aside0.mk (below_step (by repeat (first|(with_reducible first|exact HB.out|apply below_alloc|apply pw_below_drewN|apply below_drew1)|exact HB.out)) hb);clear HO_0;clear HK;clear HB;have HO_0:=n0_;have HO204:=n1_;have HK:=n2_;have HB:=n3_;clear n0_ n1_ n2_ n3_;clear hb ho22;obtain ⟨Ao24,co24,eo24⟩:=Kd.R_slice HO204.out;subst eo24)|((with_reducible refine gate_builtin (b:=.append) (xs:=#[.tmp 57,.tmp 76]) rfl ?_);at_builtin;refine Kd.R_append_rows (Kd.int .u8) (w0:=w0) w0.heap.size rfl (.tmp 57) (.tmp 76) 27 5 (.int .u8 0) 1 rfl Tryd.underlying27 info5 rfl (by decide) (by omega) u9000_ l0 y202 _ _ _ (fun k_ => (P0_ k_ ∨ w.heap.size≤k_)∧some k_ ≠ (.slice Ao24 y202.length co24:Value).ownBlock) (fun _ => False) rfl rfl ?aO ?aR (fun _ _ h => h) (fun _ h => h.elim) ?aF ?aB ?aS ?aL ?_;(case aR => repeat (first|exact (Kd.R_reads' HO204.out).2.2|(with_reducible refine Kd.C_alloc ?_ _)|(with_reducible refine Kd.C_drewN ?_ _)|(with_reducible refine Kd.C_drew ?_)));(case aB => exact (by repeat (first|(with_reducible first|exact HB.out|apply below_alloc|apply pw_below_drewN|apply below_drew1)|exact HB.out)));(case aF => exact (fun k_ hk => ⟨(.inr (Nat.le_trans (by first|exact HK.out.1|exact (show Kept w _ (fun k_ => P0_ k_) from by repeat (first|(with_reducible first|exact HK.out|apply Kept.alloc|apply Kept.drewN|apply Kept.drew)|exact HK.out)).1) hk)),Kd.fresh' (Kd.R_lt (by (with_reducible repeat (first|apply Kd.R_alloc|apply Kd.R_drewN|apply Kd.R_drew));exact HO204.out)) k_ hk⟩));(case aO => exact (by (with_reducible repeat (first|apply Kd.R_alloc|apply Kd.R_drewN|apply Kd.R_drew));exact HO_0.out));(case aS => exact (below_size (by repeat (first|(with_reducible first|exact HB.out|apply below_alloc|apply pw_below_drewN|apply below_drew1)|exact HB.out))));(case aL => have:=LMc20.out;omega);intro v206 w23 ho hb hg hat;rw [← Ny205.out] at ho;have n0_:=Aside0.mk (Kd.R_after (ok:=(fun k_ => (P0_ k_ ∨ w.heap.size≤k_))) (by (with_reducible repeat (first|apply Kd.R_alloc|apply Kd.R_drewN|apply Kd.R_drew));exact Kd.R_mono HO204.out (fun _ hk => ⟨hk.1.1,hk.2⟩)) hg hat);have n1_:=Aside0.mk (hb);have n2_:=Aside0.mk (Kept.of_grown (S:=(fun k_ => P0_ k_)) hg (by repeat (first|(with_reducible first|exact HK.out|apply Kept.alloc|apply Kept.drewN|apply Kept.drew)|exact HK.out)) (fun k_ e_ => (HO_0.out.1 k_ e_).1));have n3_:=Aside0.mk (ho);clear HO204;clear HB;clear HK;clear HO_0;have HO204:=n0_;have HB:=n1_;have HK:=n2_;have HO207:=n3_;clear n0_ n1_ n2_ n3_;clear ho hb hg hat))
        go_ret
        exact ⟨_,by first|rfl|(simp [errW_none,errW_some] <;> rfl)|(simp [*,errW_none,errW_some] <;> rfl),by (with_reducible repeat (first|apply Kd.R_alloc|apply Kd.R_drewN|apply Kd.R_drew));exact Kd.R_mono HO207.out (fun _ hk => hk.1),by repeat (first|(with_reducible first|exact HB.out|apply below_alloc|apply pw_below_drewN|apply below_drew1)|exact HB.out),by repeat (first|(with_reducible first|exact HK.out|apply Kept.alloc|apply Kept.drewN|apply Kept.drew)|exact HK.out)⟩
       ·rw [if_neg c20] at H
        exact absurd H (by simp)
      ·rw [if_neg c19] at H
       have c19b0:decide (((a1) % 4294967296)≤1114111)=false:=decide_eq_false c19
       clear c19
       obtain ⟨y208,hy208⟩:∃ y_:List Int,y_=(([239,191,189]:List Int)):=⟨_,rfl⟩
       replace H:(if l0.length + y208.length < 140737488355328 then (some (l0++y208)) else (none))=some r:=by first|(rw [hy208];with_reducible exact H)|(have H2_:=(Option.bind_some _ _).symm.trans H;rw [hy208];with_reducible exact H2_)|(have H2_:=(Option.bind_some _ _).symm.trans H;with_reducible exact H2_)|with_reducible exact H|(rw [hy208];exact H)|exact H
       have Ny208:=Aside0.mk hy208
       clear hy208
       by_cases c25:l0.length + y208.length < 140737488355328
       ·rw [if_pos c25] at H
        have LMc25:=Aside0.mk c25
        clear c25
        obtain ⟨y211,hy211⟩:∃ y_:List Int,y_=(l0++y208):=⟨_,rfl⟩
        replace H:(some y211)=some r:=by first|(rw [hy211];with_reducible exact H)|(have H2_:=(Option.bind_some _ _).symm.trans H;rw [hy211];with_reducible exact H2_)|(have H2_:=(Option.bind_some _ _).symm.trans H;with_reducible exact H2_)|with_reducible exact H|(rw [hy211];exact H)|exact H
        have Ny211:=Aside0.mk hy211
        clear hy211
        obtain rfl:=Option.some.inj H
        go_wp2_with (first|((with_reducible refine gate_dst (N:=9) rfl ?_);refine Kd.R_lit (Kd.int .u8) _ 5 ?hg (N:=9) ?hd (xs:=([239,191,189]:List Int)) (inner:=[.int .u8 239,.int .u8 191,.int .u8 189]) (ok:=fun _ => True) (okp:=fun _ => True) ?hr ?hp (fun _ hk => hk) trivial (Below.refl _ _) (Nat.le_refl _) (by simp) ?_;(case hd => rfl);(case hg => rfl);(case hr => first|(go_simp;done)|(go_simp;rfl));(case hp => exact (Reps.one (show Kd.M (Kd.int .u8) _ _ _ 239 [.int .u8 239] from rfl) (Reps.one (show Kd.M (Kd.int .u8) _ _ _ 191 [.int .u8 191] from rfl) (Reps.one (show Kd.M (Kd.int .u8) _ _ _ 189 [.int .u8 189] from rfl) (Reps.none _ _)))));intro v209 w26 ho27 hb hg_ hnew_;clear hg_ hnew_;(first|rw [← Ny208.out] at ho27|(simp only [Int.reduceToNat] at ho27;rw [← Ny208.out] at ho27));have n0_:=Aside0.mk (Kd.R_elder' (by (with_reducible repeat (first|apply Kd.R_alloc|apply Kd.R_drewN|apply Kd.R_drew));exact HO_0.out) (Kd.R_base ho27) hb);have n1_:=Aside0.mk (Kd.R_lower (Kd.R_new' (Kd.R_newM (M:=fun k_ => (P0_ k_ ∨ w.heap.size≤k_)) ho27 (by first|exact HK.out.1|exact (show Kept w _ (fun k_ => P0_ k_) from by repeat (first|(with_reducible first|exact HK.out|apply Kept.alloc|apply Kept.drewN|apply Kept.drew)|exact HK.out)).1) (fun k_ h_ => .inr h_)) (Kd.R_lt (by (with_reducible repeat (first|apply Kd.R_alloc|apply Kd.R_drewN|apply Kd.R_drew));exact HO_0.out))) (below_size (by repeat (first|(with_reducible first|exact HB.out|apply below_alloc|apply pw_below_drewN|apply below_drew1)|exact HB.out))));have n2_:=Aside0.mk (Kept.below (S:=(fun k_ => P0_ k_)) (by repeat (first|(with_reducible first|exact HK.out|apply Kept.alloc|apply Kept.drewN|apply Kept.drew)|exact HK.out)) hb);have n3_:=Aside0.mk (below_step (by repeat (first|(with_reducible first|exact HB.out|apply below_alloc|apply pw_below_drewN|apply below_drew1)|exact HB.out)) hb);clear HO_0;clear HK;clear HB;have HO_0:=n0_;have HO210:=n1_;have HK:=n2_;have HB:=n3_;clear n0_ n1_ n2_ n3_;clear hb ho27;obtain ⟨Ao29,co29,eo29⟩:=Kd.R_slice HO210.out;subst eo29)|((with_reducible refine gate_builtin (b:=.append) (xs:=#[.tmp 8,.tmp 9]) rfl ?_);at_builtin;refine Kd.R_append_rows (Kd.int .u8) (w0:=w0) w0.heap.size rfl (.tmp 8) (.tmp 9) 27 5 (.int .u8 0) 1 rfl Tryd.underlying27 info5 rfl (by decide) (by omega) u9000_ l0 y208 _ _ _ (fun k_ => (P0_ k_ ∨ w.heap.size≤k_)∧some k_ ≠ (.slice Ao29 y208.length co29:Value).ownBlock) (fun _ => False) rfl rfl ?aO ?aR (fun _ _ h => h) (fun _ h => h.elim) ?aF ?aB ?aS ?aL ?_;(case aR => repeat (first|exact (Kd.R_reads' HO210.out).2.2|(with_reducible refine Kd.C_alloc ?_ _)|(with_reducible refine Kd.C_drewN ?_ _)|(with_reducible refine Kd.C_drew ?_)));(case aB => exact (by repeat (first|(with_reducible first|exact HB.out|apply below_alloc|apply pw_below_drewN|apply below_drew1)|exact HB.out)));(case aF => exact (fun k_ hk => ⟨(.inr (Nat.le_trans (by first|exact HK.out.1|exact (show Kept w _ (fun k_ => P0_ k_) from by repeat (first|(with_reducible first|exact HK.out|apply Kept.alloc|apply Kept.drewN|apply Kept.drew)|exact HK.out)).1) hk)),Kd.fresh' (Kd.R_lt (by (with_reducible repeat (first|apply Kd.R_alloc|apply Kd.R_drewN|apply Kd.R_drew));exact HO210.out)) k_ hk⟩));(case aO => exact (by (with_reducible repeat (first|apply Kd.R_alloc|apply Kd.R_drewN|apply Kd.R_drew));exact HO_0.out));(case aS => exact (below_size (by repeat (first|(with_reducible first|exact HB.out|apply below_alloc|apply pw_below_drewN|apply below_drew1)|exact HB.out))));(case aL => have:=LMc25.out;omega);intro v212 w28 ho hb hg hat;rw [← Ny211.out] at ho;have n0_:=Aside0.mk (Kd.R_after (ok:=(fun k_ => (P0_ k_ ∨ w.heap.size≤k_))) (by (with_reducible repeat (first|apply Kd.R_alloc|apply Kd.R_drewN|apply Kd.R_drew));exact Kd.R_mono HO210.out (fun _ hk => ⟨hk.1.1,hk.2⟩)) hg hat);have n1_:=Aside0.mk (hb);have n2_:=Aside0.mk (Kept.of_grown (S:=(fun k_ => P0_ k_)) hg (by repeat (first|(with_reducible first|exact HK.out|apply Kept.alloc|apply Kept.drewN|apply Kept.drew)|exact HK.out)) (fun k_ e_ => (HO_0.out.1 k_ e_).1));have n3_:=Aside0.mk (ho);clear HO210;clear HB;clear HK;clear HO_0;have HO210:=n0_;have HB:=n1_;have HK:=n2_;have HO213:=n3_;clear n0_ n1_ n2_ n3_;clear ho hb hg hat))
        go_ret
        exact ⟨_,by first|rfl|(simp [errW_none,errW_some] <;> rfl)|(simp [*,errW_none,errW_some] <;> rfl),by (with_reducible repeat (first|apply Kd.R_alloc|apply Kd.R_drewN|apply Kd.R_drew));exact Kd.R_mono HO213.out (fun _ hk => hk.1),by repeat (first|(with_reducible first|exact HB.out|apply below_alloc|apply pw_below_drewN|apply below_drew1)|exact HB.out),by repeat (first|(with_reducible first|exact HK.out|apply Kept.alloc|apply Kept.drewN|apply Kept.drew)|exact HK.out)⟩
       ·rw [if_neg c25] at H
        exact absurd H (by simp)
     ·rw [if_neg c18] at H
      have c18b0:decide (65535 < ((a1) % 4294967296))=false:=decide_eq_false c18
      clear c18
      obtain ⟨y214,hy214⟩:∃ y_:List Int,y_=(([239,191,189]:List Int)):=⟨_,rfl⟩
      replace H:(if l0.length + y214.length < 140737488355328 then (some (l0++y214)) else (none))=some r:=by first|(rw [hy214];with_reducible exact H)|(have H2_:=(Option.bind_some _ _).symm.trans H;rw [hy214];with_reducible exact H2_)|(have H2_:=(Option.bind_some _ _).symm.trans H;with_reducible exact H2_)|with_reducible exact H|(rw [hy214];exact H)|exact H
      have Ny214:=Aside0.mk hy214
      clear hy214
      by_cases c30:l0.length + y214.length < 140737488355328
      ·rw [if_pos c30] at H
       have LMc30:=Aside0.mk c30
       clear c30
       obtain ⟨y217,hy217⟩:∃ y_:List Int,y_=(l0++y214):=⟨_,rfl⟩
       replace H:(some y217)=some r:=by first|(rw [hy217];with_reducible exact H)|(have H2_:=(Option.bind_some _ _).symm.trans H;rw [hy217];with_reducible exact H2_)|(have H2_:=(Option.bind_some _ _).symm.trans H;with_reducible exact H2_)|with_reducible exact H|(rw [hy217];exact H)|exact H
       have Ny217:=Aside0.mk hy217
       clear hy217
       obtain rfl:=Option.some.inj H
       go_wp2_with (first|((with_reducible refine gate_dst (N:=9) rfl ?_);refine Kd.R_lit (Kd.int .u8) _ 5 ?hg (N:=9) ?hd (xs:=([239,191,189]:List Int)) (inner:=[.int .u8 239,.int .u8 191,.int .u8 189]) (ok:=fun _ => True) (okp:=fun _ => True) ?hr ?hp (fun _ hk => hk) trivial (Below.refl _ _) (Nat.le_refl _) (by simp) ?_;(case hd => rfl);(case hg => rfl);(case hr => first|(go_simp;done)|(go_simp;rfl));(case hp => exact (Reps.one (show Kd.M (Kd.int .u8) _ _ _ 239 [.int .u8 239] from rfl) (Reps.one (show Kd.M (Kd.int .u8) _ _ _ 191 [.int .u8 191] from rfl) (Reps.one (show Kd.M (Kd.int .u8) _ _ _ 189 [.int .u8 189] from rfl) (Reps.none _ _)))));intro v215 w31 ho32 hb hg_ hnew_;clear hg_ hnew_;(first|rw [← Ny214.out] at ho32|(simp only [Int.reduceToNat] at ho32;rw [← Ny214.out] at ho32));have n0_:=Aside0.mk (Kd.R_elder' (by (with_reducible repeat (first|apply Kd.R_alloc|apply Kd.R_drewN|apply Kd.R_drew));exact HO_0.out) (Kd.R_base ho32) hb);have n1_:=Aside0.mk (Kd.R_lower (Kd.R_new' (Kd.R_newM (M:=fun k_ => (P0_ k_ ∨ w.heap.size≤k_)) ho32 (by first|exact HK.out.1|exact (show Kept w _ (fun k_ => P0_ k_) from by repeat (first|(with_reducible first|exact HK.out|apply Kept.alloc|apply Kept.drewN|apply Kept.drew)|exact HK.out)).1) (fun k_ h_ => .inr h_)) (Kd.R_lt (by (with_reducible repeat (first|apply Kd.R_alloc|apply Kd.R_drewN|apply Kd.R_drew));exact HO_0.out))) (below_size (by repeat (first|(with_reducible first|exact HB.out|apply below_alloc|apply pw_below_drewN|apply below_drew1)|exact HB.out))));have n2_:=Aside0.mk (Kept.below (S:=(fun k_ => P0_ k_)) (by repeat (first|(with_reducible first|exact HK.out|apply Kept.alloc|apply Kept.drewN|apply Kept.drew)|exact HK.out)) hb);have n3_:=Aside0.mk (below_step (by repeat (first|(with_reducible first|exact HB.out|apply below_alloc|apply pw_below_drewN|apply below_drew1)|exact HB.out)) hb);clear HO_0;clear HK;clear HB;have HO_0:=n0_;have HO216:=n1_;have HK:=n2_;have HB:=n3_;clear n0_ n1_ n2_ n3_;clear hb ho32;obtain ⟨Ao34,co34,eo34⟩:=Kd.R_slice HO216.out;subst eo34)|((with_reducible refine gate_builtin (b:=.append) (xs:=#[.tmp 8,.tmp 9]) rfl ?_);at_builtin;refine Kd.R_append_rows (Kd.int .u8) (w0:=w0) w0.heap.size rfl (.tmp 8) (.tmp 9) 27 5 (.int .u8 0) 1 rfl Tryd.underlying27 info5 rfl (by decide) (by omega) u9000_ l0 y214 _ _ _ (fun k_ => (P0_ k_ ∨ w.heap.size≤k_)∧some k_ ≠ (.slice Ao34 y214.length co34:Value).ownBlock) (fun _ => False) rfl rfl ?aO ?aR (fun _ _ h => h) (fun _ h => h.elim) ?aF ?aB ?aS ?aL ?_;(case aR => repeat (first|exact (Kd.R_reads' HO216.out).2.2|(with_reducible refine Kd.C_alloc ?_ _)|(with_reducible refine Kd.C_drewN ?_ _)|(with_reducible refine Kd.C_drew ?_)));(case aB => exact (by repeat (first|(with_reducible first|exact HB.out|apply below_alloc|apply pw_below_drewN|apply below_drew1)|exact HB.out)));(case aF => exact (fun k_ hk => ⟨(.inr (Nat.le_trans (by first|exact HK.out.1|exact (show Kept w _ (fun k_ => P0_ k_) from by repeat (first|(with_reducible first|exact HK.out|apply Kept.alloc|apply Kept.drewN|apply Kept.drew)|exact HK.out)).1) hk)),Kd.fresh' (Kd.R_lt (by (with_reducible repeat (first|apply Kd.R_alloc|apply Kd.R_drewN|apply Kd.R_drew));exact HO216.out)) k_ hk⟩));(case aO => exact (by (with_reducible repeat (first|apply Kd.R_alloc|apply Kd.R_drewN|apply Kd.R_drew));exact HO_0.out));(case aS => exact (below_size (by repeat (first|(with_reducible first|exact HB.out|apply below_alloc|apply pw_below_drewN|apply below_drew1)|exact HB.out))));(case aL => have:=LMc30.out;omega);intro v218 w33 ho hb hg hat;rw [← Ny217.out] at ho;have n0_:=Aside0.mk (Kd.R_after (ok:=(fun k_ => (P0_ k_ ∨ w.heap.size≤k_))) (by (with_reducible repeat (first|apply Kd.R_alloc|apply Kd.R_drewN|apply Kd.R_drew));exact Kd.R_mono HO216.out (fun _ hk => ⟨hk.1.1,hk.2⟩)) hg hat);have n1_:=Aside0.mk (hb);have n2_:=Aside0.mk (Kept.of_grown (S:=(fun k_ => P0_ k_)) hg (by repeat (first|(with_reducible first|exact HK.out|apply Kept.alloc|apply Kept.drewN|apply Kept.drew)|exact HK.out)) (fun k_ e_ => (HO_0.out.1 k_ e_).1));have n3_:=Aside0.mk (ho);clear HO216;clear HB;clear HK;clear HO_0;have HO216:=n0_;have HB:=n1_;have HK:=n2_;have HO219:=n3_;clear n0_ n1_ n2_ n3_;clear ho hb hg hat))
       go_ret
       exact ⟨_,by first|rfl|(simp [errW_none,errW_some] <;> rfl)|(simp [*,errW_none,errW_some] <;> rfl),by (with_reducible repeat (first|apply Kd.R_alloc|apply Kd.R_drewN|apply Kd.R_drew));exact Kd.R_mono HO219.out (fun _ hk => hk.1),by repeat (first|(with_reducible first|exact HB.out|apply below_alloc|apply pw_below_drewN|apply below_drew1)|exact HB.out),by repeat (first|(with_reducible first|exact HK.out|apply Kept.alloc|apply Kept.drewN|apply Kept.drew)|exact HK.out)⟩
      ·rw [if_neg c30] at H
       exact absurd H (by simp)
def utf8_AppendRune.f (k:Nat) (l0:List Int) (a1:Int):Option (List Int):=if ((a1) % 4294967296)≤127 then (if l0.length < 140737488355328 then (some (l0++[(a1) % 256])) else (none)) else ((utf8_appendRuneNonASCII.f k l0 a1).bind fun t223 => (some t223))
theorem utf8_AppendRune.mono:∀ a0 a1 k,LeO (utf8_AppendRune.f k a0 a1) (utf8_AppendRune.f (k + 1) a0 a1):=by
 intro a0 a1 k
 unfold utf8_AppendRune.f
 repeat' first
   | (with_reducible exact utf8_appendRuneNonASCII.mono _ _ _)
   | (with_reducible exact LeO.refl _)
   | (with_reducible exact LeO.none _)
   | (with_reducible refine LeO.ite ?_ ?_)
   | (with_reducible refine LeO.bind ?_ (fun _ => ?_))
   | exact utf8_appendRuneNonASCII.mono _ _ _
   | exact LeO.none _
   | refine LeO.ite ?_ ?_
   | refine LeO.bind ?_ (fun _ => ?_)
set_option maxHeartbeats 80000000 in
set_option maxRecDepth 100000 in
theorem utf8_AppendRune.calls (k:Nat) (P0_:Nat→Prop) (u9000_:Value) (l0:List Int) (a1:Int) (r:List Int) (w0 w:World) (hB:Below w0.heap.size w0 w) (ho0:Kd.R (Kd.int .u8) 5 w w0.heap.size P0_ u9000_ l0) (h:utf8_AppendRune.f k l0 a1=some r) :
  Calls Tryd.prog 100 #[u9000_,.int .i32 a1] w fun e w' => ∃ v0_:Value,e=.returned (v0_)∧Kd.R (Kd.int .u8) 5 w' w0.heap.size (fun k_ => (P0_ k_ ∨ w.heap.size≤k_)) v0_ r∧Below w0.heap.size w0 w'∧Kept w w' (fun k_ => P0_ k_):=by
 have HO0:=Aside0.mk (show Kd.R (Kd.int .u8) 5 w w0.heap.size (fun k_ => (P0_ k_ ∨ w.heap.size≤k_)) u9000_ l0 from Kd.R_mono ho0 (fun k_ hk => (.inl hk)))
 have HK:=Aside0.mk (Kept.refl w (fun k_ => P0_ k_))
 have HW0:=Aside0.mk hB.size
 have HB:=Aside0.mk hB
 clear hB
 have H:(if ((a1) % 4294967296)≤127 then (if l0.length < 140737488355328 then (some (l0++[(a1) % 256])) else (none)) else ((utf8_appendRuneNonASCII.f k l0 a1).bind fun t223 => (some t223)))=some r:=h
 clear h
 by_cases c3:((a1) % 4294967296)≤127
 ·rw [if_pos c3] at H
  have c3b0:decide (((a1) % 4294967296)≤127)=true:=decide_eq_true c3
  clear c3
  by_cases c4:l0.length < 140737488355328
  ·rw [if_pos c4] at H
   have LMc4:=Aside0.mk c4
   clear c4
   obtain ⟨y220,hy220⟩:∃ y_:List Int,y_=(l0++[(a1) % 256]):=⟨_,rfl⟩
   replace H:(some y220)=some r:=by first|(rw [hy220];with_reducible exact H)|(have H2_:=(Option.bind_some _ _).symm.trans H;rw [hy220];with_reducible exact H2_)|(have H2_:=(Option.bind_some _ _).symm.trans H;with_reducible exact H2_)|with_reducible exact H|(rw [hy220];exact H)|exact H
   have Ny220:=Aside0.mk hy220
   clear hy220
   obtain rfl:=Option.some.inj H
   go_enter Tryd.func100,Tryd.ntmps100
   go_wp2_with (first|((with_reducible refine gate_builtin (b:=.append) (xs:=#[.tmp 8,.tmp 11]) rfl ?_);at_builtin;refine Kd.R_append (Kd.int .u8) (w0:=w0) w0.heap.size rfl (.tmp 8) (.tmp 11) 27 5 (.int .u8 0) 1 rfl Tryd.underlying27 info5 rfl (by decide) (by omega) u9000_ l0 ((a1) % 256) [.int .u8 ((a1) % 256)] (fun k_ => (P0_ k_ ∨ w.heap.size≤k_)) (fun _ => False) rfl rfl ?aP (fun _ hk => hk.elim) ?aF ?aO ?aB ?aS ?aL ?_;(case aP => exact rfl);(case aB => exact (by repeat (first|(with_reducible first|exact HB.out|apply below_alloc|apply pw_below_drewN|apply below_drew1)|exact HB.out)));(case aF => exact (fun k_ hk => (.inr (Nat.le_trans (by first|exact HK.out.1|exact (show Kept w _ (fun k_ => P0_ k_) from by repeat (first|(with_reducible first|exact HK.out|apply Kept.alloc|apply Kept.drewN|apply Kept.drew)|exact HK.out)).1) hk))));(case aO => exact (by (with_reducible repeat (first|apply Kd.R_alloc|apply Kd.R_drewN|apply Kd.R_drew));exact HO0.out));(case aS => exact (below_size (by repeat (first|(with_reducible first|exact HB.out|apply below_alloc|apply pw_below_drewN|apply below_drew1)|exact HB.out))));(case aL => have:=LMc4.out;omega);intro v221 w5 ho hb hg hat;rw [← Ny220.out] at ho;have n0_:=Aside0.mk (hb);have n1_:=Aside0.mk (Kept.of_grown (S:=(fun k_ => P0_ k_)) hg (by repeat (first|(with_reducible first|exact HK.out|apply Kept.alloc|apply Kept.drewN|apply Kept.drew)|exact HK.out)) (fun k_ e_ => (HO0.out.1 k_ e_)));have n2_:=Aside0.mk (ho);clear HB;clear HK;clear HO0;have HB:=n0_;have HK:=n1_;have HO222:=n2_;clear n0_ n1_ n2_;clear ho hb hg hat))
   go_ret
   exact ⟨_,by first|rfl|(simp [errW_none,errW_some] <;> rfl)|(simp [*,errW_none,errW_some] <;> rfl),by (with_reducible repeat (first|apply Kd.R_alloc|apply Kd.R_drewN|apply Kd.R_drew));exact HO222.out,by repeat (first|(with_reducible first|exact HB.out|apply below_alloc|apply pw_below_drewN|apply below_drew1)|exact HB.out),by repeat (first|(with_reducible first|exact HK.out|apply Kept.alloc|apply Kept.drewN|apply Kept.drew)|exact HK.out)⟩
  ·rw [if_neg c4] at H
   exact absurd H (by simp)
 ·rw [if_neg c3] at H
  have c3b0:decide (((a1) % 4294967296)≤127)=false:=decide_eq_false c3
  clear c3
  replace H:=Option.bind_eq_some_iff.mp H
  obtain ⟨t223,A60,H⟩:=H
  replace H:(some t223)=some r:=H
  have A6:=Aside0.mk A60
  clear A60
  obtain rfl:=Option.some.inj H
  obtain ⟨Ao7,co7,eo7⟩:=Kd.R_slice HO0.out
  subst eo7
  go_enter Tryd.func100,Tryd.ntmps100
  go_wp2_with (first|((with_reducible refine gate_callee (f:=102) rfl ?_);refine goesL_ (some 15) rfl rfl Tryd.func102 (by kernel_rfl) rfl #[.slice Ao7 l0.length co7,.int .i32 a1] rfl (by (try simp only [List.map_toArray,List.map_cons,List.map_nil]);first|done|rfl|(simp only [List.length_drop,List.length_take];rfl)) ?_;(with_reducible refine (utf8_appendRuneNonASCII.calls k (fun k_ => some k_=(.slice Ao7 l0.length co7:Value).ownBlock) (.slice Ao7 l0.length co7) l0 a1 t223 w0 _ ?side1 ?side2 A6.out).mono ?_);(case side1 => repeat (first|(with_reducible first|exact HB.out|apply below_alloc|apply pw_below_drewN|apply below_drew1)|exact HB.out));(case side2 => exact Kd.R_tight rfl HO0.out);rintro e w8 ⟨v224,rfl,ho0,hb,hkp⟩;refine ⟨_,rfl,?_⟩;have n0_:=Aside0.mk (Kd.R_mono (ok':=fun k_ => (P0_ k_ ∨ w.heap.size≤k_)) ho0 (fun k_ hk_ => Or.elim hk_ (fun hs_ => (HO0.out.1 k_ (hs_).symm)) (fun hn_ => (.inr (Nat.le_trans (by first|exact HK.out.1|exact (show Kept w _ (fun k_ => P0_ k_) from by repeat (first|(with_reducible first|exact HK.out|apply Kept.alloc|apply Kept.drewN|apply Kept.drew)|exact HK.out)).1) hn_)))));have n1_:=Aside0.mk (Kept.then_ (S:=(fun k_ => P0_ k_)) (by repeat (first|(with_reducible first|exact HK.out|apply Kept.alloc|apply Kept.drewN|apply Kept.drew)|exact HK.out)) hkp (fun k_ hs_ => (fun e_ => (HO0.out.1 k_ e_.symm)) hs_));have n2_:=Aside0.mk (hb);clear HK;clear HB;clear HO0;have HO225:=n0_;have HK:=n1_;have HB:=n2_;clear n0_ n1_ n2_;(try clear hb);(try clear hkp);(try clear ho0)))
  go_ret
  exact ⟨_,by first|rfl|(simp [errW_none,errW_some] <;> rfl)|(simp [*,errW_none,errW_some] <;> rfl),by (with_reducible repeat (first|apply Kd.R_alloc|apply Kd.R_drewN|apply Kd.R_drew));exact HO225.out,by repeat (first|(with_reducible first|exact HB.out|apply below_alloc|apply pw_below_drewN|apply below_drew1)|exact HB.out),by repeat (first|(with_reducible first|exact HK.out|apply Kept.alloc|apply Kept.drewN|apply Kept.drew)|exact HK.out)⟩
end Go.Proofs.YtbgniepcoaiinaaDoor.Px
namespace Go.Proofs.YtbgniepcoaiinaaDoor.Px
open Go.RowKit Go.Proofs.YtbgniepcoaiinaaDoorW.PrintWords Go.Proofs.YtbgniepcoaiinaaDoorW.PrintLast Go.Proofs.YtbgniepcoaiinaaDoorW.PrintMore
attribute [local go_sem] max2_int min2_int max_two min_two max_three min_three max_four min_four
set_option linter.unusedVariables false
set_option linter.unusedSimpArgs false
def wire_gather_int64.l0:Nat→Int→List Int→Int→Int→Option (Int)
 | 0,_,_,_,_ => none
 | k + 1,x1,x7,x8,x9 => if x9 < x8 then (if 0≤x9 then (if x9 < (x7.length:Int) then (wire_gather_int64.l0 k (Go.bits .or .i64 (wrap64 (x1 * 256)) (wrap64 (rd x7 x9))) x7 x8 (wrap64 (x9 + 1))) else (none)) else (none)) else (some x1)
def wire_gather_int64.f (k:Nat) (l0:List Int) (a1:Int):Option (Int):=wire_gather_int64.l0 k a1 l0 (l0.length:Int) 0
theorem wire_gather_int64.mono_l:∀ k,(∀ y0 y1 y2 y3,LeO (wire_gather_int64.l0 k y0 y1 y2 y3) (wire_gather_int64.l0 (k + 1) y0 y1 y2 y3))
 | 0 => fun _ _ _ _ r h => by simp [wire_gather_int64.l0] at h
 | k + 1 => by
  have ih0:=wire_gather_int64.mono_l k
  ·intro y0 y1 y2 y3
   unfold wire_gather_int64.l0
   repeat' first
   | (with_reducible exact ih0 _ _ _ _)
   | (with_reducible exact LeO.refl _)
   | (with_reducible exact LeO.none _)
   | (with_reducible refine LeO.ite ?_ ?_)
   | (with_reducible refine LeO.bind ?_ (fun _ => ?_))
   | exact ih0 _ _ _ _
   | exact LeO.none _
   | refine LeO.ite ?_ ?_
   | refine LeO.bind ?_ (fun _ => ?_)
theorem wire_gather_int64.mono:∀ a0 a1 k,LeO (wire_gather_int64.f k a0 a1) (wire_gather_int64.f (k + 1) a0 a1):=by
 intro a0 a1 k
 have ih0:=wire_gather_int64.mono_l k
 unfold wire_gather_int64.f
 repeat' first
   | (with_reducible exact ih0 _ _ _ _)
   | (with_reducible exact LeO.refl _)
   | (with_reducible exact LeO.none _)
   | (with_reducible refine LeO.ite ?_ ?_)
   | (with_reducible refine LeO.bind ?_ (fun _ => ?_))
   | exact ih0 _ _ _ _
   | exact LeO.none _
   | refine LeO.ite ?_ ?_
   | refine LeO.bind ?_ (fun _ => ?_)
set_option maxHeartbeats 80000000 in
set_option maxRecDepth 100000 in
theorem wire_gather_int64.calls (k:Nat) (A0:Option Addr) (c0:Nat) (l0:List Int) (a1:Int) (r:Int) (w:World) (hr0:Kd.C (Kd.int .u8) w A0 l0.length l0) (hc0:l0.length≤c0) (h:wire_gather_int64.f k l0 a1=some r) :
  Calls Tryd.prog 98 #[.slice A0 l0.length c0,.int .i64 a1] w fun e w' => e=.returned (.int .i64 r)∧Drawn0 w w':=by
 have HR0:=Aside0.mk hr0
 have HC0:=Aside0.mk hc0
 clear hr0 hc0
 have H:(wire_gather_int64.l0 k a1 l0 (l0.length:Int) 0)=some r:=h
 clear h
 have H':=Aside0.mk H
 clear H
 go_enter Tryd.func98,Tryd.ntmps98
 go_wp2
 go_loopg [1,9] k (fun kq v1 v9 w' => ∃ (x1_1:Int) (x9_1:Int),v1=.int .i64 x1_1∧v9=.int .i64 x9_1∧Aside0 (wire_gather_int64.l0 kq x1_1 l0 (l0.length:Int) x9_1=some r)∧Aside0 (kq≤k)∧Drawn0 w w')
 case atStart => exact ⟨(a1),(0),(by first|rfl|(simp;done)|(simp [*];done)),(by first|rfl|(simp;done)|(simp [*];done)),H',⟨Nat.le_refl _⟩,by repeat (first|exact Drawn0.refl _|apply Drawn0.step)⟩
 case round =>
  clear H'
  try clear p2
  obtain ⟨x1_1,x9_1,rfl,rfl,HA,HK1,⟨m1,rfl⟩⟩:=hrel
  cases gk with
  | zero => exact absurd HA.out (by simp [wire_gather_int64.l0])
  | succ k1 =>
   have H:=HA.out
   clear HA
   simp only [wire_gather_int64.l0] at H
   by_cases c3:x9_1 < (l0.length:Int)
   ·rw [if_pos c3] at H
    have c3b0:decide (x9_1 < (l0.length:Int))=true:=decide_eq_true c3
    clear c3
    by_cases c4:0≤x9_1
    ·rw [if_pos c4] at H
     have c4b0:decide (0≤x9_1)=true:=decide_eq_true c4
     clear c4
     by_cases c5:x9_1 < (l0.length:Int)
     ·rw [if_pos c5] at H
      have c5b0:decide (x9_1 < (l0.length:Int))=true:=decide_eq_true c5
      clear c5
      have H':=Aside0.mk H
      clear H
      have p226:0≤(x9_1:Int):=of_decide_eq_true (by first|(with_reducible assumption)|assumption)
      have q226:x9_1 < (l0.length:Int):=of_decide_eq_true (by first|(with_reducible assumption)|assumption)
      obtain ⟨ad226,e226,hx226_0⟩:=Kd.at_int HR0.out x9_1 p226 q226
      cases e226
      replace p226:=eq_true p226
      replace q226:=eq_true q226
      go_wp2
      go_roundg k1
      case measure => have:=HK1.out;omega
      case rel => exact ⟨(Go.bits .or .i64 (wrap64 (x1_1 * 256)) (wrap64 (rd l0 x9_1))),(wrap64 (x9_1 + 1)),(by first|rfl|(simp;done)|(simp [*];done)),(by first|rfl|(simp;done)|(simp [*];done)),H',⟨by have:=HK1.out;omega⟩,by repeat (first|exact Drawn0.refl _|apply Drawn0.step)⟩
     ·rw [if_neg c5] at H
      exact absurd H (by simp)
    ·rw [if_neg c4] at H
     exact absurd H (by simp)
   ·rw [if_neg c3] at H
    have c3b0:decide (x9_1 < (l0.length:Int))=false:=decide_eq_false c3
    clear c3
    obtain rfl:=Option.some.inj H
    go_wp2
    go_ret
    exact ⟨by first|rfl|(simp;done)|(simp [*];done),by repeat (first|exact Drawn0.refl _|apply Drawn0.step)⟩
end Go.Proofs.YtbgniepcoaiinaaDoor.Px
namespace Go.Proofs.YtbgniepcoaiinaaDoor.Px
open Go.RowKit Go.Proofs.YtbgniepcoaiinaaDoorW.PrintWords Go.Proofs.YtbgniepcoaiinaaDoorW.PrintLast Go.Proofs.YtbgniepcoaiinaaDoorW.PrintMore
set_option linter.unusedVariables false
set_option linter.unusedSimpArgs false
structure IsRd (B:Nat) (w:World) (g:Nat) (bs:List Int) (p:Nat):Prop where
 ge:B≤g
 blk:∃ v,w.heap[g]?=some (.cells #[v,.int .i64 (p:Int),.bool true] 108 (0,0))∧Kd.R (Kd.int .u8) 5 w B (fun _ => True) v bs
 hi:p≤bs.length
structure RdStep (B:Nat) (w w':World) (g:Nat):Prop where
 below:Below B w w'
 keep:KeepBut w w' g none
def rdL (bs:List Int) (p n:Nat):List Int:=if p + n≤bs.length then (bs.take (p + n)).drop p else []
def rdE (bs:List Int) (p n:Nat):Int:=if p + n≤bs.length then 0 else 3
def rdP (bs:List Int) (p n:Nat):Nat:=if p + n≤bs.length then p + n else p
theorem rdP_le {bs:List Int} {p n:Nat} (h:p≤bs.length):rdP bs p n≤bs.length:=by unfold rdP;split <;> omega
theorem IsRd.lt {B:Nat} {w:World} {g:Nat} {bs:List Int} {p:Nat} (h:IsRd B w g bs p):g < w.heap.size:=by obtain ⟨v,hb,_⟩:=h.blk;exact blk_lt hb
theorem IsRd.base_le {B:Nat} {w:World} {g:Nat} {bs:List Int} {p:Nat} (h:IsRd B w g bs p):B≤w.heap.size:=Nat.le_trans h.ge (Nat.le_of_lt h.lt)
theorem IsRd.below {B:Nat} {w w1:World} {g:Nat} {bs:List Int} {p:Nat} (h:IsRd B w g bs p) (hb:Below w.heap.size w w1):IsRd B w1 g bs p:=by
 obtain ⟨v,hk,hr⟩:=h.blk
 exact ⟨h.ge,⟨v,(hb.block g h.lt).trans hk,Kd.R_below hr hb⟩,h.hi⟩
theorem IsRd.drewN {B:Nat} {w:World} {g:Nat} {bs:List Int} {p:Nat} (h:IsRd B w g bs p) (n:Nat):IsRd B (w.drewN n) g bs p:=h.below (pw_below_drewN (Below.refl _ _) n)
theorem IsRd.far {B:Nat} {w:World} {g k t:Nat} {bs:List Int} {p:Nat} {cs:Array Value} (h:IsRd B w g bs p) (hb:w.heap[k]?=some (.cells cs t (0,0))) (ht:t ≠ 108) (ht2:5 ≠ t) (j:Nat) (u:Value):IsRd B (w.setCell ⟨k,j,none⟩ u) g bs p:=by
 obtain ⟨v,hk,hr⟩:=h.blk
 exact ⟨h.ge,⟨v,blk_far hk (blk_ne hk hb (fun e => ht e.symm)) u,Kd.R_set hr hb (by intro q hq;rcases List.mem_cons.1 hq with rfl|hq;exact ht2;cases hq) j u⟩,h.hi⟩
theorem RdStep.refl (B:Nat) (w:World) (g:Nat):RdStep B w w g:=⟨Below.refl _ _,KeepBut.refl _ _ _⟩
theorem RdStep.drewN (B:Nat) (w:World) (g n:Nat):RdStep B w (w.drewN n) g:=⟨pw_below_drewN (Below.refl _ _) n,⟨Nat.le_refl _,fun _ _ _ _ => rfl⟩⟩
theorem RdStep.trans {B:Nat} {w w1 w2:World} {g:Nat} (h:RdStep B w w1 g) (k:RdStep B w1 w2 g):RdStep B w w2 g:=⟨h.below.trans k.below,h.keep.trans k.keep (.inl rfl)⟩
theorem RdStep.blk {B:Nat} {w w1:World} {g k:Nat} {o:Obj} (h:RdStep B w w1 g) (hk:k ≠ g) (hb:w.heap[k]?=some o):w1.heap[k]?=some o:=(h.keep.2 k (blk_lt hb) hk (by simp)).trans hb
theorem RdStep.R {α:Type} {d:Kd α} {e:Nat} {B base:Nat} {w w1:World} {g:Nat} {u:Value} {ok:Nat→Prop} {xs:List α} (h:RdStep B w w1 g) (hr:d.R e w base ok u xs) (hg:g < base):d.R e w1 base ok u xs :=
 Kd.R_mono (Kd.R_step (Kd.R_bound hr) (fun k hk hl => h.keep.2 k hl (by have:=hk.2.1;omega) (by simp))) (fun k hk => hk.1)
def RdPost (B:Nat) (w:World) (g:Nat) (bs:List Int) (p:Nat) (w':World):Prop:=IsRd B w' g bs p∧RdStep B w w' g
def NextPost (B:Nat) (w:World) (g:Nat) (bs:List Int) (p n:Nat) (e:Ending) (w':World):Prop :=
 ∃ A c,e=.returned (.tuple #[.slice A (rdL bs p n).length c,.int .i64 (rdE bs p n)])∧(rdL bs p n).length≤c∧(Kd.int .u8).C w' A (rdL bs p n).length (rdL bs p n)∧RdPost B w g bs (rdP bs p n) w'
theorem rd_none (g:Nat) (w:World) (h:w.cell? ⟨g,2,none⟩=some (.bool true)):Calls Tryd.prog 81 #[.pointer (some ⟨g,0,none⟩)] w fun e w' => e=.returned (.bool false)∧w=w':=by
 go_enter Tryd.func81,Tryd.ntmps81
 go_wp2
 go_ret
 exact ⟨rfl,rfl⟩
theorem rd_moved {B:Nat} {w w1:World} {g:Nat} {bs:List Int} {p n m:Nat} (hw:w1=(w.drewN m).setCell ⟨g,1,none⟩ (.int .i64 ((p:Int) + (n:Int)))) (h:IsRd B w g bs p) (hi:p + n≤bs.length):IsRd B w1 g bs (p + n):=by
 obtain ⟨v,hb,hr⟩:=h.blk
 rw [hw]
 exact ⟨h.ge,⟨v,blk_set (w:=w.drewN m) hb 1 _,Kd.R_set (w:=w.drewN m) (Kd.R_drewN hr m) hb (by decide) 1 _⟩,hi⟩
theorem rd_movedS {B:Nat} {w w1:World} {g:Nat} {bs:List Int} {p m:Nat} {u:Value} (hw:w1=(w.drewN m).setCell ⟨g,1,none⟩ u) (h:IsRd B w g bs p):RdStep B w w1 g:=by
 rw [hw]
 exact ⟨(pw_below_drewN (Below.refl B w) m).setCell (p:=⟨g,1,none⟩) h.ge u,(show KeepBut w (w.drewN m) g none from ⟨Nat.le_refl _,fun _ _ _ _ => rfl⟩).set_ 1 u⟩
theorem rd_movedC {w w1:World} {g m B n c:Nat} {A:Option Addr} {u:Value} {cs:Array Value} {bs:List Int} (hw:w1=(w.drewN m).setCell ⟨g,1,none⟩ u) (hb:w.heap[g]?=some (.cells cs 108 (0,0))) (hr:Kd.R (Kd.int .u8) 5 w B (fun _ => True) (.slice A n c) bs):(Kd.int .u8).C w1 A bs.length bs:=by
 rw [hw]
 exact row_C (Kd.R_set (w:=w.drewN m) (Kd.R_drewN hr m) hb (by decide) 1 u)
theorem C_nil (w:World):(Kd.int .u8).C w none ([]:List Int).length []:=Kd.C_of_reads (d:=(0:Int)) ⟨rfl,by simp,fun h => absurd h (by simp)⟩
set_option maxHeartbeats 4000000 in
set_option maxRecDepth 100000 in
theorem rd_next.calls (B g:Nat) (bs:List Int) (p n:Nat) (lo hi:Int) (w:World) (hI:IsRd B w g bs p) (h1:lo≤n) (h2:n≤hi) (hl:bs.length≤140737488355328) (hn:n≤4611686018427387904) :
  Calls Tryd.prog 82 #[.pointer (some ⟨g,0,none⟩),.int .i64 n,.int .i64 lo,.int .i64 hi] w fun e w' => NextPost B w g bs p n e w':=by
 obtain ⟨v,hb,hr⟩:=hI.blk
 obtain ⟨A0,c0,rfl,hc0,hC⟩:=Kd.R_reads hr
 have c0':w.cell? ⟨g,0,none⟩=some (.slice A0 bs.length c0):=(blk_cell hb 0).trans rfl
 have c1':w.cell? ⟨g,1,none⟩=some (.int .i64 (p:Int)):=(blk_cell hb 1).trans rfl
 have c2':w.cell? ⟨g,2,none⟩=some (.bool true):=(blk_cell hb 2).trans rfl
 have f1':w.frozen? ⟨g,1,none⟩=false:=blk_frozen hb 1
 have t1:decide ((n:Int) < lo)=false:=decide_eq_false (by omega)
 have t2:decide (hi < (n:Int))=false:=decide_eq_false (by omega)
 have hp:=hI.hi
 have HI:=Aside0.mk hI
 have HBK:=Aside0.mk hb
 have HR:=Aside0.mk hr
 have HC:=Aside0.mk hC
 have HC0:=Aside0.mk hc0
 clear hI hb hr hC hc0
 by_cases hs:p + n≤bs.length
 ·have t3:decide ((bs.length:Int) - (p:Int) < (n:Int))=false:=decide_eq_false (by omega)
  have hw1:wrap64 ((p:Int) + (n:Int))=(p:Int) + (n:Int):=by unfold wrap64;omega
  have hw2:wrap64 ((p:Int) + (n:Int) - (n:Int))=(p:Int):=by unfold wrap64;omega
  have hw3:wrap64 ((bs.length:Int) - (p:Int))=(bs.length:Int) - (p:Int):=by unfold wrap64;omega
  obtain ⟨i0,hi0,_,hsz,_⟩:=info_parts info5
  obtain ⟨A',hsl,hrd,hcc⟩:=print_mid_of (P:=Tryd.prog) (Value.int .u8) (0:Int) 27 5 .i64 .i64 Tryd.underlying27 hi0 hsz A0 c0 bs (p:Int) ((p:Int) + (n:Int)) (by omega) (by omega) (by omega) HC0.out
  have HS:=Aside0.mk hs
  clear hs
  go_enter Tryd.func82,Tryd.ntmps82
  go_wp2_with (go_at_call 81;refine (rd_none g _ c2').mono ?_;rintro e w' ⟨rfl,rfl⟩)
  go_quiet (fail)
  go_wp2
  obtain ⟨w1,hw1⟩:∃ w1,w1=(w.drewN nq).setCell ⟨g,1,none⟩ (.int .i64 ((p:Int) + (n:Int))):=⟨_,rfl⟩
  rw [← hw1]
  have HI1:=Aside0.mk (rd_moved hw1 HI.out HS.out)
  have HST:=Aside0.mk (rd_movedS hw1 HI.out)
  have HC1:=Aside0.mk (show (Kd.int .u8).C w1 A0 bs.length bs from rd_movedC hw1 HBK.out HR.out)
  have k0:w1.cell? ⟨g,0,none⟩=some (.slice A0 bs.length c0):=by rw [hw1];exact (blk_cell (blk_set (w:=w.drewN nq) HBK.out 1 _) 0).trans rfl
  have k1:w1.cell? ⟨g,1,none⟩=some (.int .i64 ((p:Int) + (n:Int))):=by rw [hw1];exact (blk_cell (blk_set (w:=w.drewN nq) HBK.out 1 _) 1).trans rfl
  have HRD:=Aside0.mk hrd
  have HCC:=Aside0.mk hcc
  have hlen:((bs.take ((p:Int) + (n:Int)).toNat).drop (p:Int).toNat)=rdL bs p n:=by unfold rdL;rw [if_pos HS.out,show ((p:Int) + (n:Int)).toNat=p + n by omega,Int.toNat_natCast]
  rw [hlen] at hsl
  have HLN:=Aside0.mk hlen
  clear hw1 c0' c1' c2' f1' hrd hcc hlen
  go_quiet (fail)
  go_wp2
  go_ret2
  have e2:rdE bs p n=0:=if_pos HS.out
  have e3:rdP bs p n=p + n:=if_pos HS.out
  have h1:=HCC.out
  have h2:=HRD.out w1 (Kd.reads_of_C (d:=(0:Int)) HC1.out)
  rw [HLN.out] at h1 h2
  unfold NextPost RdPost
  rw [e2,e3]
  exact ⟨A',_,rfl,h1,Kd.C_below (Kd.C_of_reads h2) (pw_below_drewN (Below.refl _ _) _),HI1.out.drewN _,HST.out.trans (RdStep.drewN _ _ _ _)⟩
 ·have t3:decide ((bs.length:Int) - (p:Int) < (n:Int))=true:=decide_eq_true (by omega)
  have hw3:wrap64 ((bs.length:Int) - (p:Int))=(bs.length:Int) - (p:Int):=by unfold wrap64;omega
  have e1:rdL bs p n=[]:=if_neg hs
  have e2:rdE bs p n=3:=if_neg hs
  have e3:rdP bs p n=p:=if_neg hs
  have HE:=Aside0.mk e1
  have HE2:=Aside0.mk e2
  have HE3:=Aside0.mk e3
  clear hs e1 e2 e3
  go_enter Tryd.func82,Tryd.ntmps82
  go_wp2_with (go_at_call 81;refine (rd_none g _ c2').mono ?_;rintro e w' ⟨rfl,rfl⟩)
  go_quiet (fail)
  go_wp2
  go_ret2
  unfold NextPost RdPost
  rw [HE.out,HE2.out,HE3.out]
  exact ⟨none,0,rfl,Nat.le_refl _,C_nil _,HI.out.drewN _,RdStep.drewN _ _ _ _⟩
theorem RdPost.drewN {B:Nat} {w:World} {g:Nat} {bs:List Int} {p:Nat} {w1:World} (h:RdPost B w g bs p w1) (n:Nat):RdPost B w g bs p (w1.drewN n):=⟨h.1.drewN n,h.2.trans (RdStep.drewN _ _ _ _)⟩
def rd_Uint.f (k:Nat) (bs:List Int) (p n:Nat):Option (Int × Int × Nat):=(wire_gather_uint64.f k (rdL bs p n) 0).bind fun x => some (x,rdE bs p n,rdP bs p n)
theorem rd_Uint.mono (bs:List Int) (p n k:Nat):LeO (rd_Uint.f k bs p n) (rd_Uint.f (k + 1) bs p n):=LeO.bind (wire_gather_uint64.mono _ _ _) (fun _ => LeO.refl _)
set_option maxHeartbeats 4000000 in
set_option maxRecDepth 100000 in
theorem rd_Uint.calls (k B g:Nat) (bs:List Int) (p n:Nat) (r1 r2:Int) (r3:Nat) (w:World) (hI:IsRd B w g bs p) (h1:1≤n) (h8:n≤8) (hl:bs.length≤140737488355328) (h:rd_Uint.f k bs p n=some (r1,r2,r3)) :
  Calls Tryd.prog 79 #[.pointer (some ⟨g,0,none⟩),.int .i64 n] w fun e w' => e=.returned (.tuple #[.int .u64 r1,.int .i64 r2])∧RdPost B w g bs r3 w':=by
 obtain ⟨x,hx,h⟩:=Option.bind_eq_some_iff.mp h
 simp only [Option.some.injEq,Prod.mk.injEq] at h
 obtain ⟨rfl,rfl,rfl⟩:=h
 have HN:=Aside0.mk (rd_next.calls B g bs p n 1 8 w hI (by omega) (by omega) hl (by omega))
 have HX:=Aside0.mk hx
 clear hI h1 h8 hl hx
 go_enter Tryd.func79,Tryd.ntmps79
 go_wp2_with fail
 with_reducible refine HN.out.mono ?_
 rintro e w1 ⟨A,c,rfl,hc,hC,hP⟩
 have HC:=Aside0.mk hC
 have HCc:=Aside0.mk hc
 have HP:=Aside0.mk hP
 clear hC hc hP HN
 go_wp2_with fail
 refine (wire_gather_uint64.calls k A c (rdL bs p n) 0 x w1 HC.out HCc.out HX.out).mono ?_
 rintro e w2 ⟨rfl,⟨⟨nd,rfl⟩⟩⟩
 go_wp2
 go_ret2
 exact ⟨rfl,HP.out.drewN _⟩
set_option maxHeartbeats 4000000 in
set_option maxRecDepth 100000 in
theorem rd_Bytes.calls (B g:Nat) (bs:List Int) (p n:Nat) (w:World) (hI:IsRd B w g bs p) (hl:bs.length≤140737488355328) (hn:n≤4611686018427387904) :
  Calls Tryd.prog 57 #[.pointer (some ⟨g,0,none⟩),.int .i64 n] w fun e w' => ∃ v0_:Value,e=.returned (.tuple #[v0_,.int .i64 (rdE bs p n)])∧Kd.R (Kd.int .u8) 5 w' w.heap.size (fun _ => True) v0_ (rdL bs p n)∧RdPost B w g bs (rdP bs p n) w':=by
 have hll:(rdL bs p n).length≤140737488355328:=by
  unfold rdL
  split
  ·rw [List.length_drop,List.length_take];omega
  ·simp
 have HLL:=Aside0.mk hll
 have HN:=Aside0.mk (rd_next.calls B g bs p n 0 4611686018427387904 w hI (by omega) (by omega) hl hn)
 have HBw:=Aside0.mk hI.base_le
 clear hI hl hn hll
 go_enter Tryd.func57,Tryd.ntmps57
 go_wp2_with fail
 with_reducible refine HN.out.mono ?_
 rintro e w1 ⟨A,c,rfl,hc,hC,hP⟩
 have HC:=Aside0.mk hC
 have HP:=Aside0.mk hP
 clear hC hc hP HN
 go_wp2_with (at_builtin;refine Kd.R_append_row (Value.int .u8) (0:Int) (w0:=w1) w1.heap.size rfl _ _ 27 5 (.int .u8 0) 1 rfl Tryd.underlying27 info5 rfl (by decide) (.slice none 0 0) [] (rdL bs p n) A _ c (fun _ => True) rfl rfl (fun _ _ => trivial) (Kd.R_nil _ _ _ _ _) HC.out (Below.refl _ _) (Nat.le_refl _) ?c6 ?_)
 case c6 => have:=HLL.out;simp only [List.length_nil];omega
 intro v1 w3 hR3 hB3 hg3 ho3
 have HR3:=Aside0.mk hR3
 have HB3:=Aside0.mk hB3
 clear hR3 hB3 hg3 ho3
 go_wp2
 go_ret2
 exact ⟨_,rfl,Kd.R_lower HR3.out HP.out.2.keep.1,HP.out.1.below HB3.out,HP.out.2.trans ⟨HB3.out.mono (Nat.le_trans HBw.out HP.out.2.keep.1),KeepBut.of_below HB3.out _ _⟩⟩
set_option maxHeartbeats 4000000 in
set_option maxRecDepth 100000 in
theorem rd_At.calls (B g:Nat) (bs:List Int) (p:Nat) (w:World) (hI:IsRd B w g bs p) :
  Calls Tryd.prog 55 #[.pointer (some ⟨g,0,none⟩)] w fun e w' => e=.returned (.int .i64 (p:Int))∧w=w':=by
 obtain ⟨v,hb,hr⟩:=hI.blk
 have c1':w.cell? ⟨g,1,none⟩=some (.int .i64 (p:Int)):=(blk_cell hb 1).trans rfl
 have c2':w.cell? ⟨g,2,none⟩=some (.bool true):=(blk_cell hb 2).trans rfl
 clear hI hb hr
 go_enter Tryd.func55,Tryd.ntmps55
 go_wp2_with (go_at_call 81;refine (rd_none g _ c2').mono ?_;rintro e w' ⟨rfl,rfl⟩)
 go_ret
 exact ⟨rfl,rfl⟩
set_option maxHeartbeats 4000000 in
set_option maxRecDepth 100000 in
theorem rd_New.calls (A:Option Addr) (c:Nat) (bs:List Int) (w:World) (hC:(Kd.int .u8).C w A bs.length bs) (hl:bs.length≤140737488355328) :
  Calls Tryd.prog 35 #[.slice A bs.length c] w fun e w' => ∃ g,e=.returned (.pointer (some ⟨g,0,none⟩))∧w.heap.size≤g∧IsRd w.heap.size w' g bs 0∧Below w.heap.size w w':=by
 have HC:=Aside0.mk hC
 have HL:=Aside0.mk hl
 clear hC hl
 go_enter Tryd.func35,Tryd.ntmps35
 go_wp2_with (at_builtin;refine Kd.R_append_row (Value.int .u8) (0:Int) (w0:=w) w.heap.size rfl _ _ 27 5 (.int .u8 0) 1 rfl Tryd.underlying27 info5 rfl (by decide) (.slice none 0 0) [] bs A bs.length c (fun _ => True) rfl rfl (fun _ _ => trivial) (Kd.R_nil _ _ _ _ _) HC.out (Below.refl _ _) (Nat.le_refl _) ?c6 ?_)
 case c6 => have:=HL.out;simp only [List.length_nil];omega
 intro v1 w3 hR3 hB3 hg3 ho3
 obtain ⟨A1,c1,hv⟩:=Kd.R_slice hR3
 subst hv
 have HR3:=Aside0.mk hR3
 have HB3:=Aside0.mk hB3
 clear hR3 hB3 hg3 ho3
 go_wp2
 go_ret
 exact ⟨_,rfl,HB3.out.size,⟨HB3.out.size,⟨_,blk_new _ _,Kd.R_below HR3.out (below_alloc (Below.refl _ _) _)⟩,Nat.zero_le _⟩,below_alloc HB3.out _⟩
def sx8 (b:Int):Int:=wrap64 (IntKind.i8.wrap b)
theorem sx8_eq {b:Int} (h0:0≤b) (h1:b < 256):sx8 b=if b < 128 then b else b - 256:=by
 have e:IntKind.i8.wrap b=if b < 128 then b else b - 256:=by
  have hm:b % 256=b:=by omega
  by_cases h:b < 128
  ·simp [IntKind.wrap,IntKind.bits,IntKind.signed,hm,h] <;> omega
  ·simp [IntKind.wrap,IntKind.bits,IntKind.signed,hm,h] <;> omega
 unfold sx8
 rw [e]
 unfold wrap64
 split <;> omega
theorem gath_i64 (k:Nat) (A:Option Addr) (c:Nat) (l:List Int) (a r:Int) (w:World) (hC:(Kd.int .u8).C w A (l.drop 1).length (l.drop 1)) (hc:(l.drop 1).length≤c) (h:wire_gather_int64.f k (l.drop 1) a=some r) :
  Calls Tryd.prog 98 #[.slice A (l.length - 1) c,.int .i64 a] w fun e w' => e=.returned (.int .i64 r)∧Drawn0 w w':=by
 have h:=wire_gather_int64.calls k A c (l.drop 1) a r w hC hc h
 rw [List.length_drop] at h
 exact h
def rd_Int.f (k:Nat) (bs:List Int) (p n:Nat):Option (Int × Int × Nat) :=
 if p + n≤bs.length then (if 0≤rd (rdL bs p n) 0∧rd (rdL bs p n) 0 < 256 then (wire_gather_int64.f k ((rdL bs p n).drop 1) (sx8 (rd (rdL bs p n) 0))).bind fun x => some (x,0,p + n) else none) else some (0,3,p)
theorem rd_Int.mono (bs:List Int) (p n k:Nat):LeO (rd_Int.f k bs p n) (rd_Int.f (k + 1) bs p n):=LeO.ite (LeO.ite (LeO.bind (wire_gather_int64.mono _ _ _) (fun _ => LeO.refl _)) (LeO.refl _)) (LeO.refl _)
theorem rdL_len {bs:List Int} {p n:Nat} (h:p + n≤bs.length):(rdL bs p n).length=n:=by unfold rdL;rw [if_pos h,List.length_drop,List.length_take];omega
set_option maxHeartbeats 4000000 in
set_option maxRecDepth 100000 in
theorem rd_Int.calls (k B g:Nat) (bs:List Int) (p n:Nat) (r1 r2:Int) (r3:Nat) (w:World) (hI:IsRd B w g bs p) (h1:1≤n) (h8:n≤8) (hl:bs.length≤140737488355328) (h:rd_Int.f k bs p n=some (r1,r2,r3)) :
  Calls Tryd.prog 94 #[.pointer (some ⟨g,0,none⟩),.int .i64 n] w fun e w' => e=.returned (.tuple #[.int .i64 r1,.int .i64 r2])∧RdPost B w g bs r3 w':=by
 have HN:=Aside0.mk (rd_next.calls B g bs p n 1 8 w hI (by omega) (by omega) hl (by omega))
 unfold rd_Int.f at h
 by_cases hs:p + n≤bs.length
 ·rw [if_pos hs] at h
  by_cases hb:0≤rd (rdL bs p n) 0∧rd (rdL bs p n) 0 < 256
  ·rw [if_pos hb] at h
   obtain ⟨x,hx,h⟩:=Option.bind_eq_some_iff.mp h
   simp only [Option.some.injEq,Prod.mk.injEq] at h
   obtain ⟨rfl,rfl,rfl⟩:=h
   have e2:rdE bs p n=0:=if_pos hs
   have e3:rdP bs p n=p + n:=if_pos hs
   have hlen:=rdL_len hs
   have HE3:=Aside0.mk e3
   have HE2:=Aside0.mk e2
   have HX:=Aside0.mk hx
   have HL1:=Aside0.mk (show 1≤(rdL bs p n).length by omega)
   have hb0:=hb.1
   have hb1:=hb.2
   clear hI h8 hl hs e2 e3 hlen hx hb h1
   go_enter Tryd.func94,Tryd.ntmps94
   go_wp2_with fail
   with_reducible refine HN.out.mono ?_
   rintro e w1 ⟨A,c,rfl,hc,hC,hP⟩
   rw [HE3.out] at hP
   rw [HE2.out]
   clear HN HE2 HE3
   obtain ⟨l,hll⟩:∃ l,l=rdL bs p n:=⟨_,rfl⟩
   rw [← hll] at hc hC hb0 hb1 HX HL1 ⊢
   clear hll
   obtain ⟨i0,hi0,_,hsz,_⟩:=info_parts info5
   obtain ⟨ad,eA,h0⟩:=(readsInt_of.mpr (Kd.reads_of_C (d:=(0:Int)) hC)).at_ 0 (by omega) (by have:=HL1.out;omega)
   subst eA
   simp only [show ((0:Int)).toNat=0 from rfl,Addr.add_zero'] at h0
   have hs1:=cut_from (P:=Tryd.prog) 27 5 .i64 Tryd.underlying27 hi0 1 hsz (some ad) l.length c 1 (by decide) (by have:=HL1.out;omega)
   obtain ⟨A1,hA1⟩:∃ A1,A1=(if c=(1:Int).toNat then some ad else (some ad).map (·.add ((1:Int).toNat * 1))):=⟨_,rfl⟩
   rw [← hA1] at hs1
   have HC1:=Aside0.mk (show (Kd.int .u8).C w1 A1 (l.drop 1).length (l.drop 1) from by rw [hA1];exact Kd.C_drop (m:=1) (c:=c) hC HL1.out hc)
   have HC1c:Aside0 ((l.drop 1).length≤c - 1):=⟨by rw [List.length_drop];omega⟩
   have hdl:l.length - (1:Int).toNat=(l.drop 1).length:=by rw [List.length_drop];rfl
   rw [hdl] at hs1
   have HP:=Aside0.mk hP
   have hlt:decide ((0:Int) < (l.length:Int))=true:=decide_eq_true (by have:=HL1.out;omega)
   have hltn:decide (0 < l.length)=true:=decide_eq_true HL1.out
   have hltt:(0 < l.length)=True:=eq_true HL1.out
   clear hA1 hP hC hc hdl
   go_wp2
   refine start_ (n:=10) (S:=fun w' => w'.cell? ad=some (.int .u8 (rd l 0))) (ds:=[]) #[false,false,false,false,false,false,false,false,false,false] (by kernel_rfl) rfl rfl (h0) (fun hHeld => ?_)
   refine pure_ (i:=0) (N:=some 17) (v:=?_) (a':=?_) #[true,false,false,false,false,false,false,false,false,false] rfl rfl (by kernel_rfl) (fun _ _ _ h => h) (Or.inl ⟨by rfl,?_⟩) ?_ ?_
   rotate_left
   ·intro w'
    go_simp
    with_reducible rfl
   rotate_left
   ·simp only [Act.put,List.setIfInBounds_toArray,List.set_cons_zero,List.set_cons_succ,i64_w,i32_w]
    rfl
   refine pure_ (i:=1) (N:=some 18) (v:=?_) (a':=?_) #[true,true,false,false,false,false,false,false,false,false] rfl rfl (by kernel_rfl) (fun _ _ _ h => h) (Or.inl ⟨by rfl,?_⟩) ?_ ?_
   rotate_left
   ·intro w'
    go_simp
    with_reducible rfl
   rotate_left
   ·simp only [Act.put,List.setIfInBounds_toArray,List.set_cons_zero,List.set_cons_succ,i64_w,i32_w]
    rfl
   refine pure_ (i:=2) (N:=some 19) (v:=?_) (a':=?_) #[true,true,true,false,false,false,false,false,false,false] rfl rfl (by kernel_rfl) (fun _ _ _ h => h) (Or.inl ⟨by rfl,?_⟩) ?_ ?_
   rotate_left
   ·intro w'
    go_simp
    with_reducible rfl
   rotate_left
   ·simp only [Act.put,List.setIfInBounds_toArray,List.set_cons_zero,List.set_cons_succ,i64_w,i32_w]
    rfl
   refine pure_ (i:=3) (N:=some 20) (v:=?_) (a':=?_) #[true,true,true,true,false,false,false,false,false,false] rfl rfl (by kernel_rfl) (fun _ _ _ h => h) (Or.inl ⟨by rfl,?_⟩) ?_ ?_
   rotate_left
   ·intro w'
    go_simp
    with_reducible rfl
   rotate_left
   ·simp only [Act.put,List.setIfInBounds_toArray,List.set_cons_zero,List.set_cons_succ,i64_w,i32_w]
    rfl
   refine take_ (i:=4) (N:=some 21) (v:=?_) (a':=?_) #[true,true,true,true,true,false,false,false,false,false] rfl rfl (by kernel_rfl) (fun _ _ _ h => h) (Or.inl ⟨by rfl,?_⟩) hHeld ?_ ?_
   rotate_left
   ·intro w' s0
    go_simp
    with_reducible rfl
   rotate_left
   ·simp only [Act.put,List.setIfInBounds_toArray,List.set_cons_zero,List.set_cons_succ,i64_w,i32_w]
    rfl
   refine pure_ (i:=5) (N:=some 22) (v:=?_) (a':=?_) #[true,true,true,true,true,true,false,false,false,false] rfl rfl (by kernel_rfl) (fun _ _ _ h => h) (Or.inl ⟨by rfl,?_⟩) ?_ ?_
   rotate_left
   ·intro w'
    go_simp
    with_reducible rfl
   rotate_left
   ·simp only [Act.put,List.setIfInBounds_toArray,List.set_cons_zero,List.set_cons_succ,i64_w,i32_w]
    rfl
   refine pure_ (i:=6) (N:=some 23) (v:=?_) (a':=?_) #[true,true,true,true,true,true,true,false,false,false] rfl rfl (by kernel_rfl) (fun _ _ _ h => h) (Or.inl ⟨by rfl,?_⟩) ?_ ?_
   rotate_left
   ·intro w'
    go_simp
    with_reducible rfl
   rotate_left
   ·simp only [Act.put,List.setIfInBounds_toArray,List.set_cons_zero,List.set_cons_succ,i64_w,i32_w]
    rfl
   refine one_ (i:=7) (N:=some 24) #[true,true,true,true,true,true,true,true,false,false] rfl rfl (by kernel_rfl) (by decide) (fun K hK => ?_)
   refine goes_ Tryd.func98 (by kernel_rfl) rfl #[.slice A1 (l.length - 1) (c - 1),.int .i64 (sx8 (rd l 0))] (by rfl) rfl rfl (by simp only [List.map_toArray,List.map_cons,List.map_nil];rfl) ?_
   with_reducible refine (gath_i64 k A1 (c - 1) l (sx8 (rd l 0)) x _ (Kd.C_below HC1.out (below_drew (Below.refl _ _))) HC1c.out HX.out).mono ?_
   rintro e w3 ⟨rfl,⟨⟨nd,rfl⟩⟩⟩
   refine ⟨_,rfl,?_⟩
   refine hK.out _ _ ((by exact hHeld)) (fun hHeld => ?_)
   clear hK K
   refine norm_ (a':=?_) ?_ ?_
   rotate_left
   ·show Act.put _ (some 24) _=_
    simp only [Act.put,List.setIfInBounds_toArray,List.set_cons_zero,List.set_cons_succ,i64_w,i32_w]
    rfl
   refine pure_ (i:=8) (N:=some 4) (v:=?_) (a':=?_) #[true,true,true,true,true,true,true,true,true,false] rfl rfl (by kernel_rfl) (fun _ _ _ h => h) (Or.inl ⟨by rfl,?_⟩) ?_ ?_
   rotate_left
   ·intro w'
    go_simp
    with_reducible rfl
   rotate_left
   ·simp only [Act.put,List.setIfInBounds_toArray,List.set_cons_zero,List.set_cons_succ,i64_w,i32_w]
    rfl
   refine pure_ (i:=9) (N:=some 5) (v:=?_) (a':=?_) #[true,true,true,true,true,true,true,true,true,true] rfl rfl (by kernel_rfl) (fun _ _ _ h => h) (Or.inl ⟨by rfl,?_⟩) ?_ ?_
   rotate_left
   ·intro w'
    go_simp
    with_reducible rfl
   rotate_left
   ·simp only [Act.put,List.setIfInBounds_toArray,List.set_cons_zero,List.set_cons_succ,i64_w,i32_w]
    rfl
   refine done_ (by kernel_rfl) ?_
   go_wp2
   go_ret2
   exact ⟨rfl,(HP.out.drewN 1).drewN _⟩
  ·rw [if_neg hb] at h
   cases h
 ·rw [if_neg hs] at h
  simp only [Option.some.injEq,Prod.mk.injEq] at h
  obtain ⟨rfl,rfl,rfl⟩:=h
  have HE:=Aside0.mk (show rdE bs p n=3 from if_neg hs)
  have HE3:=Aside0.mk (show rdP bs p n=p from if_neg hs)
  clear hI h1 h8 hl hs
  go_enter Tryd.func94,Tryd.ntmps94
  go_wp2_with fail
  with_reducible refine HN.out.mono ?_
  rintro e w1 ⟨A,c,rfl,hc,hC,hP⟩
  rw [HE3.out] at hP
  rw [HE.out]
  have HP:=Aside0.mk hP
  clear hC hc hP HN HE HE3
  go_wp2
  go_ret2
  exact ⟨rfl,HP.out⟩
end Go.Proofs.YtbgniepcoaiinaaDoor.Px
namespace Go.Proofs.YtbgniepcoaiinaaDoor.Px
open Go.RowKit Go.Proofs.YtbgniepcoaiinaaDoorW.PrintWords Go.Proofs.YtbgniepcoaiinaaDoorW.PrintLast Go.Proofs.YtbgniepcoaiinaaDoorW.PrintMore
set_option linter.unusedVariables false
set_option linter.unusedSimpArgs false
structure IsCr (B:Nat) (w:World) (br g:Nat) (vp:Value) (bs:List Int) (p:Nat):Prop where
 R:IsRd B w g bs p
 blk:w.heap[br]?=some (.cells #[.pointer (some ⟨g,0,none⟩),vp] 79 (0,0))
def Dies (B:Nat) (w:World) (er:Int) (e:Ending) (w':World):Prop:=e=.panicked [{ v:=.iface 28 (.int .i64 er),recovered:=false }]∧Below B w w'
def CrPost (B:Nat) (w:World) (br g:Nat) (vp:Value) (bs:List Int) (p:Nat) (w':World):Prop:=IsCr B w' br g vp bs p∧RdStep B w w' g
theorem IsCr.ne {B:Nat} {w:World} {br g:Nat} {vp:Value} {bs:List Int} {p:Nat} (h:IsCr B w br g vp bs p):br ≠ g:=by
 rintro rfl
 obtain ⟨v,hb,_⟩:=h.R.blk
 have:=hb.symm.trans h.blk
 injection this with e
 injection e with _ e
 exact absurd e (by decide)
theorem IsCr.step {B:Nat} {w w':World} {br g:Nat} {vp:Value} {bs:List Int} {p p':Nat} (h:IsCr B w br g vp bs p) (hR:RdPost B w g bs p' w'):CrPost B w br g vp bs p' w' :=
 ⟨⟨hR.1,hR.2.blk h.ne h.blk⟩,hR.2⟩
theorem IsCr.c0 {B:Nat} {w:World} {br g:Nat} {vp:Value} {bs:List Int} {p:Nat} (h:IsCr B w br g vp bs p):w.cell? ⟨br,0,none⟩=some (.pointer (some ⟨g,0,none⟩)):=(blk_cell h.blk 0).trans rfl
theorem IsCr.c1 {B:Nat} {w:World} {br g:Nat} {vp:Value} {bs:List Int} {p:Nat} (h:IsCr B w br g vp bs p):w.cell? ⟨br,1,none⟩=some vp:=(blk_cell h.blk 1).trans rfl
theorem cr_must_ok (a:Value) (w:World):Calls Tryd.prog 56 #[a,.int .i64 0] w fun e w' => e=.returned (.tuple #[])∧w'=w:=by
 go_enter Tryd.func56,Tryd.ntmps56
 go_wp2
 go_end0
 exact ⟨rfl,rfl⟩
theorem cr_must_dies (a:Value) (er:Int) (h:er ≠ 0) (w:World):Calls Tryd.prog 56 #[a,.int .i64 er] w fun e w' => e=.panicked [{ v:=.iface 28 (.int .i64 er),recovered:=false }]∧w'=w:=by
 have hb:(er != 0)=true:=bne_iff_ne.mpr h
 clear h
 go_enter Tryd.func56,Tryd.ntmps56
 go_wp2
 exact ⟨rfl,rfl,rfl⟩
set_option maxHeartbeats 8000000 in
set_option maxRecDepth 100000 in
theorem cr_num_ok (k B br g:Nat) (vp:Value) (bs:List Int) (p n:Nat) (x:Int) (p':Nat) (w:World) (hI:IsCr B w br g vp bs p) (h1:1≤n) (h8:n≤8) (hl:bs.length≤140737488355328) (h:rd_Uint.f k bs p n=some (x,0,p')) :
  Calls Tryd.prog 78 #[.pointer (some ⟨br,0,none⟩),.int .i64 n] w fun e w' => e=.returned (.int .i64 (wrap64 x))∧CrPost B w br g vp bs p' w':=by
 have c0:=hI.c0
 have HI:=Aside0.mk hI
 have HC:=Aside0.mk (rd_Uint.calls k B g bs p n x 0 p' w hI.R h1 h8 hl h)
 clear hI h1 h8 hl h
 go_enter Tryd.func78,Tryd.ntmps78
 go_wp2_with fail
 refine HC.out.mono ?_
 rintro e w2 ⟨rfl,hR⟩
 have HR:=Aside0.mk (HI.out.step hR)
 clear hR HI HC c0
 go_wp2_with fail
 refine (cr_must_ok _ _).mono ?_
 rintro e w3 ⟨rfl,rfl⟩
 go_wp2
 go_ret
 exact ⟨rfl,HR.out⟩
set_option maxHeartbeats 8000000 in
set_option maxRecDepth 100000 in
theorem cr_num_dies (k B br g:Nat) (vp:Value) (bs:List Int) (p n:Nat) (x er:Int) (p':Nat) (w:World) (hI:IsCr B w br g vp bs p) (h1:1≤n) (h8:n≤8) (hl:bs.length≤140737488355328) (he:er ≠ 0) (h:rd_Uint.f k bs p n=some (x,er,p')) :
  Calls Tryd.prog 78 #[.pointer (some ⟨br,0,none⟩),.int .i64 n] w fun e w' => Dies B w er e w':=by
 have c0:=hI.c0
 have HI:=Aside0.mk hI
 have HC:=Aside0.mk (rd_Uint.calls k B g bs p n x er p' w hI.R h1 h8 hl h)
 have HE:=Aside0.mk he
 clear hI h1 h8 hl h he
 go_enter Tryd.func78,Tryd.ntmps78
 go_wp2_with fail
 refine HC.out.mono ?_
 rintro e w2 ⟨rfl,hR⟩
 have HR:=Aside0.mk hR.2.below
 clear hR HI HC c0
 go_wp2_with fail
 refine (cr_must_dies _ er HE.out _).mono ?_
 rintro e w3 ⟨rfl,rfl⟩
 go_wp2
 exact ⟨rfl,rfl,HR.out⟩
theorem CrPost.below {B:Nat} {w w':World} {br g:Nat} {vp:Value} {bs:List Int} {p:Nat} (h:CrPost B w br g vp bs p w'):Below B w w':=h.2.below
inductive Rdo (α:Type) where
 | ok (x:α) (p:Nat)
 | er (e:Int)
def Rdo.bind {α β:Type} (o:Rdo α) (f:α→Nat→Option (Rdo β)):Option (Rdo β):=match o with
 | .ok x p => f x p
 | .er e => some (.er e)
def RdoPost {α:Type} (B:Nat) (w:World) (br g:Nat) (vp:Value) (bs:List Int) (val:α→Value) (o:Rdo α) (e:Ending) (w':World):Prop:=match o with
 | .ok x p => e=.returned (val x)∧CrPost B w br g vp bs p w'
 | .er n => Dies B w n e w'
def cr_num.f (k:Nat) (bs:List Int) (p n:Nat):Option (Rdo Int):=(rd_Uint.f k bs p n).bind fun r => some (if r.2.1=0 then .ok (wrap64 r.1) r.2.2 else .er r.2.1)
theorem cr_num.mono (bs:List Int) (p n k:Nat):LeO (cr_num.f k bs p n) (cr_num.f (k + 1) bs p n):=LeO.bind (rd_Uint.mono _ _ _ _) (fun _ => LeO.refl _)
theorem cr_num.calls {k B br g:Nat} {vp:Value} {bs:List Int} {p n:Nat} {o:Rdo Int} {w:World} (hI:IsCr B w br g vp bs p) (h1:1≤n) (h8:n≤8) (hl:bs.length≤140737488355328) (h:cr_num.f k bs p n=some o) :
  Calls Tryd.prog 78 #[.pointer (some ⟨br,0,none⟩),.int .i64 n] w fun e w' => RdoPost B w br g vp bs (Value.int .i64) o e w':=by
 obtain ⟨⟨x,er,p'⟩,hx,h⟩:=Option.bind_eq_some_iff.mp h
 obtain rfl:=Option.some.inj h
 by_cases he:er=0
 ·subst he
  exact (cr_num_ok k B br g vp bs p n x p' w hI h1 h8 hl hx).mono fun e w' hh => hh
 ·dsimp only
  rw [if_neg he]
  exact cr_num_dies k B br g vp bs p n x er p' w hI h1 h8 hl he hx
set_option maxHeartbeats 8000000 in
set_option maxRecDepth 100000 in
theorem cr_two.calls {k B br g:Nat} {vp:Value} {bs:List Int} {p:Nat} {o:Rdo Int} {w:World} (hI:IsCr B w br g vp bs p) (hl:bs.length≤140737488355328) (h:cr_num.f k bs p 2=some o) :
  Calls Tryd.prog 58 #[.pointer (some ⟨br,0,none⟩)] w fun e w' => RdoPost B w br g vp bs (Value.int .i64) o e w':=by
 have HC:=Aside0.mk (cr_num.calls (n:=2) hI (by decide) (by decide) hl h)
 clear hI hl h
 go_enter Tryd.func58,Tryd.ntmps58
 go_wp2_with fail
 refine HC.out.mono ?_
 clear HC
 cases o with
 | ok x q =>
  rintro e w2 ⟨rfl,hR⟩
  have HR:=Aside0.mk hR
  clear hR
  go_wp2
  go_ret
  exact ⟨rfl,HR.out⟩
 | er n =>
  rintro e w2 ⟨rfl,hR⟩
  have HR:=Aside0.mk hR
  clear hR
  go_wp2
  exact ⟨rfl,rfl,HR.out⟩
def cr_same.f (k:Nat) (bs:List Int) (p n:Nat) (want:Int):Option (Rdo Unit):=(cr_num.f k bs p n).bind fun o => o.bind fun x q => some (if x=want then .ok () q else .er 50)
def cr_count.f (k:Nat) (bs:List Int) (p n:Nat) (most:Int):Option (Rdo Int):=(cr_num.f k bs p n).bind fun o => o.bind fun x q => some (if most < x then .er 2 else .ok x q)
set_option maxHeartbeats 8000000 in
set_option maxRecDepth 100000 in
theorem cr_same.calls {k B br g:Nat} {vp:Value} {bs:List Int} {p n:Nat} {want:Int} {o:Rdo Unit} {w:World} (hI:IsCr B w br g vp bs p) (h1:1≤n) (h8:n≤8) (hl:bs.length≤140737488355328) (h:cr_same.f k bs p n want=some o) :
  Calls Tryd.prog 53 #[.pointer (some ⟨br,0,none⟩),.int .i64 n,.int .i64 want] w fun e w' => RdoPost B w br g vp bs (fun _ => Value.tuple #[]) o e w':=by
 obtain ⟨o1,ho,h⟩:=Option.bind_eq_some_iff.mp h
 have HC:=Aside0.mk (cr_num.calls hI h1 h8 hl ho)
 have HH:=Aside0.mk h
 clear hI hl h ho h1 h8
 go_enter Tryd.func53,Tryd.ntmps53
 go_wp2_with fail
 refine HC.out.mono ?_
 clear HC
 cases o1 with
 | ok x q =>
  rintro e w2 ⟨rfl,hR⟩
  have HR:=Aside0.mk hR
  have h:=Option.some.inj HH.out
  clear hR HH
  by_cases hx:x=want
  ·rw [if_pos hx] at h
   have hxb:(x != want)=false:=bne_eq_false_iff_eq.mpr hx
   subst h
   clear hx
   go_wp2
   go_end0
   exact ⟨rfl,HR.out⟩
  ·rw [if_neg hx] at h
   have hxb:(x != want)=true:=bne_iff_ne.mpr hx
   subst h
   clear hx
   go_wp2_with fail
   refine (cr_must_dies _ 50 (by decide) _).mono ?_
   rintro e w3 ⟨rfl,rfl⟩
   go_wp2
   exact ⟨rfl,rfl,HR.out.below⟩
 | er n =>
  rintro e w2 ⟨rfl,hR⟩
  have h:=Option.some.inj HH.out
  subst h
  have HR:=Aside0.mk hR
  clear hR HH
  go_wp2
  exact ⟨rfl,rfl,HR.out⟩
set_option maxHeartbeats 8000000 in
set_option maxRecDepth 100000 in
theorem cr_count.calls {k B br g:Nat} {vp:Value} {bs:List Int} {p n:Nat} {most:Int} {o:Rdo Int} {w:World} (hI:IsCr B w br g vp bs p) (h1:1≤n) (h8:n≤8) (hl:bs.length≤140737488355328) (h:cr_count.f k bs p n most=some o) :
  Calls Tryd.prog 59 #[.pointer (some ⟨br,0,none⟩),.int .i64 n,.int .i64 most] w fun e w' => RdoPost B w br g vp bs (Value.int .i64) o e w':=by
 obtain ⟨o1,ho,h⟩:=Option.bind_eq_some_iff.mp h
 have HC:=Aside0.mk (cr_num.calls hI h1 h8 hl ho)
 have HH:=Aside0.mk h
 clear hI hl h ho h1 h8
 go_enter Tryd.func59,Tryd.ntmps59
 go_wp2_with fail
 refine HC.out.mono ?_
 clear HC
 cases o1 with
 | ok x q =>
  rintro e w2 ⟨rfl,hR⟩
  have HR:=Aside0.mk hR
  have h:=Option.some.inj HH.out
  clear hR HH
  by_cases hx:most < x
  ·rw [if_pos hx] at h
   have hxb:decide (most < x)=true:=decide_eq_true hx
   subst h
   go_wp2_with fail
   refine (cr_must_dies _ 2 (by decide) _).mono ?_
   rintro e w3 ⟨rfl,rfl⟩
   go_wp2
   exact ⟨rfl,rfl,HR.out.below⟩
  ·rw [if_neg hx] at h
   have hxb:decide (most < x)=false:=decide_eq_false hx
   subst h
   go_wp2
   go_ret
   exact ⟨rfl,HR.out⟩
 | er n =>
  rintro e w2 ⟨rfl,hR⟩
  have h:=Option.some.inj HH.out
  subst h
  have HR:=Aside0.mk hR
  clear hR HH
  go_wp2
  exact ⟨rfl,rfl,HR.out⟩
end Go.Proofs.YtbgniepcoaiinaaDoor.Px
