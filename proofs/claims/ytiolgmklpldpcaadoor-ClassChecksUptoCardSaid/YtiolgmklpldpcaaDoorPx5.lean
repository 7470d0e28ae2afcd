-- short. By myprint.py (wip/tools), over the kit's print.
import Derived.Test.YtiolgmklpldpcaaDoorPx0
import Derived.Test.YtiolgmklpldpcaaDoorPx4
namespace Go.Proofs.YtiolgmklpldpcaaDoor.Px
open Go.RowKit Go.Proofs.YtiolgmklpldpcaaDoorW.PrintWords Go.Proofs.YtiolgmklpldpcaaDoorW.PrintLast Go.Proofs.YtiolgmklpldpcaaDoorW.PrintMore
attribute [local go_sem] max2_int min2_int max_two min_two max_three min_three max_four min_four
set_option linter.unusedVariables false
set_option linter.unusedSimpArgs false
/-! ### class_rules_method: function 15 -/
mutual
def class_rules_method.l0:Nat→Int→List (S62)→Int→Int→List (S51)→Int→Int→Int→Int→Int→List Int→List (S62)→List Int→Option (Bool)
 | 0,_,_,_,_,_,_,_,_,_,_,_,_,_ => none
 | k + 1,x5,x12,x13,x14,x143000,x144000,x144001,x144002,x144003,x144004,x144005,x144006,x144007 => if x14 < x13 then (if 0≤x14 then (if x14 < (x12.length:Int) then (if ((rd_T62 x12 x14).f0) < 0 then (class_rules_method.j1 k x5 x12 x13 x14 true x143000 x144000 x144001 x144002 x144003 x144004 x144005 x144006 x144007) else (if ((rd_T62 x12 x14).f0) ≥ ((rd_T62 x12 x14).f1) then (class_rules_method.j1 k x5 x12 x13 x14 true x143000 x144000 x144001 x144002 x144003 x144004 x144005 x144006 x144007) else (if ((rd_T62 x12 x14).f1) > x5 then (class_rules_method.j1 k x5 x12 x13 x14 true x143000 x144000 x144001 x144002 x144003 x144004 x144005 x144006 x144007) else ((class_within.f ((rd_T62 x12 x14).f2) (wrap64 (x5 - 1))).bind fun t146 => (if t146=true then (if ((rd_T62 x12 x14).f3)=0 then (class_rules_method.j1 k x5 x12 x13 x14 false x143000 x144000 x144001 x144002 x144003 x144004 x144005 x144006 x144007) else ((class_rules_class.f k x143000 (([(rd_T62 x12 x14).f3]:List Int))).bind fun t150 => (class_rules_method.j1 k x5 x12 x13 x14 (!t150) x143000 x144000 x144001 x144002 x144003 x144004 x144005 x144006 x144007))) else (class_rules_method.j1 k x5 x12 x13 x14 true x143000 x144000 x144001 x144002 x144003 x144004 x144005 x144006 x144007)))))) else (none)) else (none)) else ((class_flags.f x144000).bind fun t151 => (if t151=true then ((class_rules_text.f k x143000 (([x144001,x144002]:List Int))).bind fun t155 => (if t155=true then ((class_within.f x144003 64).bind fun t156 => (if t156=true then ((class_within.f x144004 64).bind fun t157 => (if t157=true then ((class_within.f (wrap64 (x5 - 1)) 4095).bind fun t158 => (if t158=true then (if (x144007.length:Int)≤4096 then ((class_place.f k x143000 (⟨#[67,111,100,101]⟩:ByteArray)).bind fun t159 => (if t159 > 0 then (if (x144007.length:Int)=0 then (some true) else ((class_place.f k x143000 (⟨#[83,116,97,99,107,77,97,112,84,97,98,108,101]⟩:ByteArray)).bind fun t160 => (some (decide (t160 > 0))))) else (some false))) else (some false)) else (some false))) else (some false))) else (some false))) else (some false))) else (some false)))
def class_rules_method.j1:Nat→Int→List (S62)→Int→Int→Bool→List (S51)→Int→Int→Int→Int→Int→List Int→List (S62)→List Int→Option (Bool)
 | 0,_,_,_,_,_,_,_,_,_,_,_,_,_,_ => none
 | k + 1,x5,x12,x13,x14,x54,x143000,x144000,x144001,x144002,x144003,x144004,x144005,x144006,x144007 => if x54=true then (some false) else (class_rules_method.l0 k x5 x12 x13 (wrap64 (x14 + 1)) x143000 x144000 x144001 x144002 x144003 x144004 x144005 x144006 x144007)
end
def class_rules_method.f (k:Nat) (l0_0:List (S51)) (a1_0:Int) (a1_1:Int) (a1_2:Int) (a1_3:Int) (a1_4:Int) (l1_5:List Int) (l1_6:List (S62)) (l1_7:List Int):Option (Bool):=class_rules_method.l0 k (l1_5.length:Int) l1_6 (l1_6.length:Int) 0 l0_0 a1_0 a1_1 a1_2 a1_3 a1_4 l1_5 l1_6 l1_7
theorem class_rules_method.mono_l:∀ k,(∀ y0 y1 y2 y3 y4 y5 y6 y7 y8 y9 y10 y11 y12,LeO (class_rules_method.l0 k y0 y1 y2 y3 y4 y5 y6 y7 y8 y9 y10 y11 y12) (class_rules_method.l0 (k + 1) y0 y1 y2 y3 y4 y5 y6 y7 y8 y9 y10 y11 y12))∧(∀ y0 y1 y2 y3 y4 y5 y6 y7 y8 y9 y10 y11 y12 y13,LeO (class_rules_method.j1 k y0 y1 y2 y3 y4 y5 y6 y7 y8 y9 y10 y11 y12 y13) (class_rules_method.j1 (k + 1) y0 y1 y2 y3 y4 y5 y6 y7 y8 y9 y10 y11 y12 y13))
 | 0 => ⟨fun _ _ _ _ _ _ _ _ _ _ _ _ _ r h => by simp [class_rules_method.l0] at h,fun _ _ _ _ _ _ _ _ _ _ _ _ _ _ r h => by simp [class_rules_method.j1] at h⟩
 | k + 1 => by
  obtain ⟨ih0,ih1⟩:=class_rules_method.mono_l k
  refine ⟨?_,?_⟩
  ·intro y0 y1 y2 y3 y4 y5 y6 y7 y8 y9 y10 y11 y12
   unfold class_rules_method.l0
   repeat' first
   | (with_reducible exact ih0 _ _ _ _ _ _ _ _ _ _ _ _ _)
   | (with_reducible exact ih1 _ _ _ _ _ _ _ _ _ _ _ _ _ _)
   | (with_reducible exact class_place.mono _ _ _)
   | (with_reducible exact class_rules_class.mono _ _ _)
   | (with_reducible exact class_rules_text.mono _ _ _)
   | (with_reducible exact LeO.refl _)
   | (with_reducible exact LeO.none _)
   | (with_reducible refine LeO.ite ?_ ?_)
   | (with_reducible refine LeO.bind ?_ (fun _ => ?_))
   | exact ih0 _ _ _ _ _ _ _ _ _ _ _ _ _
   | exact ih1 _ _ _ _ _ _ _ _ _ _ _ _ _ _
   | exact class_place.mono _ _ _
   | exact class_rules_class.mono _ _ _
   | exact class_rules_text.mono _ _ _
   | exact LeO.none _
   | refine LeO.ite ?_ ?_
   | refine LeO.bind ?_ (fun _ => ?_)
  ·intro y0 y1 y2 y3 y4 y5 y6 y7 y8 y9 y10 y11 y12 y13
   unfold class_rules_method.j1
   repeat' first
   | (with_reducible exact ih0 _ _ _ _ _ _ _ _ _ _ _ _ _)
   | (with_reducible exact ih1 _ _ _ _ _ _ _ _ _ _ _ _ _ _)
   | (with_reducible exact class_place.mono _ _ _)
   | (with_reducible exact class_rules_class.mono _ _ _)
   | (with_reducible exact class_rules_text.mono _ _ _)
   | (with_reducible exact LeO.refl _)
   | (with_reducible exact LeO.none _)
   | (with_reducible refine LeO.ite ?_ ?_)
   | (with_reducible refine LeO.bind ?_ (fun _ => ?_))
   | exact ih0 _ _ _ _ _ _ _ _ _ _ _ _ _
   | exact ih1 _ _ _ _ _ _ _ _ _ _ _ _ _ _
   | exact class_place.mono _ _ _
   | exact class_rules_class.mono _ _ _
   | exact class_rules_text.mono _ _ _
   | exact LeO.none _
   | refine LeO.ite ?_ ?_
   | refine LeO.bind ?_ (fun _ => ?_)
theorem class_rules_method.mono:∀ a0 a1 a2 a3 a4 a5 a6 a7 a8 k,LeO (class_rules_method.f k a0 a1 a2 a3 a4 a5 a6 a7 a8) (class_rules_method.f (k + 1) a0 a1 a2 a3 a4 a5 a6 a7 a8):=by
 intro a0 a1 a2 a3 a4 a5 a6 a7 a8 k
 obtain ⟨ih0,ih1⟩:=class_rules_method.mono_l k
 unfold class_rules_method.f
 repeat' first
   | (with_reducible exact ih0 _ _ _ _ _ _ _ _ _ _ _ _ _)
   | (with_reducible exact ih1 _ _ _ _ _ _ _ _ _ _ _ _ _ _)
   | (with_reducible exact class_place.mono _ _ _)
   | (with_reducible exact class_rules_class.mono _ _ _)
   | (with_reducible exact class_rules_text.mono _ _ _)
   | (with_reducible exact LeO.refl _)
   | (with_reducible exact LeO.none _)
   | (with_reducible refine LeO.ite ?_ ?_)
   | (with_reducible refine LeO.bind ?_ (fun _ => ?_))
   | exact ih0 _ _ _ _ _ _ _ _ _ _ _ _ _
   | exact ih1 _ _ _ _ _ _ _ _ _ _ _ _ _ _
   | exact class_place.mono _ _ _
   | exact class_rules_class.mono _ _ _
   | exact class_rules_text.mono _ _ _
   | exact LeO.none _
   | refine LeO.ite ?_ ?_
   | refine LeO.bind ?_ (fun _ => ?_)
set_option maxHeartbeats 80000000 in
set_option maxRecDepth 100000 in
theorem class_rules_method.calls (k:Nat) (A0_0:Option Addr) (c0_0:Nat) (l0_0:List (S51)) (a1_0:Int) (a1_1:Int) (a1_2:Int) (a1_3:Int) (a1_4:Int) (A1_5:Option Addr) (c1_5:Nat) (l1_5:List Int) (A1_6:Option Addr) (c1_6:Nat) (l1_6:List (S62)) (A1_7:Option Addr) (c1_7:Nat) (l1_7:List Int) (r:Bool) (w:World) (hr0_0:Kd.C k51 w A0_0 l0_0.length l0_0) (hc0_0:l0_0.length≤c0_0) (hr1_5:Kd.C (Kd.int .u8) w A1_5 l1_5.length l1_5) (hc1_5:l1_5.length≤c1_5) (hr1_6:Kd.C k62 w A1_6 l1_6.length l1_6) (hc1_6:l1_6.length≤c1_6) (hr1_7:Kd.C (Kd.int .u8) w A1_7 l1_7.length l1_7) (hc1_7:l1_7.length≤c1_7) (h:class_rules_method.f k l0_0 a1_0 a1_1 a1_2 a1_3 a1_4 l1_5 l1_6 l1_7=some r) :
  Calls Tryd.prog 15 #[.agg #[.slice A0_0 l0_0.length c0_0],.agg #[.int .i64 a1_0,.int .i64 a1_1,.int .i64 a1_2,.int .i64 a1_3,.int .i64 a1_4,.slice A1_5 l1_5.length c1_5,.slice A1_6 l1_6.length c1_6,.slice A1_7 l1_7.length c1_7]] w fun e w' => e=.returned (.bool r)∧Below w.heap.size w w':=by
 have hu39:=Tryd.underlying39
 have hu37:=Tryd.underlying37
 have hu62:=Tryd.underlying62
 have HR0_0:=Aside0.mk hr0_0
 have HC0_0:=Aside0.mk hc0_0
 clear hr0_0 hc0_0
 have HR1_5:=Aside0.mk hr1_5
 have HC1_5:=Aside0.mk hc1_5
 clear hr1_5 hc1_5
 have HR1_6:=Aside0.mk hr1_6
 have HC1_6:=Aside0.mk hc1_6
 clear hr1_6 hc1_6
 have HR1_7:=Aside0.mk hr1_7
 have HC1_7:=Aside0.mk hc1_7
 clear hr1_7 hc1_7
 have HB:=Aside0.mk (Below.refl w.heap.size w)
 have H:(class_rules_method.l0 k (l1_5.length:Int) l1_6 (l1_6.length:Int) 0 l0_0 a1_0 a1_1 a1_2 a1_3 a1_4 l1_5 l1_6 l1_7)=some r:=h
 clear h
 have H':=Aside0.mk H
 clear H
 go_enter Tryd.func15,Tryd.ntmps15
 go_wp2_with (first|((with_reducible refine gate_dst (N:=2) rfl ?_);(try (refine gate_guard (by rfl) ?_;dsimp only));refine box_event ?hg (N:=2) ?hd (cs:=#[.slice A0_0 l0_0.length c0_0]) (t:=39) ?hr ?_;(case hd => rfl);(case hg => rfl);(case hr => first|(go_simp;done)|(go_simp;rfl));intro gb142 hg w3 hbox hb;have n0_:=Aside0.mk (below_step (by repeat (first|(with_reducible first|exact HB.out|apply below_alloc|apply pw_below_drewN|apply below_drew1)|exact HB.out)) hb);have n1_:=Aside0.mk (hbox);have n2_:=Aside0.mk ((by rw [hg];exact (below_size (by repeat (first|(with_reducible first|exact HB.out|apply below_alloc|apply pw_below_drewN|apply below_drew1)|exact HB.out))):w.heap.size≤gb142));have n3_:=Aside0.mk ((by rw [hg];exact (below_size (by repeat (first|(with_reducible first|exact HB.out|apply below_alloc|apply pw_below_drewN|apply below_drew1)|exact HB.out))):w.heap.size≤gb142));clear HB;have HB:=n0_;have BK142:=n1_;have GW142:=n2_;have GE142:=n3_;clear n0_ n1_ n2_ n3_;clear hb hbox hg)|((with_reducible refine gate_dst (N:=3) rfl ?_);(try (refine gate_guard (by rfl) ?_;dsimp only));refine box_event ?hg (N:=3) ?hd (cs:=#[.int .i64 a1_0,.int .i64 a1_1,.int .i64 a1_2,.int .i64 a1_3,.int .i64 a1_4,.slice A1_5 l1_5.length c1_5,.slice A1_6 l1_6.length c1_6,.slice A1_7 l1_7.length c1_7]) (t:=37) ?hr ?_;(case hd => rfl);(case hg => rfl);(case hr => first|(go_simp;done)|(go_simp;rfl));intro gb143 hg w4 hbox hb;have n0_:=Aside0.mk (blk_below (g:=gb142) (o:=.cells #[.slice A0_0 l0_0.length c0_0] 39 (0,0)) (by (with_reducible repeat (first|refine blk_drewN ?_ _|refine blk_drew ?_|refine blk_alloc ?_ _));exact BK142.out) hb);have n1_:=Aside0.mk (below_step (by repeat (first|(with_reducible first|exact HB.out|apply below_alloc|apply pw_below_drewN|apply below_drew1|refine below_set ?_ GE142.out)|exact HB.out)) hb);have n2_:=Aside0.mk (hbox);have n3_:=Aside0.mk ((by rw [hg];exact (below_size (by repeat (first|(with_reducible first|exact HB.out|apply below_alloc|apply pw_below_drewN|apply below_drew1|refine below_set ?_ GE142.out)|exact HB.out))):w.heap.size≤gb143));have n4_:=Aside0.mk ((by rw [hg];exact (below_size (by repeat (first|(with_reducible first|exact HB.out|apply below_alloc|apply pw_below_drewN|apply below_drew1|refine below_set ?_ GE142.out)|exact HB.out))):w.heap.size≤gb143));have n5_:=Aside0.mk ((by rw [hg];exact Nat.ne_of_lt (blk_lt (g:=gb142) (o:=.cells #[.slice A0_0 l0_0.length c0_0] 39 (0,0)) (by (with_reducible repeat (first|refine blk_drewN ?_ _|refine blk_drew ?_|refine blk_alloc ?_ _));exact BK142.out)):gb142 ≠ gb143));have n6_:=Aside0.mk ((by rw [hg];exact Nat.ne_of_gt (blk_lt (g:=gb142) (o:=.cells #[.slice A0_0 l0_0.length c0_0] 39 (0,0)) (by (with_reducible repeat (first|refine blk_drewN ?_ _|refine blk_drew ?_|refine blk_alloc ?_ _));exact BK142.out)):gb143 ≠ gb142));clear BK142;clear HB;have BK142:=n0_;have HB:=n1_;have BK143:=n2_;have GW143:=n3_;have GE143:=n4_;have NB142_143:=n5_;have NB143_142:=n6_;clear n0_ n1_ n2_ n3_ n4_ n5_ n6_;clear hb hbox hg;have hnb5:=NB143_142.out;have hnc5:=NB142_143.out;have hcz6_0:w4.cell? ⟨gb143,0,none⟩=some (.int .i64 a1_0):=(blk_cell BK143.out 0).trans rfl;have hcz6_1:w4.cell? ⟨gb143,1,none⟩=some (.int .i64 a1_1):=(blk_cell BK143.out 1).trans rfl;have hcz6_2:w4.cell? ⟨gb143,2,none⟩=some (.int .i64 a1_2):=(blk_cell BK143.out 2).trans rfl;have hcz6_3:w4.cell? ⟨gb143,3,none⟩=some (.int .i64 a1_3):=(blk_cell BK143.out 3).trans rfl;have hcz6_4:w4.cell? ⟨gb143,4,none⟩=some (.int .i64 a1_4):=(blk_cell BK143.out 4).trans rfl;have hcz6_5:w4.cell? ⟨gb143,5,none⟩=some (.slice A1_5 l1_5.length c1_5):=(blk_cell BK143.out 5).trans rfl;have hcz6_6:w4.cell? ⟨gb143,6,none⟩=some (.slice A1_6 l1_6.length c1_6):=(blk_cell BK143.out 6).trans rfl;have hcz6_7:w4.cell? ⟨gb143,7,none⟩=some (.slice A1_7 l1_7.length c1_7):=(blk_cell BK143.out 7).trans rfl;have hfz6_0:=blk_frozen BK143.out 0;have hfz6_1:=blk_frozen BK143.out 1;have hfz6_2:=blk_frozen BK143.out 2;have hfz6_3:=blk_frozen BK143.out 3;have hfz6_4:=blk_frozen BK143.out 4;have hfz6_5:=blk_frozen BK143.out 5;have hfz6_6:=blk_frozen BK143.out 6;have hfz6_7:=blk_frozen BK143.out 7))
 go_loopg [14] k (fun kq v14 w' => ∃ (x14_1:Int),v14=.int .i64 x14_1∧Aside0 (class_rules_method.l0 kq (l1_5.length:Int) l1_6 (l1_6.length:Int) x14_1 l0_0 a1_0 a1_1 a1_2 a1_3 a1_4 l1_5 l1_6 l1_7=some r)∧Aside0 (kq≤k)∧Aside0 (w'.heap[gb142]?=some (.cells #[(.slice A0_0 l0_0.length c0_0)] 39 (0,0)))∧Aside0 (w'.heap[gb143]?=some (.cells #[.int .i64 a1_0,.int .i64 a1_1,.int .i64 a1_2,.int .i64 a1_3,.int .i64 a1_4,(.slice A1_5 l1_5.length c1_5),(.slice A1_6 l1_6.length c1_6),(.slice A1_7 l1_7.length c1_7)] 37 (0,0)))∧Aside0 (Below w.heap.size w w'))
 case atStart => exact ⟨(0),(by first|rfl|(simp;done)|(simp [*];done)),H',⟨Nat.le_refl _⟩,⟨by (with_reducible repeat (first|refine blk_drewN ?_ _|refine blk_drew ?_|refine blk_alloc ?_ _));exact BK142.out⟩,⟨by (with_reducible repeat (first|refine blk_drewN ?_ _|refine blk_drew ?_|refine blk_alloc ?_ _));exact BK143.out⟩,⟨by repeat (first|(with_reducible first|exact HB.out|apply below_alloc|apply pw_below_drewN|apply below_drew1|refine below_set ?_ GE142.out|refine below_set ?_ GE143.out)|exact HB.out)⟩⟩
 case round =>
  clear H'
  try clear c1;try clear p2;try clear c5;try clear hcz6_0;try clear hcz6_1;try clear hcz6_2;try clear hcz6_3;try clear hcz6_4;try clear hcz6_5;try clear hcz6_6;try clear hcz6_7;try clear hfz6_0;try clear hfz6_1;try clear hfz6_2;try clear hfz6_3;try clear hfz6_4;try clear hfz6_5;try clear hfz6_6;try clear hfz6_7
  obtain ⟨x14_1,rfl,HA,HK1,BK142,BK143,HB⟩:=hrel
  cases gk with
  | zero => exact absurd HA.out (by simp [class_rules_method.l0])
  | succ k1 =>
   have H:=HA.out
   clear HA
   simp only [class_rules_method.l0] at H
   by_cases c7:x14_1 < (l1_6.length:Int)
   ·rw [if_pos c7] at H
    have c7b0:decide (x14_1 < (l1_6.length:Int))=true:=decide_eq_true c7
    clear c7
    by_cases c8:0≤x14_1
    ·rw [if_pos c8] at H
     have c8b0:decide (0≤x14_1)=true:=decide_eq_true c8
     clear c8
     by_cases c9:x14_1 < (l1_6.length:Int)
     ·rw [if_pos c9] at H
      have c9b0:decide (x14_1 < (l1_6.length:Int))=true:=decide_eq_true c9
      clear c9
      have HC10:=Aside0.mk H
      clear H
      have p144:0≤(x14_1:Int):=of_decide_eq_true (by first|(with_reducible assumption)|assumption)
      have q144:x14_1 < (l1_6.length:Int):=of_decide_eq_true (by first|(with_reducible assumption)|assumption)
      obtain ⟨ad144,e144,hx144_0,hx144_1,hx144_2,hx144_3⟩:=at_T62 HR1_6.out x14_1 p144 q144
      cases e144
      replace hx144_0:=(HB.out.cell (World.block_lt_of_cell? w _ hx144_0)).trans hx144_0
      replace hx144_1:=(HB.out.cell (World.block_lt_of_cell? w _ hx144_1)).trans hx144_1
      replace hx144_2:=(HB.out.cell (World.block_lt_of_cell? w _ hx144_2)).trans hx144_2
      replace hx144_3:=(HB.out.cell (World.block_lt_of_cell? w _ hx144_3)).trans hx144_3
      replace p144:=eq_true p144
      replace q144:=eq_true q144
      go_upto_region 5 with (first|((with_reducible refine gate_dst (N:=7) rfl ?_);(try (refine gate_guard (by rfl) ?_;dsimp only));refine box_event ?hg (N:=7) ?hd (cs:=#[.int .i64 0,.int .i64 0,.int .i64 0,.int .i64 0]) (t:=62) ?hr ?_;(case hd => rfl);(case hg => rfl);(case hr => first|(go_simp;done)|(go_simp;rfl));intro gb145 hg w11 hbox hb;have n0_:=Aside0.mk (blk_below (g:=gb142) (o:=.cells #[.slice A0_0 l0_0.length c0_0] 39 (0,0)) (by (with_reducible repeat (first|refine blk_drewN ?_ _|refine blk_drew ?_|refine blk_alloc ?_ _));exact BK142.out) hb);have n1_:=Aside0.mk (blk_below (g:=gb143) (o:=.cells #[.int .i64 a1_0,.int .i64 a1_1,.int .i64 a1_2,.int .i64 a1_3,.int .i64 a1_4,.slice A1_5 l1_5.length c1_5,.slice (some ad144) l1_6.length c1_6,.slice A1_7 l1_7.length c1_7] 37 (0,0)) (by (with_reducible repeat (first|refine blk_drewN ?_ _|refine blk_drew ?_|refine blk_alloc ?_ _));exact BK143.out) hb);have n2_:=Aside0.mk (below_step (by repeat (first|(with_reducible first|exact HB.out|apply below_alloc|apply pw_below_drewN|apply below_drew1|refine below_set ?_ GE142.out|refine below_set ?_ GE143.out)|exact HB.out)) hb);have n3_:=Aside0.mk (hbox);have n4_:=Aside0.mk ((by rw [hg];exact (below_size (by repeat (first|(with_reducible first|exact HB.out|apply below_alloc|apply pw_below_drewN|apply below_drew1|refine below_set ?_ GE142.out|refine below_set ?_ GE143.out)|exact HB.out))):w.heap.size≤gb145));have n5_:=Aside0.mk ((by rw [hg];exact (below_size (by repeat (first|(with_reducible first|exact HB.out|apply below_alloc|apply pw_below_drewN|apply below_drew1|refine below_set ?_ GE142.out|refine below_set ?_ GE143.out)|exact HB.out))):w.heap.size≤gb145));have n6_:=Aside0.mk ((by rw [hg];exact Nat.ne_of_lt (blk_lt (g:=gb142) (o:=.cells #[.slice A0_0 l0_0.length c0_0] 39 (0,0)) (by (with_reducible repeat (first|refine blk_drewN ?_ _|refine blk_drew ?_|refine blk_alloc ?_ _));exact BK142.out)):gb142 ≠ gb145));have n7_:=Aside0.mk ((by rw [hg];exact Nat.ne_of_gt (blk_lt (g:=gb142) (o:=.cells #[.slice A0_0 l0_0.length c0_0] 39 (0,0)) (by (with_reducible repeat (first|refine blk_drewN ?_ _|refine blk_drew ?_|refine blk_alloc ?_ _));exact BK142.out)):gb145 ≠ gb142));have n8_:=Aside0.mk ((by rw [hg];exact Nat.ne_of_lt (blk_lt (g:=gb143) (o:=.cells #[.int .i64 a1_0,.int .i64 a1_1,.int .i64 a1_2,.int .i64 a1_3,.int .i64 a1_4,.slice A1_5 l1_5.length c1_5,.slice (some ad144) l1_6.length c1_6,.slice A1_7 l1_7.length c1_7] 37 (0,0)) (by (with_reducible repeat (first|refine blk_drewN ?_ _|refine blk_drew ?_|refine blk_alloc ?_ _));exact BK143.out)):gb143 ≠ gb145));have n9_:=Aside0.mk ((by rw [hg];exact Nat.ne_of_gt (blk_lt (g:=gb143) (o:=.cells #[.int .i64 a1_0,.int .i64 a1_1,.int .i64 a1_2,.int .i64 a1_3,.int .i64 a1_4,.slice A1_5 l1_5.length c1_5,.slice (some ad144) l1_6.length c1_6,.slice A1_7 l1_7.length c1_7] 37 (0,0)) (by (with_reducible repeat (first|refine blk_drewN ?_ _|refine blk_drew ?_|refine blk_alloc ?_ _));exact BK143.out)):gb145 ≠ gb143));clear BK142;clear BK143;clear HB;have BK142:=n0_;have BK143:=n1_;have HB:=n2_;have BK145:=n3_;have GW145:=n4_;have GE145:=n5_;have NB142_145:=n6_;have NB145_142:=n7_;have NB143_145:=n8_;have NB145_143:=n9_;clear n0_ n1_ n2_ n3_ n4_ n5_ n6_ n7_ n8_ n9_;clear hb hbox hg;have hnb12:=NB145_142.out;have hnc12:=NB142_145.out;have hnb13:=NB145_143.out;have hnc13:=NB143_145.out;have hcz14_0:w11.cell? ⟨gb145,0,none⟩=some (.int .i64 0):=(blk_cell BK145.out 0).trans rfl;have hcz14_1:w11.cell? ⟨gb145,1,none⟩=some (.int .i64 0):=(blk_cell BK145.out 1).trans rfl;have hcz14_2:w11.cell? ⟨gb145,2,none⟩=some (.int .i64 0):=(blk_cell BK145.out 2).trans rfl;have hcz14_3:w11.cell? ⟨gb145,3,none⟩=some (.int .i64 0):=(blk_cell BK145.out 3).trans rfl;have hfz14_0:=blk_frozen BK145.out 0;have hfz14_1:=blk_frozen BK145.out 1;have hfz14_2:=blk_frozen BK145.out 2;have hfz14_3:=blk_frozen BK145.out 3))
      (try simp only [Act.put,List.setIfInBounds_toArray,List.set_cons_zero,List.set_cons_succ])
      go_cut [54] (fun v54 wc => ∃ (kq:Nat) (x54_9:Bool),v54=.bool x54_9∧Aside0 (class_rules_method.j1 kq (l1_5.length:Int) l1_6 (l1_6.length:Int) x14_1 x54_9 l0_0 a1_0 a1_1 a1_2 a1_3 a1_4 l1_5 l1_6 l1_7=some r)∧Aside0 (kq≤k1)∧Aside0 (wc.heap[gb142]?=some (.cells #[(.slice A0_0 l0_0.length c0_0)] 39 (0,0)))∧Aside0 (wc.heap[gb143]?=some (.cells #[.int .i64 a1_0,.int .i64 a1_1,.int .i64 a1_2,.int .i64 a1_3,.int .i64 a1_4,(.slice A1_5 l1_5.length c1_5),(.slice (some ad144) l1_6.length c1_6),(.slice A1_7 l1_7.length c1_7)] 37 (0,0)))∧Aside0 (wc.heap[gb145]?=some (.cells #[.int .i64 ((rd_T62 l1_6 x14_1).f0),.int .i64 ((rd_T62 l1_6 x14_1).f1),.int .i64 ((rd_T62 l1_6 x14_1).f2),.int .i64 ((rd_T62 l1_6 x14_1).f3)] 62 (0,0)))∧Aside0 (Below w.heap.size w wc))
      case first =>
       have H:=HC10.out
       clear HC10
       by_cases c15:((rd_T62 l1_6 x14_1).f0) < 0
       ·rw [if_pos c15] at H
        have c15b0:decide (((rd_T62 l1_6 x14_1).f0) < 0)=true:=decide_eq_true c15
        clear c15
        (first|rw [c15b0]|(simp only [i64_w,i32_w];rw [c15b0])|skip)
        have H':=Aside0.mk H
        clear H
        have hnb16:=NB145_142.out
        have hnc16:=NB142_145.out
        have hnb17:=NB145_143.out
        have hnc17:=NB143_145.out
        have hcz18_0:w11.cell? ⟨gb145,0,none⟩=some (.int .i64 0):=(blk_cell BK145.out 0).trans rfl
        have hcz18_1:w11.cell? ⟨gb145,1,none⟩=some (.int .i64 0):=(blk_cell BK145.out 1).trans rfl
        have hcz18_2:w11.cell? ⟨gb145,2,none⟩=some (.int .i64 0):=(blk_cell BK145.out 2).trans rfl
        have hcz18_3:w11.cell? ⟨gb145,3,none⟩=some (.int .i64 0):=(blk_cell BK145.out 3).trans rfl
        have hfz18_0:=blk_frozen BK145.out 0
        have hfz18_1:=blk_frozen BK145.out 1
        have hfz18_2:=blk_frozen BK145.out 2
        have hfz18_3:=blk_frozen BK145.out 3
        go_wp2
        go_meet
        case rel => exact ⟨_,(true),(by first|rfl|(simp;done)|(simp [*];done)),H',⟨by have:=HK1.out;first|omega|exact Nat.le_refl _⟩,⟨by (with_reducible repeat (first|refine blk_drewN ?_ _|refine blk_drew ?_|refine blk_alloc ?_ _));refine blk_far ?_ NB142_145.out _;(with_reducible repeat (first|refine blk_drewN ?_ _|refine blk_drew ?_|refine blk_alloc ?_ _));refine blk_far ?_ NB142_145.out _;(with_reducible repeat (first|refine blk_drewN ?_ _|refine blk_drew ?_|refine blk_alloc ?_ _));refine blk_far ?_ NB142_145.out _;(with_reducible repeat (first|refine blk_drewN ?_ _|refine blk_drew ?_|refine blk_alloc ?_ _));refine blk_far ?_ NB142_145.out _;(with_reducible repeat (first|refine blk_drewN ?_ _|refine blk_drew ?_|refine blk_alloc ?_ _));exact BK142.out⟩,⟨by (with_reducible repeat (first|refine blk_drewN ?_ _|refine blk_drew ?_|refine blk_alloc ?_ _));refine blk_far ?_ NB143_145.out _;(with_reducible repeat (first|refine blk_drewN ?_ _|refine blk_drew ?_|refine blk_alloc ?_ _));refine blk_far ?_ NB143_145.out _;(with_reducible repeat (first|refine blk_drewN ?_ _|refine blk_drew ?_|refine blk_alloc ?_ _));refine blk_far ?_ NB143_145.out _;(with_reducible repeat (first|refine blk_drewN ?_ _|refine blk_drew ?_|refine blk_alloc ?_ _));refine blk_far ?_ NB143_145.out _;(with_reducible repeat (first|refine blk_drewN ?_ _|refine blk_drew ?_|refine blk_alloc ?_ _));exact BK143.out⟩,⟨by (with_reducible repeat (first|refine blk_drewN ?_ _|refine blk_drew ?_|refine blk_alloc ?_ _));refine blk_put (cs:=#[.int .i64 ((rd_T62 l1_6 x14_1).f0),.int .i64 ((rd_T62 l1_6 x14_1).f1),.int .i64 ((rd_T62 l1_6 x14_1).f2),.int .i64 0]) ?_ 3 _ rfl;(with_reducible repeat (first|refine blk_drewN ?_ _|refine blk_drew ?_|refine blk_alloc ?_ _));refine blk_put (cs:=#[.int .i64 ((rd_T62 l1_6 x14_1).f0),.int .i64 ((rd_T62 l1_6 x14_1).f1),.int .i64 0,.int .i64 0]) ?_ 2 _ rfl;(with_reducible repeat (first|refine blk_drewN ?_ _|refine blk_drew ?_|refine blk_alloc ?_ _));refine blk_put (cs:=#[.int .i64 ((rd_T62 l1_6 x14_1).f0),.int .i64 0,.int .i64 0,.int .i64 0]) ?_ 1 _ rfl;(with_reducible repeat (first|refine blk_drewN ?_ _|refine blk_drew ?_|refine blk_alloc ?_ _));refine blk_put (cs:=#[.int .i64 0,.int .i64 0,.int .i64 0,.int .i64 0]) ?_ 0 _ rfl;(with_reducible repeat (first|refine blk_drewN ?_ _|refine blk_drew ?_|refine blk_alloc ?_ _));exact BK145.out⟩,⟨by repeat (first|(with_reducible first|exact HB.out|apply below_alloc|apply pw_below_drewN|apply below_drew1|refine below_set ?_ GE142.out|refine below_set ?_ GE143.out|refine below_set ?_ GE145.out)|exact HB.out)⟩⟩
       ·rw [if_neg c15] at H
        have c15b0:decide (((rd_T62 l1_6 x14_1).f0) < 0)=false:=decide_eq_false c15
        clear c15
        (first|rw [c15b0]|(simp only [i64_w,i32_w];rw [c15b0])|skip)
        by_cases c19:((rd_T62 l1_6 x14_1).f0) ≥ ((rd_T62 l1_6 x14_1).f1)
        ·rw [if_pos c19] at H
         have c19b0:decide (((rd_T62 l1_6 x14_1).f1)≤((rd_T62 l1_6 x14_1).f0))=true:=decide_eq_true c19
         clear c19
         have H':=Aside0.mk H
         clear H
         have hnb20:=NB145_142.out
         have hnc20:=NB142_145.out
         have hnb21:=NB145_143.out
         have hnc21:=NB143_145.out
         have hcz22_0:w11.cell? ⟨gb145,0,none⟩=some (.int .i64 0):=(blk_cell BK145.out 0).trans rfl
         have hcz22_1:w11.cell? ⟨gb145,1,none⟩=some (.int .i64 0):=(blk_cell BK145.out 1).trans rfl
         have hcz22_2:w11.cell? ⟨gb145,2,none⟩=some (.int .i64 0):=(blk_cell BK145.out 2).trans rfl
         have hcz22_3:w11.cell? ⟨gb145,3,none⟩=some (.int .i64 0):=(blk_cell BK145.out 3).trans rfl
         have hfz22_0:=blk_frozen BK145.out 0
         have hfz22_1:=blk_frozen BK145.out 1
         have hfz22_2:=blk_frozen BK145.out 2
         have hfz22_3:=blk_frozen BK145.out 3
         go_wp2
         go_meet
         case rel => exact ⟨_,(true),(by first|rfl|(simp;done)|(simp [*];done)),H',⟨by have:=HK1.out;first|omega|exact Nat.le_refl _⟩,⟨by (with_reducible repeat (first|refine blk_drewN ?_ _|refine blk_drew ?_|refine blk_alloc ?_ _));refine blk_far ?_ NB142_145.out _;(with_reducible repeat (first|refine blk_drewN ?_ _|refine blk_drew ?_|refine blk_alloc ?_ _));refine blk_far ?_ NB142_145.out _;(with_reducible repeat (first|refine blk_drewN ?_ _|refine blk_drew ?_|refine blk_alloc ?_ _));refine blk_far ?_ NB142_145.out _;(with_reducible repeat (first|refine blk_drewN ?_ _|refine blk_drew ?_|refine blk_alloc ?_ _));refine blk_far ?_ NB142_145.out _;(with_reducible repeat (first|refine blk_drewN ?_ _|refine blk_drew ?_|refine blk_alloc ?_ _));exact BK142.out⟩,⟨by (with_reducible repeat (first|refine blk_drewN ?_ _|refine blk_drew ?_|refine blk_alloc ?_ _));refine blk_far ?_ NB143_145.out _;(with_reducible repeat (first|refine blk_drewN ?_ _|refine blk_drew ?_|refine blk_alloc ?_ _));refine blk_far ?_ NB143_145.out _;(with_reducible repeat (first|refine blk_drewN ?_ _|refine blk_drew ?_|refine blk_alloc ?_ _));refine blk_far ?_ NB143_145.out _;(with_reducible repeat (first|refine blk_drewN ?_ _|refine blk_drew ?_|refine blk_alloc ?_ _));refine blk_far ?_ NB143_145.out _;(with_reducible repeat (first|refine blk_drewN ?_ _|refine blk_drew ?_|refine blk_alloc ?_ _));exact BK143.out⟩,⟨by (with_reducible repeat (first|refine blk_drewN ?_ _|refine blk_drew ?_|refine blk_alloc ?_ _));refine blk_put (cs:=#[.int .i64 ((rd_T62 l1_6 x14_1).f0),.int .i64 ((rd_T62 l1_6 x14_1).f1),.int .i64 ((rd_T62 l1_6 x14_1).f2),.int .i64 0]) ?_ 3 _ rfl;(with_reducible repeat (first|refine blk_drewN ?_ _|refine blk_drew ?_|refine blk_alloc ?_ _));refine blk_put (cs:=#[.int .i64 ((rd_T62 l1_6 x14_1).f0),.int .i64 ((rd_T62 l1_6 x14_1).f1),.int .i64 0,.int .i64 0]) ?_ 2 _ rfl;(with_reducible repeat (first|refine blk_drewN ?_ _|refine blk_drew ?_|refine blk_alloc ?_ _));refine blk_put (cs:=#[.int .i64 ((rd_T62 l1_6 x14_1).f0),.int .i64 0,.int .i64 0,.int .i64 0]) ?_ 1 _ rfl;(with_reducible repeat (first|refine blk_drewN ?_ _|refine blk_drew ?_|refine blk_alloc ?_ _));refine blk_put (cs:=#[.int .i64 0,.int .i64 0,.int .i64 0,.int .i64 0]) ?_ 0 _ rfl;(with_reducible repeat (first|refine blk_drewN ?_ _|refine blk_drew ?_|refine blk_alloc ?_ _));exact BK145.out⟩,⟨by repeat (first|(with_reducible first|exact HB.out|apply below_alloc|apply pw_below_drewN|apply below_drew1|refine below_set ?_ GE142.out|refine below_set ?_ GE143.out|refine below_set ?_ GE145.out)|exact HB.out)⟩⟩
        ·rw [if_neg c19] at H
         have c19b0:decide (((rd_T62 l1_6 x14_1).f1)≤((rd_T62 l1_6 x14_1).f0))=false:=decide_eq_false c19
         clear c19
         by_cases c23:((rd_T62 l1_6 x14_1).f1) > (l1_5.length:Int)
         ·rw [if_pos c23] at H
          have c23b0:decide ((l1_5.length:Int) < ((rd_T62 l1_6 x14_1).f1))=true:=decide_eq_true c23
          clear c23
          have H':=Aside0.mk H
          clear H
          have hnb24:=NB145_142.out
          have hnc24:=NB142_145.out
          have hnb25:=NB145_143.out
          have hnc25:=NB143_145.out
          have hcz26_0:w11.cell? ⟨gb145,0,none⟩=some (.int .i64 0):=(blk_cell BK145.out 0).trans rfl
          have hcz26_1:w11.cell? ⟨gb145,1,none⟩=some (.int .i64 0):=(blk_cell BK145.out 1).trans rfl
          have hcz26_2:w11.cell? ⟨gb145,2,none⟩=some (.int .i64 0):=(blk_cell BK145.out 2).trans rfl
          have hcz26_3:w11.cell? ⟨gb145,3,none⟩=some (.int .i64 0):=(blk_cell BK145.out 3).trans rfl
          have hfz26_0:=blk_frozen BK145.out 0
          have hfz26_1:=blk_frozen BK145.out 1
          have hfz26_2:=blk_frozen BK145.out 2
          have hfz26_3:=blk_frozen BK145.out 3
          go_wp2
          go_meet
          case rel => exact ⟨_,(true),(by first|rfl|(simp;done)|(simp [*];done)),H',⟨by have:=HK1.out;first|omega|exact Nat.le_refl _⟩,⟨by (with_reducible repeat (first|refine blk_drewN ?_ _|refine blk_drew ?_|refine blk_alloc ?_ _));refine blk_far ?_ NB142_145.out _;(with_reducible repeat (first|refine blk_drewN ?_ _|refine blk_drew ?_|refine blk_alloc ?_ _));refine blk_far ?_ NB142_145.out _;(with_reducible repeat (first|refine blk_drewN ?_ _|refine blk_drew ?_|refine blk_alloc ?_ _));refine blk_far ?_ NB142_145.out _;(with_reducible repeat (first|refine blk_drewN ?_ _|refine blk_drew ?_|refine blk_alloc ?_ _));refine blk_far ?_ NB142_145.out _;(with_reducible repeat (first|refine blk_drewN ?_ _|refine blk_drew ?_|refine blk_alloc ?_ _));exact BK142.out⟩,⟨by (with_reducible repeat (first|refine blk_drewN ?_ _|refine blk_drew ?_|refine blk_alloc ?_ _));refine blk_far ?_ NB143_145.out _;(with_reducible repeat (first|refine blk_drewN ?_ _|refine blk_drew ?_|refine blk_alloc ?_ _));refine blk_far ?_ NB143_145.out _;(with_reducible repeat (first|refine blk_drewN ?_ _|refine blk_drew ?_|refine blk_alloc ?_ _));refine blk_far ?_ NB143_145.out _;(with_reducible repeat (first|refine blk_drewN ?_ _|refine blk_drew ?_|refine blk_alloc ?_ _));refine blk_far ?_ NB143_145.out _;(with_reducible repeat (first|refine blk_drewN ?_ _|refine blk_drew ?_|refine blk_alloc ?_ _));exact BK143.out⟩,⟨by (with_reducible repeat (first|refine blk_drewN ?_ _|refine blk_drew ?_|refine blk_alloc ?_ _));refine blk_put (cs:=#[.int .i64 ((rd_T62 l1_6 x14_1).f0),.int .i64 ((rd_T62 l1_6 x14_1).f1),.int .i64 ((rd_T62 l1_6 x14_1).f2),.int .i64 0]) ?_ 3 _ rfl;(with_reducible repeat (first|refine blk_drewN ?_ _|refine blk_drew ?_|refine blk_alloc ?_ _));refine blk_put (cs:=#[.int .i64 ((rd_T62 l1_6 x14_1).f0),.int .i64 ((rd_T62 l1_6 x14_1).f1),.int .i64 0,.int .i64 0]) ?_ 2 _ rfl;(with_reducible repeat (first|refine blk_drewN ?_ _|refine blk_drew ?_|refine blk_alloc ?_ _));refine blk_put (cs:=#[.int .i64 ((rd_T62 l1_6 x14_1).f0),.int .i64 0,.int .i64 0,.int .i64 0]) ?_ 1 _ rfl;(with_reducible repeat (first|refine blk_drewN ?_ _|refine blk_drew ?_|refine blk_alloc ?_ _));refine blk_put (cs:=#[.int .i64 0,.int .i64 0,.int .i64 0,.int .i64 0]) ?_ 0 _ rfl;(with_reducible repeat (first|refine blk_drewN ?_ _|refine blk_drew ?_|refine blk_alloc ?_ _));exact BK145.out⟩,⟨by repeat (first|(with_reducible first|exact HB.out|apply below_alloc|apply pw_below_drewN|apply below_drew1|refine below_set ?_ GE142.out|refine below_set ?_ GE143.out|refine below_set ?_ GE145.out)|exact HB.out)⟩⟩
         ·rw [if_neg c23] at H
          have c23b0:decide ((l1_5.length:Int) < ((rd_T62 l1_6 x14_1).f1))=false:=decide_eq_false c23
          clear c23
          replace H:=Option.bind_eq_some_iff.mp H
          obtain ⟨t146,A270,H⟩:=H
          replace H:(if t146=true then (if ((rd_T62 l1_6 x14_1).f3)=0 then (class_rules_method.j1 k1 (l1_5.length:Int) l1_6 (l1_6.length:Int) x14_1 false l0_0 a1_0 a1_1 a1_2 a1_3 a1_4 l1_5 l1_6 l1_7) else ((class_rules_class.f k1 l0_0 (([(rd_T62 l1_6 x14_1).f3]:List Int))).bind fun t150 => (class_rules_method.j1 k1 (l1_5.length:Int) l1_6 (l1_6.length:Int) x14_1 (!t150) l0_0 a1_0 a1_1 a1_2 a1_3 a1_4 l1_5 l1_6 l1_7))) else (class_rules_method.j1 k1 (l1_5.length:Int) l1_6 (l1_6.length:Int) x14_1 true l0_0 a1_0 a1_1 a1_2 a1_3 a1_4 l1_5 l1_6 l1_7))=some r:=H
          have A27:=Aside0.mk A270
          clear A270
          by_cases c28:t146=true
          ·subst c28
           have H1:(if ((rd_T62 l1_6 x14_1).f3)=0 then (class_rules_method.j1 k1 (l1_5.length:Int) l1_6 (l1_6.length:Int) x14_1 false l0_0 a1_0 a1_1 a1_2 a1_3 a1_4 l1_5 l1_6 l1_7) else ((class_rules_class.f k1 l0_0 (([(rd_T62 l1_6 x14_1).f3]:List Int))).bind fun t150 => (class_rules_method.j1 k1 (l1_5.length:Int) l1_6 (l1_6.length:Int) x14_1 (!t150) l0_0 a1_0 a1_1 a1_2 a1_3 a1_4 l1_5 l1_6 l1_7)))=some r:=by rw [if_pos rfl] at H;exact H
           clear H
           have H:=H1
           clear H1
           by_cases c29:((rd_T62 l1_6 x14_1).f3)=0
           ·rw [if_pos c29] at H
            have c29b0:(((rd_T62 l1_6 x14_1).f3)==0)=true:=beq_iff_eq.mpr c29
            have c29b1:(((rd_T62 l1_6 x14_1).f3) != 0)=false:=bne_eq_false_iff_eq.mpr c29
            clear c29
            have H':=Aside0.mk H
            clear H
            have hnb30:=NB145_142.out
            have hnc30:=NB142_145.out
            have hnb31:=NB145_143.out
            have hnc31:=NB143_145.out
            have hcz32_0:w11.cell? ⟨gb145,0,none⟩=some (.int .i64 0):=(blk_cell BK145.out 0).trans rfl
            have hcz32_1:w11.cell? ⟨gb145,1,none⟩=some (.int .i64 0):=(blk_cell BK145.out 1).trans rfl
            have hcz32_2:w11.cell? ⟨gb145,2,none⟩=some (.int .i64 0):=(blk_cell BK145.out 2).trans rfl
            have hcz32_3:w11.cell? ⟨gb145,3,none⟩=some (.int .i64 0):=(blk_cell BK145.out 3).trans rfl
            have hfz32_0:=blk_frozen BK145.out 0
            have hfz32_1:=blk_frozen BK145.out 1
            have hfz32_2:=blk_frozen BK145.out 2
            have hfz32_3:=blk_frozen BK145.out 3
            go_wp2_with (first|(go_at_call 25;(with_reducible refine (class_within.calls ((rd_T62 l1_6 x14_1).f2) (wrap64 ((l1_5.length:Int) - 1)) true _ A27.out).mono ?_);rintro e w' ⟨rfl,⟨nd,rfl⟩⟩))
            go_meet
            case rel => exact ⟨_,(false),(by first|rfl|(simp;done)|(simp [*];done)),H',⟨by have:=HK1.out;first|omega|exact Nat.le_refl _⟩,⟨by (with_reducible repeat (first|refine blk_drewN ?_ _|refine blk_drew ?_|refine blk_alloc ?_ _));refine blk_far ?_ NB142_145.out _;(with_reducible repeat (first|refine blk_drewN ?_ _|refine blk_drew ?_|refine blk_alloc ?_ _));refine blk_far ?_ NB142_145.out _;(with_reducible repeat (first|refine blk_drewN ?_ _|refine blk_drew ?_|refine blk_alloc ?_ _));refine blk_far ?_ NB142_145.out _;(with_reducible repeat (first|refine blk_drewN ?_ _|refine blk_drew ?_|refine blk_alloc ?_ _));refine blk_far ?_ NB142_145.out _;(with_reducible repeat (first|refine blk_drewN ?_ _|refine blk_drew ?_|refine blk_alloc ?_ _));exact BK142.out⟩,⟨by (with_reducible repeat (first|refine blk_drewN ?_ _|refine blk_drew ?_|refine blk_alloc ?_ _));refine blk_far ?_ NB143_145.out _;(with_reducible repeat (first|refine blk_drewN ?_ _|refine blk_drew ?_|refine blk_alloc ?_ _));refine blk_far ?_ NB143_145.out _;(with_reducible repeat (first|refine blk_drewN ?_ _|refine blk_drew ?_|refine blk_alloc ?_ _));refine blk_far ?_ NB143_145.out _;(with_reducible repeat (first|refine blk_drewN ?_ _|refine blk_drew ?_|refine blk_alloc ?_ _));refine blk_far ?_ NB143_145.out _;(with_reducible repeat (first|refine blk_drewN ?_ _|refine blk_drew ?_|refine blk_alloc ?_ _));exact BK143.out⟩,⟨by (with_reducible repeat (first|refine blk_drewN ?_ _|refine blk_drew ?_|refine blk_alloc ?_ _));refine blk_put (cs:=#[.int .i64 ((rd_T62 l1_6 x14_1).f0),.int .i64 ((rd_T62 l1_6 x14_1).f1),.int .i64 ((rd_T62 l1_6 x14_1).f2),.int .i64 0]) ?_ 3 _ rfl;(with_reducible repeat (first|refine blk_drewN ?_ _|refine blk_drew ?_|refine blk_alloc ?_ _));refine blk_put (cs:=#[.int .i64 ((rd_T62 l1_6 x14_1).f0),.int .i64 ((rd_T62 l1_6 x14_1).f1),.int .i64 0,.int .i64 0]) ?_ 2 _ rfl;(with_reducible repeat (first|refine blk_drewN ?_ _|refine blk_drew ?_|refine blk_alloc ?_ _));refine blk_put (cs:=#[.int .i64 ((rd_T62 l1_6 x14_1).f0),.int .i64 0,.int .i64 0,.int .i64 0]) ?_ 1 _ rfl;(with_reducible repeat (first|refine blk_drewN ?_ _|refine blk_drew ?_|refine blk_alloc ?_ _));refine blk_put (cs:=#[.int .i64 0,.int .i64 0,.int .i64 0,.int .i64 0]) ?_ 0 _ rfl;(with_reducible repeat (first|refine blk_drewN ?_ _|refine blk_drew ?_|refine blk_alloc ?_ _));exact BK145.out⟩,⟨by repeat (first|(with_reducible first|exact HB.out|apply below_alloc|apply pw_below_drewN|apply below_drew1|refine below_set ?_ GE142.out|refine below_set ?_ GE143.out|refine below_set ?_ GE145.out)|exact HB.out)⟩⟩
           ·rw [if_neg c29] at H
            have c29b0:(((rd_T62 l1_6 x14_1).f3)==0)=false:=beq_eq_false_iff_ne.mpr c29
            have c29b1:(((rd_T62 l1_6 x14_1).f3) != 0)=true:=bne_iff_ne.mpr c29
            obtain ⟨y147,hy147⟩:∃ y_:List Int,y_=(([(rd_T62 l1_6 x14_1).f3]:List Int)):=⟨_,rfl⟩
            replace H:((class_rules_class.f k1 l0_0 y147).bind fun t150 => (class_rules_method.j1 k1 (l1_5.length:Int) l1_6 (l1_6.length:Int) x14_1 (!t150) l0_0 a1_0 a1_1 a1_2 a1_3 a1_4 l1_5 l1_6 l1_7))=some r:=by first|(rw [hy147];with_reducible exact H)|(have H2_:=(Option.bind_some _ _).symm.trans H;rw [hy147];with_reducible exact H2_)|(have H2_:=(Option.bind_some _ _).symm.trans H;with_reducible exact H2_)|with_reducible exact H|(rw [hy147];exact H)|exact H
            have Ny147:=Aside0.mk hy147
            clear hy147
            replace H:=Option.bind_eq_some_iff.mp H
            obtain ⟨t150,A330,H⟩:=H
            replace H:(class_rules_method.j1 k1 (l1_5.length:Int) l1_6 (l1_6.length:Int) x14_1 (!t150) l0_0 a1_0 a1_1 a1_2 a1_3 a1_4 l1_5 l1_6 l1_7)=some r:=H
            have A33:=Aside0.mk A330
            clear A330
            have H':=Aside0.mk H
            clear H
            have hnb34:=NB145_142.out
            have hnc34:=NB142_145.out
            have hnb35:=NB145_143.out
            have hnc35:=NB143_145.out
            have hcz36_0:w11.cell? ⟨gb145,0,none⟩=some (.int .i64 0):=(blk_cell BK145.out 0).trans rfl
            have hcz36_1:w11.cell? ⟨gb145,1,none⟩=some (.int .i64 0):=(blk_cell BK145.out 1).trans rfl
            have hcz36_2:w11.cell? ⟨gb145,2,none⟩=some (.int .i64 0):=(blk_cell BK145.out 2).trans rfl
            have hcz36_3:w11.cell? ⟨gb145,3,none⟩=some (.int .i64 0):=(blk_cell BK145.out 3).trans rfl
            have hfz36_0:=blk_frozen BK145.out 0
            have hfz36_1:=blk_frozen BK145.out 1
            have hfz36_2:=blk_frozen BK145.out 2
            have hfz36_3:=blk_frozen BK145.out 3
            go_wp2_with (first|(go_at_call 25;(with_reducible refine (class_within.calls ((rd_T62 l1_6 x14_1).f2) (wrap64 ((l1_5.length:Int) - 1)) true _ A27.out).mono ?_);rintro e w' ⟨rfl,⟨nd,rfl⟩⟩;have hnb37:=NB142_143.out;have hnc37:=NB143_142.out;have hcz38_0:w11.cell? ⟨gb142,0,none⟩=some (.slice A0_0 l0_0.length c0_0):=(blk_cell BK142.out 0).trans rfl;have hfz38_0:=blk_frozen BK142.out 0)|((with_reducible refine gate_dst (N:=50) rfl ?_);(try (refine gate_guard (by rfl) ?_;dsimp only));refine Kd.R_lit (Kd.int .i64) _ 3 ?hg (N:=50) ?hd (xs:=([(rd_T62 l1_6 x14_1).f3]:List Int)) (inner:=[.int .i64 ((rd_T62 l1_6 x14_1).f3)]) (ok:=fun _ => True) (okp:=fun _ => True) ?hr ?hp (fun _ hk => hk) trivial (Below.refl _ _) (Nat.le_refl _) (by simp) ?_;(case hd => rfl);(case hg => rfl);(case hr => first|(go_simp;done)|(go_simp;rfl));(case hp => exact (Reps.one (show Kd.M (Kd.int .i64) _ _ _ ((rd_T62 l1_6 x14_1).f3) [.int .i64 ((rd_T62 l1_6 x14_1).f3)] from rfl) (Reps.none _ _)));intro v148 w39 ho40 hb hg_ hnew_;clear hg_ hnew_;(first|rw [← Ny147.out] at ho40|(simp only [Int.reduceToNat] at ho40;rw [← Ny147.out] at ho40));have n0_:=Aside0.mk (Kd.R_lower ho40 (below_size (by repeat (first|(with_reducible first|exact HB.out|apply below_alloc|apply pw_below_drewN|apply below_drew1|refine below_set ?_ GE142.out|refine below_set ?_ GE143.out|refine below_set ?_ GE145.out)|exact HB.out))));have n1_:=Aside0.mk (blk_below (g:=gb142) (o:=.cells #[.slice A0_0 l0_0.length c0_0] 39 (0,0)) (by (with_reducible repeat (first|refine blk_drewN ?_ _|refine blk_drew ?_|refine blk_alloc ?_ _));refine blk_far ?_ NB142_145.out _;(with_reducible repeat (first|refine blk_drewN ?_ _|refine blk_drew ?_|refine blk_alloc ?_ _));refine blk_far ?_ NB142_145.out _;(with_reducible repeat (first|refine blk_drewN ?_ _|refine blk_drew ?_|refine blk_alloc ?_ _));refine blk_far ?_ NB142_145.out _;(with_reducible repeat (first|refine blk_drewN ?_ _|refine blk_drew ?_|refine blk_alloc ?_ _));refine blk_far ?_ NB142_145.out _;(with_reducible repeat (first|refine blk_drewN ?_ _|refine blk_drew ?_|refine blk_alloc ?_ _));exact BK142.out) hb);have n2_:=Aside0.mk (blk_below (g:=gb143) (o:=.cells #[.int .i64 a1_0,.int .i64 a1_1,.int .i64 a1_2,.int .i64 a1_3,.int .i64 a1_4,.slice A1_5 l1_5.length c1_5,.slice (some ad144) l1_6.length c1_6,.slice A1_7 l1_7.length c1_7] 37 (0,0)) (by (with_reducible repeat (first|refine blk_drewN ?_ _|refine blk_drew ?_|refine blk_alloc ?_ _));refine blk_far ?_ NB143_145.out _;(with_reducible repeat (first|refine blk_drewN ?_ _|refine blk_drew ?_|refine blk_alloc ?_ _));refine blk_far ?_ NB143_145.out _;(with_reducible repeat (first|refine blk_drewN ?_ _|refine blk_drew ?_|refine blk_alloc ?_ _));refine blk_far ?_ NB143_145.out _;(with_reducible repeat (first|refine blk_drewN ?_ _|refine blk_drew ?_|refine blk_alloc ?_ _));refine blk_far ?_ NB143_145.out _;(with_reducible repeat (first|refine blk_drewN ?_ _|refine blk_drew ?_|refine blk_alloc ?_ _));exact BK143.out) hb);have n3_:=Aside0.mk (blk_below (g:=gb145) (o:=.cells #[.int .i64 ((rd_T62 l1_6 x14_1).f0),.int .i64 ((rd_T62 l1_6 x14_1).f1),.int .i64 ((rd_T62 l1_6 x14_1).f2),.int .i64 ((rd_T62 l1_6 x14_1).f3)] 62 (0,0)) (by (with_reducible repeat (first|refine blk_drewN ?_ _|refine blk_drew ?_|refine blk_alloc ?_ _));refine blk_put (cs:=#[.int .i64 ((rd_T62 l1_6 x14_1).f0),.int .i64 ((rd_T62 l1_6 x14_1).f1),.int .i64 ((rd_T62 l1_6 x14_1).f2),.int .i64 0]) ?_ 3 _ rfl;(with_reducible repeat (first|refine blk_drewN ?_ _|refine blk_drew ?_|refine blk_alloc ?_ _));refine blk_put (cs:=#[.int .i64 ((rd_T62 l1_6 x14_1).f0),.int .i64 ((rd_T62 l1_6 x14_1).f1),.int .i64 0,.int .i64 0]) ?_ 2 _ rfl;(with_reducible repeat (first|refine blk_drewN ?_ _|refine blk_drew ?_|refine blk_alloc ?_ _));refine blk_put (cs:=#[.int .i64 ((rd_T62 l1_6 x14_1).f0),.int .i64 0,.int .i64 0,.int .i64 0]) ?_ 1 _ rfl;(with_reducible repeat (first|refine blk_drewN ?_ _|refine blk_drew ?_|refine blk_alloc ?_ _));refine blk_put (cs:=#[.int .i64 0,.int .i64 0,.int .i64 0,.int .i64 0]) ?_ 0 _ rfl;(with_reducible repeat (first|refine blk_drewN ?_ _|refine blk_drew ?_|refine blk_alloc ?_ _));exact BK145.out) hb);have n4_:=Aside0.mk (below_step (by repeat (first|(with_reducible first|exact HB.out|apply below_alloc|apply pw_below_drewN|apply below_drew1|refine below_set ?_ GE142.out|refine below_set ?_ GE143.out|refine below_set ?_ GE145.out)|exact HB.out)) hb);clear BK142;clear BK143;clear BK145;clear HB;have HO149:=n0_;have BK142:=n1_;have BK143:=n2_;have BK145:=n3_;have HB:=n4_;clear n0_ n1_ n2_ n3_ n4_;clear hb ho40;obtain ⟨Ao41,co41,eo41⟩:=Kd.R_slice HO149.out;subst eo41)|(go_at_call 12;(with_reducible refine (class_rules_class.calls k1 _ _ l0_0 _ _ y147 t150 _ ?side1 ?side2 ?side3 ?side4 A33.out).mono ?_);(case side1 => repeat (first|exact (Kd.C_below HR0_0.out HB.out)|(with_reducible refine Kd.C_alloc ?_ _)|(with_reducible refine Kd.C_drewN ?_ _)|(with_reducible refine Kd.C_drew ?_)));(case side2 => exact HC0_0.out);(case side3 => repeat (first|exact (Kd.R_reads' HO149.out).2.2|(with_reducible refine Kd.C_alloc ?_ _)|(with_reducible refine Kd.C_drewN ?_ _)|(with_reducible refine Kd.C_drew ?_)));(case side4 => exact (Kd.R_reads' HO149.out).2.1);rintro e w42 ⟨rfl,hb⟩;have n0_:=Aside0.mk (Kd.R_below (by (with_reducible repeat (first|apply Kd.R_alloc|apply Kd.R_drewN|apply Kd.R_drew));exact HO149.out) hb);have n1_:=Aside0.mk (blk_below (g:=gb142) (o:=.cells #[.slice A0_0 l0_0.length c0_0] 39 (0,0)) (by (with_reducible repeat (first|refine blk_drewN ?_ _|refine blk_drew ?_|refine blk_alloc ?_ _));exact BK142.out) hb);have n2_:=Aside0.mk (blk_below (g:=gb143) (o:=.cells #[.int .i64 a1_0,.int .i64 a1_1,.int .i64 a1_2,.int .i64 a1_3,.int .i64 a1_4,.slice A1_5 l1_5.length c1_5,.slice (some ad144) l1_6.length c1_6,.slice A1_7 l1_7.length c1_7] 37 (0,0)) (by (with_reducible repeat (first|refine blk_drewN ?_ _|refine blk_drew ?_|refine blk_alloc ?_ _));exact BK143.out) hb);have n3_:=Aside0.mk (blk_below (g:=gb145) (o:=.cells #[.int .i64 ((rd_T62 l1_6 x14_1).f0),.int .i64 ((rd_T62 l1_6 x14_1).f1),.int .i64 ((rd_T62 l1_6 x14_1).f2),.int .i64 ((rd_T62 l1_6 x14_1).f3)] 62 (0,0)) (by (with_reducible repeat (first|refine blk_drewN ?_ _|refine blk_drew ?_|refine blk_alloc ?_ _));exact BK145.out) hb);have n4_:=Aside0.mk (below_step (by repeat (first|(with_reducible first|exact HB.out|apply below_alloc|apply pw_below_drewN|apply below_drew1|refine below_set ?_ GE142.out|refine below_set ?_ GE143.out|refine below_set ?_ GE145.out)|exact HB.out)) hb);clear HO149;clear BK142;clear BK143;clear BK145;clear HB;have HO149:=n0_;have BK142:=n1_;have BK143:=n2_;have BK145:=n3_;have HB:=n4_;clear n0_ n1_ n2_ n3_ n4_;(try clear hb);(try clear hb2);(try clear hk);(try clear hi)))
            go_meet
            case rel => exact ⟨_,(!t150),(by first|rfl|(simp;done)|(simp [*];done)),H',⟨by have:=HK1.out;first|omega|exact Nat.le_refl _⟩,⟨by (with_reducible repeat (first|refine blk_drewN ?_ _|refine blk_drew ?_|refine blk_alloc ?_ _));exact BK142.out⟩,⟨by (with_reducible repeat (first|refine blk_drewN ?_ _|refine blk_drew ?_|refine blk_alloc ?_ _));exact BK143.out⟩,⟨by (with_reducible repeat (first|refine blk_drewN ?_ _|refine blk_drew ?_|refine blk_alloc ?_ _));exact BK145.out⟩,⟨by repeat (first|(with_reducible first|exact HB.out|apply below_alloc|apply pw_below_drewN|apply below_drew1|refine below_set ?_ GE142.out|refine below_set ?_ GE143.out|refine below_set ?_ GE145.out)|exact HB.out)⟩⟩
          ·replace c28:=Bool.eq_false_iff.mpr c28
           subst c28
           have H1:(class_rules_method.j1 k1 (l1_5.length:Int) l1_6 (l1_6.length:Int) x14_1 true l0_0 a1_0 a1_1 a1_2 a1_3 a1_4 l1_5 l1_6 l1_7)=some r:=by rw [if_neg (show ¬ (false=true) by decide)] at H;exact H
           clear H
           have H:=H1
           clear H1
           have H':=Aside0.mk H
           clear H
           have hnb43:=NB145_142.out
           have hnc43:=NB142_145.out
           have hnb44:=NB145_143.out
           have hnc44:=NB143_145.out
           have hcz45_0:w11.cell? ⟨gb145,0,none⟩=some (.int .i64 0):=(blk_cell BK145.out 0).trans rfl
           have hcz45_1:w11.cell? ⟨gb145,1,none⟩=some (.int .i64 0):=(blk_cell BK145.out 1).trans rfl
           have hcz45_2:w11.cell? ⟨gb145,2,none⟩=some (.int .i64 0):=(blk_cell BK145.out 2).trans rfl
           have hcz45_3:w11.cell? ⟨gb145,3,none⟩=some (.int .i64 0):=(blk_cell BK145.out 3).trans rfl
           have hfz45_0:=blk_frozen BK145.out 0
           have hfz45_1:=blk_frozen BK145.out 1
           have hfz45_2:=blk_frozen BK145.out 2
           have hfz45_3:=blk_frozen BK145.out 3
           go_wp2_with (first|(go_at_call 25;(with_reducible refine (class_within.calls ((rd_T62 l1_6 x14_1).f2) (wrap64 ((l1_5.length:Int) - 1)) false _ A27.out).mono ?_);rintro e w' ⟨rfl,⟨nd,rfl⟩⟩))
           go_meet
           case rel => exact ⟨_,(true),(by first|rfl|(simp;done)|(simp [*];done)),H',⟨by have:=HK1.out;first|omega|exact Nat.le_refl _⟩,⟨by (with_reducible repeat (first|refine blk_drewN ?_ _|refine blk_drew ?_|refine blk_alloc ?_ _));refine blk_far ?_ NB142_145.out _;(with_reducible repeat (first|refine blk_drewN ?_ _|refine blk_drew ?_|refine blk_alloc ?_ _));refine blk_far ?_ NB142_145.out _;(with_reducible repeat (first|refine blk_drewN ?_ _|refine blk_drew ?_|refine blk_alloc ?_ _));refine blk_far ?_ NB142_145.out _;(with_reducible repeat (first|refine blk_drewN ?_ _|refine blk_drew ?_|refine blk_alloc ?_ _));refine blk_far ?_ NB142_145.out _;(with_reducible repeat (first|refine blk_drewN ?_ _|refine blk_drew ?_|refine blk_alloc ?_ _));exact BK142.out⟩,⟨by (with_reducible repeat (first|refine blk_drewN ?_ _|refine blk_drew ?_|refine blk_alloc ?_ _));refine blk_far ?_ NB143_145.out _;(with_reducible repeat (first|refine blk_drewN ?_ _|refine blk_drew ?_|refine blk_alloc ?_ _));refine blk_far ?_ NB143_145.out _;(with_reducible repeat (first|refine blk_drewN ?_ _|refine blk_drew ?_|refine blk_alloc ?_ _));refine blk_far ?_ NB143_145.out _;(with_reducible repeat (first|refine blk_drewN ?_ _|refine blk_drew ?_|refine blk_alloc ?_ _));refine blk_far ?_ NB143_145.out _;(with_reducible repeat (first|refine blk_drewN ?_ _|refine blk_drew ?_|refine blk_alloc ?_ _));exact BK143.out⟩,⟨by (with_reducible repeat (first|refine blk_drewN ?_ _|refine blk_drew ?_|refine blk_alloc ?_ _));refine blk_put (cs:=#[.int .i64 ((rd_T62 l1_6 x14_1).f0),.int .i64 ((rd_T62 l1_6 x14_1).f1),.int .i64 ((rd_T62 l1_6 x14_1).f2),.int .i64 0]) ?_ 3 _ rfl;(with_reducible repeat (first|refine blk_drewN ?_ _|refine blk_drew ?_|refine blk_alloc ?_ _));refine blk_put (cs:=#[.int .i64 ((rd_T62 l1_6 x14_1).f0),.int .i64 ((rd_T62 l1_6 x14_1).f1),.int .i64 0,.int .i64 0]) ?_ 2 _ rfl;(with_reducible repeat (first|refine blk_drewN ?_ _|refine blk_drew ?_|refine blk_alloc ?_ _));refine blk_put (cs:=#[.int .i64 ((rd_T62 l1_6 x14_1).f0),.int .i64 0,.int .i64 0,.int .i64 0]) ?_ 1 _ rfl;(with_reducible repeat (first|refine blk_drewN ?_ _|refine blk_drew ?_|refine blk_alloc ?_ _));refine blk_put (cs:=#[.int .i64 0,.int .i64 0,.int .i64 0,.int .i64 0]) ?_ 0 _ rfl;(with_reducible repeat (first|refine blk_drewN ?_ _|refine blk_drew ?_|refine blk_alloc ?_ _));exact BK145.out⟩,⟨by repeat (first|(with_reducible first|exact HB.out|apply below_alloc|apply pw_below_drewN|apply below_drew1|refine below_set ?_ GE142.out|refine below_set ?_ GE143.out|refine below_set ?_ GE145.out)|exact HB.out)⟩⟩
      case rest =>
       clear HC10
       try clear c1;try clear p1;try clear q1;try clear hx1;try clear c2;try clear p2;try clear c3;try clear c4;try clear c5;try clear p6;try clear c7;try clear c7b0;try clear c8;try clear c8b0;try clear c9;try clear c9b0;try clear c12;try clear c13;try clear p14;try clear q14;try clear hx14;try clear c15;try clear c15b0;try clear c16;try clear c17;try clear c19;try clear c19b0;try clear c20;try clear c21;try clear c23;try clear c23b0;try clear c24;try clear c25;try clear c28;try clear c29;try clear c29b0;try clear c29b1;try clear c30;try clear c31;try clear c34;try clear c35;try clear c37;try clear c43;try clear c44;try clear hcz14_0;try clear hcz14_1;try clear hcz14_2;try clear hcz14_3;try clear hcz18_0;try clear hcz18_1;try clear hcz18_2;try clear hcz18_3;try clear hcz22_0;try clear hcz22_1;try clear hcz22_2;try clear hcz22_3;try clear hcz26_0;try clear hcz26_1;try clear hcz26_2;try clear hcz26_3;try clear hcz32_0;try clear hcz32_1;try clear hcz32_2;try clear hcz32_3;try clear hcz36_0;try clear hcz36_1;try clear hcz36_2;try clear hcz36_3;try clear hcz38_0;try clear hcz45_0;try clear hcz45_1;try clear hcz45_2;try clear hcz45_3;try clear hcz6_0;try clear hcz6_1;try clear hcz6_2;try clear hcz6_3;try clear hcz6_4;try clear hcz6_5;try clear hcz6_6;try clear hcz6_7;try clear hfz14_0;try clear hfz14_1;try clear hfz14_2;try clear hfz14_3;try clear hfz18_0;try clear hfz18_1;try clear hfz18_2;try clear hfz18_3;try clear hfz22_0;try clear hfz22_1;try clear hfz22_2;try clear hfz22_3;try clear hfz26_0;try clear hfz26_1;try clear hfz26_2;try clear hfz26_3;try clear hfz32_0;try clear hfz32_1;try clear hfz32_2;try clear hfz32_3;try clear hfz36_0;try clear hfz36_1;try clear hfz36_2;try clear hfz36_3;try clear hfz38_0;try clear hfz45_0;try clear hfz45_1;try clear hfz45_2;try clear hfz45_3;try clear hfz6_0;try clear hfz6_1;try clear hfz6_2;try clear hfz6_3;try clear hfz6_4;try clear hfz6_5;try clear hfz6_6;try clear hfz6_7;try clear hx144_0;try clear hx144_1;try clear hx144_2;try clear hx144_3;try clear p144;try clear p2;try clear q144
       obtain ⟨kq,x54_9,rfl,HA,HJ9,BK142,BK143,BK145,HB⟩:=hcut
       cases kq with
       | zero => exact absurd HA.out (by simp [class_rules_method.j1])
       | succ kj9 =>
        have H:=HA.out
        clear HA
        simp only [class_rules_method.j1] at H
        by_cases c46:x54_9=true
        ·subst c46
         have H1:(some false)=some r:=by rw [if_pos rfl] at H;exact H
         clear H
         have H:=H1
         clear H1
         obtain rfl:=Option.some.inj H
         go_wp2
         go_ret
         exact ⟨by first|rfl|(simp [errW_none,errW_some] <;> rfl)|(simp [*,errW_none,errW_some] <;> rfl),by repeat (first|(with_reducible first|exact HB.out|apply below_alloc|apply pw_below_drewN|apply below_drew1|refine below_set ?_ GE142.out|refine below_set ?_ GE143.out|refine below_set ?_ GE145.out)|exact HB.out)⟩
        ·replace c46:=Bool.eq_false_iff.mpr c46
         subst c46
         have H1:(class_rules_method.l0 kj9 (l1_5.length:Int) l1_6 (l1_6.length:Int) (wrap64 (x14_1 + 1)) l0_0 a1_0 a1_1 a1_2 a1_3 a1_4 l1_5 l1_6 l1_7)=some r:=by rw [if_neg (show ¬ (false=true) by decide)] at H;exact H
         clear H
         have H:=H1
         clear H1
         have H':=Aside0.mk H
         clear H
         go_wp2
         go_roundg kj9
         case measure => have:=HK1.out;have:=HJ9.out;omega
         case rel => exact ⟨(wrap64 (x14_1 + 1)),(by first|rfl|(simp;done)|(simp [*];done)),H',⟨by have:=HK1.out;have:=HJ9.out;omega⟩,⟨by (with_reducible repeat (first|refine blk_drewN ?_ _|refine blk_drew ?_|refine blk_alloc ?_ _));exact BK142.out⟩,⟨by (with_reducible repeat (first|refine blk_drewN ?_ _|refine blk_drew ?_|refine blk_alloc ?_ _));exact BK143.out⟩,⟨by repeat (first|(with_reducible first|exact HB.out|apply below_alloc|apply pw_below_drewN|apply below_drew1|refine below_set ?_ GE142.out|refine below_set ?_ GE143.out|refine below_set ?_ GE145.out)|exact HB.out)⟩⟩
     ·rw [if_neg c9] at H
      exact absurd H (by simp)
    ·rw [if_neg c8] at H
     exact absurd H (by simp)
   ·rw [if_neg c7] at H
    have c7b0:decide (x14_1 < (l1_6.length:Int))=false:=decide_eq_false c7
    clear c7
    replace H:=Option.bind_eq_some_iff.mp H
    obtain ⟨t151,A470,H⟩:=H
    replace H:(if t151=true then ((class_rules_text.f k1 l0_0 (([a1_1,a1_2]:List Int))).bind fun t155 => (if t155=true then ((class_within.f a1_3 64).bind fun t156 => (if t156=true then ((class_within.f a1_4 64).bind fun t157 => (if t157=true then ((class_within.f (wrap64 ((l1_5.length:Int) - 1)) 4095).bind fun t158 => (if t158=true then (if (l1_7.length:Int)≤4096 then ((class_place.f k1 l0_0 (⟨#[67,111,100,101]⟩:ByteArray)).bind fun t159 => (if t159 > 0 then (if (l1_7.length:Int)=0 then (some true) else ((class_place.f k1 l0_0 (⟨#[83,116,97,99,107,77,97,112,84,97,98,108,101]⟩:ByteArray)).bind fun t160 => (some (decide (t160 > 0))))) else (some false))) else (some false)) else (some false))) else (some false))) else (some false))) else (some false))) else (some false))=some r:=H
    have A47:=Aside0.mk A470
    clear A470
    by_cases c48:t151=true
    ·subst c48
     have H1:((class_rules_text.f k1 l0_0 (([a1_1,a1_2]:List Int))).bind fun t155 => (if t155=true then ((class_within.f a1_3 64).bind fun t156 => (if t156=true then ((class_within.f a1_4 64).bind fun t157 => (if t157=true then ((class_within.f (wrap64 ((l1_5.length:Int) - 1)) 4095).bind fun t158 => (if t158=true then (if (l1_7.length:Int)≤4096 then ((class_place.f k1 l0_0 (⟨#[67,111,100,101]⟩:ByteArray)).bind fun t159 => (if t159 > 0 then (if (l1_7.length:Int)=0 then (some true) else ((class_place.f k1 l0_0 (⟨#[83,116,97,99,107,77,97,112,84,97,98,108,101]⟩:ByteArray)).bind fun t160 => (some (decide (t160 > 0))))) else (some false))) else (some false)) else (some false))) else (some false))) else (some false))) else (some false)))=some r:=by rw [if_pos rfl] at H;exact H
     clear H
     have H:=H1
     clear H1
     obtain ⟨y152,hy152⟩:∃ y_:List Int,y_=(([a1_1,a1_2]:List Int)):=⟨_,rfl⟩
     replace H:((class_rules_text.f k1 l0_0 y152).bind fun t155 => (if t155=true then ((class_within.f a1_3 64).bind fun t156 => (if t156=true then ((class_within.f a1_4 64).bind fun t157 => (if t157=true then ((class_within.f (wrap64 ((l1_5.length:Int) - 1)) 4095).bind fun t158 => (if t158=true then (if (l1_7.length:Int)≤4096 then ((class_place.f k1 l0_0 (⟨#[67,111,100,101]⟩:ByteArray)).bind fun t159 => (if t159 > 0 then (if (l1_7.length:Int)=0 then (some true) else ((class_place.f k1 l0_0 (⟨#[83,116,97,99,107,77,97,112,84,97,98,108,101]⟩:ByteArray)).bind fun t160 => (some (decide (t160 > 0))))) else (some false))) else (some false)) else (some false))) else (some false))) else (some false))) else (some false)))=some r:=by first|(rw [hy152];with_reducible exact H)|(have H2_:=(Option.bind_some _ _).symm.trans H;rw [hy152];with_reducible exact H2_)|(have H2_:=(Option.bind_some _ _).symm.trans H;with_reducible exact H2_)|with_reducible exact H|(rw [hy152];exact H)|exact H
     have Ny152:=Aside0.mk hy152
     clear hy152
     replace H:=Option.bind_eq_some_iff.mp H
     obtain ⟨t155,A490,H⟩:=H
     replace H:(if t155=true then ((class_within.f a1_3 64).bind fun t156 => (if t156=true then ((class_within.f a1_4 64).bind fun t157 => (if t157=true then ((class_within.f (wrap64 ((l1_5.length:Int) - 1)) 4095).bind fun t158 => (if t158=true then (if (l1_7.length:Int)≤4096 then ((class_place.f k1 l0_0 (⟨#[67,111,100,101]⟩:ByteArray)).bind fun t159 => (if t159 > 0 then (if (l1_7.length:Int)=0 then (some true) else ((class_place.f k1 l0_0 (⟨#[83,116,97,99,107,77,97,112,84,97,98,108,101]⟩:ByteArray)).bind fun t160 => (some (decide (t160 > 0))))) else (some false))) else (some false)) else (some false))) else (some false))) else (some false))) else (some false))=some r:=H
     have A49:=Aside0.mk A490
     clear A490
     by_cases c50:t155=true
     ·subst c50
      have H1:((class_within.f a1_3 64).bind fun t156 => (if t156=true then ((class_within.f a1_4 64).bind fun t157 => (if t157=true then ((class_within.f (wrap64 ((l1_5.length:Int) - 1)) 4095).bind fun t158 => (if t158=true then (if (l1_7.length:Int)≤4096 then ((class_place.f k1 l0_0 (⟨#[67,111,100,101]⟩:ByteArray)).bind fun t159 => (if t159 > 0 then (if (l1_7.length:Int)=0 then (some true) else ((class_place.f k1 l0_0 (⟨#[83,116,97,99,107,77,97,112,84,97,98,108,101]⟩:ByteArray)).bind fun t160 => (some (decide (t160 > 0))))) else (some false))) else (some false)) else (some false))) else (some false))) else (some false)))=some r:=by rw [if_pos rfl] at H;exact H
      clear H
      have H:=H1
      clear H1
      replace H:=Option.bind_eq_some_iff.mp H
      obtain ⟨t156,A510,H⟩:=H
      replace H:(if t156=true then ((class_within.f a1_4 64).bind fun t157 => (if t157=true then ((class_within.f (wrap64 ((l1_5.length:Int) - 1)) 4095).bind fun t158 => (if t158=true then (if (l1_7.length:Int)≤4096 then ((class_place.f k1 l0_0 (⟨#[67,111,100,101]⟩:ByteArray)).bind fun t159 => (if t159 > 0 then (if (l1_7.length:Int)=0 then (some true) else ((class_place.f k1 l0_0 (⟨#[83,116,97,99,107,77,97,112,84,97,98,108,101]⟩:ByteArray)).bind fun t160 => (some (decide (t160 > 0))))) else (some false))) else (some false)) else (some false))) else (some false))) else (some false))=some r:=H
      have A51:=Aside0.mk A510
      clear A510
      by_cases c52:t156=true
      ·subst c52
       have H1:((class_within.f a1_4 64).bind fun t157 => (if t157=true then ((class_within.f (wrap64 ((l1_5.length:Int) - 1)) 4095).bind fun t158 => (if t158=true then (if (l1_7.length:Int)≤4096 then ((class_place.f k1 l0_0 (⟨#[67,111,100,101]⟩:ByteArray)).bind fun t159 => (if t159 > 0 then (if (l1_7.length:Int)=0 then (some true) else ((class_place.f k1 l0_0 (⟨#[83,116,97,99,107,77,97,112,84,97,98,108,101]⟩:ByteArray)).bind fun t160 => (some (decide (t160 > 0))))) else (some false))) else (some false)) else (some false))) else (some false)))=some r:=by rw [if_pos rfl] at H;exact H
       clear H
       have H:=H1
       clear H1
       replace H:=Option.bind_eq_some_iff.mp H
       obtain ⟨t157,A530,H⟩:=H
       replace H:(if t157=true then ((class_within.f (wrap64 ((l1_5.length:Int) - 1)) 4095).bind fun t158 => (if t158=true then (if (l1_7.length:Int)≤4096 then ((class_place.f k1 l0_0 (⟨#[67,111,100,101]⟩:ByteArray)).bind fun t159 => (if t159 > 0 then (if (l1_7.length:Int)=0 then (some true) else ((class_place.f k1 l0_0 (⟨#[83,116,97,99,107,77,97,112,84,97,98,108,101]⟩:ByteArray)).bind fun t160 => (some (decide (t160 > 0))))) else (some false))) else (some false)) else (some false))) else (some false))=some r:=H
       have A53:=Aside0.mk A530
       clear A530
       by_cases c54:t157=true
       ·subst c54
        have H1:((class_within.f (wrap64 ((l1_5.length:Int) - 1)) 4095).bind fun t158 => (if t158=true then (if (l1_7.length:Int)≤4096 then ((class_place.f k1 l0_0 (⟨#[67,111,100,101]⟩:ByteArray)).bind fun t159 => (if t159 > 0 then (if (l1_7.length:Int)=0 then (some true) else ((class_place.f k1 l0_0 (⟨#[83,116,97,99,107,77,97,112,84,97,98,108,101]⟩:ByteArray)).bind fun t160 => (some (decide (t160 > 0))))) else (some false))) else (some false)) else (some false)))=some r:=by rw [if_pos rfl] at H;exact H
        clear H
        have H:=H1
        clear H1
        replace H:=Option.bind_eq_some_iff.mp H
        obtain ⟨t158,A550,H⟩:=H
        replace H:(if t158=true then (if (l1_7.length:Int)≤4096 then ((class_place.f k1 l0_0 (⟨#[67,111,100,101]⟩:ByteArray)).bind fun t159 => (if t159 > 0 then (if (l1_7.length:Int)=0 then (some true) else ((class_place.f k1 l0_0 (⟨#[83,116,97,99,107,77,97,112,84,97,98,108,101]⟩:ByteArray)).bind fun t160 => (some (decide (t160 > 0))))) else (some false))) else (some false)) else (some false))=some r:=H
        have A55:=Aside0.mk A550
        clear A550
        by_cases c56:t158=true
        ·subst c56
         have H1:(if (l1_7.length:Int)≤4096 then ((class_place.f k1 l0_0 (⟨#[67,111,100,101]⟩:ByteArray)).bind fun t159 => (if t159 > 0 then (if (l1_7.length:Int)=0 then (some true) else ((class_place.f k1 l0_0 (⟨#[83,116,97,99,107,77,97,112,84,97,98,108,101]⟩:ByteArray)).bind fun t160 => (some (decide (t160 > 0))))) else (some false))) else (some false))=some r:=by rw [if_pos rfl] at H;exact H
         clear H
         have H:=H1
         clear H1
         by_cases c57:(l1_7.length:Int)≤4096
         ·rw [if_pos c57] at H
          have c57b0:decide ((l1_7.length:Int)≤4096)=true:=decide_eq_true c57
          have c57b1:decide (l1_7.length≤4096)=true:=decide_eq_true (by omega)
          clear c57
          replace H:=Option.bind_eq_some_iff.mp H
          obtain ⟨t159,A580,H⟩:=H
          replace H:(if t159 > 0 then (if (l1_7.length:Int)=0 then (some true) else ((class_place.f k1 l0_0 (⟨#[83,116,97,99,107,77,97,112,84,97,98,108,101]⟩:ByteArray)).bind fun t160 => (some (decide (t160 > 0))))) else (some false))=some r:=H
          have A58:=Aside0.mk A580
          clear A580
          by_cases c59:t159 > 0
          ·rw [if_pos c59] at H
           have c59b0:decide (0 < t159)=true:=decide_eq_true c59
           clear c59
           by_cases c60:(l1_7.length:Int)=0
           ·rw [if_pos c60] at H
            have c60b0:((l1_7.length:Int)==0)=true:=beq_iff_eq.mpr c60
            have c60b1:((l1_7.length:Int) != 0)=false:=bne_eq_false_iff_eq.mpr c60
            clear c60
            obtain rfl:=Option.some.inj H
            have hnb61:=NB143_142.out
            have hnc61:=NB142_143.out
            have hcz62_0:wr.cell? ⟨gb143,0,none⟩=some (.int .i64 a1_0):=(blk_cell BK143.out 0).trans rfl
            have hcz62_1:wr.cell? ⟨gb143,1,none⟩=some (.int .i64 a1_1):=(blk_cell BK143.out 1).trans rfl
            have hcz62_2:wr.cell? ⟨gb143,2,none⟩=some (.int .i64 a1_2):=(blk_cell BK143.out 2).trans rfl
            have hcz62_3:wr.cell? ⟨gb143,3,none⟩=some (.int .i64 a1_3):=(blk_cell BK143.out 3).trans rfl
            have hcz62_4:wr.cell? ⟨gb143,4,none⟩=some (.int .i64 a1_4):=(blk_cell BK143.out 4).trans rfl
            have hcz62_5:wr.cell? ⟨gb143,5,none⟩=some (.slice A1_5 l1_5.length c1_5):=(blk_cell BK143.out 5).trans rfl
            have hcz62_6:wr.cell? ⟨gb143,6,none⟩=some (.slice A1_6 l1_6.length c1_6):=(blk_cell BK143.out 6).trans rfl
            have hcz62_7:wr.cell? ⟨gb143,7,none⟩=some (.slice A1_7 l1_7.length c1_7):=(blk_cell BK143.out 7).trans rfl
            have hfz62_0:=blk_frozen BK143.out 0
            have hfz62_1:=blk_frozen BK143.out 1
            have hfz62_2:=blk_frozen BK143.out 2
            have hfz62_3:=blk_frozen BK143.out 3
            have hfz62_4:=blk_frozen BK143.out 4
            have hfz62_5:=blk_frozen BK143.out 5
            have hfz62_6:=blk_frozen BK143.out 6
            have hfz62_7:=blk_frozen BK143.out 7
            go_wp2_with (first|((with_reducible refine gate_callee (f:=13) rfl ?_);refine goesL_ (some 58) rfl rfl Tryd.func13 (by kernel_rfl) rfl #[.int .i64 a1_0] rfl (by (try simp only [List.map_toArray,List.map_cons,List.map_nil]);first|done|rfl|(simp only [List.length_drop,List.length_take];rfl)) ?_;(with_reducible refine (class_flags.calls a1_0 true _ A47.out).mono ?_);rintro e w' ⟨rfl,⟨nd,rfl⟩⟩;refine ⟨_,rfl,?_⟩;have hcz63_0:wr.cell? ⟨gb142,0,none⟩=some (.slice A0_0 l0_0.length c0_0):=(blk_cell BK142.out 0).trans rfl;have hfz63_0:=blk_frozen BK142.out 0)|((with_reducible refine gate_dst (N:=65) rfl ?_);(try (refine gate_guard (by rfl) ?_;dsimp only));refine Kd.R_lit (Kd.int .i64) _ 3 ?hg (N:=65) ?hd (xs:=([a1_1,a1_2]:List Int)) (inner:=[.int .i64 a1_1,.int .i64 a1_2]) (ok:=fun _ => True) (okp:=fun _ => True) ?hr ?hp (fun _ hk => hk) trivial (Below.refl _ _) (Nat.le_refl _) (by simp) ?_;(case hd => rfl);(case hg => rfl);(case hr => first|(go_simp;done)|(go_simp;rfl));(case hp => exact (Reps.one (show Kd.M (Kd.int .i64) _ _ _ a1_1 [.int .i64 a1_1] from rfl) (Reps.one (show Kd.M (Kd.int .i64) _ _ _ a1_2 [.int .i64 a1_2] from rfl) (Reps.none _ _))));intro v153 w64 ho65 hb hg_ hnew_;clear hg_ hnew_;(first|rw [← Ny152.out] at ho65|(simp only [Int.reduceToNat] at ho65;rw [← Ny152.out] at ho65));have n0_:=Aside0.mk (Kd.R_lower ho65 (below_size (by repeat (first|(with_reducible first|exact HB.out|apply below_alloc|apply pw_below_drewN|apply below_drew1|refine below_set ?_ GE142.out|refine below_set ?_ GE143.out)|exact HB.out))));have n1_:=Aside0.mk (blk_below (g:=gb142) (o:=.cells #[.slice A0_0 l0_0.length c0_0] 39 (0,0)) (by (with_reducible repeat (first|refine blk_drewN ?_ _|refine blk_drew ?_|refine blk_alloc ?_ _));exact BK142.out) hb);have n2_:=Aside0.mk (blk_below (g:=gb143) (o:=.cells #[.int .i64 a1_0,.int .i64 a1_1,.int .i64 a1_2,.int .i64 a1_3,.int .i64 a1_4,.slice A1_5 l1_5.length c1_5,.slice A1_6 l1_6.length c1_6,.slice A1_7 l1_7.length c1_7] 37 (0,0)) (by (with_reducible repeat (first|refine blk_drewN ?_ _|refine blk_drew ?_|refine blk_alloc ?_ _));exact BK143.out) hb);have n3_:=Aside0.mk (below_step (by repeat (first|(with_reducible first|exact HB.out|apply below_alloc|apply pw_below_drewN|apply below_drew1|refine below_set ?_ GE142.out|refine below_set ?_ GE143.out)|exact HB.out)) hb);clear BK142;clear BK143;clear HB;have HO154:=n0_;have BK142:=n1_;have BK143:=n2_;have HB:=n3_;clear n0_ n1_ n2_ n3_;clear hb ho65;obtain ⟨Ao66,co66,eo66⟩:=Kd.R_slice HO154.out;subst eo66)|(go_at_call 14;(with_reducible refine (class_rules_text.calls k1 _ _ l0_0 _ _ y152 true _ ?side1 ?side2 ?side3 ?side4 A49.out).mono ?_);(case side1 => repeat (first|exact (Kd.C_below HR0_0.out HB.out)|(with_reducible refine Kd.C_alloc ?_ _)|(with_reducible refine Kd.C_drewN ?_ _)|(with_reducible refine Kd.C_drew ?_)));(case side2 => exact HC0_0.out);(case side3 => repeat (first|exact (Kd.R_reads' HO154.out).2.2|(with_reducible refine Kd.C_alloc ?_ _)|(with_reducible refine Kd.C_drewN ?_ _)|(with_reducible refine Kd.C_drew ?_)));(case side4 => exact (Kd.R_reads' HO154.out).2.1);rintro e w67 ⟨rfl,hb⟩;have n0_:=Aside0.mk (Kd.R_below (by (with_reducible repeat (first|apply Kd.R_alloc|apply Kd.R_drewN|apply Kd.R_drew));exact HO154.out) hb);have n1_:=Aside0.mk (blk_below (g:=gb142) (o:=.cells #[.slice A0_0 l0_0.length c0_0] 39 (0,0)) (by (with_reducible repeat (first|refine blk_drewN ?_ _|refine blk_drew ?_|refine blk_alloc ?_ _));exact BK142.out) hb);have n2_:=Aside0.mk (blk_below (g:=gb143) (o:=.cells #[.int .i64 a1_0,.int .i64 a1_1,.int .i64 a1_2,.int .i64 a1_3,.int .i64 a1_4,.slice A1_5 l1_5.length c1_5,.slice A1_6 l1_6.length c1_6,.slice A1_7 l1_7.length c1_7] 37 (0,0)) (by (with_reducible repeat (first|refine blk_drewN ?_ _|refine blk_drew ?_|refine blk_alloc ?_ _));exact BK143.out) hb);have n3_:=Aside0.mk (below_step (by repeat (first|(with_reducible first|exact HB.out|apply below_alloc|apply pw_below_drewN|apply below_drew1|refine below_set ?_ GE142.out|refine below_set ?_ GE143.out)|exact HB.out)) hb);clear HO154;clear BK142;clear BK143;clear HB;have HO154:=n0_;have BK142:=n1_;have BK143:=n2_;have HB:=n3_;clear n0_ n1_ n2_ n3_;(try clear hb);(try clear hb2);(try clear hk);(try clear hi);have hcz68_0:w67.cell? ⟨gb143,0,none⟩=some (.int .i64 a1_0):=(blk_cell BK143.out 0).trans rfl;have hcz68_1:w67.cell? ⟨gb143,1,none⟩=some (.int .i64 a1_1):=(blk_cell BK143.out 1).trans rfl;have hcz68_2:w67.cell? ⟨gb143,2,none⟩=some (.int .i64 a1_2):=(blk_cell BK143.out 2).trans rfl;have hcz68_3:w67.cell? ⟨gb143,3,none⟩=some (.int .i64 a1_3):=(blk_cell BK143.out 3).trans rfl;have hcz68_4:w67.cell? ⟨gb143,4,none⟩=some (.int .i64 a1_4):=(blk_cell BK143.out 4).trans rfl;have hcz68_5:w67.cell? ⟨gb143,5,none⟩=some (.slice A1_5 l1_5.length c1_5):=(blk_cell BK143.out 5).trans rfl;have hcz68_6:w67.cell? ⟨gb143,6,none⟩=some (.slice A1_6 l1_6.length c1_6):=(blk_cell BK143.out 6).trans rfl;have hcz68_7:w67.cell? ⟨gb143,7,none⟩=some (.slice A1_7 l1_7.length c1_7):=(blk_cell BK143.out 7).trans rfl;have hfz68_0:=blk_frozen BK143.out 0;have hfz68_1:=blk_frozen BK143.out 1;have hfz68_2:=blk_frozen BK143.out 2;have hfz68_3:=blk_frozen BK143.out 3;have hfz68_4:=blk_frozen BK143.out 4;have hfz68_5:=blk_frozen BK143.out 5;have hfz68_6:=blk_frozen BK143.out 6;have hfz68_7:=blk_frozen BK143.out 7)|(go_at_call 25;(with_reducible refine (class_within.calls a1_3 64 true _ A51.out).mono ?_);rintro e w' ⟨rfl,⟨nd,rfl⟩⟩)|(go_at_call 25;(with_reducible refine (class_within.calls a1_4 64 true _ A53.out).mono ?_);rintro e w' ⟨rfl,⟨nd,rfl⟩⟩)|(go_at_call 25;(with_reducible refine (class_within.calls (wrap64 ((l1_5.length:Int) - 1)) 4095 true _ A55.out).mono ?_);rintro e w' ⟨rfl,⟨nd,rfl⟩⟩;have hcz69_0:w67.cell? ⟨gb142,0,none⟩=some (.slice A0_0 l0_0.length c0_0):=(blk_cell BK142.out 0).trans rfl;have hfz69_0:=blk_frozen BK142.out 0)|(go_at_call 26;(with_reducible refine (class_place.calls k1 _ _ l0_0 (⟨#[67,111,100,101]⟩:ByteArray) t159 _ ?side1 ?side2 A58.out).mono ?_);(case side1 => repeat (first|exact (Kd.C_below HR0_0.out (by repeat (first|(with_reducible first|exact HB.out|apply below_alloc|apply pw_below_drewN|apply below_drew1|refine below_set ?_ GE142.out|refine below_set ?_ GE143.out)|exact HB.out)))|(with_reducible refine Kd.C_alloc ?_ _)|(with_reducible refine Kd.C_drewN ?_ _)|(with_reducible refine Kd.C_drew ?_)));(case side2 => exact HC0_0.out);rintro e w' ⟨rfl,⟨nd,rfl⟩⟩))
            go_ret
            exact ⟨by first|rfl|(simp [errW_none,errW_some] <;> rfl)|(simp [*,errW_none,errW_some] <;> rfl),by repeat (first|(with_reducible first|exact HB.out|apply below_alloc|apply pw_below_drewN|apply below_drew1|refine below_set ?_ GE142.out|refine below_set ?_ GE143.out)|exact HB.out)⟩
           ·rw [if_neg c60] at H
            have c60b0:((l1_7.length:Int)==0)=false:=beq_eq_false_iff_ne.mpr c60
            have c60b1:((l1_7.length:Int) != 0)=true:=bne_iff_ne.mpr c60
            have c60b2:¬ (l1_7=[]):=fun h_ => c60 (by rw [h_];rfl)
            replace H:=Option.bind_eq_some_iff.mp H
            obtain ⟨t160,A700,H⟩:=H
            replace H:(some (decide (t160 > 0)))=some r:=H
            have A70:=Aside0.mk A700
            clear A700
            obtain rfl:=Option.some.inj H
            have hnb71:=NB143_142.out
            have hnc71:=NB142_143.out
            have hcz72_0:wr.cell? ⟨gb143,0,none⟩=some (.int .i64 a1_0):=(blk_cell BK143.out 0).trans rfl
            have hcz72_1:wr.cell? ⟨gb143,1,none⟩=some (.int .i64 a1_1):=(blk_cell BK143.out 1).trans rfl
            have hcz72_2:wr.cell? ⟨gb143,2,none⟩=some (.int .i64 a1_2):=(blk_cell BK143.out 2).trans rfl
            have hcz72_3:wr.cell? ⟨gb143,3,none⟩=some (.int .i64 a1_3):=(blk_cell BK143.out 3).trans rfl
            have hcz72_4:wr.cell? ⟨gb143,4,none⟩=some (.int .i64 a1_4):=(blk_cell BK143.out 4).trans rfl
            have hcz72_5:wr.cell? ⟨gb143,5,none⟩=some (.slice A1_5 l1_5.length c1_5):=(blk_cell BK143.out 5).trans rfl
            have hcz72_6:wr.cell? ⟨gb143,6,none⟩=some (.slice A1_6 l1_6.length c1_6):=(blk_cell BK143.out 6).trans rfl
            have hcz72_7:wr.cell? ⟨gb143,7,none⟩=some (.slice A1_7 l1_7.length c1_7):=(blk_cell BK143.out 7).trans rfl
            have hfz72_0:=blk_frozen BK143.out 0
            have hfz72_1:=blk_frozen BK143.out 1
            have hfz72_2:=blk_frozen BK143.out 2
            have hfz72_3:=blk_frozen BK143.out 3
            have hfz72_4:=blk_frozen BK143.out 4
            have hfz72_5:=blk_frozen BK143.out 5
            have hfz72_6:=blk_frozen BK143.out 6
            have hfz72_7:=blk_frozen BK143.out 7
            go_wp2_with (first|((with_reducible refine gate_callee (f:=13) rfl ?_);refine goesL_ (some 58) rfl rfl Tryd.func13 (by kernel_rfl) rfl #[.int .i64 a1_0] rfl (by (try simp only [List.map_toArray,List.map_cons,List.map_nil]);first|done|rfl|(simp only [List.length_drop,List.length_take];rfl)) ?_;(with_reducible refine (class_flags.calls a1_0 true _ A47.out).mono ?_);rintro e w' ⟨rfl,⟨nd,rfl⟩⟩;refine ⟨_,rfl,?_⟩;have hcz73_0:wr.cell? ⟨gb142,0,none⟩=some (.slice A0_0 l0_0.length c0_0):=(blk_cell BK142.out 0).trans rfl;have hfz73_0:=blk_frozen BK142.out 0)|((with_reducible refine gate_dst (N:=65) rfl ?_);(try (refine gate_guard (by rfl) ?_;dsimp only));refine Kd.R_lit (Kd.int .i64) _ 3 ?hg (N:=65) ?hd (xs:=([a1_1,a1_2]:List Int)) (inner:=[.int .i64 a1_1,.int .i64 a1_2]) (ok:=fun _ => True) (okp:=fun _ => True) ?hr ?hp (fun _ hk => hk) trivial (Below.refl _ _) (Nat.le_refl _) (by simp) ?_;(case hd => rfl);(case hg => rfl);(case hr => first|(go_simp;done)|(go_simp;rfl));(case hp => exact (Reps.one (show Kd.M (Kd.int .i64) _ _ _ a1_1 [.int .i64 a1_1] from rfl) (Reps.one (show Kd.M (Kd.int .i64) _ _ _ a1_2 [.int .i64 a1_2] from rfl) (Reps.none _ _))));intro v153 w74 ho75 hb hg_ hnew_;clear hg_ hnew_;(first|rw [← Ny152.out] at ho75|(simp only [Int.reduceToNat] at ho75;rw [← Ny152.out] at ho75));have n0_:=Aside0.mk (Kd.R_lower ho75 (below_size (by repeat (first|(with_reducible first|exact HB.out|apply below_alloc|apply pw_below_drewN|apply below_drew1|refine below_set ?_ GE142.out|refine below_set ?_ GE143.out)|exact HB.out))));have n1_:=Aside0.mk (blk_below (g:=gb142) (o:=.cells #[.slice A0_0 l0_0.length c0_0] 39 (0,0)) (by (with_reducible repeat (first|refine blk_drewN ?_ _|refine blk_drew ?_|refine blk_alloc ?_ _));exact BK142.out) hb);have n2_:=Aside0.mk (blk_below (g:=gb143) (o:=.cells #[.int .i64 a1_0,.int .i64 a1_1,.int .i64 a1_2,.int .i64 a1_3,.int .i64 a1_4,.slice A1_5 l1_5.length c1_5,.slice A1_6 l1_6.length c1_6,.slice A1_7 l1_7.length c1_7] 37 (0,0)) (by (with_reducible repeat (first|refine blk_drewN ?_ _|refine blk_drew ?_|refine blk_alloc ?_ _));exact BK143.out) hb);have n3_:=Aside0.mk (below_step (by repeat (first|(with_reducible first|exact HB.out|apply below_alloc|apply pw_below_drewN|apply below_drew1|refine below_set ?_ GE142.out|refine below_set ?_ GE143.out)|exact HB.out)) hb);clear BK142;clear BK143;clear HB;have HO154:=n0_;have BK142:=n1_;have BK143:=n2_;have HB:=n3_;clear n0_ n1_ n2_ n3_;clear hb ho75;obtain ⟨Ao76,co76,eo76⟩:=Kd.R_slice HO154.out;subst eo76)|(go_at_call 14;(with_reducible refine (class_rules_text.calls k1 _ _ l0_0 _ _ y152 true _ ?side1 ?side2 ?side3 ?side4 A49.out).mono ?_);(case side1 => repeat (first|exact (Kd.C_below HR0_0.out HB.out)|(with_reducible refine Kd.C_alloc ?_ _)|(with_reducible refine Kd.C_drewN ?_ _)|(with_reducible refine Kd.C_drew ?_)));(case side2 => exact HC0_0.out);(case side3 => repeat (first|exact (Kd.R_reads' HO154.out).2.2|(with_reducible refine Kd.C_alloc ?_ _)|(with_reducible refine Kd.C_drewN ?_ _)|(with_reducible refine Kd.C_drew ?_)));(case side4 => exact (Kd.R_reads' HO154.out).2.1);rintro e w77 ⟨rfl,hb⟩;have n0_:=Aside0.mk (Kd.R_below (by (with_reducible repeat (first|apply Kd.R_alloc|apply Kd.R_drewN|apply Kd.R_drew));exact HO154.out) hb);have n1_:=Aside0.mk (blk_below (g:=gb142) (o:=.cells #[.slice A0_0 l0_0.length c0_0] 39 (0,0)) (by (with_reducible repeat (first|refine blk_drewN ?_ _|refine blk_drew ?_|refine blk_alloc ?_ _));exact BK142.out) hb);have n2_:=Aside0.mk (blk_below (g:=gb143) (o:=.cells #[.int .i64 a1_0,.int .i64 a1_1,.int .i64 a1_2,.int .i64 a1_3,.int .i64 a1_4,.slice A1_5 l1_5.length c1_5,.slice A1_6 l1_6.length c1_6,.slice A1_7 l1_7.length c1_7] 37 (0,0)) (by (with_reducible repeat (first|refine blk_drewN ?_ _|refine blk_drew ?_|refine blk_alloc ?_ _));exact BK143.out) hb);have n3_:=Aside0.mk (below_step (by repeat (first|(with_reducible first|exact HB.out|apply below_alloc|apply pw_below_drewN|apply below_drew1|refine below_set ?_ GE142.out|refine below_set ?_ GE143.out)|exact HB.out)) hb);clear HO154;clear BK142;clear BK143;clear HB;have HO154:=n0_;have BK142:=n1_;have BK143:=n2_;have HB:=n3_;clear n0_ n1_ n2_ n3_;(try clear hb);(try clear hb2);(try clear hk);(try clear hi);have hcz78_0:w77.cell? ⟨gb143,0,none⟩=some (.int .i64 a1_0):=(blk_cell BK143.out 0).trans rfl;have hcz78_1:w77.cell? ⟨gb143,1,none⟩=some (.int .i64 a1_1):=(blk_cell BK143.out 1).trans rfl;have hcz78_2:w77.cell? ⟨gb143,2,none⟩=some (.int .i64 a1_2):=(blk_cell BK143.out 2).trans rfl;have hcz78_3:w77.cell? ⟨gb143,3,none⟩=some (.int .i64 a1_3):=(blk_cell BK143.out 3).trans rfl;have hcz78_4:w77.cell? ⟨gb143,4,none⟩=some (.int .i64 a1_4):=(blk_cell BK143.out 4).trans rfl;have hcz78_5:w77.cell? ⟨gb143,5,none⟩=some (.slice A1_5 l1_5.length c1_5):=(blk_cell BK143.out 5).trans rfl;have hcz78_6:w77.cell? ⟨gb143,6,none⟩=some (.slice A1_6 l1_6.length c1_6):=(blk_cell BK143.out 6).trans rfl;have hcz78_7:w77.cell? ⟨gb143,7,none⟩=some (.slice A1_7 l1_7.length c1_7):=(blk_cell BK143.out 7).trans rfl;have hfz78_0:=blk_frozen BK143.out 0;have hfz78_1:=blk_frozen BK143.out 1;have hfz78_2:=blk_frozen BK143.out 2;have hfz78_3:=blk_frozen BK143.out 3;have hfz78_4:=blk_frozen BK143.out 4;have hfz78_5:=blk_frozen BK143.out 5;have hfz78_6:=blk_frozen BK143.out 6;have hfz78_7:=blk_frozen BK143.out 7)|(go_at_call 25;(with_reducible refine (class_within.calls a1_3 64 true _ A51.out).mono ?_);rintro e w' ⟨rfl,⟨nd,rfl⟩⟩)|(go_at_call 25;(with_reducible refine (class_within.calls a1_4 64 true _ A53.out).mono ?_);rintro e w' ⟨rfl,⟨nd,rfl⟩⟩)|(go_at_call 25;(with_reducible refine (class_within.calls (wrap64 ((l1_5.length:Int) - 1)) 4095 true _ A55.out).mono ?_);rintro e w' ⟨rfl,⟨nd,rfl⟩⟩;have hcz79_0:w77.cell? ⟨gb142,0,none⟩=some (.slice A0_0 l0_0.length c0_0):=(blk_cell BK142.out 0).trans rfl;have hfz79_0:=blk_frozen BK142.out 0)|(go_at_call 26;(with_reducible refine (class_place.calls k1 _ _ l0_0 (⟨#[67,111,100,101]⟩:ByteArray) t159 _ ?side1 ?side2 A58.out).mono ?_);(case side1 => repeat (first|exact (Kd.C_below HR0_0.out (by repeat (first|(with_reducible first|exact HB.out|apply below_alloc|apply pw_below_drewN|apply below_drew1|refine below_set ?_ GE142.out|refine below_set ?_ GE143.out)|exact HB.out)))|(with_reducible refine Kd.C_alloc ?_ _)|(with_reducible refine Kd.C_drewN ?_ _)|(with_reducible refine Kd.C_drew ?_)));(case side2 => exact HC0_0.out);rintro e w' ⟨rfl,⟨nd,rfl⟩⟩)|(go_at_call 26;(with_reducible refine (class_place.calls k1 _ _ l0_0 (⟨#[83,116,97,99,107,77,97,112,84,97,98,108,101]⟩:ByteArray) t160 _ ?side1 ?side2 A70.out).mono ?_);(case side1 => repeat (first|exact (Kd.C_below HR0_0.out (by repeat (first|(with_reducible first|exact HB.out|apply below_alloc|apply pw_below_drewN|apply below_drew1|refine below_set ?_ GE142.out|refine below_set ?_ GE143.out)|exact HB.out)))|(with_reducible refine Kd.C_alloc ?_ _)|(with_reducible refine Kd.C_drewN ?_ _)|(with_reducible refine Kd.C_drew ?_)));(case side2 => exact HC0_0.out);rintro e w' ⟨rfl,⟨nd,rfl⟩⟩))
            go_ret
            exact ⟨by first|rfl|(simp [errW_none,errW_some] <;> rfl)|(simp [*,errW_none,errW_some] <;> rfl),by repeat (first|(with_reducible first|exact HB.out|apply below_alloc|apply pw_below_drewN|apply below_drew1|refine below_set ?_ GE142.out|refine below_set ?_ GE143.out)|exact HB.out)⟩
          ·rw [if_neg c59] at H
           have c59b0:decide (0 < t159)=false:=decide_eq_false c59
           clear c59
           obtain rfl:=Option.some.inj H
           have hnb80:=NB143_142.out
           have hnc80:=NB142_143.out
           have hcz81_0:wr.cell? ⟨gb143,0,none⟩=some (.int .i64 a1_0):=(blk_cell BK143.out 0).trans rfl
           have hcz81_1:wr.cell? ⟨gb143,1,none⟩=some (.int .i64 a1_1):=(blk_cell BK143.out 1).trans rfl
           have hcz81_2:wr.cell? ⟨gb143,2,none⟩=some (.int .i64 a1_2):=(blk_cell BK143.out 2).trans rfl
           have hcz81_3:wr.cell? ⟨gb143,3,none⟩=some (.int .i64 a1_3):=(blk_cell BK143.out 3).trans rfl
           have hcz81_4:wr.cell? ⟨gb143,4,none⟩=some (.int .i64 a1_4):=(blk_cell BK143.out 4).trans rfl
           have hcz81_5:wr.cell? ⟨gb143,5,none⟩=some (.slice A1_5 l1_5.length c1_5):=(blk_cell BK143.out 5).trans rfl
           have hcz81_6:wr.cell? ⟨gb143,6,none⟩=some (.slice A1_6 l1_6.length c1_6):=(blk_cell BK143.out 6).trans rfl
           have hcz81_7:wr.cell? ⟨gb143,7,none⟩=some (.slice A1_7 l1_7.length c1_7):=(blk_cell BK143.out 7).trans rfl
           have hfz81_0:=blk_frozen BK143.out 0
           have hfz81_1:=blk_frozen BK143.out 1
           have hfz81_2:=blk_frozen BK143.out 2
           have hfz81_3:=blk_frozen BK143.out 3
           have hfz81_4:=blk_frozen BK143.out 4
           have hfz81_5:=blk_frozen BK143.out 5
           have hfz81_6:=blk_frozen BK143.out 6
           have hfz81_7:=blk_frozen BK143.out 7
           go_wp2_with (first|((with_reducible refine gate_callee (f:=13) rfl ?_);refine goesL_ (some 58) rfl rfl Tryd.func13 (by kernel_rfl) rfl #[.int .i64 a1_0] rfl (by (try simp only [List.map_toArray,List.map_cons,List.map_nil]);first|done|rfl|(simp only [List.length_drop,List.length_take];rfl)) ?_;(with_reducible refine (class_flags.calls a1_0 true _ A47.out).mono ?_);rintro e w' ⟨rfl,⟨nd,rfl⟩⟩;refine ⟨_,rfl,?_⟩;have hcz82_0:wr.cell? ⟨gb142,0,none⟩=some (.slice A0_0 l0_0.length c0_0):=(blk_cell BK142.out 0).trans rfl;have hfz82_0:=blk_frozen BK142.out 0)|((with_reducible refine gate_dst (N:=65) rfl ?_);(try (refine gate_guard (by rfl) ?_;dsimp only));refine Kd.R_lit (Kd.int .i64) _ 3 ?hg (N:=65) ?hd (xs:=([a1_1,a1_2]:List Int)) (inner:=[.int .i64 a1_1,.int .i64 a1_2]) (ok:=fun _ => True) (okp:=fun _ => True) ?hr ?hp (fun _ hk => hk) trivial (Below.refl _ _) (Nat.le_refl _) (by simp) ?_;(case hd => rfl);(case hg => rfl);(case hr => first|(go_simp;done)|(go_simp;rfl));(case hp => exact (Reps.one (show Kd.M (Kd.int .i64) _ _ _ a1_1 [.int .i64 a1_1] from rfl) (Reps.one (show Kd.M (Kd.int .i64) _ _ _ a1_2 [.int .i64 a1_2] from rfl) (Reps.none _ _))));intro v153 w83 ho84 hb hg_ hnew_;clear hg_ hnew_;(first|rw [← Ny152.out] at ho84|(simp only [Int.reduceToNat] at ho84;rw [← Ny152.out] at ho84));have n0_:=Aside0.mk (Kd.R_lower ho84 (below_size (by repeat (first|(with_reducible first|exact HB.out|apply below_alloc|apply pw_below_drewN|apply below_drew1|refine below_set ?_ GE142.out|refine below_set ?_ GE143.out)|exact HB.out))));have n1_:=Aside0.mk (blk_below (g:=gb142) (o:=.cells #[.slice A0_0 l0_0.length c0_0] 39 (0,0)) (by (with_reducible repeat (first|refine blk_drewN ?_ _|refine blk_drew ?_|refine blk_alloc ?_ _));exact BK142.out) hb);have n2_:=Aside0.mk (blk_below (g:=gb143) (o:=.cells #[.int .i64 a1_0,.int .i64 a1_1,.int .i64 a1_2,.int .i64 a1_3,.int .i64 a1_4,.slice A1_5 l1_5.length c1_5,.slice A1_6 l1_6.length c1_6,.slice A1_7 l1_7.length c1_7] 37 (0,0)) (by (with_reducible repeat (first|refine blk_drewN ?_ _|refine blk_drew ?_|refine blk_alloc ?_ _));exact BK143.out) hb);have n3_:=Aside0.mk (below_step (by repeat (first|(with_reducible first|exact HB.out|apply below_alloc|apply pw_below_drewN|apply below_drew1|refine below_set ?_ GE142.out|refine below_set ?_ GE143.out)|exact HB.out)) hb);clear BK142;clear BK143;clear HB;have HO154:=n0_;have BK142:=n1_;have BK143:=n2_;have HB:=n3_;clear n0_ n1_ n2_ n3_;clear hb ho84;obtain ⟨Ao85,co85,eo85⟩:=Kd.R_slice HO154.out;subst eo85)|(go_at_call 14;(with_reducible refine (class_rules_text.calls k1 _ _ l0_0 _ _ y152 true _ ?side1 ?side2 ?side3 ?side4 A49.out).mono ?_);(case side1 => repeat (first|exact (Kd.C_below HR0_0.out HB.out)|(with_reducible refine Kd.C_alloc ?_ _)|(with_reducible refine Kd.C_drewN ?_ _)|(with_reducible refine Kd.C_drew ?_)));(case side2 => exact HC0_0.out);(case side3 => repeat (first|exact (Kd.R_reads' HO154.out).2.2|(with_reducible refine Kd.C_alloc ?_ _)|(with_reducible refine Kd.C_drewN ?_ _)|(with_reducible refine Kd.C_drew ?_)));(case side4 => exact (Kd.R_reads' HO154.out).2.1);rintro e w86 ⟨rfl,hb⟩;have n0_:=Aside0.mk (Kd.R_below (by (with_reducible repeat (first|apply Kd.R_alloc|apply Kd.R_drewN|apply Kd.R_drew));exact HO154.out) hb);have n1_:=Aside0.mk (blk_below (g:=gb142) (o:=.cells #[.slice A0_0 l0_0.length c0_0] 39 (0,0)) (by (with_reducible repeat (first|refine blk_drewN ?_ _|refine blk_drew ?_|refine blk_alloc ?_ _));exact BK142.out) hb);have n2_:=Aside0.mk (blk_below (g:=gb143) (o:=.cells #[.int .i64 a1_0,.int .i64 a1_1,.int .i64 a1_2,.int .i64 a1_3,.int .i64 a1_4,.slice A1_5 l1_5.length c1_5,.slice A1_6 l1_6.length c1_6,.slice A1_7 l1_7.length c1_7] 37 (0,0)) (by (with_reducible repeat (first|refine blk_drewN ?_ _|refine blk_drew ?_|refine blk_alloc ?_ _));exact BK143.out) hb);have n3_:=Aside0.mk (below_step (by repeat (first|(with_reducible first|exact HB.out|apply below_alloc|apply pw_below_drewN|apply below_drew1|refine below_set ?_ GE142.out|refine below_set ?_ GE143.out)|exact HB.out)) hb);clear HO154;clear BK142;clear BK143;clear HB;have HO154:=n0_;have BK142:=n1_;have BK143:=n2_;have HB:=n3_;clear n0_ n1_ n2_ n3_;(try clear hb);(try clear hb2);(try clear hk);(try clear hi);have hcz87_0:w86.cell? ⟨gb143,0,none⟩=some (.int .i64 a1_0):=(blk_cell BK143.out 0).trans rfl;have hcz87_1:w86.cell? ⟨gb143,1,none⟩=some (.int .i64 a1_1):=(blk_cell BK143.out 1).trans rfl;have hcz87_2:w86.cell? ⟨gb143,2,none⟩=some (.int .i64 a1_2):=(blk_cell BK143.out 2).trans rfl;have hcz87_3:w86.cell? ⟨gb143,3,none⟩=some (.int .i64 a1_3):=(blk_cell BK143.out 3).trans rfl;have hcz87_4:w86.cell? ⟨gb143,4,none⟩=some (.int .i64 a1_4):=(blk_cell BK143.out 4).trans rfl;have hcz87_5:w86.cell? ⟨gb143,5,none⟩=some (.slice A1_5 l1_5.length c1_5):=(blk_cell BK143.out 5).trans rfl;have hcz87_6:w86.cell? ⟨gb143,6,none⟩=some (.slice A1_6 l1_6.length c1_6):=(blk_cell BK143.out 6).trans rfl;have hcz87_7:w86.cell? ⟨gb143,7,none⟩=some (.slice A1_7 l1_7.length c1_7):=(blk_cell BK143.out 7).trans rfl;have hfz87_0:=blk_frozen BK143.out 0;have hfz87_1:=blk_frozen BK143.out 1;have hfz87_2:=blk_frozen BK143.out 2;have hfz87_3:=blk_frozen BK143.out 3;have hfz87_4:=blk_frozen BK143.out 4;have hfz87_5:=blk_frozen BK143.out 5;have hfz87_6:=blk_frozen BK143.out 6;have hfz87_7:=blk_frozen BK143.out 7)|(go_at_call 25;(with_reducible refine (class_within.calls a1_3 64 true _ A51.out).mono ?_);rintro e w' ⟨rfl,⟨nd,rfl⟩⟩)|(go_at_call 25;(with_reducible refine (class_within.calls a1_4 64 true _ A53.out).mono ?_);rintro e w' ⟨rfl,⟨nd,rfl⟩⟩)|(go_at_call 25;(with_reducible refine (class_within.calls (wrap64 ((l1_5.length:Int) - 1)) 4095 true _ A55.out).mono ?_);rintro e w' ⟨rfl,⟨nd,rfl⟩⟩;have hcz88_0:w86.cell? ⟨gb142,0,none⟩=some (.slice A0_0 l0_0.length c0_0):=(blk_cell BK142.out 0).trans rfl;have hfz88_0:=blk_frozen BK142.out 0)|(go_at_call 26;(with_reducible refine (class_place.calls k1 _ _ l0_0 (⟨#[67,111,100,101]⟩:ByteArray) t159 _ ?side1 ?side2 A58.out).mono ?_);(case side1 => repeat (first|exact (Kd.C_below HR0_0.out (by repeat (first|(with_reducible first|exact HB.out|apply below_alloc|apply pw_below_drewN|apply below_drew1|refine below_set ?_ GE142.out|refine below_set ?_ GE143.out)|exact HB.out)))|(with_reducible refine Kd.C_alloc ?_ _)|(with_reducible refine Kd.C_drewN ?_ _)|(with_reducible refine Kd.C_drew ?_)));(case side2 => exact HC0_0.out);rintro e w' ⟨rfl,⟨nd,rfl⟩⟩))
           go_ret
           exact ⟨by first|rfl|(simp [errW_none,errW_some] <;> rfl)|(simp [*,errW_none,errW_some] <;> rfl),by repeat (first|(with_reducible first|exact HB.out|apply below_alloc|apply pw_below_drewN|apply below_drew1|refine below_set ?_ GE142.out|refine below_set ?_ GE143.out)|exact HB.out)⟩
         ·rw [if_neg c57] at H
          have c57b0:decide ((l1_7.length:Int)≤4096)=false:=decide_eq_false c57
          have c57b1:decide (l1_7.length≤4096)=false:=decide_eq_false (by omega)
          clear c57
          obtain rfl:=Option.some.inj H
          have hnb89:=NB143_142.out
          have hnc89:=NB142_143.out
          have hcz90_0:wr.cell? ⟨gb143,0,none⟩=some (.int .i64 a1_0):=(blk_cell BK143.out 0).trans rfl
          have hcz90_1:wr.cell? ⟨gb143,1,none⟩=some (.int .i64 a1_1):=(blk_cell BK143.out 1).trans rfl
          have hcz90_2:wr.cell? ⟨gb143,2,none⟩=some (.int .i64 a1_2):=(blk_cell BK143.out 2).trans rfl
          have hcz90_3:wr.cell? ⟨gb143,3,none⟩=some (.int .i64 a1_3):=(blk_cell BK143.out 3).trans rfl
          have hcz90_4:wr.cell? ⟨gb143,4,none⟩=some (.int .i64 a1_4):=(blk_cell BK143.out 4).trans rfl
          have hcz90_5:wr.cell? ⟨gb143,5,none⟩=some (.slice A1_5 l1_5.length c1_5):=(blk_cell BK143.out 5).trans rfl
          have hcz90_6:wr.cell? ⟨gb143,6,none⟩=some (.slice A1_6 l1_6.length c1_6):=(blk_cell BK143.out 6).trans rfl
          have hcz90_7:wr.cell? ⟨gb143,7,none⟩=some (.slice A1_7 l1_7.length c1_7):=(blk_cell BK143.out 7).trans rfl
          have hfz90_0:=blk_frozen BK143.out 0
          have hfz90_1:=blk_frozen BK143.out 1
          have hfz90_2:=blk_frozen BK143.out 2
          have hfz90_3:=blk_frozen BK143.out 3
          have hfz90_4:=blk_frozen BK143.out 4
          have hfz90_5:=blk_frozen BK143.out 5
          have hfz90_6:=blk_frozen BK143.out 6
          have hfz90_7:=blk_frozen BK143.out 7
          go_wp2_with (first|((with_reducible refine gate_callee (f:=13) rfl ?_);refine goesL_ (some 58) rfl rfl Tryd.func13 (by kernel_rfl) rfl #[.int .i64 a1_0] rfl (by (try simp only [List.map_toArray,List.map_cons,List.map_nil]);first|done|rfl|(simp only [List.length_drop,List.length_take];rfl)) ?_;(with_reducible refine (class_flags.calls a1_0 true _ A47.out).mono ?_);rintro e w' ⟨rfl,⟨nd,rfl⟩⟩;refine ⟨_,rfl,?_⟩;have hcz91_0:wr.cell? ⟨gb142,0,none⟩=some (.slice A0_0 l0_0.length c0_0):=(blk_cell BK142.out 0).trans rfl;have hfz91_0:=blk_frozen BK142.out 0)|((with_reducible refine gate_dst (N:=65) rfl ?_);(try (refine gate_guard (by rfl) ?_;dsimp only));refine Kd.R_lit (Kd.int .i64) _ 3 ?hg (N:=65) ?hd (xs:=([a1_1,a1_2]:List Int)) (inner:=[.int .i64 a1_1,.int .i64 a1_2]) (ok:=fun _ => True) (okp:=fun _ => True) ?hr ?hp (fun _ hk => hk) trivial (Below.refl _ _) (Nat.le_refl _) (by simp) ?_;(case hd => rfl);(case hg => rfl);(case hr => first|(go_simp;done)|(go_simp;rfl));(case hp => exact (Reps.one (show Kd.M (Kd.int .i64) _ _ _ a1_1 [.int .i64 a1_1] from rfl) (Reps.one (show Kd.M (Kd.int .i64) _ _ _ a1_2 [.int .i64 a1_2] from rfl) (Reps.none _ _))));intro v153 w92 ho93 hb hg_ hnew_;clear hg_ hnew_;(first|rw [← Ny152.out] at ho93|(simp only [Int.reduceToNat] at ho93;rw [← Ny152.out] at ho93));have n0_:=Aside0.mk (Kd.R_lower ho93 (below_size (by repeat (first|(with_reducible first|exact HB.out|apply below_alloc|apply pw_below_drewN|apply below_drew1|refine below_set ?_ GE142.out|refine below_set ?_ GE143.out)|exact HB.out))));have n1_:=Aside0.mk (blk_below (g:=gb142) (o:=.cells #[.slice A0_0 l0_0.length c0_0] 39 (0,0)) (by (with_reducible repeat (first|refine blk_drewN ?_ _|refine blk_drew ?_|refine blk_alloc ?_ _));exact BK142.out) hb);have n2_:=Aside0.mk (blk_below (g:=gb143) (o:=.cells #[.int .i64 a1_0,.int .i64 a1_1,.int .i64 a1_2,.int .i64 a1_3,.int .i64 a1_4,.slice A1_5 l1_5.length c1_5,.slice A1_6 l1_6.length c1_6,.slice A1_7 l1_7.length c1_7] 37 (0,0)) (by (with_reducible repeat (first|refine blk_drewN ?_ _|refine blk_drew ?_|refine blk_alloc ?_ _));exact BK143.out) hb);have n3_:=Aside0.mk (below_step (by repeat (first|(with_reducible first|exact HB.out|apply below_alloc|apply pw_below_drewN|apply below_drew1|refine below_set ?_ GE142.out|refine below_set ?_ GE143.out)|exact HB.out)) hb);clear BK142;clear BK143;clear HB;have HO154:=n0_;have BK142:=n1_;have BK143:=n2_;have HB:=n3_;clear n0_ n1_ n2_ n3_;clear hb ho93;obtain ⟨Ao94,co94,eo94⟩:=Kd.R_slice HO154.out;subst eo94)|(go_at_call 14;(with_reducible refine (class_rules_text.calls k1 _ _ l0_0 _ _ y152 true _ ?side1 ?side2 ?side3 ?side4 A49.out).mono ?_);(case side1 => repeat (first|exact (Kd.C_below HR0_0.out HB.out)|(with_reducible refine Kd.C_alloc ?_ _)|(with_reducible refine Kd.C_drewN ?_ _)|(with_reducible refine Kd.C_drew ?_)));(case side2 => exact HC0_0.out);(case side3 => repeat (first|exact (Kd.R_reads' HO154.out).2.2|(with_reducible refine Kd.C_alloc ?_ _)|(with_reducible refine Kd.C_drewN ?_ _)|(with_reducible refine Kd.C_drew ?_)));(case side4 => exact (Kd.R_reads' HO154.out).2.1);rintro e w95 ⟨rfl,hb⟩;have n0_:=Aside0.mk (Kd.R_below (by (with_reducible repeat (first|apply Kd.R_alloc|apply Kd.R_drewN|apply Kd.R_drew));exact HO154.out) hb);have n1_:=Aside0.mk (blk_below (g:=gb142) (o:=.cells #[.slice A0_0 l0_0.length c0_0] 39 (0,0)) (by (with_reducible repeat (first|refine blk_drewN ?_ _|refine blk_drew ?_|refine blk_alloc ?_ _));exact BK142.out) hb);have n2_:=Aside0.mk (blk_below (g:=gb143) (o:=.cells #[.int .i64 a1_0,.int .i64 a1_1,.int .i64 a1_2,.int .i64 a1_3,.int .i64 a1_4,.slice A1_5 l1_5.length c1_5,.slice A1_6 l1_6.length c1_6,.slice A1_7 l1_7.length c1_7] 37 (0,0)) (by (with_reducible repeat (first|refine blk_drewN ?_ _|refine blk_drew ?_|refine blk_alloc ?_ _));exact BK143.out) hb);have n3_:=Aside0.mk (below_step (by repeat (first|(with_reducible first|exact HB.out|apply below_alloc|apply pw_below_drewN|apply below_drew1|refine below_set ?_ GE142.out|refine below_set ?_ GE143.out)|exact HB.out)) hb);clear HO154;clear BK142;clear BK143;clear HB;have HO154:=n0_;have BK142:=n1_;have BK143:=n2_;have HB:=n3_;clear n0_ n1_ n2_ n3_;(try clear hb);(try clear hb2);(try clear hk);(try clear hi);have hcz96_0:w95.cell? ⟨gb143,0,none⟩=some (.int .i64 a1_0):=(blk_cell BK143.out 0).trans rfl;have hcz96_1:w95.cell? ⟨gb143,1,none⟩=some (.int .i64 a1_1):=(blk_cell BK143.out 1).trans rfl;have hcz96_2:w95.cell? ⟨gb143,2,none⟩=some (.int .i64 a1_2):=(blk_cell BK143.out 2).trans rfl;have hcz96_3:w95.cell? ⟨gb143,3,none⟩=some (.int .i64 a1_3):=(blk_cell BK143.out 3).trans rfl;have hcz96_4:w95.cell? ⟨gb143,4,none⟩=some (.int .i64 a1_4):=(blk_cell BK143.out 4).trans rfl;have hcz96_5:w95.cell? ⟨gb143,5,none⟩=some (.slice A1_5 l1_5.length c1_5):=(blk_cell BK143.out 5).trans rfl;have hcz96_6:w95.cell? ⟨gb143,6,none⟩=some (.slice A1_6 l1_6.length c1_6):=(blk_cell BK143.out 6).trans rfl;have hcz96_7:w95.cell? ⟨gb143,7,none⟩=some (.slice A1_7 l1_7.length c1_7):=(blk_cell BK143.out 7).trans rfl;have hfz96_0:=blk_frozen BK143.out 0;have hfz96_1:=blk_frozen BK143.out 1;have hfz96_2:=blk_frozen BK143.out 2;have hfz96_3:=blk_frozen BK143.out 3;have hfz96_4:=blk_frozen BK143.out 4;have hfz96_5:=blk_frozen BK143.out 5;have hfz96_6:=blk_frozen BK143.out 6;have hfz96_7:=blk_frozen BK143.out 7)|(go_at_call 25;(with_reducible refine (class_within.calls a1_3 64 true _ A51.out).mono ?_);rintro e w' ⟨rfl,⟨nd,rfl⟩⟩)|(go_at_call 25;(with_reducible refine (class_within.calls a1_4 64 true _ A53.out).mono ?_);rintro e w' ⟨rfl,⟨nd,rfl⟩⟩)|(go_at_call 25;(with_reducible refine (class_within.calls (wrap64 ((l1_5.length:Int) - 1)) 4095 true _ A55.out).mono ?_);rintro e w' ⟨rfl,⟨nd,rfl⟩⟩))
          go_ret
          exact ⟨by first|rfl|(simp [errW_none,errW_some] <;> rfl)|(simp [*,errW_none,errW_some] <;> rfl),by repeat (first|(with_reducible first|exact HB.out|apply below_alloc|apply pw_below_drewN|apply below_drew1|refine below_set ?_ GE142.out|refine below_set ?_ GE143.out)|exact HB.out)⟩
        ·replace c56:=Bool.eq_false_iff.mpr c56
         subst c56
         have H1:(some false)=some r:=by rw [if_neg (show ¬ (false=true) by decide)] at H;exact H
         clear H
         have H:=H1
         clear H1
         obtain rfl:=Option.some.inj H
         have hnb97:=NB143_142.out
         have hnc97:=NB142_143.out
         have hcz98_0:wr.cell? ⟨gb143,0,none⟩=some (.int .i64 a1_0):=(blk_cell BK143.out 0).trans rfl
         have hcz98_1:wr.cell? ⟨gb143,1,none⟩=some (.int .i64 a1_1):=(blk_cell BK143.out 1).trans rfl
         have hcz98_2:wr.cell? ⟨gb143,2,none⟩=some (.int .i64 a1_2):=(blk_cell BK143.out 2).trans rfl
         have hcz98_3:wr.cell? ⟨gb143,3,none⟩=some (.int .i64 a1_3):=(blk_cell BK143.out 3).trans rfl
         have hcz98_4:wr.cell? ⟨gb143,4,none⟩=some (.int .i64 a1_4):=(blk_cell BK143.out 4).trans rfl
         have hcz98_5:wr.cell? ⟨gb143,5,none⟩=some (.slice A1_5 l1_5.length c1_5):=(blk_cell BK143.out 5).trans rfl
         have hcz98_6:wr.cell? ⟨gb143,6,none⟩=some (.slice A1_6 l1_6.length c1_6):=(blk_cell BK143.out 6).trans rfl
         have hcz98_7:wr.cell? ⟨gb143,7,none⟩=some (.slice A1_7 l1_7.length c1_7):=(blk_cell BK143.out 7).trans rfl
         have hfz98_0:=blk_frozen BK143.out 0
         have hfz98_1:=blk_frozen BK143.out 1
         have hfz98_2:=blk_frozen BK143.out 2
         have hfz98_3:=blk_frozen BK143.out 3
         have hfz98_4:=blk_frozen BK143.out 4
         have hfz98_5:=blk_frozen BK143.out 5
         have hfz98_6:=blk_frozen BK143.out 6
         have hfz98_7:=blk_frozen BK143.out 7
         go_wp2_with (first|((with_reducible refine gate_callee (f:=13) rfl ?_);refine goesL_ (some 58) rfl rfl Tryd.func13 (by kernel_rfl) rfl #[.int .i64 a1_0] rfl (by (try simp only [List.map_toArray,List.map_cons,List.map_nil]);first|done|rfl|(simp only [List.length_drop,List.length_take];rfl)) ?_;(with_reducible refine (class_flags.calls a1_0 true _ A47.out).mono ?_);rintro e w' ⟨rfl,⟨nd,rfl⟩⟩;refine ⟨_,rfl,?_⟩;have hcz99_0:wr.cell? ⟨gb142,0,none⟩=some (.slice A0_0 l0_0.length c0_0):=(blk_cell BK142.out 0).trans rfl;have hfz99_0:=blk_frozen BK142.out 0)|((with_reducible refine gate_dst (N:=65) rfl ?_);(try (refine gate_guard (by rfl) ?_;dsimp only));refine Kd.R_lit (Kd.int .i64) _ 3 ?hg (N:=65) ?hd (xs:=([a1_1,a1_2]:List Int)) (inner:=[.int .i64 a1_1,.int .i64 a1_2]) (ok:=fun _ => True) (okp:=fun _ => True) ?hr ?hp (fun _ hk => hk) trivial (Below.refl _ _) (Nat.le_refl _) (by simp) ?_;(case hd => rfl);(case hg => rfl);(case hr => first|(go_simp;done)|(go_simp;rfl));(case hp => exact (Reps.one (show Kd.M (Kd.int .i64) _ _ _ a1_1 [.int .i64 a1_1] from rfl) (Reps.one (show Kd.M (Kd.int .i64) _ _ _ a1_2 [.int .i64 a1_2] from rfl) (Reps.none _ _))));intro v153 w100 ho101 hb hg_ hnew_;clear hg_ hnew_;(first|rw [← Ny152.out] at ho101|(simp only [Int.reduceToNat] at ho101;rw [← Ny152.out] at ho101));have n0_:=Aside0.mk (Kd.R_lower ho101 (below_size (by repeat (first|(with_reducible first|exact HB.out|apply below_alloc|apply pw_below_drewN|apply below_drew1|refine below_set ?_ GE142.out|refine below_set ?_ GE143.out)|exact HB.out))));have n1_:=Aside0.mk (blk_below (g:=gb142) (o:=.cells #[.slice A0_0 l0_0.length c0_0] 39 (0,0)) (by (with_reducible repeat (first|refine blk_drewN ?_ _|refine blk_drew ?_|refine blk_alloc ?_ _));exact BK142.out) hb);have n2_:=Aside0.mk (blk_below (g:=gb143) (o:=.cells #[.int .i64 a1_0,.int .i64 a1_1,.int .i64 a1_2,.int .i64 a1_3,.int .i64 a1_4,.slice A1_5 l1_5.length c1_5,.slice A1_6 l1_6.length c1_6,.slice A1_7 l1_7.length c1_7] 37 (0,0)) (by (with_reducible repeat (first|refine blk_drewN ?_ _|refine blk_drew ?_|refine blk_alloc ?_ _));exact BK143.out) hb);have n3_:=Aside0.mk (below_step (by repeat (first|(with_reducible first|exact HB.out|apply below_alloc|apply pw_below_drewN|apply below_drew1|refine below_set ?_ GE142.out|refine below_set ?_ GE143.out)|exact HB.out)) hb);clear BK142;clear BK143;clear HB;have HO154:=n0_;have BK142:=n1_;have BK143:=n2_;have HB:=n3_;clear n0_ n1_ n2_ n3_;clear hb ho101;obtain ⟨Ao102,co102,eo102⟩:=Kd.R_slice HO154.out;subst eo102)|(go_at_call 14;(with_reducible refine (class_rules_text.calls k1 _ _ l0_0 _ _ y152 true _ ?side1 ?side2 ?side3 ?side4 A49.out).mono ?_);(case side1 => repeat (first|exact (Kd.C_below HR0_0.out HB.out)|(with_reducible refine Kd.C_alloc ?_ _)|(with_reducible refine Kd.C_drewN ?_ _)|(with_reducible refine Kd.C_drew ?_)));(case side2 => exact HC0_0.out);(case side3 => repeat (first|exact (Kd.R_reads' HO154.out).2.2|(with_reducible refine Kd.C_alloc ?_ _)|(with_reducible refine Kd.C_drewN ?_ _)|(with_reducible refine Kd.C_drew ?_)));(case side4 => exact (Kd.R_reads' HO154.out).2.1);rintro e w103 ⟨rfl,hb⟩;have n0_:=Aside0.mk (Kd.R_below (by (with_reducible repeat (first|apply Kd.R_alloc|apply Kd.R_drewN|apply Kd.R_drew));exact HO154.out) hb);have n1_:=Aside0.mk (blk_below (g:=gb142) (o:=.cells #[.slice A0_0 l0_0.length c0_0] 39 (0,0)) (by (with_reducible repeat (first|refine blk_drewN ?_ _|refine blk_drew ?_|refine blk_alloc ?_ _));exact BK142.out) hb);have n2_:=Aside0.mk (blk_below (g:=gb143) (o:=.cells #[.int .i64 a1_0,.int .i64 a1_1,.int .i64 a1_2,.int .i64 a1_3,.int .i64 a1_4,.slice A1_5 l1_5.length c1_5,.slice A1_6 l1_6.length c1_6,.slice A1_7 l1_7.length c1_7] 37 (0,0)) (by (with_reducible repeat (first|refine blk_drewN ?_ _|refine blk_drew ?_|refine blk_alloc ?_ _));exact BK143.out) hb);have n3_:=Aside0.mk (below_step (by repeat (first|(with_reducible first|exact HB.out|apply below_alloc|apply pw_below_drewN|apply below_drew1|refine below_set ?_ GE142.out|refine below_set ?_ GE143.out)|exact HB.out)) hb);clear HO154;clear BK142;clear BK143;clear HB;have HO154:=n0_;have BK142:=n1_;have BK143:=n2_;have HB:=n3_;clear n0_ n1_ n2_ n3_;(try clear hb);(try clear hb2);(try clear hk);(try clear hi);have hcz104_0:w103.cell? ⟨gb143,0,none⟩=some (.int .i64 a1_0):=(blk_cell BK143.out 0).trans rfl;have hcz104_1:w103.cell? ⟨gb143,1,none⟩=some (.int .i64 a1_1):=(blk_cell BK143.out 1).trans rfl;have hcz104_2:w103.cell? ⟨gb143,2,none⟩=some (.int .i64 a1_2):=(blk_cell BK143.out 2).trans rfl;have hcz104_3:w103.cell? ⟨gb143,3,none⟩=some (.int .i64 a1_3):=(blk_cell BK143.out 3).trans rfl;have hcz104_4:w103.cell? ⟨gb143,4,none⟩=some (.int .i64 a1_4):=(blk_cell BK143.out 4).trans rfl;have hcz104_5:w103.cell? ⟨gb143,5,none⟩=some (.slice A1_5 l1_5.length c1_5):=(blk_cell BK143.out 5).trans rfl;have hcz104_6:w103.cell? ⟨gb143,6,none⟩=some (.slice A1_6 l1_6.length c1_6):=(blk_cell BK143.out 6).trans rfl;have hcz104_7:w103.cell? ⟨gb143,7,none⟩=some (.slice A1_7 l1_7.length c1_7):=(blk_cell BK143.out 7).trans rfl;have hfz104_0:=blk_frozen BK143.out 0;have hfz104_1:=blk_frozen BK143.out 1;have hfz104_2:=blk_frozen BK143.out 2;have hfz104_3:=blk_frozen BK143.out 3;have hfz104_4:=blk_frozen BK143.out 4;have hfz104_5:=blk_frozen BK143.out 5;have hfz104_6:=blk_frozen BK143.out 6;have hfz104_7:=blk_frozen BK143.out 7)|(go_at_call 25;(with_reducible refine (class_within.calls a1_3 64 true _ A51.out).mono ?_);rintro e w' ⟨rfl,⟨nd,rfl⟩⟩)|(go_at_call 25;(with_reducible refine (class_within.calls a1_4 64 true _ A53.out).mono ?_);rintro e w' ⟨rfl,⟨nd,rfl⟩⟩)|(go_at_call 25;(with_reducible refine (class_within.calls (wrap64 ((l1_5.length:Int) - 1)) 4095 false _ A55.out).mono ?_);rintro e w' ⟨rfl,⟨nd,rfl⟩⟩))
         go_ret
         exact ⟨by first|rfl|(simp [errW_none,errW_some] <;> rfl)|(simp [*,errW_none,errW_some] <;> rfl),by repeat (first|(with_reducible first|exact HB.out|apply below_alloc|apply pw_below_drewN|apply below_drew1|refine below_set ?_ GE142.out|refine below_set ?_ GE143.out)|exact HB.out)⟩
       ·replace c54:=Bool.eq_false_iff.mpr c54
        subst c54
        have H1:(some false)=some r:=by rw [if_neg (show ¬ (false=true) by decide)] at H;exact H
        clear H
        have H:=H1
        clear H1
        obtain rfl:=Option.some.inj H
        have hnb105:=NB143_142.out
        have hnc105:=NB142_143.out
        have hcz106_0:wr.cell? ⟨gb143,0,none⟩=some (.int .i64 a1_0):=(blk_cell BK143.out 0).trans rfl
        have hcz106_1:wr.cell? ⟨gb143,1,none⟩=some (.int .i64 a1_1):=(blk_cell BK143.out 1).trans rfl
        have hcz106_2:wr.cell? ⟨gb143,2,none⟩=some (.int .i64 a1_2):=(blk_cell BK143.out 2).trans rfl
        have hcz106_3:wr.cell? ⟨gb143,3,none⟩=some (.int .i64 a1_3):=(blk_cell BK143.out 3).trans rfl
        have hcz106_4:wr.cell? ⟨gb143,4,none⟩=some (.int .i64 a1_4):=(blk_cell BK143.out 4).trans rfl
        have hcz106_5:wr.cell? ⟨gb143,5,none⟩=some (.slice A1_5 l1_5.length c1_5):=(blk_cell BK143.out 5).trans rfl
        have hcz106_6:wr.cell? ⟨gb143,6,none⟩=some (.slice A1_6 l1_6.length c1_6):=(blk_cell BK143.out 6).trans rfl
        have hcz106_7:wr.cell? ⟨gb143,7,none⟩=some (.slice A1_7 l1_7.length c1_7):=(blk_cell BK143.out 7).trans rfl
        have hfz106_0:=blk_frozen BK143.out 0
        have hfz106_1:=blk_frozen BK143.out 1
        have hfz106_2:=blk_frozen BK143.out 2
        have hfz106_3:=blk_frozen BK143.out 3
        have hfz106_4:=blk_frozen BK143.out 4
        have hfz106_5:=blk_frozen BK143.out 5
        have hfz106_6:=blk_frozen BK143.out 6
        have hfz106_7:=blk_frozen BK143.out 7
        go_wp2_with (first|((with_reducible refine gate_callee (f:=13) rfl ?_);refine goesL_ (some 58) rfl rfl Tryd.func13 (by kernel_rfl) rfl #[.int .i64 a1_0] rfl (by (try simp only [List.map_toArray,List.map_cons,List.map_nil]);first|done|rfl|(simp only [List.length_drop,List.length_take];rfl)) ?_;(with_reducible refine (class_flags.calls a1_0 true _ A47.out).mono ?_);rintro e w' ⟨rfl,⟨nd,rfl⟩⟩;refine ⟨_,rfl,?_⟩;have hcz107_0:wr.cell? ⟨gb142,0,none⟩=some (.slice A0_0 l0_0.length c0_0):=(blk_cell BK142.out 0).trans rfl;have hfz107_0:=blk_frozen BK142.out 0)|((with_reducible refine gate_dst (N:=65) rfl ?_);(try (refine gate_guard (by rfl) ?_;dsimp only));refine Kd.R_lit (Kd.int .i64) _ 3 ?hg (N:=65) ?hd (xs:=([a1_1,a1_2]:List Int)) (inner:=[.int .i64 a1_1,.int .i64 a1_2]) (ok:=fun _ => True) (okp:=fun _ => True) ?hr ?hp (fun _ hk => hk) trivial (Below.refl _ _) (Nat.le_refl _) (by simp) ?_;(case hd => rfl);(case hg => rfl);(case hr => first|(go_simp;done)|(go_simp;rfl));(case hp => exact (Reps.one (show Kd.M (Kd.int .i64) _ _ _ a1_1 [.int .i64 a1_1] from rfl) (Reps.one (show Kd.M (Kd.int .i64) _ _ _ a1_2 [.int .i64 a1_2] from rfl) (Reps.none _ _))));intro v153 w108 ho109 hb hg_ hnew_;clear hg_ hnew_;(first|rw [← Ny152.out] at ho109|(simp only [Int.reduceToNat] at ho109;rw [← Ny152.out] at ho109));have n0_:=Aside0.mk (Kd.R_lower ho109 (below_size (by repeat (first|(with_reducible first|exact HB.out|apply below_alloc|apply pw_below_drewN|apply below_drew1|refine below_set ?_ GE142.out|refine below_set ?_ GE143.out)|exact HB.out))));have n1_:=Aside0.mk (blk_below (g:=gb142) (o:=.cells #[.slice A0_0 l0_0.length c0_0] 39 (0,0)) (by (with_reducible repeat (first|refine blk_drewN ?_ _|refine blk_drew ?_|refine blk_alloc ?_ _));exact BK142.out) hb);have n2_:=Aside0.mk (blk_below (g:=gb143) (o:=.cells #[.int .i64 a1_0,.int .i64 a1_1,.int .i64 a1_2,.int .i64 a1_3,.int .i64 a1_4,.slice A1_5 l1_5.length c1_5,.slice A1_6 l1_6.length c1_6,.slice A1_7 l1_7.length c1_7] 37 (0,0)) (by (with_reducible repeat (first|refine blk_drewN ?_ _|refine blk_drew ?_|refine blk_alloc ?_ _));exact BK143.out) hb);have n3_:=Aside0.mk (below_step (by repeat (first|(with_reducible first|exact HB.out|apply below_alloc|apply pw_below_drewN|apply below_drew1|refine below_set ?_ GE142.out|refine below_set ?_ GE143.out)|exact HB.out)) hb);clear BK142;clear BK143;clear HB;have HO154:=n0_;have BK142:=n1_;have BK143:=n2_;have HB:=n3_;clear n0_ n1_ n2_ n3_;clear hb ho109;obtain ⟨Ao110,co110,eo110⟩:=Kd.R_slice HO154.out;subst eo110)|(go_at_call 14;(with_reducible refine (class_rules_text.calls k1 _ _ l0_0 _ _ y152 true _ ?side1 ?side2 ?side3 ?side4 A49.out).mono ?_);(case side1 => repeat (first|exact (Kd.C_below HR0_0.out HB.out)|(with_reducible refine Kd.C_alloc ?_ _)|(with_reducible refine Kd.C_drewN ?_ _)|(with_reducible refine Kd.C_drew ?_)));(case side2 => exact HC0_0.out);(case side3 => repeat (first|exact (Kd.R_reads' HO154.out).2.2|(with_reducible refine Kd.C_alloc ?_ _)|(with_reducible refine Kd.C_drewN ?_ _)|(with_reducible refine Kd.C_drew ?_)));(case side4 => exact (Kd.R_reads' HO154.out).2.1);rintro e w111 ⟨rfl,hb⟩;have n0_:=Aside0.mk (Kd.R_below (by (with_reducible repeat (first|apply Kd.R_alloc|apply Kd.R_drewN|apply Kd.R_drew));exact HO154.out) hb);have n1_:=Aside0.mk (blk_below (g:=gb142) (o:=.cells #[.slice A0_0 l0_0.length c0_0] 39 (0,0)) (by (with_reducible repeat (first|refine blk_drewN ?_ _|refine blk_drew ?_|refine blk_alloc ?_ _));exact BK142.out) hb);have n2_:=Aside0.mk (blk_below (g:=gb143) (o:=.cells #[.int .i64 a1_0,.int .i64 a1_1,.int .i64 a1_2,.int .i64 a1_3,.int .i64 a1_4,.slice A1_5 l1_5.length c1_5,.slice A1_6 l1_6.length c1_6,.slice A1_7 l1_7.length c1_7] 37 (0,0)) (by (with_reducible repeat (first|refine blk_drewN ?_ _|refine blk_drew ?_|refine blk_alloc ?_ _));exact BK143.out) hb);have n3_:=Aside0.mk (below_step (by repeat (first|(with_reducible first|exact HB.out|apply below_alloc|apply pw_below_drewN|apply below_drew1|refine below_set ?_ GE142.out|refine below_set ?_ GE143.out)|exact HB.out)) hb);clear HO154;clear BK142;clear BK143;clear HB;have HO154:=n0_;have BK142:=n1_;have BK143:=n2_;have HB:=n3_;clear n0_ n1_ n2_ n3_;(try clear hb);(try clear hb2);(try clear hk);(try clear hi);have hcz112_0:w111.cell? ⟨gb143,0,none⟩=some (.int .i64 a1_0):=(blk_cell BK143.out 0).trans rfl;have hcz112_1:w111.cell? ⟨gb143,1,none⟩=some (.int .i64 a1_1):=(blk_cell BK143.out 1).trans rfl;have hcz112_2:w111.cell? ⟨gb143,2,none⟩=some (.int .i64 a1_2):=(blk_cell BK143.out 2).trans rfl;have hcz112_3:w111.cell? ⟨gb143,3,none⟩=some (.int .i64 a1_3):=(blk_cell BK143.out 3).trans rfl;have hcz112_4:w111.cell? ⟨gb143,4,none⟩=some (.int .i64 a1_4):=(blk_cell BK143.out 4).trans rfl;have hcz112_5:w111.cell? ⟨gb143,5,none⟩=some (.slice A1_5 l1_5.length c1_5):=(blk_cell BK143.out 5).trans rfl;have hcz112_6:w111.cell? ⟨gb143,6,none⟩=some (.slice A1_6 l1_6.length c1_6):=(blk_cell BK143.out 6).trans rfl;have hcz112_7:w111.cell? ⟨gb143,7,none⟩=some (.slice A1_7 l1_7.length c1_7):=(blk_cell BK143.out 7).trans rfl;have hfz112_0:=blk_frozen BK143.out 0;have hfz112_1:=blk_frozen BK143.out 1;have hfz112_2:=blk_frozen BK143.out 2;have hfz112_3:=blk_frozen BK143.out 3;have hfz112_4:=blk_frozen BK143.out 4;have hfz112_5:=blk_frozen BK143.out 5;have hfz112_6:=blk_frozen BK143.out 6;have hfz112_7:=blk_frozen BK143.out 7)|(go_at_call 25;(with_reducible refine (class_within.calls a1_3 64 true _ A51.out).mono ?_);rintro e w' ⟨rfl,⟨nd,rfl⟩⟩)|(go_at_call 25;(with_reducible refine (class_within.calls a1_4 64 false _ A53.out).mono ?_);rintro e w' ⟨rfl,⟨nd,rfl⟩⟩))
        go_ret
        exact ⟨by first|rfl|(simp [errW_none,errW_some] <;> rfl)|(simp [*,errW_none,errW_some] <;> rfl),by repeat (first|(with_reducible first|exact HB.out|apply below_alloc|apply pw_below_drewN|apply below_drew1|refine below_set ?_ GE142.out|refine below_set ?_ GE143.out)|exact HB.out)⟩
      ·replace c52:=Bool.eq_false_iff.mpr c52
       subst c52
       have H1:(some false)=some r:=by rw [if_neg (show ¬ (false=true) by decide)] at H;exact H
       clear H
       have H:=H1
       clear H1
       obtain rfl:=Option.some.inj H
       have hnb113:=NB143_142.out
       have hnc113:=NB142_143.out
       have hcz114_0:wr.cell? ⟨gb143,0,none⟩=some (.int .i64 a1_0):=(blk_cell BK143.out 0).trans rfl
       have hcz114_1:wr.cell? ⟨gb143,1,none⟩=some (.int .i64 a1_1):=(blk_cell BK143.out 1).trans rfl
       have hcz114_2:wr.cell? ⟨gb143,2,none⟩=some (.int .i64 a1_2):=(blk_cell BK143.out 2).trans rfl
       have hcz114_3:wr.cell? ⟨gb143,3,none⟩=some (.int .i64 a1_3):=(blk_cell BK143.out 3).trans rfl
       have hcz114_4:wr.cell? ⟨gb143,4,none⟩=some (.int .i64 a1_4):=(blk_cell BK143.out 4).trans rfl
       have hcz114_5:wr.cell? ⟨gb143,5,none⟩=some (.slice A1_5 l1_5.length c1_5):=(blk_cell BK143.out 5).trans rfl
       have hcz114_6:wr.cell? ⟨gb143,6,none⟩=some (.slice A1_6 l1_6.length c1_6):=(blk_cell BK143.out 6).trans rfl
       have hcz114_7:wr.cell? ⟨gb143,7,none⟩=some (.slice A1_7 l1_7.length c1_7):=(blk_cell BK143.out 7).trans rfl
       have hfz114_0:=blk_frozen BK143.out 0
       have hfz114_1:=blk_frozen BK143.out 1
       have hfz114_2:=blk_frozen BK143.out 2
       have hfz114_3:=blk_frozen BK143.out 3
       have hfz114_4:=blk_frozen BK143.out 4
       have hfz114_5:=blk_frozen BK143.out 5
       have hfz114_6:=blk_frozen BK143.out 6
       have hfz114_7:=blk_frozen BK143.out 7
       go_wp2_with (first|((with_reducible refine gate_callee (f:=13) rfl ?_);refine goesL_ (some 58) rfl rfl Tryd.func13 (by kernel_rfl) rfl #[.int .i64 a1_0] rfl (by (try simp only [List.map_toArray,List.map_cons,List.map_nil]);first|done|rfl|(simp only [List.length_drop,List.length_take];rfl)) ?_;(with_reducible refine (class_flags.calls a1_0 true _ A47.out).mono ?_);rintro e w' ⟨rfl,⟨nd,rfl⟩⟩;refine ⟨_,rfl,?_⟩;have hcz115_0:wr.cell? ⟨gb142,0,none⟩=some (.slice A0_0 l0_0.length c0_0):=(blk_cell BK142.out 0).trans rfl;have hfz115_0:=blk_frozen BK142.out 0)|((with_reducible refine gate_dst (N:=65) rfl ?_);(try (refine gate_guard (by rfl) ?_;dsimp only));refine Kd.R_lit (Kd.int .i64) _ 3 ?hg (N:=65) ?hd (xs:=([a1_1,a1_2]:List Int)) (inner:=[.int .i64 a1_1,.int .i64 a1_2]) (ok:=fun _ => True) (okp:=fun _ => True) ?hr ?hp (fun _ hk => hk) trivial (Below.refl _ _) (Nat.le_refl _) (by simp) ?_;(case hd => rfl);(case hg => rfl);(case hr => first|(go_simp;done)|(go_simp;rfl));(case hp => exact (Reps.one (show Kd.M (Kd.int .i64) _ _ _ a1_1 [.int .i64 a1_1] from rfl) (Reps.one (show Kd.M (Kd.int .i64) _ _ _ a1_2 [.int .i64 a1_2] from rfl) (Reps.none _ _))));intro v153 w116 ho117 hb hg_ hnew_;clear hg_ hnew_;(first|rw [← Ny152.out] at ho117|(simp only [Int.reduceToNat] at ho117;rw [← Ny152.out] at ho117));have n0_:=Aside0.mk (Kd.R_lower ho117 (below_size (by repeat (first|(with_reducible first|exact HB.out|apply below_alloc|apply pw_below_drewN|apply below_drew1|refine below_set ?_ GE142.out|refine below_set ?_ GE143.out)|exact HB.out))));have n1_:=Aside0.mk (blk_below (g:=gb142) (o:=.cells #[.slice A0_0 l0_0.length c0_0] 39 (0,0)) (by (with_reducible repeat (first|refine blk_drewN ?_ _|refine blk_drew ?_|refine blk_alloc ?_ _));exact BK142.out) hb);have n2_:=Aside0.mk (blk_below (g:=gb143) (o:=.cells #[.int .i64 a1_0,.int .i64 a1_1,.int .i64 a1_2,.int .i64 a1_3,.int .i64 a1_4,.slice A1_5 l1_5.length c1_5,.slice A1_6 l1_6.length c1_6,.slice A1_7 l1_7.length c1_7] 37 (0,0)) (by (with_reducible repeat (first|refine blk_drewN ?_ _|refine blk_drew ?_|refine blk_alloc ?_ _));exact BK143.out) hb);have n3_:=Aside0.mk (below_step (by repeat (first|(with_reducible first|exact HB.out|apply below_alloc|apply pw_below_drewN|apply below_drew1|refine below_set ?_ GE142.out|refine below_set ?_ GE143.out)|exact HB.out)) hb);clear BK142;clear BK143;clear HB;have HO154:=n0_;have BK142:=n1_;have BK143:=n2_;have HB:=n3_;clear n0_ n1_ n2_ n3_;clear hb ho117;obtain ⟨Ao118,co118,eo118⟩:=Kd.R_slice HO154.out;subst eo118)|(go_at_call 14;(with_reducible refine (class_rules_text.calls k1 _ _ l0_0 _ _ y152 true _ ?side1 ?side2 ?side3 ?side4 A49.out).mono ?_);(case side1 => repeat (first|exact (Kd.C_below HR0_0.out HB.out)|(with_reducible refine Kd.C_alloc ?_ _)|(with_reducible refine Kd.C_drewN ?_ _)|(with_reducible refine Kd.C_drew ?_)));(case side2 => exact HC0_0.out);(case side3 => repeat (first|exact (Kd.R_reads' HO154.out).2.2|(with_reducible refine Kd.C_alloc ?_ _)|(with_reducible refine Kd.C_drewN ?_ _)|(with_reducible refine Kd.C_drew ?_)));(case side4 => exact (Kd.R_reads' HO154.out).2.1);rintro e w119 ⟨rfl,hb⟩;have n0_:=Aside0.mk (Kd.R_below (by (with_reducible repeat (first|apply Kd.R_alloc|apply Kd.R_drewN|apply Kd.R_drew));exact HO154.out) hb);have n1_:=Aside0.mk (blk_below (g:=gb142) (o:=.cells #[.slice A0_0 l0_0.length c0_0] 39 (0,0)) (by (with_reducible repeat (first|refine blk_drewN ?_ _|refine blk_drew ?_|refine blk_alloc ?_ _));exact BK142.out) hb);have n2_:=Aside0.mk (blk_below (g:=gb143) (o:=.cells #[.int .i64 a1_0,.int .i64 a1_1,.int .i64 a1_2,.int .i64 a1_3,.int .i64 a1_4,.slice A1_5 l1_5.length c1_5,.slice A1_6 l1_6.length c1_6,.slice A1_7 l1_7.length c1_7] 37 (0,0)) (by (with_reducible repeat (first|refine blk_drewN ?_ _|refine blk_drew ?_|refine blk_alloc ?_ _));exact BK143.out) hb);have n3_:=Aside0.mk (below_step (by repeat (first|(with_reducible first|exact HB.out|apply below_alloc|apply pw_below_drewN|apply below_drew1|refine below_set ?_ GE142.out|refine below_set ?_ GE143.out)|exact HB.out)) hb);clear HO154;clear BK142;clear BK143;clear HB;have HO154:=n0_;have BK142:=n1_;have BK143:=n2_;have HB:=n3_;clear n0_ n1_ n2_ n3_;(try clear hb);(try clear hb2);(try clear hk);(try clear hi);have hcz120_0:w119.cell? ⟨gb143,0,none⟩=some (.int .i64 a1_0):=(blk_cell BK143.out 0).trans rfl;have hcz120_1:w119.cell? ⟨gb143,1,none⟩=some (.int .i64 a1_1):=(blk_cell BK143.out 1).trans rfl;have hcz120_2:w119.cell? ⟨gb143,2,none⟩=some (.int .i64 a1_2):=(blk_cell BK143.out 2).trans rfl;have hcz120_3:w119.cell? ⟨gb143,3,none⟩=some (.int .i64 a1_3):=(blk_cell BK143.out 3).trans rfl;have hcz120_4:w119.cell? ⟨gb143,4,none⟩=some (.int .i64 a1_4):=(blk_cell BK143.out 4).trans rfl;have hcz120_5:w119.cell? ⟨gb143,5,none⟩=some (.slice A1_5 l1_5.length c1_5):=(blk_cell BK143.out 5).trans rfl;have hcz120_6:w119.cell? ⟨gb143,6,none⟩=some (.slice A1_6 l1_6.length c1_6):=(blk_cell BK143.out 6).trans rfl;have hcz120_7:w119.cell? ⟨gb143,7,none⟩=some (.slice A1_7 l1_7.length c1_7):=(blk_cell BK143.out 7).trans rfl;have hfz120_0:=blk_frozen BK143.out 0;have hfz120_1:=blk_frozen BK143.out 1;have hfz120_2:=blk_frozen BK143.out 2;have hfz120_3:=blk_frozen BK143.out 3;have hfz120_4:=blk_frozen BK143.out 4;have hfz120_5:=blk_frozen BK143.out 5;have hfz120_6:=blk_frozen BK143.out 6;have hfz120_7:=blk_frozen BK143.out 7)|(go_at_call 25;(with_reducible refine (class_within.calls a1_3 64 false _ A51.out).mono ?_);rintro e w' ⟨rfl,⟨nd,rfl⟩⟩))
       go_ret
       exact ⟨by first|rfl|(simp [errW_none,errW_some] <;> rfl)|(simp [*,errW_none,errW_some] <;> rfl),by repeat (first|(with_reducible first|exact HB.out|apply below_alloc|apply pw_below_drewN|apply below_drew1|refine below_set ?_ GE142.out|refine below_set ?_ GE143.out)|exact HB.out)⟩
     ·replace c50:=Bool.eq_false_iff.mpr c50
      subst c50
      have H1:(some false)=some r:=by rw [if_neg (show ¬ (false=true) by decide)] at H;exact H
      clear H
      have H:=H1
      clear H1
      obtain rfl:=Option.some.inj H
      have hnb121:=NB143_142.out
      have hnc121:=NB142_143.out
      have hcz122_0:wr.cell? ⟨gb143,0,none⟩=some (.int .i64 a1_0):=(blk_cell BK143.out 0).trans rfl
      have hcz122_1:wr.cell? ⟨gb143,1,none⟩=some (.int .i64 a1_1):=(blk_cell BK143.out 1).trans rfl
      have hcz122_2:wr.cell? ⟨gb143,2,none⟩=some (.int .i64 a1_2):=(blk_cell BK143.out 2).trans rfl
      have hcz122_3:wr.cell? ⟨gb143,3,none⟩=some (.int .i64 a1_3):=(blk_cell BK143.out 3).trans rfl
      have hcz122_4:wr.cell? ⟨gb143,4,none⟩=some (.int .i64 a1_4):=(blk_cell BK143.out 4).trans rfl
      have hcz122_5:wr.cell? ⟨gb143,5,none⟩=some (.slice A1_5 l1_5.length c1_5):=(blk_cell BK143.out 5).trans rfl
      have hcz122_6:wr.cell? ⟨gb143,6,none⟩=some (.slice A1_6 l1_6.length c1_6):=(blk_cell BK143.out 6).trans rfl
      have hcz122_7:wr.cell? ⟨gb143,7,none⟩=some (.slice A1_7 l1_7.length c1_7):=(blk_cell BK143.out 7).trans rfl
      have hfz122_0:=blk_frozen BK143.out 0
      have hfz122_1:=blk_frozen BK143.out 1
      have hfz122_2:=blk_frozen BK143.out 2
      have hfz122_3:=blk_frozen BK143.out 3
      have hfz122_4:=blk_frozen BK143.out 4
      have hfz122_5:=blk_frozen BK143.out 5
      have hfz122_6:=blk_frozen BK143.out 6
      have hfz122_7:=blk_frozen BK143.out 7
      go_wp2_with (first|((with_reducible refine gate_callee (f:=13) rfl ?_);refine goesL_ (some 58) rfl rfl Tryd.func13 (by kernel_rfl) rfl #[.int .i64 a1_0] rfl (by (try simp only [List.map_toArray,List.map_cons,List.map_nil]);first|done|rfl|(simp only [List.length_drop,List.length_take];rfl)) ?_;(with_reducible refine (class_flags.calls a1_0 true _ A47.out).mono ?_);rintro e w' ⟨rfl,⟨nd,rfl⟩⟩;refine ⟨_,rfl,?_⟩;have hcz123_0:wr.cell? ⟨gb142,0,none⟩=some (.slice A0_0 l0_0.length c0_0):=(blk_cell BK142.out 0).trans rfl;have hfz123_0:=blk_frozen BK142.out 0)|((with_reducible refine gate_dst (N:=65) rfl ?_);(try (refine gate_guard (by rfl) ?_;dsimp only));refine Kd.R_lit (Kd.int .i64) _ 3 ?hg (N:=65) ?hd (xs:=([a1_1,a1_2]:List Int)) (inner:=[.int .i64 a1_1,.int .i64 a1_2]) (ok:=fun _ => True) (okp:=fun _ => True) ?hr ?hp (fun _ hk => hk) trivial (Below.refl _ _) (Nat.le_refl _) (by simp) ?_;(case hd => rfl);(case hg => rfl);(case hr => first|(go_simp;done)|(go_simp;rfl));(case hp => exact (Reps.one (show Kd.M (Kd.int .i64) _ _ _ a1_1 [.int .i64 a1_1] from rfl) (Reps.one (show Kd.M (Kd.int .i64) _ _ _ a1_2 [.int .i64 a1_2] from rfl) (Reps.none _ _))));intro v153 w124 ho125 hb hg_ hnew_;clear hg_ hnew_;(first|rw [← Ny152.out] at ho125|(simp only [Int.reduceToNat] at ho125;rw [← Ny152.out] at ho125));have n0_:=Aside0.mk (Kd.R_lower ho125 (below_size (by repeat (first|(with_reducible first|exact HB.out|apply below_alloc|apply pw_below_drewN|apply below_drew1|refine below_set ?_ GE142.out|refine below_set ?_ GE143.out)|exact HB.out))));have n1_:=Aside0.mk (blk_below (g:=gb142) (o:=.cells #[.slice A0_0 l0_0.length c0_0] 39 (0,0)) (by (with_reducible repeat (first|refine blk_drewN ?_ _|refine blk_drew ?_|refine blk_alloc ?_ _));exact BK142.out) hb);have n2_:=Aside0.mk (blk_below (g:=gb143) (o:=.cells #[.int .i64 a1_0,.int .i64 a1_1,.int .i64 a1_2,.int .i64 a1_3,.int .i64 a1_4,.slice A1_5 l1_5.length c1_5,.slice A1_6 l1_6.length c1_6,.slice A1_7 l1_7.length c1_7] 37 (0,0)) (by (with_reducible repeat (first|refine blk_drewN ?_ _|refine blk_drew ?_|refine blk_alloc ?_ _));exact BK143.out) hb);have n3_:=Aside0.mk (below_step (by repeat (first|(with_reducible first|exact HB.out|apply below_alloc|apply pw_below_drewN|apply below_drew1|refine below_set ?_ GE142.out|refine below_set ?_ GE143.out)|exact HB.out)) hb);clear BK142;clear BK143;clear HB;have HO154:=n0_;have BK142:=n1_;have BK143:=n2_;have HB:=n3_;clear n0_ n1_ n2_ n3_;clear hb ho125;obtain ⟨Ao126,co126,eo126⟩:=Kd.R_slice HO154.out;subst eo126)|(go_at_call 14;(with_reducible refine (class_rules_text.calls k1 _ _ l0_0 _ _ y152 false _ ?side1 ?side2 ?side3 ?side4 A49.out).mono ?_);(case side1 => repeat (first|exact (Kd.C_below HR0_0.out HB.out)|(with_reducible refine Kd.C_alloc ?_ _)|(with_reducible refine Kd.C_drewN ?_ _)|(with_reducible refine Kd.C_drew ?_)));(case side2 => exact HC0_0.out);(case side3 => repeat (first|exact (Kd.R_reads' HO154.out).2.2|(with_reducible refine Kd.C_alloc ?_ _)|(with_reducible refine Kd.C_drewN ?_ _)|(with_reducible refine Kd.C_drew ?_)));(case side4 => exact (Kd.R_reads' HO154.out).2.1);rintro e w127 ⟨rfl,hb⟩;have n0_:=Aside0.mk (Kd.R_below (by (with_reducible repeat (first|apply Kd.R_alloc|apply Kd.R_drewN|apply Kd.R_drew));exact HO154.out) hb);have n1_:=Aside0.mk (blk_below (g:=gb142) (o:=.cells #[.slice A0_0 l0_0.length c0_0] 39 (0,0)) (by (with_reducible repeat (first|refine blk_drewN ?_ _|refine blk_drew ?_|refine blk_alloc ?_ _));exact BK142.out) hb);have n2_:=Aside0.mk (blk_below (g:=gb143) (o:=.cells #[.int .i64 a1_0,.int .i64 a1_1,.int .i64 a1_2,.int .i64 a1_3,.int .i64 a1_4,.slice A1_5 l1_5.length c1_5,.slice A1_6 l1_6.length c1_6,.slice A1_7 l1_7.length c1_7] 37 (0,0)) (by (with_reducible repeat (first|refine blk_drewN ?_ _|refine blk_drew ?_|refine blk_alloc ?_ _));exact BK143.out) hb);have n3_:=Aside0.mk (below_step (by repeat (first|(with_reducible first|exact HB.out|apply below_alloc|apply pw_below_drewN|apply below_drew1|refine below_set ?_ GE142.out|refine below_set ?_ GE143.out)|exact HB.out)) hb);clear HO154;clear BK142;clear BK143;clear HB;have HO154:=n0_;have BK142:=n1_;have BK143:=n2_;have HB:=n3_;clear n0_ n1_ n2_ n3_;(try clear hb);(try clear hb2);(try clear hk);(try clear hi)))
      go_ret
      exact ⟨by first|rfl|(simp [errW_none,errW_some] <;> rfl)|(simp [*,errW_none,errW_some] <;> rfl),by repeat (first|(with_reducible first|exact HB.out|apply below_alloc|apply pw_below_drewN|apply below_drew1|refine below_set ?_ GE142.out|refine below_set ?_ GE143.out)|exact HB.out)⟩
    ·replace c48:=Bool.eq_false_iff.mpr c48
     subst c48
     have H1:(some false)=some r:=by rw [if_neg (show ¬ (false=true) by decide)] at H;exact H
     clear H
     have H:=H1
     clear H1
     obtain rfl:=Option.some.inj H
     have hnb128:=NB143_142.out
     have hnc128:=NB142_143.out
     have hcz129_0:wr.cell? ⟨gb143,0,none⟩=some (.int .i64 a1_0):=(blk_cell BK143.out 0).trans rfl
     have hcz129_1:wr.cell? ⟨gb143,1,none⟩=some (.int .i64 a1_1):=(blk_cell BK143.out 1).trans rfl
     have hcz129_2:wr.cell? ⟨gb143,2,none⟩=some (.int .i64 a1_2):=(blk_cell BK143.out 2).trans rfl
     have hcz129_3:wr.cell? ⟨gb143,3,none⟩=some (.int .i64 a1_3):=(blk_cell BK143.out 3).trans rfl
     have hcz129_4:wr.cell? ⟨gb143,4,none⟩=some (.int .i64 a1_4):=(blk_cell BK143.out 4).trans rfl
     have hcz129_5:wr.cell? ⟨gb143,5,none⟩=some (.slice A1_5 l1_5.length c1_5):=(blk_cell BK143.out 5).trans rfl
     have hcz129_6:wr.cell? ⟨gb143,6,none⟩=some (.slice A1_6 l1_6.length c1_6):=(blk_cell BK143.out 6).trans rfl
     have hcz129_7:wr.cell? ⟨gb143,7,none⟩=some (.slice A1_7 l1_7.length c1_7):=(blk_cell BK143.out 7).trans rfl
     have hfz129_0:=blk_frozen BK143.out 0
     have hfz129_1:=blk_frozen BK143.out 1
     have hfz129_2:=blk_frozen BK143.out 2
     have hfz129_3:=blk_frozen BK143.out 3
     have hfz129_4:=blk_frozen BK143.out 4
     have hfz129_5:=blk_frozen BK143.out 5
     have hfz129_6:=blk_frozen BK143.out 6
     have hfz129_7:=blk_frozen BK143.out 7
     go_wp2_with (first|((with_reducible refine gate_callee (f:=13) rfl ?_);refine goesL_ (some 58) rfl rfl Tryd.func13 (by kernel_rfl) rfl #[.int .i64 a1_0] rfl (by (try simp only [List.map_toArray,List.map_cons,List.map_nil]);first|done|rfl|(simp only [List.length_drop,List.length_take];rfl)) ?_;(with_reducible refine (class_flags.calls a1_0 false _ A47.out).mono ?_);rintro e w' ⟨rfl,⟨nd,rfl⟩⟩;refine ⟨_,rfl,?_⟩))
     go_ret
     exact ⟨by first|rfl|(simp [errW_none,errW_some] <;> rfl)|(simp [*,errW_none,errW_some] <;> rfl),by repeat (first|(with_reducible first|exact HB.out|apply below_alloc|apply pw_below_drewN|apply below_drew1|refine below_set ?_ GE142.out|refine below_set ?_ GE143.out)|exact HB.out)⟩
end Go.Proofs.YtiolgmklpldpcaaDoor.Px
