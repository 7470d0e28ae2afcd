-- short. By myprint.py (wip/tools), over the kit's print.
import Derived.Test.YtiolgmklpldpcaaDoorPx0
import Derived.Test.YtiolgmklpldpcaaDoorPx2
namespace Go.Proofs.YtiolgmklpldpcaaDoor.Px
open Go.RowKit Go.Proofs.YtiolgmklpldpcaaDoorW.PrintWords Go.Proofs.YtiolgmklpldpcaaDoorW.PrintLast Go.Proofs.YtiolgmklpldpcaaDoorW.PrintMore
attribute [local go_sem] max2_int min2_int max_two min_two max_three min_three max_four min_four
set_option linter.unusedVariables false
set_option linter.unusedSimpArgs false
/-! ### pool_leads: function 37 -/
mutual
def pool_leads.j0:Nat→List (S51)→Int→Bool→Int→ByteArray→Int→Int→Int→Option (Bool)
 | 0,_,_,_,_,_,_,_,_ => none
 | k + 1,x0,x6,x7,x106000,x106001,x106002,x106003,x106004 => if x7=true then (some true) else (if x6=3 then (some ((wrap64 (wrap32 (x106002)))==x106002)) else (if x6=7 then ((pool_is.f x0 x106003 1).bind fun t106 => (some t106)) else (if x6=12 then ((pool_is.f x0 x106003 1).bind fun t107 => (if t107=true then ((pool_is.f x0 x106004 1).bind fun t108 => (some t108)) else (some false))) else (if x6=9 then (pool_leads.j1 k x0 (x6==9) x106000 x106001 x106002 x106003 x106004) else (pool_leads.j1 k x0 (x6==10) x106000 x106001 x106002 x106003 x106004)))))
def pool_leads.j1:Nat→List (S51)→Bool→Int→ByteArray→Int→Int→Int→Option (Bool)
 | 0,_,_,_,_,_,_,_ => none
 | k + 1,x0,x37,x106000,x106001,x106002,x106003,x106004 => if x37=true then ((pool_is.f x0 x106003 7).bind fun t109 => (if t109=true then ((pool_is.f x0 x106004 12).bind fun t110 => (some t110)) else (some false))) else (some false)
end
def pool_leads.f (k:Nat) (l0:List (S51)) (a1_0:Int) (a1_1:ByteArray) (a1_2:Int) (a1_3:Int) (a1_4:Int):Option (Bool):=if a1_0=1 then (pool_leads.j0 k l0 a1_0 (a1_0==1) a1_0 a1_1 a1_2 a1_3 a1_4) else (pool_leads.j0 k l0 a1_0 (a1_0==5) a1_0 a1_1 a1_2 a1_3 a1_4)
theorem pool_leads.mono_l:∀ k,(∀ y0 y1 y2 y3 y4 y5 y6 y7,LeO (pool_leads.j0 k y0 y1 y2 y3 y4 y5 y6 y7) (pool_leads.j0 (k + 1) y0 y1 y2 y3 y4 y5 y6 y7))∧(∀ y0 y1 y2 y3 y4 y5 y6,LeO (pool_leads.j1 k y0 y1 y2 y3 y4 y5 y6) (pool_leads.j1 (k + 1) y0 y1 y2 y3 y4 y5 y6))
 | 0 => ⟨fun _ _ _ _ _ _ _ _ r h => by simp [pool_leads.j0] at h,fun _ _ _ _ _ _ _ r h => by simp [pool_leads.j1] at h⟩
 | k + 1 => by
  obtain ⟨ih0,ih1⟩:=pool_leads.mono_l k
  refine ⟨?_,?_⟩
  ·intro y0 y1 y2 y3 y4 y5 y6 y7
   unfold pool_leads.j0
   repeat' first
   | (with_reducible exact ih0 _ _ _ _ _ _ _ _)
   | (with_reducible exact ih1 _ _ _ _ _ _ _)
   | (with_reducible exact LeO.refl _)
   | (with_reducible exact LeO.none _)
   | (with_reducible refine LeO.ite ?_ ?_)
   | (with_reducible refine LeO.bind ?_ (fun _ => ?_))
   | exact ih0 _ _ _ _ _ _ _ _
   | exact ih1 _ _ _ _ _ _ _
   | exact LeO.none _
   | refine LeO.ite ?_ ?_
   | refine LeO.bind ?_ (fun _ => ?_)
  ·intro y0 y1 y2 y3 y4 y5 y6
   unfold pool_leads.j1
   repeat' first
   | (with_reducible exact ih0 _ _ _ _ _ _ _ _)
   | (with_reducible exact ih1 _ _ _ _ _ _ _)
   | (with_reducible exact LeO.refl _)
   | (with_reducible exact LeO.none _)
   | (with_reducible refine LeO.ite ?_ ?_)
   | (with_reducible refine LeO.bind ?_ (fun _ => ?_))
   | exact ih0 _ _ _ _ _ _ _ _
   | exact ih1 _ _ _ _ _ _ _
   | exact LeO.none _
   | refine LeO.ite ?_ ?_
   | refine LeO.bind ?_ (fun _ => ?_)
theorem pool_leads.mono:∀ a0 a1 a2 a3 a4 a5 k,LeO (pool_leads.f k a0 a1 a2 a3 a4 a5) (pool_leads.f (k + 1) a0 a1 a2 a3 a4 a5):=by
 intro a0 a1 a2 a3 a4 a5 k
 obtain ⟨ih0,ih1⟩:=pool_leads.mono_l k
 unfold pool_leads.f
 repeat' first
   | (with_reducible exact ih0 _ _ _ _ _ _ _ _)
   | (with_reducible exact ih1 _ _ _ _ _ _ _)
   | (with_reducible exact LeO.refl _)
   | (with_reducible exact LeO.none _)
   | (with_reducible refine LeO.ite ?_ ?_)
   | (with_reducible refine LeO.bind ?_ (fun _ => ?_))
   | exact ih0 _ _ _ _ _ _ _ _
   | exact ih1 _ _ _ _ _ _ _
   | exact LeO.none _
   | refine LeO.ite ?_ ?_
   | refine LeO.bind ?_ (fun _ => ?_)
set_option maxHeartbeats 80000000 in
set_option maxRecDepth 100000 in
theorem pool_leads.calls (k:Nat) (A0:Option Addr) (c0:Nat) (l0:List (S51)) (a1_0:Int) (a1_1:ByteArray) (a1_2:Int) (a1_3:Int) (a1_4:Int) (r:Bool) (w:World) (hr0:Kd.C k51 w A0 l0.length l0) (hc0:l0.length≤c0) (h:pool_leads.f k l0 a1_0 a1_1 a1_2 a1_3 a1_4=some r) :
  Calls Tryd.prog 37 #[.slice A0 l0.length c0,.agg #[.int .i64 a1_0,.string a1_1,.int .i64 a1_2,.int .i64 a1_3,.int .i64 a1_4]] w fun e w' => e=.returned (.bool r)∧Below w.heap.size w w':=by
 have hu51:=Tryd.underlying51
 have HR0:=Aside0.mk hr0
 have HC0:=Aside0.mk hc0
 clear hr0 hc0
 have HB:=Aside0.mk (Below.refl w.heap.size w)
 have H:(if a1_0=1 then (pool_leads.j0 k l0 a1_0 (a1_0==1) a1_0 a1_1 a1_2 a1_3 a1_4) else (pool_leads.j0 k l0 a1_0 (a1_0==5) a1_0 a1_1 a1_2 a1_3 a1_4))=some r:=h
 clear h
 have HC3:=Aside0.mk H
 clear H
 go_enter Tryd.func37,Tryd.ntmps37
 go_upto_if 7 with (first|((with_reducible refine gate_dst (N:=3) rfl ?_);refine box_event ?hg (N:=3) ?hd (cs:=#[.int .i64 a1_0,.string a1_1,.int .i64 a1_2,.int .i64 a1_3,.int .i64 a1_4]) (t:=51) ?hr ?_;(case hd => rfl);(case hg => rfl);(case hr => first|(go_simp;done)|(go_simp;rfl));intro gb105 hg w4 hbox hb;have n0_:=Aside0.mk (below_step (by repeat (first|(with_reducible first|exact HB.out|apply below_alloc|apply pw_below_drewN|apply below_drew1)|exact HB.out)) hb);have n1_:=Aside0.mk (hbox);have n2_:=Aside0.mk ((by rw [hg];exact (below_size (by repeat (first|(with_reducible first|exact HB.out|apply below_alloc|apply pw_below_drewN|apply below_drew1)|exact HB.out))):w.heap.size≤gb105));have n3_:=Aside0.mk ((by rw [hg];exact (below_size (by repeat (first|(with_reducible first|exact HB.out|apply below_alloc|apply pw_below_drewN|apply below_drew1)|exact HB.out))):w.heap.size≤gb105));clear HB;have HB:=n0_;have BK105:=n1_;have GW105:=n2_;have GE105:=n3_;clear n0_ n1_ n2_ n3_;clear hb hbox hg;have hcz5_0:w4.cell? ⟨gb105,0,none⟩=some (.int .i64 a1_0):=(blk_cell BK105.out 0).trans rfl;have hcz5_1:w4.cell? ⟨gb105,1,none⟩=some (.string a1_1):=(blk_cell BK105.out 1).trans rfl;have hcz5_2:w4.cell? ⟨gb105,2,none⟩=some (.int .i64 a1_2):=(blk_cell BK105.out 2).trans rfl;have hcz5_3:w4.cell? ⟨gb105,3,none⟩=some (.int .i64 a1_3):=(blk_cell BK105.out 3).trans rfl;have hcz5_4:w4.cell? ⟨gb105,4,none⟩=some (.int .i64 a1_4):=(blk_cell BK105.out 4).trans rfl;have hfz5_0:=blk_frozen BK105.out 0;have hfz5_1:=blk_frozen BK105.out 1;have hfz5_2:=blk_frozen BK105.out 2;have hfz5_3:=blk_frozen BK105.out 3;have hfz5_4:=blk_frozen BK105.out 4))
 (try simp only [Act.put,List.setIfInBounds_toArray,List.set_cons_zero,List.set_cons_succ])
 go_cut [7] (fun v7 wc => ∃ (kq:Nat) (x7_2:Bool),v7=.bool x7_2∧Aside0 (pool_leads.j0 kq l0 a1_0 x7_2 a1_0 a1_1 a1_2 a1_3 a1_4=some r)∧Aside0 (kq≤k)∧Aside0 (wc.heap[gb105]?=some (.cells #[.int .i64 a1_0,.string a1_1,.int .i64 a1_2,.int .i64 a1_3,.int .i64 a1_4] 51 (0,0)))∧Aside0 (Below w.heap.size w wc))
 case first =>
  have H:=HC3.out
  clear HC3
  by_cases c6:a1_0=1
  ·rw [if_pos c6] at H
   have c6b0:(a1_0==1)=true:=beq_iff_eq.mpr c6
   have c6b1:(a1_0 != 1)=false:=bne_eq_false_iff_eq.mpr c6
   clear c6
   (first|rw [c6b0]|(simp only [i64_w,i32_w];rw [c6b0])|skip)
   have H':=Aside0.mk H
   clear H
   go_wp2
   go_meet
   case rel => exact ⟨_,((a1_0==1)),(by first|rfl|(simp;done)|(simp [*];done)),H',⟨by first|omega|exact Nat.le_refl _⟩,⟨by (with_reducible repeat (first|refine blk_drewN ?_ _|refine blk_drew ?_|refine blk_alloc ?_ _));exact BK105.out⟩,⟨by repeat (first|(with_reducible first|exact HB.out|apply below_alloc|apply pw_below_drewN|apply below_drew1|refine below_set ?_ GE105.out)|exact HB.out)⟩⟩
  ·rw [if_neg c6] at H
   have c6b0:(a1_0==1)=false:=beq_eq_false_iff_ne.mpr c6
   have c6b1:(a1_0 != 1)=true:=bne_iff_ne.mpr c6
   (first|rw [c6b0]|(simp only [i64_w,i32_w];rw [c6b0])|skip)
   have H':=Aside0.mk H
   clear H
   go_wp2
   go_meet
   case rel => exact ⟨_,((a1_0==5)),(by first|rfl|(simp;done)|(simp [*];done)),H',⟨by first|omega|exact Nat.le_refl _⟩,⟨by (with_reducible repeat (first|refine blk_drewN ?_ _|refine blk_drew ?_|refine blk_alloc ?_ _));exact BK105.out⟩,⟨by repeat (first|(with_reducible first|exact HB.out|apply below_alloc|apply pw_below_drewN|apply below_drew1|refine below_set ?_ GE105.out)|exact HB.out)⟩⟩
 case rest =>
  clear HC3
  try clear p2;try clear c3;try clear c6;try clear c6b0;try clear c6b1;try clear hcz5_0;try clear hcz5_1;try clear hcz5_2;try clear hcz5_3;try clear hcz5_4;try clear hfz5_0;try clear hfz5_1;try clear hfz5_2;try clear hfz5_3;try clear hfz5_4
  obtain ⟨kq,x7_2,rfl,HA,HJ2,BK105,HB⟩:=hcut
  cases kq with
  | zero => exact absurd HA.out (by simp [pool_leads.j0])
  | succ kj2 =>
   have H:=HA.out
   clear HA
   simp only [pool_leads.j0] at H
   by_cases c7:x7_2=true
   ·subst c7
    have H1:(some true)=some r:=by rw [if_pos rfl] at H;exact H
    clear H
    have H:=H1
    clear H1
    obtain rfl:=Option.some.inj H
    go_wp2
    go_ret
    exact ⟨by first|rfl|(simp [errW_none,errW_some] <;> rfl)|(simp [*,errW_none,errW_some] <;> rfl),by repeat (first|(with_reducible first|exact HB.out|apply below_alloc|apply pw_below_drewN|apply below_drew1|refine below_set ?_ GE105.out)|exact HB.out)⟩
   ·replace c7:=Bool.eq_false_iff.mpr c7
    subst c7
    have H1:(if a1_0=3 then (some ((wrap64 (wrap32 (a1_2)))==a1_2)) else (if a1_0=7 then ((pool_is.f l0 a1_3 1).bind fun t106 => (some t106)) else (if a1_0=12 then ((pool_is.f l0 a1_3 1).bind fun t107 => (if t107=true then ((pool_is.f l0 a1_4 1).bind fun t108 => (some t108)) else (some false))) else (if a1_0=9 then (pool_leads.j1 kj2 l0 (a1_0==9) a1_0 a1_1 a1_2 a1_3 a1_4) else (pool_leads.j1 kj2 l0 (a1_0==10) a1_0 a1_1 a1_2 a1_3 a1_4)))))=some r:=by rw [if_neg (show ¬ (false=true) by decide)] at H;exact H
    clear H
    have H:=H1
    clear H1
    by_cases c8:a1_0=3
    ·rw [if_pos c8] at H
     have c8b0:(a1_0==3)=true:=beq_iff_eq.mpr c8
     have c8b1:(a1_0 != 3)=false:=bne_eq_false_iff_eq.mpr c8
     clear c8
     obtain rfl:=Option.some.inj H
     have hcz9_0:wc.cell? ⟨gb105,0,none⟩=some (.int .i64 a1_0):=(blk_cell BK105.out 0).trans rfl
     have hcz9_1:wc.cell? ⟨gb105,1,none⟩=some (.string a1_1):=(blk_cell BK105.out 1).trans rfl
     have hcz9_2:wc.cell? ⟨gb105,2,none⟩=some (.int .i64 a1_2):=(blk_cell BK105.out 2).trans rfl
     have hcz9_3:wc.cell? ⟨gb105,3,none⟩=some (.int .i64 a1_3):=(blk_cell BK105.out 3).trans rfl
     have hcz9_4:wc.cell? ⟨gb105,4,none⟩=some (.int .i64 a1_4):=(blk_cell BK105.out 4).trans rfl
     have hfz9_0:=blk_frozen BK105.out 0
     have hfz9_1:=blk_frozen BK105.out 1
     have hfz9_2:=blk_frozen BK105.out 2
     have hfz9_3:=blk_frozen BK105.out 3
     have hfz9_4:=blk_frozen BK105.out 4
     go_wp2
     go_ret
     exact ⟨by first|rfl|(simp [errW_none,errW_some] <;> rfl)|(simp [*,errW_none,errW_some] <;> rfl),by repeat (first|(with_reducible first|exact HB.out|apply below_alloc|apply pw_below_drewN|apply below_drew1|refine below_set ?_ GE105.out)|exact HB.out)⟩
    ·rw [if_neg c8] at H
     have c8b0:(a1_0==3)=false:=beq_eq_false_iff_ne.mpr c8
     have c8b1:(a1_0 != 3)=true:=bne_iff_ne.mpr c8
     by_cases c10:a1_0=7
     ·rw [if_pos c10] at H
      have c10b0:(a1_0==7)=true:=beq_iff_eq.mpr c10
      have c10b1:(a1_0 != 7)=false:=bne_eq_false_iff_eq.mpr c10
      clear c10
      replace H:=Option.bind_eq_some_iff.mp H
      obtain ⟨t106,A110,H⟩:=H
      replace H:(some t106)=some r:=H
      have A11:=Aside0.mk A110
      clear A110
      obtain rfl:=Option.some.inj H
      have hcz12_0:wc.cell? ⟨gb105,0,none⟩=some (.int .i64 a1_0):=(blk_cell BK105.out 0).trans rfl
      have hcz12_1:wc.cell? ⟨gb105,1,none⟩=some (.string a1_1):=(blk_cell BK105.out 1).trans rfl
      have hcz12_2:wc.cell? ⟨gb105,2,none⟩=some (.int .i64 a1_2):=(blk_cell BK105.out 2).trans rfl
      have hcz12_3:wc.cell? ⟨gb105,3,none⟩=some (.int .i64 a1_3):=(blk_cell BK105.out 3).trans rfl
      have hcz12_4:wc.cell? ⟨gb105,4,none⟩=some (.int .i64 a1_4):=(blk_cell BK105.out 4).trans rfl
      have hfz12_0:=blk_frozen BK105.out 0
      have hfz12_1:=blk_frozen BK105.out 1
      have hfz12_2:=blk_frozen BK105.out 2
      have hfz12_3:=blk_frozen BK105.out 3
      have hfz12_4:=blk_frozen BK105.out 4
      go_wp2_with (first|((with_reducible refine gate_callee (f:=30) rfl ?_);refine goesL_ (some 24) rfl rfl Tryd.func30 (by kernel_rfl) rfl #[.slice A0 l0.length c0,.int .i64 a1_3,.int .i64 1] rfl (by (try simp only [List.map_toArray,List.map_cons,List.map_nil]);first|done|rfl|(simp only [List.length_drop,List.length_take];rfl)) ?_;(with_reducible refine (pool_is.calls _ _ l0 a1_3 1 t106 _ ?side1 ?side2 A11.out).mono ?_);(case side1 => repeat (first|exact (Kd.C_below HR0.out HB.out)|(with_reducible refine Kd.C_alloc ?_ _)|(with_reducible refine Kd.C_drewN ?_ _)|(with_reducible refine Kd.C_drew ?_)));(case side2 => exact HC0.out);rintro e w' ⟨rfl,⟨nd,rfl⟩⟩;refine ⟨_,rfl,?_⟩))
      go_ret
      exact ⟨by first|rfl|(simp [errW_none,errW_some] <;> rfl)|(simp [*,errW_none,errW_some] <;> rfl),by repeat (first|(with_reducible first|exact HB.out|apply below_alloc|apply pw_below_drewN|apply below_drew1|refine below_set ?_ GE105.out)|exact HB.out)⟩
     ·rw [if_neg c10] at H
      have c10b0:(a1_0==7)=false:=beq_eq_false_iff_ne.mpr c10
      have c10b1:(a1_0 != 7)=true:=bne_iff_ne.mpr c10
      by_cases c13:a1_0=12
      ·rw [if_pos c13] at H
       have c13b0:(a1_0==12)=true:=beq_iff_eq.mpr c13
       have c13b1:(a1_0 != 12)=false:=bne_eq_false_iff_eq.mpr c13
       clear c13
       replace H:=Option.bind_eq_some_iff.mp H
       obtain ⟨t107,A140,H⟩:=H
       replace H:(if t107=true then ((pool_is.f l0 a1_4 1).bind fun t108 => (some t108)) else (some false))=some r:=H
       have A14:=Aside0.mk A140
       clear A140
       by_cases c15:t107=true
       ·subst c15
        have H1:((pool_is.f l0 a1_4 1).bind fun t108 => (some t108))=some r:=by rw [if_pos rfl] at H;exact H
        clear H
        have H:=H1
        clear H1
        replace H:=Option.bind_eq_some_iff.mp H
        obtain ⟨t108,A160,H⟩:=H
        replace H:(some t108)=some r:=H
        have A16:=Aside0.mk A160
        clear A160
        obtain rfl:=Option.some.inj H
        have hcz17_0:wc.cell? ⟨gb105,0,none⟩=some (.int .i64 a1_0):=(blk_cell BK105.out 0).trans rfl
        have hcz17_1:wc.cell? ⟨gb105,1,none⟩=some (.string a1_1):=(blk_cell BK105.out 1).trans rfl
        have hcz17_2:wc.cell? ⟨gb105,2,none⟩=some (.int .i64 a1_2):=(blk_cell BK105.out 2).trans rfl
        have hcz17_3:wc.cell? ⟨gb105,3,none⟩=some (.int .i64 a1_3):=(blk_cell BK105.out 3).trans rfl
        have hcz17_4:wc.cell? ⟨gb105,4,none⟩=some (.int .i64 a1_4):=(blk_cell BK105.out 4).trans rfl
        have hfz17_0:=blk_frozen BK105.out 0
        have hfz17_1:=blk_frozen BK105.out 1
        have hfz17_2:=blk_frozen BK105.out 2
        have hfz17_3:=blk_frozen BK105.out 3
        have hfz17_4:=blk_frozen BK105.out 4
        go_wp2_with (first|((with_reducible refine gate_callee (f:=30) rfl ?_);refine goesL_ (some 30) rfl rfl Tryd.func30 (by kernel_rfl) rfl #[.slice A0 l0.length c0,.int .i64 a1_3,.int .i64 1] rfl (by (try simp only [List.map_toArray,List.map_cons,List.map_nil]);first|done|rfl|(simp only [List.length_drop,List.length_take];rfl)) ?_;(with_reducible refine (pool_is.calls _ _ l0 a1_3 1 true _ ?side1 ?side2 A14.out).mono ?_);(case side1 => repeat (first|exact (Kd.C_below HR0.out HB.out)|(with_reducible refine Kd.C_alloc ?_ _)|(with_reducible refine Kd.C_drewN ?_ _)|(with_reducible refine Kd.C_drew ?_)));(case side2 => exact HC0.out);rintro e w' ⟨rfl,⟨nd,rfl⟩⟩;refine ⟨_,rfl,?_⟩)|(go_at_call 30;(with_reducible refine (pool_is.calls _ _ l0 a1_4 1 t108 _ ?side1 ?side2 A16.out).mono ?_);(case side1 => repeat (first|exact (Kd.C_below HR0.out (by repeat (first|(with_reducible first|exact HB.out|apply below_alloc|apply pw_below_drewN|apply below_drew1|refine below_set ?_ GE105.out)|exact HB.out)))|(with_reducible refine Kd.C_alloc ?_ _)|(with_reducible refine Kd.C_drewN ?_ _)|(with_reducible refine Kd.C_drew ?_)));(case side2 => exact HC0.out);rintro e w' ⟨rfl,⟨nd,rfl⟩⟩))
        go_ret
        exact ⟨by first|rfl|(simp [errW_none,errW_some] <;> rfl)|(simp [*,errW_none,errW_some] <;> rfl),by repeat (first|(with_reducible first|exact HB.out|apply below_alloc|apply pw_below_drewN|apply below_drew1|refine below_set ?_ GE105.out)|exact HB.out)⟩
       ·replace c15:=Bool.eq_false_iff.mpr c15
        subst c15
        have H1:(some false)=some r:=by rw [if_neg (show ¬ (false=true) by decide)] at H;exact H
        clear H
        have H:=H1
        clear H1
        obtain rfl:=Option.some.inj H
        have hcz18_0:wc.cell? ⟨gb105,0,none⟩=some (.int .i64 a1_0):=(blk_cell BK105.out 0).trans rfl
        have hcz18_1:wc.cell? ⟨gb105,1,none⟩=some (.string a1_1):=(blk_cell BK105.out 1).trans rfl
        have hcz18_2:wc.cell? ⟨gb105,2,none⟩=some (.int .i64 a1_2):=(blk_cell BK105.out 2).trans rfl
        have hcz18_3:wc.cell? ⟨gb105,3,none⟩=some (.int .i64 a1_3):=(blk_cell BK105.out 3).trans rfl
        have hcz18_4:wc.cell? ⟨gb105,4,none⟩=some (.int .i64 a1_4):=(blk_cell BK105.out 4).trans rfl
        have hfz18_0:=blk_frozen BK105.out 0
        have hfz18_1:=blk_frozen BK105.out 1
        have hfz18_2:=blk_frozen BK105.out 2
        have hfz18_3:=blk_frozen BK105.out 3
        have hfz18_4:=blk_frozen BK105.out 4
        go_wp2_with (first|((with_reducible refine gate_callee (f:=30) rfl ?_);refine goesL_ (some 30) rfl rfl Tryd.func30 (by kernel_rfl) rfl #[.slice A0 l0.length c0,.int .i64 a1_3,.int .i64 1] rfl (by (try simp only [List.map_toArray,List.map_cons,List.map_nil]);first|done|rfl|(simp only [List.length_drop,List.length_take];rfl)) ?_;(with_reducible refine (pool_is.calls _ _ l0 a1_3 1 false _ ?side1 ?side2 A14.out).mono ?_);(case side1 => repeat (first|exact (Kd.C_below HR0.out HB.out)|(with_reducible refine Kd.C_alloc ?_ _)|(with_reducible refine Kd.C_drewN ?_ _)|(with_reducible refine Kd.C_drew ?_)));(case side2 => exact HC0.out);rintro e w' ⟨rfl,⟨nd,rfl⟩⟩;refine ⟨_,rfl,?_⟩))
        go_ret
        exact ⟨by first|rfl|(simp [errW_none,errW_some] <;> rfl)|(simp [*,errW_none,errW_some] <;> rfl),by repeat (first|(with_reducible first|exact HB.out|apply below_alloc|apply pw_below_drewN|apply below_drew1|refine below_set ?_ GE105.out)|exact HB.out)⟩
      ·rw [if_neg c13] at H
       have c13b0:(a1_0==12)=false:=beq_eq_false_iff_ne.mpr c13
       have c13b1:(a1_0 != 12)=true:=bne_iff_ne.mpr c13
       have HC19:=Aside0.mk H
       clear H
       go_upto_if 37 with (fail)
       go_cut [37] (fun v37 wc => ∃ (kq:Nat) (x37_18:Bool),v37=.bool x37_18∧Aside0 (pool_leads.j1 kq l0 x37_18 a1_0 a1_1 a1_2 a1_3 a1_4=some r)∧Aside0 (kq≤kj2)∧Aside0 (wc.heap[gb105]?=some (.cells #[.int .i64 a1_0,.string a1_1,.int .i64 a1_2,.int .i64 a1_3,.int .i64 a1_4] 51 (0,0)))∧Aside0 (Below w.heap.size w wc))
       case first =>
        have H:=HC19.out
        clear HC19
        by_cases c20:a1_0=9
        ·rw [if_pos c20] at H
         have c20b0:(a1_0==9)=true:=beq_iff_eq.mpr c20
         have c20b1:(a1_0 != 9)=false:=bne_eq_false_iff_eq.mpr c20
         clear c20
         (first|rw [c20b0]|(simp only [i64_w,i32_w];rw [c20b0])|skip)
         have H':=Aside0.mk H
         clear H
         go_wp2
         go_meet
         case rel => exact ⟨_,((a1_0==9)),(by first|rfl|(simp;done)|(simp [*];done)),H',⟨by have:=HJ2.out;first|omega|exact Nat.le_refl _⟩,⟨by (with_reducible repeat (first|refine blk_drewN ?_ _|refine blk_drew ?_|refine blk_alloc ?_ _));exact BK105.out⟩,⟨by repeat (first|(with_reducible first|exact HB.out|apply below_alloc|apply pw_below_drewN|apply below_drew1|refine below_set ?_ GE105.out)|exact HB.out)⟩⟩
        ·rw [if_neg c20] at H
         have c20b0:(a1_0==9)=false:=beq_eq_false_iff_ne.mpr c20
         have c20b1:(a1_0 != 9)=true:=bne_iff_ne.mpr c20
         (first|rw [c20b0]|(simp only [i64_w,i32_w];rw [c20b0])|skip)
         have H':=Aside0.mk H
         clear H
         go_wp2
         go_meet
         case rel => exact ⟨_,((a1_0==10)),(by first|rfl|(simp;done)|(simp [*];done)),H',⟨by have:=HJ2.out;first|omega|exact Nat.le_refl _⟩,⟨by (with_reducible repeat (first|refine blk_drewN ?_ _|refine blk_drew ?_|refine blk_alloc ?_ _));exact BK105.out⟩,⟨by repeat (first|(with_reducible first|exact HB.out|apply below_alloc|apply pw_below_drewN|apply below_drew1|refine below_set ?_ GE105.out)|exact HB.out)⟩⟩
       case rest =>
        clear HC19
        try clear c1;try clear c2;try clear p2;try clear c3;try clear p3;try clear c6;try clear c6b0;try clear c6b1;try clear p6;try clear c7;try clear c8;try clear c8b0;try clear c8b1;try clear c10;try clear c10b0;try clear c10b1;try clear c13;try clear c13b0;try clear c13b1;try clear c15;try clear c20;try clear c20b0;try clear c20b1;try clear hcz12_0;try clear hcz12_1;try clear hcz12_2;try clear hcz12_3;try clear hcz12_4;try clear hcz17_0;try clear hcz17_1;try clear hcz17_2;try clear hcz17_3;try clear hcz17_4;try clear hcz18_0;try clear hcz18_1;try clear hcz18_2;try clear hcz18_3;try clear hcz18_4;try clear hcz5_0;try clear hcz5_1;try clear hcz5_2;try clear hcz5_3;try clear hcz5_4;try clear hcz9_0;try clear hcz9_1;try clear hcz9_2;try clear hcz9_3;try clear hcz9_4;try clear hfz12_0;try clear hfz12_1;try clear hfz12_2;try clear hfz12_3;try clear hfz12_4;try clear hfz17_0;try clear hfz17_1;try clear hfz17_2;try clear hfz17_3;try clear hfz17_4;try clear hfz18_0;try clear hfz18_1;try clear hfz18_2;try clear hfz18_3;try clear hfz18_4;try clear hfz5_0;try clear hfz5_1;try clear hfz5_2;try clear hfz5_3;try clear hfz5_4;try clear hfz9_0;try clear hfz9_1;try clear hfz9_2;try clear hfz9_3;try clear hfz9_4;try clear p2
        obtain ⟨kq,x37_18,rfl,HA,HJ18,BK105,HB⟩:=hcut
        cases kq with
        | zero => exact absurd HA.out (by simp [pool_leads.j1])
        | succ kj18 =>
         have H:=HA.out
         clear HA
         simp only [pool_leads.j1] at H
         by_cases c21:x37_18=true
         ·subst c21
          have H1:((pool_is.f l0 a1_3 7).bind fun t109 => (if t109=true then ((pool_is.f l0 a1_4 12).bind fun t110 => (some t110)) else (some false)))=some r:=by rw [if_pos rfl] at H;exact H
          clear H
          have H:=H1
          clear H1
          replace H:=Option.bind_eq_some_iff.mp H
          obtain ⟨t109,A220,H⟩:=H
          replace H:(if t109=true then ((pool_is.f l0 a1_4 12).bind fun t110 => (some t110)) else (some false))=some r:=H
          have A22:=Aside0.mk A220
          clear A220
          by_cases c23:t109=true
          ·subst c23
           have H1:((pool_is.f l0 a1_4 12).bind fun t110 => (some t110))=some r:=by rw [if_pos rfl] at H;exact H
           clear H
           have H:=H1
           clear H1
           replace H:=Option.bind_eq_some_iff.mp H
           obtain ⟨t110,A240,H⟩:=H
           replace H:(some t110)=some r:=H
           have A24:=Aside0.mk A240
           clear A240
           obtain rfl:=Option.some.inj H
           have hcz25_0:wc.cell? ⟨gb105,0,none⟩=some (.int .i64 a1_0):=(blk_cell BK105.out 0).trans rfl
           have hcz25_1:wc.cell? ⟨gb105,1,none⟩=some (.string a1_1):=(blk_cell BK105.out 1).trans rfl
           have hcz25_2:wc.cell? ⟨gb105,2,none⟩=some (.int .i64 a1_2):=(blk_cell BK105.out 2).trans rfl
           have hcz25_3:wc.cell? ⟨gb105,3,none⟩=some (.int .i64 a1_3):=(blk_cell BK105.out 3).trans rfl
           have hcz25_4:wc.cell? ⟨gb105,4,none⟩=some (.int .i64 a1_4):=(blk_cell BK105.out 4).trans rfl
           have hfz25_0:=blk_frozen BK105.out 0
           have hfz25_1:=blk_frozen BK105.out 1
           have hfz25_2:=blk_frozen BK105.out 2
           have hfz25_3:=blk_frozen BK105.out 3
           have hfz25_4:=blk_frozen BK105.out 4
           go_wp2_with (first|((with_reducible refine gate_callee (f:=30) rfl ?_);refine goesL_ (some 43) rfl rfl Tryd.func30 (by kernel_rfl) rfl #[.slice A0 l0.length c0,.int .i64 a1_3,.int .i64 7] rfl (by (try simp only [List.map_toArray,List.map_cons,List.map_nil]);first|done|rfl|(simp only [List.length_drop,List.length_take];rfl)) ?_;(with_reducible refine (pool_is.calls _ _ l0 a1_3 7 true _ ?side1 ?side2 A22.out).mono ?_);(case side1 => repeat (first|exact (Kd.C_below HR0.out HB.out)|(with_reducible refine Kd.C_alloc ?_ _)|(with_reducible refine Kd.C_drewN ?_ _)|(with_reducible refine Kd.C_drew ?_)));(case side2 => exact HC0.out);rintro e w' ⟨rfl,⟨nd,rfl⟩⟩;refine ⟨_,rfl,?_⟩)|(go_at_call 30;(with_reducible refine (pool_is.calls _ _ l0 a1_4 12 t110 _ ?side1 ?side2 A24.out).mono ?_);(case side1 => repeat (first|exact (Kd.C_below HR0.out (by repeat (first|(with_reducible first|exact HB.out|apply below_alloc|apply pw_below_drewN|apply below_drew1|refine below_set ?_ GE105.out)|exact HB.out)))|(with_reducible refine Kd.C_alloc ?_ _)|(with_reducible refine Kd.C_drewN ?_ _)|(with_reducible refine Kd.C_drew ?_)));(case side2 => exact HC0.out);rintro e w' ⟨rfl,⟨nd,rfl⟩⟩))
           go_ret
           exact ⟨by first|rfl|(simp [errW_none,errW_some] <;> rfl)|(simp [*,errW_none,errW_some] <;> rfl),by repeat (first|(with_reducible first|exact HB.out|apply below_alloc|apply pw_below_drewN|apply below_drew1|refine below_set ?_ GE105.out)|exact HB.out)⟩
          ·replace c23:=Bool.eq_false_iff.mpr c23
           subst c23
           have H1:(some false)=some r:=by rw [if_neg (show ¬ (false=true) by decide)] at H;exact H
           clear H
           have H:=H1
           clear H1
           obtain rfl:=Option.some.inj H
           have hcz26_0:wc.cell? ⟨gb105,0,none⟩=some (.int .i64 a1_0):=(blk_cell BK105.out 0).trans rfl
           have hcz26_1:wc.cell? ⟨gb105,1,none⟩=some (.string a1_1):=(blk_cell BK105.out 1).trans rfl
           have hcz26_2:wc.cell? ⟨gb105,2,none⟩=some (.int .i64 a1_2):=(blk_cell BK105.out 2).trans rfl
           have hcz26_3:wc.cell? ⟨gb105,3,none⟩=some (.int .i64 a1_3):=(blk_cell BK105.out 3).trans rfl
           have hcz26_4:wc.cell? ⟨gb105,4,none⟩=some (.int .i64 a1_4):=(blk_cell BK105.out 4).trans rfl
           have hfz26_0:=blk_frozen BK105.out 0
           have hfz26_1:=blk_frozen BK105.out 1
           have hfz26_2:=blk_frozen BK105.out 2
           have hfz26_3:=blk_frozen BK105.out 3
           have hfz26_4:=blk_frozen BK105.out 4
           go_wp2_with (first|((with_reducible refine gate_callee (f:=30) rfl ?_);refine goesL_ (some 43) rfl rfl Tryd.func30 (by kernel_rfl) rfl #[.slice A0 l0.length c0,.int .i64 a1_3,.int .i64 7] rfl (by (try simp only [List.map_toArray,List.map_cons,List.map_nil]);first|done|rfl|(simp only [List.length_drop,List.length_take];rfl)) ?_;(with_reducible refine (pool_is.calls _ _ l0 a1_3 7 false _ ?side1 ?side2 A22.out).mono ?_);(case side1 => repeat (first|exact (Kd.C_below HR0.out HB.out)|(with_reducible refine Kd.C_alloc ?_ _)|(with_reducible refine Kd.C_drewN ?_ _)|(with_reducible refine Kd.C_drew ?_)));(case side2 => exact HC0.out);rintro e w' ⟨rfl,⟨nd,rfl⟩⟩;refine ⟨_,rfl,?_⟩))
           go_ret
           exact ⟨by first|rfl|(simp [errW_none,errW_some] <;> rfl)|(simp [*,errW_none,errW_some] <;> rfl),by repeat (first|(with_reducible first|exact HB.out|apply below_alloc|apply pw_below_drewN|apply below_drew1|refine below_set ?_ GE105.out)|exact HB.out)⟩
         ·replace c21:=Bool.eq_false_iff.mpr c21
          subst c21
          have H1:(some false)=some r:=by rw [if_neg (show ¬ (false=true) by decide)] at H;exact H
          clear H
          have H:=H1
          clear H1
          obtain rfl:=Option.some.inj H
          go_wp2
          go_ret
          exact ⟨by first|rfl|(simp [errW_none,errW_some] <;> rfl)|(simp [*,errW_none,errW_some] <;> rfl),by repeat (first|(with_reducible first|exact HB.out|apply below_alloc|apply pw_below_drewN|apply below_drew1|refine below_set ?_ GE105.out)|exact HB.out)⟩
/-! ### text_split: function 45 -/
def text_split.f (a0:Int):Option (Int × Int):=if a0 < 65536 then (some (0,a0)) else (some (wrap32 (55296 + ((wrap32 (a0 - 65536)) / 1024)),wrap32 (56320 + (Go.bits .and .i32 (wrap32 (a0 - 65536)) 1023))))
set_option maxHeartbeats 80000000 in
set_option maxRecDepth 100000 in
theorem text_split.calls (a0:Int) (r1:Int) (r2:Int) (w:World) (h:text_split.f a0=some (r1,r2)) :
  Calls Tryd.prog 45 #[.int .i32 a0] w fun e w' => e=.returned (.tuple #[.int .i32 r1,.int .i32 r2])∧Drawn0 w w':=by
 have H:(if a0 < 65536 then (some (0,a0)) else (some (wrap32 (55296 + ((wrap32 (a0 - 65536)) / 1024)),wrap32 (56320 + (Go.bits .and .i32 (wrap32 (a0 - 65536)) 1023)))))=some (r1,r2):=h
 clear h
 by_cases c2:a0 < 65536
 ·rw [if_pos c2] at H
  have c2b0:decide (a0 < 65536)=true:=decide_eq_true c2
  clear c2
  simp only [Option.some.injEq,Prod.mk.injEq] at H
  obtain ⟨rfl,rfl⟩:=H
  go_enter Tryd.func45,Tryd.ntmps45
  go_wp2
  go_ret2
  exact ⟨by first|rfl|(simp;done)|(simp [*];done),by repeat (first|exact Drawn0.refl _|apply Drawn0.step)⟩
 ·rw [if_neg c2] at H
  have c2b0:decide (a0 < 65536)=false:=decide_eq_false c2
  clear c2
  simp only [Option.some.injEq,Prod.mk.injEq] at H
  obtain ⟨rfl,rfl⟩:=H
  go_enter Tryd.func45,Tryd.ntmps45
  go_wp2
  go_ret2
  exact ⟨by first|rfl|(simp;done)|(simp [*];done),by repeat (first|exact Drawn0.refl _|apply Drawn0.step)⟩
/-! ### text_unit: function 46 -/
def text_unit.j0:Nat→List Int→Int→Bool→Option (List Int)
 | 0,_,_,_ => none
 | k + 1,x0,x1,x5 => if x5=true then (if x0.length < 140737488355328 then (some (x0++[(x1) % 256])) else (none)) else (if x1 < 2048 then ((some (([Go.bits .or .u8 192 ((x1 / 64) % 256),Go.bits .or .u8 128 ((Go.bits .and .i32 x1 63) % 256)]:List Int):List Int)).bind fun y114 => (if x0.length + y114.length < 140737488355328 then (some (x0++y114)) else (none))) else ((some (([Go.bits .or .u8 224 ((x1 / 4096) % 256),Go.bits .or .u8 128 ((Go.bits .and .i32 (x1 / 64) 63) % 256),Go.bits .or .u8 128 ((Go.bits .and .i32 x1 63) % 256)]:List Int):List Int)).bind fun y120 => (if x0.length + y120.length < 140737488355328 then (some (x0++y120)) else (none))))
def text_unit.f (k:Nat) (l0:List Int) (a1:Int):Option (List Int):=if a1 > 0 then (text_unit.j0 k l0 a1 (decide (a1 < 128))) else (text_unit.j0 k l0 a1 false)
theorem text_unit.mono_l:∀ k,(∀ y0 y1 y2,LeO (text_unit.j0 k y0 y1 y2) (text_unit.j0 (k + 1) y0 y1 y2))
 | 0 => fun _ _ _ r h => by simp [text_unit.j0] at h
 | k + 1 => by
  have ih0:=text_unit.mono_l k
  ·intro y0 y1 y2
   unfold text_unit.j0
   repeat' first
   | (with_reducible exact ih0 _ _ _)
   | (with_reducible exact LeO.refl _)
   | (with_reducible exact LeO.none _)
   | (with_reducible refine LeO.ite ?_ ?_)
   | (with_reducible refine LeO.bind ?_ (fun _ => ?_))
   | exact ih0 _ _ _
   | exact LeO.none _
   | refine LeO.ite ?_ ?_
   | refine LeO.bind ?_ (fun _ => ?_)
theorem text_unit.mono:∀ a0 a1 k,LeO (text_unit.f k a0 a1) (text_unit.f (k + 1) a0 a1):=by
 intro a0 a1 k
 have ih0:=text_unit.mono_l k
 unfold text_unit.f
 repeat' first
   | (with_reducible exact ih0 _ _ _)
   | (with_reducible exact LeO.refl _)
   | (with_reducible exact LeO.none _)
   | (with_reducible refine LeO.ite ?_ ?_)
   | (with_reducible refine LeO.bind ?_ (fun _ => ?_))
   | exact ih0 _ _ _
   | exact LeO.none _
   | refine LeO.ite ?_ ?_
   | refine LeO.bind ?_ (fun _ => ?_)
set_option maxHeartbeats 80000000 in
set_option maxRecDepth 100000 in
theorem text_unit.calls (k:Nat) (P0_:Nat→Prop) (u9000_:Value) (l0:List Int) (a1:Int) (r:List Int) (w0 w:World) (hB:Below w0.heap.size w0 w) (ho0:Kd.R (Kd.int .u8) 5 w w0.heap.size P0_ u9000_ l0) (h:text_unit.f k l0 a1=some r) :
  Calls Tryd.prog 46 #[u9000_,.int .i32 a1] w fun e w' => ∃ v0_:Value,e=.returned (v0_)∧Kd.R (Kd.int .u8) 5 w' w0.heap.size (fun k_ => (P0_ k_ ∨ w.heap.size≤k_)) v0_ r∧Below w0.heap.size w0 w'∧Kept w w' (fun k_ => P0_ k_):=by
 have HO0:=Aside0.mk (show Kd.R (Kd.int .u8) 5 w w0.heap.size (fun k_ => (P0_ k_ ∨ w.heap.size≤k_)) u9000_ l0 from Kd.R_mono ho0 (fun k_ hk => (.inl hk)))
 have HK:=Aside0.mk (Kept.refl w (fun k_ => P0_ k_))
 have HW0:=Aside0.mk hB.size
 have HB:=Aside0.mk hB
 clear hB
 have H:(if a1 > 0 then (text_unit.j0 k l0 a1 (decide (a1 < 128))) else (text_unit.j0 k l0 a1 false))=some r:=h
 clear h
 have HC3:=Aside0.mk H
 clear H
 go_enter Tryd.func46,Tryd.ntmps46
 go_upto_region 1 with (fail)
 go_cut [5] (fun v5 wc => ∃ (kq:Nat) (x5_2:Bool),v5=.bool x5_2∧Aside0 (text_unit.j0 kq l0 a1 x5_2=some r)∧Aside0 (kq≤k)∧Aside0 (Kd.R (Kd.int .u8) 5 wc w0.heap.size (fun k_ => (P0_ k_ ∨ w.heap.size≤k_)) u9000_ l0)∧Aside0 (Kept w wc (fun k_ => P0_ k_))∧Aside0 (Below w0.heap.size w0 wc))
 case first =>
  have H:=HC3.out
  clear HC3
  by_cases c4:a1 > 0
  ·rw [if_pos c4] at H
   have c4b0:decide (0 < a1)=true:=decide_eq_true c4
   clear c4
   (first|rw [c4b0]|(simp only [i64_w,i32_w];rw [c4b0])|skip)
   have H':=Aside0.mk H
   clear H
   go_wp2
   go_meet
   case rel => exact ⟨_,(decide (a1 < 128)),(by first|rfl|(simp;done)|(simp [*];done)),H',⟨by first|omega|exact Nat.le_refl _⟩,⟨by (with_reducible repeat (first|apply Kd.R_alloc|apply Kd.R_drewN|apply Kd.R_drew));exact HO0.out⟩,⟨by repeat (first|(with_reducible first|exact HK.out|apply Kept.alloc|apply Kept.drewN|apply Kept.drew)|exact HK.out)⟩,⟨by repeat (first|(with_reducible first|exact HB.out|apply below_alloc|apply pw_below_drewN|apply below_drew1)|exact HB.out)⟩⟩
  ·rw [if_neg c4] at H
   have c4b0:decide (0 < a1)=false:=decide_eq_false c4
   clear c4
   (first|rw [c4b0]|(simp only [i64_w,i32_w];rw [c4b0])|skip)
   have H':=Aside0.mk H
   clear H
   go_wp2
   go_meet
   case rel => exact ⟨_,(false),(by first|rfl|(simp;done)|(simp [*];done)),H',⟨by first|omega|exact Nat.le_refl _⟩,⟨by (with_reducible repeat (first|apply Kd.R_alloc|apply Kd.R_drewN|apply Kd.R_drew));exact HO0.out⟩,⟨by repeat (first|(with_reducible first|exact HK.out|apply Kept.alloc|apply Kept.drewN|apply Kept.drew)|exact HK.out)⟩,⟨by repeat (first|(with_reducible first|exact HB.out|apply below_alloc|apply pw_below_drewN|apply below_drew1)|exact HB.out)⟩⟩
 case rest =>
  clear HC3
  try clear p2;try clear c4;try clear c4b0
  obtain ⟨kq,x5_2,rfl,HA,HJ2,HO_0,HK,HB⟩:=hcut
  cases kq with
  | zero => exact absurd HA.out (by simp [text_unit.j0])
  | succ kj2 =>
   have H:=HA.out
   clear HA
   simp only [text_unit.j0] at H
   by_cases c5:x5_2=true
   ·subst c5
    have H1:(if l0.length < 140737488355328 then (some (l0++[(a1) % 256])) else (none))=some r:=by rw [if_pos rfl] at H;exact H
    clear H
    have H:=H1
    clear H1
    by_cases c6:l0.length < 140737488355328
    ·rw [if_pos c6] at H
     have LMc6:=Aside0.mk c6
     clear c6
     obtain ⟨y111,hy111⟩:∃ y_:List Int,y_=(l0++[(a1) % 256]):=⟨_,rfl⟩
     replace H:(some y111)=some r:=by first|(rw [hy111];with_reducible exact H)|(have H2_:=(Option.bind_some _ _).symm.trans H;rw [hy111];with_reducible exact H2_)|(have H2_:=(Option.bind_some _ _).symm.trans H;with_reducible exact H2_)|with_reducible exact H|(rw [hy111];exact H)|exact H
     have Ny111:=Aside0.mk hy111
     clear hy111
     obtain rfl:=Option.some.inj H
     go_wp2_with (first|((with_reducible refine gate_builtin (b:=.append) (xs:=#[.tmp 12,.tmp 15]) rfl ?_);at_builtin;refine Kd.R_append (Kd.int .u8) (w0:=w0) w0.heap.size rfl (.tmp 12) (.tmp 15) 34 5 (.int .u8 0) 1 rfl Tryd.underlying34 info5 rfl (by decide) (by omega) u9000_ l0 ((a1) % 256) [.int .u8 ((a1) % 256)] (fun k_ => (P0_ k_ ∨ w.heap.size≤k_)) (fun _ => False) rfl rfl ?aP (fun _ hk => hk.elim) ?aF ?aO ?aB ?aS ?aL ?_;(case aP => exact rfl);(case aB => exact (by repeat (first|(with_reducible first|exact HB.out|apply below_alloc|apply pw_below_drewN|apply below_drew1)|exact HB.out)));(case aF => exact (fun k_ hk => (.inr (Nat.le_trans (by first|exact HK.out.1|exact (show Kept w _ (fun k_ => P0_ k_) from by repeat (first|(with_reducible first|exact HK.out|apply Kept.alloc|apply Kept.drewN|apply Kept.drew)|exact HK.out)).1) hk))));(case aO => exact (by (with_reducible repeat (first|apply Kd.R_alloc|apply Kd.R_drewN|apply Kd.R_drew));exact HO_0.out));(case aS => exact (below_size (by repeat (first|(with_reducible first|exact HB.out|apply below_alloc|apply pw_below_drewN|apply below_drew1)|exact HB.out))));(case aL => have:=LMc6.out;omega);intro v112 w7 ho hb hg hat;rw [← Ny111.out] at ho;have n0_:=Aside0.mk (hb);have n1_:=Aside0.mk (Kept.of_grown (S:=(fun k_ => P0_ k_)) hg (by repeat (first|(with_reducible first|exact HK.out|apply Kept.alloc|apply Kept.drewN|apply Kept.drew)|exact HK.out)) (fun k_ e_ => (HO_0.out.1 k_ e_)));have n2_:=Aside0.mk (ho);clear HB;clear HK;clear HO_0;have HB:=n0_;have HK:=n1_;have HO113:=n2_;clear n0_ n1_ n2_;clear ho hb hg hat))
     go_ret
     exact ⟨_,by first|rfl|(simp [errW_none,errW_some] <;> rfl)|(simp [*,errW_none,errW_some] <;> rfl),by (with_reducible repeat (first|apply Kd.R_alloc|apply Kd.R_drewN|apply Kd.R_drew));exact HO113.out,by repeat (first|(with_reducible first|exact HB.out|apply below_alloc|apply pw_below_drewN|apply below_drew1)|exact HB.out),by repeat (first|(with_reducible first|exact HK.out|apply Kept.alloc|apply Kept.drewN|apply Kept.drew)|exact HK.out)⟩
    ·rw [if_neg c6] at H
     exact absurd H (by simp)
   ·replace c5:=Bool.eq_false_iff.mpr c5
    subst c5
    have H1:(if a1 < 2048 then ((some (([Go.bits .or .u8 192 ((a1 / 64) % 256),Go.bits .or .u8 128 ((Go.bits .and .i32 a1 63) % 256)]:List Int):List Int)).bind fun y114 => (if l0.length + y114.length < 140737488355328 then (some (l0++y114)) else (none))) else ((some (([Go.bits .or .u8 224 ((a1 / 4096) % 256),Go.bits .or .u8 128 ((Go.bits .and .i32 (a1 / 64) 63) % 256),Go.bits .or .u8 128 ((Go.bits .and .i32 a1 63) % 256)]:List Int):List Int)).bind fun y120 => (if l0.length + y120.length < 140737488355328 then (some (l0++y120)) else (none))))=some r:=by rw [if_neg (show ¬ (false=true) by decide)] at H;exact H
    clear H
    have H:=H1
    clear H1
    by_cases c8:a1 < 2048
    ·rw [if_pos c8] at H
     have c8b0:decide (a1 < 2048)=true:=decide_eq_true c8
     clear c8
     obtain ⟨y114,hy114⟩:∃ y_:List Int,y_=(([Go.bits .or .u8 192 ((a1 / 64) % 256),Go.bits .or .u8 128 ((Go.bits .and .i32 a1 63) % 256)]:List Int)):=⟨_,rfl⟩
     replace H:(if l0.length + y114.length < 140737488355328 then (some (l0++y114)) else (none))=some r:=by first|(rw [hy114];with_reducible exact H)|(have H2_:=(Option.bind_some _ _).symm.trans H;rw [hy114];with_reducible exact H2_)|(have H2_:=(Option.bind_some _ _).symm.trans H;with_reducible exact H2_)|with_reducible exact H|(rw [hy114];exact H)|exact H
     have Ny114:=Aside0.mk hy114
     clear hy114
     by_cases c9:l0.length + y114.length < 140737488355328
     ·rw [if_pos c9] at H
      have LMc9:=Aside0.mk c9
      clear c9
      obtain ⟨y117,hy117⟩:∃ y_:List Int,y_=(l0++y114):=⟨_,rfl⟩
      replace H:(some y117)=some r:=by first|(rw [hy117];with_reducible exact H)|(have H2_:=(Option.bind_some _ _).symm.trans H;rw [hy117];with_reducible exact H2_)|(have H2_:=(Option.bind_some _ _).symm.trans H;with_reducible exact H2_)|with_reducible exact H|(rw [hy117];exact H)|exact H
      have Ny117:=Aside0.mk hy117
      clear hy117
      obtain rfl:=Option.some.inj H
      go_wp2_with (first|((with_reducible refine gate_dst (N:=29) rfl ?_);refine Kd.R_lit (Kd.int .u8) _ 5 ?hg (N:=29) ?hd (xs:=([Go.bits .or .u8 192 ((a1 / 64) % 256),Go.bits .or .u8 128 ((Go.bits .and .i32 a1 63) % 256)]:List Int)) (inner:=[.int .u8 (Go.bits .or .u8 192 ((a1 / 64) % 256)),.int .u8 (Go.bits .or .u8 128 ((Go.bits .and .i32 a1 63) % 256))]) (ok:=fun _ => True) (okp:=fun _ => True) ?hr ?hp (fun _ hk => hk) trivial (Below.refl _ _) (Nat.le_refl _) (by simp) ?_;(case hd => rfl);(case hg => rfl);(case hr => first|(go_simp;done)|(go_simp;rfl));(case hp => exact (Reps.one (show Kd.M (Kd.int .u8) _ _ _ (Go.bits .or .u8 192 ((a1 / 64) % 256)) [.int .u8 (Go.bits .or .u8 192 ((a1 / 64) % 256))] from rfl) (Reps.one (show Kd.M (Kd.int .u8) _ _ _ (Go.bits .or .u8 128 ((Go.bits .and .i32 a1 63) % 256)) [.int .u8 (Go.bits .or .u8 128 ((Go.bits .and .i32 a1 63) % 256))] from rfl) (Reps.none _ _))));intro v115 w10 ho11 hb hg_ hnew_;clear hg_ hnew_;(first|rw [← Ny114.out] at ho11|(simp only [Int.reduceToNat] at ho11;rw [← Ny114.out] at ho11));have n0_:=Aside0.mk (Kd.R_elder' (by (with_reducible repeat (first|apply Kd.R_alloc|apply Kd.R_drewN|apply Kd.R_drew));exact HO_0.out) (Kd.R_base ho11) hb);have n1_:=Aside0.mk (Kd.R_lower (Kd.R_new' (Kd.R_newM (M:=fun k_ => (P0_ k_ ∨ w.heap.size≤k_)) ho11 (by first|exact HK.out.1|exact (show Kept w _ (fun k_ => P0_ k_) from by repeat (first|(with_reducible first|exact HK.out|apply Kept.alloc|apply Kept.drewN|apply Kept.drew)|exact HK.out)).1) (fun k_ h_ => .inr h_)) (Kd.R_lt (by (with_reducible repeat (first|apply Kd.R_alloc|apply Kd.R_drewN|apply Kd.R_drew));exact HO_0.out))) (below_size (by repeat (first|(with_reducible first|exact HB.out|apply below_alloc|apply pw_below_drewN|apply below_drew1)|exact HB.out))));have n2_:=Aside0.mk (Kept.below (S:=(fun k_ => P0_ k_)) (by repeat (first|(with_reducible first|exact HK.out|apply Kept.alloc|apply Kept.drewN|apply Kept.drew)|exact HK.out)) hb);have n3_:=Aside0.mk (below_step (by repeat (first|(with_reducible first|exact HB.out|apply below_alloc|apply pw_below_drewN|apply below_drew1)|exact HB.out)) hb);clear HO_0;clear HK;clear HB;have HO_0:=n0_;have HO116:=n1_;have HK:=n2_;have HB:=n3_;clear n0_ n1_ n2_ n3_;clear hb ho11;obtain ⟨Ao13,co13,eo13⟩:=Kd.R_slice HO116.out;subst eo13)|((with_reducible refine gate_builtin (b:=.append) (xs:=#[.tmp 20,.tmp 29]) rfl ?_);at_builtin;refine Kd.R_append_rows (Kd.int .u8) (w0:=w0) w0.heap.size rfl (.tmp 20) (.tmp 29) 34 5 (.int .u8 0) 1 rfl Tryd.underlying34 info5 rfl (by decide) (by omega) u9000_ l0 y114 _ _ _ (fun k_ => (P0_ k_ ∨ w.heap.size≤k_)∧some k_ ≠ (.slice Ao13 y114.length co13:Value).ownBlock) (fun _ => False) rfl rfl ?aO ?aR (fun _ _ h => h) (fun _ h => h.elim) ?aF ?aB ?aS ?aL ?_;(case aR => repeat (first|exact (Kd.R_reads' HO116.out).2.2|(with_reducible refine Kd.C_alloc ?_ _)|(with_reducible refine Kd.C_drewN ?_ _)|(with_reducible refine Kd.C_drew ?_)));(case aB => exact (by repeat (first|(with_reducible first|exact HB.out|apply below_alloc|apply pw_below_drewN|apply below_drew1)|exact HB.out)));(case aF => exact (fun k_ hk => ⟨(.inr (Nat.le_trans (by first|exact HK.out.1|exact (show Kept w _ (fun k_ => P0_ k_) from by repeat (first|(with_reducible first|exact HK.out|apply Kept.alloc|apply Kept.drewN|apply Kept.drew)|exact HK.out)).1) hk)),Kd.fresh' (Kd.R_lt (by (with_reducible repeat (first|apply Kd.R_alloc|apply Kd.R_drewN|apply Kd.R_drew));exact HO116.out)) k_ hk⟩));(case aO => exact (by (with_reducible repeat (first|apply Kd.R_alloc|apply Kd.R_drewN|apply Kd.R_drew));exact HO_0.out));(case aS => exact (below_size (by repeat (first|(with_reducible first|exact HB.out|apply below_alloc|apply pw_below_drewN|apply below_drew1)|exact HB.out))));(case aL => have:=LMc9.out;omega);intro v118 w12 ho hb hg hat;rw [← Ny117.out] at ho;have n0_:=Aside0.mk (Kd.R_after (ok:=(fun k_ => (P0_ k_ ∨ w.heap.size≤k_))) (by (with_reducible repeat (first|apply Kd.R_alloc|apply Kd.R_drewN|apply Kd.R_drew));exact Kd.R_mono HO116.out (fun _ hk => ⟨hk.1.1,hk.2⟩)) hg hat);have n1_:=Aside0.mk (hb);have n2_:=Aside0.mk (Kept.of_grown (S:=(fun k_ => P0_ k_)) hg (by repeat (first|(with_reducible first|exact HK.out|apply Kept.alloc|apply Kept.drewN|apply Kept.drew)|exact HK.out)) (fun k_ e_ => (HO_0.out.1 k_ e_).1));have n3_:=Aside0.mk (ho);clear HO116;clear HB;clear HK;clear HO_0;have HO116:=n0_;have HB:=n1_;have HK:=n2_;have HO119:=n3_;clear n0_ n1_ n2_ n3_;clear ho hb hg hat))
      go_ret
      exact ⟨_,by first|rfl|(simp [errW_none,errW_some] <;> rfl)|(simp [*,errW_none,errW_some] <;> rfl),by (with_reducible repeat (first|apply Kd.R_alloc|apply Kd.R_drewN|apply Kd.R_drew));exact Kd.R_mono HO119.out (fun _ hk => hk.1),by repeat (first|(with_reducible first|exact HB.out|apply below_alloc|apply pw_below_drewN|apply below_drew1)|exact HB.out),by repeat (first|(with_reducible first|exact HK.out|apply Kept.alloc|apply Kept.drewN|apply Kept.drew)|exact HK.out)⟩
     ·rw [if_neg c9] at H
      exact absurd H (by simp)
    ·rw [if_neg c8] at H
     have c8b0:decide (a1 < 2048)=false:=decide_eq_false c8
     clear c8
     obtain ⟨y120,hy120⟩:∃ y_:List Int,y_=(([Go.bits .or .u8 224 ((a1 / 4096) % 256),Go.bits .or .u8 128 ((Go.bits .and .i32 (a1 / 64) 63) % 256),Go.bits .or .u8 128 ((Go.bits .and .i32 a1 63) % 256)]:List Int)):=⟨_,rfl⟩
     replace H:(if l0.length + y120.length < 140737488355328 then (some (l0++y120)) else (none))=some r:=by first|(rw [hy120];with_reducible exact H)|(have H2_:=(Option.bind_some _ _).symm.trans H;rw [hy120];with_reducible exact H2_)|(have H2_:=(Option.bind_some _ _).symm.trans H;with_reducible exact H2_)|with_reducible exact H|(rw [hy120];exact H)|exact H
     have Ny120:=Aside0.mk hy120
     clear hy120
     by_cases c14:l0.length + y120.length < 140737488355328
     ·rw [if_pos c14] at H
      have LMc14:=Aside0.mk c14
      clear c14
      obtain ⟨y123,hy123⟩:∃ y_:List Int,y_=(l0++y120):=⟨_,rfl⟩
      replace H:(some y123)=some r:=by first|(rw [hy123];with_reducible exact H)|(have H2_:=(Option.bind_some _ _).symm.trans H;rw [hy123];with_reducible exact H2_)|(have H2_:=(Option.bind_some _ _).symm.trans H;with_reducible exact H2_)|with_reducible exact H|(rw [hy123];exact H)|exact H
      have Ny123:=Aside0.mk hy123
      clear hy123
      obtain rfl:=Option.some.inj H
      go_wp2_with (first|((with_reducible refine gate_dst (N:=45) rfl ?_);refine Kd.R_lit (Kd.int .u8) _ 5 ?hg (N:=45) ?hd (xs:=([Go.bits .or .u8 224 ((a1 / 4096) % 256),Go.bits .or .u8 128 ((Go.bits .and .i32 (a1 / 64) 63) % 256),Go.bits .or .u8 128 ((Go.bits .and .i32 a1 63) % 256)]:List Int)) (inner:=[.int .u8 (Go.bits .or .u8 224 ((a1 / 4096) % 256)),.int .u8 (Go.bits .or .u8 128 ((Go.bits .and .i32 (a1 / 64) 63) % 256)),.int .u8 (Go.bits .or .u8 128 ((Go.bits .and .i32 a1 63) % 256))]) (ok:=fun _ => True) (okp:=fun _ => True) ?hr ?hp (fun _ hk => hk) trivial (Below.refl _ _) (Nat.le_refl _) (by simp) ?_;(case hd => rfl);(case hg => rfl);(case hr => first|(go_simp;done)|(go_simp;rfl));(case hp => exact (Reps.one (show Kd.M (Kd.int .u8) _ _ _ (Go.bits .or .u8 224 ((a1 / 4096) % 256)) [.int .u8 (Go.bits .or .u8 224 ((a1 / 4096) % 256))] from rfl) (Reps.one (show Kd.M (Kd.int .u8) _ _ _ (Go.bits .or .u8 128 ((Go.bits .and .i32 (a1 / 64) 63) % 256)) [.int .u8 (Go.bits .or .u8 128 ((Go.bits .and .i32 (a1 / 64) 63) % 256))] from rfl) (Reps.one (show Kd.M (Kd.int .u8) _ _ _ (Go.bits .or .u8 128 ((Go.bits .and .i32 a1 63) % 256)) [.int .u8 (Go.bits .or .u8 128 ((Go.bits .and .i32 a1 63) % 256))] from rfl) (Reps.none _ _)))));intro v121 w15 ho16 hb hg_ hnew_;clear hg_ hnew_;(first|rw [← Ny120.out] at ho16|(simp only [Int.reduceToNat] at ho16;rw [← Ny120.out] at ho16));have n0_:=Aside0.mk (Kd.R_elder' (by (with_reducible repeat (first|apply Kd.R_alloc|apply Kd.R_drewN|apply Kd.R_drew));exact HO_0.out) (Kd.R_base ho16) hb);have n1_:=Aside0.mk (Kd.R_lower (Kd.R_new' (Kd.R_newM (M:=fun k_ => (P0_ k_ ∨ w.heap.size≤k_)) ho16 (by first|exact HK.out.1|exact (show Kept w _ (fun k_ => P0_ k_) from by repeat (first|(with_reducible first|exact HK.out|apply Kept.alloc|apply Kept.drewN|apply Kept.drew)|exact HK.out)).1) (fun k_ h_ => .inr h_)) (Kd.R_lt (by (with_reducible repeat (first|apply Kd.R_alloc|apply Kd.R_drewN|apply Kd.R_drew));exact HO_0.out))) (below_size (by repeat (first|(with_reducible first|exact HB.out|apply below_alloc|apply pw_below_drewN|apply below_drew1)|exact HB.out))));have n2_:=Aside0.mk (Kept.below (S:=(fun k_ => P0_ k_)) (by repeat (first|(with_reducible first|exact HK.out|apply Kept.alloc|apply Kept.drewN|apply Kept.drew)|exact HK.out)) hb);have n3_:=Aside0.mk (below_step (by repeat (first|(with_reducible first|exact HB.out|apply below_alloc|apply pw_below_drewN|apply below_drew1)|exact HB.out)) hb);clear HO_0;clear HK;clear HB;have HO_0:=n0_;have HO122:=n1_;have HK:=n2_;have HB:=n3_;clear n0_ n1_ n2_ n3_;clear hb ho16;obtain ⟨Ao18,co18,eo18⟩:=Kd.R_slice HO122.out;subst eo18)|((with_reducible refine gate_builtin (b:=.append) (xs:=#[.tmp 31,.tmp 45]) rfl ?_);at_builtin;refine Kd.R_append_rows (Kd.int .u8) (w0:=w0) w0.heap.size rfl (.tmp 31) (.tmp 45) 34 5 (.int .u8 0) 1 rfl Tryd.underlying34 info5 rfl (by decide) (by omega) u9000_ l0 y120 _ _ _ (fun k_ => (P0_ k_ ∨ w.heap.size≤k_)∧some k_ ≠ (.slice Ao18 y120.length co18:Value).ownBlock) (fun _ => False) rfl rfl ?aO ?aR (fun _ _ h => h) (fun _ h => h.elim) ?aF ?aB ?aS ?aL ?_;(case aR => repeat (first|exact (Kd.R_reads' HO122.out).2.2|(with_reducible refine Kd.C_alloc ?_ _)|(with_reducible refine Kd.C_drewN ?_ _)|(with_reducible refine Kd.C_drew ?_)));(case aB => exact (by repeat (first|(with_reducible first|exact HB.out|apply below_alloc|apply pw_below_drewN|apply below_drew1)|exact HB.out)));(case aF => exact (fun k_ hk => ⟨(.inr (Nat.le_trans (by first|exact HK.out.1|exact (show Kept w _ (fun k_ => P0_ k_) from by repeat (first|(with_reducible first|exact HK.out|apply Kept.alloc|apply Kept.drewN|apply Kept.drew)|exact HK.out)).1) hk)),Kd.fresh' (Kd.R_lt (by (with_reducible repeat (first|apply Kd.R_alloc|apply Kd.R_drewN|apply Kd.R_drew));exact HO122.out)) k_ hk⟩));(case aO => exact (by (with_reducible repeat (first|apply Kd.R_alloc|apply Kd.R_drewN|apply Kd.R_drew));exact HO_0.out));(case aS => exact (below_size (by repeat (first|(with_reducible first|exact HB.out|apply below_alloc|apply pw_below_drewN|apply below_drew1)|exact HB.out))));(case aL => have:=LMc14.out;omega);intro v124 w17 ho hb hg hat;rw [← Ny123.out] at ho;have n0_:=Aside0.mk (Kd.R_after (ok:=(fun k_ => (P0_ k_ ∨ w.heap.size≤k_))) (by (with_reducible repeat (first|apply Kd.R_alloc|apply Kd.R_drewN|apply Kd.R_drew));exact Kd.R_mono HO122.out (fun _ hk => ⟨hk.1.1,hk.2⟩)) hg hat);have n1_:=Aside0.mk (hb);have n2_:=Aside0.mk (Kept.of_grown (S:=(fun k_ => P0_ k_)) hg (by repeat (first|(with_reducible first|exact HK.out|apply Kept.alloc|apply Kept.drewN|apply Kept.drew)|exact HK.out)) (fun k_ e_ => (HO_0.out.1 k_ e_).1));have n3_:=Aside0.mk (ho);clear HO122;clear HB;clear HK;clear HO_0;have HO122:=n0_;have HB:=n1_;have HK:=n2_;have HO125:=n3_;clear n0_ n1_ n2_ n3_;clear ho hb hg hat))
      go_ret
      exact ⟨_,by first|rfl|(simp [errW_none,errW_some] <;> rfl)|(simp [*,errW_none,errW_some] <;> rfl),by (with_reducible repeat (first|apply Kd.R_alloc|apply Kd.R_drewN|apply Kd.R_drew));exact Kd.R_mono HO125.out (fun _ hk => hk.1),by repeat (first|(with_reducible first|exact HB.out|apply below_alloc|apply pw_below_drewN|apply below_drew1)|exact HB.out),by repeat (first|(with_reducible first|exact HK.out|apply Kept.alloc|apply Kept.drewN|apply Kept.drew)|exact HK.out)⟩
     ·rw [if_neg c14] at H
      exact absurd H (by simp)
end Go.Proofs.YtiolgmklpldpcaaDoor.Px
