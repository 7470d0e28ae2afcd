/- Plain law of class.Check: what the program's check comes to. -/
import Derived.Test.YtoonhpcjcimecaaDoorM1
import Derived.Test.YtoonhpcjcimecaaDoorM2
import Derived.Laws.BitsLemmas
namespace Go.Proofs.YtoonhpcjcimecaaDoor.Px
open Go.RowKit Go.Proofs.YtoonhpcjcimecaaDoorW.PrintWords Go.Proofs.YtoonhpcjcimecaaDoorW.PrintLast Go.Proofs.YtoonhpcjcimecaaDoorW.PrintMore
attribute [local go_sem] max2_int min2_int max_two min_two max_three min_three max_four min_four
set_option linter.unusedVariables false
set_option linter.unusedSimpArgs false
mutual
def class_Check.l0:Nat→Int→List (S97)→Int→Int→List (S108)→Int→Int→List (S102)→List (S97)→Option (Int)
 | 0,_,_,_,_,_,_,_,_,_ => none
 | k + 1,x4,x27,x28,x29,x208000,x208001,x208002,x208003,x208004 => if x29 < x28 then (if 0≤x29 then (if x29 < (x27.length:Int) then (class_Check.l0 k (mx x4 (((rd_T97 x27 x29).f6).length:Int)) x27 x28 (wrap64 (x29 + 1)) x208000 x208001 x208002 x208003 x208004) else (none)) else (none)) else (if x4 > 64 then (some 2) else ((class_rules_class.f k x208000 (([x208001,x208002]:List Int))).bind fun t215 => (class_Check.l1 k t215 x208003 (x208003.length:Int) 0 x208000 x208001 x208002 x208003 x208004 x208000)))
def class_Check.l1:Nat→Bool→List (S102)→Int→Int→List (S108)→Int→Int→List (S102)→List (S97)→List (S108)→Option (Int)
 | 0,_,_,_,_,_,_,_,_,_,_ => none
 | k + 1,x8,x52,x53,x54,x208000,x208001,x208002,x208003,x208004,x212000 => if x54 < x53 then (if 0≤x54 then (if x54 < (x52.length:Int) then (if x8=true then ((class_flags.f ((rd_T102 x52 x54).f0)).bind fun t218 => (if t218=true then ((class_rules_text.f k x212000 (([(rd_T102 x52 x54).f1,(rd_T102 x52 x54).f2]:List Int))).bind fun t222 => (class_Check.l1 k t222 x52 x53 (wrap64 (x54 + 1)) x208000 x208001 x208002 x208003 x208004 x212000)) else (class_Check.l1 k false x52 x53 (wrap64 (x54 + 1)) x208000 x208001 x208002 x208003 x208004 x212000))) else (class_Check.l1 k false x52 x53 (wrap64 (x54 + 1)) x208000 x208001 x208002 x208003 x208004 x212000)) else (none)) else (none)) else (class_Check.l2 k x8 x208004 (x208004.length:Int) 0 x212000)
def class_Check.l2:Nat→Bool→List (S97)→Int→Int→List (S108)→Option (Int)
 | 0,_,_,_,_,_ => none
 | k + 1,x8,x75,x76,x77,x212000 => if x77 < x76 then (if 0≤x77 then (if x77 < (x75.length:Int) then (if x8=true then ((class_rules_method.f k x212000 ((rd_T97 x75 x77).f0) ((rd_T97 x75 x77).f1) ((rd_T97 x75 x77).f2) ((rd_T97 x75 x77).f3) ((rd_T97 x75 x77).f4) ((rd_T97 x75 x77).f5) ((rd_T97 x75 x77).f6) ((rd_T97 x75 x77).f7)).bind fun t225 => (class_Check.l2 k t225 x75 x76 (wrap64 (x77 + 1)) x212000)) else (class_Check.l2 k false x75 x76 (wrap64 (x77 + 1)) x212000)) else (none)) else (none)) else (if x8=true then (some 0) else (some 50))
end
def class_Check.f (k:Nat) (l0_0:List (S108)) (a0_1:Int) (a0_2:Int) (l0_3:List (S102)) (l0_4:List (S97)):Option (Int):=(pool_Check.f k l0_0).bind fun t208 => (if t208=0 then (class_Check.l0 k (mx (l0_3.length:Int) (l0_4.length:Int)) l0_4 (l0_4.length:Int) 0 l0_0 a0_1 a0_2 l0_3 l0_4) else (some t208))
set_option maxHeartbeats 80000000 in
set_option maxRecDepth 100000 in
theorem class_Check.calls (k:Nat) (A0_0:Option Addr) (c0_0:Nat) (l0_0:List (S108)) (a0_1:Int) (a0_2:Int) (A0_3:Option Addr) (c0_3:Nat) (l0_3:List (S102)) (A0_4:Option Addr) (c0_4:Nat) (l0_4:List (S97)) (r:Int) (w:World) (hG:Aside0 (GG w)) (hr0_0:Kd.C k108 w A0_0 l0_0.length l0_0) (hc0_0:l0_0.length≤c0_0) (hr0_3:Kd.C k102 w A0_3 l0_3.length l0_3) (hc0_3:l0_3.length≤c0_3) (hr0_4:Kd.C k97 w A0_4 l0_4.length l0_4) (hc0_4:l0_4.length≤c0_4) (h:class_Check.f k l0_0 a0_1 a0_2 l0_3 l0_4=some r) :
  Calls Tryd.prog 21 #[.agg #[.slice A0_0 l0_0.length c0_0,.int .i64 a0_1,.int .i64 a0_2,.slice A0_3 l0_3.length c0_3,.slice A0_4 l0_4.length c0_4]] w fun e w' => e=.returned (.int .i64 r)∧Below w.heap.size w w':=by
 have hu43:=Tryd.underlying43
 have hu97:=Tryd.underlying97
 have hu99:=Tryd.underlying99
 have hu102:=Tryd.underlying102
 have HR0_0:=Aside0.mk hr0_0
 have HC0_0:=Aside0.mk hc0_0
 clear hr0_0 hc0_0
 have HR0_3:=Aside0.mk hr0_3
 have HC0_3:=Aside0.mk hc0_3
 clear hr0_3 hc0_3
 have HR0_4:=Aside0.mk hr0_4
 have HC0_4:=Aside0.mk hc0_4
 clear hr0_4 hc0_4
 have HB:=Aside0.mk (Below.refl w.heap.size w)
 have H:((pool_Check.f k l0_0).bind fun t208 => (if t208=0 then (class_Check.l0 k (mx (l0_3.length:Int) (l0_4.length:Int)) l0_4 (l0_4.length:Int) 0 l0_0 a0_1 a0_2 l0_3 l0_4) else (some t208)))=some r:=h
 clear h
 replace H:=Option.bind_eq_some_iff.mp H
 obtain ⟨t208,A20,H⟩:=H
 try dsimp only at H
 have A2:=Aside0.mk A20
 clear A20
 by_cases c3:t208=0
 ·rw [if_pos c3] at H
  have c3b0:(t208==0)=true:=beq_iff_eq.mpr c3
  have c3b1:(t208 != 0)=false:=bne_eq_false_iff_eq.mpr c3
  clear c3
  obtain ⟨ji4,hji4⟩:∃ j_:Int,(mx (l0_3.length:Int) (l0_4.length:Int))=j_:=⟨_,rfl⟩
  replace H:(class_Check.l0 k ji4 l0_4 (l0_4.length:Int) 0 l0_0 a0_1 a0_2 l0_3 l0_4)=some r:=by first|(rw [hji4] at H;exact H)|(simp only [hji4] at H ⊢;exact H)
  (try rw [hji4] at A2)
  (try (have hji4l:0≤ji4:=by (rw [← hji4];unfold mx;(repeat' split) <;> omega)))
  (try (have hji4m:0≤ji4:=by omega))
  have hji4_:(if (l0_3.length:Int) < (l0_4.length:Int) then (l0_4.length:Int) else (l0_3.length:Int))=ji4:=hji4
  have hji4n_:(if l0_3.length < l0_4.length then (l0_4.length:Int) else (l0_3.length:Int))=ji4:=by (rw [← hji4_];(repeat' split) <;> first|rfl|omega)
  have H':=Aside0.mk H
  clear H
  go_enter Tryd.func21,Tryd.ntmps21
  go_wp2_with (first|((with_reducible refine gate_dst (N:=1) rfl ?_);(try (refine gate_guard (by rfl) ?_;dsimp only));refine box_event ?hg (N:=1) ?hd (cs:=#[.slice A0_0 l0_0.length c0_0,.int .i64 a0_1,.int .i64 a0_2,.slice A0_3 l0_3.length c0_3,.slice A0_4 l0_4.length c0_4]) (t:=43) ?hr ?_;(case hd => rfl);(case hg => rfl);(case hr => first|(go_simp;done)|(go_simp;rfl));intro gb207 hg w5 hbox hb;have n0_:=Aside0.mk (below_step bl_ hb);have n1_:=Aside0.mk (hbox);have n2_:=Aside0.mk ((by rw [hg];exact (below_size bl_):w.heap.size≤gb207));have n3_:=Aside0.mk ((by rw [hg];exact (below_size bl_):w.heap.size≤gb207));clear HB;have HB:=n0_;have BK207:=n1_;have GW207:=n2_;have GE207:=n3_;clear n0_ n1_ n2_ n3_;clear hb hbox hg;obtain ⟨hcz6_0,hcz6_1,hcz6_2,hcz6_3,hcz6_4,hfz6_0,hfz6_1,hfz6_2,hfz6_3,hfz6_4⟩:=blk5_ BK207.out)|(refine callA_ (f:=32) (some 15) Tryd.func32 #[.slice A0_0 l0_0.length c0_0] ?_;(with_reducible refine (pool_Check.calls k _ _ l0_0 t208 _ ?side3 ?side1 ?side2 A2.out).mono ?_);(case side1 => exact kc_ (Kd.C_below HR0_0.out HB.out));(case side2 => exact HC0_0.out);(case side3 => exact ⟨GG.below hG.out bl_⟩);rintro e w7 ⟨rfl,hb⟩;refine ⟨_,rfl,?_⟩;have n0_:=Aside0.mk (blk_below (g:=gb207) (o:=.cells #[.slice A0_0 l0_0.length c0_0,.int .i64 a0_1,.int .i64 a0_2,.slice A0_3 l0_3.length c0_3,.slice A0_4 l0_4.length c0_4] 43 (0,0)) bk_ hb);have n1_:=Aside0.mk (below_step bl_ hb);clear BK207;clear HB;have BK207:=n0_;have HB:=n1_;clear n0_ n1_;(try clear hb);(try clear hb2);(try clear hk);(try clear hi);obtain ⟨hcz8_0,hcz8_1,hcz8_2,hcz8_3,hcz8_4,hfz8_0,hfz8_1,hfz8_2,hfz8_3,hfz8_4⟩:=blk5_ BK207.out))
  go_loopg [4,29] k (fun kq v4 v29 w' => ∃ (x4_1:Int) (x29_1:Int),v4=.int .i64 x4_1∧v29=.int .i64 x29_1∧Aside0 (class_Check.l0 kq x4_1 l0_4 (l0_4.length:Int) x29_1 l0_0 a0_1 a0_2 l0_3 l0_4=some r)∧Aside0 (kq≤k)∧Aside0 (w'.heap[gb207]?=some (.cells #[(.slice A0_0 l0_0.length c0_0),.int .i64 a0_1,.int .i64 a0_2,(.slice A0_3 l0_3.length c0_3),(.slice A0_4 l0_4.length c0_4)] 43 (0,0)))∧Aside0 (Below w.heap.size w w'))
  case atStart => exact ⟨(ji4),(0),(by first|rfl|(simp;done)|(simp only [← hji4] <;> (first|rfl|simp))|(simp [*];done)),r3_,H',⟨Nat.le_refl _⟩,⟨bk_⟩,⟨bl_⟩⟩
  case round =>
   clear H'
   try clear c3;try clear c3b0;try clear c3b1;try clear hcz6_0;try clear hcz6_1;try clear hcz6_2;try clear hcz6_3;try clear hcz6_4;try clear hcz8_0;try clear hcz8_1;try clear hcz8_2;try clear hcz8_3;try clear hcz8_4;try clear hfz6_0;try clear hfz6_1;try clear hfz6_2;try clear hfz6_3;try clear hfz6_4;try clear hfz8_0;try clear hfz8_1;try clear hfz8_2;try clear hfz8_3;try clear hfz8_4
   obtain ⟨x4_1,x29_1,rfl,rfl,HA,HK1,BK207,HB⟩:=hrel
   cases gk with
   | zero => exact absurd HA.out (by simp [class_Check.l0])
   | succ k1 =>
    have H:=HA.out
    clear HA
    simp only [class_Check.l0] at H
    by_cases c9:x29_1 < (l0_4.length:Int)
    ·rw [if_pos c9] at H
     have c9b0:decide (x29_1 < (l0_4.length:Int))=true:=decide_eq_true c9
     clear c9
     by_cases c10:0≤x29_1
     ·rw [if_pos c10] at H
      have c10b0:decide (0≤x29_1)=true:=decide_eq_true c10
      clear c10
      by_cases c11:x29_1 < (l0_4.length:Int)
      ·rw [if_pos c11] at H
       have c11b0:decide (x29_1 < (l0_4.length:Int))=true:=decide_eq_true c11
       clear c11
       obtain ⟨ji12,hji12⟩:∃ j_:Int,(mx x4_1 (((rd_T97 l0_4 x29_1).f6).length:Int))=j_:=⟨_,rfl⟩
       replace H:(class_Check.l0 k1 ji12 l0_4 (l0_4.length:Int) (wrap64 (x29_1 + 1)) l0_0 a0_1 a0_2 l0_3 l0_4)=some r:=by first|(rw [hji12] at H;exact H)|(simp only [hji12] at H ⊢;exact H)
       have hji12_:(if x4_1 < (((rd_T97 l0_4 x29_1).f6).length:Int) then (((rd_T97 l0_4 x29_1).f6).length:Int) else x4_1)=ji12:=hji12
       have H':=Aside0.mk H
       clear H
       have p209:0≤(x29_1:Int):=od_
       have q209:x29_1 < (l0_4.length:Int):=od_
       obtain ⟨ad209,A209_5,c209_5,A209_6,c209_6,A209_7,c209_7,e209,hx209_0,hx209_1,hx209_2,hx209_3,hx209_4,hx209_5,hx209_6,hx209_7,hl209_5,hi209_5,hl209_6,hi209_6,hl209_7,hi209_7⟩:=at_T97 HR0_4.out x29_1 p209 q209
       cases e209
       replace hx209_0:=hb_ HB hx209_0
       replace hx209_1:=hb_ HB hx209_1
       replace hx209_2:=hb_ HB hx209_2
       replace hx209_3:=hb_ HB hx209_3
       replace hx209_4:=hb_ HB hx209_4
       replace hx209_5:=hb_ HB hx209_5
       replace hx209_6:=hb_ HB hx209_6
       replace hx209_7:=hb_ HB hx209_7
       have HR209_5:=Aside0.mk hi209_5
       have HC209_5:=Aside0.mk hl209_5
       clear hi209_5 hl209_5
       have HR209_6:=Aside0.mk hi209_6
       have HC209_6:=Aside0.mk hl209_6
       clear hi209_6 hl209_6
       have HR209_7:=Aside0.mk hi209_7
       have HC209_7:=Aside0.mk hl209_7
       clear hi209_7 hl209_7
       replace p209:=eq_true p209
       replace q209:=eq_true q209
       go_wp2_with (first|((with_reducible refine gate_dst (N:=6) rfl ?_);(try (refine gate_guard (by rfl) ?_;dsimp only));refine box_event ?hg (N:=6) ?hd (cs:=#[.int .i64 0,.int .i64 0,.int .i64 0,.int .i64 0,.int .i64 0,.slice none 0 0,.slice none 0 0,.slice none 0 0]) (t:=97) ?hr ?_;(case hd => rfl);(case hg => rfl);(case hr => first|(go_simp;done)|(go_simp;rfl));intro gb210 hg w13 hbox hb;have n0_:=Aside0.mk (blk_below (g:=gb207) (o:=.cells #[.slice A0_0 l0_0.length c0_0,.int .i64 a0_1,.int .i64 a0_2,.slice A0_3 l0_3.length c0_3,.slice (some ad209) l0_4.length c0_4] 43 (0,0)) bk_ hb);have n1_:=Aside0.mk (below_step bl_ hb);have n2_:=Aside0.mk (hbox);have n3_:=Aside0.mk ((by rw [hg];exact (below_size bl_):w.heap.size≤gb210));have n4_:=Aside0.mk ((by rw [hg];exact (below_size bl_):w.heap.size≤gb210));have n5_:=Aside0.mk ((by rw [hg];exact Nat.ne_of_lt (blk_lt (g:=gb207) (o:=.cells #[.slice A0_0 l0_0.length c0_0,.int .i64 a0_1,.int .i64 a0_2,.slice A0_3 l0_3.length c0_3,.slice (some ad209) l0_4.length c0_4] 43 (0,0)) bk_):gb207 ≠ gb210));have n6_:=Aside0.mk ((by rw [hg];exact Nat.ne_of_gt (blk_lt (g:=gb207) (o:=.cells #[.slice A0_0 l0_0.length c0_0,.int .i64 a0_1,.int .i64 a0_2,.slice A0_3 l0_3.length c0_3,.slice (some ad209) l0_4.length c0_4] 43 (0,0)) bk_):gb210 ≠ gb207));clear BK207;clear HB;have BK207:=n0_;have HB:=n1_;have BK210:=n2_;have GW210:=n3_;have GE210:=n4_;have NB207_210:=n5_;have NB210_207:=n6_;clear n0_ n1_ n2_ n3_ n4_ n5_ n6_;clear hb hbox hg;have hnb14:=NB210_207.out;have hnc14:=NB207_210.out;obtain ⟨hcz15_0,hcz15_1,hcz15_2,hcz15_3,hcz15_4,hcz15_5,hcz15_6,hcz15_7,hfz15_0,hfz15_1,hfz15_2,hfz15_3,hfz15_4,hfz15_5,hfz15_6,hfz15_7⟩:=blk8_ BK210.out)|((with_reducible refine gate_store (t:=97) (p:=6) rfl ?_);refine store_event (t:=97) (p:=6) (v:=?vo_w16) (w1:=((((((((w13.setCell ⟨gb210,0,none⟩ (.int .i64 ((rd_T97 l0_4 x29_1).f0))).setCell ⟨gb210,1,none⟩ (.int .i64 ((rd_T97 l0_4 x29_1).f1))).setCell ⟨gb210,2,none⟩ (.int .i64 ((rd_T97 l0_4 x29_1).f2))).setCell ⟨gb210,3,none⟩ (.int .i64 ((rd_T97 l0_4 x29_1).f3))).setCell ⟨gb210,4,none⟩ (.int .i64 ((rd_T97 l0_4 x29_1).f4))).setCell ⟨gb210,5,none⟩ (.slice A209_5 ((rd_T97 l0_4 x29_1).f5).length c209_5)).setCell ⟨gb210,6,none⟩ (.slice A209_6 ((rd_T97 l0_4 x29_1).f6).length c209_6)).setCell ⟨gb210,7,none⟩ (.slice A209_7 ((rd_T97 l0_4 x29_1).f7).length c209_7))) ?hg ?ho ?hn ?hr ?_;(case ho => rfl);(case hg => rfl);(case hn => rfl);(case hr => first|(go_simp;done)|(go_simp;rfl));intro w16 hw;have n0_:Aside0 (w16.heap[gb207]?=some (.cells #[.slice A0_0 l0_0.length c0_0,.int .i64 a0_1,.int .i64 a0_2,.slice A0_3 l0_3.length c0_3,.slice (some ad209) l0_4.length c0_4] 43 (0,0))):=⟨(by rw [hw];exact bk_)⟩;have n1_:Aside0 (w16.heap[gb210]?=some (.cells #[.int .i64 ((rd_T97 l0_4 x29_1).f0),.int .i64 ((rd_T97 l0_4 x29_1).f1),.int .i64 ((rd_T97 l0_4 x29_1).f2),.int .i64 ((rd_T97 l0_4 x29_1).f3),.int .i64 ((rd_T97 l0_4 x29_1).f4),.slice A209_5 ((rd_T97 l0_4 x29_1).f5).length c209_5,.slice A209_6 ((rd_T97 l0_4 x29_1).f6).length c209_6,.slice A209_7 ((rd_T97 l0_4 x29_1).f7).length c209_7] 97 (0,0))):=⟨(by rw [hw];exact (by (with_reducible repeat (first|refine blk_drewN ?_ _|refine blk_drew ?_|refine blk_alloc ?_ _));refine blk_put (cs:=#[.int .i64 ((rd_T97 l0_4 x29_1).f0),.int .i64 ((rd_T97 l0_4 x29_1).f1),.int .i64 ((rd_T97 l0_4 x29_1).f2),.int .i64 ((rd_T97 l0_4 x29_1).f3),.int .i64 ((rd_T97 l0_4 x29_1).f4),.slice A209_5 ((rd_T97 l0_4 x29_1).f5).length c209_5,.slice A209_6 ((rd_T97 l0_4 x29_1).f6).length c209_6,.slice none 0 0]) ?_ 7 _ rfl;(with_reducible repeat (first|refine blk_drewN ?_ _|refine blk_drew ?_|refine blk_alloc ?_ _));refine blk_put (cs:=#[.int .i64 ((rd_T97 l0_4 x29_1).f0),.int .i64 ((rd_T97 l0_4 x29_1).f1),.int .i64 ((rd_T97 l0_4 x29_1).f2),.int .i64 ((rd_T97 l0_4 x29_1).f3),.int .i64 ((rd_T97 l0_4 x29_1).f4),.slice A209_5 ((rd_T97 l0_4 x29_1).f5).length c209_5,.slice none 0 0,.slice none 0 0]) ?_ 6 _ rfl;(with_reducible repeat (first|refine blk_drewN ?_ _|refine blk_drew ?_|refine blk_alloc ?_ _));refine blk_put (cs:=#[.int .i64 ((rd_T97 l0_4 x29_1).f0),.int .i64 ((rd_T97 l0_4 x29_1).f1),.int .i64 ((rd_T97 l0_4 x29_1).f2),.int .i64 ((rd_T97 l0_4 x29_1).f3),.int .i64 ((rd_T97 l0_4 x29_1).f4),.slice none 0 0,.slice none 0 0,.slice none 0 0]) ?_ 5 _ rfl;(with_reducible repeat (first|refine blk_drewN ?_ _|refine blk_drew ?_|refine blk_alloc ?_ _));refine blk_put (cs:=#[.int .i64 ((rd_T97 l0_4 x29_1).f0),.int .i64 ((rd_T97 l0_4 x29_1).f1),.int .i64 ((rd_T97 l0_4 x29_1).f2),.int .i64 ((rd_T97 l0_4 x29_1).f3),.int .i64 0,.slice none 0 0,.slice none 0 0,.slice none 0 0]) ?_ 4 _ rfl;(with_reducible repeat (first|refine blk_drewN ?_ _|refine blk_drew ?_|refine blk_alloc ?_ _));refine blk_put (cs:=#[.int .i64 ((rd_T97 l0_4 x29_1).f0),.int .i64 ((rd_T97 l0_4 x29_1).f1),.int .i64 ((rd_T97 l0_4 x29_1).f2),.int .i64 0,.int .i64 0,.slice none 0 0,.slice none 0 0,.slice none 0 0]) ?_ 3 _ rfl;(with_reducible repeat (first|refine blk_drewN ?_ _|refine blk_drew ?_|refine blk_alloc ?_ _));refine blk_put (cs:=#[.int .i64 ((rd_T97 l0_4 x29_1).f0),.int .i64 ((rd_T97 l0_4 x29_1).f1),.int .i64 0,.int .i64 0,.int .i64 0,.slice none 0 0,.slice none 0 0,.slice none 0 0]) ?_ 2 _ rfl;(with_reducible repeat (first|refine blk_drewN ?_ _|refine blk_drew ?_|refine blk_alloc ?_ _));refine blk_put (cs:=#[.int .i64 ((rd_T97 l0_4 x29_1).f0),.int .i64 0,.int .i64 0,.int .i64 0,.int .i64 0,.slice none 0 0,.slice none 0 0,.slice none 0 0]) ?_ 1 _ rfl;(with_reducible repeat (first|refine blk_drewN ?_ _|refine blk_drew ?_|refine blk_alloc ?_ _));refine blk_put (cs:=#[.int .i64 0,.int .i64 0,.int .i64 0,.int .i64 0,.int .i64 0,.slice none 0 0,.slice none 0 0,.slice none 0 0]) ?_ 0 _ rfl;(with_reducible repeat (first|refine blk_drewN ?_ _|refine blk_drew ?_|refine blk_alloc ?_ _));exact BK210.out))⟩;have n2_:Aside0 (Below w.heap.size w w16):=⟨(by rw [hw];exact bl_)⟩;clear hw;clear BK207;clear BK210;clear HB;have BK207:=n0_;have BK210:=n1_;have HB:=n2_;clear n0_ n1_ n2_;obtain ⟨hcz17_0,hcz17_1,hcz17_2,hcz17_3,hcz17_4,hcz17_5,hcz17_6,hcz17_7,hfz17_0,hfz17_1,hfz17_2,hfz17_3,hfz17_4,hfz17_5,hfz17_6,hfz17_7⟩:=blk8_ BK210.out))
       go_roundg k1
       case measure => have:=HK1.out;omega
       case rel => exact ⟨(ji12),(wrap64 (x29_1 + 1)),(by first|rfl|(simp;done)|(simp only [← hji12] <;> (first|rfl|simp))|(simp [*];done)),r3_,H',⟨by have:=HK1.out;omega⟩,⟨bk_⟩,⟨bl_⟩⟩
      ·rw [if_neg c11] at H
       exact absurd H (by simp)
     ·rw [if_neg c10] at H
      exact absurd H (by simp)
    ·rw [if_neg c9] at H
     have c9b0:decide (x29_1 < (l0_4.length:Int))=false:=decide_eq_false c9
     clear c9
     by_cases c18:x4_1 > 64
     ·rw [if_pos c18] at H
      have c18b0:decide (64 < x4_1)=true:=decide_eq_true c18
      clear c18
      obtain rfl:=Option.some.inj H
      go_wp2
      go_ret
      exact ⟨by first|rfl|(simp [errW_none,errW_some] <;> rfl)|(simp only [← hji4];first|rfl|(simp [errW_none,errW_some] <;> rfl))|(simp [*,errW_none,errW_some] <;> rfl),bl_⟩
     ·rw [if_neg c18] at H
      have c18b0:decide (64 < x4_1)=false:=decide_eq_false c18
      clear c18
      obtain ⟨y212,hy212⟩:∃ y_:List Int,y_=(([a0_1,a0_2]:List Int)):=⟨_,rfl⟩
      replace H:((class_rules_class.f k1 l0_0 y212).bind fun t215 => (class_Check.l1 k1 t215 l0_3 (l0_3.length:Int) 0 l0_0 a0_1 a0_2 l0_3 l0_4 l0_0))=some r:=by first|(rw [hy212];with_reducible exact H)|(have H2_:=(Option.bind_some _ _).symm.trans H;rw [hy212];with_reducible exact H2_)|(have H2_:=(Option.bind_some _ _).symm.trans H;with_reducible exact H2_)|with_reducible exact H|(rw [hy212];exact H)|exact H
      have Ny212:=Aside0.mk hy212
      clear hy212
      replace H:=Option.bind_eq_some_iff.mp H
      obtain ⟨t215,A190,H⟩:=H
      try dsimp only at H
      have A19:=Aside0.mk A190
      clear A190
      have H':=Aside0.mk H
      clear H
      obtain ⟨hcz20_0,hcz20_1,hcz20_2,hcz20_3,hcz20_4,hfz20_0,hfz20_1,hfz20_2,hfz20_3,hfz20_4⟩:=blk5_ BK207.out
      go_wp2_with (first|((with_reducible refine gate_dst (N:=7) rfl ?_);(try (refine gate_guard (by rfl) ?_;dsimp only));refine box_event ?hg (N:=7) ?hd (cs:=#[.slice none 0 0]) (t:=99) ?hr ?_;(case hd => rfl);(case hg => rfl);(case hr => first|(go_simp;done)|(go_simp;rfl));intro gb211 hg w21 hbox hb;have n0_:=Aside0.mk (blk_below (g:=gb207) (o:=.cells #[.slice A0_0 l0_0.length c0_0,.int .i64 a0_1,.int .i64 a0_2,.slice A0_3 l0_3.length c0_3,.slice A0_4 l0_4.length c0_4] 43 (0,0)) bk_ hb);have n1_:=Aside0.mk (below_step bl_ hb);have n2_:=Aside0.mk (hbox);have n3_:=Aside0.mk ((by rw [hg];exact (below_size bl_):w.heap.size≤gb211));have n4_:=Aside0.mk ((by rw [hg];exact (below_size bl_):w.heap.size≤gb211));have n5_:=Aside0.mk ((by rw [hg];exact Nat.ne_of_lt (blk_lt (g:=gb207) (o:=.cells #[.slice A0_0 l0_0.length c0_0,.int .i64 a0_1,.int .i64 a0_2,.slice A0_3 l0_3.length c0_3,.slice A0_4 l0_4.length c0_4] 43 (0,0)) bk_):gb207 ≠ gb211));have n6_:=Aside0.mk ((by rw [hg];exact Nat.ne_of_gt (blk_lt (g:=gb207) (o:=.cells #[.slice A0_0 l0_0.length c0_0,.int .i64 a0_1,.int .i64 a0_2,.slice A0_3 l0_3.length c0_3,.slice A0_4 l0_4.length c0_4] 43 (0,0)) bk_):gb211 ≠ gb207));clear BK207;clear HB;have BK207:=n0_;have HB:=n1_;have BK211:=n2_;have GW211:=n3_;have GE211:=n4_;have NB207_211:=n5_;have NB211_207:=n6_;clear n0_ n1_ n2_ n3_ n4_ n5_ n6_;clear hb hbox hg;have hnb22:=NB211_207.out;have hnc22:=NB207_211.out;have hcz23_0:w21.cell? ⟨gb211,0,none⟩=some (.slice none 0 0):=(blk_cell BK211.out 0).trans rfl;have hfz23_0:=blk_frozen BK211.out 0;obtain ⟨hcz24_0,hcz24_1,hcz24_2,hcz24_3,hcz24_4,hfz24_0,hfz24_1,hfz24_2,hfz24_3,hfz24_4⟩:=blk5_ BK207.out)|((with_reducible refine gate_dst (N:=49) rfl ?_);(try (refine gate_guard (by rfl) ?_;dsimp only));refine Kd.R_lit (Kd.int .i64) _ 3 ?hg (N:=49) ?hd (xs:=([a0_1,a0_2]:List Int)) (inner:=[.int .i64 a0_1,.int .i64 a0_2]) (ok:=fun _ => True) (okp:=fun _ => True) ?hr ?hp (fun _ hk => hk) trivial (Below.refl _ _) (Nat.le_refl _) (by simp) ?_;(case hd => rfl);(case hg => rfl);(case hr => first|(go_simp;done)|(go_simp;rfl));(case hp => exact (Reps.one (show Kd.M (Kd.int .i64) _ _ _ a0_1 [.int .i64 a0_1] from rfl) (Reps.one (show Kd.M (Kd.int .i64) _ _ _ a0_2 [.int .i64 a0_2] from rfl) (Reps.none _ _))));intro v213 w25 ho26 hb hg_ hnew_;clear hg_ hnew_;(first|rw [← Ny212.out] at ho26|(simp only [Int.reduceToNat] at ho26;rw [← Ny212.out] at ho26));have n0_:=Aside0.mk (Kd.R_lower ho26 (below_size bl_));have n1_:=Aside0.mk (blk_below (g:=gb207) (o:=.cells #[.slice A0_0 l0_0.length c0_0,.int .i64 a0_1,.int .i64 a0_2,.slice A0_3 l0_3.length c0_3,.slice A0_4 l0_4.length c0_4] 43 (0,0)) bk_ hb);have n2_:=Aside0.mk (blk_below (g:=gb211) (o:=.cells #[.slice A0_0 l0_0.length c0_0] 99 (0,0)) (by (with_reducible repeat (first|refine blk_drewN ?_ _|refine blk_drew ?_|refine blk_alloc ?_ _));refine blk_put (cs:=#[.slice none 0 0]) ?_ 0 _ rfl;(with_reducible repeat (first|refine blk_drewN ?_ _|refine blk_drew ?_|refine blk_alloc ?_ _));exact BK211.out) hb);have n3_:=Aside0.mk (below_step bl_ hb);clear BK207;clear BK211;clear HB;have HO214:=n0_;have BK207:=n1_;have BK211:=n2_;have HB:=n3_;clear n0_ n1_ n2_ n3_;clear hb ho26;obtain ⟨Ao27,co27,eo27⟩:=Kd.R_slice HO214.out;subst eo27)|(refine callA_ (f:=33) (some 50) Tryd.func33 #[.agg #[.slice A0_0 l0_0.length c0_0],.slice Ao27 y212.length co27] ?_;(with_reducible refine (class_rules_class.calls k1 _ _ l0_0 _ _ y212 t215 _ ?side1 ?side2 ?side3 ?side4 A19.out).mono ?_);(case side1 => exact kc_ (Kd.C_below HR0_0.out HB.out));(case side2 => exact HC0_0.out);(case side3 => exact kc_ (Kd.R_reads' HO214.out).2.2);(case side4 => exact (Kd.R_reads' HO214.out).2.1);rintro e w28 ⟨rfl,hb⟩;refine ⟨_,rfl,?_⟩;have n0_:=Aside0.mk (Kd.R_below (kr_ HO214.out) hb);have n1_:=Aside0.mk (blk_below (g:=gb207) (o:=.cells #[.slice A0_0 l0_0.length c0_0,.int .i64 a0_1,.int .i64 a0_2,.slice A0_3 l0_3.length c0_3,.slice A0_4 l0_4.length c0_4] 43 (0,0)) bk_ hb);have n2_:=Aside0.mk (blk_below (g:=gb211) (o:=.cells #[.slice A0_0 l0_0.length c0_0] 99 (0,0)) bk_ hb);have n3_:=Aside0.mk (below_step bl_ hb);clear HO214;clear BK207;clear BK211;clear HB;have HO214:=n0_;have BK207:=n1_;have BK211:=n2_;have HB:=n3_;clear n0_ n1_ n2_ n3_;(try clear hb);(try clear hb2);(try clear hk);(try clear hi);obtain ⟨hcz29_0,hcz29_1,hcz29_2,hcz29_3,hcz29_4,hfz29_0,hfz29_1,hfz29_2,hfz29_3,hfz29_4⟩:=blk5_ BK207.out))
      go_loopg [8,54] k1 (fun kq v8 v54 w' => ∃ (x8_2:Bool) (x54_2:Int),v8=.bool x8_2∧v54=.int .i64 x54_2∧Aside0 (class_Check.l1 kq x8_2 l0_3 (l0_3.length:Int) x54_2 l0_0 a0_1 a0_2 l0_3 l0_4 l0_0=some r)∧Aside0 (kq≤k1)∧Aside0 (w'.heap[gb207]?=some (.cells #[(.slice A0_0 l0_0.length c0_0),.int .i64 a0_1,.int .i64 a0_2,(.slice A0_3 l0_3.length c0_3),(.slice A0_4 l0_4.length c0_4)] 43 (0,0)))∧Aside0 (w'.heap[gb211]?=some (.cells #[(.slice A0_0 l0_0.length c0_0)] 99 (0,0)))∧Aside0 (Below w.heap.size w w'))
      case atStart => exact ⟨(t215),(0),r3_,r3_,H',⟨Nat.le_refl _⟩,⟨bk_⟩,⟨bk_⟩,⟨bl_⟩⟩
      case round =>
       clear H'
       try clear c9;try clear c9b0;try clear c18;try clear c18b0;try clear hcz20_0;try clear hcz20_1;try clear hcz20_2;try clear hcz20_3;try clear hcz20_4;try clear hcz23_0;try clear hcz24_0;try clear hcz24_1;try clear hcz24_2;try clear hcz24_3;try clear hcz24_4;try clear hcz29_0;try clear hcz29_1;try clear hcz29_2;try clear hcz29_3;try clear hcz29_4;try clear hfz20_0;try clear hfz20_1;try clear hfz20_2;try clear hfz20_3;try clear hfz20_4;try clear hfz23_0;try clear hfz24_0;try clear hfz24_1;try clear hfz24_2;try clear hfz24_3;try clear hfz24_4;try clear hfz29_0;try clear hfz29_1;try clear hfz29_2;try clear hfz29_3;try clear hfz29_4
       obtain ⟨x8_2,x54_2,rfl,rfl,HA,HK2,BK207,BK211,HB⟩:=hrel
       cases gk with
       | zero => exact absurd HA.out (by simp [class_Check.l1])
       | succ k2 =>
        have H:=HA.out
        clear HA
        simp only [class_Check.l1] at H
        by_cases c30:x54_2 < (l0_3.length:Int)
        ·rw [if_pos c30] at H
         have c30b0:decide (x54_2 < (l0_3.length:Int))=true:=decide_eq_true c30
         clear c30
         by_cases c31:0≤x54_2
         ·rw [if_pos c31] at H
          have c31b0:decide (0≤x54_2)=true:=decide_eq_true c31
          clear c31
          by_cases c32:x54_2 < (l0_3.length:Int)
          ·rw [if_pos c32] at H
           have c32b0:decide (x54_2 < (l0_3.length:Int))=true:=decide_eq_true c32
           clear c32
           by_cases c33:x8_2=true
           ·subst c33
            rw [if_pos rfl] at H
            replace H:=Option.bind_eq_some_iff.mp H
            obtain ⟨t218,A340,H⟩:=H
            try dsimp only at H
            have A34:=Aside0.mk A340
            clear A340
            by_cases c35:t218=true
            ·subst c35
             rw [if_pos rfl] at H
             obtain ⟨y219,hy219⟩:∃ y_:List Int,y_=(([(rd_T102 l0_3 x54_2).f1,(rd_T102 l0_3 x54_2).f2]:List Int)):=⟨_,rfl⟩
             replace H:((class_rules_text.f k2 l0_0 y219).bind fun t222 => (class_Check.l1 k2 t222 l0_3 (l0_3.length:Int) (wrap64 (x54_2 + 1)) l0_0 a0_1 a0_2 l0_3 l0_4 l0_0))=some r:=by first|(rw [hy219];with_reducible exact H)|(have H2_:=(Option.bind_some _ _).symm.trans H;rw [hy219];with_reducible exact H2_)|(have H2_:=(Option.bind_some _ _).symm.trans H;with_reducible exact H2_)|with_reducible exact H|(rw [hy219];exact H)|exact H
             have Ny219:=Aside0.mk hy219
             clear hy219
             replace H:=Option.bind_eq_some_iff.mp H
             obtain ⟨t222,A360,H⟩:=H
             try dsimp only at H
             have A36:=Aside0.mk A360
             clear A360
             have H':=Aside0.mk H
             clear H
             have p216:0≤(x54_2:Int):=od_
             have q216:x54_2 < (l0_3.length:Int):=od_
             obtain ⟨ad216,e216,hx216_0,hx216_1,hx216_2⟩:=at_T102 HR0_3.out x54_2 p216 q216
             cases e216
             replace hx216_0:=hb_ HB hx216_0
             replace hx216_1:=hb_ HB hx216_1
             replace hx216_2:=hb_ HB hx216_2
             replace p216:=eq_true p216
             replace q216:=eq_true q216
             go_wp2_with (first|((with_reducible refine gate_dst (N:=10) rfl ?_);(try (refine gate_guard (by rfl) ?_;dsimp only));refine box_event ?hg (N:=10) ?hd (cs:=#[.int .i64 0,.int .i64 0,.int .i64 0]) (t:=102) ?hr ?_;(case hd => rfl);(case hg => rfl);(case hr => first|(go_simp;done)|(go_simp;rfl));intro gb217 hg w37 hbox hb;have n0_:=Aside0.mk (blk_below (g:=gb207) (o:=.cells #[.slice A0_0 l0_0.length c0_0,.int .i64 a0_1,.int .i64 a0_2,.slice (some ad216) l0_3.length c0_3,.slice A0_4 l0_4.length c0_4] 43 (0,0)) bk_ hb);have n1_:=Aside0.mk (blk_below (g:=gb211) (o:=.cells #[.slice A0_0 l0_0.length c0_0] 99 (0,0)) bk_ hb);have n2_:=Aside0.mk (below_step bl_ hb);have n3_:=Aside0.mk (hbox);have n4_:=Aside0.mk ((by rw [hg];exact (below_size bl_):w.heap.size≤gb217));have n5_:=Aside0.mk ((by rw [hg];exact (below_size bl_):w.heap.size≤gb217));have n6_:=Aside0.mk ((by rw [hg];exact Nat.ne_of_lt (blk_lt (g:=gb207) (o:=.cells #[.slice A0_0 l0_0.length c0_0,.int .i64 a0_1,.int .i64 a0_2,.slice (some ad216) l0_3.length c0_3,.slice A0_4 l0_4.length c0_4] 43 (0,0)) bk_):gb207 ≠ gb217));have n7_:=Aside0.mk ((by rw [hg];exact Nat.ne_of_gt (blk_lt (g:=gb207) (o:=.cells #[.slice A0_0 l0_0.length c0_0,.int .i64 a0_1,.int .i64 a0_2,.slice (some ad216) l0_3.length c0_3,.slice A0_4 l0_4.length c0_4] 43 (0,0)) bk_):gb217 ≠ gb207));have n8_:=Aside0.mk ((by rw [hg];exact Nat.ne_of_lt (blk_lt (g:=gb211) (o:=.cells #[.slice A0_0 l0_0.length c0_0] 99 (0,0)) bk_):gb211 ≠ gb217));have n9_:=Aside0.mk ((by rw [hg];exact Nat.ne_of_gt (blk_lt (g:=gb211) (o:=.cells #[.slice A0_0 l0_0.length c0_0] 99 (0,0)) bk_):gb217 ≠ gb211));clear BK207;clear BK211;clear HB;have BK207:=n0_;have BK211:=n1_;have HB:=n2_;have BK217:=n3_;have GW217:=n4_;have GE217:=n5_;have NB207_217:=n6_;have NB217_207:=n7_;have NB211_217:=n8_;have NB217_211:=n9_;clear n0_ n1_ n2_ n3_ n4_ n5_ n6_ n7_ n8_ n9_;clear hb hbox hg;have hnb38:=NB217_207.out;have hnc38:=NB207_217.out;have hnb39:=NB217_211.out;have hnc39:=NB211_217.out;obtain ⟨hcz40_0,hcz40_1,hcz40_2,hfz40_0,hfz40_1,hfz40_2⟩:=blk3_ BK217.out)|(go_at_call 34;(with_reducible refine (class_flags.calls ((rd_T102 l0_3 x54_2).f0) true _ A34.out).mono ?_);rintro e w' ⟨rfl,⟨nd,rfl⟩⟩;have hnb41:=NB211_207.out;have hnc41:=NB207_211.out;have hcz42_0:w37.cell? ⟨gb211,0,none⟩=some (.slice A0_0 l0_0.length c0_0):=(blk_cell BK211.out 0).trans rfl;have hfz42_0:=blk_frozen BK211.out 0)|((with_reducible refine gate_dst (N:=70) rfl ?_);(try (refine gate_guard (by rfl) ?_;dsimp only));refine Kd.R_lit (Kd.int .i64) _ 3 ?hg (N:=70) ?hd (xs:=([(rd_T102 l0_3 x54_2).f1,(rd_T102 l0_3 x54_2).f2]:List Int)) (inner:=[.int .i64 ((rd_T102 l0_3 x54_2).f1),.int .i64 ((rd_T102 l0_3 x54_2).f2)]) (ok:=fun _ => True) (okp:=fun _ => True) ?hr ?hp (fun _ hk => hk) trivial (Below.refl _ _) (Nat.le_refl _) (by simp) ?_;(case hd => rfl);(case hg => rfl);(case hr => first|(go_simp;done)|(go_simp;rfl));(case hp => exact (Reps.one (show Kd.M (Kd.int .i64) _ _ _ ((rd_T102 l0_3 x54_2).f1) [.int .i64 ((rd_T102 l0_3 x54_2).f1)] from rfl) (Reps.one (show Kd.M (Kd.int .i64) _ _ _ ((rd_T102 l0_3 x54_2).f2) [.int .i64 ((rd_T102 l0_3 x54_2).f2)] from rfl) (Reps.none _ _))));intro v220 w43 ho44 hb hg_ hnew_;clear hg_ hnew_;(first|rw [← Ny219.out] at ho44|(simp only [Int.reduceToNat] at ho44;rw [← Ny219.out] at ho44));have n0_:=Aside0.mk (Kd.R_lower ho44 (below_size bl_));have n1_:=Aside0.mk (blk_below (g:=gb207) (o:=.cells #[.slice A0_0 l0_0.length c0_0,.int .i64 a0_1,.int .i64 a0_2,.slice (some ad216) l0_3.length c0_3,.slice A0_4 l0_4.length c0_4] 43 (0,0)) bk_ hb);have n2_:=Aside0.mk (blk_below (g:=gb211) (o:=.cells #[.slice A0_0 l0_0.length c0_0] 99 (0,0)) bk_ hb);have n3_:=Aside0.mk (blk_below (g:=gb217) (o:=.cells #[.int .i64 ((rd_T102 l0_3 x54_2).f0),.int .i64 ((rd_T102 l0_3 x54_2).f1),.int .i64 ((rd_T102 l0_3 x54_2).f2)] 102 (0,0)) (by (with_reducible repeat (first|refine blk_drewN ?_ _|refine blk_drew ?_|refine blk_alloc ?_ _));refine blk_put (cs:=#[.int .i64 ((rd_T102 l0_3 x54_2).f0),.int .i64 ((rd_T102 l0_3 x54_2).f1),.int .i64 0]) ?_ 2 _ rfl;(with_reducible repeat (first|refine blk_drewN ?_ _|refine blk_drew ?_|refine blk_alloc ?_ _));refine blk_put (cs:=#[.int .i64 ((rd_T102 l0_3 x54_2).f0),.int .i64 0,.int .i64 0]) ?_ 1 _ rfl;(with_reducible repeat (first|refine blk_drewN ?_ _|refine blk_drew ?_|refine blk_alloc ?_ _));refine blk_put (cs:=#[.int .i64 0,.int .i64 0,.int .i64 0]) ?_ 0 _ rfl;(with_reducible repeat (first|refine blk_drewN ?_ _|refine blk_drew ?_|refine blk_alloc ?_ _));exact BK217.out) hb);have n4_:=Aside0.mk (below_step bl_ hb);clear BK207;clear BK211;clear BK217;clear HB;have HO221:=n0_;have BK207:=n1_;have BK211:=n2_;have BK217:=n3_;have HB:=n4_;clear n0_ n1_ n2_ n3_ n4_;clear hb ho44;obtain ⟨Ao45,co45,eo45⟩:=Kd.R_slice HO221.out;subst eo45)|(go_at_call 35;(with_reducible refine (class_rules_text.calls k2 _ _ l0_0 _ _ y219 t222 _ ?side1 ?side2 ?side3 ?side4 A36.out).mono ?_);(case side1 => exact kc_ (Kd.C_below HR0_0.out HB.out));(case side2 => exact HC0_0.out);(case side3 => exact kc_ (Kd.R_reads' HO221.out).2.2);(case side4 => exact (Kd.R_reads' HO221.out).2.1);rintro e w46 ⟨rfl,hb⟩;have n0_:=Aside0.mk (Kd.R_below (kr_ HO221.out) hb);have n1_:=Aside0.mk (blk_below (g:=gb207) (o:=.cells #[.slice A0_0 l0_0.length c0_0,.int .i64 a0_1,.int .i64 a0_2,.slice (some ad216) l0_3.length c0_3,.slice A0_4 l0_4.length c0_4] 43 (0,0)) bk_ hb);have n2_:=Aside0.mk (blk_below (g:=gb211) (o:=.cells #[.slice A0_0 l0_0.length c0_0] 99 (0,0)) bk_ hb);have n3_:=Aside0.mk (blk_below (g:=gb217) (o:=.cells #[.int .i64 ((rd_T102 l0_3 x54_2).f0),.int .i64 ((rd_T102 l0_3 x54_2).f1),.int .i64 ((rd_T102 l0_3 x54_2).f2)] 102 (0,0)) bk_ hb);have n4_:=Aside0.mk (below_step bl_ hb);clear HO221;clear BK207;clear BK211;clear BK217;clear HB;have HO221:=n0_;have BK207:=n1_;have BK211:=n2_;have BK217:=n3_;have HB:=n4_;clear n0_ n1_ n2_ n3_ n4_;(try clear hb);(try clear hb2);(try clear hk);(try clear hi)))
             go_roundg k2
             case measure => have:=HK1.out;have:=HK2.out;omega
             case rel => exact ⟨(t222),(wrap64 (x54_2 + 1)),r3_,r3_,H',⟨by have:=HK1.out;have:=HK2.out;omega⟩,⟨bk_⟩,⟨bk_⟩,⟨bl_⟩⟩
            ·replace c35:=Bool.eq_false_iff.mpr c35
             subst c35
             rw [if_neg (show ¬ (false=true) by decide)] at H
             have H':=Aside0.mk H
             clear H
             have p216:0≤(x54_2:Int):=od_
             have q216:x54_2 < (l0_3.length:Int):=od_
             obtain ⟨ad216,e216,hx216_0,hx216_1,hx216_2⟩:=at_T102 HR0_3.out x54_2 p216 q216
             cases e216
             replace hx216_0:=hb_ HB hx216_0
             replace hx216_1:=hb_ HB hx216_1
             replace hx216_2:=hb_ HB hx216_2
             replace p216:=eq_true p216
             replace q216:=eq_true q216
             go_wp2_with (first|((with_reducible refine gate_dst (N:=10) rfl ?_);(try (refine gate_guard (by rfl) ?_;dsimp only));refine box_event ?hg (N:=10) ?hd (cs:=#[.int .i64 0,.int .i64 0,.int .i64 0]) (t:=102) ?hr ?_;(case hd => rfl);(case hg => rfl);(case hr => first|(go_simp;done)|(go_simp;rfl));intro gb217 hg w47 hbox hb;have n0_:=Aside0.mk (blk_below (g:=gb207) (o:=.cells #[.slice A0_0 l0_0.length c0_0,.int .i64 a0_1,.int .i64 a0_2,.slice (some ad216) l0_3.length c0_3,.slice A0_4 l0_4.length c0_4] 43 (0,0)) bk_ hb);have n1_:=Aside0.mk (blk_below (g:=gb211) (o:=.cells #[.slice A0_0 l0_0.length c0_0] 99 (0,0)) bk_ hb);have n2_:=Aside0.mk (below_step bl_ hb);have n3_:=Aside0.mk (hbox);have n4_:=Aside0.mk ((by rw [hg];exact (below_size bl_):w.heap.size≤gb217));have n5_:=Aside0.mk ((by rw [hg];exact (below_size bl_):w.heap.size≤gb217));have n6_:=Aside0.mk ((by rw [hg];exact Nat.ne_of_lt (blk_lt (g:=gb207) (o:=.cells #[.slice A0_0 l0_0.length c0_0,.int .i64 a0_1,.int .i64 a0_2,.slice (some ad216) l0_3.length c0_3,.slice A0_4 l0_4.length c0_4] 43 (0,0)) bk_):gb207 ≠ gb217));have n7_:=Aside0.mk ((by rw [hg];exact Nat.ne_of_gt (blk_lt (g:=gb207) (o:=.cells #[.slice A0_0 l0_0.length c0_0,.int .i64 a0_1,.int .i64 a0_2,.slice (some ad216) l0_3.length c0_3,.slice A0_4 l0_4.length c0_4] 43 (0,0)) bk_):gb217 ≠ gb207));have n8_:=Aside0.mk ((by rw [hg];exact Nat.ne_of_lt (blk_lt (g:=gb211) (o:=.cells #[.slice A0_0 l0_0.length c0_0] 99 (0,0)) bk_):gb211 ≠ gb217));have n9_:=Aside0.mk ((by rw [hg];exact Nat.ne_of_gt (blk_lt (g:=gb211) (o:=.cells #[.slice A0_0 l0_0.length c0_0] 99 (0,0)) bk_):gb217 ≠ gb211));clear BK207;clear BK211;clear HB;have BK207:=n0_;have BK211:=n1_;have HB:=n2_;have BK217:=n3_;have GW217:=n4_;have GE217:=n5_;have NB207_217:=n6_;have NB217_207:=n7_;have NB211_217:=n8_;have NB217_211:=n9_;clear n0_ n1_ n2_ n3_ n4_ n5_ n6_ n7_ n8_ n9_;clear hb hbox hg;have hnb48:=NB217_207.out;have hnc48:=NB207_217.out;have hnb49:=NB217_211.out;have hnc49:=NB211_217.out;obtain ⟨hcz50_0,hcz50_1,hcz50_2,hfz50_0,hfz50_1,hfz50_2⟩:=blk3_ BK217.out)|(go_at_call 34;(with_reducible refine (class_flags.calls ((rd_T102 l0_3 x54_2).f0) false _ A34.out).mono ?_);rintro e w' ⟨rfl,⟨nd,rfl⟩⟩))
             go_roundg k2
             case measure => have:=HK1.out;have:=HK2.out;omega
             case rel => exact ⟨(false),(wrap64 (x54_2 + 1)),r3_,r3_,H',⟨by have:=HK1.out;have:=HK2.out;omega⟩,⟨bk_⟩,⟨bk_⟩,⟨bl_⟩⟩
           ·replace c33:=Bool.eq_false_iff.mpr c33
            subst c33
            rw [if_neg (show ¬ (false=true) by decide)] at H
            have H':=Aside0.mk H
            clear H
            have p216:0≤(x54_2:Int):=od_
            have q216:x54_2 < (l0_3.length:Int):=od_
            obtain ⟨ad216,e216,hx216_0,hx216_1,hx216_2⟩:=at_T102 HR0_3.out x54_2 p216 q216
            cases e216
            replace hx216_0:=hb_ HB hx216_0
            replace hx216_1:=hb_ HB hx216_1
            replace hx216_2:=hb_ HB hx216_2
            replace p216:=eq_true p216
            replace q216:=eq_true q216
            go_wp2_with (first|((with_reducible refine gate_dst (N:=10) rfl ?_);(try (refine gate_guard (by rfl) ?_;dsimp only));refine box_event ?hg (N:=10) ?hd (cs:=#[.int .i64 0,.int .i64 0,.int .i64 0]) (t:=102) ?hr ?_;(case hd => rfl);(case hg => rfl);(case hr => first|(go_simp;done)|(go_simp;rfl));intro gb217 hg w51 hbox hb;have n0_:=Aside0.mk (blk_below (g:=gb207) (o:=.cells #[.slice A0_0 l0_0.length c0_0,.int .i64 a0_1,.int .i64 a0_2,.slice (some ad216) l0_3.length c0_3,.slice A0_4 l0_4.length c0_4] 43 (0,0)) bk_ hb);have n1_:=Aside0.mk (blk_below (g:=gb211) (o:=.cells #[.slice A0_0 l0_0.length c0_0] 99 (0,0)) bk_ hb);have n2_:=Aside0.mk (below_step bl_ hb);have n3_:=Aside0.mk (hbox);have n4_:=Aside0.mk ((by rw [hg];exact (below_size bl_):w.heap.size≤gb217));have n5_:=Aside0.mk ((by rw [hg];exact (below_size bl_):w.heap.size≤gb217));have n6_:=Aside0.mk ((by rw [hg];exact Nat.ne_of_lt (blk_lt (g:=gb207) (o:=.cells #[.slice A0_0 l0_0.length c0_0,.int .i64 a0_1,.int .i64 a0_2,.slice (some ad216) l0_3.length c0_3,.slice A0_4 l0_4.length c0_4] 43 (0,0)) bk_):gb207 ≠ gb217));have n7_:=Aside0.mk ((by rw [hg];exact Nat.ne_of_gt (blk_lt (g:=gb207) (o:=.cells #[.slice A0_0 l0_0.length c0_0,.int .i64 a0_1,.int .i64 a0_2,.slice (some ad216) l0_3.length c0_3,.slice A0_4 l0_4.length c0_4] 43 (0,0)) bk_):gb217 ≠ gb207));have n8_:=Aside0.mk ((by rw [hg];exact Nat.ne_of_lt (blk_lt (g:=gb211) (o:=.cells #[.slice A0_0 l0_0.length c0_0] 99 (0,0)) bk_):gb211 ≠ gb217));have n9_:=Aside0.mk ((by rw [hg];exact Nat.ne_of_gt (blk_lt (g:=gb211) (o:=.cells #[.slice A0_0 l0_0.length c0_0] 99 (0,0)) bk_):gb217 ≠ gb211));clear BK207;clear BK211;clear HB;have BK207:=n0_;have BK211:=n1_;have HB:=n2_;have BK217:=n3_;have GW217:=n4_;have GE217:=n5_;have NB207_217:=n6_;have NB217_207:=n7_;have NB211_217:=n8_;have NB217_211:=n9_;clear n0_ n1_ n2_ n3_ n4_ n5_ n6_ n7_ n8_ n9_;clear hb hbox hg;have hnb52:=NB217_207.out;have hnc52:=NB207_217.out;have hnb53:=NB217_211.out;have hnc53:=NB211_217.out;obtain ⟨hcz54_0,hcz54_1,hcz54_2,hfz54_0,hfz54_1,hfz54_2⟩:=blk3_ BK217.out))
            go_roundg k2
            case measure => have:=HK1.out;have:=HK2.out;omega
            case rel => exact ⟨(false),(wrap64 (x54_2 + 1)),r3_,r3_,H',⟨by have:=HK1.out;have:=HK2.out;omega⟩,⟨bk_⟩,⟨bk_⟩,⟨bl_⟩⟩
          ·rw [if_neg c32] at H
           exact absurd H (by simp)
         ·rw [if_neg c31] at H
          exact absurd H (by simp)
        ·rw [if_neg c30] at H
         have c30b0:decide (x54_2 < (l0_3.length:Int))=false:=decide_eq_false c30
         clear c30
         have H':=Aside0.mk H
         clear H
         have hnb55:=NB207_211.out
         have hnc55:=NB211_207.out
         obtain ⟨hcz56_0,hcz56_1,hcz56_2,hcz56_3,hcz56_4,hfz56_0,hfz56_1,hfz56_2,hfz56_3,hfz56_4⟩:=blk5_ BK207.out
         go_wp2
         go_loopg [8,77] k2 (fun kq v8 v77 w' => ∃ (x8_3:Bool) (x77_3:Int),v8=.bool x8_3∧v77=.int .i64 x77_3∧Aside0 (class_Check.l2 kq x8_3 l0_4 (l0_4.length:Int) x77_3 l0_0=some r)∧Aside0 (kq≤k2)∧Aside0 (w'.heap[gb207]?=some (.cells #[(.slice A0_0 l0_0.length c0_0),.int .i64 a0_1,.int .i64 a0_2,(.slice A0_3 l0_3.length c0_3),(.slice A0_4 l0_4.length c0_4)] 43 (0,0)))∧Aside0 (w'.heap[gb211]?=some (.cells #[(.slice A0_0 l0_0.length c0_0)] 99 (0,0)))∧Aside0 (Below w.heap.size w w'))
         case atStart => exact ⟨(x8_2),(0),r3_,r3_,H',⟨Nat.le_refl _⟩,⟨bk_⟩,⟨bk_⟩,⟨bl_⟩⟩
         case round =>
          clear H'
          try clear c30;try clear c30b0;try clear hcz56_0;try clear hcz56_1;try clear hcz56_2;try clear hcz56_3;try clear hcz56_4;try clear hfz56_0;try clear hfz56_1;try clear hfz56_2;try clear hfz56_3;try clear hfz56_4
          obtain ⟨x8_3,x77_3,rfl,rfl,HA,HK3,BK207,BK211,HB⟩:=hrel
          cases gk with
          | zero => exact absurd HA.out (by simp [class_Check.l2])
          | succ k3 =>
           have H:=HA.out
           clear HA
           simp only [class_Check.l2] at H
           by_cases c57:x77_3 < (l0_4.length:Int)
           ·rw [if_pos c57] at H
            have c57b0:decide (x77_3 < (l0_4.length:Int))=true:=decide_eq_true c57
            clear c57
            by_cases c58:0≤x77_3
            ·rw [if_pos c58] at H
             have c58b0:decide (0≤x77_3)=true:=decide_eq_true c58
             clear c58
             by_cases c59:x77_3 < (l0_4.length:Int)
             ·rw [if_pos c59] at H
              have c59b0:decide (x77_3 < (l0_4.length:Int))=true:=decide_eq_true c59
              clear c59
              by_cases c60:x8_3=true
              ·subst c60
               rw [if_pos rfl] at H
               replace H:=Option.bind_eq_some_iff.mp H
               obtain ⟨t225,A610,H⟩:=H
               try dsimp only at H
               have A61:=Aside0.mk A610
               clear A610
               have H':=Aside0.mk H
               clear H
               have p223:0≤(x77_3:Int):=od_
               have q223:x77_3 < (l0_4.length:Int):=od_
               obtain ⟨ad223,A223_5,c223_5,A223_6,c223_6,A223_7,c223_7,e223,hx223_0,hx223_1,hx223_2,hx223_3,hx223_4,hx223_5,hx223_6,hx223_7,hl223_5,hi223_5,hl223_6,hi223_6,hl223_7,hi223_7⟩:=at_T97 HR0_4.out x77_3 p223 q223
               cases e223
               replace hx223_0:=hb_ HB hx223_0
               replace hx223_1:=hb_ HB hx223_1
               replace hx223_2:=hb_ HB hx223_2
               replace hx223_3:=hb_ HB hx223_3
               replace hx223_4:=hb_ HB hx223_4
               replace hx223_5:=hb_ HB hx223_5
               replace hx223_6:=hb_ HB hx223_6
               replace hx223_7:=hb_ HB hx223_7
               have HR223_5:=Aside0.mk hi223_5
               have HC223_5:=Aside0.mk hl223_5
               clear hi223_5 hl223_5
               have HR223_6:=Aside0.mk hi223_6
               have HC223_6:=Aside0.mk hl223_6
               clear hi223_6 hl223_6
               have HR223_7:=Aside0.mk hi223_7
               have HC223_7:=Aside0.mk hl223_7
               clear hi223_7 hl223_7
               replace p223:=eq_true p223
               replace q223:=eq_true q223
               go_wp2_with (first|((with_reducible refine gate_dst (N:=12) rfl ?_);(try (refine gate_guard (by rfl) ?_;dsimp only));refine box_event ?hg (N:=12) ?hd (cs:=#[.int .i64 0,.int .i64 0,.int .i64 0,.int .i64 0,.int .i64 0,.slice none 0 0,.slice none 0 0,.slice none 0 0]) (t:=97) ?hr ?_;(case hd => rfl);(case hg => rfl);(case hr => first|(go_simp;done)|(go_simp;rfl));intro gb224 hg w62 hbox hb;have n0_:=Aside0.mk (blk_below (g:=gb207) (o:=.cells #[.slice A0_0 l0_0.length c0_0,.int .i64 a0_1,.int .i64 a0_2,.slice A0_3 l0_3.length c0_3,.slice (some ad223) l0_4.length c0_4] 43 (0,0)) bk_ hb);have n1_:=Aside0.mk (blk_below (g:=gb211) (o:=.cells #[.slice A0_0 l0_0.length c0_0] 99 (0,0)) bk_ hb);have n2_:=Aside0.mk (below_step bl_ hb);have n3_:=Aside0.mk (hbox);have n4_:=Aside0.mk ((by rw [hg];exact (below_size bl_):w.heap.size≤gb224));have n5_:=Aside0.mk ((by rw [hg];exact (below_size bl_):w.heap.size≤gb224));have n6_:=Aside0.mk ((by rw [hg];exact Nat.ne_of_lt (blk_lt (g:=gb207) (o:=.cells #[.slice A0_0 l0_0.length c0_0,.int .i64 a0_1,.int .i64 a0_2,.slice A0_3 l0_3.length c0_3,.slice (some ad223) l0_4.length c0_4] 43 (0,0)) bk_):gb207 ≠ gb224));have n7_:=Aside0.mk ((by rw [hg];exact Nat.ne_of_gt (blk_lt (g:=gb207) (o:=.cells #[.slice A0_0 l0_0.length c0_0,.int .i64 a0_1,.int .i64 a0_2,.slice A0_3 l0_3.length c0_3,.slice (some ad223) l0_4.length c0_4] 43 (0,0)) bk_):gb224 ≠ gb207));have n8_:=Aside0.mk ((by rw [hg];exact Nat.ne_of_lt (blk_lt (g:=gb211) (o:=.cells #[.slice A0_0 l0_0.length c0_0] 99 (0,0)) bk_):gb211 ≠ gb224));have n9_:=Aside0.mk ((by rw [hg];exact Nat.ne_of_gt (blk_lt (g:=gb211) (o:=.cells #[.slice A0_0 l0_0.length c0_0] 99 (0,0)) bk_):gb224 ≠ gb211));clear BK207;clear BK211;clear HB;have BK207:=n0_;have BK211:=n1_;have HB:=n2_;have BK224:=n3_;have GW224:=n4_;have GE224:=n5_;have NB207_224:=n6_;have NB224_207:=n7_;have NB211_224:=n8_;have NB224_211:=n9_;clear n0_ n1_ n2_ n3_ n4_ n5_ n6_ n7_ n8_ n9_;clear hb hbox hg;have hnb63:=NB224_207.out;have hnc63:=NB207_224.out;have hnb64:=NB224_211.out;have hnc64:=NB211_224.out;obtain ⟨hcz65_0,hcz65_1,hcz65_2,hcz65_3,hcz65_4,hcz65_5,hcz65_6,hcz65_7,hfz65_0,hfz65_1,hfz65_2,hfz65_3,hfz65_4,hfz65_5,hfz65_6,hfz65_7⟩:=blk8_ BK224.out)|((with_reducible refine gate_store (t:=97) (p:=12) rfl ?_);refine store_event (t:=97) (p:=12) (v:=?vo_w66) (w1:=((((((((w62.setCell ⟨gb224,0,none⟩ (.int .i64 ((rd_T97 l0_4 x77_3).f0))).setCell ⟨gb224,1,none⟩ (.int .i64 ((rd_T97 l0_4 x77_3).f1))).setCell ⟨gb224,2,none⟩ (.int .i64 ((rd_T97 l0_4 x77_3).f2))).setCell ⟨gb224,3,none⟩ (.int .i64 ((rd_T97 l0_4 x77_3).f3))).setCell ⟨gb224,4,none⟩ (.int .i64 ((rd_T97 l0_4 x77_3).f4))).setCell ⟨gb224,5,none⟩ (.slice A223_5 ((rd_T97 l0_4 x77_3).f5).length c223_5)).setCell ⟨gb224,6,none⟩ (.slice A223_6 ((rd_T97 l0_4 x77_3).f6).length c223_6)).setCell ⟨gb224,7,none⟩ (.slice A223_7 ((rd_T97 l0_4 x77_3).f7).length c223_7))) ?hg ?ho ?hn ?hr ?_;(case ho => rfl);(case hg => rfl);(case hn => rfl);(case hr => first|(go_simp;done)|(go_simp;rfl));intro w66 hw;have n0_:Aside0 (w66.heap[gb207]?=some (.cells #[.slice A0_0 l0_0.length c0_0,.int .i64 a0_1,.int .i64 a0_2,.slice A0_3 l0_3.length c0_3,.slice (some ad223) l0_4.length c0_4] 43 (0,0))):=⟨(by rw [hw];exact bk_)⟩;have n1_:Aside0 (w66.heap[gb211]?=some (.cells #[.slice A0_0 l0_0.length c0_0] 99 (0,0))):=⟨(by rw [hw];exact bk_)⟩;have n2_:Aside0 (w66.heap[gb224]?=some (.cells #[.int .i64 ((rd_T97 l0_4 x77_3).f0),.int .i64 ((rd_T97 l0_4 x77_3).f1),.int .i64 ((rd_T97 l0_4 x77_3).f2),.int .i64 ((rd_T97 l0_4 x77_3).f3),.int .i64 ((rd_T97 l0_4 x77_3).f4),.slice A223_5 ((rd_T97 l0_4 x77_3).f5).length c223_5,.slice A223_6 ((rd_T97 l0_4 x77_3).f6).length c223_6,.slice A223_7 ((rd_T97 l0_4 x77_3).f7).length c223_7] 97 (0,0))):=⟨(by rw [hw];exact (by (with_reducible repeat (first|refine blk_drewN ?_ _|refine blk_drew ?_|refine blk_alloc ?_ _));refine blk_put (cs:=#[.int .i64 ((rd_T97 l0_4 x77_3).f0),.int .i64 ((rd_T97 l0_4 x77_3).f1),.int .i64 ((rd_T97 l0_4 x77_3).f2),.int .i64 ((rd_T97 l0_4 x77_3).f3),.int .i64 ((rd_T97 l0_4 x77_3).f4),.slice A223_5 ((rd_T97 l0_4 x77_3).f5).length c223_5,.slice A223_6 ((rd_T97 l0_4 x77_3).f6).length c223_6,.slice none 0 0]) ?_ 7 _ rfl;(with_reducible repeat (first|refine blk_drewN ?_ _|refine blk_drew ?_|refine blk_alloc ?_ _));refine blk_put (cs:=#[.int .i64 ((rd_T97 l0_4 x77_3).f0),.int .i64 ((rd_T97 l0_4 x77_3).f1),.int .i64 ((rd_T97 l0_4 x77_3).f2),.int .i64 ((rd_T97 l0_4 x77_3).f3),.int .i64 ((rd_T97 l0_4 x77_3).f4),.slice A223_5 ((rd_T97 l0_4 x77_3).f5).length c223_5,.slice none 0 0,.slice none 0 0]) ?_ 6 _ rfl;(with_reducible repeat (first|refine blk_drewN ?_ _|refine blk_drew ?_|refine blk_alloc ?_ _));refine blk_put (cs:=#[.int .i64 ((rd_T97 l0_4 x77_3).f0),.int .i64 ((rd_T97 l0_4 x77_3).f1),.int .i64 ((rd_T97 l0_4 x77_3).f2),.int .i64 ((rd_T97 l0_4 x77_3).f3),.int .i64 ((rd_T97 l0_4 x77_3).f4),.slice none 0 0,.slice none 0 0,.slice none 0 0]) ?_ 5 _ rfl;(with_reducible repeat (first|refine blk_drewN ?_ _|refine blk_drew ?_|refine blk_alloc ?_ _));refine blk_put (cs:=#[.int .i64 ((rd_T97 l0_4 x77_3).f0),.int .i64 ((rd_T97 l0_4 x77_3).f1),.int .i64 ((rd_T97 l0_4 x77_3).f2),.int .i64 ((rd_T97 l0_4 x77_3).f3),.int .i64 0,.slice none 0 0,.slice none 0 0,.slice none 0 0]) ?_ 4 _ rfl;(with_reducible repeat (first|refine blk_drewN ?_ _|refine blk_drew ?_|refine blk_alloc ?_ _));refine blk_put (cs:=#[.int .i64 ((rd_T97 l0_4 x77_3).f0),.int .i64 ((rd_T97 l0_4 x77_3).f1),.int .i64 ((rd_T97 l0_4 x77_3).f2),.int .i64 0,.int .i64 0,.slice none 0 0,.slice none 0 0,.slice none 0 0]) ?_ 3 _ rfl;(with_reducible repeat (first|refine blk_drewN ?_ _|refine blk_drew ?_|refine blk_alloc ?_ _));refine blk_put (cs:=#[.int .i64 ((rd_T97 l0_4 x77_3).f0),.int .i64 ((rd_T97 l0_4 x77_3).f1),.int .i64 0,.int .i64 0,.int .i64 0,.slice none 0 0,.slice none 0 0,.slice none 0 0]) ?_ 2 _ rfl;(with_reducible repeat (first|refine blk_drewN ?_ _|refine blk_drew ?_|refine blk_alloc ?_ _));refine blk_put (cs:=#[.int .i64 ((rd_T97 l0_4 x77_3).f0),.int .i64 0,.int .i64 0,.int .i64 0,.int .i64 0,.slice none 0 0,.slice none 0 0,.slice none 0 0]) ?_ 1 _ rfl;(with_reducible repeat (first|refine blk_drewN ?_ _|refine blk_drew ?_|refine blk_alloc ?_ _));refine blk_put (cs:=#[.int .i64 0,.int .i64 0,.int .i64 0,.int .i64 0,.int .i64 0,.slice none 0 0,.slice none 0 0,.slice none 0 0]) ?_ 0 _ rfl;(with_reducible repeat (first|refine blk_drewN ?_ _|refine blk_drew ?_|refine blk_alloc ?_ _));exact BK224.out))⟩;have n3_:Aside0 (Below w.heap.size w w66):=⟨(by rw [hw];exact bl_)⟩;clear hw;clear BK207;clear BK211;clear BK224;clear HB;have BK207:=n0_;have BK211:=n1_;have BK224:=n2_;have HB:=n3_;clear n0_ n1_ n2_ n3_;have hnb67:=NB211_207.out;have hnc67:=NB207_211.out;have hcz68_0:w66.cell? ⟨gb211,0,none⟩=some (.slice A0_0 l0_0.length c0_0):=(blk_cell BK211.out 0).trans rfl;have hfz68_0:=blk_frozen BK211.out 0;obtain ⟨hcz69_0,hcz69_1,hcz69_2,hcz69_3,hcz69_4,hcz69_5,hcz69_6,hcz69_7,hfz69_0,hfz69_1,hfz69_2,hfz69_3,hfz69_4,hfz69_5,hfz69_6,hfz69_7⟩:=blk8_ BK224.out)|(go_at_call 36;(with_reducible refine (class_rules_method.calls k3 _ _ l0_0 ((rd_T97 l0_4 x77_3).f0) ((rd_T97 l0_4 x77_3).f1) ((rd_T97 l0_4 x77_3).f2) ((rd_T97 l0_4 x77_3).f3) ((rd_T97 l0_4 x77_3).f4) _ _ ((rd_T97 l0_4 x77_3).f5) _ _ ((rd_T97 l0_4 x77_3).f6) _ _ ((rd_T97 l0_4 x77_3).f7) t225 _ ?side1 ?side2 ?side3 ?side4 ?side5 ?side6 ?side7 ?side8 A61.out).mono ?_);(case side1 => exact kc_ (Kd.C_below HR0_0.out HB.out));(case side2 => exact HC0_0.out);(case side3 => exact kc_ (Kd.C_below HR223_5.out HB.out));(case side4 => exact HC223_5.out);(case side5 => exact kc_ (Kd.C_below HR223_6.out HB.out));(case side6 => exact HC223_6.out);(case side7 => exact kc_ (Kd.C_below HR223_7.out HB.out));(case side8 => exact HC223_7.out);rintro e w70 ⟨rfl,hb⟩;have n0_:=Aside0.mk (blk_below (g:=gb207) (o:=.cells #[.slice A0_0 l0_0.length c0_0,.int .i64 a0_1,.int .i64 a0_2,.slice A0_3 l0_3.length c0_3,.slice (some ad223) l0_4.length c0_4] 43 (0,0)) bk_ hb);have n1_:=Aside0.mk (blk_below (g:=gb211) (o:=.cells #[.slice A0_0 l0_0.length c0_0] 99 (0,0)) bk_ hb);have n2_:=Aside0.mk (blk_below (g:=gb224) (o:=.cells #[.int .i64 ((rd_T97 l0_4 x77_3).f0),.int .i64 ((rd_T97 l0_4 x77_3).f1),.int .i64 ((rd_T97 l0_4 x77_3).f2),.int .i64 ((rd_T97 l0_4 x77_3).f3),.int .i64 ((rd_T97 l0_4 x77_3).f4),.slice A223_5 ((rd_T97 l0_4 x77_3).f5).length c223_5,.slice A223_6 ((rd_T97 l0_4 x77_3).f6).length c223_6,.slice A223_7 ((rd_T97 l0_4 x77_3).f7).length c223_7] 97 (0,0)) bk_ hb);have n3_:=Aside0.mk (below_step bl_ hb);clear BK207;clear BK211;clear BK224;clear HB;have BK207:=n0_;have BK211:=n1_;have BK224:=n2_;have HB:=n3_;clear n0_ n1_ n2_ n3_;(try clear hb);(try clear hb2);(try clear hk);(try clear hi)))
               go_roundg k3
               case measure => have:=HK1.out;have:=HK2.out;have:=HK3.out;omega
               case rel => exact ⟨(t225),(wrap64 (x77_3 + 1)),r3_,r3_,H',⟨by have:=HK1.out;have:=HK2.out;have:=HK3.out;omega⟩,⟨bk_⟩,⟨bk_⟩,⟨bl_⟩⟩
              ·replace c60:=Bool.eq_false_iff.mpr c60
               subst c60
               rw [if_neg (show ¬ (false=true) by decide)] at H
               have H':=Aside0.mk H
               clear H
               have p223:0≤(x77_3:Int):=od_
               have q223:x77_3 < (l0_4.length:Int):=od_
               obtain ⟨ad223,A223_5,c223_5,A223_6,c223_6,A223_7,c223_7,e223,hx223_0,hx223_1,hx223_2,hx223_3,hx223_4,hx223_5,hx223_6,hx223_7,hl223_5,hi223_5,hl223_6,hi223_6,hl223_7,hi223_7⟩:=at_T97 HR0_4.out x77_3 p223 q223
               cases e223
               replace hx223_0:=hb_ HB hx223_0
               replace hx223_1:=hb_ HB hx223_1
               replace hx223_2:=hb_ HB hx223_2
               replace hx223_3:=hb_ HB hx223_3
               replace hx223_4:=hb_ HB hx223_4
               replace hx223_5:=hb_ HB hx223_5
               replace hx223_6:=hb_ HB hx223_6
               replace hx223_7:=hb_ HB hx223_7
               have HR223_5:=Aside0.mk hi223_5
               have HC223_5:=Aside0.mk hl223_5
               clear hi223_5 hl223_5
               have HR223_6:=Aside0.mk hi223_6
               have HC223_6:=Aside0.mk hl223_6
               clear hi223_6 hl223_6
               have HR223_7:=Aside0.mk hi223_7
               have HC223_7:=Aside0.mk hl223_7
               clear hi223_7 hl223_7
               replace p223:=eq_true p223
               replace q223:=eq_true q223
               go_wp2_with (first|((with_reducible refine gate_dst (N:=12) rfl ?_);(try (refine gate_guard (by rfl) ?_;dsimp only));refine box_event ?hg (N:=12) ?hd (cs:=#[.int .i64 0,.int .i64 0,.int .i64 0,.int .i64 0,.int .i64 0,.slice none 0 0,.slice none 0 0,.slice none 0 0]) (t:=97) ?hr ?_;(case hd => rfl);(case hg => rfl);(case hr => first|(go_simp;done)|(go_simp;rfl));intro gb224 hg w71 hbox hb;have n0_:=Aside0.mk (blk_below (g:=gb207) (o:=.cells #[.slice A0_0 l0_0.length c0_0,.int .i64 a0_1,.int .i64 a0_2,.slice A0_3 l0_3.length c0_3,.slice (some ad223) l0_4.length c0_4] 43 (0,0)) bk_ hb);have n1_:=Aside0.mk (blk_below (g:=gb211) (o:=.cells #[.slice A0_0 l0_0.length c0_0] 99 (0,0)) bk_ hb);have n2_:=Aside0.mk (below_step bl_ hb);have n3_:=Aside0.mk (hbox);have n4_:=Aside0.mk ((by rw [hg];exact (below_size bl_):w.heap.size≤gb224));have n5_:=Aside0.mk ((by rw [hg];exact (below_size bl_):w.heap.size≤gb224));have n6_:=Aside0.mk ((by rw [hg];exact Nat.ne_of_lt (blk_lt (g:=gb207) (o:=.cells #[.slice A0_0 l0_0.length c0_0,.int .i64 a0_1,.int .i64 a0_2,.slice A0_3 l0_3.length c0_3,.slice (some ad223) l0_4.length c0_4] 43 (0,0)) bk_):gb207 ≠ gb224));have n7_:=Aside0.mk ((by rw [hg];exact Nat.ne_of_gt (blk_lt (g:=gb207) (o:=.cells #[.slice A0_0 l0_0.length c0_0,.int .i64 a0_1,.int .i64 a0_2,.slice A0_3 l0_3.length c0_3,.slice (some ad223) l0_4.length c0_4] 43 (0,0)) bk_):gb224 ≠ gb207));have n8_:=Aside0.mk ((by rw [hg];exact Nat.ne_of_lt (blk_lt (g:=gb211) (o:=.cells #[.slice A0_0 l0_0.length c0_0] 99 (0,0)) bk_):gb211 ≠ gb224));have n9_:=Aside0.mk ((by rw [hg];exact Nat.ne_of_gt (blk_lt (g:=gb211) (o:=.cells #[.slice A0_0 l0_0.length c0_0] 99 (0,0)) bk_):gb224 ≠ gb211));clear BK207;clear BK211;clear HB;have BK207:=n0_;have BK211:=n1_;have HB:=n2_;have BK224:=n3_;have GW224:=n4_;have GE224:=n5_;have NB207_224:=n6_;have NB224_207:=n7_;have NB211_224:=n8_;have NB224_211:=n9_;clear n0_ n1_ n2_ n3_ n4_ n5_ n6_ n7_ n8_ n9_;clear hb hbox hg;have hnb72:=NB224_207.out;have hnc72:=NB207_224.out;have hnb73:=NB224_211.out;have hnc73:=NB211_224.out;obtain ⟨hcz74_0,hcz74_1,hcz74_2,hcz74_3,hcz74_4,hcz74_5,hcz74_6,hcz74_7,hfz74_0,hfz74_1,hfz74_2,hfz74_3,hfz74_4,hfz74_5,hfz74_6,hfz74_7⟩:=blk8_ BK224.out)|((with_reducible refine gate_store (t:=97) (p:=12) rfl ?_);refine store_event (t:=97) (p:=12) (v:=?vo_w75) (w1:=((((((((w71.setCell ⟨gb224,0,none⟩ (.int .i64 ((rd_T97 l0_4 x77_3).f0))).setCell ⟨gb224,1,none⟩ (.int .i64 ((rd_T97 l0_4 x77_3).f1))).setCell ⟨gb224,2,none⟩ (.int .i64 ((rd_T97 l0_4 x77_3).f2))).setCell ⟨gb224,3,none⟩ (.int .i64 ((rd_T97 l0_4 x77_3).f3))).setCell ⟨gb224,4,none⟩ (.int .i64 ((rd_T97 l0_4 x77_3).f4))).setCell ⟨gb224,5,none⟩ (.slice A223_5 ((rd_T97 l0_4 x77_3).f5).length c223_5)).setCell ⟨gb224,6,none⟩ (.slice A223_6 ((rd_T97 l0_4 x77_3).f6).length c223_6)).setCell ⟨gb224,7,none⟩ (.slice A223_7 ((rd_T97 l0_4 x77_3).f7).length c223_7))) ?hg ?ho ?hn ?hr ?_;(case ho => rfl);(case hg => rfl);(case hn => rfl);(case hr => first|(go_simp;done)|(go_simp;rfl));intro w75 hw;have n0_:Aside0 (w75.heap[gb207]?=some (.cells #[.slice A0_0 l0_0.length c0_0,.int .i64 a0_1,.int .i64 a0_2,.slice A0_3 l0_3.length c0_3,.slice (some ad223) l0_4.length c0_4] 43 (0,0))):=⟨(by rw [hw];exact bk_)⟩;have n1_:Aside0 (w75.heap[gb211]?=some (.cells #[.slice A0_0 l0_0.length c0_0] 99 (0,0))):=⟨(by rw [hw];exact bk_)⟩;have n2_:Aside0 (w75.heap[gb224]?=some (.cells #[.int .i64 ((rd_T97 l0_4 x77_3).f0),.int .i64 ((rd_T97 l0_4 x77_3).f1),.int .i64 ((rd_T97 l0_4 x77_3).f2),.int .i64 ((rd_T97 l0_4 x77_3).f3),.int .i64 ((rd_T97 l0_4 x77_3).f4),.slice A223_5 ((rd_T97 l0_4 x77_3).f5).length c223_5,.slice A223_6 ((rd_T97 l0_4 x77_3).f6).length c223_6,.slice A223_7 ((rd_T97 l0_4 x77_3).f7).length c223_7] 97 (0,0))):=⟨(by rw [hw];exact (by (with_reducible repeat (first|refine blk_drewN ?_ _|refine blk_drew ?_|refine blk_alloc ?_ _));refine blk_put (cs:=#[.int .i64 ((rd_T97 l0_4 x77_3).f0),.int .i64 ((rd_T97 l0_4 x77_3).f1),.int .i64 ((rd_T97 l0_4 x77_3).f2),.int .i64 ((rd_T97 l0_4 x77_3).f3),.int .i64 ((rd_T97 l0_4 x77_3).f4),.slice A223_5 ((rd_T97 l0_4 x77_3).f5).length c223_5,.slice A223_6 ((rd_T97 l0_4 x77_3).f6).length c223_6,.slice none 0 0]) ?_ 7 _ rfl;(with_reducible repeat (first|refine blk_drewN ?_ _|refine blk_drew ?_|refine blk_alloc ?_ _));refine blk_put (cs:=#[.int .i64 ((rd_T97 l0_4 x77_3).f0),.int .i64 ((rd_T97 l0_4 x77_3).f1),.int .i64 ((rd_T97 l0_4 x77_3).f2),.int .i64 ((rd_T97 l0_4 x77_3).f3),.int .i64 ((rd_T97 l0_4 x77_3).f4),.slice A223_5 ((rd_T97 l0_4 x77_3).f5).length c223_5,.slice none 0 0,.slice none 0 0]) ?_ 6 _ rfl;(with_reducible repeat (first|refine blk_drewN ?_ _|refine blk_drew ?_|refine blk_alloc ?_ _));refine blk_put (cs:=#[.int .i64 ((rd_T97 l0_4 x77_3).f0),.int .i64 ((rd_T97 l0_4 x77_3).f1),.int .i64 ((rd_T97 l0_4 x77_3).f2),.int .i64 ((rd_T97 l0_4 x77_3).f3),.int .i64 ((rd_T97 l0_4 x77_3).f4),.slice none 0 0,.slice none 0 0,.slice none 0 0]) ?_ 5 _ rfl;(with_reducible repeat (first|refine blk_drewN ?_ _|refine blk_drew ?_|refine blk_alloc ?_ _));refine blk_put (cs:=#[.int .i64 ((rd_T97 l0_4 x77_3).f0),.int .i64 ((rd_T97 l0_4 x77_3).f1),.int .i64 ((rd_T97 l0_4 x77_3).f2),.int .i64 ((rd_T97 l0_4 x77_3).f3),.int .i64 0,.slice none 0 0,.slice none 0 0,.slice none 0 0]) ?_ 4 _ rfl;(with_reducible repeat (first|refine blk_drewN ?_ _|refine blk_drew ?_|refine blk_alloc ?_ _));refine blk_put (cs:=#[.int .i64 ((rd_T97 l0_4 x77_3).f0),.int .i64 ((rd_T97 l0_4 x77_3).f1),.int .i64 ((rd_T97 l0_4 x77_3).f2),.int .i64 0,.int .i64 0,.slice none 0 0,.slice none 0 0,.slice none 0 0]) ?_ 3 _ rfl;(with_reducible repeat (first|refine blk_drewN ?_ _|refine blk_drew ?_|refine blk_alloc ?_ _));refine blk_put (cs:=#[.int .i64 ((rd_T97 l0_4 x77_3).f0),.int .i64 ((rd_T97 l0_4 x77_3).f1),.int .i64 0,.int .i64 0,.int .i64 0,.slice none 0 0,.slice none 0 0,.slice none 0 0]) ?_ 2 _ rfl;(with_reducible repeat (first|refine blk_drewN ?_ _|refine blk_drew ?_|refine blk_alloc ?_ _));refine blk_put (cs:=#[.int .i64 ((rd_T97 l0_4 x77_3).f0),.int .i64 0,.int .i64 0,.int .i64 0,.int .i64 0,.slice none 0 0,.slice none 0 0,.slice none 0 0]) ?_ 1 _ rfl;(with_reducible repeat (first|refine blk_drewN ?_ _|refine blk_drew ?_|refine blk_alloc ?_ _));refine blk_put (cs:=#[.int .i64 0,.int .i64 0,.int .i64 0,.int .i64 0,.int .i64 0,.slice none 0 0,.slice none 0 0,.slice none 0 0]) ?_ 0 _ rfl;(with_reducible repeat (first|refine blk_drewN ?_ _|refine blk_drew ?_|refine blk_alloc ?_ _));exact BK224.out))⟩;have n3_:Aside0 (Below w.heap.size w w75):=⟨(by rw [hw];exact bl_)⟩;clear hw;clear BK207;clear BK211;clear BK224;clear HB;have BK207:=n0_;have BK211:=n1_;have BK224:=n2_;have HB:=n3_;clear n0_ n1_ n2_ n3_))
               go_roundg k3
               case measure => have:=HK1.out;have:=HK2.out;have:=HK3.out;omega
               case rel => exact ⟨(false),(wrap64 (x77_3 + 1)),r3_,r3_,H',⟨by have:=HK1.out;have:=HK2.out;have:=HK3.out;omega⟩,⟨bk_⟩,⟨bk_⟩,⟨bl_⟩⟩
             ·rw [if_neg c59] at H
              exact absurd H (by simp)
            ·rw [if_neg c58] at H
             exact absurd H (by simp)
           ·rw [if_neg c57] at H
            have c57b0:decide (x77_3 < (l0_4.length:Int))=false:=decide_eq_false c57
            clear c57
            by_cases c76:x8_3=true
            ·subst c76
             rw [if_pos rfl] at H
             obtain rfl:=Option.some.inj H
             go_wp2
             go_ret
             exact ⟨by first|rfl|(simp [errW_none,errW_some] <;> rfl)|(simp only [← hji4];first|rfl|(simp [errW_none,errW_some] <;> rfl))|(simp [*,errW_none,errW_some] <;> rfl),bl_⟩
            ·replace c76:=Bool.eq_false_iff.mpr c76
             subst c76
             rw [if_neg (show ¬ (false=true) by decide)] at H
             obtain rfl:=Option.some.inj H
             go_wp2
             go_ret
             exact ⟨by first|rfl|(simp [errW_none,errW_some] <;> rfl)|(simp only [← hji4];first|rfl|(simp [errW_none,errW_some] <;> rfl))|(simp [*,errW_none,errW_some] <;> rfl),bl_⟩
 ·rw [if_neg c3] at H
  have c3b0:(t208==0)=false:=beq_eq_false_iff_ne.mpr c3
  have c3b1:(t208 != 0)=true:=bne_iff_ne.mpr c3
  obtain rfl:=Option.some.inj H
  go_enter Tryd.func21,Tryd.ntmps21
  go_wp2_with (first|((with_reducible refine gate_dst (N:=1) rfl ?_);(try (refine gate_guard (by rfl) ?_;dsimp only));refine box_event ?hg (N:=1) ?hd (cs:=#[.slice A0_0 l0_0.length c0_0,.int .i64 a0_1,.int .i64 a0_2,.slice A0_3 l0_3.length c0_3,.slice A0_4 l0_4.length c0_4]) (t:=43) ?hr ?_;(case hd => rfl);(case hg => rfl);(case hr => first|(go_simp;done)|(go_simp;rfl));intro gb207 hg w77 hbox hb;have n0_:=Aside0.mk (below_step bl_ hb);have n1_:=Aside0.mk (hbox);have n2_:=Aside0.mk ((by rw [hg];exact (below_size bl_):w.heap.size≤gb207));have n3_:=Aside0.mk ((by rw [hg];exact (below_size bl_):w.heap.size≤gb207));clear HB;have HB:=n0_;have BK207:=n1_;have GW207:=n2_;have GE207:=n3_;clear n0_ n1_ n2_ n3_;clear hb hbox hg;obtain ⟨hcz78_0,hcz78_1,hcz78_2,hcz78_3,hcz78_4,hfz78_0,hfz78_1,hfz78_2,hfz78_3,hfz78_4⟩:=blk5_ BK207.out)|(refine callA_ (f:=32) (some 15) Tryd.func32 #[.slice A0_0 l0_0.length c0_0] ?_;(with_reducible refine (pool_Check.calls k _ _ l0_0 t208 _ ?side3 ?side1 ?side2 A2.out).mono ?_);(case side1 => exact kc_ (Kd.C_below HR0_0.out HB.out));(case side2 => exact HC0_0.out);(case side3 => exact ⟨GG.below hG.out bl_⟩);rintro e w79 ⟨rfl,hb⟩;refine ⟨_,rfl,?_⟩;have n0_:=Aside0.mk (blk_below (g:=gb207) (o:=.cells #[.slice A0_0 l0_0.length c0_0,.int .i64 a0_1,.int .i64 a0_2,.slice A0_3 l0_3.length c0_3,.slice A0_4 l0_4.length c0_4] 43 (0,0)) bk_ hb);have n1_:=Aside0.mk (below_step bl_ hb);clear BK207;clear HB;have BK207:=n0_;have HB:=n1_;clear n0_ n1_;(try clear hb);(try clear hb2);(try clear hk);(try clear hi)))
  go_ret
  exact ⟨ew_,bl_⟩
end Go.Proofs.YtoonhpcjcimecaaDoor.Px
namespace Go.Proofs.YtoonhpcjcimecaaDoor.Px
open Go.RowKit Go.Proofs.YtoonhpcjcimecaaDoorW.PrintWords Go.Proofs.YtoonhpcjcimecaaDoorW.PrintLast Go.Proofs.YtoonhpcjcimecaaDoorW.PrintMore
set_option linter.unusedVariables false
set_option linter.unusedSimpArgs false
def classV (l:List Cst) (i:Int):ByteArray × Bool:=if isV l i 7=true then textV l (rd_T108 l i).f3 else (noText,false)
theorem pool_Class.eq (l:List Cst) (i:Int):pool_Class.f l i=some (classV l i):=by
 unfold pool_Class.f classV
 rw [pool_is.eq,Option.bind_some]
 by_cases h:isV l i 7=true
 ·have:=isV_pos h
  rw [if_pos h,if_pos h,if_pos (by omega),if_pos this.2.1,pool_Text.eq,Option.bind_some]
 ·rw [if_neg h,if_neg h];rfl
def txt (p:List Cst) (i:Int):Bool:=(textV p i).2
def cl (p:List Cst) (i:Int):Bool:=(classV p i).2
def flagsV (n:Int):Bool:=decide (n=0 ∨ n=8)
def placeG:Nat→List Cst→ByteArray→Nat→Int
 | 0,_,_,_ => 0
 | n + 1,p,s,i => if i < p.length then (if isV p (i:Int) 1=true∧(rd_T108 p (i:Int)).f1.toList=s.toList then (i:Int) else placeG n p s (i + 1)) else 0
def placeV (p:List Cst) (s:ByteArray):Int:=placeG p.length p s 1
def trapV (p:List Cst) (n:Int) (t:Trp):Bool :=
 if t.f0 < 0 then false else if t.f0 ≥ t.f1 then false else if t.f1 > n then false else if t.f2 < 0 ∨ t.f2 ≥ n then false else if t.f3=0 then true else cl p t.f3
def restV (p:List Cst) (m0 m1 m2 m3 m4:Int) (n mn:Nat):Bool :=
 flagsV m0 && (txt p m1 && txt p m2) && decide (0≤m3∧m3≤64) && decide (0≤m4∧m4≤64) && decide (1≤n∧n≤4096) && decide (mn≤4096) && decide (placeV p sCode > 0) && (decide (mn=0) || decide (placeV p sMaps > 0))
def fieldV (p:List Cst) (f:Fld):Bool:=flagsV f.f0 && (txt p f.f1 && txt p f.f2)
def methV (p:List Cst) (m:Mth):Bool:=m.f6.all (trapV p m.f5.length) && restV p m.f0 m.f1 m.f2 m.f3 m.f4 m.f5.length m.f7.length
def longV (x:Int) (ms:List Mth):Bool:=decide (x > 64) || ms.any (fun m => decide ((m.f6.length:Int) > 64))
def fineV (fine:Bool):Int:=if fine=true then 0 else 50
def classCheckV (p:List Cst) (this super:Int) (fs:List Fld) (ms:List Mth):Int :=
 if checkV p=0 then (if longV (mx (fs.length:Int) (ms.length:Int)) ms=true then 2 else fineV ((cl p this && cl p super) && fs.all (fieldV p) && ms.all (methV p))) else checkV p
section
variable {α:Type} {xs:List α} {z:α}
theorem drop_getD (i:Nat) (h:i < xs.length):xs.drop i=xs.getD i z :: xs.drop (i + 1):=by
 rw [List.drop_eq_getElem_cons h,List.getD_eq_getElem?_getD,List.getElem?_eq_getElem h]
 rfl
end
theorem flags_iff (a:Int) (h0:-9223372036854775808≤a) (h1:a≤9223372036854775807):(Go.bits .andNot .i64 a 8==0)=decide (a=0 ∨ a=8):=by
 rw [Bool.eq_iff_iff,beq_iff_eq,decide_eq_true_eq]
 constructor
 ·intro h
  have h2:IntKind.i64.wrap ((BitVec.ofInt 64 a &&& ~~~BitVec.ofInt 64 8).toNat:Int)=0:=h
  rw [i64_w] at h2
  have hlt:=(BitVec.ofInt 64 a &&& ~~~BitVec.ofInt 64 8).isLt
  have h3:(BitVec.ofInt 64 a &&& ~~~BitVec.ofInt 64 8).toNat=0:=by unfold wrap64 at h2;omega
  have h4:BitVec.ofInt 64 a &&& ~~~BitVec.ofInt 64 8=0#64:=BitVec.eq_of_toNat_eq h3
  have h8:BitVec.ofInt 64 8=BitVec.twoPow 64 3:=by decide
  have hx:∀ x t:BitVec 64,x=(x &&& ~~~t) ||| (x &&& t):=by
   intro x t
   ext i hi
   simp only [BitVec.getElem_or,BitVec.getElem_and,BitVec.getElem_not]
   cases x[i] <;> cases t[i] <;> rfl
  have h5:=hx (BitVec.ofInt 64 a) (BitVec.ofInt 64 8)
  rw [h4,h8,BitVec.and_twoPow,BitVec.zero_or] at h5
  have h6:=congrArg BitVec.toNat h5
  rw [BitVec.toNat_ofInt] at h6
  split at h6
  ·have:(BitVec.twoPow 64 3).toNat=8:=by decide
   omega
  ·have:(0#64).toNat=0:=rfl
   omega
 ·rintro (rfl|rfl) <;> decide
theorem flags.eq (n:Int) (h:(Lit.int .i64 n).wf=true):class_flags.f n=some (flagsV n):=by
 simp [Lit.wf,IntKind.min,IntKind.max,IntKind.bits,IntKind.signed] at h
 unfold class_flags.f flagsV
 rw [flags_iff n (by omega) (by omega)]
theorem within.eq (a b:Int):class_within.f a b=some (decide (0≤a∧a≤b)):=by
 unfold class_within.f
 by_cases h:a ≥ 0
 ·rw [if_pos h]
  congr 1
  rw [Bool.eq_iff_iff,decide_eq_true_eq,decide_eq_true_eq]
  omega
 ·rw [if_neg h,decide_eq_false (by omega)]
theorem rules_text.ev_l (p:List Cst) (l:List Int) (hl:l.length≤1048576):∀ n (i:Nat),l.length≤i + n→Ev (fun k => class_rules_text.l0 k l (l.length:Int) (i:Int) p) ((l.drop i).all (txt p)):=by
 have stop:∀ i:Nat,¬ i < l.length→Ev (fun k => class_rules_text.l0 k l (l.length:Int) (i:Int) p) ((l.drop i).all (txt p)):=fun i hi => by
  rw [List.drop_eq_nil_of_le (by omega)]
  exact Ev.step (f:=fun _ => some true) (fun k => by simp only [class_rules_text.l0];rw [if_neg (by omega)]) (Ev.now _)
 intro n
 induction n with
 | zero => intro i h;exact stop i (by omega)
 | succ n ih =>
  intro i h
  by_cases hi:i < l.length
  ·rw [drop_getD (z:=(0:Int)) i hi,List.all_cons]
   have e:rd l (i:Int)=l.getD i 0:=by unfold rd;rw [Int.toNat_natCast]
   have et:(textV p (l.getD i 0)).2=txt p (l.getD i 0):=rfl
   refine Ev.step (f:=fun k => if txt p (l.getD i 0)=true then class_rules_text.l0 k l (l.length:Int) ((i + 1:Nat):Int) p else some false) (fun k => ?_) ?_
   ·simp only [class_rules_text.l0,pool_Text.eq,Option.bind_some,e,et]
    rw [if_pos (by omega),if_pos (by omega),if_pos (by omega),w64 (by omega) (by omega)]
    rfl
   ·cases ht:txt p (l.getD i 0)
    ·exact Ev.congr (fun k => if_neg (by simp)) (Ev.now _)
    ·exact Ev.congr (fun k => if_pos rfl) (ih (i + 1) (by omega))
  ·exact stop i hi
theorem rules_text.ev2 (p:List Cst) (a b:Int):Ev (fun k => class_rules_text.f k p [a,b]) (txt p a && txt p b):=by
 have h:=rules_text.ev_l p [a,b] (by simp) 2 0 (by simp)
 simp only [List.drop_zero,List.all_cons,List.all_nil,Bool.and_true] at h
 exact h
theorem rules_class.ev_l (p:List Cst) (l:List Int) (hl:l.length≤1048576):∀ n (i:Nat),l.length≤i + n→Ev (fun k => class_rules_class.l0 k l (l.length:Int) (i:Int) p) ((l.drop i).all (cl p)):=by
 have stop:∀ i:Nat,¬ i < l.length→Ev (fun k => class_rules_class.l0 k l (l.length:Int) (i:Int) p) ((l.drop i).all (cl p)):=fun i hi => by
  rw [List.drop_eq_nil_of_le (by omega)]
  exact Ev.step (f:=fun _ => some true) (fun k => by simp only [class_rules_class.l0];rw [if_neg (by omega)]) (Ev.now _)
 intro n
 induction n with
 | zero => intro i h;exact stop i (by omega)
 | succ n ih =>
  intro i h
  by_cases hi:i < l.length
  ·rw [drop_getD (z:=(0:Int)) i hi,List.all_cons]
   have e:rd l (i:Int)=l.getD i 0:=by unfold rd;rw [Int.toNat_natCast]
   have et:(classV p (l.getD i 0)).2=cl p (l.getD i 0):=rfl
   refine Ev.step (f:=fun k => if cl p (l.getD i 0)=true then class_rules_class.l0 k l (l.length:Int) ((i + 1:Nat):Int) p else some false) (fun k => ?_) ?_
   ·simp only [class_rules_class.l0,pool_Class.eq,Option.bind_some,e,et]
    rw [if_pos (by omega),if_pos (by omega),if_pos (by omega),w64 (by omega) (by omega)]
    rfl
   ·cases ht:cl p (l.getD i 0)
    ·exact Ev.congr (fun k => if_neg (by simp)) (Ev.now _)
    ·exact Ev.congr (fun k => if_pos rfl) (ih (i + 1) (by omega))
  ·exact stop i hi
theorem rules_class.ev2 (p:List Cst) (a b:Int):Ev (fun k => class_rules_class.f k p [a,b]) (cl p a && cl p b):=by
 have h:=rules_class.ev_l p [a,b] (by simp) 2 0 (by simp)
 simp only [List.drop_zero,List.all_cons,List.all_nil,Bool.and_true] at h
 exact h
theorem rules_class.ev1 (p:List Cst) (a:Int):Ev (fun k => class_rules_class.f k p [a]) (cl p a):=by
 have h:=rules_class.ev_l p [a] (by simp) 1 0 (by simp)
 simp only [List.drop_zero,List.all_cons,List.all_nil,Bool.and_true] at h
 exact h
theorem place.ev_l (p:List Cst) (s:ByteArray) (hl:p.length≤1048576):∀ n (i:Nat),p.length≤i + n→Ev (fun k => class_place.l0 k p s (p.length:Int) (i:Int)) (placeG n p s i):=by
 have stop:∀ i:Nat,¬ i < p.length→Ev (fun k => class_place.l0 k p s (p.length:Int) (i:Int)) 0:=fun i hi => Ev.step (f:=fun _ => some 0) (fun k => by simp only [class_place.l0];rw [if_neg (by omega)]) (Ev.now _)
 intro n
 induction n with
 | zero => intro i h;exact stop i (by omega)
 | succ n ih =>
  intro i h
  show Ev _ (if i < p.length then _ else _)
  by_cases hi:i < p.length
  ·rw [if_pos hi]
   refine Ev.step (f:=fun k => if isV p (i:Int) 1=true∧(rd_T108 p (i:Int)).f1.toList=s.toList then some (i:Int) else class_place.l0 k p s (p.length:Int) ((i + 1:Nat):Int)) (fun k => ?_) ?_
   ·simp only [class_place.l0,pool_Text.eq,Option.bind_some]
    rw [if_pos (by omega),w64 (by omega) (by omega)]
    unfold textV
    by_cases hv:isV p (i:Int) 1=true
    ·rw [if_pos hv,if_pos rfl]
     by_cases hs:(rd_T108 p (i:Int)).f1.toList=s.toList
     ·rw [if_pos hs,if_pos ⟨hv,hs⟩]
     ·rw [if_neg hs,if_neg (fun h => hs h.2)];rfl
    ·rw [if_neg hv,if_neg (by simp),if_neg (fun h => hv h.1)];rfl
   ·by_cases hc:isV p (i:Int) 1=true∧(rd_T108 p (i:Int)).f1.toList=s.toList
    ·rw [if_pos hc];exact Ev.congr (fun k => if_pos hc) (Ev.now _)
    ·rw [if_neg hc];exact Ev.congr (fun k => if_neg hc) (ih (i + 1) (by omega))
  ·rw [if_neg hi];exact stop i hi
theorem place.ev (p:List Cst) (s:ByteArray) (hl:p.length≤1048576):Ev (fun k => class_place.f k p s) (placeV p s):=by
 have h:=place.ev_l p s hl (p.length + 1) 0 (by omega)
 have e:placeG (p.length + 1) p s 0=placeV p s:=by
  show (if 0 < p.length then (if isV p ((0:Nat):Int) 1=true∧_ then _ else placeG p.length p s 1) else 0)=placeG p.length p s 1
  have hv:¬ isV p ((0:Nat):Int) 1=true:=by unfold isV;simp
  by_cases h0:0 < p.length
  ·rw [if_pos h0,if_neg (fun h => hv h.1)]
  ·rw [if_neg h0,show p.length=0 by omega];rfl
 rw [e] at h
 exact h
end Go.Proofs.YtoonhpcjcimecaaDoor.Px
namespace Go.Proofs.YtoonhpcjcimecaaDoor.Px
open Go.RowKit Go.Proofs.YtoonhpcjcimecaaDoorW.PrintWords Go.Proofs.YtoonhpcjcimecaaDoorW.PrintLast Go.Proofs.YtoonhpcjcimecaaDoorW.PrintMore
attribute [local go_sem] max2_int min2_int max_two min_two max_three min_three max_four min_four
set_option linter.unusedVariables false
set_option linter.unusedSimpArgs false
def class_Name.f (l0_0:List (S108)) (a0_1:Int) (a0_2:Int) (l0_3:List (S102)) (l0_4:List (S97)):Option (ByteArray):=(pool_Class.f l0_0 a0_1).bind fun bt231 => (some bt231.1)
set_option maxHeartbeats 80000000 in
set_option maxRecDepth 100000 in
theorem class_Name.calls (A0_0:Option Addr) (c0_0:Nat) (l0_0:List (S108)) (a0_1:Int) (a0_2:Int) (A0_3:Option Addr) (c0_3:Nat) (l0_3:List (S102)) (A0_4:Option Addr) (c0_4:Nat) (l0_4:List (S97)) (r:ByteArray) (w:World) (hr0_0:Kd.C k108 w A0_0 l0_0.length l0_0) (hc0_0:l0_0.length≤c0_0) (hr0_3:Kd.C k102 w A0_3 l0_3.length l0_3) (hc0_3:l0_3.length≤c0_3) (hr0_4:Kd.C k97 w A0_4 l0_4.length l0_4) (hc0_4:l0_4.length≤c0_4) (h:class_Name.f l0_0 a0_1 a0_2 l0_3 l0_4=some r) :
  Calls Tryd.prog 16 #[.agg #[.slice A0_0 l0_0.length c0_0,.int .i64 a0_1,.int .i64 a0_2,.slice A0_3 l0_3.length c0_3,.slice A0_4 l0_4.length c0_4]] w fun e w' => e=.returned (.string r)∧Below w.heap.size w w':=by
 have hu43:=Tryd.underlying43
 have HR0_0:=Aside0.mk hr0_0
 have HC0_0:=Aside0.mk hc0_0
 clear hr0_0 hc0_0
 have HR0_3:=Aside0.mk hr0_3
 have HC0_3:=Aside0.mk hc0_3
 clear hr0_3 hc0_3
 have HR0_4:=Aside0.mk hr0_4
 have HC0_4:=Aside0.mk hc0_4
 clear hr0_4 hc0_4
 have HB:=Aside0.mk (Below.refl w.heap.size w)
 have H:((pool_Class.f l0_0 a0_1).bind fun bt231 => (some bt231.1))=some r:=h
 clear h
 replace H:=Option.bind_eq_some_iff.mp H
 obtain ⟨⟨t231,t232⟩,A20,H⟩:=H
 try dsimp only at H
 have A2:=Aside0.mk A20
 clear A20
 obtain rfl:=Option.some.inj H
 go_enter Tryd.func16,Tryd.ntmps16
 go_wp2_with (first|((with_reducible refine gate_dst (N:=1) rfl ?_);refine box_event ?hg (N:=1) ?hd (cs:=#[.slice A0_0 l0_0.length c0_0,.int .i64 a0_1,.int .i64 a0_2,.slice A0_3 l0_3.length c0_3,.slice A0_4 l0_4.length c0_4]) (t:=43) ?hr ?_;(case hd => rfl);(case hg => rfl);(case hr => first|(go_simp;done)|(go_simp;rfl));intro gb230 hg w3 hbox hb;have n0_:=Aside0.mk (below_step bl_ hb);have n1_:=Aside0.mk (hbox);have n2_:=Aside0.mk ((by rw [hg];exact (below_size bl_):w.heap.size≤gb230));have n3_:=Aside0.mk ((by rw [hg];exact (below_size bl_):w.heap.size≤gb230));clear HB;have HB:=n0_;have BK230:=n1_;have GW230:=n2_;have GE230:=n3_;clear n0_ n1_ n2_ n3_;clear hb hbox hg;obtain ⟨hcz4_0,hcz4_1,hcz4_2,hcz4_3,hcz4_4,hfz4_0,hfz4_1,hfz4_2,hfz4_3,hfz4_4⟩:=blk5_ BK230.out)|(refine callA_ (f:=30) (some 10) Tryd.func30 #[.slice A0_0 l0_0.length c0_0,.int .i64 a0_1] ?_;(with_reducible refine (pool_Class.calls _ _ l0_0 a0_1 t231 t232 _ ?side1 ?side2 A2.out).mono ?_);(case side1 => exact kc_ (Kd.C_below HR0_0.out HB.out));(case side2 => exact HC0_0.out);rintro e w' ⟨rfl,⟨nd,rfl⟩⟩;refine ⟨_,rfl,?_⟩))
 go_ret
 exact ⟨ew_,bl_⟩
def link_find.l0:Nat→ByteArray→ByteArray→List (S86)→Int→Int→Option (Int)
 | 0,_,_,_,_,_ => none
 | k + 1,x1,x2,x9,x10,x11 => if x11 < x10 then (if 0≤x11 then (if x11 < (x9.length:Int) then (if ((rd_T86 x9 x11).f0).toList=x1.toList then (if ((rd_T86 x9 x11).f1).toList=x2.toList then (some x11) else (link_find.l0 k x1 x2 x9 x10 (wrap64 (x11 + 1)))) else (link_find.l0 k x1 x2 x9 x10 (wrap64 (x11 + 1)))) else (none)) else (none)) else (some (-1))
def link_find.f (k:Nat) (l0:List (S86)) (a1:ByteArray) (a2:ByteArray):Option (Int):=link_find.l0 k a1 a2 l0 (l0.length:Int) 0
set_option maxHeartbeats 80000000 in
set_option maxRecDepth 100000 in
theorem link_find.calls (k:Nat) (A0:Option Addr) (c0:Nat) (l0:List (S86)) (a1:ByteArray) (a2:ByteArray) (r:Int) (w:World) (hr0:Kd.C k86 w A0 l0.length l0) (hc0:l0.length≤c0) (h:link_find.f k l0 a1 a2=some r) :
  Calls Tryd.prog 45 #[.slice A0 l0.length c0,.string a1,.string a2] w fun e w' => e=.returned (.int .i64 r)∧Below w.heap.size w w':=by
 have hu86:=Tryd.underlying86
 have HR0:=Aside0.mk hr0
 have HC0:=Aside0.mk hc0
 clear hr0 hc0
 have HB:=Aside0.mk (Below.refl w.heap.size w)
 have H:(link_find.l0 k a1 a2 l0 (l0.length:Int) 0)=some r:=h
 clear h
 have H':=Aside0.mk H
 clear H
 go_enter Tryd.func45,Tryd.ntmps45
 go_wp2
 go_loopg [11] k (fun kq v11 w' => ∃ (x11_1:Int),v11=.int .i64 x11_1∧Aside0 (link_find.l0 kq a1 a2 l0 (l0.length:Int) x11_1=some r)∧Aside0 (kq≤k)∧Aside0 (Below w.heap.size w w'))
 case atStart => exact ⟨(0),r3_,H',⟨Nat.le_refl _⟩,⟨bl_⟩⟩
 case round =>
  clear H'
  obtain ⟨x11_1,rfl,HA,HK1,HB⟩:=hrel
  cases gk with
  | zero => exact absurd HA.out (by simp [link_find.l0])
  | succ k1 =>
   have H:=HA.out
   clear HA
   simp only [link_find.l0] at H
   by_cases c4:x11_1 < (l0.length:Int)
   ·rw [if_pos c4] at H
    have c4b0:decide (x11_1 < (l0.length:Int))=true:=decide_eq_true c4
    clear c4
    by_cases c5:0≤x11_1
    ·rw [if_pos c5] at H
     have c5b0:decide (0≤x11_1)=true:=decide_eq_true c5
     clear c5
     by_cases c6:x11_1 < (l0.length:Int)
     ·rw [if_pos c6] at H
      have c6b0:decide (x11_1 < (l0.length:Int))=true:=decide_eq_true c6
      clear c6
      by_cases c7:((rd_T86 l0 x11_1).f0).toList=a1.toList
      ·rw [if_pos c7] at H
       have c7b0:(((rd_T86 l0 x11_1).f0).toList==a1.toList)=true:=beq_iff_eq.mpr c7
       have c7b1:(((rd_T86 l0 x11_1).f0).toList != a1.toList)=false:=bne_eq_false_iff_eq.mpr c7
       clear c7
       by_cases c8:((rd_T86 l0 x11_1).f1).toList=a2.toList
       ·rw [if_pos c8] at H
        have c8b0:(((rd_T86 l0 x11_1).f1).toList==a2.toList)=true:=beq_iff_eq.mpr c8
        have c8b1:(((rd_T86 l0 x11_1).f1).toList != a2.toList)=false:=bne_eq_false_iff_eq.mpr c8
        clear c8
        obtain rfl:=Option.some.inj H
        have p233:0≤(x11_1:Int):=od_
        have q233:x11_1 < (l0.length:Int):=od_
        obtain ⟨ad233,e233,hx233_0,hx233_1,hx233_2⟩:=at_T86 HR0.out x11_1 p233 q233
        cases e233
        replace hx233_0:=hb_ HB hx233_0
        replace hx233_1:=hb_ HB hx233_1
        replace hx233_2:=hb_ HB hx233_2
        replace p233:=eq_true p233
        replace q233:=eq_true q233
        go_wp2_with (first|((with_reducible refine gate_dst (N:=8) rfl ?_);refine box_event ?hg (N:=8) ?hd (cs:=#[.string (⟨#[]⟩:ByteArray),.string (⟨#[]⟩:ByteArray),.bool false]) (t:=86) ?hr ?_;(case hd => rfl);(case hg => rfl);(case hr => first|(go_simp;done)|(go_simp;rfl));intro gb234 hg w9 hbox hb;have n0_:=Aside0.mk (below_step bl_ hb);have n1_:=Aside0.mk (hbox);have n2_:=Aside0.mk ((by rw [hg];exact (below_size bl_):w.heap.size≤gb234));have n3_:=Aside0.mk ((by rw [hg];exact (below_size bl_):w.heap.size≤gb234));clear HB;have HB:=n0_;have BK234:=n1_;have GW234:=n2_;have GE234:=n3_;clear n0_ n1_ n2_ n3_;clear hb hbox hg;obtain ⟨hcz10_0,hcz10_1,hcz10_2,hfz10_0,hfz10_1,hfz10_2⟩:=blk3_ BK234.out))
        go_ret
        exact ⟨ew_,bl_⟩
       ·rw [if_neg c8] at H
        have c8b0:(((rd_T86 l0 x11_1).f1).toList==a2.toList)=false:=beq_eq_false_iff_ne.mpr c8
        have c8b1:(((rd_T86 l0 x11_1).f1).toList != a2.toList)=true:=bne_iff_ne.mpr c8
        have H':=Aside0.mk H
        clear H
        have p233:0≤(x11_1:Int):=od_
        have q233:x11_1 < (l0.length:Int):=od_
        obtain ⟨ad233,e233,hx233_0,hx233_1,hx233_2⟩:=at_T86 HR0.out x11_1 p233 q233
        cases e233
        replace hx233_0:=hb_ HB hx233_0
        replace hx233_1:=hb_ HB hx233_1
        replace hx233_2:=hb_ HB hx233_2
        replace p233:=eq_true p233
        replace q233:=eq_true q233
        go_wp2_with (first|((with_reducible refine gate_dst (N:=8) rfl ?_);refine box_event ?hg (N:=8) ?hd (cs:=#[.string (⟨#[]⟩:ByteArray),.string (⟨#[]⟩:ByteArray),.bool false]) (t:=86) ?hr ?_;(case hd => rfl);(case hg => rfl);(case hr => first|(go_simp;done)|(go_simp;rfl));intro gb234 hg w11 hbox hb;have n0_:=Aside0.mk (below_step bl_ hb);have n1_:=Aside0.mk (hbox);have n2_:=Aside0.mk ((by rw [hg];exact (below_size bl_):w.heap.size≤gb234));have n3_:=Aside0.mk ((by rw [hg];exact (below_size bl_):w.heap.size≤gb234));clear HB;have HB:=n0_;have BK234:=n1_;have GW234:=n2_;have GE234:=n3_;clear n0_ n1_ n2_ n3_;clear hb hbox hg;obtain ⟨hcz12_0,hcz12_1,hcz12_2,hfz12_0,hfz12_1,hfz12_2⟩:=blk3_ BK234.out))
        go_roundg k1
        case measure => have:=HK1.out;omega
        case rel => exact ⟨(wrap64 (x11_1 + 1)),r3_,H',⟨by have:=HK1.out;omega⟩,⟨bl_⟩⟩
      ·rw [if_neg c7] at H
       have c7b0:(((rd_T86 l0 x11_1).f0).toList==a1.toList)=false:=beq_eq_false_iff_ne.mpr c7
       have c7b1:(((rd_T86 l0 x11_1).f0).toList != a1.toList)=true:=bne_iff_ne.mpr c7
       have H':=Aside0.mk H
       clear H
       have p233:0≤(x11_1:Int):=od_
       have q233:x11_1 < (l0.length:Int):=od_
       obtain ⟨ad233,e233,hx233_0,hx233_1,hx233_2⟩:=at_T86 HR0.out x11_1 p233 q233
       cases e233
       replace hx233_0:=hb_ HB hx233_0
       replace hx233_1:=hb_ HB hx233_1
       replace hx233_2:=hb_ HB hx233_2
       replace p233:=eq_true p233
       replace q233:=eq_true q233
       go_wp2_with (first|((with_reducible refine gate_dst (N:=8) rfl ?_);refine box_event ?hg (N:=8) ?hd (cs:=#[.string (⟨#[]⟩:ByteArray),.string (⟨#[]⟩:ByteArray),.bool false]) (t:=86) ?hr ?_;(case hd => rfl);(case hg => rfl);(case hr => first|(go_simp;done)|(go_simp;rfl));intro gb234 hg w13 hbox hb;have n0_:=Aside0.mk (below_step bl_ hb);have n1_:=Aside0.mk (hbox);have n2_:=Aside0.mk ((by rw [hg];exact (below_size bl_):w.heap.size≤gb234));have n3_:=Aside0.mk ((by rw [hg];exact (below_size bl_):w.heap.size≤gb234));clear HB;have HB:=n0_;have BK234:=n1_;have GW234:=n2_;have GE234:=n3_;clear n0_ n1_ n2_ n3_;clear hb hbox hg;obtain ⟨hcz14_0,hcz14_1,hcz14_2,hfz14_0,hfz14_1,hfz14_2⟩:=blk3_ BK234.out))
       go_roundg k1
       case measure => have:=HK1.out;omega
       case rel => exact ⟨(wrap64 (x11_1 + 1)),r3_,H',⟨by have:=HK1.out;omega⟩,⟨bl_⟩⟩
     ·rw [if_neg c6] at H
      exact absurd H (by simp)
    ·rw [if_neg c5] at H
     exact absurd H (by simp)
   ·rw [if_neg c4] at H
    have c4b0:decide (x11_1 < (l0.length:Int))=false:=decide_eq_false c4
    clear c4
    obtain rfl:=Option.some.inj H
    go_wp2
    go_ret
    exact ⟨ew_,bl_⟩
def class_Super.f (l0_0:List (S108)) (a0_1:Int) (a0_2:Int) (l0_3:List (S102)) (l0_4:List (S97)):Option (ByteArray):=(pool_Class.f l0_0 a0_2).bind fun bt237 => (some bt237.1)
set_option maxHeartbeats 80000000 in
set_option maxRecDepth 100000 in
theorem class_Super.calls (A0_0:Option Addr) (c0_0:Nat) (l0_0:List (S108)) (a0_1:Int) (a0_2:Int) (A0_3:Option Addr) (c0_3:Nat) (l0_3:List (S102)) (A0_4:Option Addr) (c0_4:Nat) (l0_4:List (S97)) (r:ByteArray) (w:World) (hr0_0:Kd.C k108 w A0_0 l0_0.length l0_0) (hc0_0:l0_0.length≤c0_0) (hr0_3:Kd.C k102 w A0_3 l0_3.length l0_3) (hc0_3:l0_3.length≤c0_3) (hr0_4:Kd.C k97 w A0_4 l0_4.length l0_4) (hc0_4:l0_4.length≤c0_4) (h:class_Super.f l0_0 a0_1 a0_2 l0_3 l0_4=some r) :
  Calls Tryd.prog 103 #[.agg #[.slice A0_0 l0_0.length c0_0,.int .i64 a0_1,.int .i64 a0_2,.slice A0_3 l0_3.length c0_3,.slice A0_4 l0_4.length c0_4]] w fun e w' => e=.returned (.string r)∧Below w.heap.size w w':=by
 have hu43:=Tryd.underlying43
 have HR0_0:=Aside0.mk hr0_0
 have HC0_0:=Aside0.mk hc0_0
 clear hr0_0 hc0_0
 have HR0_3:=Aside0.mk hr0_3
 have HC0_3:=Aside0.mk hc0_3
 clear hr0_3 hc0_3
 have HR0_4:=Aside0.mk hr0_4
 have HC0_4:=Aside0.mk hc0_4
 clear hr0_4 hc0_4
 have HB:=Aside0.mk (Below.refl w.heap.size w)
 have H:((pool_Class.f l0_0 a0_2).bind fun bt237 => (some bt237.1))=some r:=h
 clear h
 replace H:=Option.bind_eq_some_iff.mp H
 obtain ⟨⟨t237,t238⟩,A20,H⟩:=H
 try dsimp only at H
 have A2:=Aside0.mk A20
 clear A20
 obtain rfl:=Option.some.inj H
 go_enter Tryd.func103,Tryd.ntmps103
 go_wp2_with (first|((with_reducible refine gate_dst (N:=1) rfl ?_);refine box_event ?hg (N:=1) ?hd (cs:=#[.slice A0_0 l0_0.length c0_0,.int .i64 a0_1,.int .i64 a0_2,.slice A0_3 l0_3.length c0_3,.slice A0_4 l0_4.length c0_4]) (t:=43) ?hr ?_;(case hd => rfl);(case hg => rfl);(case hr => first|(go_simp;done)|(go_simp;rfl));intro gb236 hg w3 hbox hb;have n0_:=Aside0.mk (below_step bl_ hb);have n1_:=Aside0.mk (hbox);have n2_:=Aside0.mk ((by rw [hg];exact (below_size bl_):w.heap.size≤gb236));have n3_:=Aside0.mk ((by rw [hg];exact (below_size bl_):w.heap.size≤gb236));clear HB;have HB:=n0_;have BK236:=n1_;have GW236:=n2_;have GE236:=n3_;clear n0_ n1_ n2_ n3_;clear hb hbox hg;obtain ⟨hcz4_0,hcz4_1,hcz4_2,hcz4_3,hcz4_4,hfz4_0,hfz4_1,hfz4_2,hfz4_3,hfz4_4⟩:=blk5_ BK236.out)|(refine callA_ (f:=30) (some 10) Tryd.func30 #[.slice A0_0 l0_0.length c0_0,.int .i64 a0_2] ?_;(with_reducible refine (pool_Class.calls _ _ l0_0 a0_2 t237 t238 _ ?side1 ?side2 A2.out).mono ?_);(case side1 => exact kc_ (Kd.C_below HR0_0.out HB.out));(case side2 => exact HC0_0.out);rintro e w' ⟨rfl,⟨nd,rfl⟩⟩;refine ⟨_,rfl,?_⟩))
 go_ret
 exact ⟨ew_,bl_⟩
def link_file_own.f (l0_0:List (S108)) (a0_1:Int) (a0_2:Int) (l0_3:List (S102)) (l0_4:List (S97)):Option (ByteArray × ByteArray):=(class_Name.f l0_0 a0_1 a0_2 l0_3 l0_4).bind fun t240 => ((class_Super.f l0_0 a0_1 a0_2 l0_3 l0_4).bind fun t241 => (some (t240,t241)))
def link_file_own.T1:Bool × List (List Nat × List Nat):=(true,[([],[]),([0],[0]),([1],[1]),([],[]),([3],[3]),([4,2],[4]),([2,5,0,1,2],[2]),([5,6,0,1,2,3,4,5,6],[5])])
def link_file_own.B1:List Nat:=[0,1,3,0,8,31,63,127]
theorem link_file_own.tab1:rtab .any (opsOf Tryd.f101 1)=link_file_own.T1:=by kernel_rfl
theorem link_file_own.bits1:waitsOk link_file_own.T1.2 link_file_own.B1=true:=by kernel_rfl
set_option maxHeartbeats 80000000 in
set_option maxRecDepth 100000 in
theorem link_file_own.calls (A0_0:Option Addr) (c0_0:Nat) (l0_0:List (S108)) (a0_1:Int) (a0_2:Int) (A0_3:Option Addr) (c0_3:Nat) (l0_3:List (S102)) (A0_4:Option Addr) (c0_4:Nat) (l0_4:List (S97)) (r1:ByteArray) (r2:ByteArray) (w:World) (hr0_0:Kd.C k108 w A0_0 l0_0.length l0_0) (hc0_0:l0_0.length≤c0_0) (hr0_3:Kd.C k102 w A0_3 l0_3.length l0_3) (hc0_3:l0_3.length≤c0_3) (hr0_4:Kd.C k97 w A0_4 l0_4.length l0_4) (hc0_4:l0_4.length≤c0_4) (h:link_file_own.f l0_0 a0_1 a0_2 l0_3 l0_4=some (r1,r2)) :
  Calls Tryd.prog 101 #[.agg #[.slice A0_0 l0_0.length c0_0,.int .i64 a0_1,.int .i64 a0_2,.slice A0_3 l0_3.length c0_3,.slice A0_4 l0_4.length c0_4]] w fun e w' => e=.returned (.tuple #[.string r1,.string r2])∧Below w.heap.size w w':=by
 have hu63:=Tryd.underlying63
 have hu43:=Tryd.underlying43
 have HR0_0:=Aside0.mk hr0_0
 have HC0_0:=Aside0.mk hc0_0
 clear hr0_0 hc0_0
 have HR0_3:=Aside0.mk hr0_3
 have HC0_3:=Aside0.mk hc0_3
 clear hr0_3 hc0_3
 have HR0_4:=Aside0.mk hr0_4
 have HC0_4:=Aside0.mk hc0_4
 clear hr0_4 hc0_4
 have HB:=Aside0.mk (Below.refl w.heap.size w)
 have H:((class_Name.f l0_0 a0_1 a0_2 l0_3 l0_4).bind fun t240 => ((class_Super.f l0_0 a0_1 a0_2 l0_3 l0_4).bind fun t241 => (some (t240,t241))))=some (r1,r2):=h
 clear h
 replace H:=Option.bind_eq_some_iff.mp H
 obtain ⟨t240,A20,H⟩:=H
 try dsimp only at H
 have A2:=Aside0.mk A20
 clear A20
 replace H:=Option.bind_eq_some_iff.mp H
 obtain ⟨t241,A30,H⟩:=H
 try dsimp only at H
 have A3:=Aside0.mk A30
 clear A30
 simp only [Option.some.injEq,Prod.mk.injEq] at H
 obtain ⟨rfl,rfl⟩:=H
 go_enter Tryd.func101,Tryd.ntmps101
 try go_wp2_with (first|((with_reducible refine gate_dst (N:=1) rfl ?_);refine box_event ?hg (N:=1) ?hd (cs:=#[.slice A0_0 l0_0.length c0_0,.int .i64 a0_1,.int .i64 a0_2,.slice A0_3 l0_3.length c0_3,.slice A0_4 l0_4.length c0_4]) (t:=63) ?hr ?_;(case hd => rfl);(case hg => rfl);(case hr => first|(go_simp;done)|(go_simp;rfl));intro gb239 hg w4 hbox hb;have n0_:=Aside0.mk (below_step bl_ hb);have n1_:=Aside0.mk (hbox);have n2_:=Aside0.mk ((by rw [hg];exact (below_size bl_):w.heap.size≤gb239));have n3_:=Aside0.mk ((by rw [hg];exact (below_size bl_):w.heap.size≤gb239));clear HB;have HB:=n0_;have BK239:=n1_;have GW239:=n2_;have GE239:=n3_;clear n0_ n1_ n2_ n3_;clear hb hbox hg))
 have n0_:=Aside0.mk (blk_drew BK239.out)
 have n1_:=Aside0.mk (below_drew1 HB.out)
 clear BK239
 clear HB
 have BK239:=n0_
 have HB:=n1_
 clear n0_ n1_
 refine start_ (n:=8) (S:=fun w' => w'.cell? ⟨gb239,0,none⟩=some (.slice A0_0 l0_0.length c0_0)∧w'.cell? ⟨gb239,1,none⟩=some (.int .i64 a0_1)∧w'.cell? ⟨gb239,2,none⟩=some (.int .i64 a0_2)∧w'.cell? ⟨gb239,3,none⟩=some (.slice A0_3 l0_3.length c0_3)∧w'.cell? ⟨gb239,4,none⟩=some (.slice A0_4 l0_4.length c0_4)) (ds:=[]) #[false,false,false,false,false,false,false,false] (by kernel_rfl) rfl rfl ⟨(blk_cell BK239.out 0).trans rfl,(blk_cell BK239.out 1).trans rfl,(blk_cell BK239.out 2).trans rfl,(blk_cell BK239.out 3).trans rfl,(blk_cell BK239.out 4).trans rfl⟩ (fun hHeld => ?_);refine with_tabW link_file_own.tab1 link_file_own.bits1 (fun HT_ HW_ => ?_)
 generalize w4.drew=w5 at BK239 HB hHeld ⊢
 refine pure_ (i:=0) (N:=some 4) (v:=?_) (a':=?_) #[true,false,false,false,false,false,false,false] rfl rfl (any_of HT_.out (by kernel_rfl)) (fun _ _ _ h => h) (Or.inl ⟨by rfl,?_⟩) ?_ ?_
 rotate_left
 ·intro w'
  go_simp
  with_reducible rfl
 rotate_left
 ·simp only [Act.put,List.setIfInBounds_toArray,List.set_cons_zero,List.set_cons_succ,i64_w,i32_w]
  rfl
 refine pure_ (i:=3) (N:=some 7) (v:=?_) (a':=?_) #[true,false,false,true,false,false,false,false] rfl rfl (any_of HT_.out (by kernel_rfl)) (fun _ _ _ h => h) (Or.inl ⟨by rfl,?_⟩) ?_ ?_
 rotate_left
 ·intro w'
  go_simp
  with_reducible rfl
 rotate_left
 ·simp only [Act.put,List.setIfInBounds_toArray,List.set_cons_zero,List.set_cons_succ,i64_w,i32_w]
  rfl
 refine take_ (i:=1) (N:=some 5) (v:=?_) (a':=?_) #[true,true,false,true,false,false,false,false] rfl rfl (take_ofW HT_.out HW_.out (by kernel_rfl)) (fun _ _ _ h => h) (Or.inl ⟨by rfl,?_⟩) hHeld ?_ ?_
 rotate_left
 ·rintro w' ⟨s0,s1,s2,s3,s4⟩
  go_simp
  with_reducible rfl
 rotate_left
 ·simp only [Act.put,List.setIfInBounds_toArray,List.set_cons_zero,List.set_cons_succ,i64_w,i32_w]
  rfl
 refine take_ (i:=4) (N:=some 8) (v:=?_) (a':=?_) #[true,true,false,true,true,false,false,false] rfl rfl (take_ofW HT_.out HW_.out (by kernel_rfl)) (fun _ _ _ h => h) (Or.inl ⟨by rfl,?_⟩) hHeld ?_ ?_
 rotate_left
 ·rintro w' ⟨s0,s1,s2,s3,s4⟩
  go_simp
  with_reducible rfl
 rotate_left
 ·simp only [Act.put,List.setIfInBounds_toArray,List.set_cons_zero,List.set_cons_succ,i64_w,i32_w]
  rfl
 refine one_ (i:=2) (N:=some 6) #[true,true,true,true,true,false,false,false] rfl rfl (one_of HT_.out (by kernel_rfl)) (by decide) (fun K hK => ?_)
 refine goes_ Tryd.func16 (by kernel_rfl) rfl #[.agg #[.slice A0_0 l0_0.length c0_0,.int .i64 a0_1,.int .i64 a0_2,.slice A0_3 l0_3.length c0_3,.slice A0_4 l0_4.length c0_4]] (by rfl) rfl rfl (by (try simp only [List.map_toArray,List.map_cons,List.map_nil]);first|done|rfl|(simp only [List.length_drop,List.length_take];rfl)) ?_
 with_reducible refine (class_Name.calls _ _ l0_0 a0_1 a0_2 _ _ l0_3 _ _ l0_4 t240 _ ?side1 ?side2 ?side3 ?side4 ?side5 ?side6 A2.out).mono ?_
 (case side1 => exact kc_ (Kd.C_below HR0_0.out HB.out))
 (case side2 => exact HC0_0.out)
 (case side3 => exact kc_ (Kd.C_below HR0_3.out HB.out))
 (case side4 => exact HC0_3.out)
 (case side5 => exact kc_ (Kd.C_below HR0_4.out HB.out))
 (case side6 => exact HC0_4.out)
 rintro e w6 ⟨rfl,hb⟩
 refine ⟨_,rfl,?_⟩
 have n0_:=Aside0.mk (blk_below (g:=gb239) (o:=.cells #[.slice A0_0 l0_0.length c0_0,.int .i64 a0_1,.int .i64 a0_2,.slice A0_3 l0_3.length c0_3,.slice A0_4 l0_4.length c0_4] 63 (0,0)) bk_ hb)
 have n1_:=Aside0.mk (below_step bl_ hb)
 clear BK239
 clear HB
 have BK239:=n0_
 have HB:=n1_
 clear n0_ n1_
 (try clear hb)
 (try clear hb2)
 (try clear hk)
 (try clear hi)
 refine hK.out _ _ ⟨(blk_cell BK239.out 0).trans rfl,(blk_cell BK239.out 1).trans rfl,(blk_cell BK239.out 2).trans rfl,(blk_cell BK239.out 3).trans rfl,(blk_cell BK239.out 4).trans rfl⟩ (fun hHeld => ?_)
 clear hK K
 refine norm_ (a':=?_) ?_ ?_
 rotate_left
 ·show Act.put _ (some 6) _=_
  simp only [Act.put,List.setIfInBounds_toArray,List.set_cons_zero,List.set_cons_succ,i64_w,i32_w]
  rfl
 refine one_ (i:=5) (N:=some 9) #[true,true,true,true,true,true,false,false] rfl rfl (one_of HT_.out (by kernel_rfl)) (by decide) (fun K hK => ?_)
 refine goes_ Tryd.func103 (by kernel_rfl) rfl #[.agg #[.slice A0_0 l0_0.length c0_0,.int .i64 a0_1,.int .i64 a0_2,.slice A0_3 l0_3.length c0_3,.slice A0_4 l0_4.length c0_4]] (by rfl) rfl rfl (by (try simp only [List.map_toArray,List.map_cons,List.map_nil]);first|done|rfl|(simp only [List.length_drop,List.length_take];rfl)) ?_
 with_reducible refine (class_Super.calls _ _ l0_0 a0_1 a0_2 _ _ l0_3 _ _ l0_4 t241 _ ?side1 ?side2 ?side3 ?side4 ?side5 ?side6 A3.out).mono ?_
 (case side1 => exact kc_ (Kd.C_below HR0_0.out HB.out))
 (case side2 => exact HC0_0.out)
 (case side3 => exact kc_ (Kd.C_below HR0_3.out HB.out))
 (case side4 => exact HC0_3.out)
 (case side5 => exact kc_ (Kd.C_below HR0_4.out HB.out))
 (case side6 => exact HC0_4.out)
 rintro e w7 ⟨rfl,hb⟩
 refine ⟨_,rfl,?_⟩
 have n0_:=Aside0.mk (blk_below (g:=gb239) (o:=.cells #[.slice A0_0 l0_0.length c0_0,.int .i64 a0_1,.int .i64 a0_2,.slice A0_3 l0_3.length c0_3,.slice A0_4 l0_4.length c0_4] 63 (0,0)) bk_ hb)
 have n1_:=Aside0.mk (below_step bl_ hb)
 clear BK239
 clear HB
 have BK239:=n0_
 have HB:=n1_
 clear n0_ n1_
 (try clear hb)
 (try clear hb2)
 (try clear hk)
 (try clear hi)
 refine hK.out _ _ ⟨(blk_cell BK239.out 0).trans rfl,(blk_cell BK239.out 1).trans rfl,(blk_cell BK239.out 2).trans rfl,(blk_cell BK239.out 3).trans rfl,(blk_cell BK239.out 4).trans rfl⟩ (fun hHeld => ?_)
 clear hK K
 refine norm_ (a':=?_) ?_ ?_
 rotate_left
 ·show Act.put _ (some 9) _=_
  simp only [Act.put,List.setIfInBounds_toArray,List.set_cons_zero,List.set_cons_succ,i64_w,i32_w]
  rfl
 refine pure_ (i:=6) (N:=some 2) (v:=?_) (a':=?_) #[true,true,true,true,true,true,true,false] rfl rfl (any_of HT_.out (by kernel_rfl)) (fun _ _ _ h => h) (Or.inl ⟨by rfl,?_⟩) ?_ ?_
 rotate_left
 ·intro w'
  go_simp
  with_reducible rfl
 rotate_left
 ·simp only [Act.put,List.setIfInBounds_toArray,List.set_cons_zero,List.set_cons_succ,i64_w,i32_w]
  rfl
 refine pure_ (i:=7) (N:=some 3) (v:=?_) (a':=?_) #[true,true,true,true,true,true,true,true] rfl rfl (any_of HT_.out (by kernel_rfl)) (fun _ _ _ h => h) (Or.inl ⟨by rfl,?_⟩) ?_ ?_
 rotate_left
 ·intro w'
  go_simp
  with_reducible rfl
 rotate_left
 ·simp only [Act.put,List.setIfInBounds_toArray,List.set_cons_zero,List.set_cons_succ,i64_w,i32_w]
  rfl
 refine done_ (done_of HT_.out (by kernel_rfl)) ?_
 try go_wp2
 go_ret2
 exact ⟨ew_,bl_⟩
def link_file_member.f (l0_0:List (S108)) (a0_1:Int) (a0_2:Int) (l0_3:List (S102)) (l0_4:List (S97)) (a1:Int) (a2:Int) (a3:Int):Option (ByteArray × ByteArray × Bool):=(pool_Text.f l0_0 a1).bind fun bt244 => ((pool_Text.f l0_0 a2).bind fun bt246 => (some (bt244.1,bt246.1,(a3==8))))
set_option maxHeartbeats 80000000 in
set_option maxRecDepth 100000 in
theorem link_file_member.calls (A0_0:Option Addr) (c0_0:Nat) (l0_0:List (S108)) (a0_1:Int) (a0_2:Int) (A0_3:Option Addr) (c0_3:Nat) (l0_3:List (S102)) (A0_4:Option Addr) (c0_4:Nat) (l0_4:List (S97)) (a1:Int) (a2:Int) (a3:Int) (r1:ByteArray) (r2:ByteArray) (r3:Bool) (w:World) (hr0_0:Kd.C k108 w A0_0 l0_0.length l0_0) (hc0_0:l0_0.length≤c0_0) (hr0_3:Kd.C k102 w A0_3 l0_3.length l0_3) (hc0_3:l0_3.length≤c0_3) (hr0_4:Kd.C k97 w A0_4 l0_4.length l0_4) (hc0_4:l0_4.length≤c0_4) (h:link_file_member.f l0_0 a0_1 a0_2 l0_3 l0_4 a1 a2 a3=some (r1,r2,r3)) :
  Calls Tryd.prog 102 #[.agg #[.slice A0_0 l0_0.length c0_0,.int .i64 a0_1,.int .i64 a0_2,.slice A0_3 l0_3.length c0_3,.slice A0_4 l0_4.length c0_4],.int .i64 a1,.int .i64 a2,.int .i64 a3] w fun e w' => e=.returned (.agg #[.string r1,.string r2,.bool r3])∧Below w.heap.size w w':=by
 have hu63:=Tryd.underlying63
 have hu86:=Tryd.underlying86
 have HR0_0:=Aside0.mk hr0_0
 have HC0_0:=Aside0.mk hc0_0
 clear hr0_0 hc0_0
 have HR0_3:=Aside0.mk hr0_3
 have HC0_3:=Aside0.mk hc0_3
 clear hr0_3 hc0_3
 have HR0_4:=Aside0.mk hr0_4
 have HC0_4:=Aside0.mk hc0_4
 clear hr0_4 hc0_4
 have HB:=Aside0.mk (Below.refl w.heap.size w)
 have H:((pool_Text.f l0_0 a1).bind fun bt244 => ((pool_Text.f l0_0 a2).bind fun bt246 => (some (bt244.1,bt246.1,(a3==8)))))=some (r1,r2,r3):=h
 clear h
 replace H:=Option.bind_eq_some_iff.mp H
 obtain ⟨⟨t244,t245⟩,A50,H⟩:=H
 try dsimp only at H
 have A5:=Aside0.mk A50
 clear A50
 replace H:=Option.bind_eq_some_iff.mp H
 obtain ⟨⟨t246,t247⟩,A60,H⟩:=H
 try dsimp only at H
 have A6:=Aside0.mk A60
 clear A60
 simp only [Option.some.injEq,Prod.mk.injEq] at H
 obtain ⟨rfl,rfl,rfl⟩:=H
 go_enter Tryd.func102,Tryd.ntmps102
 go_wp2_with (first|((with_reducible refine gate_dst (N:=4) rfl ?_);refine box_event ?hg (N:=4) ?hd (cs:=#[.slice A0_0 l0_0.length c0_0,.int .i64 a0_1,.int .i64 a0_2,.slice A0_3 l0_3.length c0_3,.slice A0_4 l0_4.length c0_4]) (t:=63) ?hr ?_;(case hd => rfl);(case hg => rfl);(case hr => first|(go_simp;done)|(go_simp;rfl));intro gb242 hg w7 hbox hb;have n0_:=Aside0.mk (below_step bl_ hb);have n1_:=Aside0.mk (hbox);have n2_:=Aside0.mk ((by rw [hg];exact (below_size bl_):w.heap.size≤gb242));have n3_:=Aside0.mk ((by rw [hg];exact (below_size bl_):w.heap.size≤gb242));clear HB;have HB:=n0_;have BK242:=n1_;have GW242:=n2_;have GE242:=n3_;clear n0_ n1_ n2_ n3_;clear hb hbox hg)|((with_reducible refine gate_dst (N:=8) rfl ?_);refine box_event ?hg (N:=8) ?hd (cs:=#[.string (⟨#[]⟩:ByteArray),.string (⟨#[]⟩:ByteArray),.bool false]) (t:=86) ?hr ?_;(case hd => rfl);(case hg => rfl);(case hr => first|(go_simp;done)|(go_simp;rfl));intro gb243 hg w8 hbox hb;have n0_:=Aside0.mk (blk_below (g:=gb242) (o:=.cells #[.slice A0_0 l0_0.length c0_0,.int .i64 a0_1,.int .i64 a0_2,.slice A0_3 l0_3.length c0_3,.slice A0_4 l0_4.length c0_4] 63 (0,0)) bk_ hb);have n1_:=Aside0.mk (below_step bl_ hb);have n2_:=Aside0.mk (hbox);have n3_:=Aside0.mk ((by rw [hg];exact (below_size bl_):w.heap.size≤gb243));have n4_:=Aside0.mk ((by rw [hg];exact (below_size bl_):w.heap.size≤gb243));have n5_:=Aside0.mk ((by rw [hg];exact Nat.ne_of_lt (blk_lt (g:=gb242) (o:=.cells #[.slice A0_0 l0_0.length c0_0,.int .i64 a0_1,.int .i64 a0_2,.slice A0_3 l0_3.length c0_3,.slice A0_4 l0_4.length c0_4] 63 (0,0)) bk_):gb242 ≠ gb243));have n6_:=Aside0.mk ((by rw [hg];exact Nat.ne_of_gt (blk_lt (g:=gb242) (o:=.cells #[.slice A0_0 l0_0.length c0_0,.int .i64 a0_1,.int .i64 a0_2,.slice A0_3 l0_3.length c0_3,.slice A0_4 l0_4.length c0_4] 63 (0,0)) bk_):gb243 ≠ gb242));clear BK242;clear HB;have BK242:=n0_;have HB:=n1_;have BK243:=n2_;have GW243:=n3_;have GE243:=n4_;have NB242_243:=n5_;have NB243_242:=n6_;clear n0_ n1_ n2_ n3_ n4_ n5_ n6_;clear hb hbox hg;have hnb9:=NB242_243.out;have hnc9:=NB243_242.out;obtain ⟨hcz10_0,hcz10_1,hcz10_2,hcz10_3,hcz10_4,hfz10_0,hfz10_1,hfz10_2,hfz10_3,hfz10_4⟩:=blk5_ BK242.out)|(refine callA_ (f:=44) (some 18) Tryd.func44 #[.slice A0_0 l0_0.length c0_0,.int .i64 a1] ?_;(with_reducible refine (pool_Text.calls _ _ l0_0 a1 t244 t245 _ ?side1 ?side2 A5.out).mono ?_);(case side1 => exact kc_ (Kd.C_below HR0_0.out HB.out));(case side2 => exact HC0_0.out);rintro e w' ⟨rfl,⟨nd,rfl⟩⟩;refine ⟨_,rfl,?_⟩;(try (rw [drewN_self w8];generalize hq_:World.drewN w8 _=w8;have n0_:Aside0 (w8.heap[gb242]?=some (.cells #[.slice A0_0 l0_0.length c0_0,.int .i64 a0_1,.int .i64 a0_2,.slice A0_3 l0_3.length c0_3,.slice A0_4 l0_4.length c0_4] 63 (0,0))):=⟨by rw [← hq_];exact bk_⟩;have n1_:Aside0 (w8.heap[gb243]?=some (.cells #[.string (⟨#[]⟩:ByteArray),.string (⟨#[]⟩:ByteArray),.bool false] 86 (0,0))):=⟨by rw [← hq_];exact bk_⟩;have n2_:Aside0 (Below w.heap.size w w8):=⟨by rw [← hq_];exact bl_⟩;clear BK242 BK243 HB hq_;have BK242:=n0_;have BK243:=n1_;have HB:=n2_;clear n0_ n1_ n2_));obtain ⟨hcy0,hcy1,hcy2,hcy3,hcy4,hfy0,hfy1,hfy2,hfy3,hfy4⟩:=blk5_ BK242.out)|(refine callA_ (f:=44) (some 26) Tryd.func44 #[.slice A0_0 l0_0.length c0_0,.int .i64 a2] ?_;(with_reducible refine (pool_Text.calls _ _ l0_0 a2 t246 t247 _ ?side1 ?side2 A6.out).mono ?_);(case side1 => exact kc_ (Kd.C_below HR0_0.out HB.out));(case side2 => exact HC0_0.out);rintro e w' ⟨rfl,⟨nd,rfl⟩⟩;refine ⟨_,rfl,?_⟩;(try (rw [drewN_self w8];generalize hq_:World.drewN w8 _=w8;have n0_:Aside0 (w8.heap[gb242]?=some (.cells #[.slice A0_0 l0_0.length c0_0,.int .i64 a0_1,.int .i64 a0_2,.slice A0_3 l0_3.length c0_3,.slice A0_4 l0_4.length c0_4] 63 (0,0))):=⟨by rw [← hq_];exact bk_⟩;have n1_:Aside0 (w8.heap[gb243]?=some (.cells #[.string (⟨#[]⟩:ByteArray),.string (⟨#[]⟩:ByteArray),.bool false] 86 (0,0))):=⟨by rw [← hq_];exact bk_⟩;have n2_:Aside0 (Below w.heap.size w w8):=⟨by rw [← hq_];exact bl_⟩;clear BK242 BK243 HB hq_;have BK242:=n0_;have BK243:=n1_;have HB:=n2_;clear n0_ n1_ n2_));obtain ⟨hcz11_0,hcz11_1,hcz11_2,hfz11_0,hfz11_1,hfz11_2⟩:=blk3_ BK243.out))
 refine bodyPost_ret (results_cell_row rfl _ _ gb243 86 #[.string t244,.string t246,.bool (a3==8)] (0,0) _ rfl (st3_ BK243.out) Tryd.underlying86 rfl (by kernel_rfl)) rfl ?_
 exact ⟨ew_,bl_⟩
def link_file_fields.l0:Nat→List (S86)→List (S102)→Int→Int→List (S108)→Int→Int→List (S102)→List (S97)→Option ((List (S86)))
 | 0,_,_,_,_,_,_,_,_,_ => none
 | k + 1,x3,x8,x9,x10,x249000,x249001,x249002,x249003,x249004 => if x10 < x9 then (if 0≤x10 then (if x10 < (x8.length:Int) then ((link_file_member.f x249000 x249001 x249002 x249003 x249004 ((rd_T102 x8 x10).f1) ((rd_T102 x8 x10).f2) ((rd_T102 x8 x10).f0)).bind fun bt251 => (if x3.length < 3518437208883 then (link_file_fields.l0 k (x3++[(⟨bt251.1,bt251.2.1,bt251.2.2⟩:S86)]) x8 x9 (wrap64 (x10 + 1)) x249000 x249001 x249002 x249003 x249004) else (none))) else (none)) else (none)) else (some x3)
def link_file_fields.f (k:Nat) (l0_0:List (S108)) (a0_1:Int) (a0_2:Int) (l0_3:List (S102)) (l0_4:List (S97)):Option ((List (S86))):=link_file_fields.l0 k ([]:List (S86)) l0_3 (l0_3.length:Int) 0 l0_0 a0_1 a0_2 l0_3 l0_4
set_option maxHeartbeats 80000000 in
set_option maxRecDepth 100000 in
theorem link_file_fields.calls (k:Nat) (A0_0:Option Addr) (c0_0:Nat) (l0_0:List (S108)) (a0_1:Int) (a0_2:Int) (A0_3:Option Addr) (c0_3:Nat) (l0_3:List (S102)) (A0_4:Option Addr) (c0_4:Nat) (l0_4:List (S97)) (r:List (S86)) (w:World) (hr0_0:Kd.C k108 w A0_0 l0_0.length l0_0) (hc0_0:l0_0.length≤c0_0) (hr0_3:Kd.C k102 w A0_3 l0_3.length l0_3) (hc0_3:l0_3.length≤c0_3) (hr0_4:Kd.C k97 w A0_4 l0_4.length l0_4) (hc0_4:l0_4.length≤c0_4) (h:link_file_fields.f k l0_0 a0_1 a0_2 l0_3 l0_4=some r) :
  Calls Tryd.prog 98 #[.agg #[.slice A0_0 l0_0.length c0_0,.int .i64 a0_1,.int .i64 a0_2,.slice A0_3 l0_3.length c0_3,.slice A0_4 l0_4.length c0_4]] w fun e w' => ∃ v0_:Value,e=.returned (v0_)∧Kd.R k86 86 w' w.heap.size (fun _ => True) v0_ r∧Below w.heap.size w w':=by
 have hu63:=Tryd.underlying63
 have hu102:=Tryd.underlying102
 have HR0_0:=Aside0.mk hr0_0
 have HC0_0:=Aside0.mk hc0_0
 clear hr0_0 hc0_0
 have HR0_3:=Aside0.mk hr0_3
 have HC0_3:=Aside0.mk hc0_3
 clear hr0_3 hc0_3
 have HR0_4:=Aside0.mk hr0_4
 have HC0_4:=Aside0.mk hc0_4
 clear hr0_4 hc0_4
 have HB:=Aside0.mk (Below.refl w.heap.size w)
 have H:(link_file_fields.l0 k ([]:List (S86)) l0_3 (l0_3.length:Int) 0 l0_0 a0_1 a0_2 l0_3 l0_4)=some r:=h
 clear h
 have H':=Aside0.mk H
 clear H
 go_enter Tryd.func98,Tryd.ntmps98
 go_wp2_with (first|((with_reducible refine gate_dst (N:=1) rfl ?_);refine box_event ?hg (N:=1) ?hd (cs:=#[.slice A0_0 l0_0.length c0_0,.int .i64 a0_1,.int .i64 a0_2,.slice A0_3 l0_3.length c0_3,.slice A0_4 l0_4.length c0_4]) (t:=63) ?hr ?_;(case hd => rfl);(case hg => rfl);(case hr => first|(go_simp;done)|(go_simp;rfl));intro gb248 hg w2 hbox hb;have n0_:=Aside0.mk (below_step bl_ hb);have n1_:=Aside0.mk (hbox);have n2_:=Aside0.mk ((by rw [hg];exact (below_size bl_):w.heap.size≤gb248));have n3_:=Aside0.mk ((by rw [hg];exact (below_size bl_):w.heap.size≤gb248));clear HB;have HB:=n0_;have BK248:=n1_;have GW248:=n2_;have GE248:=n3_;clear n0_ n1_ n2_ n3_;clear hb hbox hg;obtain ⟨hcz3_0,hcz3_1,hcz3_2,hcz3_3,hcz3_4,hfz3_0,hfz3_1,hfz3_2,hfz3_3,hfz3_4⟩:=blk5_ BK248.out))
 go_loopg [3,10] k (fun kq v3 v10 w' => ∃ (x3_1:List (S86)) (x10_1:Int),v10=.int .i64 x10_1∧Aside0 (link_file_fields.l0 kq x3_1 l0_3 (l0_3.length:Int) x10_1 l0_0 a0_1 a0_2 l0_3 l0_4=some r)∧Aside0 (kq≤k)∧Aside0 (Kd.R k86 86 w' w.heap.size (fun _ => True) v3 x3_1)∧Aside0 (w'.heap[gb248]?=some (.cells #[(.slice A0_0 l0_0.length c0_0),.int .i64 a0_1,.int .i64 a0_2,(.slice A0_3 l0_3.length c0_3),(.slice A0_4 l0_4.length c0_4)] 63 (0,0)))∧Aside0 (Below w.heap.size w w'))
 case atStart => exact ⟨(([]:List (S86))),(0),r3_,H',⟨Nat.le_refl _⟩,⟨by first|exact Kd.R_nil _ _ _ _ _|exact Kd.N_nil _ _ _ _ _|exact Kd.V_nil _ _ _ _ _|exact Kd.Q_nil _ _ _ _ _|exact Kd.S_nil _ _ _ _ _⟩,⟨bk_⟩,⟨bl_⟩⟩
 case round =>
  clear H'
  try clear hcz3_0;try clear hcz3_1;try clear hcz3_2;try clear hcz3_3;try clear hcz3_4;try clear hfz3_0;try clear hfz3_1;try clear hfz3_2;try clear hfz3_3;try clear hfz3_4
  obtain ⟨x3_1,x10_1,rfl,HA,HK1,HO_3,BK248,HB⟩:=hrel
  cases gk with
  | zero => exact absurd HA.out (by simp [link_file_fields.l0])
  | succ k1 =>
   have H:=HA.out
   clear HA
   simp only [link_file_fields.l0] at H
   by_cases c4:x10_1 < (l0_3.length:Int)
   ·rw [if_pos c4] at H
    have c4b0:decide (x10_1 < (l0_3.length:Int))=true:=decide_eq_true c4
    clear c4
    by_cases c5:0≤x10_1
    ·rw [if_pos c5] at H
     have c5b0:decide (0≤x10_1)=true:=decide_eq_true c5
     clear c5
     by_cases c6:x10_1 < (l0_3.length:Int)
     ·rw [if_pos c6] at H
      have c6b0:decide (x10_1 < (l0_3.length:Int))=true:=decide_eq_true c6
      clear c6
      replace H:=Option.bind_eq_some_iff.mp H
      obtain ⟨⟨t251,t252,t253⟩,A70,H⟩:=H
      try dsimp only at H
      have A7:=Aside0.mk A70
      clear A70
      by_cases c8:x3_1.length < 3518437208883
      ·rw [if_pos c8] at H
       have LMc8:=Aside0.mk c8
       clear c8
       obtain ⟨y254,hy254⟩:∃ y_:List (S86),y_=(x3_1++[(⟨t251,t252,t253⟩:S86)]):=⟨_,rfl⟩
       replace H:(link_file_fields.l0 k1 y254 l0_3 (l0_3.length:Int) (wrap64 (x10_1 + 1)) l0_0 a0_1 a0_2 l0_3 l0_4)=some r:=by first|(rw [hy254];with_reducible exact H)|(have H2_:=(Option.bind_some _ _).symm.trans H;rw [hy254];with_reducible exact H2_)|(have H2_:=(Option.bind_some _ _).symm.trans H;with_reducible exact H2_)|with_reducible exact H|(rw [hy254];exact H)|exact H
       have Ny254:=Aside0.mk hy254
       clear hy254
       have H':=Aside0.mk H
       clear H
       have p249:0≤(x10_1:Int):=od_
       have q249:x10_1 < (l0_3.length:Int):=od_
       obtain ⟨ad249,e249,hx249_0,hx249_1,hx249_2⟩:=at_T102 HR0_3.out x10_1 p249 q249
       cases e249
       replace hx249_0:=hb_ HB hx249_0
       replace hx249_1:=hb_ HB hx249_1
       replace hx249_2:=hb_ HB hx249_2
       replace p249:=eq_true p249
       replace q249:=eq_true q249
       go_wp2_with (first|((with_reducible refine gate_dst (N:=5) rfl ?_);refine box_event ?hg (N:=5) ?hd (cs:=#[.int .i64 0,.int .i64 0,.int .i64 0]) (t:=102) ?hr ?_;(case hd => rfl);(case hg => rfl);(case hr => first|(go_simp;done)|(go_simp;rfl));intro gb250 hg w9 hbox hb;have n0_:=Aside0.mk (Kd.R_below (kr_ HO_3.out) hb);have n1_:=Aside0.mk (blk_below (g:=gb248) (o:=.cells #[.slice A0_0 l0_0.length c0_0,.int .i64 a0_1,.int .i64 a0_2,.slice (some ad249) l0_3.length c0_3,.slice A0_4 l0_4.length c0_4] 63 (0,0)) bk_ hb);have n2_:=Aside0.mk (below_step bl_ hb);have n3_:=Aside0.mk (hbox);have n4_:=Aside0.mk ((by rw [hg];exact (below_size bl_):w.heap.size≤gb250));have n5_:=Aside0.mk ((by rw [hg];exact (below_size bl_):w.heap.size≤gb250));have n6_:=Aside0.mk ((by rw [hg];exact Nat.ne_of_lt (blk_lt (g:=gb248) (o:=.cells #[.slice A0_0 l0_0.length c0_0,.int .i64 a0_1,.int .i64 a0_2,.slice (some ad249) l0_3.length c0_3,.slice A0_4 l0_4.length c0_4] 63 (0,0)) bk_):gb248 ≠ gb250));have n7_:=Aside0.mk ((by rw [hg];exact Nat.ne_of_gt (blk_lt (g:=gb248) (o:=.cells #[.slice A0_0 l0_0.length c0_0,.int .i64 a0_1,.int .i64 a0_2,.slice (some ad249) l0_3.length c0_3,.slice A0_4 l0_4.length c0_4] 63 (0,0)) bk_):gb250 ≠ gb248));clear HO_3;clear BK248;clear HB;have HO_3:=n0_;have BK248:=n1_;have HB:=n2_;have BK250:=n3_;have GW250:=n4_;have GE250:=n5_;have NB248_250:=n6_;have NB250_248:=n7_;clear n0_ n1_ n2_ n3_ n4_ n5_ n6_ n7_;clear hb hbox hg;have hnb10:=NB250_248.out;have hnc10:=NB248_250.out;obtain ⟨hcz11_0,hcz11_1,hcz11_2,hfz11_0,hfz11_1,hfz11_2⟩:=blk3_ BK250.out;obtain ⟨hcz12_0,hcz12_1,hcz12_2,hcz12_3,hcz12_4,hfz12_0,hfz12_1,hfz12_2,hfz12_3,hfz12_4⟩:=blk5_ BK248.out)|(refine callA_ (f:=102) (some 22) Tryd.func102 #[.agg #[.slice A0_0 l0_0.length c0_0,.int .i64 a0_1,.int .i64 a0_2,.slice (some ad249) l0_3.length c0_3,.slice A0_4 l0_4.length c0_4],.int .i64 ((rd_T102 l0_3 x10_1).f1),.int .i64 ((rd_T102 l0_3 x10_1).f2),.int .i64 ((rd_T102 l0_3 x10_1).f0)] ?_;(with_reducible refine (link_file_member.calls _ _ l0_0 a0_1 a0_2 _ _ l0_3 _ _ l0_4 ((rd_T102 l0_3 x10_1).f1) ((rd_T102 l0_3 x10_1).f2) ((rd_T102 l0_3 x10_1).f0) t251 t252 t253 _ ?side1 ?side2 ?side3 ?side4 ?side5 ?side6 A7.out).mono ?_);(case side1 => exact Kd.C_below HR0_0.out bl_);(case side2 => exact HC0_0.out);(case side3 => exact Kd.C_below HR0_3.out bl_);(case side4 => exact HC0_3.out);(case side5 => exact Kd.C_below HR0_4.out bl_);(case side6 => exact HC0_4.out);rintro e w13 ⟨rfl,hb⟩;refine ⟨_,rfl,?_⟩;have n0_:=Aside0.mk (Kd.R_below (by (with_reducible repeat (first|apply Kd.R_alloc|apply Kd.R_drewN|apply Kd.R_drew));exact (Kd.R_mono (Kd.R_far (p:=⟨gb250,2,none⟩) (Kd.R_far (p:=⟨gb250,1,none⟩) (Kd.R_far (p:=⟨gb250,0,none⟩) (Kd.R_types HO_3.out BK250.out (by decide)) (fun _ hk => hk.2) (.int .i64 ((rd_T102 l0_3 x10_1).f0))) (fun _ hk => hk.2) (.int .i64 ((rd_T102 l0_3 x10_1).f1))) (fun _ hk => hk.2) (.int .i64 ((rd_T102 l0_3 x10_1).f2))) (fun _ h_ => h_.1))) hb);have n1_:=Aside0.mk (blk_below (g:=gb248) (o:=.cells #[.slice A0_0 l0_0.length c0_0,.int .i64 a0_1,.int .i64 a0_2,.slice (some ad249) l0_3.length c0_3,.slice A0_4 l0_4.length c0_4] 63 (0,0)) bk_ hb);have n2_:=Aside0.mk (blk_below (g:=gb250) (o:=.cells #[.int .i64 ((rd_T102 l0_3 x10_1).f0),.int .i64 ((rd_T102 l0_3 x10_1).f1),.int .i64 ((rd_T102 l0_3 x10_1).f2)] 102 (0,0)) (st3_ BK250.out) hb);have n3_:=Aside0.mk (below_step bl_ hb);clear HO_3;clear BK248;clear BK250;clear HB;have HO_3:=n0_;have BK248:=n1_;have BK250:=n2_;have HB:=n3_;clear n0_ n1_ n2_ n3_;(try clear hb);(try clear hb2);(try clear hk);(try clear hi))|((with_reducible refine gate_builtin (b:=.append) (xs:=#[.tmp 14,.tmp 23]) rfl ?_);at_builtin;refine Kd.R_append k86 (w0:=w) w.heap.size rfl (.tmp 14) (.tmp 23) 69 86 (.agg #[(.string ⟨#[]⟩),(.string ⟨#[]⟩),(.bool false)]) 40 rfl Tryd.underlying69 info86 rfl (by decide) (by omega) u3 x3_1 (⟨t251,t252,t253⟩:S86) [.string t251,.string t252,.bool t253] (fun _ => True) (fun _ => False) rfl rfl ?aP (fun _ hk => hk.elim) ?aF ?aO ?aB ?aS ?aL ?_;(case aP => exact k86_mkM _ _ _ (⟨t251,t252,t253⟩:S86));(case aB => exact bl_);(case aF => exact (fun _ _ => trivial));(case aO => exact (kr_ HO_3.out));(case aS => exact (below_size bl_));(case aL => have:=LMc8.out;omega);intro v255 w14 ho hb hg hat;rw [← Ny254.out] at ho;have n0_:=Aside0.mk (blk_grown (g:=gb248) (o:=.cells #[.slice A0_0 l0_0.length c0_0,.int .i64 a0_1,.int .i64 a0_2,.slice (some ad249) l0_3.length c0_3,.slice A0_4 l0_4.length c0_4] 63 (0,0)) bk_ hg (Kd.R_ne HO_3.out BK248.out (by decide)));have n1_:=Aside0.mk (blk_grown (g:=gb250) (o:=.cells #[.int .i64 ((rd_T102 l0_3 x10_1).f0),.int .i64 ((rd_T102 l0_3 x10_1).f1),.int .i64 ((rd_T102 l0_3 x10_1).f2)] 102 (0,0)) bk_ hg (Kd.R_ne HO_3.out BK250.out (by decide)));have n2_:=Aside0.mk (hb);have n3_:=Aside0.mk (ho);clear BK248;clear BK250;clear HB;clear HO_3;have BK248:=n0_;have BK250:=n1_;have HB:=n2_;have HO256:=n3_;clear n0_ n1_ n2_ n3_;clear ho hb hg hat))
       go_roundg k1
       case measure => have:=HK1.out;omega
       case rel => exact ⟨(y254),(wrap64 (x10_1 + 1)),r3_,H',⟨by have:=HK1.out;omega⟩,⟨kr_ HO256.out⟩,⟨bk_⟩,⟨bl_⟩⟩
      ·rw [if_neg c8] at H
       exact absurd H (by simp)
     ·rw [if_neg c6] at H
      exact absurd H (by simp)
    ·rw [if_neg c5] at H
     exact absurd H (by simp)
   ·rw [if_neg c4] at H
    have c4b0:decide (x10_1 < (l0_3.length:Int))=false:=decide_eq_false c4
    clear c4
    obtain rfl:=Option.some.inj H
    go_wp2
    go_ret
    exact ⟨_,ew_,kr_ HO_3.out,bl_⟩
def link_file_methods.l0:Nat→List (S86)→List (S97)→Int→Int→List (S108)→Int→Int→List (S102)→List (S97)→Option ((List (S86)))
 | 0,_,_,_,_,_,_,_,_,_ => none
 | k + 1,x3,x8,x9,x10,x258000,x258001,x258002,x258003,x258004 => if x10 < x9 then (if 0≤x10 then (if x10 < (x8.length:Int) then ((link_file_member.f x258000 x258001 x258002 x258003 x258004 ((rd_T97 x8 x10).f1) ((rd_T97 x8 x10).f2) ((rd_T97 x8 x10).f0)).bind fun bt260 => (if x3.length < 3518437208883 then (link_file_methods.l0 k (x3++[(⟨bt260.1,bt260.2.1,bt260.2.2⟩:S86)]) x8 x9 (wrap64 (x10 + 1)) x258000 x258001 x258002 x258003 x258004) else (none))) else (none)) else (none)) else (some x3)
def link_file_methods.f (k:Nat) (l0_0:List (S108)) (a0_1:Int) (a0_2:Int) (l0_3:List (S102)) (l0_4:List (S97)):Option ((List (S86))):=link_file_methods.l0 k ([]:List (S86)) l0_4 (l0_4.length:Int) 0 l0_0 a0_1 a0_2 l0_3 l0_4
set_option maxHeartbeats 80000000 in
set_option maxRecDepth 100000 in
theorem link_file_methods.calls (k:Nat) (A0_0:Option Addr) (c0_0:Nat) (l0_0:List (S108)) (a0_1:Int) (a0_2:Int) (A0_3:Option Addr) (c0_3:Nat) (l0_3:List (S102)) (A0_4:Option Addr) (c0_4:Nat) (l0_4:List (S97)) (r:List (S86)) (w:World) (hr0_0:Kd.C k108 w A0_0 l0_0.length l0_0) (hc0_0:l0_0.length≤c0_0) (hr0_3:Kd.C k102 w A0_3 l0_3.length l0_3) (hc0_3:l0_3.length≤c0_3) (hr0_4:Kd.C k97 w A0_4 l0_4.length l0_4) (hc0_4:l0_4.length≤c0_4) (h:link_file_methods.f k l0_0 a0_1 a0_2 l0_3 l0_4=some r) :
  Calls Tryd.prog 100 #[.agg #[.slice A0_0 l0_0.length c0_0,.int .i64 a0_1,.int .i64 a0_2,.slice A0_3 l0_3.length c0_3,.slice A0_4 l0_4.length c0_4]] w fun e w' => ∃ v0_:Value,e=.returned (v0_)∧Kd.R k86 86 w' w.heap.size (fun _ => True) v0_ r∧Below w.heap.size w w':=by
 have hu63:=Tryd.underlying63
 have hu97:=Tryd.underlying97
 have HR0_0:=Aside0.mk hr0_0
 have HC0_0:=Aside0.mk hc0_0
 clear hr0_0 hc0_0
 have HR0_3:=Aside0.mk hr0_3
 have HC0_3:=Aside0.mk hc0_3
 clear hr0_3 hc0_3
 have HR0_4:=Aside0.mk hr0_4
 have HC0_4:=Aside0.mk hc0_4
 clear hr0_4 hc0_4
 have HB:=Aside0.mk (Below.refl w.heap.size w)
 have H:(link_file_methods.l0 k ([]:List (S86)) l0_4 (l0_4.length:Int) 0 l0_0 a0_1 a0_2 l0_3 l0_4)=some r:=h
 clear h
 have H':=Aside0.mk H
 clear H
 go_enter Tryd.func100,Tryd.ntmps100
 go_wp2_with (first|((with_reducible refine gate_dst (N:=1) rfl ?_);refine box_event ?hg (N:=1) ?hd (cs:=#[.slice A0_0 l0_0.length c0_0,.int .i64 a0_1,.int .i64 a0_2,.slice A0_3 l0_3.length c0_3,.slice A0_4 l0_4.length c0_4]) (t:=63) ?hr ?_;(case hd => rfl);(case hg => rfl);(case hr => first|(go_simp;done)|(go_simp;rfl));intro gb257 hg w2 hbox hb;have n0_:=Aside0.mk (below_step bl_ hb);have n1_:=Aside0.mk (hbox);have n2_:=Aside0.mk ((by rw [hg];exact (below_size bl_):w.heap.size≤gb257));have n3_:=Aside0.mk ((by rw [hg];exact (below_size bl_):w.heap.size≤gb257));clear HB;have HB:=n0_;have BK257:=n1_;have GW257:=n2_;have GE257:=n3_;clear n0_ n1_ n2_ n3_;clear hb hbox hg;obtain ⟨hcz3_0,hcz3_1,hcz3_2,hcz3_3,hcz3_4,hfz3_0,hfz3_1,hfz3_2,hfz3_3,hfz3_4⟩:=blk5_ BK257.out))
 go_loopg [3,10] k (fun kq v3 v10 w' => ∃ (x3_1:List (S86)) (x10_1:Int),v10=.int .i64 x10_1∧Aside0 (link_file_methods.l0 kq x3_1 l0_4 (l0_4.length:Int) x10_1 l0_0 a0_1 a0_2 l0_3 l0_4=some r)∧Aside0 (kq≤k)∧Aside0 (Kd.R k86 86 w' w.heap.size (fun _ => True) v3 x3_1)∧Aside0 (w'.heap[gb257]?=some (.cells #[(.slice A0_0 l0_0.length c0_0),.int .i64 a0_1,.int .i64 a0_2,(.slice A0_3 l0_3.length c0_3),(.slice A0_4 l0_4.length c0_4)] 63 (0,0)))∧Aside0 (Below w.heap.size w w'))
 case atStart => exact ⟨(([]:List (S86))),(0),r3_,H',⟨Nat.le_refl _⟩,⟨by first|exact Kd.R_nil _ _ _ _ _|exact Kd.N_nil _ _ _ _ _|exact Kd.V_nil _ _ _ _ _|exact Kd.Q_nil _ _ _ _ _|exact Kd.S_nil _ _ _ _ _⟩,⟨bk_⟩,⟨bl_⟩⟩
 case round =>
  clear H'
  try clear hcz3_0;try clear hcz3_1;try clear hcz3_2;try clear hcz3_3;try clear hcz3_4;try clear hfz3_0;try clear hfz3_1;try clear hfz3_2;try clear hfz3_3;try clear hfz3_4
  obtain ⟨x3_1,x10_1,rfl,HA,HK1,HO_3,BK257,HB⟩:=hrel
  cases gk with
  | zero => exact absurd HA.out (by simp [link_file_methods.l0])
  | succ k1 =>
   have H:=HA.out
   clear HA
   simp only [link_file_methods.l0] at H
   by_cases c4:x10_1 < (l0_4.length:Int)
   ·rw [if_pos c4] at H
    have c4b0:decide (x10_1 < (l0_4.length:Int))=true:=decide_eq_true c4
    clear c4
    by_cases c5:0≤x10_1
    ·rw [if_pos c5] at H
     have c5b0:decide (0≤x10_1)=true:=decide_eq_true c5
     clear c5
     by_cases c6:x10_1 < (l0_4.length:Int)
     ·rw [if_pos c6] at H
      have c6b0:decide (x10_1 < (l0_4.length:Int))=true:=decide_eq_true c6
      clear c6
      replace H:=Option.bind_eq_some_iff.mp H
      obtain ⟨⟨t260,t261,t262⟩,A70,H⟩:=H
      try dsimp only at H
      have A7:=Aside0.mk A70
      clear A70
      by_cases c8:x3_1.length < 3518437208883
      ·rw [if_pos c8] at H
       have LMc8:=Aside0.mk c8
       clear c8
       obtain ⟨y263,hy263⟩:∃ y_:List (S86),y_=(x3_1++[(⟨t260,t261,t262⟩:S86)]):=⟨_,rfl⟩
       replace H:(link_file_methods.l0 k1 y263 l0_4 (l0_4.length:Int) (wrap64 (x10_1 + 1)) l0_0 a0_1 a0_2 l0_3 l0_4)=some r:=by first|(rw [hy263];with_reducible exact H)|(have H2_:=(Option.bind_some _ _).symm.trans H;rw [hy263];with_reducible exact H2_)|(have H2_:=(Option.bind_some _ _).symm.trans H;with_reducible exact H2_)|with_reducible exact H|(rw [hy263];exact H)|exact H
       have Ny263:=Aside0.mk hy263
       clear hy263
       have H':=Aside0.mk H
       clear H
       have p258:0≤(x10_1:Int):=od_
       have q258:x10_1 < (l0_4.length:Int):=od_
       obtain ⟨ad258,A258_5,c258_5,A258_6,c258_6,A258_7,c258_7,e258,hx258_0,hx258_1,hx258_2,hx258_3,hx258_4,hx258_5,hx258_6,hx258_7,hl258_5,hi258_5,hl258_6,hi258_6,hl258_7,hi258_7⟩:=at_T97 HR0_4.out x10_1 p258 q258
       cases e258
       replace hx258_0:=hb_ HB hx258_0
       replace hx258_1:=hb_ HB hx258_1
       replace hx258_2:=hb_ HB hx258_2
       replace hx258_3:=hb_ HB hx258_3
       replace hx258_4:=hb_ HB hx258_4
       replace hx258_5:=hb_ HB hx258_5
       replace hx258_6:=hb_ HB hx258_6
       replace hx258_7:=hb_ HB hx258_7
       have HR258_5:=Aside0.mk hi258_5
       have HC258_5:=Aside0.mk hl258_5
       clear hi258_5 hl258_5
       have HR258_6:=Aside0.mk hi258_6
       have HC258_6:=Aside0.mk hl258_6
       clear hi258_6 hl258_6
       have HR258_7:=Aside0.mk hi258_7
       have HC258_7:=Aside0.mk hl258_7
       clear hi258_7 hl258_7
       replace p258:=eq_true p258
       replace q258:=eq_true q258
       go_wp2_with (first|((with_reducible refine gate_dst (N:=5) rfl ?_);refine box_event ?hg (N:=5) ?hd (cs:=#[.int .i64 0,.int .i64 0,.int .i64 0,.int .i64 0,.int .i64 0,.slice none 0 0,.slice none 0 0,.slice none 0 0]) (t:=97) ?hr ?_;(case hd => rfl);(case hg => rfl);(case hr => first|(go_simp;done)|(go_simp;rfl));intro gb259 hg w9 hbox hb;have n0_:=Aside0.mk (Kd.R_below (kr_ HO_3.out) hb);have n1_:=Aside0.mk (blk_below (g:=gb257) (o:=.cells #[.slice A0_0 l0_0.length c0_0,.int .i64 a0_1,.int .i64 a0_2,.slice A0_3 l0_3.length c0_3,.slice (some ad258) l0_4.length c0_4] 63 (0,0)) bk_ hb);have n2_:=Aside0.mk (below_step bl_ hb);have n3_:=Aside0.mk (hbox);have n4_:=Aside0.mk ((by rw [hg];exact (below_size bl_):w.heap.size≤gb259));have n5_:=Aside0.mk ((by rw [hg];exact (below_size bl_):w.heap.size≤gb259));have n6_:=Aside0.mk ((by rw [hg];exact Nat.ne_of_lt (blk_lt (g:=gb257) (o:=.cells #[.slice A0_0 l0_0.length c0_0,.int .i64 a0_1,.int .i64 a0_2,.slice A0_3 l0_3.length c0_3,.slice (some ad258) l0_4.length c0_4] 63 (0,0)) bk_):gb257 ≠ gb259));have n7_:=Aside0.mk ((by rw [hg];exact Nat.ne_of_gt (blk_lt (g:=gb257) (o:=.cells #[.slice A0_0 l0_0.length c0_0,.int .i64 a0_1,.int .i64 a0_2,.slice A0_3 l0_3.length c0_3,.slice (some ad258) l0_4.length c0_4] 63 (0,0)) bk_):gb259 ≠ gb257));clear HO_3;clear BK257;clear HB;have HO_3:=n0_;have BK257:=n1_;have HB:=n2_;have BK259:=n3_;have GW259:=n4_;have GE259:=n5_;have NB257_259:=n6_;have NB259_257:=n7_;clear n0_ n1_ n2_ n3_ n4_ n5_ n6_ n7_;clear hb hbox hg;have hnb10:=NB259_257.out;have hnc10:=NB257_259.out;obtain ⟨hcz11_0,hcz11_1,hcz11_2,hcz11_3,hcz11_4,hcz11_5,hcz11_6,hcz11_7,hfz11_0,hfz11_1,hfz11_2,hfz11_3,hfz11_4,hfz11_5,hfz11_6,hfz11_7⟩:=blk8_ BK259.out)|((with_reducible refine gate_store (t:=97) (p:=5) rfl ?_);refine store_event (t:=97) (p:=5) (v:=?vo_w12) (w1:=((((((((w9.setCell ⟨gb259,0,none⟩ (.int .i64 ((rd_T97 l0_4 x10_1).f0))).setCell ⟨gb259,1,none⟩ (.int .i64 ((rd_T97 l0_4 x10_1).f1))).setCell ⟨gb259,2,none⟩ (.int .i64 ((rd_T97 l0_4 x10_1).f2))).setCell ⟨gb259,3,none⟩ (.int .i64 ((rd_T97 l0_4 x10_1).f3))).setCell ⟨gb259,4,none⟩ (.int .i64 ((rd_T97 l0_4 x10_1).f4))).setCell ⟨gb259,5,none⟩ (.slice A258_5 ((rd_T97 l0_4 x10_1).f5).length c258_5)).setCell ⟨gb259,6,none⟩ (.slice A258_6 ((rd_T97 l0_4 x10_1).f6).length c258_6)).setCell ⟨gb259,7,none⟩ (.slice A258_7 ((rd_T97 l0_4 x10_1).f7).length c258_7))) ?hg ?ho ?hn ?hr ?_;(case ho => rfl);(case hg => rfl);(case hn => rfl);(case hr => first|(go_simp;done)|(go_simp;rfl));intro w12 hw;have n0_:Aside0 (Kd.R k86 86 w12 w.heap.size (fun _ => True) u3 x3_1):=⟨(by rw [hw];exact (by (with_reducible repeat (first|apply Kd.R_alloc|apply Kd.R_drewN|apply Kd.R_drew));exact Kd.R_mono (Kd.R_far (p:=⟨gb259,7,none⟩) (Kd.R_far (p:=⟨gb259,6,none⟩) (Kd.R_far (p:=⟨gb259,5,none⟩) (Kd.R_far (p:=⟨gb259,4,none⟩) (Kd.R_far (p:=⟨gb259,3,none⟩) (Kd.R_far (p:=⟨gb259,2,none⟩) (Kd.R_far (p:=⟨gb259,1,none⟩) (Kd.R_far (p:=⟨gb259,0,none⟩) (Kd.R_types HO_3.out BK259.out (by decide)) (fun _ hk => hk.2) (.int .i64 ((rd_T97 l0_4 x10_1).f0))) (fun _ hk => hk.2) (.int .i64 ((rd_T97 l0_4 x10_1).f1))) (fun _ hk => hk.2) (.int .i64 ((rd_T97 l0_4 x10_1).f2))) (fun _ hk => hk.2) (.int .i64 ((rd_T97 l0_4 x10_1).f3))) (fun _ hk => hk.2) (.int .i64 ((rd_T97 l0_4 x10_1).f4))) (fun _ hk => hk.2) (.slice A258_5 ((rd_T97 l0_4 x10_1).f5).length c258_5)) (fun _ hk => hk.2) (.slice A258_6 ((rd_T97 l0_4 x10_1).f6).length c258_6)) (fun _ hk => hk.2) (.slice A258_7 ((rd_T97 l0_4 x10_1).f7).length c258_7)) (fun _ hk => trivial)))⟩;have n1_:Aside0 (w12.heap[gb257]?=some (.cells #[.slice A0_0 l0_0.length c0_0,.int .i64 a0_1,.int .i64 a0_2,.slice A0_3 l0_3.length c0_3,.slice (some ad258) l0_4.length c0_4] 63 (0,0))):=⟨(by rw [hw];exact bk_)⟩;have n2_:Aside0 (w12.heap[gb259]?=some (.cells #[.int .i64 ((rd_T97 l0_4 x10_1).f0),.int .i64 ((rd_T97 l0_4 x10_1).f1),.int .i64 ((rd_T97 l0_4 x10_1).f2),.int .i64 ((rd_T97 l0_4 x10_1).f3),.int .i64 ((rd_T97 l0_4 x10_1).f4),.slice A258_5 ((rd_T97 l0_4 x10_1).f5).length c258_5,.slice A258_6 ((rd_T97 l0_4 x10_1).f6).length c258_6,.slice A258_7 ((rd_T97 l0_4 x10_1).f7).length c258_7] 97 (0,0))):=⟨(by rw [hw];exact (st8_ BK259.out))⟩;have n3_:Aside0 (Below w.heap.size w w12):=⟨(by rw [hw];exact bl_)⟩;clear hw;clear HO_3;clear BK257;clear BK259;clear HB;have HO_3:=n0_;have BK257:=n1_;have BK259:=n2_;have HB:=n3_;clear n0_ n1_ n2_ n3_;obtain ⟨hcz13_0,hcz13_1,hcz13_2,hcz13_3,hcz13_4,hfz13_0,hfz13_1,hfz13_2,hfz13_3,hfz13_4⟩:=blk5_ BK257.out;obtain ⟨hcz14_0,hcz14_1,hcz14_2,hcz14_3,hcz14_4,hcz14_5,hcz14_6,hcz14_7,hfz14_0,hfz14_1,hfz14_2,hfz14_3,hfz14_4,hfz14_5,hfz14_6,hfz14_7⟩:=blk8_ BK259.out)|(refine callA_ (f:=102) (some 22) Tryd.func102 #[.agg #[.slice A0_0 l0_0.length c0_0,.int .i64 a0_1,.int .i64 a0_2,.slice A0_3 l0_3.length c0_3,.slice (some ad258) l0_4.length c0_4],.int .i64 ((rd_T97 l0_4 x10_1).f1),.int .i64 ((rd_T97 l0_4 x10_1).f2),.int .i64 ((rd_T97 l0_4 x10_1).f0)] ?_;(with_reducible refine (link_file_member.calls _ _ l0_0 a0_1 a0_2 _ _ l0_3 _ _ l0_4 ((rd_T97 l0_4 x10_1).f1) ((rd_T97 l0_4 x10_1).f2) ((rd_T97 l0_4 x10_1).f0) t260 t261 t262 _ ?side1 ?side2 ?side3 ?side4 ?side5 ?side6 A7.out).mono ?_);(case side1 => exact kc_ (Kd.C_below HR0_0.out HB.out));(case side2 => exact HC0_0.out);(case side3 => exact kc_ (Kd.C_below HR0_3.out HB.out));(case side4 => exact HC0_3.out);(case side5 => exact kc_ (Kd.C_below HR0_4.out HB.out));(case side6 => exact HC0_4.out);rintro e w15 ⟨rfl,hb⟩;refine ⟨_,rfl,?_⟩;have n0_:=Aside0.mk (Kd.R_below (kr_ HO_3.out) hb);have n1_:=Aside0.mk (blk_below (g:=gb257) (o:=.cells #[.slice A0_0 l0_0.length c0_0,.int .i64 a0_1,.int .i64 a0_2,.slice A0_3 l0_3.length c0_3,.slice (some ad258) l0_4.length c0_4] 63 (0,0)) bk_ hb);have n2_:=Aside0.mk (blk_below (g:=gb259) (o:=.cells #[.int .i64 ((rd_T97 l0_4 x10_1).f0),.int .i64 ((rd_T97 l0_4 x10_1).f1),.int .i64 ((rd_T97 l0_4 x10_1).f2),.int .i64 ((rd_T97 l0_4 x10_1).f3),.int .i64 ((rd_T97 l0_4 x10_1).f4),.slice A258_5 ((rd_T97 l0_4 x10_1).f5).length c258_5,.slice A258_6 ((rd_T97 l0_4 x10_1).f6).length c258_6,.slice A258_7 ((rd_T97 l0_4 x10_1).f7).length c258_7] 97 (0,0)) bk_ hb);have n3_:=Aside0.mk (below_step bl_ hb);clear HO_3;clear BK257;clear BK259;clear HB;have HO_3:=n0_;have BK257:=n1_;have BK259:=n2_;have HB:=n3_;clear n0_ n1_ n2_ n3_;(try clear hb);(try clear hb2);(try clear hk);(try clear hi))|((with_reducible refine gate_builtin (b:=.append) (xs:=#[.tmp 14,.tmp 23]) rfl ?_);at_builtin;refine Kd.R_append k86 (w0:=w) w.heap.size rfl (.tmp 14) (.tmp 23) 69 86 (.agg #[(.string ⟨#[]⟩),(.string ⟨#[]⟩),(.bool false)]) 40 rfl Tryd.underlying69 info86 rfl (by decide) (by omega) u3 x3_1 (⟨t260,t261,t262⟩:S86) [.string t260,.string t261,.bool t262] (fun _ => True) (fun _ => False) rfl rfl ?aP (fun _ hk => hk.elim) ?aF ?aO ?aB ?aS ?aL ?_;(case aP => exact k86_mkM _ _ _ (⟨t260,t261,t262⟩:S86));(case aB => exact bl_);(case aF => exact (fun _ _ => trivial));(case aO => exact (kr_ HO_3.out));(case aS => exact (below_size bl_));(case aL => have:=LMc8.out;omega);intro v264 w16 ho hb hg hat;rw [← Ny263.out] at ho;have n0_:=Aside0.mk (blk_grown (g:=gb257) (o:=.cells #[.slice A0_0 l0_0.length c0_0,.int .i64 a0_1,.int .i64 a0_2,.slice A0_3 l0_3.length c0_3,.slice (some ad258) l0_4.length c0_4] 63 (0,0)) bk_ hg (Kd.R_ne HO_3.out BK257.out (by decide)));have n1_:=Aside0.mk (blk_grown (g:=gb259) (o:=.cells #[.int .i64 ((rd_T97 l0_4 x10_1).f0),.int .i64 ((rd_T97 l0_4 x10_1).f1),.int .i64 ((rd_T97 l0_4 x10_1).f2),.int .i64 ((rd_T97 l0_4 x10_1).f3),.int .i64 ((rd_T97 l0_4 x10_1).f4),.slice A258_5 ((rd_T97 l0_4 x10_1).f5).length c258_5,.slice A258_6 ((rd_T97 l0_4 x10_1).f6).length c258_6,.slice A258_7 ((rd_T97 l0_4 x10_1).f7).length c258_7] 97 (0,0)) bk_ hg (Kd.R_ne HO_3.out BK259.out (by decide)));have n2_:=Aside0.mk (hb);have n3_:=Aside0.mk (ho);clear BK257;clear BK259;clear HB;clear HO_3;have BK257:=n0_;have BK259:=n1_;have HB:=n2_;have HO265:=n3_;clear n0_ n1_ n2_ n3_;clear ho hb hg hat))
       go_roundg k1
       case measure => have:=HK1.out;omega
       case rel => exact ⟨(y263),(wrap64 (x10_1 + 1)),r3_,H',⟨by have:=HK1.out;omega⟩,⟨kr_ HO265.out⟩,⟨bk_⟩,⟨bl_⟩⟩
      ·rw [if_neg c8] at H
       exact absurd H (by simp)
     ·rw [if_neg c6] at H
      exact absurd H (by simp)
    ·rw [if_neg c5] at H
     exact absurd H (by simp)
   ·rw [if_neg c4] at H
    have c4b0:decide (x10_1 < (l0_4.length:Int))=false:=decide_eq_false c4
    clear c4
    obtain rfl:=Option.some.inj H
    go_wp2
    go_ret
    exact ⟨_,ew_,kr_ HO_3.out,bl_⟩
def link_builtin_own.f (a0_0:ByteArray) (a0_1:ByteArray) (l0_2:List (S86)):Option (ByteArray × ByteArray):=some (a0_0,a0_1)
set_option maxHeartbeats 80000000 in
set_option maxRecDepth 100000 in
theorem link_builtin_own.calls (a0_0:ByteArray) (a0_1:ByteArray) (A0_2:Option Addr) (c0_2:Nat) (l0_2:List (S86)) (r1:ByteArray) (r2:ByteArray) (w:World) (hr0_2:Kd.C k86 w A0_2 l0_2.length l0_2) (hc0_2:l0_2.length≤c0_2) (h:link_builtin_own.f a0_0 a0_1 l0_2=some (r1,r2)) :
  Calls Tryd.prog 107 #[.agg #[.string a0_0,.string a0_1,.slice A0_2 l0_2.length c0_2]] w fun e w' => e=.returned (.tuple #[.string r1,.string r2])∧Below w.heap.size w w':=by
 have hu88:=Tryd.underlying88
 have HR0_2:=Aside0.mk hr0_2
 have HC0_2:=Aside0.mk hc0_2
 clear hr0_2 hc0_2
 have HB:=Aside0.mk (Below.refl w.heap.size w)
 have H:(some (a0_0,a0_1))=some (r1,r2):=h
 clear h
 simp only [Option.some.injEq,Prod.mk.injEq] at H
 obtain ⟨rfl,rfl⟩:=H
 go_enter Tryd.func107,Tryd.ntmps107
 go_wp2_with (first|((with_reducible refine gate_dst (N:=1) rfl ?_);refine box_event ?hg (N:=1) ?hd (cs:=#[.string a0_0,.string a0_1,.slice A0_2 l0_2.length c0_2]) (t:=88) ?hr ?_;(case hd => rfl);(case hg => rfl);(case hr => first|(go_simp;done)|(go_simp;rfl));intro gb266 hg w2 hbox hb;have n0_:=Aside0.mk (below_step bl_ hb);have n1_:=Aside0.mk (hbox);have n2_:=Aside0.mk ((by rw [hg];exact (below_size bl_):w.heap.size≤gb266));have n3_:=Aside0.mk ((by rw [hg];exact (below_size bl_):w.heap.size≤gb266));clear HB;have HB:=n0_;have BK266:=n1_;have GW266:=n2_;have GE266:=n3_;clear n0_ n1_ n2_ n3_;clear hb hbox hg;obtain ⟨hcz3_0,hcz3_1,hcz3_2,hfz3_0,hfz3_1,hfz3_2⟩:=blk3_ BK266.out))
 repeat (go_quiet (first|((with_reducible refine gate_dst (N:=1) rfl ?_);refine box_event ?hg (N:=1) ?hd (cs:=#[.string a0_0,.string a0_1,.slice A0_2 l0_2.length c0_2]) (t:=88) ?hr ?_;(case hd => rfl);(case hg => rfl);(case hr => first|(go_simp;done)|(go_simp;rfl));intro gb266 hg w2 hbox hb;have n0_:=Aside0.mk (below_step bl_ hb);have n1_:=Aside0.mk (hbox);have n2_:=Aside0.mk ((by rw [hg];exact (below_size bl_):w.heap.size≤gb266));have n3_:=Aside0.mk ((by rw [hg];exact (below_size bl_):w.heap.size≤gb266));clear HB;have HB:=n0_;have BK266:=n1_;have GW266:=n2_;have GE266:=n3_;clear n0_ n1_ n2_ n3_;clear hb hbox hg;obtain ⟨hcz3_0,hcz3_1,hcz3_2,hfz3_0,hfz3_1,hfz3_2⟩:=blk3_ BK266.out));try go_wp2_with (first|((with_reducible refine gate_dst (N:=1) rfl ?_);refine box_event ?hg (N:=1) ?hd (cs:=#[.string a0_0,.string a0_1,.slice A0_2 l0_2.length c0_2]) (t:=88) ?hr ?_;(case hd => rfl);(case hg => rfl);(case hr => first|(go_simp;done)|(go_simp;rfl));intro gb266 hg w2 hbox hb;have n0_:=Aside0.mk (below_step bl_ hb);have n1_:=Aside0.mk (hbox);have n2_:=Aside0.mk ((by rw [hg];exact (below_size bl_):w.heap.size≤gb266));have n3_:=Aside0.mk ((by rw [hg];exact (below_size bl_):w.heap.size≤gb266));clear HB;have HB:=n0_;have BK266:=n1_;have GW266:=n2_;have GE266:=n3_;clear n0_ n1_ n2_ n3_;clear hb hbox hg;obtain ⟨hcz3_0,hcz3_1,hcz3_2,hfz3_0,hfz3_1,hfz3_2⟩:=blk3_ BK266.out)))
 go_ret2
 exact ⟨ew_,bl_⟩
def link_builtin_fields.f (a0_0:ByteArray) (a0_1:ByteArray) (l0_2:List (S86)):Option ((List (S86))):=some ([]:List (S86))
set_option maxHeartbeats 80000000 in
set_option maxRecDepth 100000 in
theorem link_builtin_fields.calls (a0_0:ByteArray) (a0_1:ByteArray) (A0_2:Option Addr) (c0_2:Nat) (l0_2:List (S86)) (r:List (S86)) (w:World) (hr0_2:Kd.C k86 w A0_2 l0_2.length l0_2) (hc0_2:l0_2.length≤c0_2) (h:link_builtin_fields.f a0_0 a0_1 l0_2=some r) :
  Calls Tryd.prog 104 #[.agg #[.string a0_0,.string a0_1,.slice A0_2 l0_2.length c0_2]] w fun e w' => ∃ v0_:Value,e=.returned (v0_)∧Kd.R k86 86 w' w.heap.size (fun _ => True) v0_ r∧Below w.heap.size w w':=by
 have hu88:=Tryd.underlying88
 have HR0_2:=Aside0.mk hr0_2
 have HC0_2:=Aside0.mk hc0_2
 clear hr0_2 hc0_2
 have HB:=Aside0.mk (Below.refl w.heap.size w)
 have H:(some ([]:List (S86)))=some r:=h
 clear h
 obtain rfl:=Option.some.inj H
 go_enter Tryd.func104,Tryd.ntmps104
 go_wp2_with (first|((with_reducible refine gate_dst (N:=1) rfl ?_);refine box_event ?hg (N:=1) ?hd (cs:=#[.string a0_0,.string a0_1,.slice A0_2 l0_2.length c0_2]) (t:=88) ?hr ?_;(case hd => rfl);(case hg => rfl);(case hr => first|(go_simp;done)|(go_simp;rfl));intro gb267 hg w2 hbox hb;have n0_:=Aside0.mk (below_step bl_ hb);have n1_:=Aside0.mk (hbox);have n2_:=Aside0.mk ((by rw [hg];exact (below_size bl_):w.heap.size≤gb267));have n3_:=Aside0.mk ((by rw [hg];exact (below_size bl_):w.heap.size≤gb267));clear HB;have HB:=n0_;have BK267:=n1_;have GW267:=n2_;have GE267:=n3_;clear n0_ n1_ n2_ n3_;clear hb hbox hg))
 go_ret
 exact ⟨_,ew_,by first|exact Kd.R_nil _ _ _ _ _|exact Kd.N_nil _ _ _ _ _|exact Kd.V_nil _ _ _ _ _|exact Kd.Q_nil _ _ _ _ _|exact Kd.S_nil _ _ _ _ _,bl_⟩
end Go.Proofs.YtoonhpcjcimecaaDoor.Px
namespace Go.Proofs.YtoonhpcjcimecaaDoor.Px
open Go.RowKit Go.Proofs.YtoonhpcjcimecaaDoorW.PrintWords Go.Proofs.YtoonhpcjcimecaaDoorW.PrintLast Go.Proofs.YtoonhpcjcimecaaDoorW.PrintMore
attribute [local go_sem] max2_int min2_int max_two min_two max_three min_three max_four min_four
set_option linter.unusedVariables false
set_option linter.unusedSimpArgs false
theorem eqA78 (d:Nat) (w:World) (x0 y0:Int) (x1 y1:ByteArray) (x2 y2:Int) (x3 y3:Int) (x4 y4:Int) :
  (Op.equalIn (d + 2) 78 (.agg #[.int .i64 x0,.string x1,.int .i64 x2,.int .i64 x3,.int .i64 x4]) (.agg #[.int .i64 y0,.string y1,.int .i64 y2,.int .i64 y3,.int .i64 y4])).run Tryd.prog w=.ok (x0==y0 && (x1.toList==y1.toList && (x2==y2 && (x3==y3 && (x4==y4))))) w:=by
 refine eqA_of Tryd.underlying78 (by kernel_rfl) ?_
 refine eqf_cons (by rfl) (by go_simp;rfl) (by go_simp;rfl) (by go_simp) ?_
 refine eqf_cons (by rfl) (by go_simp;rfl) (by go_simp;rfl) (by go_simp) ?_
 refine eqf_cons (by rfl) (by go_simp;rfl) (by go_simp;rfl) (by go_simp) ?_
 refine eqf_cons (by rfl) (by go_simp;rfl) (by go_simp;rfl) (by go_simp) ?_
 exact eqf_last (by rfl) (by go_simp;rfl) (by go_simp;rfl) (by go_simp)
end Go.Proofs.YtoonhpcjcimecaaDoor.Px
namespace Go.Proofs.YtoonhpcjcimecaaDoor.Px
open Go.RowKit Go.Proofs.YtoonhpcjcimecaaDoorW.PrintWords Go.Proofs.YtoonhpcjcimecaaDoorW.PrintLast Go.Proofs.YtoonhpcjcimecaaDoorW.PrintMore
attribute [local go_sem] max2_int min2_int max_two min_two max_three min_three max_four min_four
set_option linter.unusedVariables false
set_option linter.unusedSimpArgs false
attribute [local go_sem high] eqA78
def link_count.l0:Nat→Bool→Int→List (S86)→Int→Int→Option (Int)
 | 0,_,_,_,_,_ => none
 | k + 1,x1,x5,x8,x9,x10 => if x10 < x9 then (if 0≤x10 then (if x10 < (x8.length:Int) then (if (((rd_T86 x8 x10).f2)==x1)=true then (link_count.l0 k x1 (wrap64 (x5 + 1)) x8 x9 (wrap64 (x10 + 1))) else (link_count.l0 k x1 x5 x8 x9 (wrap64 (x10 + 1)))) else (none)) else (none)) else (some x5)
def link_count.f (k:Nat) (l0:List (S86)) (a1:Bool):Option (Int):=link_count.l0 k a1 0 l0 (l0.length:Int) 0
set_option maxHeartbeats 80000000 in
set_option maxRecDepth 100000 in
theorem link_count.calls (k:Nat) (A0:Option Addr) (c0:Nat) (l0:List (S86)) (a1:Bool) (r:Int) (w:World) (hr0:Kd.C k86 w A0 l0.length l0) (hc0:l0.length≤c0) (h:link_count.f k l0 a1=some r) :
  Calls Tryd.prog 24 #[.slice A0 l0.length c0,.bool a1] w fun e w' => e=.returned (.int .i64 r)∧Below w.heap.size w w':=by
 have hu86:=Tryd.underlying86
 have HR0:=Aside0.mk hr0
 have HC0:=Aside0.mk hc0
 clear hr0 hc0
 have HB:=Aside0.mk (Below.refl w.heap.size w)
 have H:(link_count.l0 k a1 0 l0 (l0.length:Int) 0)=some r:=h
 clear h
 have H':=Aside0.mk H
 clear H
 go_enter Tryd.func24,Tryd.ntmps24
 go_wp2
 go_loopg [5,10] k (fun kq v5 v10 w' => ∃ (x5_1:Int) (x10_1:Int),v5=.int .i64 x5_1∧v10=.int .i64 x10_1∧Aside0 (link_count.l0 kq a1 x5_1 l0 (l0.length:Int) x10_1=some r)∧Aside0 (kq≤k)∧Aside0 (Below w.heap.size w w'))
 case atStart => exact ⟨(0),(0),r3_,r3_,H',⟨Nat.le_refl _⟩,⟨bl_⟩⟩
 case round =>
  clear H'
  obtain ⟨x5_1,x10_1,rfl,rfl,HA,HK1,HB⟩:=hrel
  cases gk with
  | zero => exact absurd HA.out (by simp [link_count.l0])
  | succ k1 =>
   have H:=HA.out
   clear HA
   simp only [link_count.l0] at H
   by_cases c3:x10_1 < (l0.length:Int)
   ·rw [if_pos c3] at H
    have c3b0:decide (x10_1 < (l0.length:Int))=true:=decide_eq_true c3
    clear c3
    by_cases c4:0≤x10_1
    ·rw [if_pos c4] at H
     have c4b0:decide (0≤x10_1)=true:=decide_eq_true c4
     clear c4
     by_cases c5:x10_1 < (l0.length:Int)
     ·rw [if_pos c5] at H
      have c5b0:decide (x10_1 < (l0.length:Int))=true:=decide_eq_true c5
      clear c5
      by_cases c6:(((rd_T86 l0 x10_1).f2)==a1)=true
      ·rw [if_pos c6] at H
       have c6b0:(((rd_T86 l0 x10_1).f2)==a1)=true:=c6
       (try (have c6b1:decide (((rd_T86 l0 x10_1).f2)=a1)=true:=by simpa using c6))
       (try (have c6b2:(((rd_T86 l0 x10_1).f2)==a1)=true:=by simpa using c6))
       clear c6
       have H':=Aside0.mk H
       clear H
       have p226:0≤(x10_1:Int):=od_
       have q226:x10_1 < (l0.length:Int):=od_
       obtain ⟨ad226,e226,hx226_0,hx226_1,hx226_2⟩:=at_T86 HR0.out x10_1 p226 q226
       cases e226
       replace hx226_0:=hb_ HB hx226_0
       replace hx226_1:=hb_ HB hx226_1
       replace hx226_2:=hb_ HB hx226_2
       replace p226:=eq_true p226
       replace q226:=eq_true q226
       go_wp2_with (first|((with_reducible refine gate_dst (N:=7) rfl ?_);refine box_event ?hg (N:=7) ?hd (cs:=#[.string (⟨#[]⟩:ByteArray),.string (⟨#[]⟩:ByteArray),.bool false]) (t:=86) ?hr ?_;(case hd => rfl);(case hg => rfl);(case hr => first|(go_simp;done)|(go_simp;rfl));intro gb227 hg w7 hbox hb;have n0_:=Aside0.mk (below_step bl_ hb);have n1_:=Aside0.mk (hbox);have n2_:=Aside0.mk ((by rw [hg];exact (below_size bl_):w.heap.size≤gb227));have n3_:=Aside0.mk ((by rw [hg];exact (below_size bl_):w.heap.size≤gb227));clear HB;have HB:=n0_;have BK227:=n1_;have GW227:=n2_;have GE227:=n3_;clear n0_ n1_ n2_ n3_;clear hb hbox hg;obtain ⟨hcz8_0,hcz8_1,hcz8_2,hfz8_0,hfz8_1,hfz8_2⟩:=blk3_ BK227.out))
       go_roundg k1
       case measure => have:=HK1.out;omega
       case rel => exact ⟨(wrap64 (x5_1 + 1)),(wrap64 (x10_1 + 1)),r3_,r3_,H',⟨by have:=HK1.out;omega⟩,⟨bl_⟩⟩
      ·rw [if_neg c6] at H
       have c6b0:(((rd_T86 l0 x10_1).f2)==a1)=false:=by simpa using c6
       (try (have c6b1:decide (((rd_T86 l0 x10_1).f2)=a1)=false:=by simpa using c6))
       (try (have c6b2:(((rd_T86 l0 x10_1).f2)==a1)=false:=by simpa using c6))
       (try (have c6b3:¬ (((rd_T86 l0 x10_1).f2)=a1):=by simpa using c6))
       clear c6
       have H':=Aside0.mk H
       clear H
       have p226:0≤(x10_1:Int):=od_
       have q226:x10_1 < (l0.length:Int):=od_
       obtain ⟨ad226,e226,hx226_0,hx226_1,hx226_2⟩:=at_T86 HR0.out x10_1 p226 q226
       cases e226
       replace hx226_0:=hb_ HB hx226_0
       replace hx226_1:=hb_ HB hx226_1
       replace hx226_2:=hb_ HB hx226_2
       replace p226:=eq_true p226
       replace q226:=eq_true q226
       go_wp2_with (first|((with_reducible refine gate_dst (N:=7) rfl ?_);refine box_event ?hg (N:=7) ?hd (cs:=#[.string (⟨#[]⟩:ByteArray),.string (⟨#[]⟩:ByteArray),.bool false]) (t:=86) ?hr ?_;(case hd => rfl);(case hg => rfl);(case hr => first|(go_simp;done)|(go_simp;rfl));intro gb227 hg w9 hbox hb;have n0_:=Aside0.mk (below_step bl_ hb);have n1_:=Aside0.mk (hbox);have n2_:=Aside0.mk ((by rw [hg];exact (below_size bl_):w.heap.size≤gb227));have n3_:=Aside0.mk ((by rw [hg];exact (below_size bl_):w.heap.size≤gb227));clear HB;have HB:=n0_;have BK227:=n1_;have GW227:=n2_;have GE227:=n3_;clear n0_ n1_ n2_ n3_;clear hb hbox hg;obtain ⟨hcz10_0,hcz10_1,hcz10_2,hfz10_0,hfz10_1,hfz10_2⟩:=blk3_ BK227.out))
       go_roundg k1
       case measure => have:=HK1.out;omega
       case rel => exact ⟨(x5_1),(wrap64 (x10_1 + 1)),r3_,r3_,H',⟨by have:=HK1.out;omega⟩,⟨bl_⟩⟩
     ·rw [if_neg c5] at H
      exact absurd H (by simp)
    ·rw [if_neg c4] at H
     exact absurd H (by simp)
   ·rw [if_neg c3] at H
    have c3b0:decide (x10_1 < (l0.length:Int))=false:=decide_eq_false c3
    clear c3
    obtain rfl:=Option.some.inj H
    go_wp2
    go_ret
    exact ⟨ew_,bl_⟩
def understudylaw09_types.l0:Nat→List (S78)→List (S78)→Int→Option (Bool)
 | 0,_,_,_ => none
 | k + 1,x0,x1,x5 => if x5 < (x0.length:Int) then (if 0≤x5 then (if x5 < (x1.length:Int) then (if (!(((rd_T78 x0 x5).f0)==((rd_T78 x1 x5).f0)) || (!((((rd_T78 x0 x5).f1).toList)==(((rd_T78 x1 x5).f1).toList)) || (!(((rd_T78 x0 x5).f2)==((rd_T78 x1 x5).f2)) || (!(((rd_T78 x0 x5).f3)==((rd_T78 x1 x5).f3)) || (!(((rd_T78 x0 x5).f4)==((rd_T78 x1 x5).f4)))))))=true then (some false) else (understudylaw09_types.l0 k x0 x1 (wrap64 (x5 + 1)))) else (none)) else (none)) else (some true)
def understudylaw09_types.f (k:Nat) (l0:List (S78)) (l1:List (S78)):Option (Bool):=if (l0.length:Int)=(l1.length:Int) then (understudylaw09_types.l0 k l0 l1 0) else (some false)
set_option maxHeartbeats 80000000 in
set_option maxRecDepth 100000 in
theorem understudylaw09_types.calls (k:Nat) (A0:Option Addr) (c0:Nat) (l0:List (S78)) (A1:Option Addr) (c1:Nat) (l1:List (S78)) (r:Bool) (w:World) (hr0:Kd.C k78 w A0 l0.length l0) (hc0:l0.length≤c0) (hr1:Kd.C k78 w A1 l1.length l1) (hc1:l1.length≤c1) (h:understudylaw09_types.f k l0 l1=some r) :
  Calls Tryd.prog 12 #[.slice A0 l0.length c0,.slice A1 l1.length c1] w fun e w' => e=.returned (.bool r)∧Drawn0 w w':=by
 have hu78:=Tryd.underlying78
 have HR0:=Aside0.mk hr0
 have HC0:=Aside0.mk hc0
 clear hr0 hc0
 have HR1:=Aside0.mk hr1
 have HC1:=Aside0.mk hc1
 clear hr1 hc1
 have H:(if (l0.length:Int)=(l1.length:Int) then (understudylaw09_types.l0 k l0 l1 0) else (some false))=some r:=h
 clear h
 by_cases c3:(l0.length:Int)=(l1.length:Int)
 ·rw [if_pos c3] at H
  have c3b0:((l0.length:Int)==(l1.length:Int))=true:=beq_iff_eq.mpr c3
  have c3b1:((l0.length:Int) != (l1.length:Int))=false:=bne_eq_false_iff_eq.mpr c3
  have c3b2:(l0.length==l1.length)=true:=by first|simpa using c3|(simp at c3 ⊢;omega)
  clear c3
  have H':=Aside0.mk H
  clear H
  go_enter Tryd.func12,Tryd.ntmps12
  go_wp2
  repeat (go_quiet (fail);try go_wp2)
  go_loopg [5] k (fun kq v5 w' => ∃ (x5_1:Int),v5=.int .i64 x5_1∧Aside0 (understudylaw09_types.l0 kq l0 l1 x5_1=some r)∧Aside0 (kq≤k)∧Drawn0 w w')
  case atStart => exact ⟨(0),r3_,H',⟨Nat.le_refl _⟩,by repeat (first|exact Drawn0.refl _|apply Drawn0.step)⟩
  case round =>
   clear H'
   try clear c1;try clear c3;try clear c3b0;try clear c3b1;try clear c3b2
   obtain ⟨x5_1,rfl,HA,HK1,⟨m1,rfl⟩⟩:=hrel
   cases gk with
   | zero => exact absurd HA.out (by simp [understudylaw09_types.l0])
   | succ k1 =>
    have H:=HA.out
    clear HA
    simp only [understudylaw09_types.l0] at H
    by_cases c4:x5_1 < (l0.length:Int)
    ·rw [if_pos c4] at H
     have c4b0:decide (x5_1 < (l0.length:Int))=true:=decide_eq_true c4
     clear c4
     by_cases c5:0≤x5_1
     ·rw [if_pos c5] at H
      have c5b0:decide (0≤x5_1)=true:=decide_eq_true c5
      clear c5
      by_cases c6:x5_1 < (l1.length:Int)
      ·rw [if_pos c6] at H
       have c6b0:decide (x5_1 < (l1.length:Int))=true:=decide_eq_true c6
       clear c6
       by_cases c7:(!(((rd_T78 l0 x5_1).f0)==((rd_T78 l1 x5_1).f0)) || (!((((rd_T78 l0 x5_1).f1).toList)==(((rd_T78 l1 x5_1).f1).toList)) || (!(((rd_T78 l0 x5_1).f2)==((rd_T78 l1 x5_1).f2)) || (!(((rd_T78 l0 x5_1).f3)==((rd_T78 l1 x5_1).f3)) || (!(((rd_T78 l0 x5_1).f4)==((rd_T78 l1 x5_1).f4)))))))=true
       ·rw [if_pos c7] at H
        have c7b0:(!(((rd_T78 l0 x5_1).f0)==((rd_T78 l1 x5_1).f0)) || (!((((rd_T78 l0 x5_1).f1).toList)==(((rd_T78 l1 x5_1).f1).toList)) || (!(((rd_T78 l0 x5_1).f2)==((rd_T78 l1 x5_1).f2)) || (!(((rd_T78 l0 x5_1).f3)==((rd_T78 l1 x5_1).f3)) || (!(((rd_T78 l0 x5_1).f4)==((rd_T78 l1 x5_1).f4)))))))=true:=c7
        clear c7
        obtain rfl:=Option.some.inj H
        have p228:0≤(x5_1:Int):=od_
        have q228:x5_1 < (l0.length:Int):=od_
        obtain ⟨ad228,e228,hx228_0,hx228_1,hx228_2,hx228_3,hx228_4⟩:=at_T78 HR0.out x5_1 p228 q228
        cases e228
        replace p228:=eq_true p228
        replace q228:=eq_true q228
        have p229:0≤(x5_1:Int):=od_
        have q229:x5_1 < (l1.length:Int):=od_
        obtain ⟨ad229,e229,hx229_0,hx229_1,hx229_2,hx229_3,hx229_4⟩:=at_T78 HR1.out x5_1 p229 q229
        cases e229
        replace p229:=eq_true p229
        replace q229:=eq_true q229
        go_wp2
        repeat (go_quiet (fail);try go_wp2)
        go_ret
        exact ⟨by first|rfl|(simp;done)|(simp [*];done),by repeat (first|exact Drawn0.refl _|apply Drawn0.step)⟩
       ·rw [if_neg c7] at H
        have c7b0:(!(((rd_T78 l0 x5_1).f0)==((rd_T78 l1 x5_1).f0)) || (!((((rd_T78 l0 x5_1).f1).toList)==(((rd_T78 l1 x5_1).f1).toList)) || (!(((rd_T78 l0 x5_1).f2)==((rd_T78 l1 x5_1).f2)) || (!(((rd_T78 l0 x5_1).f3)==((rd_T78 l1 x5_1).f3)) || (!(((rd_T78 l0 x5_1).f4)==((rd_T78 l1 x5_1).f4)))))))=false:=by simpa using c7
        clear c7
        have H':=Aside0.mk H
        clear H
        have p228:0≤(x5_1:Int):=od_
        have q228:x5_1 < (l0.length:Int):=od_
        obtain ⟨ad228,e228,hx228_0,hx228_1,hx228_2,hx228_3,hx228_4⟩:=at_T78 HR0.out x5_1 p228 q228
        cases e228
        replace p228:=eq_true p228
        replace q228:=eq_true q228
        have p229:0≤(x5_1:Int):=od_
        have q229:x5_1 < (l1.length:Int):=od_
        obtain ⟨ad229,e229,hx229_0,hx229_1,hx229_2,hx229_3,hx229_4⟩:=at_T78 HR1.out x5_1 p229 q229
        cases e229
        replace p229:=eq_true p229
        replace q229:=eq_true q229
        go_wp2
        repeat (go_quiet (fail);try go_wp2)
        go_roundg k1
        case measure => have:=HK1.out;omega
        case rel => exact ⟨(wrap64 (x5_1 + 1)),r3_,H',⟨by have:=HK1.out;omega⟩,by repeat (first|exact Drawn0.refl _|apply Drawn0.step)⟩
      ·rw [if_neg c6] at H
       exact absurd H (by simp)
     ·rw [if_neg c5] at H
      exact absurd H (by simp)
    ·rw [if_neg c4] at H
     have c4b0:decide (x5_1 < (l0.length:Int))=false:=decide_eq_false c4
     clear c4
     obtain rfl:=Option.some.inj H
     go_wp2
     repeat (go_quiet (fail);try go_wp2)
     go_ret
     exact ⟨by first|rfl|(simp;done)|(simp [*];done),by repeat (first|exact Drawn0.refl _|apply Drawn0.step)⟩
 ·rw [if_neg c3] at H
  have c3b0:((l0.length:Int)==(l1.length:Int))=false:=beq_eq_false_iff_ne.mpr c3
  have c3b1:((l0.length:Int) != (l1.length:Int))=true:=bne_iff_ne.mpr c3
  have c3b2:(l0.length==l1.length)=false:=by first|simpa using c3|(simp at c3 ⊢;omega)
  obtain rfl:=Option.some.inj H
  go_enter Tryd.func12,Tryd.ntmps12
  go_wp2
  repeat (go_quiet (fail);try go_wp2)
  go_ret
  exact ⟨by first|rfl|(simp;done)|(simp [*];done),by repeat (first|exact Drawn0.refl _|apply Drawn0.step)⟩
end Go.Proofs.YtoonhpcjcimecaaDoor.Px
namespace Go.Proofs.YtoonhpcjcimecaaDoor.Px
open Go.RowKit Go.Proofs.YtoonhpcjcimecaaDoorW.PrintWords Go.Proofs.YtoonhpcjcimecaaDoorW.PrintLast Go.Proofs.YtoonhpcjcimecaaDoorW.PrintMore
attribute [local go_sem] max2_int min2_int max_two min_two max_three min_three max_four min_four
set_option linter.unusedVariables false
set_option linter.unusedSimpArgs false
def link_types.l0:Nat→Bool→List (S78)→List (S86)→Int→Int→Option ((List (S78)))
 | 0,_,_,_,_,_ => none
 | k + 1,x1,x5,x10,x11,x12 => if x12 < x11 then (if 0≤x12 then (if x12 < (x10.length:Int) then (if (((rd_T86 x10 x12).f2)==x1)=true then ((kind_Field.f k ((rd_T86 x10 x12).f1)).bind fun bt137 => (if x5.length < 2932031007402 then (link_types.l0 k x1 (x5++[(⟨bt137.1,bt137.2.1,bt137.2.2.1,bt137.2.2.2.1,bt137.2.2.2.2.1⟩:S78)]) x10 x11 (wrap64 (x12 + 1))) else (none))) else (link_types.l0 k x1 x5 x10 x11 (wrap64 (x12 + 1)))) else (none)) else (none)) else (some x5)
def link_types.f (k:Nat) (l0:List (S86)) (a1:Bool):Option ((List (S78))):=link_types.l0 k a1 ([]:List (S78)) l0 (l0.length:Int) 0
set_option maxHeartbeats 80000000 in
set_option maxRecDepth 100000 in
theorem link_types.calls (k:Nat) (A0:Option Addr) (c0:Nat) (l0:List (S86)) (a1:Bool) (r:List (S78)) (w:World) (hG:Aside0 (GG w)) (hr0:Kd.C k86 w A0 l0.length l0) (hc0:l0.length≤c0) (h:link_types.f k l0 a1=some r) :
  Calls Tryd.prog 28 #[.slice A0 l0.length c0,.bool a1] w fun e w' => ∃ v0_:Value,e=.returned (v0_)∧Kd.R k78 78 w' w.heap.size (fun _ => True) v0_ r∧Below w.heap.size w w':=by
 have hu86:=Tryd.underlying86
 have hu78:=Tryd.underlying78
 have HR0:=Aside0.mk hr0
 have HC0:=Aside0.mk hc0
 clear hr0 hc0
 have HB:=Aside0.mk (Below.refl w.heap.size w)
 have H:(link_types.l0 k a1 ([]:List (S78)) l0 (l0.length:Int) 0)=some r:=h
 clear h
 have H':=Aside0.mk H
 clear H
 go_enter Tryd.func28,Tryd.ntmps28
 go_wp2
 go_loopg [5,12] k (fun kq v5 v12 w' => ∃ (x5_1:List (S78)) (x12_1:Int),v12=.int .i64 x12_1∧Aside0 (link_types.l0 kq a1 x5_1 l0 (l0.length:Int) x12_1=some r)∧Aside0 (kq≤k)∧Aside0 (Kd.R k78 78 w' w.heap.size (fun _ => True) v5 x5_1)∧Aside0 (Below w.heap.size w w'))
 case atStart => exact ⟨(([]:List (S78))),(0),r3_,H',⟨Nat.le_refl _⟩,⟨by first|exact Kd.R_nil _ _ _ _ _|exact Kd.N_nil _ _ _ _ _|exact Kd.V_nil _ _ _ _ _|exact Kd.Q_nil _ _ _ _ _|exact Kd.S_nil _ _ _ _ _⟩,⟨bl_⟩⟩
 case round =>
  clear H'
  obtain ⟨x5_1,x12_1,rfl,HA,HK1,HO_5,HB⟩:=hrel
  cases gk with
  | zero => exact absurd HA.out (by simp [link_types.l0])
  | succ k1 =>
   have H:=HA.out
   clear HA
   simp only [link_types.l0] at H
   by_cases c3:x12_1 < (l0.length:Int)
   ·rw [if_pos c3] at H
    have c3b0:decide (x12_1 < (l0.length:Int))=true:=decide_eq_true c3
    clear c3
    by_cases c4:0≤x12_1
    ·rw [if_pos c4] at H
     have c4b0:decide (0≤x12_1)=true:=decide_eq_true c4
     clear c4
     by_cases c5:x12_1 < (l0.length:Int)
     ·rw [if_pos c5] at H
      have c5b0:decide (x12_1 < (l0.length:Int))=true:=decide_eq_true c5
      clear c5
      by_cases c6:(((rd_T86 l0 x12_1).f2)==a1)=true
      ·rw [if_pos c6] at H
       have c6b0:(((rd_T86 l0 x12_1).f2)==a1)=true:=c6
       (try (have c6b1:decide (((rd_T86 l0 x12_1).f2)=a1)=true:=by simpa using c6))
       (try (have c6b2:(((rd_T86 l0 x12_1).f2)==a1)=true:=by simpa using c6))
       clear c6
       replace H:=Option.bind_eq_some_iff.mp H
       obtain ⟨⟨t137,t138,t139,t140,t141,t142⟩,A70,H⟩:=H
       try dsimp only at H
       have A7:=Aside0.mk A70
       clear A70
       by_cases c8:x5_1.length < 2932031007402
       ·rw [if_pos c8] at H
        have LMc8:=Aside0.mk c8
        clear c8
        obtain ⟨y144,hy144⟩:∃ y_:List (S78),y_=(x5_1++[(⟨t137,t138,t139,t140,t141⟩:S78)]):=⟨_,rfl⟩
        replace H:(link_types.l0 k1 a1 y144 l0 (l0.length:Int) (wrap64 (x12_1 + 1)))=some r:=by first|(rw [hy144];with_reducible exact H)|(have H2_:=(Option.bind_some _ _).symm.trans H;rw [hy144];with_reducible exact H2_)|(have H2_:=(Option.bind_some _ _).symm.trans H;with_reducible exact H2_)|with_reducible exact H|(rw [hy144];exact H)|exact H
        have Ny144:=Aside0.mk hy144
        clear hy144
        have H':=Aside0.mk H
        clear H
        have p135:0≤(x12_1:Int):=od_
        have q135:x12_1 < (l0.length:Int):=od_
        obtain ⟨ad135,e135,hx135_0,hx135_1,hx135_2⟩:=at_T86 HR0.out x12_1 p135 q135
        cases e135
        replace hx135_0:=hb_ HB hx135_0
        replace hx135_1:=hb_ HB hx135_1
        replace hx135_2:=hb_ HB hx135_2
        replace p135:=eq_true p135
        replace q135:=eq_true q135
        go_wp2_with (first|((with_reducible refine gate_dst (N:=7) rfl ?_);refine box_event ?hg (N:=7) ?hd (cs:=#[.string (⟨#[]⟩:ByteArray),.string (⟨#[]⟩:ByteArray),.bool false]) (t:=86) ?hr ?_;(case hd => rfl);(case hg => rfl);(case hr => first|(go_simp;done)|(go_simp;rfl));intro gb136 hg w9 hbox hb;have n0_:=Aside0.mk (Kd.R_below (kr_ HO_5.out) hb);have n1_:=Aside0.mk (below_step bl_ hb);have n2_:=Aside0.mk (hbox);have n3_:=Aside0.mk ((by rw [hg];exact (below_size bl_):w.heap.size≤gb136));have n4_:=Aside0.mk ((by rw [hg];exact (below_size bl_):w.heap.size≤gb136));clear HO_5;clear HB;have HO_5:=n0_;have HB:=n1_;have BK136:=n2_;have GW136:=n3_;have GE136:=n4_;clear n0_ n1_ n2_ n3_ n4_;clear hb hbox hg;obtain ⟨hcz10_0,hcz10_1,hcz10_2,hfz10_0,hfz10_1,hfz10_2⟩:=blk3_ BK136.out)|(refine callA_ (f:=42) (some 23) Tryd.func42 #[.string ((rd_T86 l0 x12_1).f1)] ?_;(with_reducible refine (kind_Field.calls k1 ((rd_T86 l0 x12_1).f1) t137 t138 t139 t140 t141 t142 _ ?side1 A7.out).mono ?_);(case side1 => exact ⟨GG.below hG.out bl_⟩);rintro e w11 ⟨rfl,hb⟩;refine ⟨_,rfl,?_⟩;have n0_:=Aside0.mk (Kd.R_below (by (with_reducible repeat (first|apply Kd.R_alloc|apply Kd.R_drewN|apply Kd.R_drew));exact (Kd.R_mono (Kd.R_far (p:=⟨gb136,2,none⟩) (Kd.R_far (p:=⟨gb136,1,none⟩) (Kd.R_far (p:=⟨gb136,0,none⟩) (Kd.R_types HO_5.out BK136.out (by decide)) (fun _ hk => hk.2) (.string ((rd_T86 l0 x12_1).f0))) (fun _ hk => hk.2) (.string ((rd_T86 l0 x12_1).f1))) (fun _ hk => hk.2) (.bool ((rd_T86 l0 x12_1).f2))) (fun _ h_ => h_.1))) hb);have n1_:=Aside0.mk (blk_below (g:=gb136) (o:=.cells #[.string ((rd_T86 l0 x12_1).f0),.string ((rd_T86 l0 x12_1).f1),.bool ((rd_T86 l0 x12_1).f2)] 86 (0,0)) (st3_ BK136.out) hb);have n2_:=Aside0.mk (below_step bl_ hb);clear HO_5;clear BK136;clear HB;have HO_5:=n0_;have BK136:=n1_;have HB:=n2_;clear n0_ n1_ n2_;(try clear hb);(try clear hb2);(try clear hk);(try clear hi))|((with_reducible refine gate_dst (N:=8) rfl ?_);refine box_event ?hg (N:=8) ?hd (cs:=#[.int .i64 0,.string (⟨#[]⟩:ByteArray),.int .i64 0,.int .i64 0,.int .i64 0]) (t:=78) ?hr ?_;(case hd => rfl);(case hg => rfl);(case hr => first|(go_simp;done)|(go_simp;rfl));intro gb143 hg w12 hbox hb;have n0_:=Aside0.mk (Kd.R_below (Kd.R_elderB (kr_ HO_5.out) gb143 (Nat.le_of_eq hg.symm)) hb);have n1_:=Aside0.mk (blk_below (g:=gb136) (o:=.cells #[.string ((rd_T86 l0 x12_1).f0),.string ((rd_T86 l0 x12_1).f1),.bool ((rd_T86 l0 x12_1).f2)] 86 (0,0)) bk_ hb);have n2_:=Aside0.mk (below_step bl_ hb);have n3_:=Aside0.mk (hbox);have n4_:=Aside0.mk ((by rw [hg];exact (below_size bl_):w.heap.size≤gb143));have n5_:=Aside0.mk ((by rw [hg];exact (below_size bl_):w.heap.size≤gb143));have n6_:=Aside0.mk ((by rw [hg];exact Nat.ne_of_lt (blk_lt (g:=gb136) (o:=.cells #[.string ((rd_T86 l0 x12_1).f0),.string ((rd_T86 l0 x12_1).f1),.bool ((rd_T86 l0 x12_1).f2)] 86 (0,0)) bk_):gb136 ≠ gb143));have n7_:=Aside0.mk ((by rw [hg];exact Nat.ne_of_gt (blk_lt (g:=gb136) (o:=.cells #[.string ((rd_T86 l0 x12_1).f0),.string ((rd_T86 l0 x12_1).f1),.bool ((rd_T86 l0 x12_1).f2)] 86 (0,0)) bk_):gb143 ≠ gb136));clear HO_5;clear BK136;clear HB;have HO_5:=n0_;have BK136:=n1_;have HB:=n2_;have BK143:=n3_;have GW143:=n4_;have GE143:=n5_;have NB136_143:=n6_;have NB143_136:=n7_;clear n0_ n1_ n2_ n3_ n4_ n5_ n6_ n7_;clear hb hbox hg;have hnb13:=NB143_136.out;have hnc13:=NB136_143.out;obtain ⟨hcz14_0,hcz14_1,hcz14_2,hcz14_3,hcz14_4,hfz14_0,hfz14_1,hfz14_2,hfz14_3,hfz14_4⟩:=blk5_ BK143.out)|((with_reducible refine gate_store (t:=78) (p:=8) rfl ?_);refine store_event (t:=78) (p:=8) (v:=?vo_w15) (w1:=(((((w12.setCell ⟨gb143,0,none⟩ (.int .i64 t137)).setCell ⟨gb143,1,none⟩ (.string t138)).setCell ⟨gb143,2,none⟩ (.int .i64 t139)).setCell ⟨gb143,3,none⟩ (.int .i64 t140)).setCell ⟨gb143,4,none⟩ (.int .i64 t141))) ?hg ?ho ?hn ?hr ?_;(case ho => rfl);(case hg => rfl);(case hn => rfl);(case hr => first|(go_simp;done)|(go_simp;rfl));intro w15 hw;have n0_:Aside0 (Kd.R k78 78 w15 w.heap.size (fun k_ => k_ ≠ gb143) u5 x5_1):=⟨(by rw [hw];exact (by (with_reducible repeat (first|apply Kd.R_alloc|apply Kd.R_drewN|apply Kd.R_drew));exact Kd.R_mono (Kd.R_far (p:=⟨gb143,4,none⟩) (Kd.R_far (p:=⟨gb143,3,none⟩) (Kd.R_far (p:=⟨gb143,2,none⟩) (Kd.R_far (p:=⟨gb143,1,none⟩) (Kd.R_far (p:=⟨gb143,0,none⟩) (Kd.R_mono HO_5.out (fun k_ hk => (⟨hk,hk.2⟩:_∧k_ ≠ gb143))) (fun _ hk => hk.2) (.int .i64 t137)) (fun _ hk => hk.2) (.string t138)) (fun _ hk => hk.2) (.int .i64 t139)) (fun _ hk => hk.2) (.int .i64 t140)) (fun _ hk => hk.2) (.int .i64 t141)) (fun _ hk => hk.1.2)))⟩;have n1_:Aside0 (w15.heap[gb136]?=some (.cells #[.string ((rd_T86 l0 x12_1).f0),.string ((rd_T86 l0 x12_1).f1),.bool ((rd_T86 l0 x12_1).f2)] 86 (0,0))):=⟨(by rw [hw];exact bk_)⟩;have n2_:Aside0 (w15.heap[gb143]?=some (.cells #[.int .i64 t137,.string t138,.int .i64 t139,.int .i64 t140,.int .i64 t141] 78 (0,0))):=⟨(by rw [hw];exact (st5_ BK143.out))⟩;have n3_:Aside0 (Below w.heap.size w w15):=⟨(by rw [hw];exact bl_)⟩;clear hw;clear HO_5;clear BK136;clear BK143;clear HB;have HO_5:=n0_;have BK136:=n1_;have BK143:=n2_;have HB:=n3_;clear n0_ n1_ n2_ n3_;obtain ⟨hcz16_0,hcz16_1,hcz16_2,hcz16_3,hcz16_4,hfz16_0,hfz16_1,hfz16_2,hfz16_3,hfz16_4⟩:=blk5_ BK143.out)|((with_reducible refine gate_builtin (b:=.append) (xs:=#[.tmp 26,.tmp 28]) rfl ?_);at_builtin;refine Kd.R_append k78 (w0:=w) w.heap.size rfl (.tmp 26) (.tmp 28) 32 78 (.agg #[(.int .i64 0),(.string ⟨#[]⟩),(.int .i64 0),(.int .i64 0),(.int .i64 0)]) 48 rfl Tryd.underlying32 info78 rfl (by decide) (by omega) u5 x5_1 (⟨t137,t138,t139,t140,t141⟩:S78) [.int .i64 t137,.string t138,.int .i64 t139,.int .i64 t140,.int .i64 t141] (fun k_ => k_ ≠ gb143) (fun _ => False) rfl rfl ?aP (fun _ hk => hk.elim) ?aF ?aO ?aB ?aS ?aL ?_;(case aP => exact k78_mkM _ _ _ (⟨t137,t138,t139,t140,t141⟩:S78));(case aB => exact bl_);(case aF => exact (fun k_ hk => Kd.freshB (g:=gb143) (o:=.cells #[.int .i64 t137,.string t138,.int .i64 t139,.int .i64 t140,.int .i64 t141] 78 (0,0)) bk_ k_ hk));(case aO => exact (kr_ HO_5.out));(case aS => exact (below_size bl_));(case aL => have:=LMc8.out;omega);intro v145 w17 ho hb hg hat;rw [← Ny144.out] at ho;have n0_:=Aside0.mk (blk_grown (g:=gb136) (o:=.cells #[.string ((rd_T86 l0 x12_1).f0),.string ((rd_T86 l0 x12_1).f1),.bool ((rd_T86 l0 x12_1).f2)] 86 (0,0)) bk_ hg (Kd.R_ne HO_5.out BK136.out (by decide)));have n1_:=Aside0.mk (blk_grown (g:=gb143) (o:=.cells #[.int .i64 t137,.string t138,.int .i64 t139,.int .i64 t140,.int .i64 t141] 78 (0,0)) bk_ hg (Kd.R_away HO_5.out (fun _ hk => hk)));have n2_:=Aside0.mk (hb);have n3_:=Aside0.mk (ho);clear BK136;clear BK143;clear HB;clear HO_5;have BK136:=n0_;have BK143:=n1_;have HB:=n2_;have HO146:=n3_;clear n0_ n1_ n2_ n3_;clear ho hb hg hat))
        go_roundg k1
        case measure => have:=HK1.out;omega
        case rel => exact ⟨(y144),(wrap64 (x12_1 + 1)),r3_,H',⟨by have:=HK1.out;omega⟩,⟨by (with_reducible repeat (first|apply Kd.R_alloc|apply Kd.R_drewN|apply Kd.R_drew));exact Kd.R_mono HO146.out (fun _ hk => trivial)⟩,⟨bl_⟩⟩
       ·rw [if_neg c8] at H
        exact absurd H (by simp)
      ·rw [if_neg c6] at H
       have c6b0:(((rd_T86 l0 x12_1).f2)==a1)=false:=by simpa using c6
       (try (have c6b1:decide (((rd_T86 l0 x12_1).f2)=a1)=false:=by simpa using c6))
       (try (have c6b2:(((rd_T86 l0 x12_1).f2)==a1)=false:=by simpa using c6))
       (try (have c6b3:¬ (((rd_T86 l0 x12_1).f2)=a1):=by simpa using c6))
       clear c6
       have H':=Aside0.mk H
       clear H
       have p135:0≤(x12_1:Int):=od_
       have q135:x12_1 < (l0.length:Int):=od_
       obtain ⟨ad135,e135,hx135_0,hx135_1,hx135_2⟩:=at_T86 HR0.out x12_1 p135 q135
       cases e135
       replace hx135_0:=hb_ HB hx135_0
       replace hx135_1:=hb_ HB hx135_1
       replace hx135_2:=hb_ HB hx135_2
       replace p135:=eq_true p135
       replace q135:=eq_true q135
       go_wp2_with (first|((with_reducible refine gate_dst (N:=7) rfl ?_);refine box_event ?hg (N:=7) ?hd (cs:=#[.string (⟨#[]⟩:ByteArray),.string (⟨#[]⟩:ByteArray),.bool false]) (t:=86) ?hr ?_;(case hd => rfl);(case hg => rfl);(case hr => first|(go_simp;done)|(go_simp;rfl));intro gb136 hg w18 hbox hb;have n0_:=Aside0.mk (Kd.R_below (kr_ HO_5.out) hb);have n1_:=Aside0.mk (below_step bl_ hb);have n2_:=Aside0.mk (hbox);have n3_:=Aside0.mk ((by rw [hg];exact (below_size bl_):w.heap.size≤gb136));have n4_:=Aside0.mk ((by rw [hg];exact (below_size bl_):w.heap.size≤gb136));clear HO_5;clear HB;have HO_5:=n0_;have HB:=n1_;have BK136:=n2_;have GW136:=n3_;have GE136:=n4_;clear n0_ n1_ n2_ n3_ n4_;clear hb hbox hg;obtain ⟨hcz19_0,hcz19_1,hcz19_2,hfz19_0,hfz19_1,hfz19_2⟩:=blk3_ BK136.out))
       go_roundg k1
       case measure => have:=HK1.out;omega
       case rel => exact ⟨(x5_1),(wrap64 (x12_1 + 1)),r3_,H',⟨by have:=HK1.out;omega⟩,⟨by (with_reducible repeat (first|apply Kd.R_alloc|apply Kd.R_drewN|apply Kd.R_drew));exact Kd.R_mono (Kd.R_far (p:=⟨gb136,2,none⟩) (Kd.R_far (p:=⟨gb136,1,none⟩) (Kd.R_far (p:=⟨gb136,0,none⟩) (Kd.R_types HO_5.out BK136.out (by decide)) (fun _ hk => hk.2) (.string ((rd_T86 l0 x12_1).f0))) (fun _ hk => hk.2) (.string ((rd_T86 l0 x12_1).f1))) (fun _ hk => hk.2) (.bool ((rd_T86 l0 x12_1).f2))) (fun _ hk => trivial)⟩,⟨bl_⟩⟩
     ·rw [if_neg c5] at H
      exact absurd H (by simp)
    ·rw [if_neg c4] at H
     exact absurd H (by simp)
   ·rw [if_neg c3] at H
    have c3b0:decide (x12_1 < (l0.length:Int))=false:=decide_eq_false c3
    clear c3
    obtain rfl:=Option.some.inj H
    go_wp2
    go_ret
    exact ⟨_,ew_,kr_ HO_5.out,bl_⟩
end Go.Proofs.YtoonhpcjcimecaaDoor.Px
namespace Go.Proofs.YtoonhpcjcimecaaDoor.Px
open Go.RowKit Go.Proofs.YtoonhpcjcimecaaDoorW.PrintWords Go.Proofs.YtoonhpcjcimecaaDoorW.PrintLast Go.Proofs.YtoonhpcjcimecaaDoorW.PrintMore
attribute [local go_sem] max2_int min2_int max_two min_two max_three min_three max_four min_four
set_option linter.unusedVariables false
set_option linter.unusedSimpArgs false
def link_typed.f (k:Nat) (a0:ByteArray):Option (Bool):=if 1 + a0.size≤9223372036854775807 then (if ((⟨#[76]⟩:ByteArray)++a0).size + 1≤9223372036854775807 then ((kind_Field.f k (((⟨#[76]⟩:ByteArray)++a0)++(⟨#[59]⟩:ByteArray))).bind fun bt268 => (if bt268.2.2.2.2.2=0 then (some (bt268.2.1.toList==a0.toList)) else (some false))) else (none)) else (none)
set_option maxHeartbeats 80000000 in
set_option maxRecDepth 100000 in
theorem link_typed.calls (k:Nat) (a0:ByteArray) (r:Bool) (w:World) (hG:Aside0 (GG w)) (h:link_typed.f k a0=some r) :
  Calls Tryd.prog 50 #[.string a0] w fun e w' => e=.returned (.bool r)∧Below w.heap.size w w':=by
 have hu78:=Tryd.underlying78
 have HB:=Aside0.mk (Below.refl w.heap.size w)
 have H:(if 1 + a0.size≤9223372036854775807 then (if ((⟨#[76]⟩:ByteArray)++a0).size + 1≤9223372036854775807 then ((kind_Field.f k (((⟨#[76]⟩:ByteArray)++a0)++(⟨#[59]⟩:ByteArray))).bind fun bt268 => (if bt268.2.2.2.2.2=0 then (some (bt268.2.1.toList==a0.toList)) else (some false))) else (none)) else (none))=some r:=h
 clear h
 by_cases c2:1 + a0.size≤9223372036854775807
 ·rw [if_pos c2] at H
  have c2b0:=eq_true c2
  have c2b1:decide (1 + a0.size≤9223372036854775807)=true:=decide_eq_true c2
  try have c2b2:(9223372036854775807 < 1 + a0.size)=False:=eq_false (Nat.not_lt.2 c2)
  by_cases c3:((⟨#[76]⟩:ByteArray)++a0).size + 1≤9223372036854775807
  ·rw [if_pos c3] at H
   have c3b0:=eq_true c3
   have c3b1:decide (((⟨#[76]⟩:ByteArray)++a0).size + 1≤9223372036854775807)=true:=decide_eq_true c3
   have c3n:1 + a0.size + 1≤9223372036854775807:=by have h_:=c3;rw [ByteArray.size_append] at h_;exact h_
   have c3n0:=eq_true c3n
   have c3n1:decide (1 + a0.size + 1≤9223372036854775807)=true:=decide_eq_true c3n
   try have c3n2:(9223372036854775807 < 1 + a0.size + 1)=False:=eq_false (Nat.not_lt.2 c3n)
   try have c3b2:(9223372036854775807 < ((⟨#[76]⟩:ByteArray)++a0).size + 1)=False:=eq_false (Nat.not_lt.2 c3)
   replace H:=Option.bind_eq_some_iff.mp H
   obtain ⟨⟨t268,t269,t270,t271,t272,t273⟩,A40,H⟩:=H
   try dsimp only at H
   have A4:=Aside0.mk A40
   clear A40
   by_cases c5:t273=0
   ·rw [if_pos c5] at H
    have c5b0:(t273==0)=true:=beq_iff_eq.mpr c5
    have c5b1:(t273 != 0)=false:=bne_eq_false_iff_eq.mpr c5
    clear c5
    obtain rfl:=Option.some.inj H
    go_enter Tryd.func50,Tryd.ntmps50
    go_wp2_with (first|(refine callA_ (f:=42) (some 9) Tryd.func42 #[.string (((⟨#[76]⟩:ByteArray)++a0)++(⟨#[59]⟩:ByteArray))] ?_;(with_reducible refine (kind_Field.calls k (((⟨#[76]⟩:ByteArray)++a0)++(⟨#[59]⟩:ByteArray)) t268 t269 t270 t271 t272 t273 _ ?side1 A4.out).mono ?_);(case side1 => exact ⟨GG.below hG.out bl_⟩);rintro e w6 ⟨rfl,hb⟩;refine ⟨_,rfl,?_⟩;have n0_:=Aside0.mk (below_step bl_ hb);clear HB;have HB:=n0_;clear n0_;(try clear hb);(try clear hb2);(try clear hk);(try clear hi))|((with_reducible refine gate_dst (N:=3) rfl ?_);refine box_event ?hg (N:=3) ?hd (cs:=#[.int .i64 0,.string (⟨#[]⟩:ByteArray),.int .i64 0,.int .i64 0,.int .i64 0]) (t:=78) ?hr ?_;(case hd => rfl);(case hg => rfl);(case hr => first|(go_simp;done)|(go_simp;rfl));intro gb274 hg w7 hbox hb;have n0_:=Aside0.mk (below_step bl_ hb);have n1_:=Aside0.mk (hbox);have n2_:=Aside0.mk ((by rw [hg];exact (below_size bl_):w.heap.size≤gb274));have n3_:=Aside0.mk ((by rw [hg];exact (below_size bl_):w.heap.size≤gb274));clear HB;have HB:=n0_;have BK274:=n1_;have GW274:=n2_;have GE274:=n3_;clear n0_ n1_ n2_ n3_;clear hb hbox hg;obtain ⟨hcz8_0,hcz8_1,hcz8_2,hcz8_3,hcz8_4,hfz8_0,hfz8_1,hfz8_2,hfz8_3,hfz8_4⟩:=blk5_ BK274.out)|((with_reducible refine gate_store (t:=78) (p:=3) rfl ?_);refine store_event (t:=78) (p:=3) (v:=?vo_w9) (w1:=(((((w7.setCell ⟨gb274,0,none⟩ (.int .i64 t268)).setCell ⟨gb274,1,none⟩ (.string t269)).setCell ⟨gb274,2,none⟩ (.int .i64 t270)).setCell ⟨gb274,3,none⟩ (.int .i64 t271)).setCell ⟨gb274,4,none⟩ (.int .i64 t272))) ?hg ?ho ?hn ?hr ?_;(case ho => rfl);(case hg => rfl);(case hn => rfl);(case hr => first|(go_simp;done)|(go_simp;rfl));intro w9 hw;have n0_:Aside0 (w9.heap[gb274]?=some (.cells #[.int .i64 t268,.string t269,.int .i64 t270,.int .i64 t271,.int .i64 t272] 78 (0,0))):=⟨(by rw [hw];exact (st5_ BK274.out))⟩;have n1_:Aside0 (Below w.heap.size w w9):=⟨(by rw [hw];exact bl_)⟩;clear hw;clear BK274;clear HB;have BK274:=n0_;have HB:=n1_;clear n0_ n1_;obtain ⟨hcz10_0,hcz10_1,hcz10_2,hcz10_3,hcz10_4,hfz10_0,hfz10_1,hfz10_2,hfz10_3,hfz10_4⟩:=blk5_ BK274.out))
    go_ret
    exact ⟨ew_,bl_⟩
   ·rw [if_neg c5] at H
    have c5b0:(t273==0)=false:=beq_eq_false_iff_ne.mpr c5
    have c5b1:(t273 != 0)=true:=bne_iff_ne.mpr c5
    obtain rfl:=Option.some.inj H
    go_enter Tryd.func50,Tryd.ntmps50
    go_wp2_with (first|(refine callA_ (f:=42) (some 9) Tryd.func42 #[.string (((⟨#[76]⟩:ByteArray)++a0)++(⟨#[59]⟩:ByteArray))] ?_;(with_reducible refine (kind_Field.calls k (((⟨#[76]⟩:ByteArray)++a0)++(⟨#[59]⟩:ByteArray)) t268 t269 t270 t271 t272 t273 _ ?side1 A4.out).mono ?_);(case side1 => exact ⟨GG.below hG.out bl_⟩);rintro e w11 ⟨rfl,hb⟩;refine ⟨_,rfl,?_⟩;have n0_:=Aside0.mk (below_step bl_ hb);clear HB;have HB:=n0_;clear n0_;(try clear hb);(try clear hb2);(try clear hk);(try clear hi))|((with_reducible refine gate_dst (N:=3) rfl ?_);refine box_event ?hg (N:=3) ?hd (cs:=#[.int .i64 0,.string (⟨#[]⟩:ByteArray),.int .i64 0,.int .i64 0,.int .i64 0]) (t:=78) ?hr ?_;(case hd => rfl);(case hg => rfl);(case hr => first|(go_simp;done)|(go_simp;rfl));intro gb274 hg w12 hbox hb;have n0_:=Aside0.mk (below_step bl_ hb);have n1_:=Aside0.mk (hbox);have n2_:=Aside0.mk ((by rw [hg];exact (below_size bl_):w.heap.size≤gb274));have n3_:=Aside0.mk ((by rw [hg];exact (below_size bl_):w.heap.size≤gb274));clear HB;have HB:=n0_;have BK274:=n1_;have GW274:=n2_;have GE274:=n3_;clear n0_ n1_ n2_ n3_;clear hb hbox hg;obtain ⟨hcz13_0,hcz13_1,hcz13_2,hcz13_3,hcz13_4,hfz13_0,hfz13_1,hfz13_2,hfz13_3,hfz13_4⟩:=blk5_ BK274.out)|((with_reducible refine gate_store (t:=78) (p:=3) rfl ?_);refine store_event (t:=78) (p:=3) (v:=?vo_w14) (w1:=(((((w12.setCell ⟨gb274,0,none⟩ (.int .i64 t268)).setCell ⟨gb274,1,none⟩ (.string t269)).setCell ⟨gb274,2,none⟩ (.int .i64 t270)).setCell ⟨gb274,3,none⟩ (.int .i64 t271)).setCell ⟨gb274,4,none⟩ (.int .i64 t272))) ?hg ?ho ?hn ?hr ?_;(case ho => rfl);(case hg => rfl);(case hn => rfl);(case hr => first|(go_simp;done)|(go_simp;rfl));intro w14 hw;have n0_:Aside0 (w14.heap[gb274]?=some (.cells #[.int .i64 t268,.string t269,.int .i64 t270,.int .i64 t271,.int .i64 t272] 78 (0,0))):=⟨(by rw [hw];exact (st5_ BK274.out))⟩;have n1_:Aside0 (Below w.heap.size w w14):=⟨(by rw [hw];exact bl_)⟩;clear hw;clear BK274;clear HB;have BK274:=n0_;have HB:=n1_;clear n0_ n1_))
    go_ret
    exact ⟨ew_,bl_⟩
  ·rw [if_neg c3] at H
   exact absurd H (by simp)
 ·rw [if_neg c2] at H
  exact absurd H (by simp)
mutual
def kind_Method.l0:Nat→List (S78)→ByteArray→Int→Option ((List (S78)) × Int × ByteArray × Int × Int × Int × Int)
 | 0,_,_,_ => none
 | k + 1,x6,x277000,x277001 => (kind_scan_left.f x277000 x277001).bind fun bt278 => (if bt278.1.toList=([]:List UInt8) then (kind_Method.j1 k x6 false bt278.2.1 bt278.2.2) else ((kind_scan_left.f bt278.2.1 bt278.2.2).bind fun bt281 => (if 0 < (bt281.1.size:Int) then (kind_Method.j1 k x6 ((bt bt281.1 0) != 41) bt281.2.1 bt281.2.2) else (none))))
def kind_Method.j1:Nat→List (S78)→Bool→ByteArray→Int→Option ((List (S78)) × Int × ByteArray × Int × Int × Int × Int)
 | 0,_,_,_,_ => none
 | k + 1,x6,x33,x277000,x277001 => if x33=true then ((kind_scan_field.f k x277000 x277001).bind fun bt284 => (if bt284.2.2.2.2.2.1=true then (if (x6.length:Int)=16 then (some (([]:List (S78)),0,(⟨#[]⟩:ByteArray),0,0,0,80)) else (if x6.length < 2932031007402 then (kind_Method.l0 k (x6++[(⟨bt284.1,bt284.2.1,bt284.2.2.1,bt284.2.2.2.1,bt284.2.2.2.2.1⟩:S78)]) bt284.2.2.2.2.2.2.1 bt284.2.2.2.2.2.2.2) else (none))) else (some (([]:List (S78)),0,(⟨#[]⟩:ByteArray),0,0,0,80)))) else ((kind_scan_left.f x277000 x277001).bind fun bt296 => (if bt296.1.toList=([]:List UInt8) then (some (([]:List (S78)),0,(⟨#[]⟩:ByteArray),0,0,0,80)) else (if bt296.1.toList=([41,86]:List UInt8) then (some (x6,8,(⟨#[]⟩:ByteArray),0,0,0,0)) else ((kind_scan_left.f bt296.2.1 bt296.2.2).bind fun bt299 => (if 1≤(bt299.1.size:Int) then ((kind_Field.f k (bt299.1.extract 1 bt299.1.size)).bind fun bt302 => (if bt302.2.2.2.2.2=0 then (some (x6,bt302.1,bt302.2.1,bt302.2.2.1,bt302.2.2.2.1,bt302.2.2.2.2.1,0)) else (some (([]:List (S78)),0,(⟨#[]⟩:ByteArray),0,0,0,bt302.2.2.2.2.2)))) else (none))))))
end
def kind_Method.f (k:Nat) (a0:ByteArray):Option ((List (S78)) × Int × ByteArray × Int × Int × Int × Int):=(strings_HasPrefix.f a0 (⟨#[40]⟩:ByteArray)).bind fun t277 => (if t277=true then (kind_Method.l0 k ([]:List (S78)) a0 (0 + 1)) else (some (([]:List (S78)),0,(⟨#[]⟩:ByteArray),0,0,0,80)))
set_option maxHeartbeats 80000000 in
set_option maxRecDepth 100000 in
theorem kind_Method.calls (k:Nat) (a0:ByteArray) (r1:List (S78)) (r2:Int) (r3:ByteArray) (r4:Int) (r5:Int) (r6:Int) (r7:Int) (w:World) (hG:Aside0 (GG w)) (h:kind_Method.f k a0=some (r1,r2,r3,r4,r5,r6,r7)) :
  Calls Tryd.prog 51 #[.string a0] w fun e w' => ∃ v0_:Value,e=.returned (.tuple #[v0_,.agg #[.int .i64 r2,.string r3,.int .i64 r4,.int .i64 r5,.int .i64 r6],.int .i64 r7])∧Kd.R k78 78 w' w.heap.size (fun _ => True) v0_ r1∧Below w.heap.size w w':=by
 have hu78:=Tryd.underlying78
 have hu127:=Tryd.underlying127
 have HB:=Aside0.mk (Below.refl w.heap.size w)
 have H:((strings_HasPrefix.f a0 (⟨#[40]⟩:ByteArray)).bind fun t277 => (if t277=true then (kind_Method.l0 k ([]:List (S78)) a0 (0 + 1)) else (some (([]:List (S78)),0,(⟨#[]⟩:ByteArray),0,0,0,80))))=some (r1,r2,r3,r4,r5,r6,r7):=h
 clear h
 replace H:=Option.bind_eq_some_iff.mp H
 obtain ⟨t277,A20,H⟩:=H
 try dsimp only at H
 have A2:=Aside0.mk A20
 clear A20
 by_cases c3:t277=true
 ·subst c3
  rw [if_pos rfl] at H
  have H':=Aside0.mk H
  clear H
  go_enter Tryd.func51,Tryd.ntmps51
  go_wp2_with (first|((with_reducible refine gate_dst (N:=3) rfl ?_);(try (refine gate_guard (by rfl) ?_;dsimp only));refine box_event ?hg (N:=3) ?hd (cs:=#[.int .i64 0,.string (⟨#[]⟩:ByteArray),.int .i64 0,.int .i64 0,.int .i64 0]) (t:=78) ?hr ?_;(case hd => rfl);(case hg => rfl);(case hr => first|(go_simp;done)|(go_simp;rfl));intro gb275 hg w4 hbox hb;have n0_:=Aside0.mk (below_step bl_ hb);have n1_:=Aside0.mk (hbox);have n2_:=Aside0.mk ((by rw [hg];exact (below_size bl_):w.heap.size≤gb275));have n3_:=Aside0.mk ((by rw [hg];exact (below_size bl_):w.heap.size≤gb275));clear HB;have HB:=n0_;have BK275:=n1_;have GW275:=n2_;have GE275:=n3_;clear n0_ n1_ n2_ n3_;clear hb hbox hg)|((with_reducible refine gate_dst (N:=13) rfl ?_);(try (refine gate_guard (by rfl) ?_;dsimp only));refine box_event ?hg (N:=13) ?hd (cs:=#[.string a0,.int .i64 0]) (t:=127) ?hr ?_;(case hd => rfl);(case hg => rfl);(case hr => first|(go_simp;done)|(go_simp;rfl));intro gb276 hg w5 hbox hb;have n0_:=Aside0.mk (blk_below (g:=gb275) (o:=.cells #[.int .i64 0,.string (⟨#[]⟩:ByteArray),.int .i64 0,.int .i64 0,.int .i64 0] 78 (0,0)) bk_ hb);have n1_:=Aside0.mk (below_step bl_ hb);have n2_:=Aside0.mk (hbox);have n3_:=Aside0.mk ((by rw [hg];exact (below_size bl_):w.heap.size≤gb276));have n4_:=Aside0.mk ((by rw [hg];exact (below_size bl_):w.heap.size≤gb276));have n5_:=Aside0.mk ((by rw [hg];exact Nat.ne_of_lt (blk_lt (g:=gb275) (o:=.cells #[.int .i64 0,.string (⟨#[]⟩:ByteArray),.int .i64 0,.int .i64 0,.int .i64 0] 78 (0,0)) bk_):gb275 ≠ gb276));have n6_:=Aside0.mk ((by rw [hg];exact Nat.ne_of_gt (blk_lt (g:=gb275) (o:=.cells #[.int .i64 0,.string (⟨#[]⟩:ByteArray),.int .i64 0,.int .i64 0,.int .i64 0] 78 (0,0)) bk_):gb276 ≠ gb275));clear BK275;clear HB;have BK275:=n0_;have HB:=n1_;have BK276:=n2_;have GW276:=n3_;have GE276:=n4_;have NB275_276:=n5_;have NB276_275:=n6_;clear n0_ n1_ n2_ n3_ n4_ n5_ n6_;clear hb hbox hg;have HI276:=Aside0.mk (show IsS127 w w5 gb276 a0 0 from ⟨BK276.out,GE276.out⟩);clear BK276)|(refine callA_ (f:=61) (some 15) Tryd.func61 #[.string a0,.string (⟨#[40]⟩:ByteArray)] ?_;(with_reducible refine (strings_HasPrefix.calls a0 (⟨#[40]⟩:ByteArray) true _ A2.out).mono ?_);rintro e w' ⟨rfl,⟨nd,rfl⟩⟩;refine ⟨_,rfl,?_⟩;(try (rw [drewN_self w5];generalize hq_:World.drewN w5 _=w5;have n0_:Aside0 (w5.heap[gb275]?=some (.cells #[.int .i64 0,.string (⟨#[]⟩:ByteArray),.int .i64 0,.int .i64 0,.int .i64 0] 78 (0,0))):=⟨by rw [← hq_];exact bk_⟩;have n1_:Aside0 (IsS127 w w5 gb276 a0 0):=⟨by rw [← hq_];exact (by repeat (first|(with_reducible first|exact HI276.out|apply IsS127.alloc|apply IsS127.drewN|apply IsS127.drew|apply IsS127.set_0|apply IsS127.set_1|apply IsS127.far (hne:=NB276_275.out))|exact HI276.out|apply IsS127.set_0|apply IsS127.set_1))⟩;have n2_:Aside0 (Below w.heap.size w w5):=⟨by rw [← hq_];exact (by repeat (first|(with_reducible first|exact HB.out|apply below_alloc|apply pw_below_drewN|apply below_drew1|refine below_set ?_ (IsS127.ge HI276.out)|refine below_set ?_ GE275.out)|exact HB.out))⟩;clear BK275 HI276 HB hq_;have BK275:=n0_;have HI276:=n1_;have HB:=n2_;clear n0_ n1_ n2_));obtain ⟨HGz6,hgz6⟩:=HI276.out;have hcz6_0:=cellS127_0 HGz6;have hcz6_1:=cellS127_1 HGz6;have hfz6_0:=blk_frozen HGz6 0;have hfz6_1:=blk_frozen HGz6 1;clear HGz6 hgz6))
  go_loopg [6] k (fun kq v6 w' => ∃ (x6_1:List (S78)) (x276000_1:Int) (x276001_1:ByteArray) (x276002_1:Int) (x276003_1:Int) (x276004_1:Int) (x277000_1:ByteArray) (x277001_1:Int),Aside0 (kind_Method.l0 kq x6_1 x277000_1 x277001_1=some (r1,r2,r3,r4,r5,r6,r7))∧Aside0 (kq≤k)∧Aside0 (Kd.R k78 78 w' w.heap.size (fun k_ => k_ ≠ gb275) v6 x6_1)∧Aside0 (w'.heap[gb275]?=some (.cells #[.int .i64 x276000_1,.string x276001_1,.int .i64 x276002_1,.int .i64 x276003_1,.int .i64 x276004_1] 78 (0,0)))∧Aside0 (IsS127 w w' gb276 x277000_1 x277001_1)∧Aside0 (Below w.heap.size w w'))
  case atStart => exact ⟨(([]:List (S78))),(0),((⟨#[]⟩:ByteArray)),(0),(0),(0),(a0),(0 + 1),H',⟨Nat.le_refl _⟩,⟨by first|exact Kd.R_nil _ _ _ _ _|exact Kd.N_nil _ _ _ _ _|exact Kd.V_nil _ _ _ _ _|exact Kd.Q_nil _ _ _ _ _|exact Kd.S_nil _ _ _ _ _⟩,⟨bk_⟩,⟨by repeat (first|(with_reducible first|exact HI276.out|apply IsS127.alloc|apply IsS127.drewN|apply IsS127.drew|apply IsS127.set_0|apply IsS127.set_1|apply IsS127.far (hne:=NB276_275.out))|exact HI276.out|apply IsS127.set_0|apply IsS127.set_1)⟩,⟨by repeat (first|(with_reducible first|exact HB.out|apply below_alloc|apply pw_below_drewN|apply below_drew1|refine below_set ?_ (IsS127.ge HI276.out)|refine below_set ?_ GE275.out)|exact HB.out)⟩⟩
  case round =>
   clear H'
   try clear c3;try clear hcz6_0;try clear hcz6_1;try clear hfz6_0;try clear hfz6_1
   obtain ⟨x6_1,x276000_1,x276001_1,x276002_1,x276003_1,x276004_1,x277000_1,x277001_1,HA,HK1,HO_6,BK275,HI276,HB⟩:=hrel
   cases gk with
   | zero => exact absurd HA.out (by simp [kind_Method.l0])
   | succ k1 =>
    have H:=HA.out
    clear HA
    simp only [kind_Method.l0] at H
    have HC7:=Aside0.mk H
    clear H
    go_upto_region 6 with (fail)
    go_cut [33] (fun v33 wc => ∃ (kq:Nat) (x33_6:Bool) (x277000_6:ByteArray) (x277001_6:Int),v33=.bool x33_6∧Aside0 (kind_Method.j1 kq x6_1 x33_6 x277000_6 x277001_6=some (r1,r2,r3,r4,r5,r6,r7))∧Aside0 (kq≤k1)∧Aside0 (Kd.R k78 78 wc w.heap.size (fun k_ => k_ ≠ gb275) u6 x6_1)∧Aside0 (wc.heap[gb275]?=some (.cells #[.int .i64 x276000_1,.string x276001_1,.int .i64 x276002_1,.int .i64 x276003_1,.int .i64 x276004_1] 78 (0,0)))∧Aside0 (IsS127 w wc gb276 x277000_6 x277001_6)∧Aside0 (Below w.heap.size w wc))
    case first =>
     have H:=HC7.out
     clear HC7
     replace H:=Option.bind_eq_some_iff.mp H
     obtain ⟨⟨t278,t279,t280⟩,A80,H⟩:=H
     try dsimp only at H
     have A8:=Aside0.mk A80
     clear A80
     by_cases c9:t278.toList=([]:List UInt8)
     ·rw [if_pos c9] at H
      have c9b0:(t278.toList==([]:List UInt8))=true:=beq_iff_eq.mpr c9
      have c9b1:(t278.toList != ([]:List UInt8))=false:=bne_eq_false_iff_eq.mpr c9
      clear c9
      (first|rw [c9b0]|(simp only [i64_w,i32_w];rw [c9b0])|skip)
      have H':=Aside0.mk H
      clear H
      go_wp2_with (first|(refine callA_ (f:=53) (some 26) Tryd.func53 #[.pointer (some ⟨gb276,0,none⟩)] ?_;(with_reducible refine (kind_scan_left.calls gb276 x277000_1 x277001_1 t278 t279 t280 w _ ?side1 ?side2 A8.out).mono ?_);(case side1 => repeat (first|(with_reducible first|exact HI276.out|apply IsS127.alloc|apply IsS127.drewN|apply IsS127.drew|apply IsS127.set_0|apply IsS127.set_1|apply IsS127.far (hne:=NB276_275.out))|exact HI276.out|apply IsS127.set_0|apply IsS127.set_1));(case side2 => repeat (first|(with_reducible first|exact HB.out|apply below_alloc|apply pw_below_drewN|apply below_drew1|refine below_set ?_ (IsS127.ge HI276.out)|refine below_set ?_ GE275.out)|exact HB.out));rintro e w10 ⟨rfl,hi,hb,hk⟩;refine ⟨_,rfl,?_⟩;have n0_:=Aside0.mk (Kd.R_mono (Kd.R_keep (IsS127.apart (show IsS127 w _ gb276 x277000_1 x277001_1 from by repeat (first|(with_reducible first|exact HI276.out|apply IsS127.alloc|apply IsS127.drewN|apply IsS127.drew|apply IsS127.set_0|apply IsS127.set_1|apply IsS127.far (hne:=NB276_275.out))|exact HI276.out|apply IsS127.set_0|apply IsS127.set_1)) (kr_ HO_6.out) (by decide)) hk (fun _ h => h.2)) (fun _ h => h.1));have n1_:=Aside0.mk (KeepBut.blk hk (g':=gb275) (o:=.cells #[.int .i64 x276000_1,.string x276001_1,.int .i64 x276002_1,.int .i64 x276003_1,.int .i64 x276004_1] 78 (0,0)) bk_ NB275_276.out (by simp));have n2_:=Aside0.mk (hb);have n3_:=Aside0.mk (hi);clear HO_6;clear BK275;clear HB;clear HI276;have HO_6:=n0_;have BK275:=n1_;have HB:=n2_;have HI276:=n3_;clear n0_ n1_ n2_ n3_;(try clear hb);(try clear hb2);(try clear hk);(try clear hi)))
      go_meet
      case rel => exact ⟨_,(false),(t279),(t280),r3_,H',⟨by have:=HK1.out;first|omega|exact Nat.le_refl _⟩,⟨kr_ HO_6.out⟩,⟨bk_⟩,⟨by repeat (first|(with_reducible first|exact HI276.out|apply IsS127.alloc|apply IsS127.drewN|apply IsS127.drew|apply IsS127.set_0|apply IsS127.set_1|apply IsS127.far (hne:=NB276_275.out))|exact HI276.out|apply IsS127.set_0|apply IsS127.set_1)⟩,⟨by repeat (first|(with_reducible first|exact HB.out|apply below_alloc|apply pw_below_drewN|apply below_drew1|refine below_set ?_ (IsS127.ge HI276.out)|refine below_set ?_ GE275.out)|exact HB.out)⟩⟩
     ·rw [if_neg c9] at H
      have c9b0:(t278.toList==([]:List UInt8))=false:=beq_eq_false_iff_ne.mpr c9
      have c9b1:(t278.toList != ([]:List UInt8))=true:=bne_iff_ne.mpr c9
      (first|rw [c9b0]|(simp only [i64_w,i32_w];rw [c9b0])|skip)
      replace H:=Option.bind_eq_some_iff.mp H
      obtain ⟨⟨t281,t282,t283⟩,A110,H⟩:=H
      try dsimp only at H
      have A11:=Aside0.mk A110
      clear A110
      by_cases c12:0 < (t281.size:Int)
      ·rw [if_pos c12] at H
       have c12b0:decide (0 < (t281.size:Int))=true:=decide_eq_true c12
       have c12b1:decide (0 < t281.size)=true:=decide_eq_true (by omega)
       clear c12
       have H':=Aside0.mk H
       clear H
       go_wp2_with (first|(refine callA_ (f:=53) (some 26) Tryd.func53 #[.pointer (some ⟨gb276,0,none⟩)] ?_;(with_reducible refine (kind_scan_left.calls gb276 x277000_1 x277001_1 t278 t279 t280 w _ ?side1 ?side2 A8.out).mono ?_);(case side1 => repeat (first|(with_reducible first|exact HI276.out|apply IsS127.alloc|apply IsS127.drewN|apply IsS127.drew|apply IsS127.set_0|apply IsS127.set_1|apply IsS127.far (hne:=NB276_275.out))|exact HI276.out|apply IsS127.set_0|apply IsS127.set_1));(case side2 => repeat (first|(with_reducible first|exact HB.out|apply below_alloc|apply pw_below_drewN|apply below_drew1|refine below_set ?_ (IsS127.ge HI276.out)|refine below_set ?_ GE275.out)|exact HB.out));rintro e w14 ⟨rfl,hi,hb,hk⟩;refine ⟨_,rfl,?_⟩;have n0_:=Aside0.mk (Kd.R_mono (Kd.R_keep (IsS127.apart (show IsS127 w _ gb276 x277000_1 x277001_1 from by repeat (first|(with_reducible first|exact HI276.out|apply IsS127.alloc|apply IsS127.drewN|apply IsS127.drew|apply IsS127.set_0|apply IsS127.set_1|apply IsS127.far (hne:=NB276_275.out))|exact HI276.out|apply IsS127.set_0|apply IsS127.set_1)) (kr_ HO_6.out) (by decide)) hk (fun _ h => h.2)) (fun _ h => h.1));have n1_:=Aside0.mk (KeepBut.blk hk (g':=gb275) (o:=.cells #[.int .i64 x276000_1,.string x276001_1,.int .i64 x276002_1,.int .i64 x276003_1,.int .i64 x276004_1] 78 (0,0)) bk_ NB275_276.out (by simp));have n2_:=Aside0.mk (hb);have n3_:=Aside0.mk (hi);clear HO_6;clear BK275;clear HB;clear HI276;have HO_6:=n0_;have BK275:=n1_;have HB:=n2_;have HI276:=n3_;clear n0_ n1_ n2_ n3_;(try clear hb);(try clear hb2);(try clear hk);(try clear hi))|(go_at_call 53;(with_reducible refine (kind_scan_left.calls gb276 t279 t280 t281 t282 t283 w _ ?side1 ?side2 A11.out).mono ?_);(case side1 => repeat (first|(with_reducible first|exact HI276.out|apply IsS127.alloc|apply IsS127.drewN|apply IsS127.drew|apply IsS127.set_0|apply IsS127.set_1|apply IsS127.far (hne:=NB276_275.out))|exact HI276.out|apply IsS127.set_0|apply IsS127.set_1));(case side2 => repeat (first|(with_reducible first|exact HB.out|apply below_alloc|apply pw_below_drewN|apply below_drew1|refine below_set ?_ (IsS127.ge HI276.out)|refine below_set ?_ GE275.out)|exact HB.out));rintro e w15 ⟨rfl,hi,hb,hk⟩;have n0_:=Aside0.mk (Kd.R_mono (Kd.R_keep (IsS127.apart (show IsS127 w _ gb276 t279 t280 from by repeat (first|(with_reducible first|exact HI276.out|apply IsS127.alloc|apply IsS127.drewN|apply IsS127.drew|apply IsS127.set_0|apply IsS127.set_1|apply IsS127.far (hne:=NB276_275.out))|exact HI276.out|apply IsS127.set_0|apply IsS127.set_1)) (kr_ HO_6.out) (by decide)) hk (fun _ h => h.2)) (fun _ h => h.1));have n1_:=Aside0.mk (KeepBut.blk hk (g':=gb275) (o:=.cells #[.int .i64 x276000_1,.string x276001_1,.int .i64 x276002_1,.int .i64 x276003_1,.int .i64 x276004_1] 78 (0,0)) bk_ NB275_276.out (by simp));have n2_:=Aside0.mk (hb);have n3_:=Aside0.mk (hi);clear HO_6;clear BK275;clear HB;clear HI276;have HO_6:=n0_;have BK275:=n1_;have HB:=n2_;have HI276:=n3_;clear n0_ n1_ n2_ n3_;(try clear hb);(try clear hb2);(try clear hk);(try clear hi);have p13:0≤(0:Int):=(by omega);have q13:0 < t281.size:=(by have:(0:Int) < (t281.size:Int):=od_;omega);have hx13:∀ h:0 < t281.size,((t281[0]'h).toNat:Int)=bt t281 0:=bt_at t281 0;clear p13;have qi13:(0 < (t281.size:Int))=True:=eq_true (od_);replace q13:=eq_true q13))
       go_meet
       case rel => exact ⟨_,(((bt t281 0) != 41)),(t282),(t283),r3_,H',⟨by have:=HK1.out;first|omega|exact Nat.le_refl _⟩,⟨kr_ HO_6.out⟩,⟨bk_⟩,⟨by repeat (first|(with_reducible first|exact HI276.out|apply IsS127.alloc|apply IsS127.drewN|apply IsS127.drew|apply IsS127.set_0|apply IsS127.set_1|apply IsS127.far (hne:=NB276_275.out))|exact HI276.out|apply IsS127.set_0|apply IsS127.set_1)⟩,⟨by repeat (first|(with_reducible first|exact HB.out|apply below_alloc|apply pw_below_drewN|apply below_drew1|refine below_set ?_ (IsS127.ge HI276.out)|refine below_set ?_ GE275.out)|exact HB.out)⟩⟩
      ·rw [if_neg c12] at H
       exact absurd H (by simp)
    case rest =>
     clear HC7
     obtain ⟨kq,x33_6,x277000_6,x277001_6,rfl,HA,HJ6,HO_6,BK275,HI276,HB⟩:=hcut
     cases kq with
     | zero => exact absurd HA.out (by simp [kind_Method.j1])
     | succ kj6 =>
      have H:=HA.out
      clear HA
      simp only [kind_Method.j1] at H
      by_cases c16:x33_6=true
      ·subst c16
       rw [if_pos rfl] at H
       replace H:=Option.bind_eq_some_iff.mp H
       obtain ⟨⟨t284,t285,t286,t287,t288,t289,t290,t291⟩,A170,H⟩:=H
       try dsimp only at H
       have A17:=Aside0.mk A170
       clear A170
       by_cases c18:t289=true
       ·subst c18
        rw [if_pos rfl] at H
        by_cases c19:(x6_1.length:Int)=16
        ·rw [if_pos c19] at H
         have c19b0:((x6_1.length:Int)==16)=true:=beq_iff_eq.mpr c19
         have c19b1:((x6_1.length:Int) != 16)=false:=bne_eq_false_iff_eq.mpr c19
         clear c19
         simp only [Option.some.injEq,Prod.mk.injEq] at H
         obtain ⟨rfl,rfl,rfl,rfl,rfl,rfl,rfl⟩:=H
         go_wp2_with (first|(refine callA_ (f:=52) (some 36) Tryd.func52 #[.pointer (some ⟨gb276,0,none⟩)] ?_;(with_reducible refine (kind_scan_field.calls kj6 gb276 x277000_6 x277001_6 t284 t285 t286 t287 t288 true t290 t291 w _ hG ?side1 ?side2 A17.out).mono ?_);(case side1 => repeat (first|(with_reducible first|exact HI276.out|apply IsS127.alloc|apply IsS127.drewN|apply IsS127.drew|apply IsS127.set_0|apply IsS127.set_1|apply IsS127.far (hne:=NB276_275.out))|exact HI276.out|apply IsS127.set_0|apply IsS127.set_1));(case side2 => repeat (first|(with_reducible first|exact HB.out|apply below_alloc|apply pw_below_drewN|apply below_drew1|refine below_set ?_ (IsS127.ge HI276.out)|refine below_set ?_ GE275.out)|exact HB.out));rintro e w20 ⟨rfl,hi,hb,hk⟩;refine ⟨_,rfl,?_⟩;have n0_:=Aside0.mk (Kd.R_mono (Kd.R_keep (IsS127.apart (show IsS127 w _ gb276 x277000_6 x277001_6 from by repeat (first|(with_reducible first|exact HI276.out|apply IsS127.alloc|apply IsS127.drewN|apply IsS127.drew|apply IsS127.set_0|apply IsS127.set_1|apply IsS127.far (hne:=NB276_275.out))|exact HI276.out|apply IsS127.set_0|apply IsS127.set_1)) (kr_ HO_6.out) (by decide)) hk (fun _ h => h.2)) (fun _ h => h.1));have n1_:=Aside0.mk (KeepBut.blk hk (g':=gb275) (o:=.cells #[.int .i64 x276000_1,.string x276001_1,.int .i64 x276002_1,.int .i64 x276003_1,.int .i64 x276004_1] 78 (0,0)) bk_ NB275_276.out (by simp));have n2_:=Aside0.mk (hb);have n3_:=Aside0.mk (hi);clear HO_6;clear BK275;clear HB;clear HI276;have HO_6:=n0_;have BK275:=n1_;have HB:=n2_;have HI276:=n3_;clear n0_ n1_ n2_ n3_;(try clear hb);(try clear hb2);(try clear hk);(try clear hi))|((with_reducible refine gate_dst (N:=7) rfl ?_);(try (refine gate_guard (by rfl) ?_;dsimp only));refine box_event ?hg (N:=7) ?hd (cs:=#[.int .i64 0,.string (⟨#[]⟩:ByteArray),.int .i64 0,.int .i64 0,.int .i64 0]) (t:=78) ?hr ?_;(case hd => rfl);(case hg => rfl);(case hr => first|(go_simp;done)|(go_simp;rfl));intro gb292 hg w21 hbox hb;have n0_:=Aside0.mk (Kd.R_below (Kd.R_elderB (kr_ HO_6.out) gb292 (Nat.le_of_eq hg.symm)) hb);have n1_:=Aside0.mk (blk_below (g:=gb275) (o:=.cells #[.int .i64 x276000_1,.string x276001_1,.int .i64 x276002_1,.int .i64 x276003_1,.int .i64 x276004_1] 78 (0,0)) bk_ hb);have n2_:=Aside0.mk (IsS127.below (by repeat (first|(with_reducible first|exact HI276.out|apply IsS127.alloc|apply IsS127.drewN|apply IsS127.drew|apply IsS127.set_0|apply IsS127.set_1|apply IsS127.far (hne:=NB276_275.out))|exact HI276.out|apply IsS127.set_0|apply IsS127.set_1)) hb);have n3_:=Aside0.mk (below_step (by repeat (first|(with_reducible first|exact HB.out|apply below_alloc|apply pw_below_drewN|apply below_drew1|refine below_set ?_ (IsS127.ge HI276.out)|refine below_set ?_ GE275.out)|exact HB.out)) hb);have n4_:=Aside0.mk (hbox);have n5_:=Aside0.mk ((by rw [hg];exact (below_size (by repeat (first|(with_reducible first|exact HB.out|apply below_alloc|apply pw_below_drewN|apply below_drew1|refine below_set ?_ (IsS127.ge HI276.out)|refine below_set ?_ GE275.out)|exact HB.out))):w.heap.size≤gb292));have n6_:=Aside0.mk ((by rw [hg];exact (below_size (by repeat (first|(with_reducible first|exact HB.out|apply below_alloc|apply pw_below_drewN|apply below_drew1|refine below_set ?_ (IsS127.ge HI276.out)|refine below_set ?_ GE275.out)|exact HB.out))):w.heap.size≤gb292));have n7_:=Aside0.mk ((by rw [hg];exact Nat.ne_of_lt (blk_lt (g:=gb275) (o:=.cells #[.int .i64 x276000_1,.string x276001_1,.int .i64 x276002_1,.int .i64 x276003_1,.int .i64 x276004_1] 78 (0,0)) bk_):gb275 ≠ gb292));have n8_:=Aside0.mk ((by rw [hg];exact Nat.ne_of_gt (blk_lt (g:=gb275) (o:=.cells #[.int .i64 x276000_1,.string x276001_1,.int .i64 x276002_1,.int .i64 x276003_1,.int .i64 x276004_1] 78 (0,0)) bk_):gb292 ≠ gb275));have n9_:=Aside0.mk ((by rw [hg];exact Nat.ne_of_lt (IsS127.lt (show IsS127 w _ gb276 t290 t291 from by repeat (first|(with_reducible first|exact HI276.out|apply IsS127.alloc|apply IsS127.drewN|apply IsS127.drew|apply IsS127.set_0|apply IsS127.set_1|apply IsS127.far (hne:=NB276_275.out))|exact HI276.out|apply IsS127.set_0|apply IsS127.set_1))):gb276 ≠ gb292));have n10_:=Aside0.mk ((by rw [hg];exact Nat.ne_of_gt (IsS127.lt (show IsS127 w _ gb276 t290 t291 from by repeat (first|(with_reducible first|exact HI276.out|apply IsS127.alloc|apply IsS127.drewN|apply IsS127.drew|apply IsS127.set_0|apply IsS127.set_1|apply IsS127.far (hne:=NB276_275.out))|exact HI276.out|apply IsS127.set_0|apply IsS127.set_1))):gb292 ≠ gb276));clear HO_6;clear BK275;clear HI276;clear HB;have HO_6:=n0_;have BK275:=n1_;have HI276:=n2_;have HB:=n3_;have BK292:=n4_;have GW292:=n5_;have GE292:=n6_;have NB275_292:=n7_;have NB292_275:=n8_;have NB276_292:=n9_;have NB292_276:=n10_;clear n0_ n1_ n2_ n3_ n4_ n5_ n6_ n7_ n8_ n9_ n10_;clear hb hbox hg;have hnb22:=NB292_275.out;have hnc22:=NB275_292.out;have hnb23:=NB292_276.out;have hnc23:=NB276_292.out;obtain ⟨hcz24_0,hcz24_1,hcz24_2,hcz24_3,hcz24_4,hfz24_0,hfz24_1,hfz24_2,hfz24_3,hfz24_4⟩:=blk5_ BK292.out)|((with_reducible refine gate_store (t:=78) (p:=7) rfl ?_);refine store_event (t:=78) (p:=7) (v:=?vo_w25) (w1:=(((((w21.setCell ⟨gb292,0,none⟩ (.int .i64 t284)).setCell ⟨gb292,1,none⟩ (.string t285)).setCell ⟨gb292,2,none⟩ (.int .i64 t286)).setCell ⟨gb292,3,none⟩ (.int .i64 t287)).setCell ⟨gb292,4,none⟩ (.int .i64 t288))) ?hg ?ho ?hn ?hr ?_;(case ho => rfl);(case hg => rfl);(case hn => rfl);(case hr => first|(go_simp;done)|(go_simp;rfl));intro w25 hw;have n0_:Aside0 (Kd.R k78 78 w25 w.heap.size (fun k_ => k_ ≠ gb275∧k_ ≠ gb292) u6 x6_1):=⟨(by rw [hw];exact (by (with_reducible repeat (first|apply Kd.R_alloc|apply Kd.R_drewN|apply Kd.R_drew));exact Kd.R_mono (Kd.R_far (p:=⟨gb292,4,none⟩) (Kd.R_far (p:=⟨gb292,3,none⟩) (Kd.R_far (p:=⟨gb292,2,none⟩) (Kd.R_far (p:=⟨gb292,1,none⟩) (Kd.R_far (p:=⟨gb292,0,none⟩) (Kd.R_mono HO_6.out (fun k_ hk => (⟨hk,hk.2⟩:_∧k_ ≠ gb292))) (fun _ hk => hk.2) (.int .i64 t284)) (fun _ hk => hk.2) (.string t285)) (fun _ hk => hk.2) (.int .i64 t286)) (fun _ hk => hk.2) (.int .i64 t287)) (fun _ hk => hk.2) (.int .i64 t288)) (fun _ hk => ⟨hk.1.1,hk.1.2⟩)))⟩;have n1_:Aside0 (w25.heap[gb275]?=some (.cells #[.int .i64 x276000_1,.string x276001_1,.int .i64 x276002_1,.int .i64 x276003_1,.int .i64 x276004_1] 78 (0,0))):=⟨(by rw [hw];exact bk_)⟩;have n2_:Aside0 (w25.heap[gb292]?=some (.cells #[.int .i64 t284,.string t285,.int .i64 t286,.int .i64 t287,.int .i64 t288] 78 (0,0))):=⟨(by rw [hw];exact (st5_ BK292.out))⟩;have n3_:Aside0 (IsS127 w w25 gb276 t290 t291):=⟨(by rw [hw];exact (by repeat (first|(with_reducible first|exact HI276.out|apply IsS127.alloc|apply IsS127.drewN|apply IsS127.drew|apply IsS127.set_0|apply IsS127.set_1|apply IsS127.far (hne:=NB276_275.out)|apply IsS127.far (hne:=NB276_292.out))|exact HI276.out|apply IsS127.set_0|apply IsS127.set_1)))⟩;have n4_:Aside0 (Below w.heap.size w w25):=⟨(by rw [hw];exact (by repeat (first|(with_reducible first|exact HB.out|apply below_alloc|apply pw_below_drewN|apply below_drew1|refine below_set ?_ (IsS127.ge HI276.out)|refine below_set ?_ GE275.out|refine below_set ?_ GE292.out)|exact HB.out)))⟩;clear hw;clear HO_6;clear BK275;clear BK292;clear HI276;clear HB;have HO_6:=n0_;have BK275:=n1_;have BK292:=n2_;have HI276:=n3_;have HB:=n4_;clear n0_ n1_ n2_ n3_ n4_;obtain ⟨Ao26,co26,eo26⟩:=Kd.R_slice HO_6.out;subst eo26;have hnb27:=NB275_276.out;have hnc27:=NB276_275.out;obtain ⟨hcz28_0,hcz28_1,hcz28_2,hcz28_3,hcz28_4,hfz28_0,hfz28_1,hfz28_2,hfz28_3,hfz28_4⟩:=blk5_ BK275.out)|((with_reducible refine gate_store (t:=78) (p:=3) rfl ?_);refine store_event (t:=78) (p:=3) (v:=?vo_w29) (w1:=(((((w25.setCell ⟨gb275,0,none⟩ (.int .i64 0)).setCell ⟨gb275,1,none⟩ (.string (⟨#[]⟩:ByteArray))).setCell ⟨gb275,2,none⟩ (.int .i64 0)).setCell ⟨gb275,3,none⟩ (.int .i64 0)).setCell ⟨gb275,4,none⟩ (.int .i64 0))) ?hg ?ho ?hn ?hr ?_;(case ho => rfl);(case hg => rfl);(case hn => rfl);(case hr => first|(go_simp;done)|(go_simp;rfl));intro w29 hw;have n0_:Aside0 (Kd.R k78 78 w29 w.heap.size (fun k_ => k_ ≠ gb275∧k_ ≠ gb292) (.slice Ao26 x6_1.length co26) x6_1):=⟨(by rw [hw];exact (by (with_reducible repeat (first|apply Kd.R_alloc|apply Kd.R_drewN|apply Kd.R_drew));exact Kd.R_mono (Kd.R_far (p:=⟨gb275,4,none⟩) (Kd.R_far (p:=⟨gb275,3,none⟩) (Kd.R_far (p:=⟨gb275,2,none⟩) (Kd.R_far (p:=⟨gb275,1,none⟩) (Kd.R_far (p:=⟨gb275,0,none⟩) (Kd.R_mono HO_6.out (fun k_ hk => (⟨hk,hk.1⟩:_∧k_ ≠ gb275))) (fun _ hk => hk.2) (.int .i64 0)) (fun _ hk => hk.2) (.string (⟨#[]⟩:ByteArray))) (fun _ hk => hk.2) (.int .i64 0)) (fun _ hk => hk.2) (.int .i64 0)) (fun _ hk => hk.2) (.int .i64 0)) (fun _ hk => ⟨hk.1.1,hk.1.2⟩)))⟩;have n1_:Aside0 (w29.heap[gb275]?=some (.cells #[.int .i64 0,.string (⟨#[]⟩:ByteArray),.int .i64 0,.int .i64 0,.int .i64 0] 78 (0,0))):=⟨(by rw [hw];exact (st5_ BK275.out))⟩;have n2_:Aside0 (w29.heap[gb292]?=some (.cells #[.int .i64 t284,.string t285,.int .i64 t286,.int .i64 t287,.int .i64 t288] 78 (0,0))):=⟨(by rw [hw];exact bk_)⟩;have n3_:Aside0 (IsS127 w w29 gb276 t290 t291):=⟨(by rw [hw];exact (by repeat (first|(with_reducible first|exact HI276.out|apply IsS127.alloc|apply IsS127.drewN|apply IsS127.drew|apply IsS127.set_0|apply IsS127.set_1|apply IsS127.far (hne:=NB276_275.out)|apply IsS127.far (hne:=NB276_292.out))|exact HI276.out|apply IsS127.set_0|apply IsS127.set_1)))⟩;have n4_:Aside0 (Below w.heap.size w w29):=⟨(by rw [hw];exact (by repeat (first|(with_reducible first|exact HB.out|apply below_alloc|apply pw_below_drewN|apply below_drew1|refine below_set ?_ (IsS127.ge HI276.out)|refine below_set ?_ GE275.out|refine below_set ?_ GE292.out)|exact HB.out)))⟩;clear hw;clear HO_6;clear BK275;clear BK292;clear HI276;clear HB;have HO_6:=n0_;have BK275:=n1_;have BK292:=n2_;have HI276:=n3_;have HB:=n4_;clear n0_ n1_ n2_ n3_ n4_))
         refine bodyPost_ret (results_list (rs:=[.tmp 2,.cell 3 78,.tmp 4]) rfl (by simp) (.tmp (.cell gb275 78 #[.int .i64 0,.string (⟨#[]⟩:ByteArray),.int .i64 0,.int .i64 0,.int .i64 0] (0,0) _ rfl bk_ Tryd.underlying78 rfl (by kernel_rfl) (.tmp .nil)))) rfl ?_
         exact ⟨_,ew_,by first|exact Kd.R_nil _ _ _ _ _|exact Kd.N_nil _ _ _ _ _|exact Kd.V_nil _ _ _ _ _|exact Kd.Q_nil _ _ _ _ _|exact Kd.S_nil _ _ _ _ _,by repeat (first|(with_reducible first|exact HB.out|apply below_alloc|apply pw_below_drewN|apply below_drew1|refine below_set ?_ (IsS127.ge HI276.out)|refine below_set ?_ GE275.out|refine below_set ?_ GE292.out)|exact HB.out)⟩
        ·rw [if_neg c19] at H
         have c19b0:((x6_1.length:Int)==16)=false:=beq_eq_false_iff_ne.mpr c19
         have c19b1:((x6_1.length:Int) != 16)=true:=bne_iff_ne.mpr c19
         by_cases c30:x6_1.length < 2932031007402
         ·rw [if_pos c30] at H
          have LMc30:=Aside0.mk c30
          clear c30
          obtain ⟨y293,hy293⟩:∃ y_:List (S78),y_=(x6_1++[(⟨t284,t285,t286,t287,t288⟩:S78)]):=⟨_,rfl⟩
          replace H:(kind_Method.l0 kj6 y293 t290 t291)=some (r1,r2,r3,r4,r5,r6,r7):=by first|(rw [hy293];with_reducible exact H)|(have H2_:=(Option.bind_some _ _).symm.trans H;rw [hy293];with_reducible exact H2_)|(have H2_:=(Option.bind_some _ _).symm.trans H;with_reducible exact H2_)|with_reducible exact H|(rw [hy293];exact H)|exact H
          have Ny293:=Aside0.mk hy293
          clear hy293
          have H':=Aside0.mk H
          clear H
          go_wp2_with (first|(refine callA_ (f:=52) (some 36) Tryd.func52 #[.pointer (some ⟨gb276,0,none⟩)] ?_;(with_reducible refine (kind_scan_field.calls kj6 gb276 x277000_6 x277001_6 t284 t285 t286 t287 t288 true t290 t291 w _ hG ?side1 ?side2 A17.out).mono ?_);(case side1 => repeat (first|(with_reducible first|exact HI276.out|apply IsS127.alloc|apply IsS127.drewN|apply IsS127.drew|apply IsS127.set_0|apply IsS127.set_1|apply IsS127.far (hne:=NB276_275.out))|exact HI276.out|apply IsS127.set_0|apply IsS127.set_1));(case side2 => repeat (first|(with_reducible first|exact HB.out|apply below_alloc|apply pw_below_drewN|apply below_drew1|refine below_set ?_ (IsS127.ge HI276.out)|refine below_set ?_ GE275.out)|exact HB.out));rintro e w31 ⟨rfl,hi,hb,hk⟩;refine ⟨_,rfl,?_⟩;have n0_:=Aside0.mk (Kd.R_mono (Kd.R_keep (IsS127.apart (show IsS127 w _ gb276 x277000_6 x277001_6 from by repeat (first|(with_reducible first|exact HI276.out|apply IsS127.alloc|apply IsS127.drewN|apply IsS127.drew|apply IsS127.set_0|apply IsS127.set_1|apply IsS127.far (hne:=NB276_275.out))|exact HI276.out|apply IsS127.set_0|apply IsS127.set_1)) (kr_ HO_6.out) (by decide)) hk (fun _ h => h.2)) (fun _ h => h.1));have n1_:=Aside0.mk (KeepBut.blk hk (g':=gb275) (o:=.cells #[.int .i64 x276000_1,.string x276001_1,.int .i64 x276002_1,.int .i64 x276003_1,.int .i64 x276004_1] 78 (0,0)) bk_ NB275_276.out (by simp));have n2_:=Aside0.mk (hb);have n3_:=Aside0.mk (hi);clear HO_6;clear BK275;clear HB;clear HI276;have HO_6:=n0_;have BK275:=n1_;have HB:=n2_;have HI276:=n3_;clear n0_ n1_ n2_ n3_;(try clear hb);(try clear hb2);(try clear hk);(try clear hi))|((with_reducible refine gate_dst (N:=7) rfl ?_);(try (refine gate_guard (by rfl) ?_;dsimp only));refine box_event ?hg (N:=7) ?hd (cs:=#[.int .i64 0,.string (⟨#[]⟩:ByteArray),.int .i64 0,.int .i64 0,.int .i64 0]) (t:=78) ?hr ?_;(case hd => rfl);(case hg => rfl);(case hr => first|(go_simp;done)|(go_simp;rfl));intro gb292 hg w32 hbox hb;have n0_:=Aside0.mk (Kd.R_below (Kd.R_elderB (kr_ HO_6.out) gb292 (Nat.le_of_eq hg.symm)) hb);have n1_:=Aside0.mk (blk_below (g:=gb275) (o:=.cells #[.int .i64 x276000_1,.string x276001_1,.int .i64 x276002_1,.int .i64 x276003_1,.int .i64 x276004_1] 78 (0,0)) bk_ hb);have n2_:=Aside0.mk (IsS127.below (by repeat (first|(with_reducible first|exact HI276.out|apply IsS127.alloc|apply IsS127.drewN|apply IsS127.drew|apply IsS127.set_0|apply IsS127.set_1|apply IsS127.far (hne:=NB276_275.out))|exact HI276.out|apply IsS127.set_0|apply IsS127.set_1)) hb);have n3_:=Aside0.mk (below_step (by repeat (first|(with_reducible first|exact HB.out|apply below_alloc|apply pw_below_drewN|apply below_drew1|refine below_set ?_ (IsS127.ge HI276.out)|refine below_set ?_ GE275.out)|exact HB.out)) hb);have n4_:=Aside0.mk (hbox);have n5_:=Aside0.mk ((by rw [hg];exact (below_size (by repeat (first|(with_reducible first|exact HB.out|apply below_alloc|apply pw_below_drewN|apply below_drew1|refine below_set ?_ (IsS127.ge HI276.out)|refine below_set ?_ GE275.out)|exact HB.out))):w.heap.size≤gb292));have n6_:=Aside0.mk ((by rw [hg];exact (below_size (by repeat (first|(with_reducible first|exact HB.out|apply below_alloc|apply pw_below_drewN|apply below_drew1|refine below_set ?_ (IsS127.ge HI276.out)|refine below_set ?_ GE275.out)|exact HB.out))):w.heap.size≤gb292));have n7_:=Aside0.mk ((by rw [hg];exact Nat.ne_of_lt (blk_lt (g:=gb275) (o:=.cells #[.int .i64 x276000_1,.string x276001_1,.int .i64 x276002_1,.int .i64 x276003_1,.int .i64 x276004_1] 78 (0,0)) bk_):gb275 ≠ gb292));have n8_:=Aside0.mk ((by rw [hg];exact Nat.ne_of_gt (blk_lt (g:=gb275) (o:=.cells #[.int .i64 x276000_1,.string x276001_1,.int .i64 x276002_1,.int .i64 x276003_1,.int .i64 x276004_1] 78 (0,0)) bk_):gb292 ≠ gb275));have n9_:=Aside0.mk ((by rw [hg];exact Nat.ne_of_lt (IsS127.lt (show IsS127 w _ gb276 t290 t291 from by repeat (first|(with_reducible first|exact HI276.out|apply IsS127.alloc|apply IsS127.drewN|apply IsS127.drew|apply IsS127.set_0|apply IsS127.set_1|apply IsS127.far (hne:=NB276_275.out))|exact HI276.out|apply IsS127.set_0|apply IsS127.set_1))):gb276 ≠ gb292));have n10_:=Aside0.mk ((by rw [hg];exact Nat.ne_of_gt (IsS127.lt (show IsS127 w _ gb276 t290 t291 from by repeat (first|(with_reducible first|exact HI276.out|apply IsS127.alloc|apply IsS127.drewN|apply IsS127.drew|apply IsS127.set_0|apply IsS127.set_1|apply IsS127.far (hne:=NB276_275.out))|exact HI276.out|apply IsS127.set_0|apply IsS127.set_1))):gb292 ≠ gb276));clear HO_6;clear BK275;clear HI276;clear HB;have HO_6:=n0_;have BK275:=n1_;have HI276:=n2_;have HB:=n3_;have BK292:=n4_;have GW292:=n5_;have GE292:=n6_;have NB275_292:=n7_;have NB292_275:=n8_;have NB276_292:=n9_;have NB292_276:=n10_;clear n0_ n1_ n2_ n3_ n4_ n5_ n6_ n7_ n8_ n9_ n10_;clear hb hbox hg;have hnb33:=NB292_275.out;have hnc33:=NB275_292.out;have hnb34:=NB292_276.out;have hnc34:=NB276_292.out;obtain ⟨hcz35_0,hcz35_1,hcz35_2,hcz35_3,hcz35_4,hfz35_0,hfz35_1,hfz35_2,hfz35_3,hfz35_4⟩:=blk5_ BK292.out)|((with_reducible refine gate_store (t:=78) (p:=7) rfl ?_);refine store_event (t:=78) (p:=7) (v:=?vo_w36) (w1:=(((((w32.setCell ⟨gb292,0,none⟩ (.int .i64 t284)).setCell ⟨gb292,1,none⟩ (.string t285)).setCell ⟨gb292,2,none⟩ (.int .i64 t286)).setCell ⟨gb292,3,none⟩ (.int .i64 t287)).setCell ⟨gb292,4,none⟩ (.int .i64 t288))) ?hg ?ho ?hn ?hr ?_;(case ho => rfl);(case hg => rfl);(case hn => rfl);(case hr => first|(go_simp;done)|(go_simp;rfl));intro w36 hw;have n0_:Aside0 (Kd.R k78 78 w36 w.heap.size (fun k_ => k_ ≠ gb275∧k_ ≠ gb292) u6 x6_1):=⟨(by rw [hw];exact (by (with_reducible repeat (first|apply Kd.R_alloc|apply Kd.R_drewN|apply Kd.R_drew));exact Kd.R_mono (Kd.R_far (p:=⟨gb292,4,none⟩) (Kd.R_far (p:=⟨gb292,3,none⟩) (Kd.R_far (p:=⟨gb292,2,none⟩) (Kd.R_far (p:=⟨gb292,1,none⟩) (Kd.R_far (p:=⟨gb292,0,none⟩) (Kd.R_mono HO_6.out (fun k_ hk => (⟨hk,hk.2⟩:_∧k_ ≠ gb292))) (fun _ hk => hk.2) (.int .i64 t284)) (fun _ hk => hk.2) (.string t285)) (fun _ hk => hk.2) (.int .i64 t286)) (fun _ hk => hk.2) (.int .i64 t287)) (fun _ hk => hk.2) (.int .i64 t288)) (fun _ hk => ⟨hk.1.1,hk.1.2⟩)))⟩;have n1_:Aside0 (w36.heap[gb275]?=some (.cells #[.int .i64 x276000_1,.string x276001_1,.int .i64 x276002_1,.int .i64 x276003_1,.int .i64 x276004_1] 78 (0,0))):=⟨(by rw [hw];exact bk_)⟩;have n2_:Aside0 (w36.heap[gb292]?=some (.cells #[.int .i64 t284,.string t285,.int .i64 t286,.int .i64 t287,.int .i64 t288] 78 (0,0))):=⟨(by rw [hw];exact (st5_ BK292.out))⟩;have n3_:Aside0 (IsS127 w w36 gb276 t290 t291):=⟨(by rw [hw];exact (by repeat (first|(with_reducible first|exact HI276.out|apply IsS127.alloc|apply IsS127.drewN|apply IsS127.drew|apply IsS127.set_0|apply IsS127.set_1|apply IsS127.far (hne:=NB276_275.out)|apply IsS127.far (hne:=NB276_292.out))|exact HI276.out|apply IsS127.set_0|apply IsS127.set_1)))⟩;have n4_:Aside0 (Below w.heap.size w w36):=⟨(by rw [hw];exact (by repeat (first|(with_reducible first|exact HB.out|apply below_alloc|apply pw_below_drewN|apply below_drew1|refine below_set ?_ (IsS127.ge HI276.out)|refine below_set ?_ GE275.out|refine below_set ?_ GE292.out)|exact HB.out)))⟩;clear hw;clear HO_6;clear BK275;clear BK292;clear HI276;clear HB;have HO_6:=n0_;have BK275:=n1_;have BK292:=n2_;have HI276:=n3_;have HB:=n4_;clear n0_ n1_ n2_ n3_ n4_;obtain ⟨Ao37,co37,eo37⟩:=Kd.R_slice HO_6.out;subst eo37;obtain ⟨hcz38_0,hcz38_1,hcz38_2,hcz38_3,hcz38_4,hfz38_0,hfz38_1,hfz38_2,hfz38_3,hfz38_4⟩:=blk5_ BK292.out)|((with_reducible refine gate_builtin (b:=.append) (xs:=#[.tmp 47,.tmp 49]) rfl ?_);(try (refine gate_guard (by rfl) ?_;dsimp only));at_builtin;refine Kd.R_append k78 (w0:=w) w.heap.size rfl (.tmp 47) (.tmp 49) 32 78 (.agg #[(.int .i64 0),(.string ⟨#[]⟩),(.int .i64 0),(.int .i64 0),(.int .i64 0)]) 48 rfl Tryd.underlying32 info78 rfl (by decide) (by omega) (.slice Ao37 x6_1.length co37) x6_1 (⟨t284,t285,t286,t287,t288⟩:S78) [.int .i64 t284,.string t285,.int .i64 t286,.int .i64 t287,.int .i64 t288] (fun k_ => k_ ≠ gb275∧k_ ≠ gb292) (fun _ => False) rfl rfl ?aP (fun _ hk => hk.elim) ?aF ?aO ?aB ?aS ?aL ?_;(case aP => exact k78_mkM _ _ _ (⟨t284,t285,t286,t287,t288⟩:S78));(case aB => exact (by repeat (first|(with_reducible first|exact HB.out|apply below_alloc|apply pw_below_drewN|apply below_drew1|refine below_set ?_ (IsS127.ge HI276.out)|refine below_set ?_ GE275.out|refine below_set ?_ GE292.out)|exact HB.out)));(case aF => exact (fun k_ hk => ⟨Kd.freshB (g:=gb275) (o:=.cells #[.int .i64 x276000_1,.string x276001_1,.int .i64 x276002_1,.int .i64 x276003_1,.int .i64 x276004_1] 78 (0,0)) bk_ k_ hk,Kd.freshB (g:=gb292) (o:=.cells #[.int .i64 t284,.string t285,.int .i64 t286,.int .i64 t287,.int .i64 t288] 78 (0,0)) bk_ k_ hk⟩));(case aO => exact (kr_ HO_6.out));(case aS => exact (below_size (by repeat (first|(with_reducible first|exact HB.out|apply below_alloc|apply pw_below_drewN|apply below_drew1|refine below_set ?_ (IsS127.ge HI276.out)|refine below_set ?_ GE275.out|refine below_set ?_ GE292.out)|exact HB.out))));(case aL => have:=LMc30.out;omega);intro v294 w39 ho hb hg hat;rw [← Ny293.out] at ho;have n0_:=Aside0.mk (blk_grown (g:=gb275) (o:=.cells #[.int .i64 x276000_1,.string x276001_1,.int .i64 x276002_1,.int .i64 x276003_1,.int .i64 x276004_1] 78 (0,0)) bk_ hg (Kd.R_away HO_6.out (fun _ hk => hk.1)));have n1_:=Aside0.mk (IsS127.grown (by repeat (first|(with_reducible first|exact HI276.out|apply IsS127.alloc|apply IsS127.drewN|apply IsS127.drew|apply IsS127.set_0|apply IsS127.set_1|apply IsS127.far (hne:=NB276_275.out)|apply IsS127.far (hne:=NB276_292.out))|exact HI276.out|apply IsS127.set_0|apply IsS127.set_1)) hg (IsS127.own_ne HI276.out HO_6.out (by decide)));have n2_:=Aside0.mk (blk_grown (g:=gb292) (o:=.cells #[.int .i64 t284,.string t285,.int .i64 t286,.int .i64 t287,.int .i64 t288] 78 (0,0)) bk_ hg (Kd.R_away HO_6.out (fun _ hk => hk.2)));have n3_:=Aside0.mk (hb);have n4_:=Aside0.mk (ho);clear BK275;clear HI276;clear BK292;clear HB;clear HO_6;have BK275:=n0_;have HI276:=n1_;have BK292:=n2_;have HB:=n3_;have HO295:=n4_;clear n0_ n1_ n2_ n3_ n4_;clear ho hb hg hat))
          go_roundg kj6
          case measure => have:=HK1.out;have:=HJ6.out;omega
          case rel => exact ⟨(y293),(x276000_1),(x276001_1),(x276002_1),(x276003_1),(x276004_1),(t290),(t291),H',⟨by have:=HK1.out;have:=HJ6.out;omega⟩,⟨by (with_reducible repeat (first|apply Kd.R_alloc|apply Kd.R_drewN|apply Kd.R_drew));exact Kd.R_mono HO295.out (fun _ hk => hk.1)⟩,⟨bk_⟩,⟨by repeat (first|(with_reducible first|exact HI276.out|apply IsS127.alloc|apply IsS127.drewN|apply IsS127.drew|apply IsS127.set_0|apply IsS127.set_1|apply IsS127.far (hne:=NB276_275.out)|apply IsS127.far (hne:=NB276_292.out))|exact HI276.out|apply IsS127.set_0|apply IsS127.set_1)⟩,⟨by repeat (first|(with_reducible first|exact HB.out|apply below_alloc|apply pw_below_drewN|apply below_drew1|refine below_set ?_ (IsS127.ge HI276.out)|refine below_set ?_ GE275.out|refine below_set ?_ GE292.out)|exact HB.out)⟩⟩
         ·rw [if_neg c30] at H
          exact absurd H (by simp)
       ·replace c18:=Bool.eq_false_iff.mpr c18
        subst c18
        rw [if_neg (show ¬ (false=true) by decide)] at H
        simp only [Option.some.injEq,Prod.mk.injEq] at H
        obtain ⟨rfl,rfl,rfl,rfl,rfl,rfl,rfl⟩:=H
        go_wp2_with (first|(refine callA_ (f:=52) (some 36) Tryd.func52 #[.pointer (some ⟨gb276,0,none⟩)] ?_;(with_reducible refine (kind_scan_field.calls kj6 gb276 x277000_6 x277001_6 t284 t285 t286 t287 t288 false t290 t291 w _ hG ?side1 ?side2 A17.out).mono ?_);(case side1 => repeat (first|(with_reducible first|exact HI276.out|apply IsS127.alloc|apply IsS127.drewN|apply IsS127.drew|apply IsS127.set_0|apply IsS127.set_1|apply IsS127.far (hne:=NB276_275.out))|exact HI276.out|apply IsS127.set_0|apply IsS127.set_1));(case side2 => repeat (first|(with_reducible first|exact HB.out|apply below_alloc|apply pw_below_drewN|apply below_drew1|refine below_set ?_ (IsS127.ge HI276.out)|refine below_set ?_ GE275.out)|exact HB.out));rintro e w40 ⟨rfl,hi,hb,hk⟩;refine ⟨_,rfl,?_⟩;have n0_:=Aside0.mk (Kd.R_mono (Kd.R_keep (IsS127.apart (show IsS127 w _ gb276 x277000_6 x277001_6 from by repeat (first|(with_reducible first|exact HI276.out|apply IsS127.alloc|apply IsS127.drewN|apply IsS127.drew|apply IsS127.set_0|apply IsS127.set_1|apply IsS127.far (hne:=NB276_275.out))|exact HI276.out|apply IsS127.set_0|apply IsS127.set_1)) (kr_ HO_6.out) (by decide)) hk (fun _ h => h.2)) (fun _ h => h.1));have n1_:=Aside0.mk (KeepBut.blk hk (g':=gb275) (o:=.cells #[.int .i64 x276000_1,.string x276001_1,.int .i64 x276002_1,.int .i64 x276003_1,.int .i64 x276004_1] 78 (0,0)) bk_ NB275_276.out (by simp));have n2_:=Aside0.mk (hb);have n3_:=Aside0.mk (hi);clear HO_6;clear BK275;clear HB;clear HI276;have HO_6:=n0_;have BK275:=n1_;have HB:=n2_;have HI276:=n3_;clear n0_ n1_ n2_ n3_;(try clear hb);(try clear hb2);(try clear hk);(try clear hi))|((with_reducible refine gate_dst (N:=7) rfl ?_);(try (refine gate_guard (by rfl) ?_;dsimp only));refine box_event ?hg (N:=7) ?hd (cs:=#[.int .i64 0,.string (⟨#[]⟩:ByteArray),.int .i64 0,.int .i64 0,.int .i64 0]) (t:=78) ?hr ?_;(case hd => rfl);(case hg => rfl);(case hr => first|(go_simp;done)|(go_simp;rfl));intro gb292 hg w41 hbox hb;have n0_:=Aside0.mk (Kd.R_below (Kd.R_elderB (kr_ HO_6.out) gb292 (Nat.le_of_eq hg.symm)) hb);have n1_:=Aside0.mk (blk_below (g:=gb275) (o:=.cells #[.int .i64 x276000_1,.string x276001_1,.int .i64 x276002_1,.int .i64 x276003_1,.int .i64 x276004_1] 78 (0,0)) bk_ hb);have n2_:=Aside0.mk (IsS127.below (by repeat (first|(with_reducible first|exact HI276.out|apply IsS127.alloc|apply IsS127.drewN|apply IsS127.drew|apply IsS127.set_0|apply IsS127.set_1|apply IsS127.far (hne:=NB276_275.out))|exact HI276.out|apply IsS127.set_0|apply IsS127.set_1)) hb);have n3_:=Aside0.mk (below_step (by repeat (first|(with_reducible first|exact HB.out|apply below_alloc|apply pw_below_drewN|apply below_drew1|refine below_set ?_ (IsS127.ge HI276.out)|refine below_set ?_ GE275.out)|exact HB.out)) hb);have n4_:=Aside0.mk (hbox);have n5_:=Aside0.mk ((by rw [hg];exact (below_size (by repeat (first|(with_reducible first|exact HB.out|apply below_alloc|apply pw_below_drewN|apply below_drew1|refine below_set ?_ (IsS127.ge HI276.out)|refine below_set ?_ GE275.out)|exact HB.out))):w.heap.size≤gb292));have n6_:=Aside0.mk ((by rw [hg];exact (below_size (by repeat (first|(with_reducible first|exact HB.out|apply below_alloc|apply pw_below_drewN|apply below_drew1|refine below_set ?_ (IsS127.ge HI276.out)|refine below_set ?_ GE275.out)|exact HB.out))):w.heap.size≤gb292));have n7_:=Aside0.mk ((by rw [hg];exact Nat.ne_of_lt (blk_lt (g:=gb275) (o:=.cells #[.int .i64 x276000_1,.string x276001_1,.int .i64 x276002_1,.int .i64 x276003_1,.int .i64 x276004_1] 78 (0,0)) bk_):gb275 ≠ gb292));have n8_:=Aside0.mk ((by rw [hg];exact Nat.ne_of_gt (blk_lt (g:=gb275) (o:=.cells #[.int .i64 x276000_1,.string x276001_1,.int .i64 x276002_1,.int .i64 x276003_1,.int .i64 x276004_1] 78 (0,0)) bk_):gb292 ≠ gb275));have n9_:=Aside0.mk ((by rw [hg];exact Nat.ne_of_lt (IsS127.lt (show IsS127 w _ gb276 t290 t291 from by repeat (first|(with_reducible first|exact HI276.out|apply IsS127.alloc|apply IsS127.drewN|apply IsS127.drew|apply IsS127.set_0|apply IsS127.set_1|apply IsS127.far (hne:=NB276_275.out))|exact HI276.out|apply IsS127.set_0|apply IsS127.set_1))):gb276 ≠ gb292));have n10_:=Aside0.mk ((by rw [hg];exact Nat.ne_of_gt (IsS127.lt (show IsS127 w _ gb276 t290 t291 from by repeat (first|(with_reducible first|exact HI276.out|apply IsS127.alloc|apply IsS127.drewN|apply IsS127.drew|apply IsS127.set_0|apply IsS127.set_1|apply IsS127.far (hne:=NB276_275.out))|exact HI276.out|apply IsS127.set_0|apply IsS127.set_1))):gb292 ≠ gb276));clear HO_6;clear BK275;clear HI276;clear HB;have HO_6:=n0_;have BK275:=n1_;have HI276:=n2_;have HB:=n3_;have BK292:=n4_;have GW292:=n5_;have GE292:=n6_;have NB275_292:=n7_;have NB292_275:=n8_;have NB276_292:=n9_;have NB292_276:=n10_;clear n0_ n1_ n2_ n3_ n4_ n5_ n6_ n7_ n8_ n9_ n10_;clear hb hbox hg;have hnb42:=NB292_275.out;have hnc42:=NB275_292.out;have hnb43:=NB292_276.out;have hnc43:=NB276_292.out;obtain ⟨hcz44_0,hcz44_1,hcz44_2,hcz44_3,hcz44_4,hfz44_0,hfz44_1,hfz44_2,hfz44_3,hfz44_4⟩:=blk5_ BK292.out)|((with_reducible refine gate_store (t:=78) (p:=7) rfl ?_);refine store_event (t:=78) (p:=7) (v:=?vo_w45) (w1:=(((((w41.setCell ⟨gb292,0,none⟩ (.int .i64 t284)).setCell ⟨gb292,1,none⟩ (.string t285)).setCell ⟨gb292,2,none⟩ (.int .i64 t286)).setCell ⟨gb292,3,none⟩ (.int .i64 t287)).setCell ⟨gb292,4,none⟩ (.int .i64 t288))) ?hg ?ho ?hn ?hr ?_;(case ho => rfl);(case hg => rfl);(case hn => rfl);(case hr => first|(go_simp;done)|(go_simp;rfl));intro w45 hw;have n0_:Aside0 (Kd.R k78 78 w45 w.heap.size (fun k_ => k_ ≠ gb275∧k_ ≠ gb292) u6 x6_1):=⟨(by rw [hw];exact (by (with_reducible repeat (first|apply Kd.R_alloc|apply Kd.R_drewN|apply Kd.R_drew));exact Kd.R_mono (Kd.R_far (p:=⟨gb292,4,none⟩) (Kd.R_far (p:=⟨gb292,3,none⟩) (Kd.R_far (p:=⟨gb292,2,none⟩) (Kd.R_far (p:=⟨gb292,1,none⟩) (Kd.R_far (p:=⟨gb292,0,none⟩) (Kd.R_mono HO_6.out (fun k_ hk => (⟨hk,hk.2⟩:_∧k_ ≠ gb292))) (fun _ hk => hk.2) (.int .i64 t284)) (fun _ hk => hk.2) (.string t285)) (fun _ hk => hk.2) (.int .i64 t286)) (fun _ hk => hk.2) (.int .i64 t287)) (fun _ hk => hk.2) (.int .i64 t288)) (fun _ hk => ⟨hk.1.1,hk.1.2⟩)))⟩;have n1_:Aside0 (w45.heap[gb275]?=some (.cells #[.int .i64 x276000_1,.string x276001_1,.int .i64 x276002_1,.int .i64 x276003_1,.int .i64 x276004_1] 78 (0,0))):=⟨(by rw [hw];exact bk_)⟩;have n2_:Aside0 (w45.heap[gb292]?=some (.cells #[.int .i64 t284,.string t285,.int .i64 t286,.int .i64 t287,.int .i64 t288] 78 (0,0))):=⟨(by rw [hw];exact (st5_ BK292.out))⟩;have n3_:Aside0 (IsS127 w w45 gb276 t290 t291):=⟨(by rw [hw];exact (by repeat (first|(with_reducible first|exact HI276.out|apply IsS127.alloc|apply IsS127.drewN|apply IsS127.drew|apply IsS127.set_0|apply IsS127.set_1|apply IsS127.far (hne:=NB276_275.out)|apply IsS127.far (hne:=NB276_292.out))|exact HI276.out|apply IsS127.set_0|apply IsS127.set_1)))⟩;have n4_:Aside0 (Below w.heap.size w w45):=⟨(by rw [hw];exact (by repeat (first|(with_reducible first|exact HB.out|apply below_alloc|apply pw_below_drewN|apply below_drew1|refine below_set ?_ (IsS127.ge HI276.out)|refine below_set ?_ GE275.out|refine below_set ?_ GE292.out)|exact HB.out)))⟩;clear hw;clear HO_6;clear BK275;clear BK292;clear HI276;clear HB;have HO_6:=n0_;have BK275:=n1_;have BK292:=n2_;have HI276:=n3_;have HB:=n4_;clear n0_ n1_ n2_ n3_ n4_;have hnb46:=NB275_276.out;have hnc46:=NB276_275.out;obtain ⟨hcz47_0,hcz47_1,hcz47_2,hcz47_3,hcz47_4,hfz47_0,hfz47_1,hfz47_2,hfz47_3,hfz47_4⟩:=blk5_ BK275.out)|((with_reducible refine gate_store (t:=78) (p:=3) rfl ?_);refine store_event (t:=78) (p:=3) (v:=?vo_w48) (w1:=(((((w45.setCell ⟨gb275,0,none⟩ (.int .i64 0)).setCell ⟨gb275,1,none⟩ (.string (⟨#[]⟩:ByteArray))).setCell ⟨gb275,2,none⟩ (.int .i64 0)).setCell ⟨gb275,3,none⟩ (.int .i64 0)).setCell ⟨gb275,4,none⟩ (.int .i64 0))) ?hg ?ho ?hn ?hr ?_;(case ho => rfl);(case hg => rfl);(case hn => rfl);(case hr => first|(go_simp;done)|(go_simp;rfl));intro w48 hw;have n0_:Aside0 (Kd.R k78 78 w48 w.heap.size (fun k_ => k_ ≠ gb275∧k_ ≠ gb292) u6 x6_1):=⟨(by rw [hw];exact (by (with_reducible repeat (first|apply Kd.R_alloc|apply Kd.R_drewN|apply Kd.R_drew));exact Kd.R_mono (Kd.R_far (p:=⟨gb275,4,none⟩) (Kd.R_far (p:=⟨gb275,3,none⟩) (Kd.R_far (p:=⟨gb275,2,none⟩) (Kd.R_far (p:=⟨gb275,1,none⟩) (Kd.R_far (p:=⟨gb275,0,none⟩) (Kd.R_mono HO_6.out (fun k_ hk => (⟨hk,hk.1⟩:_∧k_ ≠ gb275))) (fun _ hk => hk.2) (.int .i64 0)) (fun _ hk => hk.2) (.string (⟨#[]⟩:ByteArray))) (fun _ hk => hk.2) (.int .i64 0)) (fun _ hk => hk.2) (.int .i64 0)) (fun _ hk => hk.2) (.int .i64 0)) (fun _ hk => ⟨hk.1.1,hk.1.2⟩)))⟩;have n1_:Aside0 (w48.heap[gb275]?=some (.cells #[.int .i64 0,.string (⟨#[]⟩:ByteArray),.int .i64 0,.int .i64 0,.int .i64 0] 78 (0,0))):=⟨(by rw [hw];exact (st5_ BK275.out))⟩;have n2_:Aside0 (w48.heap[gb292]?=some (.cells #[.int .i64 t284,.string t285,.int .i64 t286,.int .i64 t287,.int .i64 t288] 78 (0,0))):=⟨(by rw [hw];exact bk_)⟩;have n3_:Aside0 (IsS127 w w48 gb276 t290 t291):=⟨(by rw [hw];exact (by repeat (first|(with_reducible first|exact HI276.out|apply IsS127.alloc|apply IsS127.drewN|apply IsS127.drew|apply IsS127.set_0|apply IsS127.set_1|apply IsS127.far (hne:=NB276_275.out)|apply IsS127.far (hne:=NB276_292.out))|exact HI276.out|apply IsS127.set_0|apply IsS127.set_1)))⟩;have n4_:Aside0 (Below w.heap.size w w48):=⟨(by rw [hw];exact (by repeat (first|(with_reducible first|exact HB.out|apply below_alloc|apply pw_below_drewN|apply below_drew1|refine below_set ?_ (IsS127.ge HI276.out)|refine below_set ?_ GE275.out|refine below_set ?_ GE292.out)|exact HB.out)))⟩;clear hw;clear HO_6;clear BK275;clear BK292;clear HI276;clear HB;have HO_6:=n0_;have BK275:=n1_;have BK292:=n2_;have HI276:=n3_;have HB:=n4_;clear n0_ n1_ n2_ n3_ n4_))
        refine bodyPost_ret (results_list (rs:=[.tmp 2,.cell 3 78,.tmp 4]) rfl (by simp) (.tmp (.cell gb275 78 #[.int .i64 0,.string (⟨#[]⟩:ByteArray),.int .i64 0,.int .i64 0,.int .i64 0] (0,0) _ rfl bk_ Tryd.underlying78 rfl (by kernel_rfl) (.tmp .nil)))) rfl ?_
        exact ⟨_,ew_,by first|exact Kd.R_nil _ _ _ _ _|exact Kd.N_nil _ _ _ _ _|exact Kd.V_nil _ _ _ _ _|exact Kd.Q_nil _ _ _ _ _|exact Kd.S_nil _ _ _ _ _,by repeat (first|(with_reducible first|exact HB.out|apply below_alloc|apply pw_below_drewN|apply below_drew1|refine below_set ?_ (IsS127.ge HI276.out)|refine below_set ?_ GE275.out|refine below_set ?_ GE292.out)|exact HB.out)⟩
      ·replace c16:=Bool.eq_false_iff.mpr c16
       subst c16
       rw [if_neg (show ¬ (false=true) by decide)] at H
       replace H:=Option.bind_eq_some_iff.mp H
       obtain ⟨⟨t296,t297,t298⟩,A490,H⟩:=H
       try dsimp only at H
       have A49:=Aside0.mk A490
       clear A490
       by_cases c50:t296.toList=([]:List UInt8)
       ·rw [if_pos c50] at H
        have c50b0:(t296.toList==([]:List UInt8))=true:=beq_iff_eq.mpr c50
        have c50b1:(t296.toList != ([]:List UInt8))=false:=bne_eq_false_iff_eq.mpr c50
        clear c50
        simp only [Option.some.injEq,Prod.mk.injEq] at H
        obtain ⟨rfl,rfl,rfl,rfl,rfl,rfl,rfl⟩:=H
        go_wp2_with (first|(refine callA_ (f:=53) (some 52) Tryd.func53 #[.pointer (some ⟨gb276,0,none⟩)] ?_;(with_reducible refine (kind_scan_left.calls gb276 x277000_6 x277001_6 t296 t297 t298 w _ ?side1 ?side2 A49.out).mono ?_);(case side1 => repeat (first|(with_reducible first|exact HI276.out|apply IsS127.alloc|apply IsS127.drewN|apply IsS127.drew|apply IsS127.set_0|apply IsS127.set_1|apply IsS127.far (hne:=NB276_275.out))|exact HI276.out|apply IsS127.set_0|apply IsS127.set_1));(case side2 => repeat (first|(with_reducible first|exact HB.out|apply below_alloc|apply pw_below_drewN|apply below_drew1|refine below_set ?_ (IsS127.ge HI276.out)|refine below_set ?_ GE275.out)|exact HB.out));rintro e w51 ⟨rfl,hi,hb,hk⟩;refine ⟨_,rfl,?_⟩;have n0_:=Aside0.mk (Kd.R_mono (Kd.R_keep (IsS127.apart (show IsS127 w _ gb276 x277000_6 x277001_6 from by repeat (first|(with_reducible first|exact HI276.out|apply IsS127.alloc|apply IsS127.drewN|apply IsS127.drew|apply IsS127.set_0|apply IsS127.set_1|apply IsS127.far (hne:=NB276_275.out))|exact HI276.out|apply IsS127.set_0|apply IsS127.set_1)) (kr_ HO_6.out) (by decide)) hk (fun _ h => h.2)) (fun _ h => h.1));have n1_:=Aside0.mk (KeepBut.blk hk (g':=gb275) (o:=.cells #[.int .i64 x276000_1,.string x276001_1,.int .i64 x276002_1,.int .i64 x276003_1,.int .i64 x276004_1] 78 (0,0)) bk_ NB275_276.out (by simp));have n2_:=Aside0.mk (hb);have n3_:=Aside0.mk (hi);clear HO_6;clear BK275;clear HB;clear HI276;have HO_6:=n0_;have BK275:=n1_;have HB:=n2_;have HI276:=n3_;clear n0_ n1_ n2_ n3_;(try clear hb);(try clear hb2);(try clear hk);(try clear hi);have hnb52:=NB275_276.out;have hnc52:=NB276_275.out;obtain ⟨hcz53_0,hcz53_1,hcz53_2,hcz53_3,hcz53_4,hfz53_0,hfz53_1,hfz53_2,hfz53_3,hfz53_4⟩:=blk5_ BK275.out)|((with_reducible refine gate_store (t:=78) (p:=3) rfl ?_);refine store_event (t:=78) (p:=3) (v:=?vo_w54) (w1:=(((((w51.setCell ⟨gb275,0,none⟩ (.int .i64 0)).setCell ⟨gb275,1,none⟩ (.string (⟨#[]⟩:ByteArray))).setCell ⟨gb275,2,none⟩ (.int .i64 0)).setCell ⟨gb275,3,none⟩ (.int .i64 0)).setCell ⟨gb275,4,none⟩ (.int .i64 0))) ?hg ?ho ?hn ?hr ?_;(case ho => rfl);(case hg => rfl);(case hn => rfl);(case hr => first|(go_simp;done)|(go_simp;rfl));intro w54 hw;have n0_:Aside0 (Kd.R k78 78 w54 w.heap.size (fun k_ => k_ ≠ gb275) u6 x6_1):=⟨(by rw [hw];exact (by (with_reducible repeat (first|apply Kd.R_alloc|apply Kd.R_drewN|apply Kd.R_drew));exact Kd.R_mono (Kd.R_far (p:=⟨gb275,4,none⟩) (Kd.R_far (p:=⟨gb275,3,none⟩) (Kd.R_far (p:=⟨gb275,2,none⟩) (Kd.R_far (p:=⟨gb275,1,none⟩) (Kd.R_far (p:=⟨gb275,0,none⟩) (Kd.R_mono HO_6.out (fun k_ hk => (⟨hk,hk⟩:_∧k_ ≠ gb275))) (fun _ hk => hk.2) (.int .i64 0)) (fun _ hk => hk.2) (.string (⟨#[]⟩:ByteArray))) (fun _ hk => hk.2) (.int .i64 0)) (fun _ hk => hk.2) (.int .i64 0)) (fun _ hk => hk.2) (.int .i64 0)) (fun _ hk => hk.1)))⟩;have n1_:Aside0 (w54.heap[gb275]?=some (.cells #[.int .i64 0,.string (⟨#[]⟩:ByteArray),.int .i64 0,.int .i64 0,.int .i64 0] 78 (0,0))):=⟨(by rw [hw];exact (st5_ BK275.out))⟩;have n2_:Aside0 (IsS127 w w54 gb276 t297 t298):=⟨(by rw [hw];exact (by repeat (first|(with_reducible first|exact HI276.out|apply IsS127.alloc|apply IsS127.drewN|apply IsS127.drew|apply IsS127.set_0|apply IsS127.set_1|apply IsS127.far (hne:=NB276_275.out))|exact HI276.out|apply IsS127.set_0|apply IsS127.set_1)))⟩;have n3_:Aside0 (Below w.heap.size w w54):=⟨(by rw [hw];exact (by repeat (first|(with_reducible first|exact HB.out|apply below_alloc|apply pw_below_drewN|apply below_drew1|refine below_set ?_ (IsS127.ge HI276.out)|refine below_set ?_ GE275.out)|exact HB.out)))⟩;clear hw;clear HO_6;clear BK275;clear HI276;clear HB;have HO_6:=n0_;have BK275:=n1_;have HI276:=n2_;have HB:=n3_;clear n0_ n1_ n2_ n3_))
        refine bodyPost_ret (results_list (rs:=[.tmp 2,.cell 3 78,.tmp 4]) rfl (by simp) (.tmp (.cell gb275 78 #[.int .i64 0,.string (⟨#[]⟩:ByteArray),.int .i64 0,.int .i64 0,.int .i64 0] (0,0) _ rfl bk_ Tryd.underlying78 rfl (by kernel_rfl) (.tmp .nil)))) rfl ?_
        exact ⟨_,ew_,by first|exact Kd.R_nil _ _ _ _ _|exact Kd.N_nil _ _ _ _ _|exact Kd.V_nil _ _ _ _ _|exact Kd.Q_nil _ _ _ _ _|exact Kd.S_nil _ _ _ _ _,by repeat (first|(with_reducible first|exact HB.out|apply below_alloc|apply pw_below_drewN|apply below_drew1|refine below_set ?_ (IsS127.ge HI276.out)|refine below_set ?_ GE275.out)|exact HB.out)⟩
       ·rw [if_neg c50] at H
        have c50b0:(t296.toList==([]:List UInt8))=false:=beq_eq_false_iff_ne.mpr c50
        have c50b1:(t296.toList != ([]:List UInt8))=true:=bne_iff_ne.mpr c50
        by_cases c55:t296.toList=([41,86]:List UInt8)
        ·rw [if_pos c55] at H
         have c55b0:(t296.toList==([41,86]:List UInt8))=true:=beq_iff_eq.mpr c55
         have c55b1:(t296.toList != ([41,86]:List UInt8))=false:=bne_eq_false_iff_eq.mpr c55
         clear c55
         simp only [Option.some.injEq,Prod.mk.injEq] at H
         obtain ⟨rfl,rfl,rfl,rfl,rfl,rfl,rfl⟩:=H
         go_wp2_with (first|(refine callA_ (f:=53) (some 52) Tryd.func53 #[.pointer (some ⟨gb276,0,none⟩)] ?_;(with_reducible refine (kind_scan_left.calls gb276 x277000_6 x277001_6 t296 t297 t298 w _ ?side1 ?side2 A49.out).mono ?_);(case side1 => repeat (first|(with_reducible first|exact HI276.out|apply IsS127.alloc|apply IsS127.drewN|apply IsS127.drew|apply IsS127.set_0|apply IsS127.set_1|apply IsS127.far (hne:=NB276_275.out))|exact HI276.out|apply IsS127.set_0|apply IsS127.set_1));(case side2 => repeat (first|(with_reducible first|exact HB.out|apply below_alloc|apply pw_below_drewN|apply below_drew1|refine below_set ?_ (IsS127.ge HI276.out)|refine below_set ?_ GE275.out)|exact HB.out));rintro e w56 ⟨rfl,hi,hb,hk⟩;refine ⟨_,rfl,?_⟩;have n0_:=Aside0.mk (Kd.R_mono (Kd.R_keep (IsS127.apart (show IsS127 w _ gb276 x277000_6 x277001_6 from by repeat (first|(with_reducible first|exact HI276.out|apply IsS127.alloc|apply IsS127.drewN|apply IsS127.drew|apply IsS127.set_0|apply IsS127.set_1|apply IsS127.far (hne:=NB276_275.out))|exact HI276.out|apply IsS127.set_0|apply IsS127.set_1)) (kr_ HO_6.out) (by decide)) hk (fun _ h => h.2)) (fun _ h => h.1));have n1_:=Aside0.mk (KeepBut.blk hk (g':=gb275) (o:=.cells #[.int .i64 x276000_1,.string x276001_1,.int .i64 x276002_1,.int .i64 x276003_1,.int .i64 x276004_1] 78 (0,0)) bk_ NB275_276.out (by simp));have n2_:=Aside0.mk (hb);have n3_:=Aside0.mk (hi);clear HO_6;clear BK275;clear HB;clear HI276;have HO_6:=n0_;have BK275:=n1_;have HB:=n2_;have HI276:=n3_;clear n0_ n1_ n2_ n3_;(try clear hb);(try clear hb2);(try clear hk);(try clear hi);have hnb57:=NB275_276.out;have hnc57:=NB276_275.out;obtain ⟨hcz58_0,hcz58_1,hcz58_2,hcz58_3,hcz58_4,hfz58_0,hfz58_1,hfz58_2,hfz58_3,hfz58_4⟩:=blk5_ BK275.out)|((with_reducible refine gate_store (t:=78) (p:=3) rfl ?_);refine store_event (t:=78) (p:=3) (v:=?vo_w59) (w1:=(((((w56.setCell ⟨gb275,0,none⟩ (.int .i64 8)).setCell ⟨gb275,1,none⟩ (.string (⟨#[]⟩:ByteArray))).setCell ⟨gb275,2,none⟩ (.int .i64 0)).setCell ⟨gb275,3,none⟩ (.int .i64 0)).setCell ⟨gb275,4,none⟩ (.int .i64 0))) ?hg ?ho ?hn ?hr ?_;(case ho => rfl);(case hg => rfl);(case hn => rfl);(case hr => first|(go_simp;done)|(go_simp;rfl));intro w59 hw;have n0_:Aside0 (Kd.R k78 78 w59 w.heap.size (fun k_ => k_ ≠ gb275) u6 x6_1):=⟨(by rw [hw];exact (by (with_reducible repeat (first|apply Kd.R_alloc|apply Kd.R_drewN|apply Kd.R_drew));exact Kd.R_mono (Kd.R_far (p:=⟨gb275,4,none⟩) (Kd.R_far (p:=⟨gb275,3,none⟩) (Kd.R_far (p:=⟨gb275,2,none⟩) (Kd.R_far (p:=⟨gb275,1,none⟩) (Kd.R_far (p:=⟨gb275,0,none⟩) (Kd.R_mono HO_6.out (fun k_ hk => (⟨hk,hk⟩:_∧k_ ≠ gb275))) (fun _ hk => hk.2) (.int .i64 8)) (fun _ hk => hk.2) (.string (⟨#[]⟩:ByteArray))) (fun _ hk => hk.2) (.int .i64 0)) (fun _ hk => hk.2) (.int .i64 0)) (fun _ hk => hk.2) (.int .i64 0)) (fun _ hk => hk.1)))⟩;have n1_:Aside0 (w59.heap[gb275]?=some (.cells #[.int .i64 8,.string (⟨#[]⟩:ByteArray),.int .i64 0,.int .i64 0,.int .i64 0] 78 (0,0))):=⟨(by rw [hw];exact (st5_ BK275.out))⟩;have n2_:Aside0 (IsS127 w w59 gb276 t297 t298):=⟨(by rw [hw];exact (by repeat (first|(with_reducible first|exact HI276.out|apply IsS127.alloc|apply IsS127.drewN|apply IsS127.drew|apply IsS127.set_0|apply IsS127.set_1|apply IsS127.far (hne:=NB276_275.out))|exact HI276.out|apply IsS127.set_0|apply IsS127.set_1)))⟩;have n3_:Aside0 (Below w.heap.size w w59):=⟨(by rw [hw];exact (by repeat (first|(with_reducible first|exact HB.out|apply below_alloc|apply pw_below_drewN|apply below_drew1|refine below_set ?_ (IsS127.ge HI276.out)|refine below_set ?_ GE275.out)|exact HB.out)))⟩;clear hw;clear HO_6;clear BK275;clear HI276;clear HB;have HO_6:=n0_;have BK275:=n1_;have HI276:=n2_;have HB:=n3_;clear n0_ n1_ n2_ n3_))
         refine bodyPost_ret (results_list (rs:=[.tmp 2,.cell 3 78,.tmp 4]) rfl (by simp) (.tmp (.cell gb275 78 #[.int .i64 8,.string (⟨#[]⟩:ByteArray),.int .i64 0,.int .i64 0,.int .i64 0] (0,0) _ rfl bk_ Tryd.underlying78 rfl (by kernel_rfl) (.tmp .nil)))) rfl ?_
         exact ⟨_,ew_,by (with_reducible repeat (first|apply Kd.R_alloc|apply Kd.R_drewN|apply Kd.R_drew));exact Kd.R_mono HO_6.out (fun _ hk => trivial),by repeat (first|(with_reducible first|exact HB.out|apply below_alloc|apply pw_below_drewN|apply below_drew1|refine below_set ?_ (IsS127.ge HI276.out)|refine below_set ?_ GE275.out)|exact HB.out)⟩
        ·rw [if_neg c55] at H
         have c55b0:(t296.toList==([41,86]:List UInt8))=false:=beq_eq_false_iff_ne.mpr c55
         have c55b1:(t296.toList != ([41,86]:List UInt8))=true:=bne_iff_ne.mpr c55
         replace H:=Option.bind_eq_some_iff.mp H
         obtain ⟨⟨t299,t300,t301⟩,A600,H⟩:=H
         try dsimp only at H
         have A60:=Aside0.mk A600
         clear A600
         by_cases c61:1≤(t299.size:Int)
         ·rw [if_pos c61] at H
          have c61b0:=eq_true c61
          have c61b1:decide (1≤(t299.size:Int))=true:=decide_eq_true c61
          clear c61
          replace H:=Option.bind_eq_some_iff.mp H
          obtain ⟨⟨t302,t303,t304,t305,t306,t307⟩,A620,H⟩:=H
          try dsimp only at H
          have A62:=Aside0.mk A620
          clear A620
          by_cases c63:t307=0
          ·rw [if_pos c63] at H
           have c63b0:(t307==0)=true:=beq_iff_eq.mpr c63
           have c63b1:(t307 != 0)=false:=bne_eq_false_iff_eq.mpr c63
           clear c63
           simp only [Option.some.injEq,Prod.mk.injEq] at H
           obtain ⟨rfl,rfl,rfl,rfl,rfl,rfl,rfl⟩:=H
           try go_wp2_with (first|(refine callA_ (f:=53) (some 52) Tryd.func53 #[.pointer (some ⟨gb276,0,none⟩)] ?_;(with_reducible refine (kind_scan_left.calls gb276 x277000_6 x277001_6 t296 t297 t298 w _ ?side1 ?side2 A49.out).mono ?_);(case side1 => repeat (first|(with_reducible first|exact HI276.out|apply IsS127.alloc|apply IsS127.drewN|apply IsS127.drew|apply IsS127.set_0|apply IsS127.set_1|apply IsS127.far (hne:=NB276_275.out))|exact HI276.out|apply IsS127.set_0|apply IsS127.set_1));(case side2 => repeat (first|(with_reducible first|exact HB.out|apply below_alloc|apply pw_below_drewN|apply below_drew1|refine below_set ?_ (IsS127.ge HI276.out)|refine below_set ?_ GE275.out)|exact HB.out));rintro e w64 ⟨rfl,hi,hb,hk⟩;refine ⟨_,rfl,?_⟩;have n0_:=Aside0.mk (Kd.R_mono (Kd.R_keep (IsS127.apart (show IsS127 w _ gb276 x277000_6 x277001_6 from by repeat (first|(with_reducible first|exact HI276.out|apply IsS127.alloc|apply IsS127.drewN|apply IsS127.drew|apply IsS127.set_0|apply IsS127.set_1|apply IsS127.far (hne:=NB276_275.out))|exact HI276.out|apply IsS127.set_0|apply IsS127.set_1)) (kr_ HO_6.out) (by decide)) hk (fun _ h => h.2)) (fun _ h => h.1));have n1_:=Aside0.mk (KeepBut.blk hk (g':=gb275) (o:=.cells #[.int .i64 x276000_1,.string x276001_1,.int .i64 x276002_1,.int .i64 x276003_1,.int .i64 x276004_1] 78 (0,0)) bk_ NB275_276.out (by simp));have n2_:=Aside0.mk (hb);have n3_:=Aside0.mk (hi);clear HO_6;clear BK275;clear HB;clear HI276;have HO_6:=n0_;have BK275:=n1_;have HB:=n2_;have HI276:=n3_;clear n0_ n1_ n2_ n3_;(try clear hb);(try clear hb2);(try clear hk);(try clear hi))|(refine callA_ (f:=53) (some 62) Tryd.func53 #[.pointer (some ⟨gb276,0,none⟩)] ?_;(with_reducible refine (kind_scan_left.calls gb276 t297 t298 t299 t300 t301 w _ ?side1 ?side2 A60.out).mono ?_);(case side1 => repeat (first|(with_reducible first|exact HI276.out|apply IsS127.alloc|apply IsS127.drewN|apply IsS127.drew|apply IsS127.set_0|apply IsS127.set_1|apply IsS127.far (hne:=NB276_275.out))|exact HI276.out|apply IsS127.set_0|apply IsS127.set_1));(case side2 => repeat (first|(with_reducible first|exact HB.out|apply below_alloc|apply pw_below_drewN|apply below_drew1|refine below_set ?_ (IsS127.ge HI276.out)|refine below_set ?_ GE275.out)|exact HB.out));rintro e w65 ⟨rfl,hi,hb,hk⟩;refine ⟨_,rfl,?_⟩;have n0_:=Aside0.mk (Kd.R_mono (Kd.R_keep (IsS127.apart (show IsS127 w _ gb276 t297 t298 from by repeat (first|(with_reducible first|exact HI276.out|apply IsS127.alloc|apply IsS127.drewN|apply IsS127.drew|apply IsS127.set_0|apply IsS127.set_1|apply IsS127.far (hne:=NB276_275.out))|exact HI276.out|apply IsS127.set_0|apply IsS127.set_1)) (kr_ HO_6.out) (by decide)) hk (fun _ h => h.2)) (fun _ h => h.1));have n1_:=Aside0.mk (KeepBut.blk hk (g':=gb275) (o:=.cells #[.int .i64 x276000_1,.string x276001_1,.int .i64 x276002_1,.int .i64 x276003_1,.int .i64 x276004_1] 78 (0,0)) bk_ NB275_276.out (by simp));have n2_:=Aside0.mk (hb);have n3_:=Aside0.mk (hi);clear HO_6;clear BK275;clear HB;clear HI276;have HO_6:=n0_;have BK275:=n1_;have HB:=n2_;have HI276:=n3_;clear n0_ n1_ n2_ n3_;(try clear hb);(try clear hb2);(try clear hk);(try clear hi))|(refine callA_ (f:=42) (some 64) Tryd.func42 #[.string (t299.extract 1 t299.size)] ?_;(with_reducible refine (kind_Field.calls kj6 (t299.extract 1 t299.size) t302 t303 t304 t305 t306 t307 _ ?side1 A62.out).mono ?_);(case side1 => exact ⟨GG.below hG.out (by repeat (first|(with_reducible first|exact HB.out|apply below_alloc|apply pw_below_drewN|apply below_drew1|refine below_set ?_ (IsS127.ge HI276.out)|refine below_set ?_ GE275.out)|exact HB.out))⟩);rintro e w66 ⟨rfl,hb⟩;refine ⟨_,rfl,?_⟩;have n0_:=Aside0.mk (Kd.R_below (kr_ HO_6.out) hb);have n1_:=Aside0.mk (blk_below (g:=gb275) (o:=.cells #[.int .i64 x276000_1,.string x276001_1,.int .i64 x276002_1,.int .i64 x276003_1,.int .i64 x276004_1] 78 (0,0)) bk_ hb);have n2_:=Aside0.mk (IsS127.below (by repeat (first|(with_reducible first|exact HI276.out|apply IsS127.alloc|apply IsS127.drewN|apply IsS127.drew|apply IsS127.set_0|apply IsS127.set_1|apply IsS127.far (hne:=NB276_275.out))|exact HI276.out|apply IsS127.set_0|apply IsS127.set_1)) hb);have n3_:=Aside0.mk (below_step (by repeat (first|(with_reducible first|exact HB.out|apply below_alloc|apply pw_below_drewN|apply below_drew1|refine below_set ?_ (IsS127.ge HI276.out)|refine below_set ?_ GE275.out)|exact HB.out)) hb);clear HO_6;clear BK275;clear HI276;clear HB;have HO_6:=n0_;have BK275:=n1_;have HI276:=n2_;have HB:=n3_;clear n0_ n1_ n2_ n3_;(try clear hb);(try clear hb2);(try clear hk);(try clear hi))|((with_reducible refine gate_dst (N:=9) rfl ?_);(try (refine gate_guard (by rfl) ?_;dsimp only));refine box_event ?hg (N:=9) ?hd (cs:=#[.int .i64 0,.string (⟨#[]⟩:ByteArray),.int .i64 0,.int .i64 0,.int .i64 0]) (t:=78) ?hr ?_;(case hd => rfl);(case hg => rfl);(case hr => first|(go_simp;done)|(go_simp;rfl));intro gb308 hg w67 hbox hb;have n0_:=Aside0.mk (Kd.R_below (Kd.R_elderB (kr_ HO_6.out) gb308 (Nat.le_of_eq hg.symm)) hb);have n1_:=Aside0.mk (blk_below (g:=gb275) (o:=.cells #[.int .i64 x276000_1,.string x276001_1,.int .i64 x276002_1,.int .i64 x276003_1,.int .i64 x276004_1] 78 (0,0)) bk_ hb);have n2_:=Aside0.mk (IsS127.below (by repeat (first|(with_reducible first|exact HI276.out|apply IsS127.alloc|apply IsS127.drewN|apply IsS127.drew|apply IsS127.set_0|apply IsS127.set_1|apply IsS127.far (hne:=NB276_275.out))|exact HI276.out|apply IsS127.set_0|apply IsS127.set_1)) hb);have n3_:=Aside0.mk (below_step (by repeat (first|(with_reducible first|exact HB.out|apply below_alloc|apply pw_below_drewN|apply below_drew1|refine below_set ?_ (IsS127.ge HI276.out)|refine below_set ?_ GE275.out)|exact HB.out)) hb);have n4_:=Aside0.mk (hbox);have n5_:=Aside0.mk ((by rw [hg];exact (below_size (by repeat (first|(with_reducible first|exact HB.out|apply below_alloc|apply pw_below_drewN|apply below_drew1|refine below_set ?_ (IsS127.ge HI276.out)|refine below_set ?_ GE275.out)|exact HB.out))):w.heap.size≤gb308));have n6_:=Aside0.mk ((by rw [hg];exact (below_size (by repeat (first|(with_reducible first|exact HB.out|apply below_alloc|apply pw_below_drewN|apply below_drew1|refine below_set ?_ (IsS127.ge HI276.out)|refine below_set ?_ GE275.out)|exact HB.out))):w.heap.size≤gb308));have n7_:=Aside0.mk ((by rw [hg];exact Nat.ne_of_lt (blk_lt (g:=gb275) (o:=.cells #[.int .i64 x276000_1,.string x276001_1,.int .i64 x276002_1,.int .i64 x276003_1,.int .i64 x276004_1] 78 (0,0)) bk_):gb275 ≠ gb308));have n8_:=Aside0.mk ((by rw [hg];exact Nat.ne_of_gt (blk_lt (g:=gb275) (o:=.cells #[.int .i64 x276000_1,.string x276001_1,.int .i64 x276002_1,.int .i64 x276003_1,.int .i64 x276004_1] 78 (0,0)) bk_):gb308 ≠ gb275));have n9_:=Aside0.mk ((by rw [hg];exact Nat.ne_of_lt (IsS127.lt (show IsS127 w _ gb276 t300 t301 from by repeat (first|(with_reducible first|exact HI276.out|apply IsS127.alloc|apply IsS127.drewN|apply IsS127.drew|apply IsS127.set_0|apply IsS127.set_1|apply IsS127.far (hne:=NB276_275.out))|exact HI276.out|apply IsS127.set_0|apply IsS127.set_1))):gb276 ≠ gb308));have n10_:=Aside0.mk ((by rw [hg];exact Nat.ne_of_gt (IsS127.lt (show IsS127 w _ gb276 t300 t301 from by repeat (first|(with_reducible first|exact HI276.out|apply IsS127.alloc|apply IsS127.drewN|apply IsS127.drew|apply IsS127.set_0|apply IsS127.set_1|apply IsS127.far (hne:=NB276_275.out))|exact HI276.out|apply IsS127.set_0|apply IsS127.set_1))):gb308 ≠ gb276));clear HO_6;clear BK275;clear HI276;clear HB;have HO_6:=n0_;have BK275:=n1_;have HI276:=n2_;have HB:=n3_;have BK308:=n4_;have GW308:=n5_;have GE308:=n6_;have NB275_308:=n7_;have NB308_275:=n8_;have NB276_308:=n9_;have NB308_276:=n10_;clear n0_ n1_ n2_ n3_ n4_ n5_ n6_ n7_ n8_ n9_ n10_;clear hb hbox hg;have hnb68:=NB308_275.out;have hnc68:=NB275_308.out;have hnb69:=NB308_276.out;have hnc69:=NB276_308.out;obtain ⟨hcz70_0,hcz70_1,hcz70_2,hcz70_3,hcz70_4,hfz70_0,hfz70_1,hfz70_2,hfz70_3,hfz70_4⟩:=blk5_ BK308.out)|((with_reducible refine gate_store (t:=78) (p:=9) rfl ?_);refine store_event (t:=78) (p:=9) (v:=?vo_w71) (w1:=(((((w67.setCell ⟨gb308,0,none⟩ (.int .i64 t302)).setCell ⟨gb308,1,none⟩ (.string t303)).setCell ⟨gb308,2,none⟩ (.int .i64 t304)).setCell ⟨gb308,3,none⟩ (.int .i64 t305)).setCell ⟨gb308,4,none⟩ (.int .i64 t306))) ?hg ?ho ?hn ?hr ?_;(case ho => rfl);(case hg => rfl);(case hn => rfl);(case hr => first|(go_simp;done)|(go_simp;rfl));intro w71 hw;have n0_:Aside0 (Kd.R k78 78 w71 w.heap.size (fun k_ => k_ ≠ gb275∧k_ ≠ gb308) u6 x6_1):=⟨(by rw [hw];exact (by (with_reducible repeat (first|apply Kd.R_alloc|apply Kd.R_drewN|apply Kd.R_drew));exact Kd.R_mono (Kd.R_far (p:=⟨gb308,4,none⟩) (Kd.R_far (p:=⟨gb308,3,none⟩) (Kd.R_far (p:=⟨gb308,2,none⟩) (Kd.R_far (p:=⟨gb308,1,none⟩) (Kd.R_far (p:=⟨gb308,0,none⟩) (Kd.R_mono HO_6.out (fun k_ hk => (⟨hk,hk.2⟩:_∧k_ ≠ gb308))) (fun _ hk => hk.2) (.int .i64 t302)) (fun _ hk => hk.2) (.string t303)) (fun _ hk => hk.2) (.int .i64 t304)) (fun _ hk => hk.2) (.int .i64 t305)) (fun _ hk => hk.2) (.int .i64 t306)) (fun _ hk => ⟨hk.1.1,hk.1.2⟩)))⟩;have n1_:Aside0 (w71.heap[gb275]?=some (.cells #[.int .i64 x276000_1,.string x276001_1,.int .i64 x276002_1,.int .i64 x276003_1,.int .i64 x276004_1] 78 (0,0))):=⟨(by rw [hw];exact bk_)⟩;have n2_:Aside0 (w71.heap[gb308]?=some (.cells #[.int .i64 t302,.string t303,.int .i64 t304,.int .i64 t305,.int .i64 t306] 78 (0,0))):=⟨(by rw [hw];exact (st5_ BK308.out))⟩;have n3_:Aside0 (IsS127 w w71 gb276 t300 t301):=⟨(by rw [hw];exact (by repeat (first|(with_reducible first|exact HI276.out|apply IsS127.alloc|apply IsS127.drewN|apply IsS127.drew|apply IsS127.set_0|apply IsS127.set_1|apply IsS127.far (hne:=NB276_275.out)|apply IsS127.far (hne:=NB276_308.out))|exact HI276.out|apply IsS127.set_0|apply IsS127.set_1)))⟩;have n4_:Aside0 (Below w.heap.size w w71):=⟨(by rw [hw];exact (by repeat (first|(with_reducible first|exact HB.out|apply below_alloc|apply pw_below_drewN|apply below_drew1|refine below_set ?_ (IsS127.ge HI276.out)|refine below_set ?_ GE275.out|refine below_set ?_ GE308.out)|exact HB.out)))⟩;clear hw;clear HO_6;clear BK275;clear BK308;clear HI276;clear HB;have HO_6:=n0_;have BK275:=n1_;have BK308:=n2_;have HI276:=n3_;have HB:=n4_;clear n0_ n1_ n2_ n3_ n4_))
           have n0_:=Aside0.mk (Kd.R_drew HO_6.out)
           have n1_:=Aside0.mk (blk_drew BK275.out)
           have n2_:=Aside0.mk (blk_drew BK308.out)
           have n3_:=Aside0.mk (IsS127.drew HI276.out)
           have n4_:=Aside0.mk (below_drew1 HB.out)
           clear HO_6
           clear BK275
           clear BK308
           clear HI276
           clear HB
           have HO_6:=n0_
           have BK275:=n1_
           have BK308:=n2_
           have HI276:=n3_
           have HB:=n4_
           clear n0_ n1_ n2_ n3_ n4_
           refine start_ (n:=5) (S:=fun w' => w'.cell? ⟨gb308,0,none⟩=some (.int .i64 t302)∧w'.cell? ⟨gb308,1,none⟩=some (.string t303)∧w'.cell? ⟨gb308,2,none⟩=some (.int .i64 t304)∧w'.cell? ⟨gb308,3,none⟩=some (.int .i64 t305)∧w'.cell? ⟨gb308,4,none⟩=some (.int .i64 t306)) (ds:=[]) #[false,false,false,false,false] (by kernel_rfl) rfl rfl ⟨(blk_cell BK308.out 0).trans rfl,(blk_cell BK308.out 1).trans rfl,(blk_cell BK308.out 2).trans rfl,(blk_cell BK308.out 3).trans rfl,(blk_cell BK308.out 4).trans rfl⟩ (fun hHeld => ?_)
           generalize w71.drew=w72 at HO_6 BK275 BK308 HI276 HB hHeld ⊢
           refine pure_ (i:=0) (N:=some 71) (v:=?_) (a':=?_) #[true,false,false,false,false] rfl rfl (by kernel_rfl) (fun _ _ _ h => h) (Or.inl ⟨by rfl,?_⟩) ?_ ?_
           rotate_left
           ·intro w'
            go_simp
            with_reducible rfl
           rotate_left
           ·simp only [Act.put,List.setIfInBounds_toArray,List.set_cons_zero,List.set_cons_succ,i64_w,i32_w]
            rfl
           refine pure_ (i:=2) (N:=some 2) (v:=?_) (a':=?_) #[true,false,true,false,false] rfl rfl (by kernel_rfl) (fun _ _ _ h => h) (Or.inl ⟨by rfl,?_⟩) ?_ ?_
           rotate_left
           ·intro w'
            go_simp
            with_reducible rfl
           rotate_left
           ·simp only [Act.put,List.setIfInBounds_toArray,List.set_cons_zero,List.set_cons_succ,i64_w,i32_w]
            rfl
           refine take_ (i:=1) (N:=some 72) (v:=?_) (a':=?_) #[true,true,true,false,false] rfl rfl (by kernel_rfl) (fun _ _ _ h => h) (Or.inl ⟨by rfl,?_⟩) hHeld ?_ ?_
           rotate_left
           ·rintro w' ⟨s0,s1,s2,s3,s4⟩
            go_simp
            with_reducible rfl
           rotate_left
           ·simp only [Act.put,List.setIfInBounds_toArray,List.set_cons_zero,List.set_cons_succ,i64_w,i32_w]
            rfl
           refine one_ (i:=3) (N:=none) #[true,true,true,true,false] rfl rfl (by kernel_rfl) (by decide) (fun K hK => ?_)
           have hs73:w72.cell? ⟨gb275,0,none⟩=some (.int .i64 x276000_1):=(blk_cell BK275.out 0).trans rfl
           have hfs73:=blk_frozen BK275.out 0
           have hns73_1:=NB308_275.out
           have hms73_1:=NB275_308.out
           have hs74:w72.cell? ⟨gb275,1,none⟩=some (.string x276001_1):=(blk_cell BK275.out 1).trans rfl
           have hfs74:=blk_frozen BK275.out 1
           have hns74_1:=NB308_275.out
           have hms74_1:=NB275_308.out
           have hs75:w72.cell? ⟨gb275,2,none⟩=some (.int .i64 x276002_1):=(blk_cell BK275.out 2).trans rfl
           have hfs75:=blk_frozen BK275.out 2
           have hns75_1:=NB308_275.out
           have hms75_1:=NB275_308.out
           have hs76:w72.cell? ⟨gb275,3,none⟩=some (.int .i64 x276003_1):=(blk_cell BK275.out 3).trans rfl
           have hfs76:=blk_frozen BK275.out 3
           have hns76_1:=NB308_275.out
           have hms76_1:=NB275_308.out
           have hs77:w72.cell? ⟨gb275,4,none⟩=some (.int .i64 x276004_1):=(blk_cell BK275.out 4).trans rfl
           have hfs77:=blk_frozen BK275.out 4
           have hns77_1:=NB308_275.out
           have hms77_1:=NB275_308.out
           refine skip_ (w1:=?_) (by rfl) rfl ?_ ?_
           rotate_left
           ·go_simp
            rfl
           refine hK.out _ _ ⟨((cell_far (p:=⟨gb275,_,none⟩) NB308_275.out _).trans (((cell_far (p:=⟨gb275,_,none⟩) NB308_275.out _).trans (((cell_far (p:=⟨gb275,_,none⟩) NB308_275.out _).trans (((cell_far (p:=⟨gb275,_,none⟩) NB308_275.out _).trans (((cell_far (p:=⟨gb275,_,none⟩) NB308_275.out _).trans (hHeld.1)))))))))),((cell_far (p:=⟨gb275,_,none⟩) NB308_275.out _).trans (((cell_far (p:=⟨gb275,_,none⟩) NB308_275.out _).trans (((cell_far (p:=⟨gb275,_,none⟩) NB308_275.out _).trans (((cell_far (p:=⟨gb275,_,none⟩) NB308_275.out _).trans (((cell_far (p:=⟨gb275,_,none⟩) NB308_275.out _).trans (hHeld.2.1)))))))))),((cell_far (p:=⟨gb275,_,none⟩) NB308_275.out _).trans (((cell_far (p:=⟨gb275,_,none⟩) NB308_275.out _).trans (((cell_far (p:=⟨gb275,_,none⟩) NB308_275.out _).trans (((cell_far (p:=⟨gb275,_,none⟩) NB308_275.out _).trans (((cell_far (p:=⟨gb275,_,none⟩) NB308_275.out _).trans (hHeld.2.2.1)))))))))),((cell_far (p:=⟨gb275,_,none⟩) NB308_275.out _).trans (((cell_far (p:=⟨gb275,_,none⟩) NB308_275.out _).trans (((cell_far (p:=⟨gb275,_,none⟩) NB308_275.out _).trans (((cell_far (p:=⟨gb275,_,none⟩) NB308_275.out _).trans (((cell_far (p:=⟨gb275,_,none⟩) NB308_275.out _).trans (hHeld.2.2.2.1)))))))))),((cell_far (p:=⟨gb275,_,none⟩) NB308_275.out _).trans (((cell_far (p:=⟨gb275,_,none⟩) NB308_275.out _).trans (((cell_far (p:=⟨gb275,_,none⟩) NB308_275.out _).trans (((cell_far (p:=⟨gb275,_,none⟩) NB308_275.out _).trans (((cell_far (p:=⟨gb275,_,none⟩) NB308_275.out _).trans (hHeld.2.2.2.2))))))))))⟩ (fun hHeld => ?_)
           clear hK K
           refine pure_ (i:=4) (N:=some 4) (v:=?_) (a':=?_) #[true,true,true,true,true] rfl rfl (by kernel_rfl) (fun _ _ _ h => h) (Or.inl ⟨by rfl,?_⟩) ?_ ?_
           rotate_left
           ·intro w'
            go_simp
            with_reducible rfl
           rotate_left
           ·simp only [Act.put,List.setIfInBounds_toArray,List.set_cons_zero,List.set_cons_succ,i64_w,i32_w]
            rfl
           refine done_ (by kernel_rfl) ?_
           try go_wp2
           refine bodyPost_ret (results_list (rs:=[.tmp 2,.cell 3 78,.tmp 4]) rfl (by simp) (.tmp (.cell gb275 78 #[.int .i64 t302,.string t303,.int .i64 t304,.int .i64 t305,.int .i64 t306] (0,0) _ rfl (st5_ BK275.out) Tryd.underlying78 rfl (by kernel_rfl) (.tmp .nil)))) rfl ?_
           exact ⟨_,ew_,by (with_reducible repeat (first|apply Kd.R_alloc|apply Kd.R_drewN|apply Kd.R_drew));exact Kd.R_mono (Kd.R_far (p:=⟨gb275,4,none⟩) (Kd.R_far (p:=⟨gb275,3,none⟩) (Kd.R_far (p:=⟨gb275,2,none⟩) (Kd.R_far (p:=⟨gb275,1,none⟩) (Kd.R_far (p:=⟨gb275,0,none⟩) (Kd.R_mono HO_6.out (fun k_ hk => (⟨hk,hk.1⟩:_∧k_ ≠ gb275))) (fun _ hk => hk.2) (.int .i64 t302)) (fun _ hk => hk.2) (.string t303)) (fun _ hk => hk.2) (.int .i64 t304)) (fun _ hk => hk.2) (.int .i64 t305)) (fun _ hk => hk.2) (.int .i64 t306)) (fun _ hk => trivial),by repeat (first|(with_reducible first|exact HB.out|apply below_alloc|apply pw_below_drewN|apply below_drew1|refine below_set ?_ (IsS127.ge HI276.out)|refine below_set ?_ GE275.out|refine below_set ?_ GE308.out)|exact HB.out)⟩
          ·rw [if_neg c63] at H
           have c63b0:(t307==0)=false:=beq_eq_false_iff_ne.mpr c63
           have c63b1:(t307 != 0)=true:=bne_iff_ne.mpr c63
           simp only [Option.some.injEq,Prod.mk.injEq] at H
           obtain ⟨rfl,rfl,rfl,rfl,rfl,rfl,rfl⟩:=H
           go_wp2_with (first|(refine callA_ (f:=53) (some 52) Tryd.func53 #[.pointer (some ⟨gb276,0,none⟩)] ?_;(with_reducible refine (kind_scan_left.calls gb276 x277000_6 x277001_6 t296 t297 t298 w _ ?side1 ?side2 A49.out).mono ?_);(case side1 => repeat (first|(with_reducible first|exact HI276.out|apply IsS127.alloc|apply IsS127.drewN|apply IsS127.drew|apply IsS127.set_0|apply IsS127.set_1|apply IsS127.far (hne:=NB276_275.out))|exact HI276.out|apply IsS127.set_0|apply IsS127.set_1));(case side2 => repeat (first|(with_reducible first|exact HB.out|apply below_alloc|apply pw_below_drewN|apply below_drew1|refine below_set ?_ (IsS127.ge HI276.out)|refine below_set ?_ GE275.out)|exact HB.out));rintro e w78 ⟨rfl,hi,hb,hk⟩;refine ⟨_,rfl,?_⟩;have n0_:=Aside0.mk (Kd.R_mono (Kd.R_keep (IsS127.apart (show IsS127 w _ gb276 x277000_6 x277001_6 from by repeat (first|(with_reducible first|exact HI276.out|apply IsS127.alloc|apply IsS127.drewN|apply IsS127.drew|apply IsS127.set_0|apply IsS127.set_1|apply IsS127.far (hne:=NB276_275.out))|exact HI276.out|apply IsS127.set_0|apply IsS127.set_1)) (kr_ HO_6.out) (by decide)) hk (fun _ h => h.2)) (fun _ h => h.1));have n1_:=Aside0.mk (KeepBut.blk hk (g':=gb275) (o:=.cells #[.int .i64 x276000_1,.string x276001_1,.int .i64 x276002_1,.int .i64 x276003_1,.int .i64 x276004_1] 78 (0,0)) bk_ NB275_276.out (by simp));have n2_:=Aside0.mk (hb);have n3_:=Aside0.mk (hi);clear HO_6;clear BK275;clear HB;clear HI276;have HO_6:=n0_;have BK275:=n1_;have HB:=n2_;have HI276:=n3_;clear n0_ n1_ n2_ n3_;(try clear hb);(try clear hb2);(try clear hk);(try clear hi))|(refine callA_ (f:=53) (some 62) Tryd.func53 #[.pointer (some ⟨gb276,0,none⟩)] ?_;(with_reducible refine (kind_scan_left.calls gb276 t297 t298 t299 t300 t301 w _ ?side1 ?side2 A60.out).mono ?_);(case side1 => repeat (first|(with_reducible first|exact HI276.out|apply IsS127.alloc|apply IsS127.drewN|apply IsS127.drew|apply IsS127.set_0|apply IsS127.set_1|apply IsS127.far (hne:=NB276_275.out))|exact HI276.out|apply IsS127.set_0|apply IsS127.set_1));(case side2 => repeat (first|(with_reducible first|exact HB.out|apply below_alloc|apply pw_below_drewN|apply below_drew1|refine below_set ?_ (IsS127.ge HI276.out)|refine below_set ?_ GE275.out)|exact HB.out));rintro e w79 ⟨rfl,hi,hb,hk⟩;refine ⟨_,rfl,?_⟩;have n0_:=Aside0.mk (Kd.R_mono (Kd.R_keep (IsS127.apart (show IsS127 w _ gb276 t297 t298 from by repeat (first|(with_reducible first|exact HI276.out|apply IsS127.alloc|apply IsS127.drewN|apply IsS127.drew|apply IsS127.set_0|apply IsS127.set_1|apply IsS127.far (hne:=NB276_275.out))|exact HI276.out|apply IsS127.set_0|apply IsS127.set_1)) (kr_ HO_6.out) (by decide)) hk (fun _ h => h.2)) (fun _ h => h.1));have n1_:=Aside0.mk (KeepBut.blk hk (g':=gb275) (o:=.cells #[.int .i64 x276000_1,.string x276001_1,.int .i64 x276002_1,.int .i64 x276003_1,.int .i64 x276004_1] 78 (0,0)) bk_ NB275_276.out (by simp));have n2_:=Aside0.mk (hb);have n3_:=Aside0.mk (hi);clear HO_6;clear BK275;clear HB;clear HI276;have HO_6:=n0_;have BK275:=n1_;have HB:=n2_;have HI276:=n3_;clear n0_ n1_ n2_ n3_;(try clear hb);(try clear hb2);(try clear hk);(try clear hi))|(refine callA_ (f:=42) (some 64) Tryd.func42 #[.string (t299.extract 1 t299.size)] ?_;(with_reducible refine (kind_Field.calls kj6 (t299.extract 1 t299.size) t302 t303 t304 t305 t306 t307 _ ?side1 A62.out).mono ?_);(case side1 => exact ⟨GG.below hG.out (by repeat (first|(with_reducible first|exact HB.out|apply below_alloc|apply pw_below_drewN|apply below_drew1|refine below_set ?_ (IsS127.ge HI276.out)|refine below_set ?_ GE275.out)|exact HB.out))⟩);rintro e w80 ⟨rfl,hb⟩;refine ⟨_,rfl,?_⟩;have n0_:=Aside0.mk (Kd.R_below (kr_ HO_6.out) hb);have n1_:=Aside0.mk (blk_below (g:=gb275) (o:=.cells #[.int .i64 x276000_1,.string x276001_1,.int .i64 x276002_1,.int .i64 x276003_1,.int .i64 x276004_1] 78 (0,0)) bk_ hb);have n2_:=Aside0.mk (IsS127.below (by repeat (first|(with_reducible first|exact HI276.out|apply IsS127.alloc|apply IsS127.drewN|apply IsS127.drew|apply IsS127.set_0|apply IsS127.set_1|apply IsS127.far (hne:=NB276_275.out))|exact HI276.out|apply IsS127.set_0|apply IsS127.set_1)) hb);have n3_:=Aside0.mk (below_step (by repeat (first|(with_reducible first|exact HB.out|apply below_alloc|apply pw_below_drewN|apply below_drew1|refine below_set ?_ (IsS127.ge HI276.out)|refine below_set ?_ GE275.out)|exact HB.out)) hb);clear HO_6;clear BK275;clear HI276;clear HB;have HO_6:=n0_;have BK275:=n1_;have HI276:=n2_;have HB:=n3_;clear n0_ n1_ n2_ n3_;(try clear hb);(try clear hb2);(try clear hk);(try clear hi))|((with_reducible refine gate_dst (N:=9) rfl ?_);(try (refine gate_guard (by rfl) ?_;dsimp only));refine box_event ?hg (N:=9) ?hd (cs:=#[.int .i64 0,.string (⟨#[]⟩:ByteArray),.int .i64 0,.int .i64 0,.int .i64 0]) (t:=78) ?hr ?_;(case hd => rfl);(case hg => rfl);(case hr => first|(go_simp;done)|(go_simp;rfl));intro gb308 hg w81 hbox hb;have n0_:=Aside0.mk (Kd.R_below (Kd.R_elderB (kr_ HO_6.out) gb308 (Nat.le_of_eq hg.symm)) hb);have n1_:=Aside0.mk (blk_below (g:=gb275) (o:=.cells #[.int .i64 x276000_1,.string x276001_1,.int .i64 x276002_1,.int .i64 x276003_1,.int .i64 x276004_1] 78 (0,0)) bk_ hb);have n2_:=Aside0.mk (IsS127.below (by repeat (first|(with_reducible first|exact HI276.out|apply IsS127.alloc|apply IsS127.drewN|apply IsS127.drew|apply IsS127.set_0|apply IsS127.set_1|apply IsS127.far (hne:=NB276_275.out))|exact HI276.out|apply IsS127.set_0|apply IsS127.set_1)) hb);have n3_:=Aside0.mk (below_step (by repeat (first|(with_reducible first|exact HB.out|apply below_alloc|apply pw_below_drewN|apply below_drew1|refine below_set ?_ (IsS127.ge HI276.out)|refine below_set ?_ GE275.out)|exact HB.out)) hb);have n4_:=Aside0.mk (hbox);have n5_:=Aside0.mk ((by rw [hg];exact (below_size (by repeat (first|(with_reducible first|exact HB.out|apply below_alloc|apply pw_below_drewN|apply below_drew1|refine below_set ?_ (IsS127.ge HI276.out)|refine below_set ?_ GE275.out)|exact HB.out))):w.heap.size≤gb308));have n6_:=Aside0.mk ((by rw [hg];exact (below_size (by repeat (first|(with_reducible first|exact HB.out|apply below_alloc|apply pw_below_drewN|apply below_drew1|refine below_set ?_ (IsS127.ge HI276.out)|refine below_set ?_ GE275.out)|exact HB.out))):w.heap.size≤gb308));have n7_:=Aside0.mk ((by rw [hg];exact Nat.ne_of_lt (blk_lt (g:=gb275) (o:=.cells #[.int .i64 x276000_1,.string x276001_1,.int .i64 x276002_1,.int .i64 x276003_1,.int .i64 x276004_1] 78 (0,0)) bk_):gb275 ≠ gb308));have n8_:=Aside0.mk ((by rw [hg];exact Nat.ne_of_gt (blk_lt (g:=gb275) (o:=.cells #[.int .i64 x276000_1,.string x276001_1,.int .i64 x276002_1,.int .i64 x276003_1,.int .i64 x276004_1] 78 (0,0)) bk_):gb308 ≠ gb275));have n9_:=Aside0.mk ((by rw [hg];exact Nat.ne_of_lt (IsS127.lt (show IsS127 w _ gb276 t300 t301 from by repeat (first|(with_reducible first|exact HI276.out|apply IsS127.alloc|apply IsS127.drewN|apply IsS127.drew|apply IsS127.set_0|apply IsS127.set_1|apply IsS127.far (hne:=NB276_275.out))|exact HI276.out|apply IsS127.set_0|apply IsS127.set_1))):gb276 ≠ gb308));have n10_:=Aside0.mk ((by rw [hg];exact Nat.ne_of_gt (IsS127.lt (show IsS127 w _ gb276 t300 t301 from by repeat (first|(with_reducible first|exact HI276.out|apply IsS127.alloc|apply IsS127.drewN|apply IsS127.drew|apply IsS127.set_0|apply IsS127.set_1|apply IsS127.far (hne:=NB276_275.out))|exact HI276.out|apply IsS127.set_0|apply IsS127.set_1))):gb308 ≠ gb276));clear HO_6;clear BK275;clear HI276;clear HB;have HO_6:=n0_;have BK275:=n1_;have HI276:=n2_;have HB:=n3_;have BK308:=n4_;have GW308:=n5_;have GE308:=n6_;have NB275_308:=n7_;have NB308_275:=n8_;have NB276_308:=n9_;have NB308_276:=n10_;clear n0_ n1_ n2_ n3_ n4_ n5_ n6_ n7_ n8_ n9_ n10_;clear hb hbox hg;have hnb82:=NB308_275.out;have hnc82:=NB275_308.out;have hnb83:=NB308_276.out;have hnc83:=NB276_308.out;obtain ⟨hcz84_0,hcz84_1,hcz84_2,hcz84_3,hcz84_4,hfz84_0,hfz84_1,hfz84_2,hfz84_3,hfz84_4⟩:=blk5_ BK308.out)|((with_reducible refine gate_store (t:=78) (p:=9) rfl ?_);refine store_event (t:=78) (p:=9) (v:=?vo_w85) (w1:=(((((w81.setCell ⟨gb308,0,none⟩ (.int .i64 t302)).setCell ⟨gb308,1,none⟩ (.string t303)).setCell ⟨gb308,2,none⟩ (.int .i64 t304)).setCell ⟨gb308,3,none⟩ (.int .i64 t305)).setCell ⟨gb308,4,none⟩ (.int .i64 t306))) ?hg ?ho ?hn ?hr ?_;(case ho => rfl);(case hg => rfl);(case hn => rfl);(case hr => first|(go_simp;done)|(go_simp;rfl));intro w85 hw;have n0_:Aside0 (Kd.R k78 78 w85 w.heap.size (fun k_ => k_ ≠ gb275∧k_ ≠ gb308) u6 x6_1):=⟨(by rw [hw];exact (by (with_reducible repeat (first|apply Kd.R_alloc|apply Kd.R_drewN|apply Kd.R_drew));exact Kd.R_mono (Kd.R_far (p:=⟨gb308,4,none⟩) (Kd.R_far (p:=⟨gb308,3,none⟩) (Kd.R_far (p:=⟨gb308,2,none⟩) (Kd.R_far (p:=⟨gb308,1,none⟩) (Kd.R_far (p:=⟨gb308,0,none⟩) (Kd.R_mono HO_6.out (fun k_ hk => (⟨hk,hk.2⟩:_∧k_ ≠ gb308))) (fun _ hk => hk.2) (.int .i64 t302)) (fun _ hk => hk.2) (.string t303)) (fun _ hk => hk.2) (.int .i64 t304)) (fun _ hk => hk.2) (.int .i64 t305)) (fun _ hk => hk.2) (.int .i64 t306)) (fun _ hk => ⟨hk.1.1,hk.1.2⟩)))⟩;have n1_:Aside0 (w85.heap[gb275]?=some (.cells #[.int .i64 x276000_1,.string x276001_1,.int .i64 x276002_1,.int .i64 x276003_1,.int .i64 x276004_1] 78 (0,0))):=⟨(by rw [hw];exact bk_)⟩;have n2_:Aside0 (w85.heap[gb308]?=some (.cells #[.int .i64 t302,.string t303,.int .i64 t304,.int .i64 t305,.int .i64 t306] 78 (0,0))):=⟨(by rw [hw];exact (st5_ BK308.out))⟩;have n3_:Aside0 (IsS127 w w85 gb276 t300 t301):=⟨(by rw [hw];exact (by repeat (first|(with_reducible first|exact HI276.out|apply IsS127.alloc|apply IsS127.drewN|apply IsS127.drew|apply IsS127.set_0|apply IsS127.set_1|apply IsS127.far (hne:=NB276_275.out)|apply IsS127.far (hne:=NB276_308.out))|exact HI276.out|apply IsS127.set_0|apply IsS127.set_1)))⟩;have n4_:Aside0 (Below w.heap.size w w85):=⟨(by rw [hw];exact (by repeat (first|(with_reducible first|exact HB.out|apply below_alloc|apply pw_below_drewN|apply below_drew1|refine below_set ?_ (IsS127.ge HI276.out)|refine below_set ?_ GE275.out|refine below_set ?_ GE308.out)|exact HB.out)))⟩;clear hw;clear HO_6;clear BK275;clear BK308;clear HI276;clear HB;have HO_6:=n0_;have BK275:=n1_;have BK308:=n2_;have HI276:=n3_;have HB:=n4_;clear n0_ n1_ n2_ n3_ n4_;have hnb86:=NB275_276.out;have hnc86:=NB276_275.out;obtain ⟨hcz87_0,hcz87_1,hcz87_2,hcz87_3,hcz87_4,hfz87_0,hfz87_1,hfz87_2,hfz87_3,hfz87_4⟩:=blk5_ BK275.out)|((with_reducible refine gate_store (t:=78) (p:=3) rfl ?_);refine store_event (t:=78) (p:=3) (v:=?vo_w88) (w1:=(((((w85.setCell ⟨gb275,0,none⟩ (.int .i64 0)).setCell ⟨gb275,1,none⟩ (.string (⟨#[]⟩:ByteArray))).setCell ⟨gb275,2,none⟩ (.int .i64 0)).setCell ⟨gb275,3,none⟩ (.int .i64 0)).setCell ⟨gb275,4,none⟩ (.int .i64 0))) ?hg ?ho ?hn ?hr ?_;(case ho => rfl);(case hg => rfl);(case hn => rfl);(case hr => first|(go_simp;done)|(go_simp;rfl));intro w88 hw;have n0_:Aside0 (Kd.R k78 78 w88 w.heap.size (fun k_ => k_ ≠ gb275∧k_ ≠ gb308) u6 x6_1):=⟨(by rw [hw];exact (by (with_reducible repeat (first|apply Kd.R_alloc|apply Kd.R_drewN|apply Kd.R_drew));exact Kd.R_mono (Kd.R_far (p:=⟨gb275,4,none⟩) (Kd.R_far (p:=⟨gb275,3,none⟩) (Kd.R_far (p:=⟨gb275,2,none⟩) (Kd.R_far (p:=⟨gb275,1,none⟩) (Kd.R_far (p:=⟨gb275,0,none⟩) (Kd.R_mono HO_6.out (fun k_ hk => (⟨hk,hk.1⟩:_∧k_ ≠ gb275))) (fun _ hk => hk.2) (.int .i64 0)) (fun _ hk => hk.2) (.string (⟨#[]⟩:ByteArray))) (fun _ hk => hk.2) (.int .i64 0)) (fun _ hk => hk.2) (.int .i64 0)) (fun _ hk => hk.2) (.int .i64 0)) (fun _ hk => ⟨hk.1.1,hk.1.2⟩)))⟩;have n1_:Aside0 (w88.heap[gb275]?=some (.cells #[.int .i64 0,.string (⟨#[]⟩:ByteArray),.int .i64 0,.int .i64 0,.int .i64 0] 78 (0,0))):=⟨(by rw [hw];exact (st5_ BK275.out))⟩;have n2_:Aside0 (w88.heap[gb308]?=some (.cells #[.int .i64 t302,.string t303,.int .i64 t304,.int .i64 t305,.int .i64 t306] 78 (0,0))):=⟨(by rw [hw];exact bk_)⟩;have n3_:Aside0 (IsS127 w w88 gb276 t300 t301):=⟨(by rw [hw];exact (by repeat (first|(with_reducible first|exact HI276.out|apply IsS127.alloc|apply IsS127.drewN|apply IsS127.drew|apply IsS127.set_0|apply IsS127.set_1|apply IsS127.far (hne:=NB276_275.out)|apply IsS127.far (hne:=NB276_308.out))|exact HI276.out|apply IsS127.set_0|apply IsS127.set_1)))⟩;have n4_:Aside0 (Below w.heap.size w w88):=⟨(by rw [hw];exact (by repeat (first|(with_reducible first|exact HB.out|apply below_alloc|apply pw_below_drewN|apply below_drew1|refine below_set ?_ (IsS127.ge HI276.out)|refine below_set ?_ GE275.out|refine below_set ?_ GE308.out)|exact HB.out)))⟩;clear hw;clear HO_6;clear BK275;clear BK308;clear HI276;clear HB;have HO_6:=n0_;have BK275:=n1_;have BK308:=n2_;have HI276:=n3_;have HB:=n4_;clear n0_ n1_ n2_ n3_ n4_))
           refine bodyPost_ret (results_list (rs:=[.tmp 2,.cell 3 78,.tmp 4]) rfl (by simp) (.tmp (.cell gb275 78 #[.int .i64 0,.string (⟨#[]⟩:ByteArray),.int .i64 0,.int .i64 0,.int .i64 0] (0,0) _ rfl bk_ Tryd.underlying78 rfl (by kernel_rfl) (.tmp .nil)))) rfl ?_
           exact ⟨_,ew_,by first|exact Kd.R_nil _ _ _ _ _|exact Kd.N_nil _ _ _ _ _|exact Kd.V_nil _ _ _ _ _|exact Kd.Q_nil _ _ _ _ _|exact Kd.S_nil _ _ _ _ _,by repeat (first|(with_reducible first|exact HB.out|apply below_alloc|apply pw_below_drewN|apply below_drew1|refine below_set ?_ (IsS127.ge HI276.out)|refine below_set ?_ GE275.out|refine below_set ?_ GE308.out)|exact HB.out)⟩
         ·rw [if_neg c61] at H
          exact absurd H (by simp)
 ·replace c3:=Bool.eq_false_iff.mpr c3
  subst c3
  rw [if_neg (show ¬ (false=true) by decide)] at H
  simp only [Option.some.injEq,Prod.mk.injEq] at H
  obtain ⟨rfl,rfl,rfl,rfl,rfl,rfl,rfl⟩:=H
  go_enter Tryd.func51,Tryd.ntmps51
  go_wp2_with (first|((with_reducible refine gate_dst (N:=3) rfl ?_);(try (refine gate_guard (by rfl) ?_;dsimp only));refine box_event ?hg (N:=3) ?hd (cs:=#[.int .i64 0,.string (⟨#[]⟩:ByteArray),.int .i64 0,.int .i64 0,.int .i64 0]) (t:=78) ?hr ?_;(case hd => rfl);(case hg => rfl);(case hr => first|(go_simp;done)|(go_simp;rfl));intro gb275 hg w89 hbox hb;have n0_:=Aside0.mk (below_step bl_ hb);have n1_:=Aside0.mk (hbox);have n2_:=Aside0.mk ((by rw [hg];exact (below_size bl_):w.heap.size≤gb275));have n3_:=Aside0.mk ((by rw [hg];exact (below_size bl_):w.heap.size≤gb275));clear HB;have HB:=n0_;have BK275:=n1_;have GW275:=n2_;have GE275:=n3_;clear n0_ n1_ n2_ n3_;clear hb hbox hg)|((with_reducible refine gate_dst (N:=13) rfl ?_);(try (refine gate_guard (by rfl) ?_;dsimp only));refine box_event ?hg (N:=13) ?hd (cs:=#[.string a0,.int .i64 0]) (t:=127) ?hr ?_;(case hd => rfl);(case hg => rfl);(case hr => first|(go_simp;done)|(go_simp;rfl));intro gb276 hg w90 hbox hb;have n0_:=Aside0.mk (blk_below (g:=gb275) (o:=.cells #[.int .i64 0,.string (⟨#[]⟩:ByteArray),.int .i64 0,.int .i64 0,.int .i64 0] 78 (0,0)) bk_ hb);have n1_:=Aside0.mk (below_step bl_ hb);have n2_:=Aside0.mk (hbox);have n3_:=Aside0.mk ((by rw [hg];exact (below_size bl_):w.heap.size≤gb276));have n4_:=Aside0.mk ((by rw [hg];exact (below_size bl_):w.heap.size≤gb276));have n5_:=Aside0.mk ((by rw [hg];exact Nat.ne_of_lt (blk_lt (g:=gb275) (o:=.cells #[.int .i64 0,.string (⟨#[]⟩:ByteArray),.int .i64 0,.int .i64 0,.int .i64 0] 78 (0,0)) bk_):gb275 ≠ gb276));have n6_:=Aside0.mk ((by rw [hg];exact Nat.ne_of_gt (blk_lt (g:=gb275) (o:=.cells #[.int .i64 0,.string (⟨#[]⟩:ByteArray),.int .i64 0,.int .i64 0,.int .i64 0] 78 (0,0)) bk_):gb276 ≠ gb275));clear BK275;clear HB;have BK275:=n0_;have HB:=n1_;have BK276:=n2_;have GW276:=n3_;have GE276:=n4_;have NB275_276:=n5_;have NB276_275:=n6_;clear n0_ n1_ n2_ n3_ n4_ n5_ n6_;clear hb hbox hg;have HI276:=Aside0.mk (show IsS127 w w90 gb276 a0 0 from ⟨BK276.out,GE276.out⟩);clear BK276)|(refine callA_ (f:=61) (some 15) Tryd.func61 #[.string a0,.string (⟨#[40]⟩:ByteArray)] ?_;(with_reducible refine (strings_HasPrefix.calls a0 (⟨#[40]⟩:ByteArray) false _ A2.out).mono ?_);rintro e w' ⟨rfl,⟨nd,rfl⟩⟩;refine ⟨_,rfl,?_⟩;(try (rw [drewN_self w90];generalize hq_:World.drewN w90 _=w90;have n0_:Aside0 (w90.heap[gb275]?=some (.cells #[.int .i64 0,.string (⟨#[]⟩:ByteArray),.int .i64 0,.int .i64 0,.int .i64 0] 78 (0,0))):=⟨by rw [← hq_];exact bk_⟩;have n1_:Aside0 (IsS127 w w90 gb276 a0 0):=⟨by rw [← hq_];exact (by repeat (first|(with_reducible first|exact HI276.out|apply IsS127.alloc|apply IsS127.drewN|apply IsS127.drew|apply IsS127.set_0|apply IsS127.set_1|apply IsS127.far (hne:=NB276_275.out))|exact HI276.out|apply IsS127.set_0|apply IsS127.set_1))⟩;have n2_:Aside0 (Below w.heap.size w w90):=⟨by rw [← hq_];exact (by repeat (first|(with_reducible first|exact HB.out|apply below_alloc|apply pw_below_drewN|apply below_drew1|refine below_set ?_ (IsS127.ge HI276.out)|refine below_set ?_ GE275.out)|exact HB.out))⟩;clear BK275 HI276 HB hq_;have BK275:=n0_;have HI276:=n1_;have HB:=n2_;clear n0_ n1_ n2_));have hnb91:=NB275_276.out;have hnc91:=NB276_275.out;obtain ⟨hcz92_0,hcz92_1,hcz92_2,hcz92_3,hcz92_4,hfz92_0,hfz92_1,hfz92_2,hfz92_3,hfz92_4⟩:=blk5_ BK275.out)|((with_reducible refine gate_store (t:=78) (p:=3) rfl ?_);refine store_event (t:=78) (p:=3) (v:=?vo_w93) (w1:=(((((w90.setCell ⟨gb275,0,none⟩ (.int .i64 0)).setCell ⟨gb275,1,none⟩ (.string (⟨#[]⟩:ByteArray))).setCell ⟨gb275,2,none⟩ (.int .i64 0)).setCell ⟨gb275,3,none⟩ (.int .i64 0)).setCell ⟨gb275,4,none⟩ (.int .i64 0))) ?hg ?ho ?hn ?hr ?_;(case ho => rfl);(case hg => rfl);(case hn => rfl);(case hr => first|(go_simp;done)|(go_simp;rfl));intro w93 hw;have n0_:Aside0 (w93.heap[gb275]?=some (.cells #[.int .i64 0,.string (⟨#[]⟩:ByteArray),.int .i64 0,.int .i64 0,.int .i64 0] 78 (0,0))):=⟨(by rw [hw];exact (st5_ BK275.out))⟩;have n1_:Aside0 (IsS127 w w93 gb276 a0 0):=⟨(by rw [hw];exact (by repeat (first|(with_reducible first|exact HI276.out|apply IsS127.alloc|apply IsS127.drewN|apply IsS127.drew|apply IsS127.set_0|apply IsS127.set_1|apply IsS127.far (hne:=NB276_275.out))|exact HI276.out|apply IsS127.set_0|apply IsS127.set_1)))⟩;have n2_:Aside0 (Below w.heap.size w w93):=⟨(by rw [hw];exact (by repeat (first|(with_reducible first|exact HB.out|apply below_alloc|apply pw_below_drewN|apply below_drew1|refine below_set ?_ (IsS127.ge HI276.out)|refine below_set ?_ GE275.out)|exact HB.out)))⟩;clear hw;clear BK275;clear HI276;clear HB;have BK275:=n0_;have HI276:=n1_;have HB:=n2_;clear n0_ n1_ n2_))
  refine bodyPost_ret (results_list (rs:=[.tmp 2,.cell 3 78,.tmp 4]) rfl (by simp) (.tmp (.cell gb275 78 #[.int .i64 0,.string (⟨#[]⟩:ByteArray),.int .i64 0,.int .i64 0,.int .i64 0] (0,0) _ rfl bk_ Tryd.underlying78 rfl (by kernel_rfl) (.tmp .nil)))) rfl ?_
  exact ⟨_,ew_,by first|exact Kd.R_nil _ _ _ _ _|exact Kd.N_nil _ _ _ _ _|exact Kd.V_nil _ _ _ _ _|exact Kd.Q_nil _ _ _ _ _|exact Kd.S_nil _ _ _ _ _,by repeat (first|(with_reducible first|exact HB.out|apply below_alloc|apply pw_below_drewN|apply below_drew1|refine below_set ?_ (IsS127.ge HI276.out)|refine below_set ?_ GE275.out)|exact HB.out)⟩
end Go.Proofs.YtoonhpcjcimecaaDoor.Px
