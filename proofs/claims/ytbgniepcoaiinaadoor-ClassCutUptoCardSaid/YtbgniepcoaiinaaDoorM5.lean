/- understudylaw05.ClassCut: the walk of the law. -/
/- Arithmetic of modified UTF-8: a unit's bytes. -/
/- Plain law of a unit that is read: the program's and the reference's both are 'takeV'. -/
/- Plain law of wire.Reader: the numbers that bytes make. -/
/- Plain law of Decode: the program's and the reference's both are 'decV'; the pure statement of TextDecodes. -/
/- Plain law of modified UTF-8: what a text's bytes are ('encL'), and that the program's Encode comes to them. -/
/- Plain law of there and back: what is encoded is decoded as itself, and what is decoded is encoded as itself. -/
/- Plain law of a pool's places: does a place lead to a tag, and to which text. -/
/- Plain law of pool.Check: what the program's check comes to. -/
/- Plain law of pool.Decode: what the program's comes to. -/
/- Plain law of class.Check: what the program's check comes to. -/
/- class.Check comes to 'classCheckV'. -/
/- Plain law of class.reader: what the bytes of a class come to. -/
/- class.Decode comes to 'classD'; what was read stays, whatever is behind. -/
/- Plain law of pool.Encode: the bytes of a pool that may be. -/
/- Plain law of class.Encode: the bytes of a class that may be. -/
/- Plain law: a pool's bytes are read as the pool. -/
/- Plain law: a class's bytes are read as the class; with more behind, or cut, they are none. -/
/- Plain law: the program of layer 5 computes at all. -/
/- The pure statement of ClassCut: a class file that is cut short anywhere is none. -/
import Derived.Test.YtbgniepcoaiinaaDoorM1
import Derived.Test.YtbgniepcoaiinaaDoorM3
import Derived.Test.YtbgniepcoaiinaaDoorM4
import Derived.Laws.BitsLemmas
import Derived.WalkKit
import Derived.Lib.ValidLaws
import Derived.Lib.DecodeN
import Derived.Lib.MapLaws
import Derived.Test.YtbgniepcoaiinaaDoorM2
import Derived.Lib.Strings
namespace Go.Proofs.YtbgniepcoaiinaaDoor.Px
open Go.RowKit Go.Proofs.YtbgniepcoaiinaaDoorW.PrintWords Go.Proofs.YtbgniepcoaiinaaDoorW.PrintLast Go.Proofs.YtbgniepcoaiinaaDoorW.PrintMore
attribute [local go_sem] max2_int min2_int max_two min_two max_three min_three max_four min_four
set_option linter.unusedVariables false
set_option linter.unusedSimpArgs false
def understudylaw05_awake.f (k:Nat) :Option (Bool):=(some (([(⟨0,(⟨#[]⟩:ByteArray),0,0,0⟩:S67),(⟨1,(⟨#[65]⟩:ByteArray),0,0,0⟩:S67),(⟨7,(⟨#[]⟩:ByteArray),0,1,0⟩:S67)]:List (S67)):List (S67))).bind fun y183 => ((class_Check.f k y183 2 2 ([]:List (S53)) ([]:List (S56))).bind fun t187 => (if t187=0 then ((class_Name.f y183 2 2 ([]:List (S53)) ([]:List (S56))).bind fun t188 => (some (t188.toList==([65]:List UInt8)))) else (some false)))
theorem understudylaw05_awake.mono:∀ k,LeO (understudylaw05_awake.f k ) (understudylaw05_awake.f (k + 1) ):=by
 intro  k
 unfold understudylaw05_awake.f
 repeat' first
   | (with_reducible exact class_Check.mono _ _ _ _ _ _)
   | (with_reducible exact LeO.refl _)
   | (with_reducible exact LeO.none _)
   | (with_reducible refine LeO.ite ?_ ?_)
   | (with_reducible refine LeO.bind ?_ (fun _ => ?_))
   | exact class_Check.mono _ _ _ _ _ _
   | exact LeO.none _
   | refine LeO.ite ?_ ?_
   | refine LeO.bind ?_ (fun _ => ?_)
set_option maxHeartbeats 80000000 in
set_option maxRecDepth 100000 in
theorem understudylaw05_awake.calls (k:Nat)  (r:Bool) (w:World) (hG:Aside0 (GG w)) (h:understudylaw05_awake.f k =some r) :
  Calls Tryd.prog 9 #[] w fun e w' => e=.returned (.bool r)∧Below w.heap.size w w':=by
 have hu67:=Tryd.underlying67
 have hu26:=Tryd.underlying26
 have HB:=Aside0.mk (Below.refl w.heap.size w)
 have H:((some (([(⟨0,(⟨#[]⟩:ByteArray),0,0,0⟩:S67),(⟨1,(⟨#[65]⟩:ByteArray),0,0,0⟩:S67),(⟨7,(⟨#[]⟩:ByteArray),0,1,0⟩:S67)]:List (S67)):List (S67))).bind fun y183 => ((class_Check.f k y183 2 2 ([]:List (S53)) ([]:List (S56))).bind fun t187 => (if t187=0 then ((class_Name.f y183 2 2 ([]:List (S53)) ([]:List (S56))).bind fun t188 => (some (t188.toList==([65]:List UInt8)))) else (some false))))=some r:=h
 clear h
 obtain ⟨y183,hy183⟩:∃ y_:List (S67),y_=(([(⟨0,(⟨#[]⟩:ByteArray),0,0,0⟩:S67),(⟨1,(⟨#[65]⟩:ByteArray),0,0,0⟩:S67),(⟨7,(⟨#[]⟩:ByteArray),0,1,0⟩:S67)]:List (S67))):=⟨_,rfl⟩
 replace H:((class_Check.f k y183 2 2 ([]:List (S53)) ([]:List (S56))).bind fun t187 => (if t187=0 then ((class_Name.f y183 2 2 ([]:List (S53)) ([]:List (S56))).bind fun t188 => (some (t188.toList==([65]:List UInt8)))) else (some false)))=some r:=by first|(rw [hy183];with_reducible exact H)|(have H2_:=(Option.bind_some _ _).symm.trans H;rw [hy183];with_reducible exact H2_)|(have H2_:=(Option.bind_some _ _).symm.trans H;with_reducible exact H2_)|with_reducible exact H|(rw [hy183];exact H)|exact H
 have Ny183:=Aside0.mk hy183
 clear hy183
 replace H:=Option.bind_eq_some_iff.mp H
 obtain ⟨t187,A10,H⟩:=H
 replace H:(if t187=0 then ((class_Name.f y183 2 2 ([]:List (S53)) ([]:List (S56))).bind fun t188 => (some (t188.toList==([65]:List UInt8)))) else (some false))=some r:=H
 have A1:=Aside0.mk A10
 clear A10
 by_cases c2:t187=0
 ·rw [if_pos c2] at H
  have c2b0:(t187==0)=true:=beq_iff_eq.mpr c2
  have c2b1:(t187 != 0)=false:=bne_eq_false_iff_eq.mpr c2
  clear c2
  replace H:=Option.bind_eq_some_iff.mp H
  obtain ⟨t188,A30,H⟩:=H
  replace H:(some (t188.toList==([65]:List UInt8)))=some r:=H
  have A3:=Aside0.mk A30
  clear A30
  obtain rfl:=Option.some.inj H
  go_enter Tryd.func9,Tryd.ntmps9
  go_wp2_with (first|((with_reducible refine gate_dst (N:=5) rfl ?_);refine Kd.R_lit k67 _ 67 ?hg (N:=5) ?hd (xs:=([(⟨0,(⟨#[]⟩:ByteArray),0,0,0⟩:S67),(⟨1,(⟨#[65]⟩:ByteArray),0,0,0⟩:S67),(⟨7,(⟨#[]⟩:ByteArray),0,1,0⟩:S67)]:List (S67))) (inner:=[.int .i64 0,.string (⟨#[]⟩:ByteArray),.int .i64 0,.int .i64 0,.int .i64 0,.int .i64 1,.string (⟨#[65]⟩:ByteArray),.int .i64 0,.int .i64 0,.int .i64 0,.int .i64 7,.string (⟨#[]⟩:ByteArray),.int .i64 0,.int .i64 1,.int .i64 0]) (ok:=fun _ => True) (okp:=fun _ => True) ?hr ?hp (fun _ hk => hk) trivial (Below.refl _ _) (Nat.le_refl _) (by simp) ?_;(case hd => rfl);(case hg => rfl);(case hr => first|(go_simp;done)|(go_simp;rfl));(case hp => exact (Reps.c5 (show Kd.M k67 _ _ _ (⟨0,(⟨#[]⟩:ByteArray),0,0,0⟩:S67) [.int .i64 0,.string (⟨#[]⟩:ByteArray),.int .i64 0,.int .i64 0,.int .i64 0] from (k67_mkM _ _ _ (⟨0,(⟨#[]⟩:ByteArray),0,0,0⟩:S67) )) (Reps.c5 (show Kd.M k67 _ _ _ (⟨1,(⟨#[65]⟩:ByteArray),0,0,0⟩:S67) [.int .i64 1,.string (⟨#[65]⟩:ByteArray),.int .i64 0,.int .i64 0,.int .i64 0] from (k67_mkM _ _ _ (⟨1,(⟨#[65]⟩:ByteArray),0,0,0⟩:S67) )) (Reps.c5 (show Kd.M k67 _ _ _ (⟨7,(⟨#[]⟩:ByteArray),0,1,0⟩:S67) [.int .i64 7,.string (⟨#[]⟩:ByteArray),.int .i64 0,.int .i64 1,.int .i64 0] from (k67_mkM _ _ _ (⟨7,(⟨#[]⟩:ByteArray),0,1,0⟩:S67) )) (Reps.none _ _)))));intro v184 w4 ho5 hb hg_ hnew_;clear hg_ hnew_;(first|rw [← Ny183.out] at ho5|(simp only [Int.reduceToNat] at ho5;rw [← Ny183.out] at ho5));have n0_:=Aside0.mk (Kd.R_lower ho5 (below_size (by repeat (first|(with_reducible first|exact HB.out|apply below_alloc|apply pw_below_drewN|apply below_drew1)|exact HB.out))));have n1_:=Aside0.mk (below_step (by repeat (first|(with_reducible first|exact HB.out|apply below_alloc|apply pw_below_drewN|apply below_drew1)|exact HB.out)) hb);clear HB;have HO185:=n0_;have HB:=n1_;clear n0_ n1_;clear hb ho5;obtain ⟨Ao6,co6,eo6⟩:=Kd.R_slice HO185.out;subst eo6)|((with_reducible refine gate_dst (N:=1) rfl ?_);refine box_event ?hg (N:=1) ?hd (cs:=#[.slice none 0 0,.int .i64 0,.int .i64 0,.slice none 0 0,.slice none 0 0]) (t:=26) ?hr ?_;(case hd => rfl);(case hg => rfl);(case hr => first|(go_simp;done)|(go_simp;rfl));intro gb186 hg w7 hbox hb;have n0_:=Aside0.mk (Kd.R_below (by (with_reducible repeat (first|apply Kd.R_alloc|apply Kd.R_drewN|apply Kd.R_drew));exact HO185.out) hb);have n1_:=Aside0.mk (below_step (by repeat (first|(with_reducible first|exact HB.out|apply below_alloc|apply pw_below_drewN|apply below_drew1)|exact HB.out)) hb);have n2_:=Aside0.mk (hbox);have n3_:=Aside0.mk ((by rw [hg];exact (below_size (by repeat (first|(with_reducible first|exact HB.out|apply below_alloc|apply pw_below_drewN|apply below_drew1)|exact HB.out))):w.heap.size≤gb186));have n4_:=Aside0.mk ((by rw [hg];exact (below_size (by repeat (first|(with_reducible first|exact HB.out|apply below_alloc|apply pw_below_drewN|apply below_drew1)|exact HB.out))):w.heap.size≤gb186));clear HO185;clear HB;have HO185:=n0_;have HB:=n1_;have BK186:=n2_;have GW186:=n3_;have GE186:=n4_;clear n0_ n1_ n2_ n3_ n4_;clear hb hbox hg;have hcz8_0:w7.cell? ⟨gb186,0,none⟩=some (.slice none 0 0):=(blk_cell BK186.out 0).trans rfl;have hcz8_1:w7.cell? ⟨gb186,1,none⟩=some (.int .i64 0):=(blk_cell BK186.out 1).trans rfl;have hcz8_2:w7.cell? ⟨gb186,2,none⟩=some (.int .i64 0):=(blk_cell BK186.out 2).trans rfl;have hcz8_3:w7.cell? ⟨gb186,3,none⟩=some (.slice none 0 0):=(blk_cell BK186.out 3).trans rfl;have hcz8_4:w7.cell? ⟨gb186,4,none⟩=some (.slice none 0 0):=(blk_cell BK186.out 4).trans rfl;have hfz8_0:=blk_frozen BK186.out 0;have hfz8_1:=blk_frozen BK186.out 1;have hfz8_2:=blk_frozen BK186.out 2;have hfz8_3:=blk_frozen BK186.out 3;have hfz8_4:=blk_frozen BK186.out 4)|((with_reducible refine gate_store (t:=26) (p:=1) rfl ?_);refine store_event (t:=26) (p:=1) (v:=?vo_w9) (w1:=(((((w7.setCell ⟨gb186,0,none⟩ (.slice Ao6 y183.length co6)).setCell ⟨gb186,1,none⟩ (.int .i64 2)).setCell ⟨gb186,2,none⟩ (.int .i64 2)).setCell ⟨gb186,3,none⟩ (.slice none 0 0)).setCell ⟨gb186,4,none⟩ (.slice none 0 0))) ?hg ?ho ?hn ?hr ?_;(case ho => rfl);(case hg => rfl);(case hn => rfl);(case hr => first|(go_simp;done)|(go_simp;rfl));intro w9 hw;have n0_:Aside0 (Kd.R k67 67 w9 w.heap.size (fun _ => True) (.slice Ao6 y183.length co6) y183):=⟨(by rw [hw];exact (by (with_reducible repeat (first|apply Kd.R_alloc|apply Kd.R_drewN|apply Kd.R_drew));exact Kd.R_mono (Kd.R_far (p:=⟨gb186,4,none⟩) (Kd.R_far (p:=⟨gb186,3,none⟩) (Kd.R_far (p:=⟨gb186,2,none⟩) (Kd.R_far (p:=⟨gb186,1,none⟩) (Kd.R_far (p:=⟨gb186,0,none⟩) (Kd.R_types HO185.out BK186.out (by decide)) (fun _ hk => hk.2) (.slice Ao6 y183.length co6)) (fun _ hk => hk.2) (.int .i64 2)) (fun _ hk => hk.2) (.int .i64 2)) (fun _ hk => hk.2) (.slice none 0 0)) (fun _ hk => hk.2) (.slice none 0 0)) (fun _ hk => trivial)))⟩;have n1_:Aside0 (w9.heap[gb186]?=some (.cells #[.slice Ao6 y183.length co6,.int .i64 2,.int .i64 2,.slice none 0 0,.slice none 0 0] 26 (0,0))):=⟨(by rw [hw];exact (by (with_reducible repeat (first|refine blk_drewN ?_ _|refine blk_drew ?_|refine blk_alloc ?_ _));refine blk_put (cs:=#[.slice Ao6 y183.length co6,.int .i64 2,.int .i64 2,.slice none 0 0,.slice none 0 0]) ?_ 4 _ rfl;(with_reducible repeat (first|refine blk_drewN ?_ _|refine blk_drew ?_|refine blk_alloc ?_ _));refine blk_put (cs:=#[.slice Ao6 y183.length co6,.int .i64 2,.int .i64 2,.slice none 0 0,.slice none 0 0]) ?_ 3 _ rfl;(with_reducible repeat (first|refine blk_drewN ?_ _|refine blk_drew ?_|refine blk_alloc ?_ _));refine blk_put (cs:=#[.slice Ao6 y183.length co6,.int .i64 2,.int .i64 0,.slice none 0 0,.slice none 0 0]) ?_ 2 _ rfl;(with_reducible repeat (first|refine blk_drewN ?_ _|refine blk_drew ?_|refine blk_alloc ?_ _));refine blk_put (cs:=#[.slice Ao6 y183.length co6,.int .i64 0,.int .i64 0,.slice none 0 0,.slice none 0 0]) ?_ 1 _ rfl;(with_reducible repeat (first|refine blk_drewN ?_ _|refine blk_drew ?_|refine blk_alloc ?_ _));refine blk_put (cs:=#[.slice none 0 0,.int .i64 0,.int .i64 0,.slice none 0 0,.slice none 0 0]) ?_ 0 _ rfl;(with_reducible repeat (first|refine blk_drewN ?_ _|refine blk_drew ?_|refine blk_alloc ?_ _));exact BK186.out))⟩;have n2_:Aside0 (Below w.heap.size w w9):=⟨(by rw [hw];exact (by repeat (first|(with_reducible first|exact HB.out|apply below_alloc|apply pw_below_drewN|apply below_drew1|refine below_set ?_ GE186.out)|exact HB.out)))⟩;clear hw;clear HO185;clear BK186;clear HB;have HO185:=n0_;have BK186:=n1_;have HB:=n2_;clear n0_ n1_ n2_;have hcz10_0:w9.cell? ⟨gb186,0,none⟩=some (.slice Ao6 y183.length co6):=(blk_cell BK186.out 0).trans rfl;have hcz10_1:w9.cell? ⟨gb186,1,none⟩=some (.int .i64 2):=(blk_cell BK186.out 1).trans rfl;have hcz10_2:w9.cell? ⟨gb186,2,none⟩=some (.int .i64 2):=(blk_cell BK186.out 2).trans rfl;have hcz10_3:w9.cell? ⟨gb186,3,none⟩=some (.slice none 0 0):=(blk_cell BK186.out 3).trans rfl;have hcz10_4:w9.cell? ⟨gb186,4,none⟩=some (.slice none 0 0):=(blk_cell BK186.out 4).trans rfl;have hfz10_0:=blk_frozen BK186.out 0;have hfz10_1:=blk_frozen BK186.out 1;have hfz10_2:=blk_frozen BK186.out 2;have hfz10_3:=blk_frozen BK186.out 3;have hfz10_4:=blk_frozen BK186.out 4)|((with_reducible refine gate_callee (f:=10) rfl ?_);refine goesL_ (some 8) rfl rfl Tryd.func10 (by kernel_rfl) rfl #[.agg #[.slice Ao6 y183.length co6,.int .i64 2,.int .i64 2,.slice none 0 0,.slice none 0 0]] rfl (by (try simp only [List.map_toArray,List.map_cons,List.map_nil]);first|done|rfl|(simp only [List.length_drop,List.length_take];rfl)) ?_;(refine (class_Check.calls k _ _ y183 2 2 _ _ ([]:List (S53)) _ _ ([]:List (S56)) t187 _ ?side7 ?side1 ?side2 ?side3 ?side4 ?side5 ?side6 A1.out).mono ?_);(case side1 => repeat (first|exact (Kd.R_reads' HO185.out).2.2|(with_reducible refine Kd.C_alloc ?_ _)|(with_reducible refine Kd.C_drewN ?_ _)|(with_reducible refine Kd.C_drew ?_)));(case side2 => exact (Kd.R_reads' HO185.out).2.1);(case side3 => exact Kd.C_nil _ _);(case side4 => exact Nat.le_refl _);(case side5 => exact Kd.C_nil _ _);(case side6 => exact Nat.le_refl _);(case side7 => exact ⟨GG.below hG.out (by repeat (first|(with_reducible first|exact HB.out|apply below_alloc|apply pw_below_drewN|apply below_drew1|refine below_set ?_ GE186.out)|exact HB.out))⟩);rintro e w11 ⟨rfl,hb⟩;refine ⟨_,rfl,?_⟩;have n0_:=Aside0.mk (Kd.R_below (by (with_reducible repeat (first|apply Kd.R_alloc|apply Kd.R_drewN|apply Kd.R_drew));exact HO185.out) hb);have n1_:=Aside0.mk (blk_below (g:=gb186) (o:=.cells #[.slice Ao6 y183.length co6,.int .i64 2,.int .i64 2,.slice none 0 0,.slice none 0 0] 26 (0,0)) (by (with_reducible repeat (first|refine blk_drewN ?_ _|refine blk_drew ?_|refine blk_alloc ?_ _));exact BK186.out) hb);have n2_:=Aside0.mk (below_step (by repeat (first|(with_reducible first|exact HB.out|apply below_alloc|apply pw_below_drewN|apply below_drew1|refine below_set ?_ GE186.out)|exact HB.out)) hb);clear HO185;clear BK186;clear HB;have HO185:=n0_;have BK186:=n1_;have HB:=n2_;clear n0_ n1_ n2_;(try clear hb);(try clear hb2);(try clear hk);(try clear hi);have hcz12_0:w11.cell? ⟨gb186,0,none⟩=some (.slice Ao6 y183.length co6):=(blk_cell BK186.out 0).trans rfl;have hcz12_1:w11.cell? ⟨gb186,1,none⟩=some (.int .i64 2):=(blk_cell BK186.out 1).trans rfl;have hcz12_2:w11.cell? ⟨gb186,2,none⟩=some (.int .i64 2):=(blk_cell BK186.out 2).trans rfl;have hcz12_3:w11.cell? ⟨gb186,3,none⟩=some (.slice none 0 0):=(blk_cell BK186.out 3).trans rfl;have hcz12_4:w11.cell? ⟨gb186,4,none⟩=some (.slice none 0 0):=(blk_cell BK186.out 4).trans rfl;have hfz12_0:=blk_frozen BK186.out 0;have hfz12_1:=blk_frozen BK186.out 1;have hfz12_2:=blk_frozen BK186.out 2;have hfz12_3:=blk_frozen BK186.out 3;have hfz12_4:=blk_frozen BK186.out 4)|(go_at_call 28;(refine (class_Name.calls _ _ y183 2 2 _ _ ([]:List (S53)) _ _ ([]:List (S56)) t188 _ ?side1 ?side2 ?side3 ?side4 ?side5 ?side6 A3.out).mono ?_);(case side1 => repeat (first|exact (Kd.R_reads' HO185.out).2.2|(with_reducible refine Kd.C_alloc ?_ _)|(with_reducible refine Kd.C_drewN ?_ _)|(with_reducible refine Kd.C_drew ?_)));(case side2 => exact (Kd.R_reads' HO185.out).2.1);(case side3 => exact Kd.C_nil _ _);(case side4 => exact Nat.le_refl _);(case side5 => exact Kd.C_nil _ _);(case side6 => exact Nat.le_refl _);rintro e w13 ⟨rfl,hb⟩;have n0_:=Aside0.mk (Kd.R_below (by (with_reducible repeat (first|apply Kd.R_alloc|apply Kd.R_drewN|apply Kd.R_drew));exact HO185.out) hb);have n1_:=Aside0.mk (blk_below (g:=gb186) (o:=.cells #[.slice Ao6 y183.length co6,.int .i64 2,.int .i64 2,.slice none 0 0,.slice none 0 0] 26 (0,0)) (by (with_reducible repeat (first|refine blk_drewN ?_ _|refine blk_drew ?_|refine blk_alloc ?_ _));exact BK186.out) hb);have n2_:=Aside0.mk (below_step (by repeat (first|(with_reducible first|exact HB.out|apply below_alloc|apply pw_below_drewN|apply below_drew1|refine below_set ?_ GE186.out)|exact HB.out)) hb);clear HO185;clear BK186;clear HB;have HO185:=n0_;have BK186:=n1_;have HB:=n2_;clear n0_ n1_ n2_;(try clear hb);(try clear hb2);(try clear hk);(try clear hi)))
  go_ret
  exact ⟨by first|rfl|(simp [errW_none,errW_some] <;> rfl)|(simp [*,errW_none,errW_some] <;> rfl),by repeat (first|(with_reducible first|exact HB.out|apply below_alloc|apply pw_below_drewN|apply below_drew1|refine below_set ?_ GE186.out)|exact HB.out)⟩
 ·rw [if_neg c2] at H
  have c2b0:(t187==0)=false:=beq_eq_false_iff_ne.mpr c2
  have c2b1:(t187 != 0)=true:=bne_iff_ne.mpr c2
  obtain rfl:=Option.some.inj H
  go_enter Tryd.func9,Tryd.ntmps9
  go_wp2_with (first|((with_reducible refine gate_dst (N:=5) rfl ?_);refine Kd.R_lit k67 _ 67 ?hg (N:=5) ?hd (xs:=([(⟨0,(⟨#[]⟩:ByteArray),0,0,0⟩:S67),(⟨1,(⟨#[65]⟩:ByteArray),0,0,0⟩:S67),(⟨7,(⟨#[]⟩:ByteArray),0,1,0⟩:S67)]:List (S67))) (inner:=[.int .i64 0,.string (⟨#[]⟩:ByteArray),.int .i64 0,.int .i64 0,.int .i64 0,.int .i64 1,.string (⟨#[65]⟩:ByteArray),.int .i64 0,.int .i64 0,.int .i64 0,.int .i64 7,.string (⟨#[]⟩:ByteArray),.int .i64 0,.int .i64 1,.int .i64 0]) (ok:=fun _ => True) (okp:=fun _ => True) ?hr ?hp (fun _ hk => hk) trivial (Below.refl _ _) (Nat.le_refl _) (by simp) ?_;(case hd => rfl);(case hg => rfl);(case hr => first|(go_simp;done)|(go_simp;rfl));(case hp => exact (Reps.c5 (show Kd.M k67 _ _ _ (⟨0,(⟨#[]⟩:ByteArray),0,0,0⟩:S67) [.int .i64 0,.string (⟨#[]⟩:ByteArray),.int .i64 0,.int .i64 0,.int .i64 0] from (k67_mkM _ _ _ (⟨0,(⟨#[]⟩:ByteArray),0,0,0⟩:S67) )) (Reps.c5 (show Kd.M k67 _ _ _ (⟨1,(⟨#[65]⟩:ByteArray),0,0,0⟩:S67) [.int .i64 1,.string (⟨#[65]⟩:ByteArray),.int .i64 0,.int .i64 0,.int .i64 0] from (k67_mkM _ _ _ (⟨1,(⟨#[65]⟩:ByteArray),0,0,0⟩:S67) )) (Reps.c5 (show Kd.M k67 _ _ _ (⟨7,(⟨#[]⟩:ByteArray),0,1,0⟩:S67) [.int .i64 7,.string (⟨#[]⟩:ByteArray),.int .i64 0,.int .i64 1,.int .i64 0] from (k67_mkM _ _ _ (⟨7,(⟨#[]⟩:ByteArray),0,1,0⟩:S67) )) (Reps.none _ _)))));intro v184 w14 ho15 hb hg_ hnew_;clear hg_ hnew_;(first|rw [← Ny183.out] at ho15|(simp only [Int.reduceToNat] at ho15;rw [← Ny183.out] at ho15));have n0_:=Aside0.mk (Kd.R_lower ho15 (below_size (by repeat (first|(with_reducible first|exact HB.out|apply below_alloc|apply pw_below_drewN|apply below_drew1)|exact HB.out))));have n1_:=Aside0.mk (below_step (by repeat (first|(with_reducible first|exact HB.out|apply below_alloc|apply pw_below_drewN|apply below_drew1)|exact HB.out)) hb);clear HB;have HO185:=n0_;have HB:=n1_;clear n0_ n1_;clear hb ho15;obtain ⟨Ao16,co16,eo16⟩:=Kd.R_slice HO185.out;subst eo16)|((with_reducible refine gate_dst (N:=1) rfl ?_);refine box_event ?hg (N:=1) ?hd (cs:=#[.slice none 0 0,.int .i64 0,.int .i64 0,.slice none 0 0,.slice none 0 0]) (t:=26) ?hr ?_;(case hd => rfl);(case hg => rfl);(case hr => first|(go_simp;done)|(go_simp;rfl));intro gb186 hg w17 hbox hb;have n0_:=Aside0.mk (Kd.R_below (by (with_reducible repeat (first|apply Kd.R_alloc|apply Kd.R_drewN|apply Kd.R_drew));exact HO185.out) hb);have n1_:=Aside0.mk (below_step (by repeat (first|(with_reducible first|exact HB.out|apply below_alloc|apply pw_below_drewN|apply below_drew1)|exact HB.out)) hb);have n2_:=Aside0.mk (hbox);have n3_:=Aside0.mk ((by rw [hg];exact (below_size (by repeat (first|(with_reducible first|exact HB.out|apply below_alloc|apply pw_below_drewN|apply below_drew1)|exact HB.out))):w.heap.size≤gb186));have n4_:=Aside0.mk ((by rw [hg];exact (below_size (by repeat (first|(with_reducible first|exact HB.out|apply below_alloc|apply pw_below_drewN|apply below_drew1)|exact HB.out))):w.heap.size≤gb186));clear HO185;clear HB;have HO185:=n0_;have HB:=n1_;have BK186:=n2_;have GW186:=n3_;have GE186:=n4_;clear n0_ n1_ n2_ n3_ n4_;clear hb hbox hg;have hcz18_0:w17.cell? ⟨gb186,0,none⟩=some (.slice none 0 0):=(blk_cell BK186.out 0).trans rfl;have hcz18_1:w17.cell? ⟨gb186,1,none⟩=some (.int .i64 0):=(blk_cell BK186.out 1).trans rfl;have hcz18_2:w17.cell? ⟨gb186,2,none⟩=some (.int .i64 0):=(blk_cell BK186.out 2).trans rfl;have hcz18_3:w17.cell? ⟨gb186,3,none⟩=some (.slice none 0 0):=(blk_cell BK186.out 3).trans rfl;have hcz18_4:w17.cell? ⟨gb186,4,none⟩=some (.slice none 0 0):=(blk_cell BK186.out 4).trans rfl;have hfz18_0:=blk_frozen BK186.out 0;have hfz18_1:=blk_frozen BK186.out 1;have hfz18_2:=blk_frozen BK186.out 2;have hfz18_3:=blk_frozen BK186.out 3;have hfz18_4:=blk_frozen BK186.out 4)|((with_reducible refine gate_store (t:=26) (p:=1) rfl ?_);refine store_event (t:=26) (p:=1) (v:=?vo_w19) (w1:=(((((w17.setCell ⟨gb186,0,none⟩ (.slice Ao16 y183.length co16)).setCell ⟨gb186,1,none⟩ (.int .i64 2)).setCell ⟨gb186,2,none⟩ (.int .i64 2)).setCell ⟨gb186,3,none⟩ (.slice none 0 0)).setCell ⟨gb186,4,none⟩ (.slice none 0 0))) ?hg ?ho ?hn ?hr ?_;(case ho => rfl);(case hg => rfl);(case hn => rfl);(case hr => first|(go_simp;done)|(go_simp;rfl));intro w19 hw;have n0_:Aside0 (Kd.R k67 67 w19 w.heap.size (fun _ => True) (.slice Ao16 y183.length co16) y183):=⟨(by rw [hw];exact (by (with_reducible repeat (first|apply Kd.R_alloc|apply Kd.R_drewN|apply Kd.R_drew));exact Kd.R_mono (Kd.R_far (p:=⟨gb186,4,none⟩) (Kd.R_far (p:=⟨gb186,3,none⟩) (Kd.R_far (p:=⟨gb186,2,none⟩) (Kd.R_far (p:=⟨gb186,1,none⟩) (Kd.R_far (p:=⟨gb186,0,none⟩) (Kd.R_types HO185.out BK186.out (by decide)) (fun _ hk => hk.2) (.slice Ao16 y183.length co16)) (fun _ hk => hk.2) (.int .i64 2)) (fun _ hk => hk.2) (.int .i64 2)) (fun _ hk => hk.2) (.slice none 0 0)) (fun _ hk => hk.2) (.slice none 0 0)) (fun _ hk => trivial)))⟩;have n1_:Aside0 (w19.heap[gb186]?=some (.cells #[.slice Ao16 y183.length co16,.int .i64 2,.int .i64 2,.slice none 0 0,.slice none 0 0] 26 (0,0))):=⟨(by rw [hw];exact (by (with_reducible repeat (first|refine blk_drewN ?_ _|refine blk_drew ?_|refine blk_alloc ?_ _));refine blk_put (cs:=#[.slice Ao16 y183.length co16,.int .i64 2,.int .i64 2,.slice none 0 0,.slice none 0 0]) ?_ 4 _ rfl;(with_reducible repeat (first|refine blk_drewN ?_ _|refine blk_drew ?_|refine blk_alloc ?_ _));refine blk_put (cs:=#[.slice Ao16 y183.length co16,.int .i64 2,.int .i64 2,.slice none 0 0,.slice none 0 0]) ?_ 3 _ rfl;(with_reducible repeat (first|refine blk_drewN ?_ _|refine blk_drew ?_|refine blk_alloc ?_ _));refine blk_put (cs:=#[.slice Ao16 y183.length co16,.int .i64 2,.int .i64 0,.slice none 0 0,.slice none 0 0]) ?_ 2 _ rfl;(with_reducible repeat (first|refine blk_drewN ?_ _|refine blk_drew ?_|refine blk_alloc ?_ _));refine blk_put (cs:=#[.slice Ao16 y183.length co16,.int .i64 0,.int .i64 0,.slice none 0 0,.slice none 0 0]) ?_ 1 _ rfl;(with_reducible repeat (first|refine blk_drewN ?_ _|refine blk_drew ?_|refine blk_alloc ?_ _));refine blk_put (cs:=#[.slice none 0 0,.int .i64 0,.int .i64 0,.slice none 0 0,.slice none 0 0]) ?_ 0 _ rfl;(with_reducible repeat (first|refine blk_drewN ?_ _|refine blk_drew ?_|refine blk_alloc ?_ _));exact BK186.out))⟩;have n2_:Aside0 (Below w.heap.size w w19):=⟨(by rw [hw];exact (by repeat (first|(with_reducible first|exact HB.out|apply below_alloc|apply pw_below_drewN|apply below_drew1|refine below_set ?_ GE186.out)|exact HB.out)))⟩;clear hw;clear HO185;clear BK186;clear HB;have HO185:=n0_;have BK186:=n1_;have HB:=n2_;clear n0_ n1_ n2_;have hcz20_0:w19.cell? ⟨gb186,0,none⟩=some (.slice Ao16 y183.length co16):=(blk_cell BK186.out 0).trans rfl;have hcz20_1:w19.cell? ⟨gb186,1,none⟩=some (.int .i64 2):=(blk_cell BK186.out 1).trans rfl;have hcz20_2:w19.cell? ⟨gb186,2,none⟩=some (.int .i64 2):=(blk_cell BK186.out 2).trans rfl;have hcz20_3:w19.cell? ⟨gb186,3,none⟩=some (.slice none 0 0):=(blk_cell BK186.out 3).trans rfl;have hcz20_4:w19.cell? ⟨gb186,4,none⟩=some (.slice none 0 0):=(blk_cell BK186.out 4).trans rfl;have hfz20_0:=blk_frozen BK186.out 0;have hfz20_1:=blk_frozen BK186.out 1;have hfz20_2:=blk_frozen BK186.out 2;have hfz20_3:=blk_frozen BK186.out 3;have hfz20_4:=blk_frozen BK186.out 4)|((with_reducible refine gate_callee (f:=10) rfl ?_);refine goesL_ (some 8) rfl rfl Tryd.func10 (by kernel_rfl) rfl #[.agg #[.slice Ao16 y183.length co16,.int .i64 2,.int .i64 2,.slice none 0 0,.slice none 0 0]] rfl (by (try simp only [List.map_toArray,List.map_cons,List.map_nil]);first|done|rfl|(simp only [List.length_drop,List.length_take];rfl)) ?_;(refine (class_Check.calls k _ _ y183 2 2 _ _ ([]:List (S53)) _ _ ([]:List (S56)) t187 _ ?side7 ?side1 ?side2 ?side3 ?side4 ?side5 ?side6 A1.out).mono ?_);(case side1 => repeat (first|exact (Kd.R_reads' HO185.out).2.2|(with_reducible refine Kd.C_alloc ?_ _)|(with_reducible refine Kd.C_drewN ?_ _)|(with_reducible refine Kd.C_drew ?_)));(case side2 => exact (Kd.R_reads' HO185.out).2.1);(case side3 => exact Kd.C_nil _ _);(case side4 => exact Nat.le_refl _);(case side5 => exact Kd.C_nil _ _);(case side6 => exact Nat.le_refl _);(case side7 => exact ⟨GG.below hG.out (by repeat (first|(with_reducible first|exact HB.out|apply below_alloc|apply pw_below_drewN|apply below_drew1|refine below_set ?_ GE186.out)|exact HB.out))⟩);rintro e w21 ⟨rfl,hb⟩;refine ⟨_,rfl,?_⟩;have n0_:=Aside0.mk (Kd.R_below (by (with_reducible repeat (first|apply Kd.R_alloc|apply Kd.R_drewN|apply Kd.R_drew));exact HO185.out) hb);have n1_:=Aside0.mk (blk_below (g:=gb186) (o:=.cells #[.slice Ao16 y183.length co16,.int .i64 2,.int .i64 2,.slice none 0 0,.slice none 0 0] 26 (0,0)) (by (with_reducible repeat (first|refine blk_drewN ?_ _|refine blk_drew ?_|refine blk_alloc ?_ _));exact BK186.out) hb);have n2_:=Aside0.mk (below_step (by repeat (first|(with_reducible first|exact HB.out|apply below_alloc|apply pw_below_drewN|apply below_drew1|refine below_set ?_ GE186.out)|exact HB.out)) hb);clear HO185;clear BK186;clear HB;have HO185:=n0_;have BK186:=n1_;have HB:=n2_;clear n0_ n1_ n2_;(try clear hb);(try clear hb2);(try clear hk);(try clear hi)))
  go_ret
  exact ⟨by first|rfl|(simp [errW_none,errW_some] <;> rfl)|(simp [*,errW_none,errW_some] <;> rfl),by repeat (first|(with_reducible first|exact HB.out|apply below_alloc|apply pw_below_drewN|apply below_drew1|refine below_set ?_ GE186.out)|exact HB.out)⟩
end Go.Proofs.YtbgniepcoaiinaaDoor.Px
namespace Go.Proofs.YtbgniepcoaiinaaDoor.Px
open Go.RowKit Go.Proofs.YtbgniepcoaiinaaDoorW.PrintWords Go.Proofs.YtbgniepcoaiinaaDoorW.PrintLast Go.Proofs.YtbgniepcoaiinaaDoorW.PrintMore
set_option linter.unusedVariables false
set_option linter.unusedSimpArgs false
def ClassCutOk (k:Nat) (l0:List Cst) (t s:Int) (l3:List Fld) (l4:List Mth) (at_:Int):Prop :=
 (∃ e,e ≠ 0∧class_Encode.f k l0 t s l3 l4=some ([],e)∧understudylaw05_awake.f k=some true) ∨
 (∃ bs n e,class_Encode.f k l0 t s l3 l4=some (bs,0)∧0 < bs.length∧bs.length≤1048576∧0≤at_∧at_ < 65536∧n < bs.length∧Int.tmod at_ (bs.length:Int)=(n:Int)∧class_Decode.f k (bs.take n)=some (⟨[],0,0,[],[]⟩,e)∧e ≠ 0)
open Classical in
noncomputable def understudylaw05_ClassCut.f (k:Nat) (l0:List Cst) (t s:Int) (l3:List Fld) (l4:List Mth) (at_:Int):Option Bool:=if ClassCutOk k l0 t s l3 l4 at_ then some true else none
structure CuAt (w W:World) (b:Nat) (R:Obj):Prop where
 bl:Below w.heap.size w W
 k:W.heap[b]?=some R
theorem CuAt.new {w W W':World} {b:Nat} {R:Obj} (h:CuAt w W b R) (hb:Below W.heap.size W W'):CuAt w W' b R:=⟨h.bl.trans (hb.mono h.bl.size),(hb.block _ (blk_lt h.k)).trans h.k⟩
theorem cu_none {α:Type} (d:Kd α) (w:World):d.C w none ([]:List α).length []:=⟨rfl,by simp,fun h => absurd h (by simp)⟩
set_option maxHeartbeats 80000000 in
set_option maxRecDepth 100000 in
theorem class_cut.ok {k:Nat} {A0 A3 A4:Option Addr} {c0 c3 c4:Nat} {l0:List Cst} {l3:List Fld} {l4:List Mth} {t s at_:Int} {w:World} (hG:Aside0 (GG w)) (hr0:Kd.C k67 w A0 l0.length l0) (hc0:l0.length≤c0) (hr3:Kd.C k53 w A3 l3.length l3) (hc3:l3.length≤c3) (hr4:Kd.C k56 w A4 l4.length l4) (hc4:l4.length≤c4) (h:ClassCutOk k l0 t s l3 l4 at_) :
  Calls Tryd.prog 5 #[.agg #[.slice A0 l0.length c0,.int .i64 t,.int .i64 s,.slice A3 l3.length c3,.slice A4 l4.length c4],.int .u16 at_] w fun e w' => e=.returned (.bool true)∧Below w.heap.size w w':=by
 have hu26:=Tryd.underlying26
 have HR0:=Aside0.mk hr0
 have HC0:=Aside0.mk hc0
 have HR3:=Aside0.mk hr3
 have HC3:=Aside0.mk hc3
 have HR4:=Aside0.mk hr4
 have HC4:=Aside0.mk hc4
 have HH:=Aside0.mk h
 clear hr0 hc0 hr3 hc3 hr4 hc4 h
 go_enter Tryd.func5,Tryd.ntmps5
 go_upto_region 1 with fail
 obtain ⟨W0,hW0⟩:∃ W0,W0=w.alloc (.cells #[.slice A0 l0.length c0,.int .i64 t,.int .i64 s,.slice A3 l3.length c3,.slice A4 l4.length c4] 26 (0,0)):=⟨_,rfl⟩
 obtain ⟨ba,hba⟩:∃ ba,ba=w.heap.size:=⟨_,rfl⟩
 rw [← hW0,← hba]
 have HS:Aside0 (CuAt w W0 ba (.cells #[.slice A0 l0.length c0,.int .i64 t,.int .i64 s,.slice A3 l3.length c3,.slice A4 l4.length c4] 26 (0,0))):=⟨⟨by rw [hW0];exact below_alloc (Below.refl _ _) _,by rw [hW0,hba];exact blk_new _ _⟩⟩
 clear hW0 hba
 have ea0:=(blk_cell HS.out.k 0).trans rfl
 have ea1:=(blk_cell HS.out.k 1).trans rfl
 have ea2:=(blk_cell HS.out.k 2).trans rfl
 have ea3:=(blk_cell HS.out.k 3).trans rfl
 have ea4:=(blk_cell HS.out.k 4).trans rfl
 go_wp2_with fail
 rcases HH.out with ⟨e,he,hE,hA⟩|⟨bs,n,e,hE,h0,hl,ha0,ha1,hn,hm,hD,he⟩
 ·have HAW:=Aside0.mk hA
  have hne:(e != 0)=true:=bne_iff_ne.mpr he
  refine (class_Encode.calls k _ _ l0 t s _ _ l3 _ _ l4 [] e W0 ⟨GG.below hG.out HS.out.bl⟩ (Kd.C_below HR0.out HS.out.bl) HC0.out (Kd.C_below HR3.out HS.out.bl) HC3.out (Kd.C_below HR4.out HS.out.bl) HC4.out hE).mono ?_
  rintro e1 W1 ⟨v0,rfl,hRv,hb1⟩
  obtain ⟨Ab,cb,rfl⟩:=Kd.R_slice hRv
  have HB1:=Aside0.mk (HS.out.new hb1).bl
  clear HS HH hE hA hRv hb1 ea0 ea1 ea2 ea3 ea4 he
  go_wp2_with fail
  refine (understudylaw05_awake.calls k true W1 ⟨GG.below hG.out HB1.out⟩ HAW.out).mono ?_
  rintro e1 W3 ⟨rfl,hb3⟩
  have HB3:=Aside0.mk (HB1.out.trans (hb3.mono HB1.out.size))
  clear hb3
  go_wp2
  go_ret
  exact ⟨rfl,HB3.out⟩
 ·have HD:=Aside0.mk hD
  have HL:=Aside0.mk hl
  have HN:=Aside0.mk hn
  have hne:(e != 0)=true:=bne_iff_ne.mpr he
  refine (class_Encode.calls k _ _ l0 t s _ _ l3 _ _ l4 bs 0 W0 ⟨GG.below hG.out HS.out.bl⟩ (Kd.C_below HR0.out HS.out.bl) HC0.out (Kd.C_below HR3.out HS.out.bl) HC3.out (Kd.C_below HR4.out HS.out.bl) HC4.out hE).mono ?_
  rintro e1 W1 ⟨v0,rfl,hRv,hb1⟩
  obtain ⟨Ab,cb,rfl,hcb,hCb⟩:=Kd.R_reads hRv
  obtain ⟨i0,hi0,_,_,_⟩:=info_parts info5
  have hcut:=cut_to (P:=Tryd.prog) 27 5 .i64 Tryd.underlying27 hi0 Ab bs.length cb (n:Int) (by omega) (by omega) hcb
  simp only [Int.toNat_natCast] at hcut
  have HRb:=Aside0.mk (Kd.C_take (m:=n) hCb (by omega))
  have HCB:Aside0 ((bs.take n).length≤cb):=⟨by rw [List.length_take];omega⟩
  have HS1:=Aside0.mk (HS.out.new hb1)
  have z1:((bs.length:Int)==0)=false:=beq_eq_false_iff_ne.mpr (by omega)
  have z2:(bs.length==0)=false:=beq_eq_false_iff_ne.mpr (by omega)
  have z3:¬ (bs.length:Int)=0:=by omega
  have z4:¬ bs.length=0:=by omega
  have z5:wrap64 at_=at_:=by unfold wrap64;omega
  have z6:wrap64 (n:Int)=(n:Int):=by unfold wrap64;omega
  have z7:¬ bs=[]:=fun h => by rw [h] at h0;simp at h0
  clear HS HH hE hD hRv hb1 ea0 ea1 ea2 ea3 ea4 hl h0 ha0 ha1 hn hCb hcb he hi0
  have HS:=HS1
  clear HS1
  go_wp2_with fail
  have e9:Value.slice Ab n cb=.slice Ab (bs.take n).length cb:=by rw [List.length_take,Nat.min_eq_left (Nat.le_of_lt HN.out)]
  rw [e9]
  refine (class_Decode.calls k Ab cb (bs.take n) _ W1 ⟨GG.below hG.out HS.out.bl⟩ HRb.out HCB.out HD.out).mono ?_
  rintro e1 W2 ⟨v0,v3,v4,rfl,r0,r3,r4,hb2⟩
  obtain ⟨X0,x0,rfl,hx0,hX0⟩:=Kd.R_reads r0
  obtain ⟨X3,x3,rfl,hx3,hX3⟩:=Kd.R_reads r3
  obtain ⟨X4,x4,rfl,hx4,hX4⟩:=Kd.R_reads r4
  have HB2:=Aside0.mk (HS.out.new hb2).bl
  clear HS HRb HCB HD r0 r3 r4 hb2 e9 hcut hm
  go_upto_region 5 with fail
  obtain ⟨W3,hW2⟩:∃ W3,W3=W2.alloc (.cells #[.slice X0 0 x0,.int .i64 0,.int .i64 0,.slice X3 0 x3,.slice X4 0 x4] 26 (0,0)):=⟨_,rfl⟩
  obtain ⟨bx,hba⟩:∃ bx,bx=W2.heap.size:=⟨_,rfl⟩
  rw [← hW2,← hba]
  have hb3:Below W2.heap.size W2 W3:=by rw [hW2];exact below_alloc (Below.refl _ _) _
  have HS:Aside0 (CuAt w W3 bx (.cells #[.slice X0 0 x0,.int .i64 0,.int .i64 0,.slice X3 0 x3,.slice X4 0 x4] 26 (0,0))):=⟨⟨HB2.out.trans (hb3.mono HB2.out.size),by rw [hW2,hba];exact blk_new _ _⟩⟩
  have HX0:=Aside0.mk (Kd.C_below hX0 hb3)
  have HX3:=Aside0.mk (Kd.C_below hX3 hb3)
  have HX4:=Aside0.mk (Kd.C_below hX4 hb3)
  clear hW2 hba hb3 HB2 hX0 hX3 hX4
  have ea0:=(blk_cell HS.out.k 0).trans rfl
  have ea1:=(blk_cell HS.out.k 1).trans rfl
  have ea2:=(blk_cell HS.out.k 2).trans rfl
  have ea3:=(blk_cell HS.out.k 3).trans rfl
  have ea4:=(blk_cell HS.out.k 4).trans rfl
  go_wp2_with fail
  refine (same_eq.calls (l0:=[]) (l3:=[]) (l4:=[]) HX0.out (cu_none _ _) HX3.out (cu_none _ _) HX4.out (cu_none _ _) (by decide) (by decide) (by decide) (fun m hm => by cases hm)).mono ?_
  rintro e1 W4 ⟨rfl,hb4⟩
  have HB4:=Aside0.mk (HS.out.new hb4).bl
  clear HS hb4 ea0 ea1 ea2 ea3 ea4
  go_wp2
  go_ret
  exact ⟨rfl,HB4.out⟩
theorem understudylaw05_ClassCut.calls (k:Nat) (A0_0:Option Addr) (c0_0:Nat) (l0_0:List Cst) (a0_1:Int) (a0_2:Int) (A0_3:Option Addr) (c0_3:Nat) (l0_3:List Fld) (A0_4:Option Addr) (c0_4:Nat) (l0_4:List Mth) (a1:Int) (r:Bool) (w:World) (hG:Aside0 (GG w)) (hr0_0:Kd.C k67 w A0_0 l0_0.length l0_0) (hc0_0:l0_0.length≤c0_0) (hr0_3:Kd.C k53 w A0_3 l0_3.length l0_3) (hc0_3:l0_3.length≤c0_3) (hr0_4:Kd.C k56 w A0_4 l0_4.length l0_4) (hc0_4:l0_4.length≤c0_4) (h:understudylaw05_ClassCut.f k l0_0 a0_1 a0_2 l0_3 l0_4 a1=some r) :
  Calls Tryd.prog 5 #[.agg #[.slice A0_0 l0_0.length c0_0,.int .i64 a0_1,.int .i64 a0_2,.slice A0_3 l0_3.length c0_3,.slice A0_4 l0_4.length c0_4],.int .u16 a1] w fun e w' => e=.returned (.bool r)∧Below w.heap.size w w':=by
 unfold understudylaw05_ClassCut.f at h
 split at h
 ·rename_i hk
  obtain rfl:=Option.some.inj h
  exact class_cut.ok hG hr0_0 hc0_0 hr0_3 hc0_3 hr0_4 hc0_4 hk
 ·cases h
end Go.Proofs.YtbgniepcoaiinaaDoor.Px
namespace Go.Proofs.YtbgniepcoaiinaaDoor.Px
open Go.RowKit Go.Proofs.YtbgniepcoaiinaaDoorW.PrintWords Go.Proofs.YtbgniepcoaiinaaDoorW.PrintLast Go.Proofs.YtbgniepcoaiinaaDoorW.PrintMore
set_option linter.unusedVariables false
set_option linter.unusedSimpArgs false
theorem w64 {x:Int} (h0:-9223372036854775808≤x) (h1:x≤9223372036854775807):wrap64 x=x:=by unfold wrap64;omega
theorem w32 {x:Int} (h0:-2147483648≤x) (h1:x≤2147483647):wrap32 x=x:=by unfold wrap32;omega
def unitL (u:Int):List Int:=if 1≤u∧u≤127 then [u] else if u≤2047 then [192 + u / 64,128 + u % 64] else [224 + u / 4096,128 + u / 64 % 64,128 + u % 64]
theorem unitL_len (u:Int):(unitL u).length≤3:=by unfold unitL;split <;> (try split) <;> simp
def cuL (c:Int):List Int:=if c < 65536 then unitL c else unitL (55296 + (c - 65536) / 1024)++unitL (56320 + (c - 65536) % 1024)
theorem cuL_len (c:Int):(cuL c).length≤6:=by
 unfold cuL
 have h1:=unitL_len c
 have h2:=unitL_len (55296 + (c - 65536) / 1024)
 have h3:=unitL_len (56320 + (c - 65536) % 1024)
 split
 ·omega
 ·rw [List.length_append];omega
theorem text_unit.ev (b:List Int) (u:Int) (h0:0≤u) (h1:u < 65536) (hb:b.length + 3 < 140737488355328):Ev (fun k => text_unit.f k b u) (b++unitL u):=by
 refine ⟨1,fun k hk => ?_⟩
 obtain ⟨k,rfl⟩:∃ m,k=m + 1:=⟨k - 1,by omega⟩
 have m63:∀ x:Int,0≤x→x < 2147483648→bits .and .i32 x 63=x % 64:=fun x a b => bits_mask .i32 31 (by decide) wraps_i32 6 (by decide) x a b
 show text_unit.f (k + 1) b u=_
 unfold text_unit.f unitL
 by_cases c1:1≤u∧u≤127
 ·rw [if_pos c1,if_pos (by omega),decide_eq_true (by omega)]
  simp only [text_unit.j0]
  rw [if_pos trivial,if_pos (by omega),show u % 256=u from by omega]
 ·rw [if_neg c1]
  have key:text_unit.j0 (k + 1) b u false=some (b++if u≤2047 then [192 + u / 64,128 + u % 64] else [224 + u / 4096,128 + u / 64 % 64,128 + u % 64]):=by
   simp only [text_unit.j0]
   rw [if_neg (by simp),m63 u h0 (by omega),m63 (u / 64) (by omega) (by omega)]
   by_cases c2:u≤2047
   ·rw [if_pos (by omega),if_pos c2,Option.bind_some,show u / 64 % 256=u / 64 from by omega,show u % 64 % 256=u % 64 from by omega,u8_or192 _ (by omega) (by omega),u8_or128 _ (by omega) (by omega)]
    rw [if_pos (by simp;omega)]
   ·rw [if_neg (by omega),if_neg c2,Option.bind_some,show u / 4096 % 256=u / 4096 from by omega,show u % 64 % 256=u % 64 from by omega,show u / 64 % 64 % 256=u / 64 % 64 from by omega,u8_or224 _ (by omega) (by omega),u8_or128 _ (by omega) (by omega),u8_or128 _ (by omega) (by omega)]
    rw [if_pos (by simp;omega)]
  by_cases c3:u > 0
  ·rw [if_pos c3,decide_eq_false (by omega),key]
  ·rw [if_neg c3,key]
end Go.Proofs.YtbgniepcoaiinaaDoor.Px
namespace Go.Proofs.YtbgniepcoaiinaaDoor.Px
open Go.RowKit Go.Proofs.YtbgniepcoaiinaaDoorW.PrintWords Go.Proofs.YtbgniepcoaiinaaDoorW.PrintLast Go.Proofs.YtbgniepcoaiinaaDoorW.PrintMore
set_option linter.unusedVariables false
set_option linter.unusedSimpArgs false
def V2 (L:List Int):Int:=(rd L 0 - 192) * 64 + (rd L 1 - 128)
def V3 (L:List Int):Int:=(rd L 0 - 224) * 4096 + (rd L 1 - 128) * 64 + (rd L 2 - 128)
def takeV (L:List Int):Option (Int × Nat) :=
 if 1≤rd L 0∧rd L 0≤127 then some (rd L 0,1)
 else if 192≤rd L 0∧rd L 0≤223∧2≤L.length∧128≤rd L 1∧rd L 1≤191∧(V2 L=0 ∨ 128≤V2 L) then some (V2 L,2)
 else if 224≤rd L 0∧rd L 0≤239∧3≤L.length∧128≤rd L 1∧rd L 1≤191∧128≤rd L 2∧rd L 2≤191∧2048≤V3 L then some (V3 L,3)
 else none
theorem rd_byte {L:List Int} (h:IsBytes L) (i:Int):0≤rd L i∧rd L i < 256:=by
 unfold rd
 rw [List.getD_eq_getElem?_getD]
 cases e:L[i.toNat]? with
 | none => simp
 | some x => simpa using h x (List.mem_of_getElem? e)
theorem strOfNums_eq {a b:List Int} (ha:IsBytes a) (hb:IsBytes b):((strOfNums a).toList==(strOfNums b).toList)=decide (a=b):=by
 rw [Lib.toList_data,Lib.toList_data]
 have e:∀ {l:List Int},(strOfNums l).data.toList=l.map fun n => UInt8.ofNat n.toNat:=fun {l} => rfl
 rw [e,e,Bool.eq_iff_iff,beq_iff_eq,decide_eq_true_eq]
 refine ⟨fun h => ?_,fun h => by rw [h]⟩
 have h1:a.length=b.length:=by simpa using congrArg List.length h
 apply List.ext_getElem h1
 intro i h2 h3
 have h4:=congrArg (fun l => l[i]?) h
 simp only [List.getElem?_map,List.getElem?_eq_getElem h2,List.getElem?_eq_getElem h3,Option.map_some,Option.some.injEq] at h4
 have h5:=ha a[i] (List.getElem_mem _)
 have h6:=hb b[i] (List.getElem_mem _)
 have h7:=congrArg UInt8.toNat h4
 simp only [UInt8.toNat_ofNat'] at h7
 rw [Nat.mod_eq_of_lt (by omega),Nat.mod_eq_of_lt (by omega)] at h7
 omega
theorem unitL_bytes (u:Int) (h0:0≤u) (h1:u < 65536):IsBytes (unitL u):=by
 unfold unitL
 split
 ·exact IsBytes.cons (by omega) IsBytes.nil
 ·split
  ·exact IsBytes.cons (by omega) (IsBytes.cons (by omega) IsBytes.nil)
  ·exact IsBytes.cons (by omega) (IsBytes.cons (by omega) (IsBytes.cons (by omega) IsBytes.nil))
theorem take1 (L:List Int) (h:0 < L.length):L.take 1=[rd L 0]:=by
 cases L with
 | nil => simp at h
 | cons a t => rfl
theorem take2 (L:List Int) (h:1 < L.length):L.take 2=[rd L 0,rd L 1]:=by
 match L with
 | [] => simp at h
 | [_] => simp at h
 | a :: b :: t => rfl
theorem take3 (L:List Int) (h:2 < L.length):L.take 3=[rd L 0,rd L 1,rd L 2]:=by
 match L with
 | [] => simp at h
 | [_] => simp at h
 | [_,_] => simp at h
 | a :: b :: c :: t => rfl
theorem IsBytes.take {L:List Int} (h:IsBytes L) (n:Nat):IsBytes (L.take n):=fun x hx => h x (List.mem_of_mem_take hx)
theorem IsBytes.drop {L:List Int} (h:IsBytes L) (n:Nat):IsBytes (L.drop n):=fun x hx => h x (List.mem_of_mem_drop hx)
theorem text_next.ev_some (L:List Int) (hL:IsBytes L) (u:Int) (h0:0≤u) (h1:u < 65536) (hu:uniV L=some u) :
  Ev (fun k => text_next.f k L) (u,decide (unitL u=L.take (nxN (rd L 0)).toNat),(nxN (rd L 0)).toNat):=by
 unfold text_next.f
 rw [hu]
 simp only
 have h:=text_unit.ev [] u h0 h1 (by simp)
 refine Ev.bind h ?_
 rw [List.nil_append,strOfNums_eq (unitL_bytes u h0 h1) (hL.take _)]
 exact Ev.now _
theorem text_next.ev_none (L:List Int) (hu:uniV L=none):Ev (fun k => text_next.f k L) (0,false,0):=by
 unfold text_next.f
 rw [hu]
 exact Ev.now _
theorem text_next.ev (L:List Int) (hL:IsBytes L) (hne:0 < L.length) :
  ∃ u m,Ev (fun k => text_next.f k L) (match takeV L with|some (v,m) => (v,true,m)|none => (u,false,m)):=by
 have h0:=rd_byte hL 0
 have h1:=rd_byte hL 1
 have h2:=rd_byte hL 2
 have m32:∀ (x:Int) (i:Nat),i≤30→0≤x→x < 2147483648→bits .and .i32 x (2 ^ i - 1)=x % 2 ^ i:=fun x i hi a b => bits_mask .i32 31 (by decide) wraps_i32 i (by omega) x a b
 have e0:wrap32 (rd L 0)=rd L 0:=w32 (by omega) (by omega)
 rcases nxN_cases (rd L 0) with hn|hn|hn
 ·-- one byte
  have hu:uniV L=some (rd L 0):=by unfold uniV u0V;rw [hn,if_neg (by omega),if_pos rfl,if_pos rfl,e0]
  have h:=text_next.ev_some L hL _ h0.1 (by omega) hu
  rw [hn,show ((1:Int)).toNat=1 from rfl,take1 L hne] at h
  by_cases c1:1≤rd L 0∧rd L 0≤127
  ·refine ⟨0,0,?_⟩
   rw [show unitL (rd L 0)=[rd L 0] from if_pos c1,decide_eq_true rfl] at h
   rw [show takeV L=some (rd L 0,1) from if_pos c1]
   exact h
  ·refine ⟨rd L 0,1,?_⟩
   have hc:rd L 0 < 192 ∨ 240≤rd L 0:=by unfold nxN at hn;split at hn <;> (try split at hn) <;> omega
   rw [show takeV L=none by unfold takeV;rw [if_neg c1,if_neg (by omega),if_neg (by omega)]]
   rw [decide_eq_false (by unfold unitL;rw [if_neg c1,if_pos (by omega)];simp)] at h
   exact h
 ·have hc:192≤rd L 0∧rd L 0 < 224:=by unfold nxN at hn;split at hn <;> (try split at hn) <;> omega
  by_cases hl:2≤L.length
  ·by_cases hb:rd L 1 / 64=2
   ·have hu2:U2 L=V2 L:=by
     unfold U2 u0V V2
     rw [hn,if_neg (by decide),if_pos rfl,e0,show (31:Int)=2 ^ 5 - 1 from rfl,m32 _ 5 (by decide) (by omega) (by omega),show (63:Int)=63 from rfl,u8_and63 _ (by omega) (by omega)]
     rw [w32 (by omega) (by omega),w32 (by omega) (by omega)]
     rw [bits_join .i32 31 (by decide) wraps_i32 6 (rd L 0 % 2 ^ 5 * 64) (rd L 1 % 64) (by omega) (by omega) (by omega) (by omega) (by omega) (by omega)]
     omega
    have hu:uniV L=some (V2 L):=by unfold uniV;rw [hn,if_neg (by omega),if_neg (by decide),if_pos hb,if_pos rfl,hu2]
    have hv:0≤V2 L∧V2 L≤2047:=by unfold V2;omega
    have h:=text_next.ev_some L hL _ hv.1 (by omega) hu
    rw [hn,show ((2:Int)).toNat=2 from rfl,take2 L (by omega)] at h
    by_cases c1:V2 L=0 ∨ 128≤V2 L
    ·refine ⟨0,0,?_⟩
     rw [show takeV L=some (V2 L,2) by unfold takeV;rw [if_neg (by omega),if_pos ⟨hc.1,by omega,hl,by omega,by omega,c1⟩]]
     rw [decide_eq_true (by unfold unitL;rw [if_neg (by omega),if_pos (by omega)];unfold V2 at *;simp only [List.cons.injEq,and_true];omega)] at h
     exact h
    ·refine ⟨V2 L,2,?_⟩
     rw [show takeV L=none by unfold takeV;rw [if_neg (by omega),if_neg (by omega),if_neg (by omega)]]
     rw [decide_eq_false (by unfold unitL;rw [if_pos (by omega)];simp)] at h
     exact h
   ·refine ⟨0,0,?_⟩
    rw [show takeV L=none by unfold takeV;rw [if_neg (by omega),if_neg (by omega),if_neg (by omega)]]
    exact text_next.ev_none L (by unfold uniV;rw [hn,if_neg (by omega),if_neg (by decide),if_neg hb])
  ·refine ⟨0,0,?_⟩
   rw [show takeV L=none by unfold takeV;rw [if_neg (by omega),if_neg (by omega),if_neg (by omega)]]
   exact text_next.ev_none L (by unfold uniV;rw [hn,if_pos (by omega)])
 ·have hc:224≤rd L 0∧rd L 0 < 240:=by unfold nxN at hn;split at hn <;> (try split at hn) <;> omega
  by_cases hl:3≤L.length
  ·by_cases hb:rd L 1 / 64=2∧rd L 2 / 64=2
   ·have hu3:U3 L=V3 L:=by
     unfold U3 U2 u0V V3
     rw [hn,if_neg (by decide),if_neg (by decide),e0,show (15:Int)=2 ^ 4 - 1 from rfl,m32 _ 4 (by decide) (by omega) (by omega),u8_and63 _ (by omega) (by omega),u8_and63 _ (by omega) (by omega)]
     rw [w32 (x:=rd L 0 % 2 ^ 4 * 64) (by omega) (by omega),w32 (x:=rd L 1 % 64) (by omega) (by omega),w32 (x:=rd L 2 % 64) (by omega) (by omega)]
     rw [bits_join .i32 31 (by decide) wraps_i32 6 (rd L 0 % 2 ^ 4 * 64) (rd L 1 % 64) (by omega) (by omega) (by omega) (by omega) (by omega) (by omega)]
     rw [w32 (x:=(rd L 0 % 2 ^ 4 * 64 + rd L 1 % 64) * 64) (by omega) (by omega)]
     rw [bits_join .i32 31 (by decide) wraps_i32 6 ((rd L 0 % 2 ^ 4 * 64 + rd L 1 % 64) * 64) (rd L 2 % 64) (by omega) (by omega) (by omega) (by omega) (by omega) (by omega)]
     omega
    have hu:uniV L=some (V3 L):=by unfold uniV;rw [hn,if_neg (by omega),if_neg (by decide),if_pos hb.1,if_neg (by decide),if_pos hb.2,hu3]
    have hv:0≤V3 L∧V3 L < 65536:=by unfold V3;omega
    have h:=text_next.ev_some L hL _ hv.1 (by omega) hu
    rw [hn,show ((3:Int)).toNat=3 from rfl,take3 L (by omega)] at h
    by_cases c1:2048≤V3 L
    ·refine ⟨0,0,?_⟩
     rw [show takeV L=some (V3 L,3) by unfold takeV;rw [if_neg (by omega),if_neg (by omega),if_pos ⟨hc.1,by omega,hl,by omega,by omega,by omega,by omega,c1⟩]]
     rw [decide_eq_true (by unfold unitL;rw [if_neg (by omega),if_neg (by omega)];unfold V3 at *;simp only [List.cons.injEq,and_true];omega)] at h
     exact h
    ·refine ⟨V3 L,3,?_⟩
     rw [show takeV L=none by unfold takeV;rw [if_neg (by omega),if_neg (by omega),if_neg (by omega)]]
     have hx:¬ unitL (V3 L)=[rd L 0,rd L 1,rd L 2]:=by
      unfold unitL
      by_cases q:1≤V3 L∧V3 L≤127
      ·rw [if_pos q];simp
      ·rw [if_neg q,if_pos (by omega)];simp
     rw [decide_eq_false hx] at h
     exact h
   ·refine ⟨0,0,?_⟩
    rw [show takeV L=none by unfold takeV;rw [if_neg (by omega),if_neg (by omega),if_neg (by omega)]]
    refine text_next.ev_none L ?_
    unfold uniV
    rw [hn,if_neg (by omega),if_neg (by decide)]
    by_cases hb1:rd L 1 / 64=2
    ·rw [if_pos hb1,if_neg (by decide),if_neg (by omega)]
    ·rw [if_neg hb1]
  ·refine ⟨0,0,?_⟩
   rw [show takeV L=none by unfold takeV;rw [if_neg (by omega),if_neg (by omega),if_neg (by omega)]]
   exact text_next.ev_none L (by unfold uniV;rw [hn,if_pos (by omega)])
end Go.Proofs.YtbgniepcoaiinaaDoor.Px
namespace Go.Proofs.YtbgniepcoaiinaaDoor.Px
open Go.RowKit Go.Proofs.YtbgniepcoaiinaaDoorW.PrintWords Go.Proofs.YtbgniepcoaiinaaDoorW.PrintLast Go.Proofs.YtbgniepcoaiinaaDoorW.PrintMore
set_option linter.unusedVariables false
set_option linter.unusedSimpArgs false
def beV (l:List Int):Int:=l.foldl (fun x c => x * 256 + c) 0
theorem beV_snoc (l:List Int) (c:Int):beV (l++[c])=beV l * 256 + c:=by simp [beV]
theorem beV_range (l:List Int) (h:IsBytes l):0≤beV l∧beV l < 256 ^ l.length:=by
 have key:∀ n (l:List Int),l.length=n→IsBytes l→0≤beV l∧beV l < 256 ^ l.length:=by
  intro n
  induction n with
  | zero => intro l hl _;obtain rfl:=List.eq_nil_of_length_eq_zero hl;exact ⟨by decide,by decide⟩
  | succ n ih =>
   intro l hl hb
   obtain ⟨l',c,rfl⟩:∃ l' c,l=l'++[c]:=⟨l.dropLast,l.getLast (by intro e;rw [e] at hl;simp at hl),(List.dropLast_concat_getLast _).symm⟩
   have hc:=hb c (by simp)
   have h1:=ih l' (by simp at hl;exact hl) (fun x hx => hb x (by simp [hx]))
   rw [beV_snoc,List.length_append,List.length_singleton,Int.pow_succ]
   omega
 exact key _ l rfl h
theorem pow256 {i:Nat} (h:i≤7):(256:Int) ^ i≤72057594037927936:=by
 obtain rfl|rfl|rfl|rfl|rfl|rfl|rfl|rfl:i=0 ∨ i=1 ∨ i=2 ∨ i=3 ∨ i=4 ∨ i=5 ∨ i=6 ∨ i=7:=by omega
 all_goals decide
theorem wraps_u64 (n:Int) (h0:0≤n) (h1:n < 2 ^ 64):IntKind.u64.wrap n=n:=by
 simp [IntKind.wrap,IntKind.bits,IntKind.signed]
 omega
theorem or_u64 {y c:Int} (h0:0≤y) (h1:y < 18446744073709551616) (hm:y % 256=0) (c0:0≤c) (c1:c < 256):bits .or .u64 y c=y + c :=
 bits_join .u64 64 (by decide) wraps_u64 8 y c h0 hm h1 c0 c1 (by omega)
theorem or_i64 {y c:Int} (h0:-9223372036854775808≤y) (h1:y < 9223372036854775808) (hm:y % 256=0) (c0:0≤c) (c1:c < 256):bits .or .i64 y c=y + c:=by
 obtain ⟨b,rfl⟩:=Int.eq_ofNat_of_zero_le c0
 have hb:b < 256:=by omega
 obtain ⟨a,ha⟩:∃ a:Nat,y % 18446744073709551616=(a:Int):=Int.eq_ofNat_of_zero_le (by omega)
 have ha2:a < 18446744073709551616:=by omega
 have ham:a % 2 ^ 8=0:=by omega
 have e1:(BitVec.ofInt 64 y).toNat=a:=by
  rw [BitVec.toNat_ofInt]
  have:y % ((2 ^ 64:Nat):Int)=(a:Int):=ha
  rw [this]
  rfl
 have e2:(BitVec.ofInt 64 (b:Int)).toNat=b:=by
  rw [BitVec.ofInt_natCast,BitVec.toNat_ofNat]
  exact Nat.mod_eq_of_lt (by omega)
 have hor:a ||| b=a + b:=by
  have hq:a=2 ^ 8 * (a / 2 ^ 8):=by have:=Nat.div_add_mod a (2 ^ 8);omega
  rw [hq]
  exact (Nat.two_pow_add_eq_or_of_lt (by omega) (a / 2 ^ 8)).symm
 have hbits:bits .or .i64 y (b:Int)=IntKind.i64.wrap (((a ||| b:Nat)):Int):=by
  have e3:(BitVec.ofInt 64 y ||| BitVec.ofInt 64 (b:Int)).toNat=a ||| b:=by rw [BitVec.toNat_or,e1,e2]
  show IntKind.i64.wrap ((BitVec.ofInt 64 y ||| BitVec.ofInt 64 (b:Int)).toNat:Int)=_
  rw [e3]
 rw [hbits,hor,IntKind.wrap_i64]
 omega
theorem rd_take {l:List Int} {i:Nat} (h:i < l.length):l.take (i + 1)=l.take i++[rd l (i:Int)]:=by
 rw [List.take_succ_eq_append_getElem h]
 congr 1
 unfold rd
 rw [Int.toNat_natCast,List.getD_eq_getElem?_getD,List.getElem?_eq_getElem h]
 rfl
theorem gather_u64.ev_l (l:List Int) (hb:IsBytes l) (h8:l.length≤8):∀ n (i:Nat),l.length≤i + n→i≤l.length→Ev (fun k => wire_gather_uint64.l0 k (beV (l.take i)) l (l.length:Int) (i:Int)) (beV l):=by
 have stop:∀ i:Nat,i=l.length→Ev (fun k => wire_gather_uint64.l0 k (beV (l.take i)) l (l.length:Int) (i:Int)) (beV l):=by
  intro i hi
  refine Ev.step (f:=fun _ => some (beV (l.take i))) (fun k => by simp only [wire_gather_uint64.l0];rw [if_neg (by omega)]) ?_
  rw [hi,List.take_length]
  exact Ev.now _
 intro n
 induction n with
 | zero => intro i h hi;exact stop i (by omega)
 | succ n ih =>
  intro i h hi
  by_cases hlt:i < l.length
  ·have hA:l.length≤i + 1 + n:=by omega
   have hB:i + 1≤l.length:=by omega
   have hC:(i:Int) < (l.length:Int):=by omega
   have hD:(0:Int)≤(i:Int):=by omega
   have hr:=beV_range (l.take i) (hb.take i)
   rw [List.length_take,Nat.min_eq_left (by omega)] at hr
   have hp:=pow256 (i:=i) (by omega)
   have hc:=rd_byte hb (i:Int)
   have e1:IntKind.u64.wrap (beV (l.take i) * 256)=beV (l.take i) * 256:=wraps_u64 _ (by omega) (by omega)
   have e2:IntKind.u64.wrap (rd l (i:Int))=rd l (i:Int):=wraps_u64 _ hc.1 (by omega)
   have e3:bits .or .u64 (beV (l.take i) * 256) (rd l (i:Int))=beV (l.take (i + 1)):=by
    rw [or_u64 (by omega) (by omega) (by omega) hc.1 hc.2,rd_take hlt,beV_snoc]
   have e4:wrap64 ((i:Int) + 1)=((i + 1:Nat):Int):=by unfold wrap64;omega
   refine Ev.step (f:=fun k => wire_gather_uint64.l0 k (beV (l.take (i + 1))) l (l.length:Int) ((i + 1:Nat):Int)) (fun k => ?_) (ih (i + 1) hA hB)
   simp only [wire_gather_uint64.l0]
   rw [if_pos hC,if_pos hD,if_pos hC,e1,e2,e3,e4]
  ·exact stop i (by omega)
theorem gather_u64.ev (l:List Int) (hb:IsBytes l) (h8:l.length≤8):Ev (fun k => wire_gather_uint64.f k l 0) (beV l):=gather_u64.ev_l l hb h8 l.length 0 (by omega) (by omega)
theorem gather_i64.ev_l (l:List Int) (hb:IsBytes l) (h7:l.length≤7) (s:Int) (s0:-128≤s) (s1:s < 128):∀ n (i:Nat),l.length≤i + n→i≤l.length→Ev (fun k => wire_gather_int64.l0 k (s * 256 ^ i + beV (l.take i)) l (l.length:Int) (i:Int)) (s * 256 ^ l.length + beV l):=by
 have stop:∀ i:Nat,i=l.length→Ev (fun k => wire_gather_int64.l0 k (s * 256 ^ i + beV (l.take i)) l (l.length:Int) (i:Int)) (s * 256 ^ l.length + beV l):=by
  intro i hi
  refine Ev.step (f:=fun _ => some (s * 256 ^ i + beV (l.take i))) (fun k => by simp only [wire_gather_int64.l0];rw [if_neg (by omega)]) ?_
  rw [hi,List.take_length]
  exact Ev.now _
 intro n
 induction n with
 | zero => intro i h hi;exact stop i (by omega)
 | succ n ih =>
  intro i h hi
  by_cases hlt:i < l.length
  ·have hA:l.length≤i + 1 + n:=by omega
   have hB:i + 1≤l.length:=by omega
   have hC:(i:Int) < (l.length:Int):=by omega
   have hD:(0:Int)≤(i:Int):=by omega
   have hr:=beV_range (l.take i) (hb.take i)
   rw [List.length_take,Nat.min_eq_left (by omega)] at hr
   have hp:1≤(256:Int) ^ i∧(256:Int) ^ i≤281474976710656:=by
    obtain rfl|rfl|rfl|rfl|rfl|rfl|rfl:i=0 ∨ i=1 ∨ i=2 ∨ i=3 ∨ i=4 ∨ i=5 ∨ i=6:=by omega
    all_goals decide
   have hs:-128 * 256 ^ i≤s * 256 ^ i∧s * 256 ^ i≤127 * 256 ^ i :=
    ⟨Int.mul_le_mul_of_nonneg_right s0 (by omega),Int.mul_le_mul_of_nonneg_right (by omega) (by omega)⟩
   have hc:=rd_byte hb (i:Int)
   have e1:wrap64 ((s * 256 ^ i + beV (l.take i)) * 256)=(s * 256 ^ i + beV (l.take i)) * 256:=by unfold wrap64;omega
   have e2:wrap64 (rd l (i:Int))=rd l (i:Int):=by unfold wrap64;omega
   have e3:bits .or .i64 ((s * 256 ^ i + beV (l.take i)) * 256) (rd l (i:Int))=s * 256 ^ (i + 1) + beV (l.take (i + 1)):=by
    rw [or_i64 (by omega) (by omega) (by omega) hc.1 hc.2,rd_take hlt,beV_snoc,Int.pow_succ,← Int.mul_assoc]
    omega
   have e4:wrap64 ((i:Int) + 1)=((i + 1:Nat):Int):=by unfold wrap64;omega
   refine Ev.step (f:=fun k => wire_gather_int64.l0 k (s * 256 ^ (i + 1) + beV (l.take (i + 1))) l (l.length:Int) ((i + 1:Nat):Int)) (fun k => ?_) (ih (i + 1) hA hB)
   simp only [wire_gather_int64.l0]
   rw [if_pos hC,if_pos hD,if_pos hC,e1,e2,e3,e4]
  ·exact stop i (by omega)
theorem gather_i64.ev (l:List Int) (hb:IsBytes l) (h7:l.length≤7) (s:Int) (s0:-128≤s) (s1:s < 128):Ev (fun k => wire_gather_int64.f k l s) (s * 256 ^ l.length + beV l):=by
 have h:=gather_i64.ev_l l hb h7 s s0 s1 l.length 0 (by omega) (by omega)
 have e:s * 256 ^ 0 + beV (l.take 0)=s:=by simp [beV]
 rw [e] at h
 exact h
theorem rdL_bytes {bs:List Int} (h:IsBytes bs) (p n:Nat):IsBytes (rdL bs p n):=by
 unfold rdL
 split
 ·exact (h.take _).drop _
 ·intro x hx;cases hx
theorem rdL_le (bs:List Int) (p n:Nat):(rdL bs p n).length≤n:=by
 unfold rdL
 split
 ·rw [List.length_drop,List.length_take];omega
 ·exact Nat.zero_le _
theorem beV_cons (b:Int) (l:List Int):beV (b :: l)=b * 256 ^ l.length + beV l:=by
 have key:∀ (l:List Int) (x:Int),l.foldl (fun x c => x * 256 + c) x=x * 256 ^ l.length + beV l:=by
  intro l
  induction l with
  | nil => intro x;simp [beV]
  | cons c l ih =>
   intro x
   rw [List.foldl_cons,ih]
   have e:beV (c :: l)=(0 * 256 + c) * 256 ^ l.length + beV l:=by unfold beV;rw [List.foldl_cons,ih];rfl
   rw [e,List.length_cons,Int.pow_succ,Int.add_mul,Int.zero_mul,Int.zero_add,Int.mul_assoc x 256,Int.mul_comm 256,Int.add_assoc]
 have h:=key l (0 * 256 + b)
 unfold beV
 rw [List.foldl_cons,h]
 simp [beV]
def intV (l:List Int):Int:=if rd l 0 < 128 then beV l else beV l - 256 ^ l.length
theorem uint.ev (bs:List Int) (hb:IsBytes bs) (p n:Nat) (h8:n≤8):Ev (fun k => rd_Uint.f k bs p n) (beV (rdL bs p n),rdE bs p n,rdP bs p n):=by
 have:=rdL_le bs p n
 exact Ev.bind (gather_u64.ev _ (rdL_bytes hb p n) (by omega)) (Ev.now _)
def iV (bs:List Int) (p n:Nat):Int × Int × Nat:=if p + n≤bs.length then (intV (rdL bs p n),0,p + n) else (0,3,p)
theorem intV_cons (b:Int) (t:List Int):(if b < 128 then b else b - 256) * 256 ^ t.length + beV t=intV (b :: t):=by
 have h0:rd (b :: t) 0=b:=rfl
 unfold intV
 rw [h0,beV_cons,List.length_cons,Int.pow_succ]
 split
 ·rfl
 ·rw [Int.sub_mul,Int.mul_comm _ 256];omega
theorem int.ev (bs:List Int) (hb:IsBytes bs) (p n:Nat) (h1:1≤n) (h8:n≤8):Ev (fun k => rd_Int.f k bs p n) (iV bs p n):=by
 unfold rd_Int.f iV
 by_cases h:p + n≤bs.length
 ·have hl:=rdL_len h
  have hbb:=rdL_bytes hb p n
  generalize rdL bs p n=l at hl hbb
  rw [if_pos h]
  cases l with
  | nil => simp at hl;omega
  | cons b t =>
   have hc:=hbb b (List.mem_cons_self)
   have h0:rd (b :: t) 0=b:=rfl
   rw [h0]
   refine Ev.congr (fun k => (if_pos h).trans (if_pos hc)) ?_
   rw [sx8_eq hc.1 hc.2,← intV_cons]
   refine Ev.bind (gather_i64.ev t (fun x hx => hbb x (List.mem_cons_of_mem _ hx)) (by simp at hl;omega) _ (by split <;> omega) (by split <;> omega)) (Ev.now _)
 ·rw [if_neg h]
  exact Ev.congr (fun k => if_neg h) (Ev.now _)
end Go.Proofs.YtbgniepcoaiinaaDoor.Px
namespace Go.Proofs.YtbgniepcoaiinaaDoor.Px
open Go.RowKit Go.Proofs.YtbgniepcoaiinaaDoorW.PrintWords Go.Proofs.YtbgniepcoaiinaaDoorW.PrintLast Go.Proofs.YtbgniepcoaiinaaDoorW.PrintMore
set_option linter.unusedVariables false
set_option linter.unusedSimpArgs false
def utf8L (v:Int):List Int :=
 if v < 128 then [v] else if v < 2048 then [192 + v / 64,128 + v % 64] else if v < 65536 then [224 + v / 4096,128 + v / 64 % 64,128 + v % 64]
 else [240 + v / 262144,128 + v / 4096 % 64,128 + v / 64 % 64,128 + v % 64]
theorem utf8L_len (v:Int):(utf8L v).length≤4:=by
 unfold utf8L
 split
 ·simp
 ·split
  ·simp
  ·split <;> simp
theorem utf8_AppendRune.ev (o:List Int) (v:Int) (h0:0≤v) (h1:v≤1114111) (hs:v < 55296 ∨ 57344≤v) (ho:o.length + 4 < 140737488355328):Ev (fun k => utf8_AppendRune.f k o v) (o++utf8L v):=by
 refine ⟨1,fun k hk => ?_⟩
 obtain ⟨k,rfl⟩:∃ m,k=m + 1:=⟨k - 1,by omega⟩
 show utf8_AppendRune.f (k + 1) o v=_
 unfold utf8_AppendRune.f utf8L
 rw [show v % 4294967296=v by omega]
 by_cases c1:v≤127
 ·rw [if_pos c1,if_pos (by omega),if_pos (by omega),show v % 256=v by omega]
 ·rw [if_neg c1,if_neg (by omega)]
  unfold utf8_appendRuneNonASCII.f
  rw [show v % 4294967296=v by omega]
  by_cases c2:v≤2047
  ·rw [if_pos c2,if_pos (by omega),Option.bind_some,if_pos (by simp;omega),show v / 64 % 256=v / 64 by omega,u8_or192 _ (by omega) (by omega)]
   rfl
  ·rw [if_neg c2,if_neg (show ¬ v < 2048 by omega)]
   have key3:v < 65536→utf8_appendRuneNonASCII.j0 (k + 1) o v v true=some (o++[224 + v / 4096,128 + v / 64 % 64,128 + v % 64]):=by
    intro h
    simp only [utf8_appendRuneNonASCII.j0,if_true]
    rw [Option.bind_some,if_pos (by simp;omega),show v / 4096 % 256=v / 4096 by omega,u8_or224 _ (by omega) (by omega)]
   have key4:65536≤v→utf8_appendRuneNonASCII.j0 (k + 1) o v v false=some (o++[240 + v / 262144,128 + v / 4096 % 64,128 + v / 64 % 64,128 + v % 64]):=by
    intro h
    simp only [utf8_appendRuneNonASCII.j0,Bool.false_eq_true,if_false]
    rw [if_pos (by omega),if_pos (by omega),Option.bind_some,if_pos (by simp;omega),show v / 262144 % 256=v / 262144 by omega,u8_or240 _ (by omega) (by omega)]
   by_cases c3:v < 55296
   ·rw [if_pos c3,decide_eq_true c3,key3 (by omega),if_pos (by omega)]
    rfl
   ·rw [if_neg c3,if_pos (by omega)]
    by_cases c4:v≤65535
    ·rw [decide_eq_true c4,key3 (by omega),if_pos (by omega)]
     rfl
    ·rw [decide_eq_false c4,key4 (by omega),if_neg (by omega)]
     rfl
def pairN (a u:Int):Int:=65536 + (a - 55296) * 1024 + (u - 56320)
abbrev badV:ByteArray × Int:=((⟨#[]⟩:ByteArray),20)
def decV:Nat→List Int→List Int→ByteArray × Int
 | 0,_,_ => badV
 | n + 1,L,o =>
  if L=[] then (strOfNums o,0)
  else match takeV L with
   | none => badV
   | some (v,m) =>
    if 56320≤v∧v≤57343 then badV
    else if v < 55296 ∨ 56319 < v then decV n (L.drop m) (o++utf8L v)
    else if L.drop m=[] then badV
    else match takeV (L.drop m) with
     | none => badV
     | some (u,q) => if 56320≤u∧u≤57343 then decV n ((L.drop m).drop q) (o++utf8L (pairN v u)) else badV
theorem takeV_ok {L:List Int} (hL:IsBytes L) {v:Int} {m:Nat} (h:takeV L=some (v,m)):0≤v∧v < 65536∧1≤m∧m≤3∧m≤L.length:=by
 have h0:=rd_byte hL 0
 have h1:=rd_byte hL 1
 have h2:=rd_byte hL 2
 have hl:1≤rd L 0→1≤L.length:=by
  intro hh
  cases L with
  | nil => simp [rd] at hh
  | cons a t => simp
 unfold takeV V2 V3 at h
 split at h
 ·cases h;omega
 ·split at h
  ·cases h;omega
  ·split at h
   ·cases h;omega
   ·cases h
theorem takeV_len {L:List Int} (hL:IsBytes L) {v:Int} {m:Nat} (h:takeV L=some (v,m)):(utf8L v).length≤m∧(2048≤v→m=3):=by
 have h0:=rd_byte hL 0
 have h1:=rd_byte hL 1
 have h2:=rd_byte hL 2
 unfold takeV V2 V3 at h
 unfold utf8L
 split at h
 ·cases h
  rw [if_pos (by omega)]
  exact ⟨Nat.le_refl _,by omega⟩
 ·split at h
  ·cases h
   refine ⟨?_,by omega⟩
   split
   ·simp
   ·rw [if_pos (by omega)];simp
  ·split at h
   ·cases h
    refine ⟨?_,fun _ => rfl⟩
    rw [if_neg (by omega),if_neg (by omega),if_pos (by omega)]
    simp
   ·cases h
theorem len_pos {L:List Int} (h:L ≠ []):0 < L.length:=List.length_pos_iff.2 h
theorem text_Decode.ev_l:∀ (n:Nat) (L o:List Int),IsBytes L→L.length < n→o.length + L.length + 8 < 140737488355328→Ev (fun k => text_Decode.l0 k L 0 o) (decV n L o):=by
 intro n
 induction n with
 | zero => intro L o _ h;omega
 | succ n ih =>
  intro L o hL hn ho
  simp only [decV]
  have hround:∀ (L:List Int) (a:Int),0 < L.length→∀ k,text_Decode.l0 (k + 1) L a o=(text_next.f k L).bind fun t =>
    if t.2.1=true then
     (if ((decide (56320≤t.1) && decide (t.1 < 57344)) != (a != 0))=true then some badV
     else if (a != 0)=true then (utf8_AppendRune.f k o (pairV a t.1)).bind fun o1 => text_Decode.l0 k (L.drop t.2.2) 0 o1
     else if (decide (55296≤t.1) && decide (t.1 < 56320))=true then text_Decode.l0 k (L.drop t.2.2) t.1 o
     else (utf8_AppendRune.f k o t.1).bind fun o1 => text_Decode.l0 k (L.drop t.2.2) a o1)
    else some badV:=by
   intro L a hp k
   simp only [text_Decode.l0]
   rw [if_pos hp]
  by_cases he:L=[]
  ·subst he
   refine Ev.step (f:=fun _ => some (strOfNums o,0)) (fun k => ?_) (Ev.now _)
   simp [text_Decode.l0]
  ·have hp:=len_pos he
   rw [if_neg he]
   obtain ⟨x,y,ht⟩:=text_next.ev L hL hp
   refine Ev.step (hround L 0 hp) ?_
   refine Ev.bind ht ?_
   cases e:takeV L with
   | none => simp only [Bool.false_eq_true,if_false];exact Ev.now _
   | some p =>
    obtain ⟨v,m⟩:=p
    obtain ⟨v0,v1,m1,m3,ml⟩:=takeV_ok hL e
    have hd:(L.drop m).length=L.length - m:=List.length_drop
    simp only [if_true]
    have ha:((0:Int) != 0)=false:=rfl
    simp only [ha,Bool.false_eq_true,if_false]
    by_cases c1:56320≤v∧v≤57343
    ·rw [if_pos c1]
     refine Ev.congr (f:=fun _ => some badV) (fun k => ?_) (Ev.now _)
     rw [if_pos (by rw [decide_eq_true c1.1,decide_eq_true (show v < 57344 by omega)];rfl)]
    ·rw [if_neg c1]
     have hlow:(decide (56320≤v) && decide (v < 57344))=false:=by
      by_cases c:56320≤v
      ·rw [decide_eq_false (show ¬ v < 57344 by omega),Bool.and_false]
      ·rw [decide_eq_false c,Bool.false_and]
     have hne:¬ ((decide (56320≤v) && decide (v < 57344)) != false)=true:=by rw [hlow];decide
     by_cases c2:v < 55296 ∨ 56319 < v
     ·rw [if_pos c2]
      have hhi:¬ (decide (55296≤v) && decide (v < 56320))=true:=by
       rw [Bool.and_eq_true,decide_eq_true_eq,decide_eq_true_eq];omega
      have hu:=(takeV_len hL e).1
      refine Ev.congr (f:=fun k => (utf8_AppendRune.f k o v).bind fun o1 => text_Decode.l0 k (L.drop m) 0 o1) (fun k => (if_neg hne).trans (if_neg hhi)) ?_
      exact Ev.bind (utf8_AppendRune.ev o v v0 (by omega) (by omega) (by omega)) (ih _ _ (hL.drop m) (by omega) (by rw [List.length_append];omega))
     ·rw [if_neg c2]
      have hhi:(decide (55296≤v) && decide (v < 56320))=true:=by
       rw [Bool.and_eq_true,decide_eq_true_eq,decide_eq_true_eq];omega
      refine Ev.congr (f:=fun k => text_Decode.l0 k (L.drop m) v o) (fun k => (if_neg hne).trans (if_pos hhi)) ?_
      have hv:(v != 0)=true:=bne_iff_ne.mpr (by omega)
      by_cases c3:L.drop m=[]
      ·rw [if_pos c3,c3]
       refine Ev.step (f:=fun _ => some badV) (fun k => ?_) (Ev.now _)
       simp only [text_Decode.l0]
       rw [if_neg (by simp),if_pos hv]
      ·rw [if_neg c3]
       have hp2:=len_pos c3
       obtain ⟨x2,y2,ht2⟩:=text_next.ev _ (hL.drop m) hp2
       refine Ev.step (hround (L.drop m) v hp2) ?_
       refine Ev.bind ht2 ?_
       cases e2:takeV (L.drop m) with
       | none => simp only [Bool.false_eq_true,if_false];exact Ev.now _
       | some p =>
        obtain ⟨u,q⟩:=p
        obtain ⟨u0,u1,q1,q3,ql⟩:=takeV_ok (hL.drop m) e2
        simp only [if_true,hv]
        by_cases c4:56320≤u∧u≤57343
        ·rw [if_pos c4]
         have hw:pairV v u=pairN v u:=by
          unfold pairV pairN
          rw [w32 (x:=v - 55296) (by omega) (by omega),w32 (x:=(v - 55296) * 1024) (by omega) (by omega),w32 (x:=65536 + (v - 55296) * 1024) (by omega) (by omega),w32 (x:=65536 + (v - 55296) * 1024 + u) (by omega) (by omega),w32 (by omega) (by omega)]
          omega
         have hr:65536≤pairN v u∧pairN v u≤1114111:=by unfold pairN;omega
         have hu:=utf8L_len (pairN v u)
         have hm3:=(takeV_len hL e).2 (by omega)
         have hq3:=(takeV_len (hL.drop m) e2).2 (by omega)
         have hd2:((L.drop m).drop q).length=L.length - m - q:=by rw [List.length_drop,hd]
         have hl2:¬ ((decide (56320≤u) && decide (u < 57344)) != true)=true:=by
          rw [decide_eq_true c4.1,decide_eq_true (show u < 57344 by omega)];decide
         refine Ev.congr (f:=fun k => (utf8_AppendRune.f k o (pairN v u)).bind fun o1 => text_Decode.l0 k ((L.drop m).drop q) 0 o1) (fun k => by rw [if_neg hl2,hw]) ?_
         exact Ev.bind (utf8_AppendRune.ev o _ (by omega) (by omega) (by omega) (by omega)) (ih _ _ ((hL.drop m).drop q) (by omega) (by rw [List.length_append];omega))
        ·rw [if_neg c4]
         have hl2:((decide (56320≤u) && decide (u < 57344)) != true)=true:=by
          by_cases c:56320≤u
          ·rw [decide_eq_false (show ¬ u < 57344 by omega),Bool.and_false];rfl
          ·rw [decide_eq_false c,Bool.false_and];rfl
         exact Ev.congr (fun k => if_pos hl2) (Ev.now _)
def DecV (L:List Int):ByteArray × Int:=decV (L.length + 1) L []
theorem text_Decode.ev (L:List Int) (hL:IsBytes L) (h:L.length≤140737488351232):Ev (fun k => text_Decode.f k L) (DecV L):=text_Decode.ev_l _ L [] hL (by omega) (by simp;omega)
theorem bytes_of_wf {l:List Int} (h:∀ x ∈ l,(Lit.int .u8 x).wf=true):IsBytes l:=by
 intro x hx
 have h1:=h x hx
 simp [Lit.wf,IntKind.min,IntKind.max,IntKind.bits,IntKind.signed] at h1
 omega
end Go.Proofs.YtbgniepcoaiinaaDoor.Px
namespace Go.Proofs.YtbgniepcoaiinaaDoor.Px
open Go.RowKit Go.Proofs.YtbgniepcoaiinaaDoorW.PrintWords Go.Proofs.YtbgniepcoaiinaaDoorW.PrintLast Go.Proofs.YtbgniepcoaiinaaDoorW.PrintMore
set_option linter.unusedVariables false
set_option linter.unusedSimpArgs false
theorem text_Encode.ev_one (b:List Int) (c:Int) (h0:0≤c) (h1:c≤1114111) (hb:b.length + 6 < 140737488355328):Ev (fun k => text_Encode.one k b c) (b++cuL c):=by
 unfold text_Encode.one text_split.f cuL
 by_cases hc:c < 65536
 ·refine Ev.congr (f:=fun k => text_unit.f k b c) (fun k => ?_) (by rw [if_pos hc];exact text_unit.ev b c h0 hc (by omega))
  simp only [if_pos hc,Option.bind_some,if_true]
 ·have e1:wrap32 (c - 65536)=c - 65536:=w32 (by omega) (by omega)
  have e2:bits .and .i32 (c - 65536) 1023=(c - 65536) % 1024:=bits_mask .i32 31 (by decide) wraps_i32 10 (by decide) _ (by omega) (by omega)
  have e3:wrap32 (55296 + (c - 65536) / 1024)=55296 + (c - 65536) / 1024:=w32 (by omega) (by omega)
  have e4:wrap32 (56320 + (c - 65536) % 1024)=56320 + (c - 65536) % 1024:=w32 (by omega) (by omega)
  have hl:=unitL_len (55296 + (c - 65536) / 1024)
  refine Ev.congr (f:=fun k => (text_unit.f k b (55296 + (c - 65536) / 1024)).bind fun b1 => text_unit.f k b1 (56320 + (c - 65536) % 1024)) (fun k => ?_) ?_
  ·simp only [if_neg hc,Option.bind_some,e1,e2,e3,e4]
   rw [if_neg (by omega)]
  rw [if_neg hc,← List.append_assoc]
  exact Ev.bind (text_unit.ev b _ (by omega) (by omega) (by omega)) (text_unit.ev _ _ (by omega) (by omega) (by rw [List.length_append];omega))
def encGo:Nat→List UInt8→List Int
 | 0,_ => []
 | f + 1,l => if l=[] then [] else cuL ((Lib.decodeL l).1:Int)++encGo f (l.drop (Lib.decodeL l).2)
def encL (l:List UInt8):List Int:=encGo l.length l
theorem encGo_fuel:∀ n m (l:List UInt8),l.length≤n→l.length≤m→encGo n l=encGo m l
 | 0,m,l,hn,_ => by
  have:l=[]:=List.length_eq_zero_iff.1 (by omega)
  subst this
  cases m <;> simp [encGo]
 | n + 1,0,l,_,hm => by
  have:l=[]:=List.length_eq_zero_iff.1 (by omega)
  subst this
  simp [encGo]
 | n + 1,m + 1,l,hn,hm => by
  unfold encGo
  by_cases hne:l=[]
  ·simp [hne]
  ·have hw:=Lib.decodeL_width l
   have hl:0 < l.length:=List.length_pos_iff.2 hne
   rw [if_neg hne,if_neg hne,encGo_fuel n m (l.drop (Lib.decodeL l).2) (by rw [List.length_drop];omega) (by rw [List.length_drop];omega)]
theorem encL_nil:encL []=[]:=rfl
theorem encL_step (l:List UInt8) (hne:l ≠ []):encL l=cuL ((Lib.decodeL l).1:Int)++encL (l.drop (Lib.decodeL l).2):=by
 have hl:0 < l.length:=List.length_pos_iff.2 hne
 have hw:=Lib.decodeL_width l
 obtain ⟨n,hn⟩:∃ n,l.length=n + 1:=⟨l.length - 1,by omega⟩
 unfold encL
 rw [hn]
 show (if l=[] then [] else _)=_
 rw [if_neg hne,encGo_fuel n (l.drop (Lib.decodeL l).2).length _ (by rw [List.length_drop];omega) (Nat.le_refl _)]
theorem text_Encode.ev_l (s:ByteArray) (hs:s.size≤1099511627776):∀ n p b,s.size - p≤n→b.length≤6 * p→Ev (fun k => text_Encode.l0 k s p b) (b++encL (s.data.toList.drop p),0)
 | 0,p,b,hn,hb => by
  refine Ev.step (f:=fun _ => some (b,0)) (fun k => ?_) ?_
  ·simp only [text_Encode.l0];rw [if_neg (by omega)]
  ·have:s.data.toList.drop p=[]:=List.drop_eq_nil_of_le (by rw [← Lib.size_eq];omega)
   rw [this,encL_nil,List.append_nil]
   exact Ev.now _
 | n + 1,p,b,hn,hb => by
  by_cases hp:p < s.size
  ·have hw:=text_Encode.width s p hp
   have hd:Lib.decodeL (s.data.toList.drop p)=Utf8.decode s p:=Lib.decodeL_drop s p
   have hr:=Lib.decodeL_rune (s.data.toList.drop p)
   have hne:s.data.toList.drop p ≠ []:=by
    intro e
    have:=congrArg List.length e
    rw [List.length_drop,← Lib.size_eq] at this
    simp at this
    omega
   rw [hd] at hr
   have h6:=cuL_len ((Utf8.decode s p).1:Int)
   have hwl:=decode_le s p
   refine Ev.step (f:=fun k => (text_Encode.one k b ((Utf8.decode s p).1:Int)).bind fun b1 => text_Encode.l0 k s (p + (Utf8.decode s p).2) b1) (fun k => ?_) ?_
   ·simp only [text_Encode.l0];rw [if_pos hp]
   ·rw [encL_step _ hne,hd,List.drop_drop,← List.append_assoc]
    exact Ev.bind (text_Encode.ev_one b _ (by omega) (by omega) (by omega)) (text_Encode.ev_l s hs n _ _ (by omega) (by rw [List.length_append];omega))
  ·refine Ev.step (f:=fun _ => some (b,0)) (fun k => ?_) ?_
   ·simp only [text_Encode.l0];rw [if_neg hp]
   ·have:s.data.toList.drop p=[]:=List.drop_eq_nil_of_le (by rw [← Lib.size_eq];omega)
    rw [this,encL_nil,List.append_nil]
    exact Ev.now _
def encV (s:ByteArray):List Int × Int:=if Lib.validD s.data.toList=true then (encL s.data.toList,0) else ([],20)
theorem text_Encode.ev (s:ByteArray) (hs:s.size≤1099511627776):Ev (fun k => text_Encode.f k s) (encV s):=by
 unfold text_Encode.f encV
 by_cases hv:Lib.validD s.data.toList=true
 ·refine Ev.congr (f:=fun k => text_Encode.l0 k s 0 []) (fun k => by rw [if_pos (by omega),if_pos hv]) ?_
  rw [if_pos hv]
  have:=text_Encode.ev_l s hs s.size 0 [] (by omega) (by simp)
  simpa using this
 ·refine Ev.congr (f:=fun k => some ([],20)) (fun k => by rw [if_pos (by omega),if_neg hv]) ?_
  rw [if_neg hv]
  exact Ev.now _
end Go.Proofs.YtbgniepcoaiinaaDoor.Px
namespace Go.Proofs.YtbgniepcoaiinaaDoor.Px
open Go.RowKit Go.Proofs.YtbgniepcoaiinaaDoorW.PrintWords Go.Proofs.YtbgniepcoaiinaaDoorW.PrintLast Go.Proofs.YtbgniepcoaiinaaDoorW.PrintMore
set_option linter.unusedVariables false
set_option linter.unusedSimpArgs false
abbrev B8 (x:Int):UInt8:=UInt8.ofNat x.toNat
theorem takeV_unit (v:Int) (h0:0≤v) (h1:v < 65536) (R:List Int):takeV (unitL v++R)=some (v,(unitL v).length):=by
 unfold unitL
 by_cases c1:1≤v∧v≤127
 ·rw [if_pos c1]
  unfold takeV
  simp only [List.cons_append,List.nil_append]
  rw [show rd (v :: R) 0=v from rfl,if_pos c1]
  rfl
 ·rw [if_neg c1]
  by_cases c2:v≤2047
  ·rw [if_pos c2]
   unfold takeV V2
   simp only [List.cons_append,List.nil_append]
   rw [show rd ((192 + v / 64) :: (128 + v % 64) :: R) 0=192 + v / 64 from rfl,show rd ((192 + v / 64) :: (128 + v % 64) :: R) 1=128 + v % 64 from rfl]
   rw [if_neg (by omega),if_pos ⟨by omega,by omega,by simp,by omega,by omega,by omega⟩]
   exact congrArg some (Prod.ext (show (192 + v / 64 - 192) * 64 + (128 + v % 64 - 128)=v by omega) rfl)
  ·rw [if_neg c2]
   unfold takeV V3 V2
   simp only [List.cons_append,List.nil_append]
   rw [show rd ((224 + v / 4096) :: (128 + v / 64 % 64) :: (128 + v % 64) :: R) 0=224 + v / 4096 from rfl,show rd ((224 + v / 4096) :: (128 + v / 64 % 64) :: (128 + v % 64) :: R) 1=128 + v / 64 % 64 from rfl,show rd ((224 + v / 4096) :: (128 + v / 64 % 64) :: (128 + v % 64) :: R) 2=128 + v % 64 from rfl]
   rw [if_neg (by omega),if_neg (by omega),if_pos ⟨by omega,by omega,by simp,by omega,by omega,by omega,by omega,by omega⟩]
   exact congrArg some (Prod.ext (show (224 + v / 4096 - 224) * 4096 + (128 + v / 64 % 64 - 128) * 64 + (128 + v % 64 - 128)=v by omega) rfl)
theorem unit_of_takeV {L:List Int} (hL:IsBytes L) {v:Int} {m:Nat} (h:takeV L=some (v,m)):L=unitL v++L.drop m:=by
 have h0:=rd_byte hL 0
 have h1:=rd_byte hL 1
 have h2:=rd_byte hL 2
 have hl:1≤rd L 0→0 < L.length:=by
  intro hh
  cases L with
  | nil => simp [rd] at hh
  | cons a t => simp
 have key:L.take m=unitL v:=by
  unfold takeV V2 V3 at h
  unfold unitL
  split at h
  ·cases h
   rw [if_pos (by assumption),take1 L (hl (by omega))]
  ·split at h
   ·cases h
    rw [if_neg (by omega),if_pos (by omega),take2 L (by omega)]
    simp only [List.cons.injEq,and_true]
    omega
   ·split at h
    ·cases h
     rw [if_neg (by omega),if_neg (by omega),take3 L (by omega)]
     simp only [List.cons.injEq,and_true]
     omega
    ·cases h
 rw [← key,List.take_append_drop]
theorem unitL_pos (v:Int):0 < (unitL v).length:=by unfold unitL;split <;> (try split) <;> simp
theorem unitL_ne (v:Int) (h0:0≤v) (h1:v < 65536):∀ x ∈ unitL v,x ≠ 0:=by
 intro x hx
 unfold unitL at hx
 split at hx
 ·simp only [List.mem_singleton] at hx;omega
 ·split at hx <;> simp only [List.mem_cons,List.not_mem_nil,or_false] at hx <;> omega
theorem cuL_ne (c:Int) (h0:0≤c) (h1:c≤1114111):∀ x ∈ cuL c,x ≠ 0:=by
 intro x hx
 unfold cuL at hx
 split at hx
 ·exact unitL_ne c h0 (by assumption) x hx
 ·rcases List.mem_append.1 hx with hx|hx
  ·exact unitL_ne _ (by omega) (by omega) x hx
  ·exact unitL_ne _ (by omega) (by omega) x hx
theorem cuL_bytes (c:Int) (h0:0≤c) (h1:c≤1114111):IsBytes (cuL c):=by
 intro x hx
 unfold cuL at hx
 split at hx
 ·exact unitL_bytes c h0 (by assumption) x hx
 ·rcases List.mem_append.1 hx with hx|hx
  ·exact unitL_bytes _ (by omega) (by omega) x hx
  ·exact unitL_bytes _ (by omega) (by omega) x hx
theorem encL_all:∀ n (l:List UInt8),l.length≤n→(∀ x ∈ encL l,x ≠ 0)∧IsBytes (encL l)
 | 0,l,h => by
  have:l=[]:=List.length_eq_zero_iff.1 (by omega)
  subst this
  exact ⟨fun x hx => by simp [encL_nil] at hx,fun x hx => by simp [encL_nil] at hx⟩
 | n + 1,l,h => by
  by_cases hne:l=[]
  ·subst hne;exact ⟨fun x hx => by simp [encL_nil] at hx,fun x hx => by simp [encL_nil] at hx⟩
  ·have hw:=Lib.decodeL_width l
   have hl:0 < l.length:=List.length_pos_iff.2 hne
   have ih:=encL_all n (l.drop (Lib.decodeL l).2) (by rw [List.length_drop];omega)
   have hr:=Lib.decodeL_rune l
   rw [encL_step l hne]
   refine ⟨fun x hx => ?_,fun x hx => ?_⟩
   ·rcases List.mem_append.1 hx with hx|hx
    ·exact cuL_ne _ (by omega) (by omega) x hx
    ·exact ih.1 x hx
   ·rcases List.mem_append.1 hx with hx|hx
    ·exact cuL_bytes _ (by omega) (by omega) x hx
    ·exact ih.2 x hx
theorem decodeL_scalar (l:List UInt8):(Lib.decodeL l).1 < 55296 ∨ 57344≤(Lib.decodeL l).1:=by
 rw [Lib.decodeL_N]
 have k0:=(l.getD 0 0).toNat_lt
 rcases Lib.decodeN_shape l.length (l.getD 0 0).toNat (l.getD 1 0).toNat (l.getD 2 0).toNat (l.getD 3 0).toNat with ⟨c,e⟩|⟨c1,c2,c3,cv,e⟩|⟨c1,c2,c3,c4,cv,cs,e⟩|⟨c1,c2,c3,c4,c5,cv,cw,e⟩|e
 all_goals (rw [e];dsimp only;omega)
theorem utf8L_eq (v:Int) (h0:0≤v) (h1:v≤1114111) (hs:v < 55296 ∨ 57344≤v):Lib.encodeRuneZ v=utf8L v:=by
 unfold utf8L
 by_cases c1:v < 128
 ·rw [if_pos c1,Lib.encodeRuneZ_one h0 (by omega)]
 ·rw [if_neg c1]
  by_cases c2:v < 2048
  ·rw [if_pos c2,Lib.encodeRuneZ_two (by omega) (by omega)]
  ·rw [if_neg c2]
   by_cases c3:v < 65536
   ·rw [if_pos c3,Lib.encodeRuneZ_three (by omega)]
   ·rw [if_neg c3,Lib.encodeRuneZ_four (by omega) h1]
theorem utf8L_bytes (v:Int) (h0:0≤v) (h1:v≤1114111):IsBytes (utf8L v):=by
 intro x hx
 unfold utf8L at hx
 split at hx
 ·simp only [List.mem_singleton] at hx;omega
 ·split at hx
  ·simp only [List.mem_cons,List.not_mem_nil,or_false] at hx;omega
  ·split at hx <;> simp only [List.mem_cons,List.not_mem_nil,or_false] at hx <;> omega
abbrev Nums (l:List UInt8):List Int:=l.map fun b => (b.toNat:Int)
theorem nums_B8 {xs:List Int} (h:IsBytes xs):Nums (xs.map B8)=xs:=by
 rw [Nums,List.map_map]
 refine (List.map_congr_left (fun x hx => ?_)).trans (List.map_id xs)
 have:=h x hx
 simp only [Function.comp,B8,UInt8.toNat_ofNat',id]
 rw [Nat.mod_eq_of_lt (by omega)]
 omega
theorem b8_nums (l:List UInt8):(Nums l).map B8=l:=by
 rw [Nums,List.map_map]
 refine (List.map_congr_left (fun x _ => ?_)).trans (List.map_id l)
 simp [Function.comp,B8]
theorem strOfNums_nums (s:ByteArray):strOfNums (Nums s.data.toList)=s:=by
 have e:(strOfNums (Nums s.data.toList)).data.toList=(Nums s.data.toList).map B8:=rfl
 rw [b8_nums] at e
 have e2:=congrArg List.toArray e
 simp only [Array.toArray_toList] at e2
 cases h:strOfNums (Nums s.data.toList)
 cases s
 rw [h] at e2
 exact congrArg ByteArray.mk e2
theorem take_utf8 (l:List UInt8) (hne:l ≠ []) (hv:¬ ((Lib.decodeL l).1=65533∧(Lib.decodeL l).2=1)):Nums (l.take (Lib.decodeL l).2)=utf8L ((Lib.decodeL l).1:Int):=by
 have hr:=Lib.decodeL_rune l
 have hs:=decodeL_scalar l
 rw [← Lib.encode_decode l hne hv]
 unfold Lib.encodeRune
 rw [utf8L_eq _ (by omega) (by omega) (by omega)]
 exact nums_B8 (utf8L_bytes _ (by omega) (by omega))
theorem dec_enc:∀ (n:Nat) (l:List UInt8) (o:List Int) (q:Nat),l.length≤n→Lib.validD l=true→(encL l).length < q→decV q (encL l) o=(strOfNums (o++Nums l),0):=by
 have base:∀ (o:List Int) (q:Nat),(encL []).length < q→decV q (encL []) o=(strOfNums (o++Nums []),0):=by
  intro o q hq
  obtain ⟨q,rfl⟩:∃ m,q=m + 1:=⟨q - 1,by omega⟩
  simp [decV,encL_nil]
 intro n
 induction n with
 | zero =>
  intro l o q h hv hq
  have:l=[]:=List.length_eq_zero_iff.1 (by omega)
  subst this
  exact base o q hq
 | succ n ih =>
  intro l o q h hv hq
  by_cases hne:l=[]
  ·subst hne;exact base o q hq
  have hl:0 < l.length:=List.length_pos_iff.2 hne
  have hw:=Lib.decodeL_width l
  have hr:=Lib.decodeL_rune l
  have hs:=decodeL_scalar l
  rw [Lib.validD_step l hne] at hv
  by_cases hbad:(Lib.decodeL l).1=65533∧(Lib.decodeL l).2=1
  ·rw [if_pos hbad] at hv;cases hv
  rw [if_neg hbad] at hv
  have ht:=take_utf8 l hne hbad
  have hN:Nums l=utf8L ((Lib.decodeL l).1:Int)++Nums (l.drop (Lib.decodeL l).2):=by
   rw [← ht]
   show _=(l.take _).map _++(l.drop _).map _
   rw [← List.map_append,List.take_append_drop]
  obtain ⟨q,rfl⟩:∃ m,q=m + 1:=⟨q - 1,by omega⟩
  rw [encL_step l hne] at hq ⊢
  rw [List.length_append] at hq
  obtain ⟨c,hc⟩:∃ c:Int,c=((Lib.decodeL l).1:Int):=⟨_,rfl⟩
  rw [← hc] at hq hN ⊢
  unfold cuL at hq ⊢
  by_cases h16:c < 65536
  ·rw [if_pos h16] at hq ⊢
   have hp:=unitL_pos c
   simp only [decV]
   rw [if_neg (fun e => absurd (congrArg List.length e) (by rw [List.length_append,List.length_nil];omega)),takeV_unit c (by omega) h16]
   simp only
   rw [if_neg (by omega),if_pos (by omega),List.drop_left,ih _ _ q (by rw [List.length_drop];omega) hv (by omega),hN,List.append_assoc]
  ·rw [if_neg h16] at hq ⊢
   have hp1:=unitL_pos (55296 + (c - 65536) / 1024)
   have hp2:=unitL_pos (56320 + (c - 65536) % 1024)
   rw [List.length_append] at hq
   simp only [decV]
   rw [List.append_assoc,if_neg (fun e => absurd (congrArg List.length e) (by rw [List.length_append,List.length_nil];omega)),takeV_unit _ (by omega) (by omega)]
   simp only
   rw [if_neg (by omega),if_neg (by omega),List.drop_left,if_neg (fun e => absurd (congrArg List.length e) (by rw [List.length_append,List.length_nil];omega)),takeV_unit _ (by omega) (by omega)]
   simp only
   rw [if_pos (by omega),List.drop_left,ih _ _ q (by rw [List.length_drop];omega) hv (by omega),hN,List.append_assoc]
   rw [show pairN (55296 + (c - 65536) / 1024) (56320 + (c - 65536) % 1024)=c by unfold pairN;omega]
theorem n8 (x:Int) (h0:0≤x) (h1:x < 256):((B8 x).toNat:Nat)=x.toNat:=by
 simp only [B8,UInt8.toNat_ofNat']
 rw [Nat.mod_eq_of_lt (by omega)]
theorem decodeL_utf8 (v:Int) (h0:0≤v) (h1:v≤1114111) (hs:v < 55296 ∨ 57344≤v) (R:List UInt8):Lib.decodeL ((utf8L v).map B8++R)=(v.toNat,(utf8L v).length):=by
 rw [Lib.decodeL_N]
 unfold utf8L
 by_cases c1:v < 128
 ·rw [if_pos c1]
  simp only [List.map_cons,List.map_nil,List.cons_append,List.nil_append,List.getD_cons_zero,List.length_cons,List.length_nil]
  unfold Lib.decodeN
  rw [n8 _ (by omega) (by omega),if_pos (by omega)]
 ·rw [if_neg c1]
  by_cases c2:v < 2048
  ·rw [if_pos c2]
   simp only [List.map_cons,List.map_nil,List.cons_append,List.nil_append,List.getD_cons_zero,List.getD_cons_succ,List.length_cons,List.length_nil]
   unfold Lib.decodeN
   rw [n8 _ (by omega) (by omega),n8 _ (by omega) (by omega),if_neg (by omega),if_pos (by omega),if_pos (by omega)]
   exact Prod.ext (show (192 + v / 64).toNat % 32 * 64 + (128 + v % 64).toNat % 64=v.toNat by omega) rfl
  ·rw [if_neg c2]
   by_cases c3:v < 65536
   ·rw [if_pos c3]
    simp only [List.map_cons,List.map_nil,List.cons_append,List.nil_append,List.getD_cons_zero,List.getD_cons_succ,List.length_cons,List.length_nil]
    unfold Lib.decodeN
    rw [n8 _ (by omega) (by omega),n8 _ (by omega) (by omega),n8 _ (by omega) (by omega),if_neg (by omega),if_neg (by omega),if_pos (by omega),if_pos (by omega)]
    exact Prod.ext (show (224 + v / 4096).toNat % 16 * 4096 + (128 + v / 64 % 64).toNat % 64 * 64 + (128 + v % 64).toNat % 64=v.toNat by omega) rfl
   ·rw [if_neg c3]
    simp only [List.map_cons,List.map_nil,List.cons_append,List.nil_append,List.getD_cons_zero,List.getD_cons_succ,List.length_cons,List.length_nil]
    unfold Lib.decodeN
    rw [n8 _ (by omega) (by omega),n8 _ (by omega) (by omega),n8 _ (by omega) (by omega),n8 _ (by omega) (by omega),if_neg (by omega),if_neg (by omega),if_neg (by omega),if_pos (by omega),if_pos (by omega)]
    exact Prod.ext (show (240 + v / 262144).toNat % 8 * 262144 + (128 + v / 4096 % 64).toNat % 64 * 4096 + (128 + v / 64 % 64).toNat % 64 * 64 + (128 + v % 64).toNat % 64=v.toNat by omega) rfl
theorem utf8L_pos (v:Int):0 < (utf8L v).length:=by unfold utf8L;split <;> (try split) <;> (try split) <;> simp
theorem step_utf8 (v:Int) (h0:0≤v) (h1:v≤1114111) (hs:v < 55296 ∨ 57344≤v) (R:List UInt8):Lib.validD ((utf8L v).map B8++R)=Lib.validD R∧encL ((utf8L v).map B8++R)=cuL v++encL R:=by
 have hd:=decodeL_utf8 v h0 h1 hs R
 have hne:(utf8L v).map B8++R ≠ []:=by
  intro e
  have e1:=congrArg List.length e
  have e2:=utf8L_pos v
  rw [List.length_append,List.length_map,List.length_nil] at e1
  omega
 have hlen:((utf8L v).map B8).length=(utf8L v).length:=List.length_map ..
 rw [Lib.validD_step _ hne,encL_step _ hne,hd]
 dsimp only
 have hdrop:((utf8L v).map B8++R).drop (utf8L v).length=R:=by rw [← hlen,List.drop_left]
 rw [hdrop]
 refine ⟨if_neg ?_,by rw [Int.toNat_of_nonneg h0]⟩
 rintro ⟨e1,e2⟩
 unfold utf8L at e2
 rw [if_neg (by omega),if_neg (by omega),if_pos (by omega)] at e2
 simp at e2
theorem enc_dec:∀ (n:Nat) (L o:List Int) (t:ByteArray),IsBytes L→decV n L o=(t,0)→∃ X:List Int,IsBytes X∧t=strOfNums (o++X)∧X.length≤L.length∧Lib.validD (X.map B8)=true∧encL (X.map B8)=L:=by
 intro n
 induction n with
 | zero => intro L o t hL h;simp [decV] at h
 | succ n ih =>
  intro L o t hL h
  simp only [decV] at h
  by_cases he:L=[]
  ·rw [if_pos he] at h
   subst he
   cases h
   exact ⟨[],fun x hx => by simp at hx,by rw [List.append_nil],Nat.le_refl _,rfl,rfl⟩
  rw [if_neg he] at h
  cases e:takeV L with
  | none => rw [e] at h;simp at h
  | some p =>
   obtain ⟨v,m⟩:=p
   rw [e] at h
   simp only at h
   obtain ⟨v0,v1,m1,m3,ml⟩:=takeV_ok hL e
   have hu:=unit_of_takeV hL e
   have hlen:=(takeV_len hL e)
   have hdl:(L.drop m).length=L.length - m:=List.length_drop
   by_cases c1:56320≤v∧v≤57343
   ·rw [if_pos c1] at h;simp at h
   rw [if_neg c1] at h
   by_cases c2:v < 55296 ∨ 56319 < v
   ·rw [if_pos c2] at h
    obtain ⟨X,hX,rfl,hXl,hXv,hXe⟩:=ih _ _ _ (hL.drop m) h
    obtain ⟨s1,s2⟩:=step_utf8 v v0 (by omega) (by omega) (X.map B8)
    refine ⟨utf8L v++X,fun x hx => ?_,by rw [List.append_assoc],by rw [List.length_append];omega,by rw [List.map_append,s1];exact hXv,?_⟩
    ·rcases List.mem_append.1 hx with hx|hx
     ·exact utf8L_bytes v v0 (by omega) x hx
     ·exact hX x hx
    ·rw [List.map_append,s2,hXe]
     unfold cuL
     rw [if_pos v1]
     exact hu.symm
   ·rw [if_neg c2] at h
    by_cases c3:L.drop m=[]
    ·rw [if_pos c3] at h;simp at h
    rw [if_neg c3] at h
    cases e2:takeV (L.drop m) with
    | none => rw [e2] at h;simp at h
    | some p2 =>
     obtain ⟨u,q⟩:=p2
     rw [e2] at h
     simp only at h
     obtain ⟨u0,u1,q1,q3,ql⟩:=takeV_ok (hL.drop m) e2
     have hu2:=unit_of_takeV (hL.drop m) e2
     have hlen2:=(takeV_len (hL.drop m) e2)
     have hdl2:((L.drop m).drop q).length=L.length - m - q:=by rw [List.length_drop,hdl]
     by_cases c4:56320≤u∧u≤57343
     ·rw [if_pos c4] at h
      obtain ⟨X,hX,rfl,hXl,hXv,hXe⟩:=ih _ _ _ ((hL.drop m).drop q) h
      have hc:65536≤pairN v u∧pairN v u≤1114111:=by unfold pairN;omega
      obtain ⟨s1,s2⟩:=step_utf8 (pairN v u) (by omega) (by omega) (by omega) (X.map B8)
      have h4:=utf8L_len (pairN v u)
      have m33:=hlen.2 (by omega)
      have q33:=hlen2.2 (by omega)
      refine ⟨utf8L (pairN v u)++X,fun x hx => ?_,by rw [List.append_assoc],by rw [List.length_append];omega,by rw [List.map_append,s1];exact hXv,?_⟩
      ·rcases List.mem_append.1 hx with hx|hx
       ·exact utf8L_bytes _ (by omega) (by omega) x hx
       ·exact hX x hx
      ·rw [List.map_append,s2,hXe]
       unfold cuL
       rw [if_neg (by omega),show 55296 + (pairN v u - 65536) / 1024=v by unfold pairN;omega,show 56320 + (pairN v u - 65536) % 1024=u by unfold pairN;omega,List.append_assoc,← hu2]
       exact hu.symm
     ·rw [if_neg c4] at h;simp at h
end Go.Proofs.YtbgniepcoaiinaaDoor.Px
namespace Go.Proofs.YtbgniepcoaiinaaDoor.Px
open Go.RowKit Go.Proofs.YtbgniepcoaiinaaDoorW.PrintWords Go.Proofs.YtbgniepcoaiinaaDoorW.PrintLast Go.Proofs.YtbgniepcoaiinaaDoorW.PrintMore
set_option linter.unusedVariables false
set_option linter.unusedSimpArgs false
def isV (l:List S67) (i tag:Int):Bool:=decide (0 < i∧i < (l.length:Int)∧(rd_T67 l i).f0=tag)
def noText:ByteArray:=⟨#[]⟩
def textV (l:List S67) (i:Int):ByteArray × Bool:=if isV l i 1=true then ((rd_T67 l i).f1,true) else (noText,false)
theorem isV_pos {l:List S67} {i tag:Int} (h:isV l i tag=true):0 < i∧i < (l.length:Int)∧(rd_T67 l i).f0=tag:=of_decide_eq_true h
theorem pool_is.eq (l:List S67) (i tag:Int):pool_is.f l i tag=some (isV l i tag):=by
 unfold pool_is.f isV
 by_cases h1:i > 0
 ·rw [if_pos h1]
  by_cases h2:i < (l.length:Int)
  ·rw [if_pos h2,if_pos (by omega)]
   congr 1
   rw [Bool.eq_iff_iff]
   simp only [beq_iff_eq,decide_eq_true_eq]
   exact ⟨fun h => ⟨h1,h2,h⟩,fun h => h.2.2⟩
  ·rw [if_neg h2,decide_eq_false (by omega)]
 ·rw [if_neg h1,decide_eq_false (by omega)]
theorem pool_Text.eq (l:List S67) (i:Int):pool_Text.f l i=some (textV l i):=by
 unfold pool_Text.f textV
 rw [pool_is.eq,Option.bind_some]
 by_cases h:isV l i 1=true
 ·have:=isV_pos h
  rw [if_pos h,if_pos h,if_pos (by omega),if_pos this.2.1]
 ·rw [if_neg h,if_neg h];rfl
end Go.Proofs.YtbgniepcoaiinaaDoor.Px
namespace Go.Proofs.YtbgniepcoaiinaaDoor.Px
open Go.RowKit Go.Proofs.YtbgniepcoaiinaaDoorW.PrintWords Go.Proofs.YtbgniepcoaiinaaDoorW.PrintLast Go.Proofs.YtbgniepcoaiinaaDoorW.PrintMore
set_option linter.unusedVariables false
set_option linter.unusedSimpArgs false
def fieldsV (c:Cst):Int × ByteArray × Int × Int × Int :=
 if c.f0=1 then (c.f0,c.f1,0,0,0) else if c.f0=3 ∨ c.f0=5 then (c.f0,⟨#[]⟩,c.f2,0,0) else if c.f0=9 ∨ c.f0=10 ∨ c.f0=12 then (c.f0,⟨#[]⟩,0,c.f3,c.f4) else if c.f0=7 then (c.f0,⟨#[]⟩,0,c.f3,0) else (c.f0,⟨#[]⟩,0,0,0)
def leadsV (p:List Cst) (c:Cst):Bool :=
 if c.f0=1 ∨ c.f0=5 then true else if c.f0=3 then decide (-2147483648≤c.f2∧c.f2≤2147483647) else if c.f0=7 then isV p c.f3 1 else if c.f0=12 then isV p c.f3 1 && isV p c.f4 1 else if c.f0=9 ∨ c.f0=10 then isV p c.f3 7 && isV p c.f4 12 else false
def bareV (c:Cst):Bool :=
 if c.f0=1 then decide (c.f2=0∧c.f3=0∧c.f4=0) else if c.f0=3 ∨ c.f0=5 then decide (c.f1.toList=[]∧c.f3=0∧c.f4=0) else if c.f0=7 then decide (c.f1.toList=[]∧c.f2=0∧c.f4=0) else decide (c.f1.toList=[]∧c.f2=0)
def oneV (p:List Cst) (c:Cst):Int :=
 if bareV c=true∧leadsV p c=true then (if c.f0=1∧¬ ((encV c.f1).2=0∧(encV c.f1).1.length≤256) then 20 else 0) else 40
def chkV:Nat→List Cst→Nat→Int
 | 0,_,_ => 0
 | n + 1,p,i => if i < p.length then (if oneV p (rd_T67 p (i:Int))=0 then chkV n p (i + 1) else oneV p (rd_T67 p (i:Int))) else 0
def zeroV (c:Cst):Bool:=decide (c.f0=0∧c.f1.toList=[]∧c.f2=0∧c.f3=0∧c.f4=0)
def checkV (p:List Cst):Int:=if p.length > 1024 then 2 else if p.length=0 then 40 else if zeroV (rd_T67 p 0)=true then chkV p.length p 1 else 40
theorem noBytes:(⟨#[]⟩:ByteArray).toList=[]:=by rw [Lib.toList_data]
theorem pool_fields.at2 (c:Cst):pool_fields.f 2 c.f0 c.f1 c.f2 c.f3 c.f4=some (fieldsV c):=by
 unfold fieldsV pool_fields.f
 simp only [pool_fields.j0,pool_fields.j1,beq_iff_eq]
 repeat' split
 all_goals first|rfl|(exfalso;omega)
theorem pool_fields.ev (c:Cst):Ev (fun k => pool_fields.f k c.f0 c.f1 c.f2 c.f3 c.f4) (fieldsV c):=Ev.of (fun k => pool_fields.mono _ _ _ _ _ k) (pool_fields.at2 c)
theorem wraps (x:Int) (h:(Lit.int .i64 x).wf=true):(wrap64 (wrap32 x)==x)=decide (-2147483648≤x∧x≤2147483647):=by
 simp [Lit.wf,IntKind.min,IntKind.max,IntKind.bits,IntKind.signed] at h
 rw [Bool.eq_iff_iff,beq_iff_eq,decide_eq_true_eq]
 unfold wrap64 wrap32
 omega
theorem pool_leads.at2 (p:List Cst) (c:Cst) (hw:(Lit.int .i64 c.f2).wf=true):pool_leads.f 2 p c.f0 c.f1 c.f2 c.f3 c.f4=some (leadsV p c):=by
 unfold leadsV pool_leads.f
 simp only [pool_leads.j0,pool_leads.j1,beq_iff_eq,pool_is.eq,Option.bind_some,wraps _ hw]
 by_cases h1:c.f0=1
 ·rw [if_pos h1,if_pos h1,if_pos (by omega)]
 rw [if_neg h1]
 by_cases h5:c.f0=5
 ·rw [if_pos h5,if_pos (by omega)]
 rw [if_neg h5,if_neg (show ¬ (c.f0=1 ∨ c.f0=5) by omega)]
 by_cases h3:c.f0=3
 ·rw [if_pos h3,if_pos h3]
 rw [if_neg h3,if_neg h3]
 by_cases h7:c.f0=7
 ·rw [if_pos h7,if_pos h7]
 rw [if_neg h7,if_neg h7]
 by_cases h12:c.f0=12
 ·rw [if_pos h12,if_pos h12]
  cases isV p c.f3 1 <;> simp
 rw [if_neg h12,if_neg h12]
 by_cases h9:c.f0=9
 ·rw [if_pos h9,if_pos h9,if_pos (show c.f0=9 ∨ c.f0=10 by omega)]
  cases isV p c.f3 7 <;> simp
 rw [if_neg h9]
 by_cases h10:c.f0=10
 ·rw [if_pos h10,if_pos (show c.f0=9 ∨ c.f0=10 by omega)]
  cases isV p c.f3 7 <;> simp
 rw [if_neg h10,if_neg (by omega)]
theorem pool_leads.ev (p:List Cst) (c:Cst) (hw:(Lit.int .i64 c.f2).wf=true):Ev (fun k => pool_leads.f k p c.f0 c.f1 c.f2 c.f3 c.f4) (leadsV p c):=Ev.of (fun k => pool_leads.mono _ _ _ _ _ _ k) (pool_leads.at2 p c hw)
theorem sameC_iff (c:Cst) (x:Int × ByteArray × Int × Int × Int):sameC c x=true ↔ c.f0=x.1∧c.f1.toList=x.2.1.toList∧c.f2=x.2.2.1∧c.f3=x.2.2.2.1∧c.f4=x.2.2.2.2:=by
 unfold sameC
 simp only [Bool.and_eq_true,beq_iff_eq]
theorem same_bare (p:List Cst) (c:Cst) (h:leadsV p c=true):sameC c (fieldsV c)=true ↔ bareV c=true:=by
 rw [sameC_iff]
 unfold fieldsV bareV
 unfold leadsV at h
 by_cases h1:c.f0=1
 ·simp [h1]
 ·by_cases h35:c.f0=3 ∨ c.f0=5
  ·rw [if_neg h1,if_neg h1,if_pos h35,if_pos h35]
   simp [noBytes]
  ·by_cases h9:c.f0=9 ∨ c.f0=10 ∨ c.f0=12
   ·rw [if_neg h1,if_neg h1,if_neg h35,if_neg h35,if_pos h9,if_neg (by omega)]
    simp [noBytes]
   ·by_cases h7:c.f0=7
    ·rw [if_neg h1,if_neg h1,if_neg h35,if_neg h35,if_neg h9,if_pos h7,if_pos h7]
     simp [noBytes]
    ·rw [if_neg (by omega),if_neg (by omega),if_neg (by omega),if_neg (by omega),if_neg (by omega)] at h
     cases h
theorem bare_text (c:Cst) (h:bareV c=true) (h1:c.f0 ≠ 1):encV c.f1=([],0):=by
 have ht:c.f1.toList=[]:=by
  unfold bareV at h
  rw [if_neg h1] at h
  split at h
  ·exact (of_decide_eq_true h).1
  ·split at h
   ·exact (of_decide_eq_true h).1
   ·exact (of_decide_eq_true h).1
 rw [Lib.toList_data] at ht
 unfold encV
 rw [ht]
 rfl
def codeOf (r:Option (Int × Int)):Int:=match r with|none => 0|some (_,y) => y
def FitC (c:Cst):Prop:=c.f1.size≤1099511627776∧(Lit.int .i64 c.f2).wf=true
theorem fit_zero:FitC z67:=⟨by decide,by decide⟩
theorem fit_rd {p:List Cst} (h:∀ c ∈ p,FitC c) (i:Int):FitC (rd_T67 p i):=by
 unfold rd_T67
 rw [List.getD_eq_getElem?_getD]
 cases e:p[i.toNat]? with
 | none => exact fit_zero
 | some x => exact h x (List.mem_of_getElem? e)
theorem pool_check.ev_l (p:List Cst) (hp:∀ c ∈ p,FitC c):∀ n i,p.length≤i + 1 + n→∃ r,Ev (fun k => pool_check.l0 k p i) r∧codeOf r=chkV n p (i + 1):=by
 have stop:∀ i,¬ i + 1 < p.length→Ev (fun k => pool_check.l0 k p i) none:=fun i hi => Ev.step (f:=fun _ => some none) (fun k => by simp only [pool_check.l0];rw [if_neg hi]) (Ev.now _)
 intro n
 induction n with
 | zero => intro i h;exact ⟨none,stop i (by omega),rfl⟩
 | succ n ih =>
  intro i h
  by_cases hi:i + 1 < p.length
  ·obtain ⟨c,hc⟩:∃ c,c=rd_T67 p ((i:Int) + 1):=⟨_,rfl⟩
   have hfit:FitC c:=hc ▸ fit_rd hp _
   have hV:chkV (n + 1) p (i + 1)=if oneV p c=0 then chkV n p (i + 2) else oneV p c:=by
    rw [hc]
    show (if i + 1 < p.length then _ else _)=_
    rw [if_pos hi]
    rfl
   rw [hV]
   have step:∀ r,Ev (fun k => (pool_fields.f k c.f0 c.f1 c.f2 c.f3 c.f4).bind fun x => if sameC c x=true then (pool_leads.f k p c.f0 c.f1 c.f2 c.f3 c.f4).bind fun t => if t=true then (text_Encode.f k c.f1).bind fun b => if b.2=0 then (if (b.1.length:Int) > 256 then some (some ((i:Int) + 1,20)) else pool_check.l0 k p (i + 1)) else some (some ((i:Int) + 1,20)) else some (some ((i:Int) + 1,40)) else some (some ((i:Int) + 1,40))) r→Ev (fun k => pool_check.l0 k p i) r:=fun r hr => Ev.step (fun k => by simp only [pool_check.l0];rw [if_pos hi,← hc]) hr
   by_cases hs:sameC c (fieldsV c)=true
   ·by_cases hl:leadsV p c=true
    ·have hb:=(same_bare p c hl).1 hs
     by_cases he:(encV c.f1).2=0∧(encV c.f1).1.length≤256
     ·obtain ⟨r,hr,hrc⟩:=ih (i + 1) (by omega)
      have h1:oneV p c=0:=by unfold oneV;rw [if_pos ⟨hb,hl⟩,if_neg (fun h => h.2 he)]
      rw [if_pos h1]
      refine ⟨r,step r (Ev.bind (pool_fields.ev c) (Ev.congr (fun k => if_pos hs) (Ev.bind (pool_leads.ev p c hfit.2) (Ev.congr (fun k => if_pos hl) (Ev.bind (text_Encode.ev c.f1 hfit.1) (Ev.congr (fun k => (if_pos he.1).trans (if_neg (by omega))) hr)))))),hrc⟩
     ·have hf1:c.f0=1:=by
       apply Classical.byContradiction
       intro h
       rw [bare_text c hb h] at he
       exact he ⟨rfl,by simp⟩
      have h1:oneV p c=20:=by unfold oneV;rw [if_pos ⟨hb,hl⟩,if_pos ⟨hf1,he⟩]
      rw [h1,if_neg (by decide)]
      refine ⟨some ((i:Int) + 1,20),step _ (Ev.bind (pool_fields.ev c) (Ev.congr (fun k => if_pos hs) (Ev.bind (pool_leads.ev p c hfit.2) (Ev.congr (fun k => if_pos hl) (Ev.bind (text_Encode.ev c.f1 hfit.1) ?_))))),rfl⟩
      by_cases h0:(encV c.f1).2=0
      ·exact Ev.congr (fun k => (if_pos h0).trans (if_pos (by omega))) (Ev.now _)
      ·exact Ev.congr (fun k => if_neg h0) (Ev.now _)
    ·have h1:oneV p c=40:=by unfold oneV;rw [if_neg (fun h => hl h.2)]
     rw [h1,if_neg (by decide)]
     exact ⟨some ((i:Int) + 1,40),step _ (Ev.bind (pool_fields.ev c) (Ev.congr (fun k => if_pos hs) (Ev.bind (pool_leads.ev p c hfit.2) (Ev.congr (fun k => if_neg hl) (Ev.now _))))),rfl⟩
   ·have h1:oneV p c=40:=by
     unfold oneV
     rw [if_neg (fun h => hs ((same_bare p c h.2).2 h.1))]
    rw [h1,if_neg (by decide)]
    exact ⟨some ((i:Int) + 1,40),step _ (Ev.bind (pool_fields.ev c) (Ev.congr (fun k => if_neg hs) (Ev.now _))),rfl⟩
  ·refine ⟨none,stop i hi,?_⟩
   show (0:Int)=if i + 1 < p.length then _ else 0
   rw [if_neg hi]
theorem zeroV_iff (c:Cst):sameC c (0,⟨#[]⟩,0,0,0)=zeroV c:=by
 rw [Bool.eq_iff_iff,sameC_iff]
 unfold zeroV
 rw [decide_eq_true_eq,noBytes]
theorem pool_Check.ev (p:List Cst) (hp:∀ c ∈ p,FitC c):Ev (fun k => pool_Check.f k p) (checkV p):=by
 have key:∀ r,Ev (fun k => pool_check.f k p) r→Ev (fun k => pool_Check.f k p) (codeOf r):=fun r hr => Ev.bind hr (Ev.now _)
 unfold checkV
 by_cases c1:p.length > 1024
 ·rw [if_pos c1]
  exact key (some (0,2)) (Ev.congr (f:=fun _ => some (some (0,2))) (fun k => by unfold pool_check.f;rw [if_pos c1]) (Ev.now _))
 rw [if_neg c1]
 by_cases c2:p.length=0
 ·rw [if_pos c2]
  exact key (some (0,40)) (Ev.congr (f:=fun _ => some (some (0,40))) (fun k => by unfold pool_check.f;rw [if_neg c1,if_pos c2]) (Ev.now _))
 rw [if_neg c2]
 by_cases c3:zeroV (rd_T67 p 0)=true
 ·rw [if_pos c3]
  obtain ⟨r,hr,hrc⟩:=pool_check.ev_l p hp p.length 0 (by omega)
  have:=key r (Ev.congr (f:=fun k => pool_check.l0 k p 0) (fun k => by unfold pool_check.f;rw [if_neg c1,if_neg c2,zeroV_iff,if_pos c3]) hr)
  rw [hrc] at this
  exact this
 ·rw [if_neg c3]
  exact key (some (0,40)) (Ev.congr (f:=fun _ => some (some (0,40))) (fun k => by unfold pool_check.f;rw [if_neg c1,if_neg c2,zeroV_iff,if_neg c3]) (Ev.now _))
end Go.Proofs.YtbgniepcoaiinaaDoor.Px
namespace Go.Proofs.YtbgniepcoaiinaaDoor.Px
open Go.RowKit Go.Proofs.YtbgniepcoaiinaaDoorW.PrintWords Go.Proofs.YtbgniepcoaiinaaDoorW.PrintLast Go.Proofs.YtbgniepcoaiinaaDoorW.PrintMore
set_option linter.unusedVariables false
set_option linter.unusedSimpArgs false
def uV (bs:List Int) (p n:Nat):Int × Int × Nat:=(beV (rdL bs p n),rdE bs p n,rdP bs p n)
def twoV (bs:List Int) (p:Nat) (e:Int):Int × Int × Nat:=if e=0 then uV bs p 2 else (0,e,p)
def bodyV (bs:List Int) (t:Int) (p:Nat):Cst × Int × Nat :=
 if t=1 then
  (if (uV bs p 2).2.1=0 then
   (if (uV bs p 2).1 > 256 then (⟨t,⟨#[]⟩,0,0,0⟩,20,(uV bs p 2).2.2)
    else if rdE bs (uV bs p 2).2.2 (uV bs p 2).1.toNat=0 then (⟨t,(DecV (rdL bs (uV bs p 2).2.2 (uV bs p 2).1.toNat)).1,0,0,0⟩,(DecV (rdL bs (uV bs p 2).2.2 (uV bs p 2).1.toNat)).2,rdP bs (uV bs p 2).2.2 (uV bs p 2).1.toNat)
      else (⟨t,⟨#[]⟩,0,0,0⟩,rdE bs (uV bs p 2).2.2 (uV bs p 2).1.toNat,rdP bs (uV bs p 2).2.2 (uV bs p 2).1.toNat))
   else (⟨t,⟨#[]⟩,0,0,0⟩,(uV bs p 2).2.1,(uV bs p 2).2.2))
 else if t=3 then (⟨t,⟨#[]⟩,(iV bs p 4).1,0,0⟩,(iV bs p 4).2.1,(iV bs p 4).2.2)
 else if t=5 then (⟨t,⟨#[]⟩,(iV bs p 8).1,0,0⟩,(iV bs p 8).2.1,(iV bs p 8).2.2)
 else if t=7 then (⟨t,⟨#[]⟩,0,(uV bs p 2).1,0⟩,(uV bs p 2).2.1,(uV bs p 2).2.2)
 else if t=9 ∨ t=10 ∨ t=12 then (⟨t,⟨#[]⟩,0,(uV bs p 2).1,(twoV bs (uV bs p 2).2.2 (uV bs p 2).2.1).1⟩,(twoV bs (uV bs p 2).2.2 (uV bs p 2).2.1).2.1,(twoV bs (uV bs p 2).2.2 (uV bs p 2).2.1).2.2)
 else (⟨t,⟨#[]⟩,0,0,0⟩,40,p)
def constV (bs:List Int) (p:Nat):Cst × Int × Nat :=
 if (uV bs p 1).2.1=0 then bodyV bs (uV bs p 1).1 (uV bs p 1).2.2 else (⟨(uV bs p 1).1,⟨#[]⟩,0,0,0⟩,(uV bs p 1).2.1,(uV bs p 1).2.2)
theorem pow256_mono {a b:Nat} (h:a≤b):(256:Int) ^ a≤256 ^ b:=by
 have h1:=Int.ofNat_le.2 (Nat.pow_le_pow_right (n:=256) (by decide) h)
 rw [Int.natCast_pow,Int.natCast_pow] at h1
 exact h1
theorem beV_lt {l:List Int} (h:IsBytes l) {n:Nat} (hl:l.length≤n):0≤beV l∧beV l < 256 ^ n:=by
 have h1:=beV_range l h
 have h2:(256:Int) ^ l.length≤256 ^ n:=pow256_mono hl
 omega
theorem u1_range {bs:List Int} (h:IsBytes bs) (p:Nat):0≤(uV bs p 1).1∧(uV bs p 1).1 < 256:=beV_lt (n:=1) (rdL_bytes h p 1) (rdL_le bs p 1)
theorem u2_range {bs:List Int} (h:IsBytes bs) (p:Nat):0≤(uV bs p 2).1∧(uV bs p 2).1 < 65536:=beV_lt (n:=2) (rdL_bytes h p 2) (rdL_le bs p 2)
theorem uV.ev {bs:List Int} (hb:IsBytes bs) (p n:Nat) (h8:n≤8):Ev (fun k => rd_Uint.f k bs p n) (uV bs p n):=uint.ev bs hb p n h8
theorem pool_two.ev {bs:List Int} (hb:IsBytes bs) (p:Nat) (e:Int):Ev (fun k => pool_two.f k bs p e) (twoV bs p e):=by
 unfold pool_two.f twoV
 by_cases he:e=0
 ·rw [if_pos he]
  refine Ev.congr (fun k => if_pos he) (Ev.bind (uV.ev hb p 2 (by decide)) ?_)
  exact Ev.congr (fun k => if_pos (u2_range hb p)) (Ev.now _)
 ·rw [if_neg he]
  exact Ev.congr (fun k => if_neg he) (Ev.now _)
theorem twoV_zero (bs:List Int) (p:Nat):twoV bs p 0=uV bs p 2:=if_pos rfl
theorem pool_constant.ev {bs:List Int} (hb:IsBytes bs) (hl:bs.length≤140737488351232) (p:Nat):Ev (fun k => pool_constant.f k bs p) (constV bs p):=by
 unfold pool_constant.f constV
 refine Ev.bind (uV.ev hb p 1 (by decide)) ?_
 refine Ev.congr (fun k => if_pos (u1_range hb p)) ?_
 by_cases he:(uV bs p 1).2.1=0
 ·refine Ev.congr (fun k => if_pos he) ?_
  rw [if_pos he]
  generalize (uV bs p 1).1=t
  generalize (uV bs p 1).2.2=q
  unfold bodyV
  have e2:=twoV_zero bs q ▸ pool_two.ev hb q 0
  have h2:=u2_range hb q
  by_cases h1:t=1
  ·rw [if_pos h1]
   refine Ev.congr (fun k => if_pos h1) (Ev.bind e2 ?_)
   by_cases h0:(uV bs q 2).2.1=0
   ·rw [if_pos h0]
    refine Ev.congr (fun k => if_pos h0) ?_
    by_cases h3:(uV bs q 2).1 > 256
    ·rw [if_pos h3]
     exact Ev.congr (fun k => if_pos h3) (Ev.now _)
    rw [if_neg h3]
    refine Ev.congr (fun k => if_neg h3) ?_
    by_cases h4:rdE bs (uV bs q 2).2.2 (uV bs q 2).1.toNat=0
    ·rw [if_pos h4]
     refine Ev.congr (fun k => if_pos h4) (Ev.bind (text_Decode.ev _ (rdL_bytes hb _ _) (by have:=rdL_le bs (uV bs q 2).2.2 (uV bs q 2).1.toNat;omega)) (Ev.now _))
    ·rw [if_neg h4]
     exact Ev.congr (fun k => if_neg h4) (Ev.now _)
   ·rw [if_neg h0]
    exact Ev.congr (fun k => if_neg h0) (Ev.now _)
  rw [if_neg h1]
  refine Ev.congr (fun k => if_neg h1) ?_
  by_cases h3:t=3
  ·rw [if_pos h3]
   exact Ev.congr (fun k => if_pos h3) (Ev.bind (int.ev bs hb q 4 (by decide) (by decide)) (Ev.now _))
  rw [if_neg h3]
  refine Ev.congr (fun k => if_neg h3) ?_
  by_cases h5:t=5
  ·rw [if_pos h5]
   exact Ev.congr (fun k => if_pos h5) (Ev.bind (int.ev bs hb q 8 (by decide) (by decide)) (Ev.now _))
  rw [if_neg h5]
  refine Ev.congr (fun k => if_neg h5) ?_
  by_cases h7:t=7
  ·rw [if_pos h7]
   exact Ev.congr (fun k => if_pos h7) (Ev.bind e2 (Ev.now _))
  rw [if_neg h7]
  refine Ev.congr (fun k => if_neg h7) ?_
  by_cases h9:t=9 ∨ t=10 ∨ t=12
  ·rw [if_pos h9]
   exact Ev.congr (fun k => if_pos h9) (Ev.bind e2 (Ev.bind (pool_two.ev hb _ _) (Ev.now _)))
  ·rw [if_neg h9]
   exact Ev.congr (fun k => if_neg h9) (Ev.now _)
 ·rw [if_neg he]
  exact Ev.congr (fun k => if_neg he) (Ev.now _)
theorem intV_range {l:List Int} (h:IsBytes l) (h1:1≤l.length) (h8:l.length≤8):-9223372036854775808≤intV l∧intV l < 9223372036854775808:=by
 cases l with
 | nil => simp at h1
 | cons b t =>
  have hc:=h b List.mem_cons_self
  have ht:IsBytes t:=fun x hx => h x (List.mem_cons_of_mem _ hx)
  have hl:t.length≤7:=by simp at h8;omega
  have hr:=beV_range t ht
  have hp:=pow256 hl
  have hp1:1≤(256:Int) ^ t.length:=by omega
  rw [← intV_cons]
  generalize beV t=y at hr
  generalize (256:Int) ^ t.length=q at hr hp hp1
  have hs:-128 * q≤(if b < 128 then b else b - 256) * q∧(if b < 128 then b else b - 256) * q≤127 * q :=
   ⟨Int.mul_le_mul_of_nonneg_right (by split <;> omega) (by omega),Int.mul_le_mul_of_nonneg_right (by split <;> omega) (by omega)⟩
  omega
theorem wf_i64 {x:Int} (h:-9223372036854775808≤x∧x < 9223372036854775808):(Lit.int .i64 x).wf=true:=by
 simp [Lit.wf,IntKind.min,IntKind.max,IntKind.bits,IntKind.signed]
 omega
theorem iV_wf {bs:List Int} (h:IsBytes bs) (p n:Nat) (h1:1≤n) (h8:n≤8):(Lit.int .i64 (iV bs p n).1).wf=true:=by
 unfold iV
 by_cases hs:p + n≤bs.length
 ·rw [if_pos hs]
  have hl:=rdL_len hs
  exact wf_i64 (intV_range (rdL_bytes h p n) (by omega) (by omega))
 ·rw [if_neg hs];show (Lit.int .i64 0).wf=true;decide
theorem strOfNums_len (l:List Int):(strOfNums l).size=l.length:=by
 unfold strOfNums
 simp [ByteArray.size]
theorem DecV_len {L:List Int} (h:IsBytes L) (h0:(DecV L).2=0):(DecV L).1.size≤L.length:=by
 have e:decV (L.length + 1) L []=((DecV L).1,0):=by rw [← h0];rfl
 obtain ⟨X,_,ht,hx,_⟩:=enc_dec _ L [] _ h e
 rw [ht,strOfNums_len,List.nil_append]
 exact hx
theorem bodyV_fit {bs:List Int} (h:IsBytes bs) (t:Int) (p:Nat) (h0:(bodyV bs t p).2.1=0):FitC (bodyV bs t p).1:=by
 have hz:∀ t x y,FitC ⟨t,⟨#[]⟩,0,x,y⟩:=fun t x y => ⟨by show (⟨#[]⟩:ByteArray).size≤_;decide,by show (Lit.int .i64 0).wf=true;decide⟩
 have h2:=u2_range h p
 unfold bodyV at h0 ⊢
 by_cases h1:t=1
 ·rw [if_pos h1] at h0 ⊢
  by_cases h3:(uV bs p 2).2.1=0
  ·rw [if_pos h3] at h0 ⊢
   by_cases h4:(uV bs p 2).1 > 256
   ·rw [if_pos h4] at h0 ⊢;exact hz _ _ _
   rw [if_neg h4] at h0 ⊢
   by_cases h5:rdE bs (uV bs p 2).2.2 (uV bs p 2).1.toNat=0
   ·rw [if_pos h5] at h0 ⊢
    have hd:=DecV_len (rdL_bytes h (uV bs p 2).2.2 (uV bs p 2).1.toNat) h0
    have:=rdL_le bs (uV bs p 2).2.2 (uV bs p 2).1.toNat
    exact ⟨by show (DecV _).1.size≤_;omega,by show (Lit.int .i64 0).wf=true;decide⟩
   ·rw [if_neg h5] at h0 ⊢;exact hz _ _ _
  ·rw [if_neg h3] at h0 ⊢;exact hz _ _ _
 rw [if_neg h1]
 by_cases h3:t=3
 ·rw [if_pos h3]
  exact ⟨by show (⟨#[]⟩:ByteArray).size≤_;decide,iV_wf h p 4 (by decide) (by decide)⟩
 rw [if_neg h3]
 by_cases h5:t=5
 ·rw [if_pos h5]
  exact ⟨by show (⟨#[]⟩:ByteArray).size≤_;decide,iV_wf h p 8 (by decide) (by decide)⟩
 rw [if_neg h5]
 repeat' split
 all_goals exact hz _ _ _
def decL:Nat→List Int→Int→List Cst→Nat→List Cst × Int × Int
 | 0,_,_,_,_ => ([],0,0)
 | f + 1,bs,n,ps,p =>
  if (ps.length:Int) < n then (if (constV bs p).2.1=0 then decL f bs n (ps++[(constV bs p).1]) (constV bs p).2.2 else ([],0,(constV bs p).2.1))
  else if checkV ps=0 then (ps,(p:Int),0) else ([],0,checkV ps)
def decPV (bs:List Int):List Cst × Int × Int :=
 if (uV bs 0 2).2.1=0 then (if (uV bs 0 2).1 > 1024 then ([],0,2) else if (uV bs 0 2).1=0 then ([],0,40) else decL ((uV bs 0 2).1.toNat + 1) bs (uV bs 0 2).1 [z67] (uV bs 0 2).2.2) else ([],0,(uV bs 0 2).2.1)
theorem constV_fit {bs:List Int} (h:IsBytes bs) (p:Nat) (h0:(constV bs p).2.1=0):FitC (constV bs p).1:=by
 unfold constV at h0 ⊢
 by_cases he:(uV bs p 1).2.1=0
 ·rw [if_pos he] at h0 ⊢
  exact bodyV_fit h _ _ h0
 ·rw [if_neg he] at h0
  exact absurd h0 he
theorem pool_Decode.ev_l {bs:List Int} (hb:IsBytes bs) (hl:bs.length≤140737488351232) (n:Int) (hn:n≤1024):∀ (f:Nat) (ps:List Cst) (p:Nat),n≤ps.length + f→ps.length≤1024→(∀ c ∈ ps,FitC c)→Ev (fun k => pool_Decode.l0 k bs n ps p) (decL (f + 1) bs n ps p):=by
 have last:∀ (f:Nat) (ps:List Cst) (p:Nat),¬ (ps.length:Int) < n→(∀ c ∈ ps,FitC c)→Ev (fun k => pool_Decode.l0 k bs n ps p) (decL (f + 1) bs n ps p):=by
  intro f ps p hs hf
  refine Ev.step (fun k => by simp only [pool_Decode.l0];rw [if_neg hs]) ?_
  unfold decL
  rw [if_neg hs]
  refine Ev.bind (pool_Check.ev ps hf) ?_
  by_cases h0:checkV ps=0
  ·simp only [if_pos h0]
   exact Ev.now _
  ·simp only [if_neg h0]
   exact Ev.now _
 intro f
 induction f with
 | zero => intro ps p h hp hf;exact last 0 ps p (by omega) hf
 | succ f ih =>
  intro ps p h hp hf
  by_cases hs:(ps.length:Int) < n
  ·refine Ev.step (fun k => by simp only [pool_Decode.l0];rw [if_pos hs]) ?_
   rw [decL,if_pos hs]
   refine Ev.bind (pool_constant.ev hb hl p) ?_
   by_cases h0:(constV bs p).2.1=0
   ·rw [if_pos h0]
    refine Ev.congr (fun k => (if_pos h0).trans (if_pos (by omega))) ?_
    refine ih (ps++[(constV bs p).1]) (constV bs p).2.2 (by rw [List.length_append,List.length_singleton];omega) (by rw [List.length_append,List.length_singleton];omega) ?_
    intro c hc
    rcases List.mem_append.1 hc with hc|hc
    ·exact hf c hc
    ·rw [List.mem_singleton.1 hc]
     exact constV_fit hb p h0
   ·rw [if_neg h0]
    exact Ev.congr (fun k => if_neg h0) (Ev.now _)
  ·exact last (f + 1) ps p hs hf
theorem one_fit:∀ c ∈ [z67],FitC c:=fun c hc => by rw [List.mem_singleton.1 hc];exact fit_zero
theorem pool_Decode.ev {bs:List Int} (hb:IsBytes bs) (hl:bs.length≤140737488351232):Ev (fun k => pool_Decode.f k bs) (decPV bs):=by
 unfold pool_Decode.f decPV
 refine Ev.congr (fun k => if_pos (by omega)) ?_
 refine Ev.bind (uV.ev hb 0 2 (by decide)) ?_
 have h2:=u2_range hb 0
 refine Ev.congr (fun k => if_pos h2) ?_
 by_cases h0:(uV bs 0 2).2.1=0
 ·rw [if_pos h0]
  refine Ev.congr (fun k => if_pos h0) ?_
  by_cases h3:(uV bs 0 2).1 > 1024
  ·rw [if_pos h3]
   exact Ev.congr (fun k => if_pos h3) (Ev.now _)
  rw [if_neg h3]
  refine Ev.congr (fun k => if_neg h3) ?_
  by_cases h4:(uV bs 0 2).1=0
  ·rw [if_pos h4]
   exact Ev.congr (fun k => if_pos h4) (Ev.now _)
  rw [if_neg h4]
  refine Ev.congr (fun k => if_neg h4) ?_
  exact pool_Decode.ev_l hb hl _ (by omega) (uV bs 0 2).1.toNat [z67] (uV bs 0 2).2.2 (by simp;omega) (by simp) one_fit
 ·rw [if_neg h0]
  exact Ev.congr (fun k => if_neg h0) (Ev.now _)
end Go.Proofs.YtbgniepcoaiinaaDoor.Px
namespace Go.Proofs.YtbgniepcoaiinaaDoor.Px
open Go.RowKit Go.Proofs.YtbgniepcoaiinaaDoorW.PrintWords Go.Proofs.YtbgniepcoaiinaaDoorW.PrintLast Go.Proofs.YtbgniepcoaiinaaDoorW.PrintMore
set_option linter.unusedVariables false
set_option linter.unusedSimpArgs false
def classV (l:List Cst) (i:Int):ByteArray × Bool:=if isV l i 7=true then textV l (rd_T67 l i).f3 else (noText,false)
theorem pool_Class.eq (l:List Cst) (i:Int):pool_Class.f l i=some (classV l i):=by
 unfold pool_Class.f classV
 rw [pool_is.eq,Option.bind_some]
 by_cases h:isV l i 7=true
 ·have:=isV_pos h
  rw [if_pos h,if_pos h,if_pos (by omega),if_pos this.2.1,pool_Text.eq,Option.bind_some]
 ·rw [if_neg h,if_neg h];rfl
def txt (p:List Cst) (i:Int):Bool:=(textV p i).2
def cl (p:List Cst) (i:Int):Bool:=(classV p i).2
def flagsV (n:Int):Bool:=decide (n=0 ∨ n=8)
def placeG:Nat→List Cst→ByteArray→Nat→Int
 | 0,_,_,_ => 0
 | n + 1,p,s,i => if i < p.length then (if isV p (i:Int) 1=true∧(rd_T67 p (i:Int)).f1.toList=s.toList then (i:Int) else placeG n p s (i + 1)) else 0
def placeV (p:List Cst) (s:ByteArray):Int:=placeG p.length p s 1
def trapV (p:List Cst) (n:Int) (t:Trp):Bool :=
 if t.f0 < 0 then false else if t.f0 ≥ t.f1 then false else if t.f1 > n then false else if t.f2 < 0 ∨ t.f2 ≥ n then false else if t.f3=0 then true else cl p t.f3
def restV (p:List Cst) (m0 m1 m2 m3 m4:Int) (n mn:Nat):Bool :=
 flagsV m0 && (txt p m1 && txt p m2) && decide (0≤m3∧m3≤64) && decide (0≤m4∧m4≤64) && decide (1≤n∧n≤4096) && decide (mn≤4096) && decide (placeV p sCode > 0) && (decide (mn=0) || decide (placeV p sMaps > 0))
def fieldV (p:List Cst) (f:Fld):Bool:=flagsV f.f0 && (txt p f.f1 && txt p f.f2)
def methV (p:List Cst) (m:Mth):Bool:=m.f6.all (trapV p m.f5.length) && restV p m.f0 m.f1 m.f2 m.f3 m.f4 m.f5.length m.f7.length
def longV (x:Int) (ms:List Mth):Bool:=decide (x > 64) || ms.any (fun m => decide ((m.f6.length:Int) > 64))
def fineV (fine:Bool):Int:=if fine=true then 0 else 50
def classCheckV (p:List Cst) (this super:Int) (fs:List Fld) (ms:List Mth):Int :=
 if checkV p=0 then (if longV (mx (fs.length:Int) (ms.length:Int)) ms=true then 2 else fineV ((cl p this && cl p super) && fs.all (fieldV p) && ms.all (methV p))) else checkV p
section
variable {α:Type} {xs:List α} {z:α}
theorem drop_getD (i:Nat) (h:i < xs.length):xs.drop i=xs.getD i z :: xs.drop (i + 1):=by
 rw [List.drop_eq_getElem_cons h,List.getD_eq_getElem?_getD,List.getElem?_eq_getElem h]
 rfl
end
theorem flags_iff (a:Int) (h0:-9223372036854775808≤a) (h1:a≤9223372036854775807):(Go.bits .andNot .i64 a 8==0)=decide (a=0 ∨ a=8):=by
 rw [Bool.eq_iff_iff,beq_iff_eq,decide_eq_true_eq]
 constructor
 ·intro h
  have h2:IntKind.i64.wrap ((BitVec.ofInt 64 a &&& ~~~BitVec.ofInt 64 8).toNat:Int)=0:=h
  rw [i64_w] at h2
  have hlt:=(BitVec.ofInt 64 a &&& ~~~BitVec.ofInt 64 8).isLt
  have h3:(BitVec.ofInt 64 a &&& ~~~BitVec.ofInt 64 8).toNat=0:=by unfold wrap64 at h2;omega
  have h4:BitVec.ofInt 64 a &&& ~~~BitVec.ofInt 64 8=0#64:=BitVec.eq_of_toNat_eq h3
  have h8:BitVec.ofInt 64 8=BitVec.twoPow 64 3:=by decide
  have hx:∀ x t:BitVec 64,x=(x &&& ~~~t) ||| (x &&& t):=by
   intro x t
   ext i hi
   simp only [BitVec.getElem_or,BitVec.getElem_and,BitVec.getElem_not]
   cases x[i] <;> cases t[i] <;> rfl
  have h5:=hx (BitVec.ofInt 64 a) (BitVec.ofInt 64 8)
  rw [h4,h8,BitVec.and_twoPow,BitVec.zero_or] at h5
  have h6:=congrArg BitVec.toNat h5
  rw [BitVec.toNat_ofInt] at h6
  split at h6
  ·have:(BitVec.twoPow 64 3).toNat=8:=by decide
   omega
  ·have:(0#64).toNat=0:=rfl
   omega
 ·rintro (rfl|rfl) <;> decide
theorem flags.eq (n:Int) (h:(Lit.int .i64 n).wf=true):class_flags.f n=some (flagsV n):=by
 simp [Lit.wf,IntKind.min,IntKind.max,IntKind.bits,IntKind.signed] at h
 unfold class_flags.f flagsV
 rw [flags_iff n (by omega) (by omega)]
theorem within.eq (a b:Int):class_within.f a b=some (decide (0≤a∧a≤b)):=by
 unfold class_within.f
 by_cases h:a ≥ 0
 ·rw [if_pos h]
  congr 1
  rw [Bool.eq_iff_iff,decide_eq_true_eq,decide_eq_true_eq]
  omega
 ·rw [if_neg h,decide_eq_false (by omega)]
theorem rules_text.ev_l (p:List Cst) (l:List Int) (hl:l.length≤1048576):∀ n (i:Nat),l.length≤i + n→Ev (fun k => class_rules_text.l0 k l (l.length:Int) (i:Int) p) ((l.drop i).all (txt p)):=by
 have stop:∀ i:Nat,¬ i < l.length→Ev (fun k => class_rules_text.l0 k l (l.length:Int) (i:Int) p) ((l.drop i).all (txt p)):=fun i hi => by
  rw [List.drop_eq_nil_of_le (by omega)]
  exact Ev.step (f:=fun _ => some true) (fun k => by simp only [class_rules_text.l0];rw [if_neg (by omega)]) (Ev.now _)
 intro n
 induction n with
 | zero => intro i h;exact stop i (by omega)
 | succ n ih =>
  intro i h
  by_cases hi:i < l.length
  ·rw [drop_getD (z:=(0:Int)) i hi,List.all_cons]
   have e:rd l (i:Int)=l.getD i 0:=by unfold rd;rw [Int.toNat_natCast]
   have et:(textV p (l.getD i 0)).2=txt p (l.getD i 0):=rfl
   refine Ev.step (f:=fun k => if txt p (l.getD i 0)=true then class_rules_text.l0 k l (l.length:Int) ((i + 1:Nat):Int) p else some false) (fun k => ?_) ?_
   ·simp only [class_rules_text.l0,pool_Text.eq,Option.bind_some,e,et]
    rw [if_pos (by omega),if_pos (by omega),if_pos (by omega),w64 (by omega) (by omega)]
    rfl
   ·cases ht:txt p (l.getD i 0)
    ·exact Ev.congr (fun k => if_neg (by simp)) (Ev.now _)
    ·exact Ev.congr (fun k => if_pos rfl) (ih (i + 1) (by omega))
  ·exact stop i hi
theorem rules_text.ev2 (p:List Cst) (a b:Int):Ev (fun k => class_rules_text.f k p [a,b]) (txt p a && txt p b):=by
 have h:=rules_text.ev_l p [a,b] (by simp) 2 0 (by simp)
 simp only [List.drop_zero,List.all_cons,List.all_nil,Bool.and_true] at h
 exact h
theorem rules_class.ev_l (p:List Cst) (l:List Int) (hl:l.length≤1048576):∀ n (i:Nat),l.length≤i + n→Ev (fun k => class_rules_class.l0 k l (l.length:Int) (i:Int) p) ((l.drop i).all (cl p)):=by
 have stop:∀ i:Nat,¬ i < l.length→Ev (fun k => class_rules_class.l0 k l (l.length:Int) (i:Int) p) ((l.drop i).all (cl p)):=fun i hi => by
  rw [List.drop_eq_nil_of_le (by omega)]
  exact Ev.step (f:=fun _ => some true) (fun k => by simp only [class_rules_class.l0];rw [if_neg (by omega)]) (Ev.now _)
 intro n
 induction n with
 | zero => intro i h;exact stop i (by omega)
 | succ n ih =>
  intro i h
  by_cases hi:i < l.length
  ·rw [drop_getD (z:=(0:Int)) i hi,List.all_cons]
   have e:rd l (i:Int)=l.getD i 0:=by unfold rd;rw [Int.toNat_natCast]
   have et:(classV p (l.getD i 0)).2=cl p (l.getD i 0):=rfl
   refine Ev.step (f:=fun k => if cl p (l.getD i 0)=true then class_rules_class.l0 k l (l.length:Int) ((i + 1:Nat):Int) p else some false) (fun k => ?_) ?_
   ·simp only [class_rules_class.l0,pool_Class.eq,Option.bind_some,e,et]
    rw [if_pos (by omega),if_pos (by omega),if_pos (by omega),w64 (by omega) (by omega)]
    rfl
   ·cases ht:cl p (l.getD i 0)
    ·exact Ev.congr (fun k => if_neg (by simp)) (Ev.now _)
    ·exact Ev.congr (fun k => if_pos rfl) (ih (i + 1) (by omega))
  ·exact stop i hi
theorem rules_class.ev2 (p:List Cst) (a b:Int):Ev (fun k => class_rules_class.f k p [a,b]) (cl p a && cl p b):=by
 have h:=rules_class.ev_l p [a,b] (by simp) 2 0 (by simp)
 simp only [List.drop_zero,List.all_cons,List.all_nil,Bool.and_true] at h
 exact h
theorem rules_class.ev1 (p:List Cst) (a:Int):Ev (fun k => class_rules_class.f k p [a]) (cl p a):=by
 have h:=rules_class.ev_l p [a] (by simp) 1 0 (by simp)
 simp only [List.drop_zero,List.all_cons,List.all_nil,Bool.and_true] at h
 exact h
theorem place.ev_l (p:List Cst) (s:ByteArray) (hl:p.length≤1048576):∀ n (i:Nat),p.length≤i + n→Ev (fun k => class_place.l0 k p s (p.length:Int) (i:Int)) (placeG n p s i):=by
 have stop:∀ i:Nat,¬ i < p.length→Ev (fun k => class_place.l0 k p s (p.length:Int) (i:Int)) 0:=fun i hi => Ev.step (f:=fun _ => some 0) (fun k => by simp only [class_place.l0];rw [if_neg (by omega)]) (Ev.now _)
 intro n
 induction n with
 | zero => intro i h;exact stop i (by omega)
 | succ n ih =>
  intro i h
  show Ev _ (if i < p.length then _ else _)
  by_cases hi:i < p.length
  ·rw [if_pos hi]
   refine Ev.step (f:=fun k => if isV p (i:Int) 1=true∧(rd_T67 p (i:Int)).f1.toList=s.toList then some (i:Int) else class_place.l0 k p s (p.length:Int) ((i + 1:Nat):Int)) (fun k => ?_) ?_
   ·simp only [class_place.l0,pool_Text.eq,Option.bind_some]
    rw [if_pos (by omega),w64 (by omega) (by omega)]
    unfold textV
    by_cases hv:isV p (i:Int) 1=true
    ·rw [if_pos hv,if_pos rfl]
     by_cases hs:(rd_T67 p (i:Int)).f1.toList=s.toList
     ·rw [if_pos hs,if_pos ⟨hv,hs⟩]
     ·rw [if_neg hs,if_neg (fun h => hs h.2)];rfl
    ·rw [if_neg hv,if_neg (by simp),if_neg (fun h => hv h.1)];rfl
   ·by_cases hc:isV p (i:Int) 1=true∧(rd_T67 p (i:Int)).f1.toList=s.toList
    ·rw [if_pos hc];exact Ev.congr (fun k => if_pos hc) (Ev.now _)
    ·rw [if_neg hc];exact Ev.congr (fun k => if_neg hc) (ih (i + 1) (by omega))
  ·rw [if_neg hi];exact stop i hi
theorem place.ev (p:List Cst) (s:ByteArray) (hl:p.length≤1048576):Ev (fun k => class_place.f k p s) (placeV p s):=by
 have h:=place.ev_l p s hl (p.length + 1) 0 (by omega)
 have e:placeG (p.length + 1) p s 0=placeV p s:=by
  show (if 0 < p.length then (if isV p ((0:Nat):Int) 1=true∧_ then _ else placeG p.length p s 1) else 0)=placeG p.length p s 1
  have hv:¬ isV p ((0:Nat):Int) 1=true:=by unfold isV;simp
  by_cases h0:0 < p.length
  ·rw [if_pos h0,if_neg (fun h => hv h.1)]
  ·rw [if_neg h0,show p.length=0 by omega];rfl
 rw [e] at h
 exact h
end Go.Proofs.YtbgniepcoaiinaaDoor.Px
namespace Go.Proofs.YtbgniepcoaiinaaDoor.Px
open Go.RowKit Go.Proofs.YtbgniepcoaiinaaDoorW.PrintWords Go.Proofs.YtbgniepcoaiinaaDoorW.PrintLast Go.Proofs.YtbgniepcoaiinaaDoorW.PrintMore
set_option linter.unusedVariables false
set_option linter.unusedSimpArgs false
def FitM (m:Mth):Prop:=(Lit.int .i64 m.f0).wf=true∧m.f5.length≤1048576∧m.f6.length≤1048576∧m.f7.length≤1048576
def FitF (f:Fld):Prop:=(Lit.int .i64 f.f0).wf=true
theorem rest.ev (p:List Cst) (hl:p.length≤1048576) (m0 m1 m2 m3 m4:Int) (n mn:Nat) (hw:(Lit.int .i64 m0).wf=true) (hn:n≤1048576) (hm:mn≤1048576) :
  Ev (fun k => (class_flags.f m0).bind fun t151 => (if t151=true then ((class_rules_text.f k p (([m1,m2]:List Int))).bind fun t155 => (if t155=true then ((class_within.f m3 64).bind fun t156 => (if t156=true then ((class_within.f m4 64).bind fun t157 => (if t157=true then ((class_within.f (wrap64 ((n:Int) - 1)) 4095).bind fun t158 => (if t158=true then (if (mn:Int)≤4096 then ((class_place.f k p (⟨#[67,111,100,101]⟩:ByteArray)).bind fun t159 => (if t159 > 0 then (if (mn:Int)=0 then (some true) else ((class_place.f k p (⟨#[83,116,97,99,107,77,97,112,84,97,98,108,101]⟩:ByteArray)).bind fun t160 => (some (decide (t160 > 0))))) else (some false))) else (some false)) else (some false))) else (some false))) else (some false))) else (some false))) else (some false))) (restV p m0 m1 m2 m3 m4 n mn):=by
 simp only [flags.eq _ hw,within.eq,Option.bind_some]
 have hwn:wrap64 ((n:Int) - 1)=(n:Int) - 1:=w64 (by omega) (by omega)
 rw [hwn]
 have no:∀ {x:Bool},x=false→Ev (fun _ => some false) x:=fun h => h ▸ Ev.now _
 by_cases a:flagsV m0=true
 ·refine Ev.congr (fun k => if_pos a) (Ev.bind (rules_text.ev2 p m1 m2) ?_)
  by_cases b:(txt p m1 && txt p m2)=true
  ·refine Ev.congr (fun k => if_pos b) ?_
   by_cases c:decide (0≤m3∧m3≤64)=true
   ·refine Ev.congr (fun k => if_pos c) ?_
    by_cases d:decide (0≤m4∧m4≤64)=true
    ·refine Ev.congr (fun k => if_pos d) ?_
     by_cases e:decide (0≤(n:Int) - 1∧(n:Int) - 1≤4095)=true
     ·have e2:decide (1≤n∧n≤4096)=true:=by rw [decide_eq_true_eq] at e ⊢;omega
      refine Ev.congr (fun k => if_pos e) ?_
      by_cases f:(mn:Int)≤4096
      ·have f2:decide (mn≤4096)=true:=decide_eq_true (by omega)
       refine Ev.congr (fun k => if_pos f) (Ev.bind (place.ev p _ hl) ?_)
       by_cases g:placeV p sCode > 0
       ·refine Ev.congr (fun k => if_pos g) ?_
        by_cases h:(mn:Int)=0
        ·have h2:decide (mn=0)=true:=decide_eq_true (by omega)
         refine Ev.congr (fun k => if_pos h) ?_
         have:restV p m0 m1 m2 m3 m4 n mn=true:=by unfold restV;rw [a,b,c,d,e2,f2,h2,decide_eq_true g];rfl
         rw [this];exact Ev.now _
        ·have h2:decide (mn=0)=false:=decide_eq_false (by omega)
         refine Ev.congr (fun k => if_neg h) (Ev.bind (place.ev p _ hl) ?_)
         have:restV p m0 m1 m2 m3 m4 n mn=decide (placeV p sMaps > 0):=by unfold restV;rw [a,b,c,d,e2,f2,h2,decide_eq_true g];rfl
         rw [this];exact Ev.now _
       ·exact Ev.congr (fun k => if_neg g) (no (by unfold restV;rw [decide_eq_false g];simp))
      ·exact Ev.congr (fun k => if_neg f) (no (by unfold restV;rw [decide_eq_false (show ¬ mn≤4096 by omega)];simp))
     ·exact Ev.congr (fun k => if_neg e) (no (by unfold restV;rw [decide_eq_false (show ¬ (1≤n∧n≤4096) by rw [decide_eq_true_eq] at e;omega)];simp))
    ·exact Ev.congr (fun k => if_neg d) (no (by unfold restV;rw [Bool.eq_false_iff.2 d];simp))
   ·exact Ev.congr (fun k => if_neg c) (no (by unfold restV;rw [Bool.eq_false_iff.2 c];simp))
  ·exact Ev.congr (fun k => if_neg b) (no (by unfold restV;rw [Bool.eq_false_iff.2 b];simp))
 ·exact Ev.congr (fun k => if_neg a) (no (by unfold restV;rw [Bool.eq_false_iff.2 a];simp))
section
variable (p:List Cst) (hl:p.length≤1048576) (m:Mth) (hm:FitM m)
include hl hm
theorem meth.ev_l:∀ d (i:Nat),m.f6.length≤i + d→Ev (fun k => class_rules_method.l0 k (m.f5.length:Int) m.f6 (m.f6.length:Int) (i:Int) p m.f0 m.f1 m.f2 m.f3 m.f4 m.f5 m.f6 m.f7) ((m.f6.drop i).all (trapV p m.f5.length) && restV p m.f0 m.f1 m.f2 m.f3 m.f4 m.f5.length m.f7.length):=by
 obtain ⟨hw,h5,h6,h7⟩:=hm
 have stop:∀ i:Nat,¬ i < m.f6.length→Ev (fun k => class_rules_method.l0 k (m.f5.length:Int) m.f6 (m.f6.length:Int) (i:Int) p m.f0 m.f1 m.f2 m.f3 m.f4 m.f5 m.f6 m.f7) ((m.f6.drop i).all (trapV p m.f5.length) && restV p m.f0 m.f1 m.f2 m.f3 m.f4 m.f5.length m.f7.length):=fun i hi => by
  rw [List.drop_eq_nil_of_le (by omega),List.all_nil,Bool.true_and]
  exact Ev.step (fun k => by simp only [class_rules_method.l0];rw [if_neg (by omega)]) (rest.ev p hl m.f0 m.f1 m.f2 m.f3 m.f4 m.f5.length m.f7.length hw h5 h7)
 intro d
 induction d with
 | zero => intro i h;exact stop i (by omega)
 | succ d ih =>
  intro i h
  by_cases hi:i < m.f6.length
  ·obtain ⟨t,ht⟩:∃ t,t=rd_T82 m.f6 (i:Int):=⟨_,rfl⟩
   have hd:m.f6.drop i=t :: m.f6.drop (i + 1):=by
    rw [drop_getD (z:=z82) i hi,ht]
    unfold rd_T82
    rw [Int.toNat_natCast]
   have j1:∀ b:Bool,Ev (fun k => class_rules_method.j1 k (m.f5.length:Int) m.f6 (m.f6.length:Int) (i:Int) b p m.f0 m.f1 m.f2 m.f3 m.f4 m.f5 m.f6 m.f7) (!b && ((m.f6.drop (i + 1)).all (trapV p m.f5.length) && restV p m.f0 m.f1 m.f2 m.f3 m.f4 m.f5.length m.f7.length)):=by
    intro b
    cases b with
    | true => exact Ev.step (f:=fun _ => some false) (fun k => by simp only [class_rules_method.j1];rw [if_pos trivial]) (Ev.now _)
    | false =>
     rw [Bool.not_false,Bool.true_and]
     refine Ev.step (fun k => ?_) (ih (i + 1) (by omega))
     simp only [class_rules_method.j1]
     rw [if_neg (by simp),w64 (by omega) (by omega)]
     rfl
   have hwn:wrap64 ((m.f5.length:Int) - 1)=(m.f5.length:Int) - 1:=w64 (by omega) (by omega)
   have pre:(i:Int) < (m.f6.length:Int):=by omega
   have pre0:(0:Int)≤(i:Int):=by omega
   rw [hd,List.all_cons,Bool.and_assoc]
   have bad:trapV p m.f5.length t=false→(∀ k,class_rules_method.l0 (k + 1) (m.f5.length:Int) m.f6 (m.f6.length:Int) (i:Int) p m.f0 m.f1 m.f2 m.f3 m.f4 m.f5 m.f6 m.f7=class_rules_method.j1 k (m.f5.length:Int) m.f6 (m.f6.length:Int) (i:Int) true p m.f0 m.f1 m.f2 m.f3 m.f4 m.f5 m.f6 m.f7)→Ev (fun k => class_rules_method.l0 k (m.f5.length:Int) m.f6 (m.f6.length:Int) (i:Int) p m.f0 m.f1 m.f2 m.f3 m.f4 m.f5 m.f6 m.f7) (trapV p m.f5.length t && ((m.f6.drop (i + 1)).all (trapV p m.f5.length) && restV p m.f0 m.f1 m.f2 m.f3 m.f4 m.f5.length m.f7.length)):=by
    intro e hk
    rw [e,Bool.false_and]
    exact Ev.step hk (j1 true)
   by_cases c1:t.f0 < 0
   ·exact bad (by unfold trapV;rw [if_pos c1]) (fun k => by simp only [class_rules_method.l0,← ht];rw [if_pos pre,if_pos pre0,if_pos pre,if_pos c1])
   by_cases c2:t.f0 ≥ t.f1
   ·exact bad (by unfold trapV;rw [if_neg c1,if_pos c2]) (fun k => by simp only [class_rules_method.l0,← ht];rw [if_pos pre,if_pos pre0,if_pos pre,if_neg c1,if_pos c2])
   by_cases c3:t.f1 > (m.f5.length:Int)
   ·exact bad (by unfold trapV;rw [if_neg c1,if_neg c2,if_pos c3]) (fun k => by simp only [class_rules_method.l0,← ht];rw [if_pos pre,if_pos pre0,if_pos pre,if_neg c1,if_neg c2,if_pos c3])
   by_cases c4:t.f2 < 0 ∨ t.f2 ≥ (m.f5.length:Int)
   ·refine bad (by unfold trapV;rw [if_neg c1,if_neg c2,if_neg c3,if_pos c4]) (fun k => ?_)
    simp only [class_rules_method.l0,← ht,within.eq,Option.bind_some,hwn]
    rw [if_pos pre,if_pos pre0,if_pos pre,if_neg c1,if_neg c2,if_neg c3,if_neg (by rw [decide_eq_true_eq];omega)]
   have c4b:decide (0≤t.f2∧t.f2≤(m.f5.length:Int) - 1)=true:=decide_eq_true (by omega)
   by_cases c5:t.f3=0
   ·have e:trapV p m.f5.length t=true:=by unfold trapV;rw [if_neg c1,if_neg c2,if_neg c3,if_neg c4,if_pos c5]
    rw [e]
    refine Ev.step (fun k => ?_) (j1 false)
    simp only [class_rules_method.l0,← ht,within.eq,Option.bind_some,hwn]
    rw [if_pos pre,if_pos pre0,if_pos pre,if_neg c1,if_neg c2,if_neg c3,if_pos c4b,if_pos c5]
   ·have e:trapV p m.f5.length t=cl p t.f3:=by unfold trapV;rw [if_neg c1,if_neg c2,if_neg c3,if_neg c4,if_neg c5]
    rw [e]
    have hj:=j1 (!(cl p t.f3))
    rw [Bool.not_not] at hj
    refine Ev.step (f:=fun k => (class_rules_class.f k p [t.f3]).bind fun t150 => class_rules_method.j1 k (m.f5.length:Int) m.f6 (m.f6.length:Int) (i:Int) (!t150) p m.f0 m.f1 m.f2 m.f3 m.f4 m.f5 m.f6 m.f7) (fun k => ?_) (Ev.bind (rules_class.ev1 p t.f3) hj)
    simp only [class_rules_method.l0,← ht,within.eq,Option.bind_some,hwn]
    rw [if_pos pre,if_pos pre0,if_pos pre,if_neg c1,if_neg c2,if_neg c3,if_pos c4b,if_neg c5]
  ·exact stop i hi
theorem meth.ev:Ev (fun k => class_rules_method.f k p m.f0 m.f1 m.f2 m.f3 m.f4 m.f5 m.f6 m.f7) (methV p m):=meth.ev_l p hl m hm m.f6.length 0 (by omega)
end
section
variable (p:List Cst) (hl:p.length≤1048576) (this super:Int) (fs:List Fld) (ms:List Mth) (hfl:fs.length≤1048576) (hml:ms.length≤1048576) (hf:∀ f ∈ fs,FitF f) (hm:∀ m ∈ ms,FitM m)
include hl hfl hml hf hm
theorem cc.ev_l2:∀ d (i:Nat) (b:Bool),ms.length≤i + d→Ev (fun k => class_Check.l2 k b ms (ms.length:Int) (i:Int) p) (fineV (b && (ms.drop i).all (methV p))):=by
 have _u:=And.intro hfl hf
 have stop:∀ (i:Nat) (b:Bool),¬ i < ms.length→Ev (fun k => class_Check.l2 k b ms (ms.length:Int) (i:Int) p) (fineV (b && (ms.drop i).all (methV p))):=fun i b hi => by
  rw [List.drop_eq_nil_of_le (by omega),List.all_nil,Bool.and_true]
  refine Ev.step (f:=fun _ => some (fineV b)) (fun k => ?_) (Ev.now _)
  simp only [class_Check.l2]
  rw [if_neg (by omega)]
  cases b <;> rfl
 intro d
 induction d with
 | zero => intro i b h;exact stop i b (by omega)
 | succ d ih =>
  intro i b h
  by_cases hi:i < ms.length
  ·obtain ⟨m,he⟩:∃ m,m=rd_T56 ms (i:Int):=⟨_,rfl⟩
   have hd:ms.drop i=m :: ms.drop (i + 1):=by
    rw [drop_getD (z:=z56) i hi,he]
    unfold rd_T56
    rw [Int.toNat_natCast]
   have hmm:m ∈ ms:=List.mem_of_mem_drop (hd ▸ List.mem_cons_self:m ∈ ms.drop i)
   rw [hd,List.all_cons]
   cases b with
   | true =>
    refine Ev.step (f:=fun k => (class_rules_method.f k p m.f0 m.f1 m.f2 m.f3 m.f4 m.f5 m.f6 m.f7).bind fun t179 => class_Check.l2 k t179 ms (ms.length:Int) ((i + 1:Nat):Int) p) (fun k => ?_) (Ev.bind (meth.ev p hl m (hm m hmm)) ?_)
    ·simp only [class_Check.l2,← he]
     rw [if_pos (by omega),if_pos (by omega),if_pos (by omega),if_pos trivial,w64 (by omega) (by omega)]
     rfl
    ·have:=ih (i + 1) (methV p m) (by omega)
     rw [Bool.true_and]
     exact this
   | false =>
    refine Ev.step (f:=fun k => class_Check.l2 k false ms (ms.length:Int) ((i + 1:Nat):Int) p) (fun k => ?_) ?_
    ·simp only [class_Check.l2]
     rw [if_pos (by omega),if_pos (by omega),if_pos (by omega),if_neg (by simp),w64 (by omega) (by omega)]
     rfl
    ·have:=ih (i + 1) false (by omega)
     rw [Bool.false_and] at this ⊢
     exact this
  ·exact stop i b hi
theorem cc.ev_l1:∀ d (i:Nat) (b:Bool),fs.length≤i + d→Ev (fun k => class_Check.l1 k b fs (fs.length:Int) (i:Int) p this super fs ms p) (fineV (b && (fs.drop i).all (fieldV p) && ms.all (methV p))):=by
 have stop:∀ (i:Nat) (b:Bool),¬ i < fs.length→Ev (fun k => class_Check.l1 k b fs (fs.length:Int) (i:Int) p this super fs ms p) (fineV (b && (fs.drop i).all (fieldV p) && ms.all (methV p))):=fun i b hi => by
  rw [List.drop_eq_nil_of_le (by omega),List.all_nil,Bool.and_true]
  have h2:=cc.ev_l2 p hl fs ms hfl hml hf hm ms.length 0 b (by omega)
  exact Ev.step (fun k => by simp only [class_Check.l1];rw [if_neg (by omega)];rfl) h2
 intro d
 induction d with
 | zero => intro i b h;exact stop i b (by omega)
 | succ d ih =>
  intro i b h
  by_cases hi:i < fs.length
  ·obtain ⟨f,he⟩:∃ f,f=rd_T53 fs (i:Int):=⟨_,rfl⟩
   have hd:fs.drop i=f :: fs.drop (i + 1):=by
    rw [drop_getD (z:=z53) i hi,he]
    unfold rd_T53
    rw [Int.toNat_natCast]
   have hff:f ∈ fs:=List.mem_of_mem_drop (hd ▸ List.mem_cons_self:f ∈ fs.drop i)
   rw [hd,List.all_cons]
   have goF:∀ k,class_Check.l1 (k + 1) false fs (fs.length:Int) (i:Int) p this super fs ms p=class_Check.l1 k false fs (fs.length:Int) ((i + 1:Nat):Int) p this super fs ms p:=fun k => by
    simp only [class_Check.l1]
    rw [if_pos (by omega),if_pos (by omega),if_pos (by omega),if_neg (by simp),w64 (by omega) (by omega)]
    rfl
   cases b with
   | true =>
    rw [Bool.true_and]
    by_cases hfl2:flagsV f.f0=true
    ·refine Ev.step (f:=fun k => (class_rules_text.f k p [f.f1,f.f2]).bind fun t176 => class_Check.l1 k t176 fs (fs.length:Int) ((i + 1:Nat):Int) p this super fs ms p) (fun k => ?_) (Ev.bind (rules_text.ev2 p f.f1 f.f2) ?_)
     ·simp only [class_Check.l1,← he,flags.eq _ (hf f hff),Option.bind_some]
      rw [if_pos (by omega),if_pos (by omega),if_pos (by omega),if_pos trivial,if_pos hfl2,w64 (by omega) (by omega)]
      rfl
     ·have:=ih (i + 1) (txt p f.f1 && txt p f.f2) (by omega)
      have e:fieldV p f=(txt p f.f1 && txt p f.f2):=by unfold fieldV;rw [hfl2,Bool.true_and]
      rw [e]
      exact this
    ·refine Ev.step (f:=fun k => class_Check.l1 k false fs (fs.length:Int) ((i + 1:Nat):Int) p this super fs ms p) (fun k => ?_) ?_
     ·simp only [class_Check.l1,← he,flags.eq _ (hf f hff),Option.bind_some]
      rw [if_pos (by omega),if_pos (by omega),if_pos (by omega),if_pos trivial,if_neg hfl2,w64 (by omega) (by omega)]
      rfl
     ·have:=ih (i + 1) false (by omega)
      have e:fieldV p f=false:=by unfold fieldV;rw [Bool.eq_false_iff.2 hfl2,Bool.false_and]
      rw [Bool.false_and] at this
      rw [e,Bool.false_and]
      exact this
   | false =>
    refine Ev.step goF ?_
    have:=ih (i + 1) false (by omega)
    rw [Bool.false_and] at this ⊢
    exact this
  ·exact stop i b hi
theorem cc.ev_l0:∀ d (i:Nat) (x:Int),ms.length≤i + d→Ev (fun k => class_Check.l0 k x ms (ms.length:Int) (i:Int) p this super fs ms) (if longV x (ms.drop i)=true then 2 else fineV ((cl p this && cl p super) && fs.all (fieldV p) && ms.all (methV p))):=by
 have stop:∀ (i:Nat) (x:Int),¬ i < ms.length→Ev (fun k => class_Check.l0 k x ms (ms.length:Int) (i:Int) p this super fs ms) (if longV x (ms.drop i)=true then 2 else fineV ((cl p this && cl p super) && fs.all (fieldV p) && ms.all (methV p))):=fun i x hi => by
  rw [List.drop_eq_nil_of_le (by omega)]
  unfold longV
  rw [List.any_nil,Bool.or_false]
  by_cases hx:x > 64
  ·rw [decide_eq_true hx,if_pos rfl]
   exact Ev.step (f:=fun _ => some 2) (fun k => by simp only [class_Check.l0];rw [if_neg (by omega),if_pos hx]) (Ev.now _)
  ·rw [decide_eq_false hx,if_neg (by simp)]
   refine Ev.step (f:=fun k => (class_rules_class.f k p [this,super]).bind fun t169 => class_Check.l1 k t169 fs (fs.length:Int) ((0:Nat):Int) p this super fs ms p) (fun k => by simp only [class_Check.l0];rw [if_neg (by omega),if_neg hx];rfl) (Ev.bind (rules_class.ev2 p this super) ?_)
   have:=cc.ev_l1 p hl this super fs ms hfl hml hf hm fs.length 0 (cl p this && cl p super) (by omega)
   rw [List.drop_zero] at this
   exact this
 intro d
 induction d with
 | zero => intro i x h;exact stop i x (by omega)
 | succ d ih =>
  intro i x h
  by_cases hi:i < ms.length
  ·obtain ⟨m,he⟩:∃ m,m=rd_T56 ms (i:Int):=⟨_,rfl⟩
   have hd:ms.drop i=m :: ms.drop (i + 1):=by
    rw [drop_getD (z:=z56) i hi,he]
    unfold rd_T56
    rw [Int.toNat_natCast]
   have e:longV x (ms.drop i)=longV (mx x (m.f6.length:Int)) (ms.drop (i + 1)):=by
    unfold longV
    rw [hd,List.any_cons,← Bool.or_assoc]
    congr 1
    rw [Bool.eq_iff_iff]
    simp only [Bool.or_eq_true,decide_eq_true_eq]
    unfold mx
    split <;> omega
   rw [e]
   refine Ev.step (fun k => ?_) (ih (i + 1) (mx x (m.f6.length:Int)) (by omega))
   simp only [class_Check.l0,← he]
   rw [if_pos (by omega),if_pos (by omega),if_pos (by omega),w64 (by omega) (by omega)]
   rfl
  ·exact stop i x hi
theorem class_Check.ev (hp:∀ c ∈ p,FitC c):Ev (fun k => class_Check.f k p this super fs ms) (classCheckV p this super fs ms):=by
 unfold class_Check.f classCheckV
 refine Ev.bind (pool_Check.ev p hp) ?_
 by_cases h:checkV p=0
 ·rw [if_pos h]
  refine Ev.congr (fun k => if_pos h) ?_
  have:=cc.ev_l0 p hl this super fs ms hfl hml hf hm ms.length 0 (mx (fs.length:Int) (ms.length:Int)) (by omega)
  rw [List.drop_zero] at this
  exact this
 ·rw [if_neg h]
  exact Ev.congr (fun k => if_neg h) (Ev.now _)
end
end Go.Proofs.YtbgniepcoaiinaaDoor.Px
namespace Go.Proofs.YtbgniepcoaiinaaDoor.Px
open Go.RowKit Go.Proofs.YtbgniepcoaiinaaDoorW.PrintWords Go.Proofs.YtbgniepcoaiinaaDoorW.PrintLast Go.Proofs.YtbgniepcoaiinaaDoorW.PrintMore
set_option linter.unusedVariables false
set_option linter.unusedSimpArgs false
def Rdo.bindV {α β:Type} (o:Rdo α) (f:α→Nat→Rdo β):Rdo β:=match o with
 | .ok x p => f x p
 | .er e => .er e
theorem Rdo.bindV_ok {α β:Type} (x:α) (p:Nat) (f:α→Nat→Rdo β):(Rdo.ok x p).bindV f=f x p:=rfl
theorem Rdo.bindV_assoc {α β γ:Type} (o:Rdo α) (f:α→Nat→Rdo β) (g:β→Nat→Rdo γ):(o.bindV f).bindV g=o.bindV fun x p => (f x p).bindV g:=by cases o <;> rfl
theorem Ev.rdo {α β:Type} {F:Nat→Option (Rdo α)} {G:Nat→α→Nat→Option (Rdo β)} {o:Rdo α} {g:α→Nat→Rdo β} (h:Ev F o) (hg:∀ x q,o=.ok x q→Ev (fun k => G k x q) (g x q)):Ev (fun k => (F k).bind fun o => o.bind (G k)) (o.bindV g):=by
 refine Ev.bind h ?_
 cases o with
 | ok x q => exact hg x q rfl
 | er e => exact Ev.now _
def Gives {α:Type} (o:Rdo α) (Q:α→Nat→Prop):Prop:=∀ x q,o=.ok x q→Q x q
theorem Gives.ok {α:Type} {x:α} {q:Nat} {Q:α→Nat→Prop} (h:Q x q):Gives (.ok x q) Q:=fun x' q' e => by injection e with e1 e2;subst e1;subst e2;exact h
theorem Gives.er {α:Type} {e:Int} {Q:α→Nat→Prop}:Gives (.er e) Q:=fun x q h => by cases h
theorem Gives.bind {α β:Type} {o:Rdo α} {f:α→Nat→Rdo β} {Q:α→Nat→Prop} {R:β→Nat→Prop} (h:Gives o Q) (k:∀ x q,Q x q→Gives (f x q) R):Gives (o.bindV f) R:=by
 cases o with
 | ok x q => exact k x q (h x q rfl)
 | er e => exact Gives.er
theorem Gives.mono {α:Type} {o:Rdo α} {Q R:α→Nat→Prop} (h:Gives o Q) (k:∀ x q,Q x q→R x q):Gives o R:=fun x q e => k x q (h x q e)
def rawV (bs:List Int) (p n:Nat):Rdo (List Int):=if p + n≤bs.length then .ok (rdL bs p n) (p + n) else .er 3
def numV (bs:List Int) (p n:Nat):Rdo Int:=(rawV bs p n).bindV fun l q => .ok (beV l) q
def sameV (bs:List Int) (p n:Nat) (want:Int):Rdo Unit:=(numV bs p n).bindV fun x q => if x=want then .ok () q else .er 50
def countV (bs:List Int) (p n:Nat) (most:Int):Rdo Int:=(numV bs p n).bindV fun x q => if most < x then .er 2 else .ok x q
def namedV (l0:List Cst) (bs:List Int) (p:Nat) (s:ByteArray):Rdo Unit:=(numV bs p 2).bindV fun x q => if (textV l0 x).2=true∧(textV l0 x).1.toList=s.toList then .ok () q else .er 50
def longD (bs:List Int) (p:Nat):Rdo (List Int):=(countV bs p 4 4096).bindV fun x q => rawV bs q x.toNat
def trapD (bs:List Int) (p:Nat):Rdo Trp:=(numV bs p 2).bindV fun x1 p1 => (numV bs p1 2).bindV fun x2 p2 => (numV bs p2 2).bindV fun x3 p3 => (numV bs p3 2).bindV fun x4 p4 => .ok ⟨x1,x2,x3,x4⟩ p4
def trapsD (bs:List Int):Nat→Nat→List Trp→Rdo (List Trp)
 | 0,p,l => .ok l p
 | n + 1,p,l => (trapD bs p).bindV fun t p1 => trapsD bs n p1 (l++[t])
def mapsD (l0:List Cst) (bs:List Int) (p:Nat):Rdo (List Int) :=
 (numV bs p 2).bindV fun x q => if x=0 then .ok [] q else if x=1 then
  (namedV l0 bs q sMaps).bindV fun _ q1 => (longD bs q1).bindV fun ys q2 => if 0 < ys.length then .ok ys q2 else .er 50 else .er 50
def methD (l0:List Cst) (bs:List Int) (p:Nat):Rdo Mth :=
 (numV bs p 2).bindV fun x1 p1 => (numV bs p1 2).bindV fun x2 p2 => (numV bs p2 2).bindV fun x3 p3 => (sameV bs p3 2 1).bindV fun _ p4 => (namedV l0 bs p4 sCode).bindV fun _ p5 => (numV bs p5 4).bindV fun n p6 =>
 (numV bs p6 2).bindV fun x7 p7 => (numV bs p7 2).bindV fun x8 p8 => (longD bs p8).bindV fun code p9 => (countV bs p9 2 64).bindV fun c p10 => (trapsD bs c.toNat p10 []).bindV fun traps p11 => (mapsD l0 bs p11).bindV fun maps p12 =>
 if (p12:Int)=wrap64 (n + p6) then .ok ⟨x1,x2,x3,x7,x8,code,traps,maps⟩ p12 else .er 50
def fldD (bs:List Int) (p:Nat):Rdo Fld:=(numV bs p 2).bindV fun x1 p1 => (numV bs p1 2).bindV fun x2 p2 => (numV bs p2 2).bindV fun x3 p3 => .ok ⟨x1,x2,x3⟩ p3
def fldsD (bs:List Int):Nat→Nat→List Fld→Rdo (List Fld)
 | 0,p,l => .ok l p
 | n + 1,p,l => (fldD bs p).bindV fun t p1 => (sameV bs p1 2 0).bindV fun _ p2 => fldsD bs n p2 (l++[t])
def mthsD (l0:List Cst) (bs:List Int):Nat→Nat→List Mth→Rdo (List Mth)
 | 0,p,l => .ok l p
 | n + 1,p,l => (methD l0 bs p).bindV fun t p1 => mthsD l0 bs n p1 (l++[t])
def restD (l0:List Cst) (bs:List Int) (p:Nat):Rdo Cls :=
 (sameV bs p 2 0).bindV fun _ p1 => (numV bs p1 2).bindV fun t p2 => (numV bs p2 2).bindV fun s p3 => (sameV bs p3 2 0).bindV fun _ p4 =>
 (countV bs p4 2 64).bindV fun c p5 => (fldsD bs c.toNat p5 []).bindV fun fs p6 => (countV bs p6 2 64).bindV fun d p7 => (mthsD l0 bs d.toNat p7 []).bindV fun ms p8 => (sameV bs p8 2 0).bindV fun _ p9 => .ok ⟨l0,t,s,fs,ms⟩ p9
def endD (bs:List Int) (c:Cls) (p:Nat):Rdo Cls:=if p < bs.length then .er 50 else if classCheckV c.f0 c.f1 c.f2 c.f3 c.f4=0 then .ok c p else .er (classCheckV c.f0 c.f1 c.f2 c.f3 c.f4)
def poolD (bs:List Int) (p:Nat):Rdo (List Cst):=if (decPV (bs.drop p)).2.2=0 then (rawV bs p (decPV (bs.drop p)).2.1.toNat).bindV fun _ q => .ok (decPV (bs.drop p)).1 q else .er (decPV (bs.drop p)).2.2
def coreD (bs:List Int):Rdo Cls:=(sameV bs 0 4 3405691582).bindV fun _ p1 => (sameV bs p1 4 61).bindV fun _ p2 => (poolD bs p2).bindV fun l p3 => restD l bs p3
def classD (bs:List Int):Rdo Cls:=(coreD bs).bindV (endD bs)
theorem raw.gives {bs:List Int} (hb:IsBytes bs) (p n:Nat):Gives (rawV bs p n) (fun l q => IsBytes l∧l.length=n∧q=p + n∧q≤bs.length):=by
 unfold rawV
 by_cases h:p + n≤bs.length
 ·rw [if_pos h];exact Gives.ok ⟨rdL_bytes hb p n,rdL_len h,rfl,h⟩
 ·rw [if_neg h];exact Gives.er
theorem num.gives {bs:List Int} (hb:IsBytes bs) (p n:Nat):Gives (numV bs p n) (fun x q => 0≤x∧x < 256 ^ n∧q≤bs.length) :=
 Gives.bind (raw.gives hb p n) fun l q h => Gives.ok (by have:=beV_lt (n:=n) h.1 (by omega);exact ⟨this.1,this.2,h.2.2.2⟩)
theorem num2.gives {bs:List Int} (hb:IsBytes bs) (p:Nat):Gives (numV bs p 2) (fun x q => 0≤x∧x < 65536∧q≤bs.length):=num.gives hb p 2
theorem same.gives {bs:List Int} (hb:IsBytes bs) (p n:Nat) (want:Int):Gives (sameV bs p n want) (fun _ q => q≤bs.length) :=
 Gives.bind (num.gives hb p n) fun x q h => by split;exact Gives.ok h.2.2;exact Gives.er
theorem named.gives {bs:List Int} (hb:IsBytes bs) (l0:List Cst) (p:Nat) (s:ByteArray):Gives (namedV l0 bs p s) (fun _ q => q≤bs.length) :=
 Gives.bind (num.gives hb p 2) fun x q h => by split;exact Gives.ok h.2.2;exact Gives.er
theorem count.gives {bs:List Int} (hb:IsBytes bs) (p n:Nat) (most:Int):Gives (countV bs p n most) (fun x q => 0≤x∧x≤most∧q≤bs.length) :=
 Gives.bind (num.gives hb p n) fun x q h => by split;exact Gives.er;exact Gives.ok ⟨h.1,by omega,h.2.2⟩
theorem long.gives {bs:List Int} (hb:IsBytes bs) (p:Nat):Gives (longD bs p) (fun l q => IsBytes l∧l.length≤4096∧q≤bs.length) :=
 Gives.bind (count.gives hb p 4 4096) fun x q h => (raw.gives hb q x.toNat).mono fun l r g => ⟨g.1,by omega,g.2.2.2⟩
theorem trap.gives {bs:List Int} (hb:IsBytes bs) (p:Nat):Gives (trapD bs p) (fun _ q => q≤bs.length) :=
 Gives.bind (num.gives hb p 2) fun _ _ _ => Gives.bind (num.gives hb _ 2) fun _ _ _ => Gives.bind (num.gives hb _ 2) fun _ _ _ => Gives.bind (num.gives hb _ 2) fun _ _ h => Gives.ok h.2.2
theorem traps.gives {bs:List Int} (hb:IsBytes bs):∀ (n p:Nat) (l:List Trp),p≤bs.length→Gives (trapsD bs n p l) (fun r q => r.length=l.length + n∧q≤bs.length)
 | 0,p,l,hp => Gives.ok ⟨rfl,hp⟩
 | n + 1,p,l,hp => Gives.bind (trap.gives hb p) fun t q h => (traps.gives hb n q (l++[t]) h).mono fun r s g => ⟨by rw [g.1,List.length_append,List.length_singleton];omega,g.2⟩
theorem maps.gives {bs:List Int} (hb:IsBytes bs) (l0:List Cst) (p:Nat):Gives (mapsD l0 bs p) (fun l q => IsBytes l∧l.length≤4096∧q≤bs.length) :=
 Gives.bind (num.gives hb p 2) fun x q h => by
  split
  ·exact Gives.ok ⟨IsBytes.nil,Nat.zero_le _,h.2.2⟩
  split
  ·refine Gives.bind (named.gives hb l0 q sMaps) fun _ q1 _ => Gives.bind (long.gives hb q1) fun ys q2 g => ?_
   split
   ·exact Gives.ok g
   ·exact Gives.er
  ·exact Gives.er
theorem wf_two {x:Int} (h0:0≤x) (h1:x < 65536):(Lit.int .i64 x).wf=true:=wf_i64 ⟨by omega,by omega⟩
def MthR (m:Mth):Prop:=FitM m∧IsBytes m.f5∧IsBytes m.f7
theorem meth.gives {bs:List Int} (hb:IsBytes bs) (l0:List Cst) (p:Nat):Gives (methD l0 bs p) (fun m q => MthR m∧q≤bs.length) :=
 Gives.bind (num2.gives hb p) fun x1 p1 h1 => Gives.bind (num2.gives hb p1) fun x2 p2 h2 => Gives.bind (num2.gives hb p2) fun x3 p3 h3 => Gives.bind (same.gives hb p3 2 1) fun _ p4 h4 => Gives.bind (named.gives hb l0 p4 sCode) fun _ p5 h5 => Gives.bind (num.gives hb p5 4) fun n p6 h6 =>
 Gives.bind (num2.gives hb p6) fun x7 p7 h7 => Gives.bind (num2.gives hb p7) fun x8 p8 h8 => Gives.bind (long.gives hb p8) fun code p9 h9 => Gives.bind (count.gives hb p9 2 64) fun c p10 h10 => Gives.bind (traps.gives hb c.toNat p10 [] h10.2.2) fun traps p11 h11 => Gives.bind (maps.gives hb l0 p11) fun maps p12 h12 => by
  have hl:=h11.1
  rw [List.length_nil] at hl
  split
  ·exact Gives.ok ⟨⟨⟨wf_two h1.1 h1.2.1,by show code.length≤_;omega,by show traps.length≤_;omega,by show maps.length≤_;omega⟩,h9.1,h12.1⟩,h12.2.2⟩
  ·exact Gives.er
theorem fld.gives {bs:List Int} (hb:IsBytes bs) (p:Nat):Gives (fldD bs p) (fun f q => FitF f∧q≤bs.length) :=
 Gives.bind (num2.gives hb p) fun _ _ h => Gives.bind (num.gives hb _ 2) fun _ _ _ => Gives.bind (num.gives hb _ 2) fun _ _ g => Gives.ok ⟨wf_two h.1 h.2.1,g.2.2⟩
theorem all_snoc {α:Type} {P:α→Prop} {l:List α} {x:α} (h:∀ y ∈ l,P y) (hx:P x):∀ y ∈ l++[x],P y:=fun y hy => by
 rcases List.mem_append.1 hy with q|q
 ·exact h y q
 ·rw [List.mem_singleton.1 q];exact hx
theorem flds.gives {bs:List Int} (hb:IsBytes bs):∀ (n p:Nat) (l:List Fld),p≤bs.length→(∀ f ∈ l,FitF f)→Gives (fldsD bs n p l) (fun r q => r.length=l.length + n∧(∀ f ∈ r,FitF f)∧q≤bs.length)
 | 0,p,l,hp,hl => Gives.ok ⟨rfl,hl,hp⟩
 | n + 1,p,l,hp,hl => Gives.bind (fld.gives hb p) fun t q h => Gives.bind (same.gives hb q 2 0) fun _ q2 h2 => (flds.gives hb n q2 (l++[t]) h2 (all_snoc hl h.1)).mono fun r s g => ⟨by rw [g.1,List.length_append,List.length_singleton];omega,g.2⟩
theorem mths.gives {bs:List Int} (hb:IsBytes bs) (l0:List Cst):∀ (n p:Nat) (l:List Mth),p≤bs.length→(∀ f ∈ l,MthR f)→Gives (mthsD l0 bs n p l) (fun r q => r.length=l.length + n∧(∀ f ∈ r,MthR f)∧q≤bs.length)
 | 0,p,l,hp,hl => Gives.ok ⟨rfl,hl,hp⟩
 | n + 1,p,l,hp,hl => Gives.bind (meth.gives hb l0 p) fun t q h => (mths.gives hb l0 n q (l++[t]) h.2 (all_snoc hl h.1)).mono fun r s g => ⟨by rw [g.1,List.length_append,List.length_singleton];omega,g.2⟩
def ClsR (c:Cls):Prop:=c.f3.length≤64∧c.f4.length≤64∧(∀ f ∈ c.f3,FitF f)∧∀ m ∈ c.f4,MthR m
theorem rest.gives {bs:List Int} (hb:IsBytes bs) (l0:List Cst) (p:Nat):Gives (restD l0 bs p) (fun c q => c.f0=l0∧ClsR c∧q≤bs.length) :=
 Gives.bind (same.gives hb p 2 0) fun _ p1 _ => Gives.bind (num.gives hb p1 2) fun t p2 _ => Gives.bind (num.gives hb p2 2) fun s p3 _ => Gives.bind (same.gives hb p3 2 0) fun _ p4 _ =>
 Gives.bind (count.gives hb p4 2 64) fun c p5 h5 => Gives.bind (flds.gives hb c.toNat p5 [] h5.2.2 (fun f hf => by cases hf)) fun fs p6 h6 => Gives.bind (count.gives hb p6 2 64) fun d p7 h7 => Gives.bind (mths.gives hb l0 d.toNat p7 [] h7.2.2 (fun f hf => by cases hf)) fun ms p8 h8 => Gives.bind (same.gives hb p8 2 0) fun _ p9 h9 => by
  have e1:=h6.1
  have e2:=h8.1
  rw [List.length_nil] at e1 e2
  exact Gives.ok ⟨rfl,⟨by show fs.length≤64;omega,by show ms.length≤64;omega,h6.2.1,h8.2.1⟩,h9⟩
theorem num.ev {bs:List Int} (hb:IsBytes bs) (p n:Nat) (h7:n≤7):Ev (fun k => cr_num.f k bs p n) (numV bs p n):=by
 have hr:=beV_lt (n:=n) (rdL_bytes hb p n) (rdL_le bs p n)
 have hp:=pow256 h7
 have e:wrap64 (beV (rdL bs p n))=beV (rdL bs p n):=by unfold wrap64;omega
 unfold cr_num.f numV rawV
 refine Ev.bind (uint.ev bs hb p n (by omega)) ?_
 unfold rdE rdP
 by_cases h:p + n≤bs.length
 ·simp only [if_pos h,if_true,e]
  exact Ev.now _
 ·simp only [if_neg h]
  exact Ev.now _
theorem crsame.ev {bs:List Int} (hb:IsBytes bs) (p n:Nat) (h7:n≤7) (want:Int):Ev (fun k => cr_same.f k bs p n want) (sameV bs p n want):=Ev.rdo (num.ev hb p n h7) fun _ _ _ => Ev.now _
theorem count.ev {bs:List Int} (hb:IsBytes bs) (p n:Nat) (h7:n≤7) (most:Int):Ev (fun k => cr_count.f k bs p n most) (countV bs p n most):=Ev.rdo (num.ev hb p n h7) fun _ _ _ => Ev.now _
theorem named.ev {bs:List Int} (hb:IsBytes bs) (l0:List Cst) (p:Nat) (s:ByteArray):Ev (fun k => cr_named.f k l0 bs p s) (namedV l0 bs p s) :=
 Ev.rdo (num.ev hb p 2 (by decide)) fun x q _ => Ev.congr (fun k => by rw [pool_Text.eq,Option.bind_some]) (Ev.now _)
theorem long.ev {bs:List Int} (hb:IsBytes bs) (p:Nat):Ev (fun k => cr_long.f k bs p) (longD bs p) :=
 Ev.rdo (count.ev hb p 4 (by decide) 4096) fun x q h => by
  have h0:=(count.gives hb p 4 4096 x q h).1
  refine Ev.congr (fun k => if_pos h0) ?_
  unfold rawV rdE rdP
  by_cases g:q + x.toNat≤bs.length
  ·simp only [if_pos g,if_true];exact Ev.now _
  ·simp only [if_neg g];exact Ev.now _
theorem trap.ev {bs:List Int} (hb:IsBytes bs) (p:Nat):Ev (fun k => cr_trap.f k bs p) (trapD bs p) :=
 Ev.rdo (num.ev hb p 2 (by decide)) fun _ _ _ => Ev.rdo (num.ev hb _ 2 (by decide)) fun _ _ _ => Ev.rdo (num.ev hb _ 2 (by decide)) fun _ _ _ => Ev.rdo (num.ev hb _ 2 (by decide)) fun _ _ _ => Ev.now _
theorem traps.ev {bs:List Int} (hb:IsBytes bs):∀ (n p:Nat) (l:List Trp),Ev (fun k => cr_traps.f k bs n p l) (trapsD bs n p l)
 | 0,p,l => Ev.now _
 | n + 1,p,l => Ev.rdo (trap.ev hb p) fun t q _ => traps.ev hb n q (l++[t])
theorem maps.ev {bs:List Int} (hb:IsBytes bs) (l0:List Cst) (p:Nat):Ev (fun k => cr_maps.f k l0 bs p) (mapsD l0 bs p) :=
 Ev.rdo (num.ev hb p 2 (by decide)) fun x q _ => by
  by_cases h0:x=0
  ·rw [if_pos h0];exact Ev.congr (fun k => if_pos h0) (Ev.now _)
  rw [if_neg h0]
  refine Ev.congr (fun k => if_neg h0) ?_
  by_cases h1:x=1
  ·rw [if_pos h1]
   exact Ev.congr (fun k => if_pos h1) (Ev.rdo (named.ev hb l0 q sMaps) fun _ q1 _ => Ev.rdo (long.ev hb q1) fun ys q2 _ => Ev.now _)
  ·rw [if_neg h1];exact Ev.congr (fun k => if_neg h1) (Ev.now _)
theorem cmeth.ev {bs:List Int} (hb:IsBytes bs) (l0:List Cst) (p:Nat):Ev (fun k => cr_method.f k l0 bs p) (methD l0 bs p) :=
 Ev.rdo (num.ev hb p 2 (by decide)) fun x1 p1 _ => Ev.rdo (num.ev hb p1 2 (by decide)) fun x2 p2 _ => Ev.rdo (num.ev hb p2 2 (by decide)) fun x3 p3 _ => Ev.rdo (crsame.ev hb p3 2 (by decide) 1) fun _ p4 _ => Ev.rdo (named.ev hb l0 p4 sCode) fun _ p5 _ => Ev.rdo (num.ev hb p5 4 (by decide)) fun n p6 _ =>
 Ev.rdo (num.ev hb p6 2 (by decide)) fun x7 p7 _ => Ev.rdo (num.ev hb p7 2 (by decide)) fun x8 p8 _ => Ev.rdo (long.ev hb p8) fun code p9 _ => Ev.rdo (count.ev hb p9 2 (by decide) 64) fun c p10 _ => Ev.rdo (traps.ev hb c.toNat p10 []) fun traps p11 _ => Ev.rdo (maps.ev hb l0 p11) fun maps p12 _ => Ev.now _
theorem fld.ev {bs:List Int} (hb:IsBytes bs) (p:Nat):Ev (fun k => cr_fld.f k bs p) (fldD bs p) :=
 Ev.rdo (num.ev hb p 2 (by decide)) fun _ _ _ => Ev.rdo (num.ev hb _ 2 (by decide)) fun _ _ _ => Ev.rdo (num.ev hb _ 2 (by decide)) fun _ _ _ => Ev.now _
theorem flds.ev {bs:List Int} (hb:IsBytes bs):∀ (n p:Nat) (l:List Fld),Ev (fun k => cr_flds.f k bs n p l) (fldsD bs n p l)
 | 0,p,l => Ev.now _
 | n + 1,p,l => Ev.rdo (fld.ev hb p) fun t q _ => Ev.rdo (crsame.ev hb q 2 (by decide) 0) fun _ q2 _ => flds.ev hb n q2 (l++[t])
theorem mths.ev {bs:List Int} (hb:IsBytes bs) (l0:List Cst):∀ (n p:Nat) (l:List Mth),Ev (fun k => cr_mths.f k l0 bs n p l) (mthsD l0 bs n p l)
 | 0,p,l => Ev.now _
 | n + 1,p,l => Ev.rdo (cmeth.ev hb l0 p) fun t q _ => mths.ev hb l0 n q (l++[t])
theorem rest_.ev {bs:List Int} (hb:IsBytes bs) (l0:List Cst) (hl0:l0.length≤1048576) (hp:∀ c ∈ l0,FitC c) (p:Nat):Ev (fun k => cr_rest.f k l0 bs p) ((restD l0 bs p).bindV (endD bs)):=by
 unfold restD
 simp only [Rdo.bindV_assoc,Rdo.bindV_ok]
 refine Ev.rdo (crsame.ev hb p 2 (by decide) 0) fun _ p1 _ => Ev.rdo (num.ev hb p1 2 (by decide)) fun t p2 _ => Ev.rdo (num.ev hb p2 2 (by decide)) fun s p3 _ => Ev.rdo (crsame.ev hb p3 2 (by decide) 0) fun _ p4 _ =>
  Ev.rdo (count.ev hb p4 2 (by decide) 64) fun c p5 h5 => Ev.rdo (flds.ev hb c.toNat p5 []) fun fs p6 h6 => Ev.rdo (count.ev hb p6 2 (by decide) 64) fun d p7 h7 => Ev.rdo (mths.ev hb l0 d.toNat p7 []) fun ms p8 h8 => Ev.rdo (crsame.ev hb p8 2 (by decide) 0) fun _ p9 _ => ?_
 have g5:=count.gives hb p4 2 64 c p5 h5
 have g6:=flds.gives hb c.toNat p5 [] g5.2.2 (fun f hf => by cases hf) fs p6 h6
 have g7:=count.gives hb p6 2 64 d p7 h7
 have g8:=mths.gives hb l0 d.toNat p7 [] g7.2.2 (fun f hf => by cases hf) ms p8 h8
 have e1:=g6.1
 have e2:=g8.1
 rw [List.length_nil] at e1 e2
 unfold endD
 by_cases h:p9 < bs.length
 ·rw [if_pos h];exact Ev.congr (fun k => if_pos h) (Ev.now _)
 ·rw [if_neg h]
  exact Ev.congr (fun k => if_neg h) (Ev.bind (class_Check.ev l0 hl0 t s fs ms (by omega) (by omega) g6.2.1 (fun m hm => (g8.2.1 m hm).1) hp) (Ev.now _))
end Go.Proofs.YtbgniepcoaiinaaDoor.Px
namespace Go.Proofs.YtbgniepcoaiinaaDoor.Px
open Go.RowKit Go.Proofs.YtbgniepcoaiinaaDoorW.PrintWords Go.Proofs.YtbgniepcoaiinaaDoorW.PrintLast Go.Proofs.YtbgniepcoaiinaaDoorW.PrintMore
set_option linter.unusedVariables false
set_option linter.unusedSimpArgs false
theorem rd_ext {bs:List Int} {p n:Nat} (R:List Int) (h:rdE bs p n=0):rdL (bs++R) p n=rdL bs p n∧rdE (bs++R) p n=0∧rdP (bs++R) p n=rdP bs p n∧p + n≤bs.length:=by
 have hs:p + n≤bs.length:=by
  unfold rdE at h
  by_cases hs:p + n≤bs.length
  ·exact hs
  ·rw [if_neg hs] at h;omega
 have hs2:p + n≤(bs++R).length:=by rw [List.length_append];omega
 unfold rdL rdE rdP
 rw [if_pos hs,if_pos hs,if_pos hs2,if_pos hs2,if_pos hs2,List.take_append_of_le_length hs]
 exact ⟨rfl,rfl,rfl,hs⟩
theorem uV_ext {bs:List Int} {p n:Nat} (R:List Int) (h:(uV bs p n).2.1=0):uV (bs++R) p n=uV bs p n:=by
 have h0:rdE bs p n=0:=h
 obtain ⟨a,b,c,_⟩:=rd_ext R h0
 unfold uV
 rw [a,b,c,h0]
theorem iV_ext {bs:List Int} {p n:Nat} (R:List Int) (h:(iV bs p n).2.1=0):iV (bs++R) p n=iV bs p n:=by
 unfold iV at h ⊢
 by_cases hs:p + n≤bs.length
 ·have hs2:p + n≤(bs++R).length:=by rw [List.length_append];omega
  rw [if_pos hs,if_pos hs2]
  rw [(rd_ext R (show rdE bs p n=0 from if_pos hs)).1]
 ·rw [if_neg hs] at h;exact absurd h (show ¬ (3:Int)=0 by decide)
theorem twoV_ext {bs:List Int} {p:Nat} {e:Int} (R:List Int) (h:(twoV bs p e).2.1=0):twoV (bs++R) p e=twoV bs p e∧e=0:=by
 unfold twoV at h ⊢
 by_cases he:e=0
 ·rw [if_pos he] at h ⊢
  rw [if_pos he]
  exact ⟨uV_ext R h,he⟩
 ·rw [if_neg he] at h
  exact absurd h he
theorem uV_pos {bs:List Int} {p n:Nat} (h:p≤bs.length):(uV bs p n).2.2≤bs.length:=rdP_le h
theorem iV_pos {bs:List Int} {p n:Nat} (h:p≤bs.length):(iV bs p n).2.2≤bs.length:=by
 unfold iV
 split
 ·assumption
 ·exact h
theorem twoV_pos {bs:List Int} {p:Nat} {e:Int} (h:p≤bs.length):(twoV bs p e).2.2≤bs.length:=by
 unfold twoV
 split
 ·exact uV_pos h
 ·exact h
theorem bodyV_ext {bs:List Int} {t:Int} {p:Nat} (R:List Int) (h:(bodyV bs t p).2.1=0):bodyV (bs++R) t p=bodyV bs t p:=by
 unfold bodyV at h ⊢
 by_cases h1:t=1
 ·simp only [if_pos h1] at h ⊢
  by_cases h2:(uV bs p 2).2.1=0
  ·rw [uV_ext R h2]
   simp only [if_pos h2] at h ⊢
   by_cases h3:(uV bs p 2).1 > 256
   ·rw [if_pos h3] at h;exact absurd h (show ¬ (20:Int)=0 by decide)
   simp only [if_neg h3] at h ⊢
   by_cases h4:rdE bs (uV bs p 2).2.2 (uV bs p 2).1.toNat=0
   ·obtain ⟨a,b,c,_⟩:=rd_ext R h4
    rw [a,b,c]
    simp only [if_pos h4,if_true]
   ·rw [if_neg h4] at h;exact absurd h h4
  ·rw [if_neg h2] at h;exact absurd h h2
 simp only [if_neg h1] at h ⊢
 by_cases h3:t=3
 ·simp only [if_pos h3] at h ⊢
  rw [iV_ext R h]
 simp only [if_neg h3] at h ⊢
 by_cases h5:t=5
 ·simp only [if_pos h5] at h ⊢
  rw [iV_ext R h]
 simp only [if_neg h5] at h ⊢
 by_cases h7:t=7
 ·simp only [if_pos h7] at h ⊢
  rw [uV_ext R h]
 simp only [if_neg h7] at h ⊢
 by_cases h9:t=9 ∨ t=10 ∨ t=12
 ·simp only [if_pos h9] at h ⊢
  have hu:(uV bs p 2).2.1=0:=(twoV_ext R h).2
  rw [uV_ext R hu,(twoV_ext R h).1]
 ·rw [if_neg h9] at h;exact absurd h (show ¬ (40:Int)=0 by decide)
theorem bodyV_pos {bs:List Int} {t:Int} {p:Nat} (h:p≤bs.length):(bodyV bs t p).2.2≤bs.length:=by
 unfold bodyV
 repeat' split
 all_goals first|exact h|exact uV_pos h|exact iV_pos h|exact twoV_pos (uV_pos h)|exact rdP_le (uV_pos h)
theorem constV_ext {bs:List Int} {p:Nat} (R:List Int) (h:(constV bs p).2.1=0):constV (bs++R) p=constV bs p:=by
 unfold constV at h ⊢
 by_cases h1:(uV bs p 1).2.1=0
 ·rw [uV_ext R h1]
  simp only [if_pos h1] at h ⊢
  exact bodyV_ext R h
 ·rw [if_neg h1] at h;exact absurd h h1
theorem constV_pos {bs:List Int} {p:Nat} (h:p≤bs.length):(constV bs p).2.2≤bs.length:=by
 unfold constV
 split
 ·exact bodyV_pos (uV_pos h)
 ·exact uV_pos h
structure OkDec (bs:List Int) (d:List Cst × Int × Int):Prop where
 fit:∀ c ∈ d.1,FitC c
 len:d.1.length≤1024
 chk:checkV d.1=0
 ge:0≤d.2.1
 le:d.2.1≤bs.length
theorem decL_ok {bs:List Int} (hb:IsBytes bs) (n:Int) (hn:n≤1024):∀ (f:Nat) (ps:List Cst) (p:Nat),n≤ps.length + f→ps.length≤1024→(∀ c ∈ ps,FitC c)→p≤bs.length→(decL (f + 1) bs n ps p).2.2=0 →
  OkDec bs (decL (f + 1) bs n ps p)∧∀ R,decL (f + 1) (bs++R) n ps p=decL (f + 1) bs n ps p:=by
 have last:∀ (f:Nat) (ps:List Cst) (p:Nat),¬ (ps.length:Int) < n→ps.length≤1024→(∀ c ∈ ps,FitC c)→p≤bs.length→(decL (f + 1) bs n ps p).2.2=0 →
   OkDec bs (decL (f + 1) bs n ps p)∧∀ R,decL (f + 1) (bs++R) n ps p=decL (f + 1) bs n ps p:=by
  intro f ps p hs hl hf hp h
  unfold decL at h ⊢
  simp only [if_neg hs] at h ⊢
  by_cases hc:checkV ps=0
  ·simp only [if_pos hc]
   exact ⟨⟨hf,hl,hc,by show (0:Int)≤(p:Int);omega,by show (p:Int)≤_;omega⟩,fun _ => trivial⟩
  ·rw [if_neg hc] at h;exact absurd h hc
 intro f
 induction f with
 | zero => intro ps p h1 h2 h3 h4 h;exact last 0 ps p (by omega) h2 h3 h4 h
 | succ f ih =>
  intro ps p h1 h2 h3 h4 h
  by_cases hs:(ps.length:Int) < n
  ·rw [decL,if_pos hs] at h ⊢
   by_cases h0:(constV bs p).2.1=0
   ·rw [if_pos h0] at h ⊢
    obtain ⟨g1,g2⟩:=ih (ps++[(constV bs p).1]) (constV bs p).2.2 (by rw [List.length_append,List.length_singleton];omega) (by rw [List.length_append,List.length_singleton];omega) (fun c hc => by
     rcases List.mem_append.1 hc with q|q
     ·exact h3 c q
     ·rw [List.mem_singleton.1 q];exact constV_fit hb p h0) (constV_pos h4) h
    refine ⟨g1,fun R => ?_⟩
    rw [decL,if_pos hs,constV_ext R h0,if_pos h0,g2 R]
   ·rw [if_neg h0] at h;exact absurd h h0
  ·exact last (f + 1) ps p hs h2 h3 h4 h
theorem decPV_ok {bs:List Int} (hb:IsBytes bs) (h:(decPV bs).2.2=0):OkDec bs (decPV bs)∧∀ R,decPV (bs++R)=decPV bs:=by
 have h2:=u2_range hb 0
 unfold decPV at h ⊢
 by_cases h0:(uV bs 0 2).2.1=0
 ·simp only [if_pos h0] at h ⊢
  by_cases h3:(uV bs 0 2).1 > 1024
  ·rw [if_pos h3] at h;exact absurd h (by decide)
  simp only [if_neg h3] at h ⊢
  by_cases h4:(uV bs 0 2).1=0
  ·rw [if_pos h4] at h;exact absurd h (by decide)
  simp only [if_neg h4] at h ⊢
  obtain ⟨g1,g2⟩:=decL_ok hb (uV bs 0 2).1 (by omega) (uV bs 0 2).1.toNat [z67] (uV bs 0 2).2.2 (by simp;omega) (by simp) one_fit (uV_pos (Nat.zero_le _)) h
  refine ⟨g1,fun R => ?_⟩
  rw [uV_ext R h0]
  simp only [if_pos h0,if_neg h3,if_neg h4]
  exact g2 R
 ·rw [if_neg h0] at h;exact absurd h h0
theorem drop_bytes {bs:List Int} (h:IsBytes bs) (p:Nat):IsBytes (bs.drop p):=fun x hx => h x (List.mem_of_mem_drop hx)
theorem cls_zero_len {bs:List Int} {p:Nat}:(bs.drop p).length≤bs.length:=by rw [List.length_drop];omega
theorem cr_class.ev {bs:List Int} (hb:IsBytes bs) (hl:bs.length≤140737488351232):Ev (fun k => cr_class.f k bs) (classD bs):=by
 unfold classD coreD
 simp only [Rdo.bindV_assoc]
 refine Ev.rdo (crsame.ev hb 0 4 (by decide) _) fun _ p1 _ => Ev.rdo (crsame.ev hb p1 4 (by decide) 61) fun _ p2 _ => ?_
 refine Ev.bind (pool_Decode.ev (drop_bytes hb p2) (Nat.le_trans cls_zero_len hl)) ?_
 unfold poolD
 by_cases h0:(decPV (bs.drop p2)).2.2=0
 ·obtain ⟨hk,_⟩:=decPV_ok (drop_bytes hb p2) h0
  have hle:=hk.le
  have hd:=cls_zero_len (bs:=bs) (p:=p2)
  have hr:0≤(decPV (bs.drop p2)).2.1∧(decPV (bs.drop p2)).2.1≤4611686018427387904:=⟨hk.ge,by omega⟩
  refine Ev.congr (fun k => (if_pos h0).trans (if_pos hr)) ?_
  rw [if_pos h0]
  unfold rawV rdE rdP
  by_cases h1:p2 + (decPV (bs.drop p2)).2.1.toNat≤bs.length
  ·simp only [if_pos h1,if_true,Rdo.bindV_ok]
   have:=hk.len
   exact rest_.ev hb _ (by omega) hk.fit _
  ·simp only [if_neg h1]
   exact Ev.now _
 ·refine Ev.congr (fun k => if_neg h0) ?_
  rw [if_neg h0]
  exact Ev.now _
theorem class_Decode.ev {bs:List Int} (hb:IsBytes bs) (hl:bs.length≤140737488351232):Ev (fun k => class_Decode.f k bs) (decR (classD bs)):=by
 unfold class_Decode.f
 exact Ev.congr (fun k => if_pos hl) (Ev.bind (cr_class.ev hb hl) (Ev.now _))
theorem pool.gives {bs:List Int} (hb:IsBytes bs) (p:Nat):Gives (poolD bs p) (fun l q => (∀ c ∈ l,FitC c)∧l.length≤1024∧checkV l=0∧q≤bs.length):=by
 unfold poolD
 by_cases h0:(decPV (bs.drop p)).2.2=0
 ·rw [if_pos h0]
  obtain ⟨hk,_⟩:=decPV_ok (drop_bytes hb p) h0
  exact Gives.bind (raw.gives hb p _) fun _ q h => Gives.ok ⟨hk.fit,hk.len,hk.chk,h.2.2.2⟩
 ·rw [if_neg h0];exact Gives.er
theorem core.gives {bs:List Int} (hb:IsBytes bs):Gives (coreD bs) (fun c q => (∀ x ∈ c.f0,FitC x)∧c.f0.length≤1024∧ClsR c∧q≤bs.length) :=
 Gives.bind (same.gives hb 0 4 _) fun _ p1 _ => Gives.bind (same.gives hb p1 4 61) fun _ p2 _ => Gives.bind (pool.gives hb p2) fun l p3 h3 => (rest.gives hb l p3).mono fun c q h => ⟨by rw [h.1];exact h3.1,by rw [h.1];exact h3.2.1,h.2.1,h.2.2⟩
def Ext {α:Type} (G:List Int→Rdo α) (p:Nat):Prop:=∀ (bs R:List Int),IsBytes bs→p≤bs.length→∀ x q,G bs=.ok x q→G (bs++R)=.ok x q∧q≤bs.length
theorem Ext.ok {α:Type} (x:α) (p:Nat):Ext (fun _ => .ok x p) p:=fun bs R _ hp y q h => by injection h with h1 h2;subst h1;subst h2;exact ⟨rfl,hp⟩
theorem Ext.er {α:Type} (e:Int) (p:Nat):Ext (fun _ => (.er e:Rdo α)) p:=fun bs R _ hp y q h => by cases h
theorem Ext.ite {α:Type} {c:Prop} [Decidable c] {A B:List Int→Rdo α} {p:Nat} (ha:Ext A p) (hb:Ext B p):Ext (fun bs => if c then A bs else B bs) p:=by
 by_cases h:c
 ·simp only [if_pos h];exact ha
 ·simp only [if_neg h];exact hb
theorem Ext.bind {α β:Type} {P:List Int→Rdo α} {F:α→Nat→List Int→Rdo β} {p:Nat} (h:Ext P p) (k:∀ x q,Ext (fun bs => F x q bs) q):Ext (fun bs => (P bs).bindV fun x q => F x q bs) p:=by
 intro bs R hb hp y r hy
 dsimp only at hy ⊢
 cases hP:P bs with
 | er e => rw [hP] at hy;cases hy
 | ok x q =>
  rw [hP] at hy
  obtain ⟨e,hq⟩:=h bs R hb hp x q hP
  rw [e]
  exact k x q bs R hb hq y r hy
theorem raw.ext (p n:Nat):Ext (fun bs => rawV bs p n) p:=by
 intro bs R _ hp x q h
 dsimp only at h ⊢
 unfold rawV at h ⊢
 by_cases hs:p + n≤bs.length
 ·have hs2:p + n≤(bs++R).length:=by rw [List.length_append];omega
  rw [if_pos hs] at h
  rw [if_pos hs2,(rd_ext R (show rdE bs p n=0 from if_pos hs)).1]
  injection h with h1 h2
  exact ⟨by rw [h1,h2],by omega⟩
 ·rw [if_neg hs] at h;cases h
theorem num.ext (p n:Nat):Ext (fun bs => numV bs p n) p:=Ext.bind (raw.ext p n) fun l q => Ext.ok _ q
theorem same.ext (p n:Nat) (want:Int):Ext (fun bs => sameV bs p n want) p:=Ext.bind (num.ext p n) fun x q => Ext.ite (Ext.ok _ q) (Ext.er _ q)
theorem count.ext (p n:Nat) (most:Int):Ext (fun bs => countV bs p n most) p:=Ext.bind (num.ext p n) fun x q => Ext.ite (Ext.er _ q) (Ext.ok _ q)
theorem named.ext (l0:List Cst) (p:Nat) (s:ByteArray):Ext (fun bs => namedV l0 bs p s) p:=Ext.bind (num.ext p 2) fun x q => Ext.ite (Ext.ok _ q) (Ext.er _ q)
theorem long.ext (p:Nat):Ext (fun bs => longD bs p) p:=Ext.bind (count.ext p 4 4096) fun x q => raw.ext q _
theorem trap.ext (p:Nat):Ext (fun bs => trapD bs p) p:=Ext.bind (num.ext p 2) fun _ _ => Ext.bind (num.ext _ 2) fun _ _ => Ext.bind (num.ext _ 2) fun _ _ => Ext.bind (num.ext _ 2) fun _ _ => Ext.ok _ _
theorem traps.ext:∀ (n p:Nat) (l:List Trp),Ext (fun bs => trapsD bs n p l) p
 | 0,p,l => Ext.ok _ _
 | n + 1,p,l => Ext.bind (trap.ext p) fun t q => traps.ext n q _
theorem maps.ext (l0:List Cst) (p:Nat):Ext (fun bs => mapsD l0 bs p) p :=
 Ext.bind (num.ext p 2) fun x q => Ext.ite (Ext.ok _ q) (Ext.ite (Ext.bind (named.ext l0 q sMaps) fun _ q1 => Ext.bind (long.ext q1) fun ys q2 => Ext.ite (Ext.ok _ q2) (Ext.er _ q2)) (Ext.er _ q))
theorem meth.ext (l0:List Cst) (p:Nat):Ext (fun bs => methD l0 bs p) p :=
 Ext.bind (num.ext p 2) fun x1 p1 => Ext.bind (num.ext p1 2) fun x2 p2 => Ext.bind (num.ext p2 2) fun x3 p3 => Ext.bind (same.ext p3 2 1) fun _ p4 => Ext.bind (named.ext l0 p4 sCode) fun _ p5 => Ext.bind (num.ext p5 4) fun n p6 =>
 Ext.bind (num.ext p6 2) fun x7 p7 => Ext.bind (num.ext p7 2) fun x8 p8 => Ext.bind (long.ext p8) fun code p9 => Ext.bind (count.ext p9 2 64) fun c p10 => Ext.bind (traps.ext c.toNat p10 []) fun traps p11 => Ext.bind (maps.ext l0 p11) fun maps p12 => Ext.ite (Ext.ok _ p12) (Ext.er _ p12)
theorem fld.ext (p:Nat):Ext (fun bs => fldD bs p) p:=Ext.bind (num.ext p 2) fun _ _ => Ext.bind (num.ext _ 2) fun _ _ => Ext.bind (num.ext _ 2) fun _ _ => Ext.ok _ _
theorem flds.ext:∀ (n p:Nat) (l:List Fld),Ext (fun bs => fldsD bs n p l) p
 | 0,p,l => Ext.ok _ _
 | n + 1,p,l => Ext.bind (fld.ext p) fun t q => Ext.bind (same.ext q 2 0) fun _ q2 => flds.ext n q2 _
theorem mths.ext (l0:List Cst):∀ (n p:Nat) (l:List Mth),Ext (fun bs => mthsD l0 bs n p l) p
 | 0,p,l => Ext.ok _ _
 | n + 1,p,l => Ext.bind (meth.ext l0 p) fun t q => mths.ext l0 n q _
theorem rest.ext (l0:List Cst) (p:Nat):Ext (fun bs => restD l0 bs p) p :=
 Ext.bind (same.ext p 2 0) fun _ p1 => Ext.bind (num.ext p1 2) fun t p2 => Ext.bind (num.ext p2 2) fun s p3 => Ext.bind (same.ext p3 2 0) fun _ p4 =>
 Ext.bind (count.ext p4 2 64) fun c p5 => Ext.bind (flds.ext c.toNat p5 []) fun fs p6 => Ext.bind (count.ext p6 2 64) fun d p7 => Ext.bind (mths.ext l0 d.toNat p7 []) fun ms p8 => Ext.bind (same.ext p8 2 0) fun _ p9 => Ext.ok _ p9
theorem pool.ext (p:Nat):Ext (fun bs => poolD bs p) p:=by
 intro bs R hb hp x q h
 dsimp only at h ⊢
 unfold poolD at h
 by_cases h0:(decPV (bs.drop p)).2.2=0
 ·rw [if_pos h0] at h
  obtain ⟨_,he⟩:=decPV_ok (drop_bytes hb p) h0
  have e:decPV ((bs++R).drop p)=decPV (bs.drop p):=by rw [List.drop_append_of_le_length hp];exact he R
  have:=Ext.bind (F:=fun _ q _ => Rdo.ok (decPV (bs.drop p)).1 q) (raw.ext p (decPV (bs.drop p)).2.1.toNat) (fun _ q => Ext.ok _ q) bs R hb hp x q h
  unfold poolD
  rw [e,if_pos h0]
  exact this
 ·rw [if_neg h0] at h;cases h
theorem core.ext:Ext coreD 0:=Ext.bind (same.ext 0 4 _) fun _ p1 => Ext.bind (same.ext p1 4 61) fun _ p2 => Ext.bind (pool.ext p2) fun l p3 => rest.ext l p3
end Go.Proofs.YtbgniepcoaiinaaDoor.Px
namespace Go.Proofs.YtbgniepcoaiinaaDoor.Px
open Go.RowKit Go.Proofs.YtbgniepcoaiinaaDoorW.PrintWords Go.Proofs.YtbgniepcoaiinaaDoorW.PrintLast Go.Proofs.YtbgniepcoaiinaaDoorW.PrintMore
set_option linter.unusedVariables false
set_option linter.unusedSimpArgs false
def bodyL (c:Cst):List Int :=
 if c.f0=1 then beN 2 ((encV c.f1).1.length:Int)++(encV c.f1).1 else if c.f0=3 then beN 4 c.f2 else if c.f0=5 then beN 8 c.f2 else if c.f0=7 then beN 2 c.f3 else beN 2 c.f3++beN 2 c.f4
def constL (c:Cst):List Int:=beN 1 c.f0++bodyL c
def poolL (p:List Cst):List Int:=beN 2 (p.length:Int)++(p.drop 1).flatMap constL
theorem chkV_all {p:List Cst}:∀ n i,chkV n p i=0→p.length≤i + n→∀ j,i≤j→j < p.length→oneV p (rd_T67 p (j:Int))=0
 | 0,i,_,hl,j,h1,h2 => by omega
 | n + 1,i,h,hl,j,h1,h2 => by
  have hi:i < p.length:=by omega
  unfold chkV at h
  rw [if_pos hi] at h
  by_cases h0:oneV p (rd_T67 p (i:Int))=0
  ·rw [if_pos h0] at h
   by_cases e:j=i
   ·subst e;exact h0
   ·exact chkV_all n (i + 1) h (by omega) j (by omega) h2
  ·rw [if_neg h0] at h
   exact absurd h h0
theorem checkV_ok {p:List Cst} (h:checkV p=0):0 < p.length∧p.length≤1024∧zeroV (rd_T67 p 0)=true∧∀ j:Nat,1≤j→j < p.length→oneV p (rd_T67 p (j:Int))=0:=by
 unfold checkV at h
 by_cases c1:p.length > 1024
 ·rw [if_pos c1] at h;omega
 rw [if_neg c1] at h
 by_cases c2:p.length=0
 ·rw [if_pos c2] at h;omega
 rw [if_neg c2] at h
 by_cases c3:zeroV (rd_T67 p 0)=true
 ·rw [if_pos c3] at h
  exact ⟨by omega,by omega,c3,chkV_all p.length 1 h (by omega)⟩
 ·rw [if_neg c3] at h;omega
structure OkC (c:Cst):Prop where
 tag:c.f0=1 ∨ c.f0=3 ∨ c.f0=5 ∨ c.f0=7 ∨ c.f0=9 ∨ c.f0=10 ∨ c.f0=12
 bare:bareV c=true
 txt:c.f0=1→(encV c.f1).2=0∧(encV c.f1).1.length≤256
 num:c.f0=3→-2147483648≤c.f2∧c.f2≤2147483647
 a:c.f0 ≠ 1→c.f0 ≠ 3→c.f0 ≠ 5→0 < c.f3∧c.f3 < 1024
 b:c.f0 ≠ 1→c.f0 ≠ 3→c.f0 ≠ 5→c.f0 ≠ 7→0 < c.f4∧c.f4 < 1024
theorem oneV_ok {p:List Cst} {c:Cst} (hl:p.length≤1024) (h:oneV p c=0):OkC c:=by
 unfold oneV at h
 by_cases hb:bareV c=true∧leadsV p c=true
 ·rw [if_pos hb] at h
  have ht:¬ (c.f0=1∧¬ ((encV c.f1).2=0∧(encV c.f1).1.length≤256)):=by
   intro hc
   rw [if_pos hc] at h
   omega
  have hL:=hb.2
  unfold leadsV at hL
  have is2:∀ {i t},isV p i t=true→0 < i∧i < 1024:=fun h => by have:=isV_pos h;omega
  refine ⟨?_,hb.1,fun h1 => ?_,fun h3 => ?_,fun h1 h3 h5 => ?_,fun h1 h3 h5 h7 => ?_⟩
  ·by_cases h1:c.f0=1 ∨ c.f0=5
   ·omega
   ·rw [if_neg h1] at hL
    by_cases h3:c.f0=3
    ·omega
    rw [if_neg h3] at hL
    by_cases h7:c.f0=7
    ·omega
    rw [if_neg h7] at hL
    by_cases h12:c.f0=12
    ·omega
    rw [if_neg h12] at hL
    by_cases h9:c.f0=9 ∨ c.f0=10
    ·omega
    rw [if_neg h9] at hL
    cases hL
  ·exact Classical.byContradiction fun hn => ht ⟨h1,hn⟩
  ·rw [if_neg (by omega),if_pos h3] at hL
   exact of_decide_eq_true hL
  ·rw [if_neg (by omega),if_neg h3] at hL
   by_cases h7:c.f0=7
   ·rw [if_pos h7] at hL
    exact is2 hL
   rw [if_neg h7] at hL
   by_cases h12:c.f0=12
   ·rw [if_pos h12,Bool.and_eq_true] at hL
    exact is2 hL.1
   rw [if_neg h12] at hL
   by_cases h9:c.f0=9 ∨ c.f0=10
   ·rw [if_pos h9,Bool.and_eq_true] at hL
    exact is2 hL.1
   rw [if_neg h9] at hL
   cases hL
  ·rw [if_neg (by omega),if_neg h3,if_neg h7] at hL
   by_cases h12:c.f0=12
   ·rw [if_pos h12,Bool.and_eq_true] at hL
    exact is2 hL.2
   rw [if_neg h12] at hL
   by_cases h9:c.f0=9 ∨ c.f0=10
   ·rw [if_pos h9,Bool.and_eq_true] at hL
    exact is2 hL.2
   rw [if_neg h9] at hL
   cases hL
 ·rw [if_neg hb] at h
  omega
theorem bodyL_len {c:Cst} (h:OkC c):(bodyL c).length≤258:=by
 unfold bodyL
 by_cases h1:c.f0=1
 ·rw [if_pos h1,List.length_append,beN_length]
  have:=(h.txt h1).2
  omega
 rw [if_neg h1]
 repeat' split
 all_goals simp only [List.length_append,beN_length]
 all_goals omega
theorem constL_len {c:Cst} (h:OkC c):(constL c).length≤259:=by
 unfold constL
 have:=bodyL_len h
 rw [List.length_append,beN_length]
 omega
theorem i32_top {x:Int} (h0:-2147483648≤x) (h1:x≤2147483647):x / 2 ^ (8 * 4 - 1)=0 ∨ x / 2 ^ (8 * 4 - 1)=-1:=by omega
theorem wU_ok {n:Nat} {x:Int} {bs:List Int} (h:bs.length + n≤1048576∧0≤x∧x < 2 ^ (8 * n)):wU n x bs=some (bs++beN n x):=by unfold wU;rw [if_pos h]
theorem pool_Encode.ev_one {c:Cst} (hf:FitC c) (h:OkC c) (bs:List Int) (hl:bs.length + 259≤1048576):Ev (fun k => pool_Encode.one k c bs) (bs++constL c):=by
 have htag:0≤c.f0∧c.f0 < 2 ^ (8 * 1):=by have:=h.tag;omega
 have e1:wU 1 c.f0 bs=some (bs++beN 1 c.f0):=wU_ok ⟨by omega,htag⟩
 have hl1:(bs++beN 1 c.f0).length=bs.length + 1:=by rw [List.length_append,beN_length]
 unfold pool_Encode.one constL bodyL
 rw [e1]
 simp only [Option.bind_some]
 by_cases h1:c.f0=1
 ·have ht:=h.txt h1
  simp only [if_pos h1]
  refine Ev.bind (text_Encode.ev c.f1 hf.1) ?_
  rw [wU_ok (by rw [hl1];omega)]
  simp only [Option.bind_some]
  unfold wB
  rw [if_pos (by rw [List.length_append,hl1,beN_length];omega)]
  simp only [List.append_assoc]
  exact Ev.now _
 simp only [if_neg h1]
 by_cases h3:c.f0=3
 ·simp only [if_pos h3]
  unfold wI
  rw [if_pos ⟨by rw [hl1];omega,fun _ => i32_top (h.num h3).1 (h.num h3).2⟩]
  simp only [List.append_assoc]
  exact Ev.now _
 simp only [if_neg h3]
 by_cases h5:c.f0=5
 ·simp only [if_pos h5]
  unfold wI
  rw [if_pos ⟨by rw [hl1];omega,fun h => by omega⟩]
  simp only [List.append_assoc]
  exact Ev.now _
 simp only [if_neg h5]
 have ha:=h.a h1 h3 h5
 rw [wU_ok (by rw [hl1];omega)]
 simp only [Option.bind_some]
 by_cases h7:c.f0=7
 ·simp only [if_pos h7,List.append_assoc]
  exact Ev.now _
 simp only [if_neg h7]
 have hb:=h.b h1 h3 h5 h7
 rw [wU_ok (by rw [List.length_append,hl1,beN_length];omega)]
 simp only [List.append_assoc]
 exact Ev.now _
theorem drop_rd {p:List Cst} {i:Nat} (h:i < p.length):p.drop i=rd_T67 p (i:Int) :: p.drop (i + 1):=by
 rw [List.drop_eq_getElem_cons h]
 congr 1
 unfold rd_T67
 rw [Int.toNat_natCast,List.getD_eq_getElem?_getD,List.getElem?_eq_getElem h]
 rfl
theorem pool_Encode.ev_l {p:List Cst} (hp:∀ c ∈ p,FitC c) (hl:p.length≤1024) (h1:∀ j:Nat,1≤j→j < p.length→oneV p (rd_T67 p (j:Int))=0) :
  ∀ n i (bs:List Int),p.length≤i + 1 + n→bs.length≤2 + 259 * i→i≤1024→Ev (fun k => pool_Encode.l0 k p i bs) (bs++(p.drop (i + 1)).flatMap constL):=by
 have stop:∀ i (bs:List Int),¬ i + 1 < p.length→bs.length≤1048576→Ev (fun k => pool_Encode.l0 k p i bs) (bs++(p.drop (i + 1)).flatMap constL):=by
  intro i bs hi hb
  refine Ev.step (f:=fun _ => some bs) (fun k => by simp only [pool_Encode.l0];rw [if_neg hi,if_pos hb]) ?_
  rw [List.drop_eq_nil_of_le (by omega),List.flatMap_nil,List.append_nil]
  exact Ev.now _
 intro n
 induction n with
 | zero => intro i bs h hb hi;exact stop i bs (by omega) (by omega)
 | succ n ih =>
  intro i bs h hb hi
  by_cases hlt:i + 1 < p.length
  ·have ok:=oneV_ok hl (h1 (i + 1) (by omega) hlt)
   have hc:=constL_len ok
   have hfit:FitC (rd_T67 p ((i + 1:Nat):Int)):=fit_rd hp _
   refine Ev.step (f:=fun k => (pool_Encode.one k (rd_T67 p ((i + 1:Nat):Int)) bs).bind fun b => pool_Encode.l0 k p (i + 1) b) (fun k => by simp only [pool_Encode.l0];rw [if_pos hlt];rfl) ?_
   rw [drop_rd hlt,List.flatMap_cons,← List.append_assoc]
   exact Ev.bind (pool_Encode.ev_one hfit ok bs (by omega)) (ih (i + 1) _ (by omega) (by rw [List.length_append];omega) (by omega))
  ·exact stop i bs hlt (by omega)
def encPV (p:List Cst):List Int × Int:=if checkV p=0 then (poolL p,0) else ([],checkV p)
theorem pool_Encode.ev (p:List Cst) (hp:∀ c ∈ p,FitC c):Ev (fun k => pool_Encode.f k p) (encPV p):=by
 unfold pool_Encode.f encPV
 refine Ev.bind (pool_Check.ev p hp) ?_
 by_cases h:checkV p=0
 ·obtain ⟨h0,hl,hz,h1⟩:=checkV_ok h
  simp only [if_pos h]
  refine Ev.congr (fun k => if_pos ⟨h0,hl⟩) ?_
  rw [wU_ok (by simp only [List.length_nil];omega)]
  simp only [Option.bind_some,List.nil_append]
  refine Ev.bind (pool_Encode.ev_l hp hl h1 p.length 0 (beN 2 (p.length:Int)) (by omega) (by rw [beN_length];omega) (by omega)) ?_
  exact Ev.now _
 ·simp only [if_neg h]
  exact Ev.now _
theorem flat_len {l:List Cst}:(∀ c ∈ l,OkC c)→(l.flatMap constL).length≤259 * l.length:=by
 induction l with
 | nil => intro _;simp
 | cons c l ih =>
  intro h
  have h1:=constL_len (h c List.mem_cons_self)
  have h2:=ih (fun d hd => h d (List.mem_cons_of_mem _ hd))
  rw [List.flatMap_cons,List.length_append,List.length_cons]
  omega
theorem ok_drop {p:List Cst} (h:checkV p=0):∀ c ∈ p.drop 1,OkC c:=by
 obtain ⟨h0,hl,hz,h1⟩:=checkV_ok h
 intro c hc
 obtain ⟨j,hj⟩:=List.getElem?_of_mem hc
 rw [List.getElem?_drop] at hj
 have hlt:1 + j < p.length:=(List.getElem?_eq_some_iff.1 hj).1
 have:=oneV_ok hl (h1 (1 + j) (by omega) hlt)
 unfold rd_T67 at this
 rw [Int.toNat_natCast,List.getD_eq_getElem?_getD,hj] at this
 exact this
theorem poolL_len {p:List Cst} (h:checkV p=0):(poolL p).length≤265000:=by
 obtain ⟨h0,hl,hz,h1⟩:=checkV_ok h
 have:=flat_len (ok_drop h)
 unfold poolL
 rw [List.length_append,beN_length]
 rw [List.length_drop] at this
 omega
end Go.Proofs.YtbgniepcoaiinaaDoor.Px
namespace Go.Proofs.YtbgniepcoaiinaaDoor.Px
open Go.RowKit Go.Proofs.YtbgniepcoaiinaaDoorW.PrintWords Go.Proofs.YtbgniepcoaiinaaDoorW.PrintLast Go.Proofs.YtbgniepcoaiinaaDoorW.PrintMore
set_option linter.unusedVariables false
set_option linter.unusedSimpArgs false
def twosL:List Int→List Int
 | [] => []
 | x :: l => beN 2 x++twosL l
def longL (ys:List Int):List Int:=beN 4 (ys.length:Int)++ys
def trapL (t:Trp):List Int:=twosL [t.f0,t.f1,t.f2,t.f3]
def mapsL (p:List Cst) (maps:List Int):List Int:=if maps.length=0 then twosL [0] else twosL [1,placeV p sMaps]++longL maps
def mbodyL (p:List Cst) (m:Mth):List Int:=twosL [m.f3,m.f4]++(longL m.f5++(twosL [(m.f6.length:Int)]++(m.f6.flatMap trapL++mapsL p m.f7)))
def mthL (p:List Cst) (m:Mth):List Int:=twosL [m.f0,m.f1,m.f2,1,placeV p sCode]++longL (mbodyL p m)
def fldL (f:Fld):List Int:=twosL [f.f0,f.f1,f.f2,0]
def classL (p:List Cst) (t s:Int) (fs:List Fld) (ms:List Mth):List Int :=
 beN 4 3405691582++(beN 4 61++(poolL p++(twosL [0,t,s,0,(fs.length:Int)]++(fs.flatMap fldL++(twosL [(ms.length:Int)]++(ms.flatMap (mthL p)++twosL [0]))))))
theorem twosL_len:∀ l,(twosL l).length=2 * l.length
 | [] => rfl
 | x :: l => by unfold twosL;rw [List.length_append,beN_length,twosL_len l,List.length_cons];omega
theorem longL_len (ys:List Int):(longL ys).length=4 + ys.length:=by unfold longL;rw [List.length_append,beN_length]
theorem trapL_len (t:Trp):(trapL t).length=8:=twosL_len _
theorem fldL_len (f:Fld):(fldL f).length=8:=twosL_len _
theorem flat_len_eq {α:Type} {f:α→List Int} {n:Nat} (h:∀ x,(f x).length=n):∀ l:List α,(l.flatMap f).length=n * l.length
 | [] => by simp
 | x :: l => by rw [List.flatMap_cons,List.length_append,h x,flat_len_eq h l,List.length_cons,Nat.mul_succ];omega
theorem flat_len_le {α:Type} {f:α→List Int} {n:Nat}:∀ l:List α,(∀ x ∈ l,(f x).length≤n)→(l.flatMap f).length≤n * l.length
 | [],_ => by simp
 | x :: l,h => by
  have h1:=h x List.mem_cons_self
  have h2:=flat_len_le l (fun y hy => h y (List.mem_cons_of_mem _ hy))
  rw [List.flatMap_cons,List.length_append,List.length_cons,Nat.mul_succ]
  omega
def Two (x:Int):Prop:=0≤x∧x < 65536
theorem wTwos_ok:∀ (l bs:List Int),(∀ x ∈ l,Two x)→bs.length + 2 * l.length≤1048576→wTwos l bs=some (bs++twosL l)
 | [],bs,_,_ => by unfold wTwos twosL;rw [List.append_nil]
 | x :: l,bs,h,hl => by
  have h1:=h x List.mem_cons_self
  rw [List.length_cons] at hl
  unfold wTwos twosL
  rw [wU_ok ⟨by omega,h1.1,h1.2⟩,Option.bind_some,wTwos_ok l _ (fun y hy => h y (List.mem_cons_of_mem _ hy)) (by rw [List.length_append,beN_length];omega),List.append_assoc]
theorem wLong_ok {ys bs:List Int} (h:bs.length + (4 + ys.length)≤1048576):wLong ys bs=some (bs++longL ys):=by
 unfold wLong longL
 rw [wU_ok ⟨by omega,by omega,by omega⟩,Option.bind_some]
 unfold wB
 rw [if_pos (by rw [List.length_append,beN_length];omega),List.append_assoc]
def OkT (t:Trp):Prop:=Two t.f0∧Two t.f1∧Two t.f2∧Two t.f3
theorem two_all4 {a b c d:Int} (ha:Two a) (hb:Two b) (hc:Two c) (hd:Two d):∀ x ∈ [a,b,c,d],Two x:=fun x hx => by
 simp only [List.mem_cons,List.not_mem_nil,or_false] at hx
 rcases hx with rfl|rfl|rfl|rfl <;> assumption
theorem two_all5 {a b c d e:Int} (ha:Two a) (hb:Two b) (hc:Two c) (hd:Two d) (he:Two e):∀ x ∈ [a,b,c,d,e],Two x:=fun x hx => by
 simp only [List.mem_cons,List.not_mem_nil,or_false] at hx
 rcases hx with rfl|rfl|rfl|rfl|rfl <;> assumption
theorem two_all2 {a b:Int} (ha:Two a) (hb:Two b):∀ x ∈ [a,b],Two x:=fun x hx => by
 simp only [List.mem_cons,List.not_mem_nil,or_false] at hx
 rcases hx with rfl|rfl <;> assumption
theorem two_all1 {a:Int} (ha:Two a):∀ x ∈ [a],Two x:=fun x hx => by rw [List.mem_singleton.1 hx];exact ha
theorem two_lit (n:Nat) (h:n < 65536):Two (n:Int):=⟨by omega,by omega⟩
theorem wTraps_ok:∀ (l:List Trp) (bs:List Int),(∀ t ∈ l,OkT t)→bs.length + 8 * l.length≤1048576→wTraps l bs=some (bs++l.flatMap trapL)
 | [],bs,_,_ => by unfold wTraps;rw [List.flatMap_nil,List.append_nil]
 | t :: l,bs,h,hl => by
  have h1:=h t List.mem_cons_self
  rw [List.length_cons] at hl
  unfold wTraps
  rw [wTwos_ok _ _ (two_all4 h1.1 h1.2.1 h1.2.2.1 h1.2.2.2) (by simp only [List.length_cons,List.length_nil];omega),Option.bind_some,wTraps_ok l _ (fun y hy => h y (List.mem_cons_of_mem _ hy)) (by rw [List.length_append,twosL_len];simp only [List.length_cons,List.length_nil];omega),List.flatMap_cons,List.append_assoc]
  rfl
structure OkM (p:List Cst) (m:Mth):Prop where
 n0:Two m.f0
 n1:Two m.f1
 n2:Two m.f2
 n3:Two m.f3
 n4:Two m.f4
 code:m.f5.length≤4096
 many:m.f6.length≤64
 traps:∀ t ∈ m.f6,OkT t
 maps:m.f7.length≤4096
 pc:0 < placeV p sCode
 pm:m.f7.length=0 ∨ 0 < placeV p sMaps
def OkF (f:Fld):Prop:=Two f.f0∧Two f.f1∧Two f.f2
structure OkCls (p:List Cst) (t s:Int) (fs:List Fld) (ms:List Mth):Prop where
 pool:checkV p=0
 this:Two t
 super:Two s
 fl:fs.length≤64
 ml:ms.length≤64
 f:∀ f ∈ fs,OkF f
 m:∀ m ∈ ms,OkM p m
theorem placeG_ok (p:List Cst) (s:ByteArray):∀ n i,0 < placeG n p s i→isV p (placeG n p s i) 1=true∧(rd_T67 p (placeG n p s i)).f1.toList=s.toList
 | 0,i,h => by unfold placeG at h;omega
 | n + 1,i,h => by
  unfold placeG at h ⊢
  by_cases hi:i < p.length
  ·rw [if_pos hi] at h ⊢
   by_cases hc:isV p (i:Int) 1=true∧(rd_T67 p (i:Int)).f1.toList=s.toList
   ·rw [if_pos hc];exact hc
   ·rw [if_neg hc] at h ⊢;exact placeG_ok p s n (i + 1) h
  ·rw [if_neg hi] at h;omega
theorem place_ok {p:List Cst} {s:ByteArray} (h:0 < placeV p s):(textV p (placeV p s)).2=true∧(textV p (placeV p s)).1.toList=s.toList∧placeV p s < p.length:=by
 obtain ⟨h1,h2⟩:isV p (placeV p s) 1=true∧(rd_T67 p (placeV p s)).f1.toList=s.toList:=placeG_ok p s _ _ h
 refine ⟨?_,?_,(isV_pos h1).2.1⟩
 ·unfold textV;rw [if_pos h1]
 ·unfold textV;rw [if_pos h1];exact h2
theorem txt_two {p:List Cst} {i:Int} (hp:p.length≤1024) (h:txt p i=true):Two i:=by
 unfold txt textV at h
 by_cases hv:isV p i 1=true
 ·have:=isV_pos hv;exact ⟨by omega,by omega⟩
 ·rw [if_neg hv] at h;cases h
theorem cl_two {p:List Cst} {i:Int} (hp:p.length≤1024) (h:cl p i=true):Two i:=by
 unfold cl classV at h
 by_cases hv:isV p i 7=true
 ·have:=isV_pos hv;exact ⟨by omega,by omega⟩
 ·rw [if_neg hv] at h;cases h
theorem flags_two {n:Int} (h:flagsV n=true):Two n:=by
 have:=of_decide_eq_true h
 exact ⟨by omega,by omega⟩
theorem trapV_ok {p:List Cst} {n:Nat} {t:Trp} (hp:p.length≤1024) (hn:n≤4096) (h:trapV p (n:Int) t=true):OkT t:=by
 unfold trapV at h
 by_cases c1:t.f0 < 0
 ·rw [if_pos c1] at h;cases h
 rw [if_neg c1] at h
 by_cases c2:t.f0 ≥ t.f1
 ·rw [if_pos c2] at h;cases h
 rw [if_neg c2] at h
 by_cases c3:t.f1 > (n:Int)
 ·rw [if_pos c3] at h;cases h
 rw [if_neg c3] at h
 by_cases c4:t.f2 < 0 ∨ t.f2 ≥ (n:Int)
 ·rw [if_pos c4] at h;cases h
 rw [if_neg c4] at h
 refine ⟨⟨by omega,by omega⟩,⟨by omega,by omega⟩,⟨by omega,by omega⟩,?_⟩
 by_cases c5:t.f3=0
 ·rw [c5];exact ⟨by omega,by omega⟩
 ·rw [if_neg c5] at h;exact cl_two hp h
theorem methV_ok {p:List Cst} {m:Mth} (hp:p.length≤1024) (hl:m.f6.length≤64) (h:methV p m=true):OkM p m:=by
 unfold methV restV at h
 simp only [Bool.and_eq_true,Bool.or_eq_true,decide_eq_true_eq,List.all_eq_true] at h
 obtain ⟨ht,⟨⟨⟨⟨⟨⟨h0,h1,h2⟩,h3⟩,h4⟩,h5⟩,h7⟩,hc⟩,hm⟩:=h
 exact ⟨flags_two h0,txt_two hp h1,txt_two hp h2,⟨by omega,by omega⟩,⟨by omega,by omega⟩,h5.2,hl,fun t hx => trapV_ok hp h5.2 (ht t hx),h7,hc,hm⟩
theorem fieldV_ok {p:List Cst} {f:Fld} (hp:p.length≤1024) (h:fieldV p f=true):OkF f:=by
 unfold fieldV at h
 simp only [Bool.and_eq_true] at h
 exact ⟨flags_two h.1,txt_two hp h.2.1,txt_two hp h.2.2⟩
theorem classCheck_ok {p:List Cst} {t s:Int} {fs:List Fld} {ms:List Mth} (h:classCheckV p t s fs ms=0):OkCls p t s fs ms:=by
 unfold classCheckV at h
 by_cases hp:checkV p=0
 ·have hl:=(checkV_ok hp).2.1
  rw [if_pos hp] at h
  by_cases hg:longV (mx (fs.length:Int) (ms.length:Int)) ms=true
  ·rw [if_pos hg] at h;cases h
  ·rw [if_neg hg] at h
   have hg:=Bool.eq_false_iff.2 hg
   unfold longV at hg
   rw [Bool.or_eq_false_iff,decide_eq_false_iff_not] at hg
   have hmx:=hg.1
   have hfs:fs.length≤64∧ms.length≤64:=by unfold mx at hmx;split at hmx <;> constructor <;> omega
   have hany:=hg.2
   have hf6:∀ m ∈ ms,m.f6.length≤64:=fun m hm => by
    have:=List.any_eq_false.1 hany m hm
    rw [decide_eq_true_eq] at this
    omega
   unfold fineV at h
   by_cases hf:((cl p t && cl p s) && fs.all (fieldV p) && ms.all (methV p))=true
   ·simp only [Bool.and_eq_true,List.all_eq_true] at hf
    exact ⟨hp,cl_two hl hf.1.1.1,cl_two hl hf.1.1.2,hfs.1,hfs.2,fun f hx => fieldV_ok hl (hf.1.2 f hx),fun m hx => methV_ok hl (hf6 m hx) (hf.2 m hx)⟩
   ·rw [if_neg hf] at h;cases h
 ·rw [if_neg hp] at h
  exact absurd h hp
theorem mapsL_len {p:List Cst} {maps:List Int} (h:maps.length≤4096):(mapsL p maps).length≤4104:=by
 unfold mapsL
 split
 ·rw [twosL_len];simp
 ·rw [List.length_append,twosL_len,longL_len];simp only [List.length_cons,List.length_nil];omega
theorem mbodyL_len {p:List Cst} {m:Mth} (h:OkM p m):(mbodyL p m).length≤8724:=by
 have h1:=mapsL_len (p:=p) h.maps
 have h2:=h.code
 have h3:=h.many
 unfold mbodyL
 rw [List.length_append,List.length_append,List.length_append,List.length_append,twosL_len,twosL_len,longL_len,flat_len_eq trapL_len]
 simp only [List.length_cons,List.length_nil]
 omega
theorem mthL_len {p:List Cst} {m:Mth} (h:OkM p m):(mthL p m).length≤8738:=by
 have h1:=mbodyL_len h
 unfold mthL
 rw [List.length_append,twosL_len,longL_len]
 simp only [List.length_cons,List.length_nil]
 omega
theorem place_two {p:List Cst} {s:ByteArray} (hp:p.length≤1024) (h:0 < placeV p s):Two (placeV p s):=by have:=(place_ok h).2.2;exact ⟨by omega,by omega⟩
theorem Ev.pos {α:Type} {c:Prop} [Decidable c] {F G:Nat→Option α} {r:α} (hc:c) (h:Ev F r):Ev (fun k => if c then F k else G k) r:=Ev.congr (fun k => if_pos hc) h
theorem class_body.ev_maps {p:List Cst} {m:Mth} (hp:p.length≤1024) (h:OkM p m) (b4:List Int) (hl4:b4.length≤4618):Ev (fun k => if m.f7.length=0 then wTwos [0] b4 else (class_place.f k p sMaps).bind fun x => (wTwos [1,x] b4).bind (wLong m.f7)) (b4++mapsL p m.f7):=by
 have h4:=h.maps
 unfold mapsL
 by_cases h0:m.f7.length=0
 ·simp only [if_pos h0]
  rw [wTwos_ok _ _ (two_all1 ⟨by omega,by omega⟩) (by simp only [List.length_cons,List.length_nil];omega)]
  exact Ev.now _
 ·simp only [if_neg h0]
  have hpm:=h.pm.resolve_left h0
  refine Ev.bind (place.ev p sMaps (by omega)) ?_
  rw [wTwos_ok _ _ (two_all2 ⟨by omega,by omega⟩ (place_two hp hpm)) (by simp only [List.length_cons,List.length_nil];omega),Option.bind_some,wLong_ok (by rw [List.length_append,twosL_len];simp only [List.length_cons,List.length_nil];omega),List.append_assoc]
  exact Ev.now _
theorem class_body.ev {p:List Cst} {m:Mth} (hp:p.length≤1024) (h:OkM p m):Ev (fun k => class_body.f k p m.f3 m.f4 m.f5 m.f6 m.f7) (mbodyL p m):=by
 have hb:=mbodyL_len h
 have h2:=h.code
 have h3:=h.many
 have e1:wTwos [m.f3,m.f4] []=some (twosL [m.f3,m.f4]):=wTwos_ok _ _ (two_all2 h.n3 h.n4) (by simp only [List.length_cons,List.length_nil];omega)
 have e2:wLong m.f5 (twosL [m.f3,m.f4])=some (twosL [m.f3,m.f4]++longL m.f5):=wLong_ok (by rw [twosL_len];simp only [List.length_cons,List.length_nil];omega)
 have e3:wTwos [(m.f6.length:Int)] (twosL [m.f3,m.f4]++longL m.f5)=some (twosL [m.f3,m.f4]++longL m.f5++twosL [(m.f6.length:Int)]):=wTwos_ok _ _ (two_all1 (two_lit _ (by omega))) (by rw [List.length_append,twosL_len,longL_len];simp only [List.length_cons,List.length_nil];omega)
 have e4:wTraps m.f6 (twosL [m.f3,m.f4]++longL m.f5++twosL [(m.f6.length:Int)])=some (twosL [m.f3,m.f4]++longL m.f5++twosL [(m.f6.length:Int)]++m.f6.flatMap trapL):=wTraps_ok _ _ h.traps (by rw [List.length_append,List.length_append,twosL_len,twosL_len,longL_len];simp only [List.length_cons,List.length_nil];omega)
 obtain ⟨b4,hb4⟩:∃ b4,b4=twosL [m.f3,m.f4]++longL m.f5++twosL [(m.f6.length:Int)]++m.f6.flatMap trapL:=⟨_,rfl⟩
 have hl4:b4.length≤4618:=by
  rw [hb4,List.length_append,List.length_append,List.length_append,twosL_len,twosL_len,longL_len,flat_len_eq trapL_len]
  simp only [List.length_cons,List.length_nil]
  omega
 have hbl:mbodyL p m=b4++mapsL p m.f7:=by rw [hb4];unfold mbodyL;simp only [List.append_assoc]
 have hfin:(b4++mapsL p m.f7).length≤1048576:=by rw [← hbl];omega
 have htr:m.f6.length≤1048576:=by omega
 rw [hbl]
 clear hbl
 have e:(fun k => class_body.f k p m.f3 m.f4 m.f5 m.f6 m.f7)=fun k => if m.f6.length≤1048576 then ((if m.f7.length=0 then wTwos [0] b4 else (class_place.f k p sMaps).bind fun x => (wTwos [1,x] b4).bind (wLong m.f7)).bind fun b => if b.length≤1048576 then some b else none) else none:=by
  funext k
  unfold class_body.f
  rw [e1,Option.bind_some,e2,Option.bind_some,e3,Option.bind_some,e4,Option.bind_some,← hb4]
 rw [e]
 exact Ev.pos htr (Ev.bind (class_body.ev_maps hp h b4 hl4) (Ev.pos (F:=fun _ => some (b4++mapsL p m.f7)) (G:=fun _ => none) hfin (Ev.now _)))
theorem wFlds_ok:∀ (l:List Fld) (bs:List Int),(∀ f ∈ l,OkF f)→bs.length + 8 * l.length≤1048576→wFlds l bs=some (bs++l.flatMap fldL)
 | [],bs,_,_ => by unfold wFlds;rw [List.flatMap_nil,List.append_nil]
 | t :: l,bs,h,hl => by
  have h1:=h t List.mem_cons_self
  rw [List.length_cons] at hl
  unfold wFlds
  rw [wTwos_ok _ _ (two_all4 h1.1 h1.2.1 h1.2.2 ⟨by omega,by omega⟩) (by simp only [List.length_cons,List.length_nil];omega),Option.bind_some,wFlds_ok l _ (fun y hy => h y (List.mem_cons_of_mem _ hy)) (by rw [List.length_append,twosL_len];simp only [List.length_cons,List.length_nil];omega),List.flatMap_cons,List.append_assoc]
  rfl
theorem wMths.ev {p:List Cst} (hp:p.length≤1024):∀ (l:List Mth) (bs:List Int),(∀ m ∈ l,OkM p m)→bs.length + 8738 * l.length≤1048576→Ev (fun k => wMths k p l bs) (bs++l.flatMap (mthL p))
 | [],bs,_,_ => by unfold wMths;rw [List.flatMap_nil,List.append_nil];exact Ev.now _
 | m :: l,bs,h,hl => by
  have h1:=h m List.mem_cons_self
  have hb:=mbodyL_len h1
  have hm:=mthL_len h1
  rw [List.length_cons] at hl
  unfold wMths
  refine Ev.bind (place.ev p sCode (by omega)) ?_
  rw [wTwos_ok _ _ (two_all5 h1.n0 h1.n1 h1.n2 ⟨by omega,by omega⟩ (place_two hp h1.pc)) (by simp only [List.length_cons,List.length_nil];omega)]
  simp only [Option.bind_some]
  refine Ev.bind (class_body.ev hp h1) ?_
  rw [wLong_ok (by rw [List.length_append,twosL_len];simp only [List.length_cons,List.length_nil];omega)]
  simp only [Option.bind_some]
  have e:bs++twosL [m.f0,m.f1,m.f2,1,placeV p sCode]++longL (mbodyL p m)=bs++mthL p m:=by unfold mthL;rw [List.append_assoc]
  rw [e,List.flatMap_cons,← List.append_assoc]
  exact wMths.ev hp l _ (fun y hy => h y (List.mem_cons_of_mem _ hy)) (by rw [List.length_append];omega)
theorem classL_len {p:List Cst} {t s:Int} {fs:List Fld} {ms:List Mth} (h:OkCls p t s fs ms):(classL p t s fs ms).length≤900000:=by
 have h1:=poolL_len h.pool
 have h2:=h.fl
 have h3:=h.ml
 have h4:=flat_len_le (f:=mthL p) ms (fun m hm => mthL_len (h.m m hm))
 unfold classL
 rw [List.length_append,List.length_append,List.length_append,List.length_append,List.length_append,List.length_append,List.length_append,beN_length,beN_length,twosL_len,twosL_len,twosL_len,flat_len_eq fldL_len]
 simp only [List.length_cons,List.length_nil]
 omega
theorem class_Encode.ev_w {p:List Cst} {t s:Int} {fs:List Fld} {ms:List Mth} (h:OkCls p t s fs ms):Ev (fun k => class_Encode.w k p (poolL p) t s fs ms) (classL p t s fs ms):=by
 have hp:=(checkV_ok h.pool).2.1
 have h1:=poolL_len h.pool
 have h2:=h.fl
 have h3:=h.ml
 have h4:=flat_len_le (f:=mthL p) ms (fun m hm => mthL_len (h.m m hm))
 have hc:=classL_len h
 unfold class_Encode.w
 rw [wU_ok ⟨by simp only [List.length_nil];omega,by omega,by omega⟩]
 simp only [Option.bind_some,List.nil_append]
 rw [wU_ok ⟨by rw [beN_length];omega,by omega,by omega⟩]
 simp only [Option.bind_some]
 unfold wB
 rw [if_pos (by rw [List.length_append,beN_length,beN_length];omega)]
 simp only [Option.bind_some]
 refine Ev.congr (fun k => if_pos ⟨by omega,by omega⟩) ?_
 rw [wTwos_ok _ _ (two_all5 ⟨by omega,by omega⟩ h.this h.super ⟨by omega,by omega⟩ (two_lit _ (by omega))) (by rw [List.length_append,List.length_append,beN_length,beN_length];simp only [List.length_cons,List.length_nil];omega)]
 simp only [Option.bind_some]
 rw [wFlds_ok _ _ h.f (by rw [List.length_append,List.length_append,List.length_append,beN_length,beN_length,twosL_len];simp only [List.length_cons,List.length_nil];omega)]
 simp only [Option.bind_some]
 rw [wTwos_ok _ _ (two_all1 (two_lit _ (by omega))) (by rw [List.length_append,List.length_append,List.length_append,List.length_append,beN_length,beN_length,twosL_len,flat_len_eq fldL_len];simp only [List.length_cons,List.length_nil];omega)]
 simp only [Option.bind_some]
 refine Ev.bind (wMths.ev hp ms _ h.m (by rw [List.length_append,List.length_append,List.length_append,List.length_append,List.length_append,beN_length,beN_length,twosL_len,twosL_len,flat_len_eq fldL_len];simp only [List.length_cons,List.length_nil];omega)) ?_
 rw [wTwos_ok _ _ (two_all1 ⟨by omega,by omega⟩) (by rw [List.length_append,List.length_append,List.length_append,List.length_append,List.length_append,List.length_append,beN_length,beN_length,twosL_len,twosL_len,flat_len_eq fldL_len];simp only [List.length_cons,List.length_nil];omega)]
 simp only [Option.bind_some]
 have e:beN 4 3405691582++beN 4 61++poolL p++twosL [0,t,s,0,(fs.length:Int)]++fs.flatMap fldL++twosL [(ms.length:Int)]++ms.flatMap (mthL p)++twosL [0]=classL p t s fs ms:=by unfold classL;simp only [List.append_assoc]
 rw [e]
 exact Ev.congr (fun k => if_pos (by omega)) (Ev.now _)
def encCV (p:List Cst) (t s:Int) (fs:List Fld) (ms:List Mth):List Int × Int:=if classCheckV p t s fs ms=0 then (classL p t s fs ms,0) else ([],classCheckV p t s fs ms)
theorem class_Encode.ev (p:List Cst) (t s:Int) (fs:List Fld) (ms:List Mth) (hl:p.length≤1048576) (hfl:fs.length≤1048576) (hml:ms.length≤1048576) (hf:∀ f ∈ fs,FitF f) (hm:∀ m ∈ ms,FitM m) (hp:∀ c ∈ p,FitC c):Ev (fun k => class_Encode.f k p t s fs ms) (encCV p t s fs ms):=by
 unfold class_Encode.f encCV
 refine Ev.bind (class_Check.ev p hl t s fs ms hfl hml hf hm hp) ?_
 by_cases h:classCheckV p t s fs ms=0
 ·have hk:=classCheck_ok h
  simp only [if_pos h]
  refine Ev.bind (pool_Encode.ev p hp) ?_
  unfold encPV
  rw [if_pos hk.pool]
  exact Ev.bind (class_Encode.ev_w hk) (Ev.now _)
 ·simp only [if_neg h]
  exact Ev.now _
end Go.Proofs.YtbgniepcoaiinaaDoor.Px
namespace Go.Proofs.YtbgniepcoaiinaaDoor.Px
open Go.RowKit Go.Proofs.YtbgniepcoaiinaaDoorW.PrintWords Go.Proofs.YtbgniepcoaiinaaDoorW.PrintLast Go.Proofs.YtbgniepcoaiinaaDoorW.PrintMore
set_option linter.unusedVariables false
set_option linter.unusedSimpArgs false
theorem beN_bytes:∀ n x,IsBytes (beN n x)
 | 0,_ => fun y hy => by cases hy
 | n + 1,x => fun y hy => by
  rcases List.mem_cons.1 hy with rfl|hy
  ·omega
  ·exact beN_bytes n x y hy
theorem beV_beN:∀ n x,beV (beN n x)=x % 256 ^ n
 | 0,x => by simp [beN,beV]
 | n + 1,x => by
  rw [show beN (n + 1) x=(x / 2 ^ (8 * n) % 256) :: beN n x from rfl,beV_cons,beN_length,beV_beN n x]
  have e:(2:Int) ^ (8 * n)=256 ^ n:=by rw [Int.pow_mul];rfl
  rw [e,Int.pow_succ]
  have hp:(0:Int) < 256 ^ n:=Int.pow_pos (by decide)
  generalize (256:Int) ^ n=q at *
  have e1:=Int.emod_add_mul_ediv x q
  have e2:=Int.emod_add_mul_ediv (x / q) 256
  have e3:=Int.emod_add_mul_ediv x (q * 256)
  have e4:x / (q * 256)=x / q / 256:=(Int.ediv_ediv_of_nonneg (by omega)).symm
  rw [e4,Int.mul_assoc] at e3
  rw [Int.mul_comm _ q]
  have e5:q * (x / q)=q * (x / q % 256) + q * (256 * (x / q / 256)):=by rw [← Int.mul_add,e2]
  omega
theorem rdL_mid {A X R:List Int} {q n:Nat} (hq:A.length=q) (hn:X.length=n):rdL (A++X++R) q n=X∧rdE (A++X++R) q n=0∧rdP (A++X++R) q n=q + n:=by
 have h:q + n≤(A++X++R).length:=by rw [List.length_append,List.length_append];omega
 refine ⟨?_,if_pos h,if_pos h⟩
 unfold rdL
 rw [if_pos h,List.append_assoc,List.take_append,List.take_of_length_le (by omega),List.drop_append,List.drop_eq_nil_of_le (by omega),hq]
 simp only [List.nil_append,Nat.sub_self,List.drop_zero]
 rw [show q + n - q=n by omega,List.take_append,List.take_of_length_le (by omega),hn,Nat.sub_self]
 simp
theorem uV_mid {A R:List Int} {q n:Nat} {x:Int} (hq:A.length=q) (h0:0≤x) (h1:x < 256 ^ n):uV (A++beN n x++R) q n=(x,0,q + n):=by
 obtain ⟨e1,e2,e3⟩:=rdL_mid (A:=A) (X:=beN n x) (R:=R) hq (beN_length n x)
 unfold uV
 rw [e1,e2,e3,beV_beN,Int.emod_eq_of_lt h0 h1]
theorem intV_beN4 {x:Int} (h0:-2147483648≤x) (h1:x≤2147483647):intV (beN 4 x)=x:=by
 have hr:rd (beN 4 x) 0=x / 16777216 % 256:=by simp [beN,rd]
 unfold intV
 rw [hr,beV_beN,beN_length]
 split <;> omega
theorem intV_beN8 {x:Int} (h0:-9223372036854775808≤x) (h1:x≤9223372036854775807):intV (beN 8 x)=x:=by
 have hr:rd (beN 8 x) 0=x / 72057594037927936 % 256:=by simp [beN,rd]
 unfold intV
 rw [hr,beV_beN,beN_length]
 split <;> omega
theorem iV_mid {A X R:List Int} {q n:Nat} (hq:A.length=q) (hn:X.length=n):iV (A++X++R) q n=(intV X,0,q + n):=by
 obtain ⟨e1,e2,e3⟩:=rdL_mid (A:=A) (X:=X) (R:=R) hq hn
 have h:q + n≤(A++X++R).length:=by rw [List.length_append,List.length_append];omega
 unfold iV
 rw [if_pos h,e1]
theorem no_text {s:ByteArray} (h:s.toList=[]):s=⟨#[]⟩:=by
 rw [Lib.toList_data] at h
 cases s with
 | mk d =>
  have:d=#[]:=by
   have:=congrArg List.toArray h
   simpa using this
  rw [this]
theorem DecV_encV {s:ByteArray} (h:(encV s).2=0):DecV (encV s).1=(s,0):=by
 unfold encV at h ⊢
 by_cases hv:Lib.validD s.data.toList=true
 ·rw [if_pos hv]
  show decV _ (encL s.data.toList) []=_
  rw [dec_enc s.data.toList.length s.data.toList [] _ (Nat.le_refl _) hv (Nat.lt_succ_self _),List.nil_append,strOfNums_nums]
 ·rw [if_neg hv] at h
  exact absurd h (by decide)
theorem constV_mid {A R:List Int} {q:Nat} {c:Cst} (hq:A.length=q) (hf:FitC c) (h:OkC c):constV (A++constL c++R) q=(c,0,q + (constL c).length):=by
 have htag:0≤c.f0∧c.f0 < 256 ^ 1:=by have:=h.tag;omega
 have e0:A++constL c++R=A++beN 1 c.f0++(bodyL c++R):=by unfold constL;simp only [List.append_assoc]
 have e1:uV (A++constL c++R) q 1=(c.f0,0,q + 1):=by rw [e0];exact uV_mid hq htag.1 htag.2
 have hlen:q + (constL c).length=q + 1 + (bodyL c).length:=by unfold constL;rw [List.length_append,beN_length];omega
 rw [hlen]
 unfold constV
 rw [e1]
 simp only [if_true]
 obtain ⟨A1,hA1⟩:∃ A1,A1=A++beN 1 c.f0:=⟨_,rfl⟩
 have hq1:A1.length=q + 1:=by rw [hA1,List.length_append,beN_length,hq]
 have e2:A++constL c++R=A1++bodyL c++R:=by rw [e0,hA1];simp only [List.append_assoc]
 rw [e2]
 clear e0 e1 e2 hA1 hlen
 generalize q + 1=p at *
 have hb:=h.bare
 unfold bareV at hb
 have hw:-9223372036854775808≤c.f2∧c.f2≤9223372036854775807:=by
  have:=hf.2
  simp [Lit.wf,IntKind.min,IntKind.max,IntKind.bits,IntKind.signed] at this
  omega
 obtain ⟨t,s,n,a,b⟩:=c
 simp only at hb hw htag
 unfold bodyV bodyL
 simp only
 by_cases h1:t=1
 ·rw [if_pos h1] at hb
  obtain ⟨hn,ha,hbb⟩:=of_decide_eq_true hb
  obtain ⟨ht1,ht2⟩:=h.txt h1
  simp only at ht1 ht2
  simp only [if_pos h1]
  have x1:uV (A1++(beN 2 ((encV s).1.length:Int)++(encV s).1)++R) p 2=(((encV s).1.length:Int),0,p + 2):=by
   have:=uV_mid (A:=A1) (R:=(encV s).1++R) (n:=2) (x:=((encV s).1.length:Int)) hq1 (by omega) (by omega)
   simpa only [List.append_assoc] using this
  have x2:=rdL_mid (A:=A1++beN 2 ((encV s).1.length:Int)) (X:=(encV s).1) (R:=R) (q:=p + 2) (by rw [List.length_append,beN_length,hq1]) rfl
  rw [List.append_assoc A1] at x2
  rw [x1]
  simp only [if_true,Int.toNat_natCast]
  rw [if_neg (by omega),if_pos x2.2.1,x2.1,x2.2.2,DecV_encV ht1]
  simp only [hn,ha,hbb,List.length_append,beN_length]
  rw [Nat.add_assoc]
 ·rw [if_neg h1] at hb
  have htx:s=⟨#[]⟩:=by
   split at hb
   ·exact no_text (of_decide_eq_true hb).1
   ·split at hb
    ·exact no_text (of_decide_eq_true hb).1
    ·exact no_text (of_decide_eq_true hb).1
  simp only [if_neg h1]
  by_cases h3:t=3
  ·rw [if_pos (.inl h3)] at hb
   obtain ⟨_,ha,hbb⟩:=of_decide_eq_true hb
   have hr:=h.num h3
   simp only [if_pos h3]
   rw [iV_mid hq1 (beN_length 4 n),intV_beN4 hr.1 hr.2,htx]
   simp only [ha,hbb,beN_length]
  simp only [if_neg h3]
  by_cases h5:t=5
  ·rw [if_pos (.inr h5)] at hb
   obtain ⟨_,ha,hbb⟩:=of_decide_eq_true hb
   simp only [if_pos h5]
   rw [iV_mid hq1 (beN_length 8 n),intV_beN8 hw.1 hw.2,htx]
   simp only [ha,hbb,beN_length]
  simp only [if_neg h5]
  rw [if_neg (by omega)] at hb
  have hra:=h.a h1 h3 h5
  simp only at hra
  by_cases h7:t=7
  ·rw [if_pos h7] at hb
   obtain ⟨_,hn,hbb⟩:=of_decide_eq_true hb
   simp only [if_pos h7]
   rw [uV_mid hq1 (by omega) (by omega),htx]
   simp only [hn,hbb,beN_length]
  rw [if_neg h7] at hb
  obtain ⟨_,hn⟩:=of_decide_eq_true hb
  simp only [if_neg h7]
  have hrb:=h.b h1 h3 h5 h7
  simp only at hrb
  have ht:=h.tag
  simp only at ht
  rw [if_pos (by omega)]
  have x1:uV (A1++(beN 2 a++beN 2 b)++R) p 2=(a,0,p + 2):=by
   have:=uV_mid (A:=A1) (R:=beN 2 b++R) (n:=2) (x:=a) hq1 (by omega) (by omega)
   simpa only [List.append_assoc] using this
  have x2:uV (A1++(beN 2 a++beN 2 b)++R) (p + 2) 2=(b,0,p + 2 + 2):=by
   have:=uV_mid (A:=A1++beN 2 a) (R:=R) (n:=2) (x:=b) (q:=p + 2) (by rw [List.length_append,beN_length,hq1]) (by omega) (by omega)
   simpa only [List.append_assoc] using this
  rw [x1]
  simp only [twoV_zero]
  rw [x2,htx]
  simp only [hn,List.length_append,beN_length]
theorem constL_bytes {c:Cst} (h:OkC c):IsBytes (constL c):=by
 have app:∀ {a b:List Int},IsBytes a→IsBytes b→IsBytes (a++b):=fun ha hb x hx => by rcases List.mem_append.1 hx with q|q;exact ha x q;exact hb x q
 unfold constL bodyL
 refine app (beN_bytes _ _) ?_
 by_cases h1:c.f0=1
 ·rw [if_pos h1]
  refine app (beN_bytes _ _) ?_
  have ht:=(h.txt h1).1
  unfold encV at ht ⊢
  by_cases hv:Lib.validD c.f1.data.toList=true
  ·rw [if_pos hv]
   exact (encL_all _ _ (Nat.le_refl _)).2
  ·rw [if_neg hv] at ht
   exact absurd ht (by decide)
 rw [if_neg h1]
 repeat' split
 all_goals first|exact beN_bytes _ _|exact app (beN_bytes _ _) (beN_bytes _ _)
theorem flat_bytes {l:List Cst} (h:∀ c ∈ l,OkC c):IsBytes (l.flatMap constL):=by
 intro x hx
 obtain ⟨c,hc,hx⟩:=List.mem_flatMap.1 hx
 exact constL_bytes (h c hc) x hx
theorem zero_is {c:Cst} (h:zeroV c=true):c=z67:=by
 obtain ⟨h0,h1,h2,h3,h4⟩:=of_decide_eq_true h
 obtain ⟨t,s,n,a,b⟩:=c
 simp only at h0 h1 h2 h3 h4
 rw [h0,no_text h1,h2,h3,h4]
 rfl
theorem take_one {p:List Cst} (h:checkV p=0):p=z67 :: p.drop 1:=by
 obtain ⟨h0,hl,hz,h1⟩:=checkV_ok h
 cases p with
 | nil => simp at h0
 | cons c p =>
  have:c=z67:=zero_is hz
  rw [this]
  rfl
theorem decL_mid {p:List Cst} (h:checkV p=0) (hp:∀ c ∈ p,FitC c) (R:List Int):∀ (l ps:List Cst) (A:List Int) (f:Nat),p=ps++l→(∀ c ∈ l,OkC c)→l.length≤f →
  decL (f + 1) (A++l.flatMap constL++R) (p.length:Int) ps A.length=(p,((A.length + (l.flatMap constL).length:Nat):Int),0)
 | [],ps,A,f,e,_,_ => by
  rw [List.append_nil] at e
  subst e
  unfold decL
  rw [if_neg (by omega),if_pos h]
  simp
 | c :: l,ps,A,f,e,ho,hf => by
  obtain ⟨f,rfl⟩:∃ m,f=m + 1:=⟨f - 1,by simp at hf;omega⟩
  have hlt:(ps.length:Int) < (p.length:Int):=by rw [e,List.length_append,List.length_cons];omega
  rw [decL,if_pos hlt,List.flatMap_cons]
  have hc:=constV_mid (A:=A) (R:=l.flatMap constL++R) (c:=c) rfl (hp c (by rw [e];simp)) (ho c List.mem_cons_self)
  have e1:A++(constL c++l.flatMap constL)++R=A++constL c++(l.flatMap constL++R):=by simp only [List.append_assoc]
  rw [e1,hc]
  simp only [if_true]
  have ih:=decL_mid h hp R l (ps++[c]) (A++constL c) f (by rw [e];simp) (fun d hd => ho d (List.mem_cons_of_mem _ hd)) (by simp at hf;omega)
  rw [List.length_append] at ih
  rw [← List.append_assoc,ih]
  congr 2
  rw [List.length_append]
  omega
theorem decPV_poolL {p:List Cst} (h:checkV p=0) (hp:∀ c ∈ p,FitC c) (R:List Int):decPV (poolL p++R)=(p,((poolL p).length:Int),0):=by
 obtain ⟨h0,hl,hz,h1⟩:=checkV_ok h
 have e0:poolL p++R=[]++beN 2 (p.length:Int)++((p.drop 1).flatMap constL++R):=by unfold poolL;simp
 have e1:uV (poolL p++R) 0 2=((p.length:Int),0,2):=by rw [e0];exact uV_mid rfl (by omega) (by omega)
 unfold decPV
 rw [e1]
 simp only [if_true]
 rw [if_neg (by omega),if_neg (by omega)]
 have hd:=decL_mid h hp R (p.drop 1) [z67] (beN 2 (p.length:Int)) (p.length:Int).toNat (take_one h) (ok_drop h) (by rw [List.length_drop];omega)
 rw [beN_length] at hd
 have e2:poolL p++R=beN 2 (p.length:Int)++(p.drop 1).flatMap constL++R:=rfl
 rw [e2,hd]
 have e3:(poolL p).length=2 + ((p.drop 1).flatMap constL).length:=by unfold poolL;rw [List.length_append,beN_length]
 rw [e3]
theorem poolL_bytes {p:List Cst} (h:checkV p=0):IsBytes (poolL p):=by
 unfold poolL
 intro x hx
 rcases List.mem_append.1 hx with q|q
 ·exact beN_bytes _ _ x q
 ·exact flat_bytes (ok_drop h) x q
end Go.Proofs.YtbgniepcoaiinaaDoor.Px
namespace Go.Proofs.YtbgniepcoaiinaaDoor.Px
open Go.RowKit Go.Proofs.YtbgniepcoaiinaaDoorW.PrintWords Go.Proofs.YtbgniepcoaiinaaDoorW.PrintLast Go.Proofs.YtbgniepcoaiinaaDoorW.PrintMore
set_option linter.unusedVariables false
set_option linter.unusedSimpArgs false
def Is {α:Type} (G:List Int→Rdo α) (A e R:List Int) (x:α):Prop:=G (A++e++R)=.ok x (A.length + e.length)
theorem Is.ok {α:Type} (x:α) {A R:List Int} {q:Nat} (hq:A.length=q):Is (fun _ => .ok x q) A [] R x:=by unfold Is;rw [hq];rfl
theorem Is.bind {α β:Type} {P:List Int→Rdo α} {F:α→Nat→List Int→Rdo β} {A e e' R:List Int} {x:α} {y:β} (h:Is P A e (e'++R) x) (k:Is (fun bs => F x (A.length + e.length) bs) (A++e) e' R y):Is (fun bs => (P bs).bindV fun x q => F x q bs) A (e++e') R y:=by
 unfold Is at h k ⊢
 dsimp only at k ⊢
 have e1:A++(e++e')++R=A++e++(e'++R):=by simp only [List.append_assoc]
 have e2:A++e++e'++R=A++e++(e'++R):=by simp only [List.append_assoc]
 rw [e2] at k
 rw [e1,h]
 show F x _ _=_
 rw [k]
 simp only [List.length_append,Nat.add_assoc]
theorem Is.cast {α:Type} {G:List Int→Rdo α} {A e e' R:List Int} {x:α} (h:Is G A e R x) (he:e=e'):Is G A e' R x:=he ▸ h
theorem Is.pos {α:Type} {c:Prop} [Decidable c] {G H:List Int→Rdo α} {A e R:List Int} {x:α} (hc:c) (h:Is G A e R x):Is (fun bs => if c then G bs else H bs) A e R x:=by unfold Is;exact (if_pos hc).trans h
theorem Is.neg {α:Type} {c:Prop} [Decidable c] {G H:List Int→Rdo α} {A e R:List Int} {x:α} (hc:¬ c) (h:Is H A e R x):Is (fun bs => if c then G bs else H bs) A e R x:=by unfold Is;exact (if_neg hc).trans h
theorem raw.is {A l R:List Int} {q n:Nat} (hq:A.length=q) (hn:l.length=n):Is (fun bs => rawV bs q n) A l R l:=by
 have h:q + n≤(A++l++R).length:=by rw [List.length_append,List.length_append];omega
 unfold Is rawV
 dsimp only
 rw [if_pos h,(rdL_mid hq hn).1,hq,hn]
theorem num.is {A R:List Int} {q n:Nat} {x:Int} (hq:A.length=q) (h0:0≤x) (h1:x < 256 ^ n):Is (fun bs => numV bs q n) A (beN n x) R x:=by
 have e:beV (beN n x)=x:=by rw [beV_beN,Int.emod_eq_of_lt h0 h1]
 have h:=Is.bind (R:=R) (F:=fun l q _ => Rdo.ok (beV l) q) (raw.is (R:=[]++R) hq (beN_length n x)) (Is.ok (beV (beN n x)) List.length_append)
 rw [e] at h
 exact h.cast (List.append_nil _)
theorem num2.is {A R:List Int} {q:Nat} {x:Int} (hq:A.length=q) (h:Two x):Is (fun bs => numV bs q 2) A (beN 2 x) R x:=num.is hq h.1 h.2
theorem same.is {A R:List Int} {q n:Nat} {x:Int} (hq:A.length=q) (h0:0≤x) (h1:x < 256 ^ n):Is (fun bs => sameV bs q n x) A (beN n x) R () :=
 (Is.bind (F:=fun y q _ => if y=x then Rdo.ok () q else Rdo.er 50) (num.is (R:=[]++R) hq h0 h1) (Is.pos rfl (Is.ok () List.length_append))).cast (List.append_nil _)
theorem count.is {A R:List Int} {q n:Nat} {x most:Int} (hq:A.length=q) (h0:0≤x) (h1:x < 256 ^ n) (hm:x≤most):Is (fun bs => countV bs q n most) A (beN n x) R x :=
 (Is.bind (F:=fun y q _ => if most < y then Rdo.er 2 else Rdo.ok y q) (num.is (R:=[]++R) hq h0 h1) (Is.neg (by omega) (Is.ok x List.length_append))).cast (List.append_nil _)
theorem named.is {p:List Cst} {s:ByteArray} {A R:List Int} {q:Nat} (hq:A.length=q) (hp:p.length≤1024) (h:0 < placeV p s):Is (fun bs => namedV p bs q s) A (beN 2 (placeV p s)) R () :=
 (Is.bind (F:=fun x q _ => if (textV p x).2=true∧(textV p x).1.toList=s.toList then Rdo.ok () q else Rdo.er 50) (num2.is (R:=[]++R) hq (place_two hp h)) (Is.pos ⟨(place_ok h).1,(place_ok h).2.1⟩ (Is.ok () List.length_append))).cast (List.append_nil _)
theorem long.is {A R ys:List Int} {q:Nat} (hq:A.length=q) (h:ys.length≤4096):Is (fun bs => longD bs q) A (longL ys) R ys:=by
 show Is (fun bs => (countV bs q 4 4096).bindV fun x q => rawV bs q x.toNat) A (beN 4 (ys.length:Int)++ys) R ys
 have h1:Is (fun bs => countV bs q 4 4096) A (beN 4 (ys.length:Int)) (ys++R) (ys.length:Int):=count.is hq (by omega) (by omega) (by omega)
 exact Is.bind (F:=fun x q bs => rawV bs q x.toNat) h1 (raw.is List.length_append (Int.toNat_natCast _).symm)
theorem trap.is {A R:List Int} {q:Nat} {t:Trp} (hq:A.length=q) (h:OkT t):Is (fun bs => trapD bs q) A (trapL t) R t:=by
 show Is _ A (beN 2 t.f0++(beN 2 t.f1++(beN 2 t.f2++(beN 2 t.f3++[])))) R t
 exact Is.bind (num2.is hq h.1) (Is.bind (num2.is List.length_append h.2.1) (Is.bind (num2.is List.length_append h.2.2.1) (Is.bind (num2.is List.length_append h.2.2.2) (Is.ok t List.length_append))))
theorem traps.is {R:List Int}:∀ (l acc:List Trp) (A:List Int) (q:Nat),A.length=q→(∀ t ∈ l,OkT t)→Is (fun bs => trapsD bs l.length q acc) A (l.flatMap trapL) R (acc++l)
 | [],acc,A,q,hq,_ => by rw [List.append_nil];exact Is.ok acc hq
 | t :: l,acc,A,q,hq,h => by
  rw [List.flatMap_cons,show acc++t :: l=(acc++[t])++l by simp]
  exact Is.bind (F:=fun t q bs => trapsD bs l.length q (acc++[t])) (trap.is hq (h t List.mem_cons_self)) (traps.is l (acc++[t]) _ _ List.length_append (fun y hy => h y (List.mem_cons_of_mem _ hy)))
theorem maps.is {p:List Cst} {A R ys:List Int} {q:Nat} (hq:A.length=q) (hp:p.length≤1024) (h:ys.length≤4096) (hm:ys.length=0 ∨ 0 < placeV p sMaps):Is (fun bs => mapsD p bs q) A (mapsL p ys) R ys:=by
 unfold mapsL
 by_cases h0:ys.length=0
 ·rw [if_pos h0]
  obtain rfl:=List.eq_nil_of_length_eq_zero h0
  exact Is.bind (num2.is hq ⟨by omega,by omega⟩) (Is.pos rfl (Is.ok [] List.length_append))
 ·rw [if_neg h0]
  have hm:=hm.resolve_left h0
  show Is _ A (beN 2 1++(beN 2 (placeV p sMaps)++longL ys)) R ys
  refine Is.bind (num2.is hq ⟨by omega,by omega⟩) (Is.neg (by omega) (Is.pos rfl ?_))
  refine (Is.bind (e':=longL ys++[]) (named.is List.length_append hp hm) (Is.bind (long.is List.length_append h) (Is.pos (by omega) (Is.ok ys List.length_append)))).cast ?_
  rw [List.append_nil]
theorem mthL_eq (p:List Cst) (m:Mth):mthL p m=beN 2 m.f0++(beN 2 m.f1++(beN 2 m.f2++(beN 2 1++(beN 2 (placeV p sCode)++(beN 4 ((mbodyL p m).length:Int)++(beN 2 m.f3++(beN 2 m.f4++(longL m.f5++(beN 2 (m.f6.length:Int)++(m.f6.flatMap trapL++(mapsL p m.f7++[]))))))))))):=by
 have e:mthL p m=twosL [m.f0,m.f1,m.f2,1,placeV p sCode]++(beN 4 ((mbodyL p m).length:Int)++(twosL [m.f3,m.f4]++(longL m.f5++(twosL [(m.f6.length:Int)]++(m.f6.flatMap trapL++mapsL p m.f7))))):=rfl
 rw [e]
 simp only [twosL,List.append_assoc,List.nil_append,List.append_nil]
theorem mbodyL_len_eq (p:List Cst) (m:Mth):(mbodyL p m).length=4 + (longL m.f5).length + 2 + (m.f6.flatMap trapL).length + (mapsL p m.f7).length:=by
 unfold mbodyL
 rw [List.length_append,List.length_append,List.length_append,List.length_append,twosL_len,twosL_len]
 simp only [List.length_cons,List.length_nil]
 omega
theorem meth.is {p:List Cst} {A R:List Int} {q:Nat} {m:Mth} (hq:A.length=q) (hA:A.length≤140737488351232) (hp:p.length≤1024) (h:OkM p m):Is (fun bs => methD p bs q) A (mthL p m) R m:=by
 have hb:=mbodyL_len h
 have he:=mbodyL_len_eq p m
 have hc:=h.code
 have hm:=h.many
 rw [mthL_eq]
 refine Is.bind (num2.is hq h.n0) (Is.bind (num2.is List.length_append h.n1) (Is.bind (num2.is List.length_append h.n2) (Is.bind (same.is List.length_append (by omega) (by omega)) (Is.bind (named.is List.length_append hp h.pc) (Is.bind (num.is List.length_append (by omega) (by omega)) ?_)))))
 refine Is.bind (num2.is List.length_append h.n3) (Is.bind (num2.is List.length_append h.n4) (Is.bind (long.is List.length_append hc) (Is.bind (count.is List.length_append (by omega) (by omega) (by omega)) ?_)))
 refine Is.bind (x:=m.f6) (by rw [Int.toNat_natCast];exact traps.is m.f6 [] _ _ List.length_append h.traps) (Is.bind (maps.is List.length_append hp h.maps h.pm) (Is.pos ?_ (Is.ok m List.length_append)))
 simp only [List.length_append,beN_length]
 unfold wrap64
 omega
theorem fld.is {A R:List Int} {q:Nat} {f:Fld} (hq:A.length=q) (h:OkF f):Is (fun bs => fldD bs q) A (beN 2 f.f0++(beN 2 f.f1++(beN 2 f.f2++[]))) R f :=
 Is.bind (num2.is hq h.1) (Is.bind (num2.is List.length_append h.2.1) (Is.bind (num2.is List.length_append h.2.2) (Is.ok f List.length_append)))
theorem flds.is {R:List Int}:∀ (l acc:List Fld) (A:List Int) (q:Nat),A.length=q→(∀ f ∈ l,OkF f)→Is (fun bs => fldsD bs l.length q acc) A (l.flatMap fldL) R (acc++l)
 | [],acc,A,q,hq,_ => by rw [List.append_nil];exact Is.ok acc hq
 | f :: l,acc,A,q,hq,h => by
  rw [List.flatMap_cons,show acc++f :: l=(acc++[f])++l by simp]
  refine (Is.bind (F:=fun t q bs => (sameV bs q 2 0).bindV fun _ p2 => fldsD bs l.length p2 (acc++[t])) (e':=beN 2 0++l.flatMap fldL) (fld.is hq (h f List.mem_cons_self)) (Is.bind (same.is List.length_append (by omega) (by omega)) (flds.is l (acc++[f]) _ _ List.length_append (fun y hy => h y (List.mem_cons_of_mem _ hy))))).cast ?_
  unfold fldL
  simp only [twosL,List.append_assoc,List.nil_append,List.append_nil]
theorem mths.is {p:List Cst} {R:List Int} (hp:p.length≤1024):∀ (l acc:List Mth) (A:List Int) (q:Nat),A.length=q→A.length + 8738 * l.length≤140737488351232→(∀ m ∈ l,OkM p m)→Is (fun bs => mthsD p bs l.length q acc) A (l.flatMap (mthL p)) R (acc++l)
 | [],acc,A,q,hq,_,_ => by rw [List.append_nil];exact Is.ok acc hq
 | m :: l,acc,A,q,hq,hA,h => by
  have hl:=mthL_len (h m List.mem_cons_self)
  rw [List.length_cons] at hA
  rw [List.flatMap_cons,show acc++m :: l=(acc++[m])++l by simp]
  exact Is.bind (F:=fun t q bs => mthsD p bs l.length q (acc++[t])) (meth.is hq (by omega) hp (h m List.mem_cons_self)) (mths.is hp l (acc++[m]) _ _ List.length_append (by rw [List.length_append];omega) (fun y hy => h y (List.mem_cons_of_mem _ hy)))
theorem classL_eq (p:List Cst) (t s:Int) (fs:List Fld) (ms:List Mth):classL p t s fs ms=beN 4 3405691582++(beN 4 61++(poolL p++(beN 2 0++(beN 2 t++(beN 2 s++(beN 2 0++(beN 2 (fs.length:Int)++(fs.flatMap fldL++(beN 2 (ms.length:Int)++(ms.flatMap (mthL p)++(beN 2 0++[]))))))))))):=by
 unfold classL
 simp only [twosL,List.append_assoc,List.nil_append,List.append_nil]
theorem pool.is {A R:List Int} {q:Nat} {p:List Cst} (hq:A.length=q) (h:checkV p=0) (hf:∀ c ∈ p,FitC c):Is (fun bs => poolD bs q) A (poolL p) R p:=by
 have e:(A++poolL p++R).drop q=poolL p++R:=by rw [List.append_assoc,List.drop_append,List.drop_eq_nil_of_le (by omega),hq];simp
 unfold Is poolD
 dsimp only
 rw [e,decPV_poolL h hf R,if_pos rfl]
 have hr:=raw.is (R:=R) (A:=A) (l:=poolL p) (q:=q) hq rfl
 unfold Is at hr
 dsimp only at hr
 show ((rawV (A++poolL p++R) q (((poolL p).length:Int)).toNat).bindV _)=_
 rw [Int.toNat_natCast,hr]
 rfl
theorem core.is {p:List Cst} {t s:Int} {fs:List Fld} {ms:List Mth} (h:OkCls p t s fs ms) (hf:∀ c ∈ p,FitC c) (R:List Int):Is coreD [] (classL p t s fs ms) R ⟨p,t,s,fs,ms⟩:=by
 have hp:=(checkV_ok h.pool).2.1
 have hpl:=poolL_len h.pool
 have h2:=h.fl
 have h3:=h.ml
 rw [classL_eq]
 refine Is.bind (same.is rfl (by omega) (by omega)) (Is.bind (same.is List.length_append (by omega) (by omega)) (Is.bind (pool.is List.length_append h.pool hf) ?_))
 refine Is.bind (same.is List.length_append (by omega) (by omega)) (Is.bind (num2.is List.length_append h.this) (Is.bind (num2.is List.length_append h.super) (Is.bind (same.is List.length_append (by omega) (by omega)) (Is.bind (count.is List.length_append (by omega) (by omega) (by omega)) ?_))))
 refine Is.bind (x:=fs) (by rw [Int.toNat_natCast];exact flds.is fs [] _ _ List.length_append h.f) (Is.bind (count.is List.length_append (by omega) (by omega) (by omega)) ?_)
 refine Is.bind (x:=ms) (by rw [Int.toNat_natCast];exact mths.is hp ms [] _ _ List.length_append (by simp only [List.length_append,beN_length,List.length_nil,flat_len_eq fldL_len];omega) h.m) (Is.bind (same.is List.length_append (by omega) (by omega)) (Is.ok _ List.length_append))
theorem app_bytes {a b:List Int} (ha:IsBytes a) (hb:IsBytes b):IsBytes (a++b):=fun x hx => by
 rcases List.mem_append.1 hx with q|q
 ·exact ha x q
 ·exact hb x q
theorem twos_bytes:∀ l,IsBytes (twosL l)
 | [] => fun x hx => by cases hx
 | x :: l => app_bytes (beN_bytes _ _) (twos_bytes l)
theorem longL_bytes {ys:List Int} (h:IsBytes ys):IsBytes (longL ys):=app_bytes (beN_bytes _ _) h
theorem flatMap_bytes {α:Type} {f:α→List Int} {l:List α} (h:∀ x ∈ l,IsBytes (f x)):IsBytes (l.flatMap f):=fun x hx => by
 obtain ⟨c,hc,hx⟩:=List.mem_flatMap.1 hx
 exact h c hc x hx
theorem mthL_bytes {p:List Cst} {m:Mth} (h5:IsBytes m.f5) (h7:IsBytes m.f7):IsBytes (mthL p m):=by
 have hm:IsBytes (mapsL p m.f7):=by
  unfold mapsL
  split
  ·exact twos_bytes _
  ·exact app_bytes (twos_bytes _) (longL_bytes h7)
 exact app_bytes (twos_bytes _) (longL_bytes (app_bytes (twos_bytes _) (app_bytes (longL_bytes h5) (app_bytes (twos_bytes _) (app_bytes (flatMap_bytes fun t _ => twos_bytes _) hm)))))
theorem classL_bytes {p:List Cst} {t s:Int} {fs:List Fld} {ms:List Mth} (h:OkCls p t s fs ms) (hm:∀ m ∈ ms,IsBytes m.f5∧IsBytes m.f7):IsBytes (classL p t s fs ms) :=
 app_bytes (beN_bytes _ _) (app_bytes (beN_bytes _ _) (app_bytes (poolL_bytes h.pool) (app_bytes (twos_bytes _) (app_bytes (flatMap_bytes fun f _ => twos_bytes _) (app_bytes (twos_bytes _) (app_bytes (flatMap_bytes fun m hx => mthL_bytes (hm m hx).1 (hm m hx).2) (twos_bytes _)))))))
theorem classD_core {bs:List Int} {c:Cls} {q:Nat} (h:classD bs=.ok c q):coreD bs=.ok c q∧bs.length≤q∧classCheckV c.f0 c.f1 c.f2 c.f3 c.f4=0:=by
 unfold classD at h
 cases hc:coreD bs with
 | er e => rw [hc] at h;cases h
 | ok x p =>
  rw [hc,Rdo.bindV_ok] at h
  unfold endD at h
  by_cases h1:p < bs.length
  ·rw [if_pos h1] at h;cases h
  ·rw [if_neg h1] at h
   by_cases h2:classCheckV x.f0 x.f1 x.f2 x.f3 x.f4=0
   ·rw [if_pos h2] at h
    injection h with e1 e2
    subst e1;subst e2
    exact ⟨rfl,by omega,h2⟩
   ·rw [if_neg h2] at h;cases h
def Nz {α:Type} (o:Rdo α):Prop:=∀ e,o=.er e→e ≠ 0
theorem Nz.ok {α:Type} {x:α} {q:Nat}:Nz (.ok x q):=fun e h => by cases h
theorem Nz.er {α:Type} {e:Int} (he:e ≠ 0):Nz (.er e:Rdo α):=fun e' h => by injection h with h;subst h;exact he
theorem Nz.bind {α β:Type} {o:Rdo α} {f:α→Nat→Rdo β} (h:Nz o) (k:∀ x q,Nz (f x q)):Nz (o.bindV f):=by
 cases o with
 | ok x q => exact k x q
 | er e => exact Nz.er (h e rfl)
theorem Nz.ite {α:Type} {c:Prop} [Decidable c] {a b:Rdo α} (ha:Nz a) (hb:Nz b):Nz (if c then a else b):=by split <;> assumption
theorem raw.nz (bs:List Int) (p n:Nat):Nz (rawV bs p n):=Nz.ite Nz.ok (Nz.er (by decide))
theorem num.nz (bs:List Int) (p n:Nat):Nz (numV bs p n):=Nz.bind (raw.nz bs p n) fun _ _ => Nz.ok
theorem same.nz (bs:List Int) (p n:Nat) (w:Int):Nz (sameV bs p n w):=Nz.bind (num.nz bs p n) fun _ _ => Nz.ite Nz.ok (Nz.er (by decide))
theorem count.nz (bs:List Int) (p n:Nat) (w:Int):Nz (countV bs p n w):=Nz.bind (num.nz bs p n) fun _ _ => Nz.ite (Nz.er (by decide)) Nz.ok
theorem named.nz (l0:List Cst) (bs:List Int) (p:Nat) (s:ByteArray):Nz (namedV l0 bs p s):=Nz.bind (num.nz bs p 2) fun _ _ => Nz.ite Nz.ok (Nz.er (by decide))
theorem long.nz (bs:List Int) (p:Nat):Nz (longD bs p):=Nz.bind (count.nz bs p 4 4096) fun _ _ => raw.nz _ _ _
theorem trap.nz (bs:List Int) (p:Nat):Nz (trapD bs p):=Nz.bind (num.nz _ _ _) fun _ _ => Nz.bind (num.nz _ _ _) fun _ _ => Nz.bind (num.nz _ _ _) fun _ _ => Nz.bind (num.nz _ _ _) fun _ _ => Nz.ok
theorem traps.nz (bs:List Int):∀ (n p:Nat) (l:List Trp),Nz (trapsD bs n p l)
 | 0,p,l => Nz.ok
 | n + 1,p,l => Nz.bind (trap.nz bs p) fun _ _ => traps.nz bs n _ _
theorem maps.nz (l0:List Cst) (bs:List Int) (p:Nat):Nz (mapsD l0 bs p):=Nz.bind (num.nz _ _ _) fun _ _ => Nz.ite Nz.ok (Nz.ite (Nz.bind (named.nz _ _ _ _) fun _ _ => Nz.bind (long.nz _ _) fun _ _ => Nz.ite Nz.ok (Nz.er (by decide))) (Nz.er (by decide)))
theorem meth.nz (l0:List Cst) (bs:List Int) (p:Nat):Nz (methD l0 bs p) :=
 Nz.bind (num.nz _ _ _) fun _ _ => Nz.bind (num.nz _ _ _) fun _ _ => Nz.bind (num.nz _ _ _) fun _ _ => Nz.bind (same.nz _ _ _ _) fun _ _ => Nz.bind (named.nz _ _ _ _) fun _ _ => Nz.bind (num.nz _ _ _) fun _ _ => Nz.bind (num.nz _ _ _) fun _ _ => Nz.bind (num.nz _ _ _) fun _ _ => Nz.bind (long.nz _ _) fun _ _ => Nz.bind (count.nz _ _ _ _) fun _ _ => Nz.bind (traps.nz _ _ _ _) fun _ _ => Nz.bind (maps.nz _ _ _) fun _ _ => Nz.ite Nz.ok (Nz.er (by decide))
theorem fld.nz (bs:List Int) (p:Nat):Nz (fldD bs p):=Nz.bind (num.nz _ _ _) fun _ _ => Nz.bind (num.nz _ _ _) fun _ _ => Nz.bind (num.nz _ _ _) fun _ _ => Nz.ok
theorem flds.nz (bs:List Int):∀ (n p:Nat) (l:List Fld),Nz (fldsD bs n p l)
 | 0,p,l => Nz.ok
 | n + 1,p,l => Nz.bind (fld.nz bs p) fun _ _ => Nz.bind (same.nz _ _ _ _) fun _ _ => flds.nz bs n _ _
theorem mths.nz (l0:List Cst) (bs:List Int):∀ (n p:Nat) (l:List Mth),Nz (mthsD l0 bs n p l)
 | 0,p,l => Nz.ok
 | n + 1,p,l => Nz.bind (meth.nz l0 bs p) fun _ _ => mths.nz l0 bs n _ _
theorem rest.nz (l0:List Cst) (bs:List Int) (p:Nat):Nz (restD l0 bs p) :=
 Nz.bind (same.nz _ _ _ _) fun _ _ => Nz.bind (num.nz _ _ _) fun _ _ => Nz.bind (num.nz _ _ _) fun _ _ => Nz.bind (same.nz _ _ _ _) fun _ _ => Nz.bind (count.nz _ _ _ _) fun _ _ => Nz.bind (flds.nz _ _ _ _) fun _ _ => Nz.bind (count.nz _ _ _ _) fun _ _ => Nz.bind (mths.nz _ _ _ _ _) fun _ _ => Nz.bind (same.nz _ _ _ _) fun _ _ => Nz.ok
theorem class.nz (bs:List Int):Nz (classD bs):=by
 refine Nz.bind (Nz.bind (same.nz _ _ _ _) fun _ _ => Nz.bind (same.nz _ _ _ _) fun _ p => Nz.bind ?_ fun _ _ => rest.nz _ _ _) fun c q => Nz.ite (Nz.er (by decide)) ?_
 ·unfold poolD
  split
  ·exact Nz.bind (raw.nz _ _ _) fun _ _ => Nz.ok
  ·exact Nz.er (by assumption)
 ·split
  ·exact Nz.ok
  ·exact Nz.er (by assumption)
theorem class_cut {p:List Cst} {t s:Int} {fs:List Fld} {ms:List Mth} (h:classCheckV p t s fs ms=0) (hf:∀ c ∈ p,FitC c) (hm:∀ m ∈ ms,IsBytes m.f5∧IsBytes m.f7) {n:Nat} (hn:n < (classL p t s fs ms).length):∃ e,classD ((classL p t s fs ms).take n)=.er e∧e ≠ 0:=by
 have hb:=classL_bytes (classCheck_ok h) hm
 cases hd:classD ((classL p t s fs ms).take n) with
 | ok x q =>
  obtain ⟨h1,h2,_⟩:=classD_core hd
  have h3:=(core.ext _ ((classL p t s fs ms).drop n) (hb.take n) (Nat.zero_le _) x q h1)
  rw [List.take_append_drop] at h3
  have hc:=core.is (classCheck_ok h) hf []
  unfold Is at hc
  rw [List.nil_append,List.append_nil,List.length_nil,Nat.zero_add,h3.1] at hc
  injection hc with _ e
  rw [List.length_take] at h2 h3
  omega
 | er e =>
  exact ⟨e,rfl,class.nz _ e hd⟩
end Go.Proofs.YtbgniepcoaiinaaDoor.Px
namespace Go.Proofs.YtbgniepcoaiinaaDoor.Px
open Go.RowKit Go.Proofs.YtbgniepcoaiinaaDoorW.PrintWords Go.Proofs.YtbgniepcoaiinaaDoorW.PrintLast Go.Proofs.YtbgniepcoaiinaaDoorW.PrintMore
set_option linter.unusedVariables false
set_option linter.unusedSimpArgs false
abbrev poolA:List Cst:=[(⟨0,(⟨#[]⟩:ByteArray),0,0,0⟩:Cst),(⟨1,(⟨#[65]⟩:ByteArray),0,0,0⟩:Cst),(⟨7,(⟨#[]⟩:ByteArray),0,1,0⟩:Cst)]
theorem poolA_fit:∀ c ∈ poolA,FitC c:=by
 intro c hc
 simp only [poolA,List.mem_cons,List.not_mem_nil,or_false] at hc
 rcases hc with rfl|rfl|rfl <;> exact ⟨by decide,by decide⟩
theorem poolA_check:classCheckV poolA 2 2 [] []=0:=by decide +kernel
theorem poolA_name:(classV poolA 2).1=(⟨#[65]⟩:ByteArray):=rfl
theorem class_awake.ev:Ev (fun k => understudylaw05_awake.f k) true:=by
 unfold understudylaw05_awake.f
 refine Ev.bind (Ev.now poolA) ?_
 refine Ev.bind (class_Check.ev poolA (by decide) 2 2 [] [] (by decide) (by decide) (fun f h => by cases h) (fun m h => by cases h) poolA_fit) ?_
 rw [poolA_check]
 refine Ev.congr (fun k => if_pos rfl) ?_
 unfold class_Name.f
 simp only [pool_Class.eq,Option.bind_some,poolA_name]
 have e:((⟨#[65]⟩:ByteArray).toList==([65]:List UInt8))=true:=by
  rw [Lib.toList_data]
  rfl
 rw [e]
 exact Ev.now _
end Go.Proofs.YtbgniepcoaiinaaDoor.Px
namespace Go.Proofs.YtbgniepcoaiinaaDoor.Px
open Go.RowKit Go.Proofs.YtbgniepcoaiinaaDoorW.PrintWords Go.Proofs.YtbgniepcoaiinaaDoorW.PrintLast Go.Proofs.YtbgniepcoaiinaaDoorW.PrintMore
set_option linter.unusedVariables false
set_option linter.unusedSimpArgs false
theorem ClassCut_pure (p:List Cst) (t s:Int) (fs:List Fld) (ms:List Mth) (at_:Int) (hl:p.length≤1048576) (hfl:fs.length≤1048576) (hml:ms.length≤1048576) (hf:∀ f ∈ fs,FitF f) (hm:∀ m ∈ ms,FitM m) (hp:∀ c ∈ p,FitC c)
  (hb:∀ m ∈ ms,(∀ x ∈ m.f5,(Lit.int .u8 x).wf=true)∧(∀ x ∈ m.f7,(Lit.int .u8 x).wf=true)) (hw:(Lit.int .u16 at_).wf=true):∃ k,understudylaw05_ClassCut.f k p t s fs ms at_=some true:=by
 obtain ⟨K1,h1⟩:=class_Encode.ev p t s fs ms hl hfl hml hf hm hp
 obtain ⟨K2,h2⟩:=class_awake.ev
 unfold encCV at h1
 by_cases hc:classCheckV p t s fs ms=0
 ·rw [if_pos hc] at h1
  have hk:=classCheck_ok hc
  have hlen:=classL_len hk
  have hmb:∀ m ∈ ms,IsBytes m.f5∧IsBytes m.f7:=fun m hx => ⟨bytes_of_wf (hb m hx).1,bytes_of_wf (hb m hx).2⟩
  have hby:=classL_bytes hk hmb
  have hpos:0 < (classL p t s fs ms).length:=by unfold classL;rw [List.length_append,beN_length];omega
  simp [Lit.wf,IntKind.min,IntKind.max,IntKind.bits,IntKind.signed] at hw
  have hm0:Int.tmod at_ ((classL p t s fs ms).length:Int)=at_ % ((classL p t s fs ms).length:Int):=Int.tmod_eq_emod_of_nonneg hw.1
  have hr0:=Int.emod_nonneg at_ (b:=((classL p t s fs ms).length:Int)) (by omega)
  have hr1:=Int.emod_lt_of_pos at_ (b:=((classL p t s fs ms).length:Int)) (by omega)
  obtain ⟨n,hn⟩:=Int.eq_ofNat_of_zero_le hr0
  obtain ⟨e,he,hne⟩:=class_cut hc hp hmb (n:=n) (by omega)
  obtain ⟨K3,h3⟩:=class_Decode.ev (hby.take n) (by rw [List.length_take];omega)
  rw [he] at h3
  exact ⟨K1 + K2 + K3,if_pos (.inr ⟨_,n,e,h1 _ (by omega),hpos,by omega,by omega,by omega,by omega,by rw [hm0,hn],h3 _ (by omega),hne⟩)⟩
 ·rw [if_neg hc] at h1
  exact ⟨K1 + K2,if_pos (.inl ⟨_,hc,h1 _ (by omega),h2 _ (by omega)⟩)⟩
end Go.Proofs.YtbgniepcoaiinaaDoor.Px
