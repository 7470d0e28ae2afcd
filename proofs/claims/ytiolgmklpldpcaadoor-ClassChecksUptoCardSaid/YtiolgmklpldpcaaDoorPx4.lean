-- short. By myprint.py (wip/tools), over the kit's print.
import Derived.Test.YtiolgmklpldpcaaDoorPx0
import Derived.Test.YtiolgmklpldpcaaDoorPx2
namespace Go.Proofs.YtiolgmklpldpcaaDoor.Px
open Go.RowKit Go.Proofs.YtiolgmklpldpcaaDoorW.PrintWords Go.Proofs.YtiolgmklpldpcaaDoorW.PrintLast Go.Proofs.YtiolgmklpldpcaaDoorW.PrintMore
attribute [local go_sem] max2_int min2_int max_two min_two max_three min_three max_four min_four
set_option linter.unusedVariables false
set_option linter.unusedSimpArgs false
/-! ### pool_Text: function 24 -/
def pool_Text.f (l0:List (S51)) (a1:Int):Option (ByteArray × Bool):=(pool_is.f l0 a1 1).bind fun t126 => (if t126=true then (if 0≤a1 then (if a1 < (l0.length:Int) then (some ((rd_T51 l0 a1).f1,true)) else (none)) else (none)) else (some ((⟨#[]⟩:ByteArray),false)))
set_option maxHeartbeats 80000000 in
set_option maxRecDepth 100000 in
theorem pool_Text.calls (A0:Option Addr) (c0:Nat) (l0:List (S51)) (a1:Int) (r1:ByteArray) (r2:Bool) (w:World) (hr0:Kd.C k51 w A0 l0.length l0) (hc0:l0.length≤c0) (h:pool_Text.f l0 a1=some (r1,r2)) :
  Calls Tryd.prog 24 #[.slice A0 l0.length c0,.int .i64 a1] w fun e w' => e=.returned (.tuple #[.string r1,.bool r2])∧Drawn0 w w':=by
 have HR0:=Aside0.mk hr0
 have HC0:=Aside0.mk hc0
 clear hr0 hc0
 have H:((pool_is.f l0 a1 1).bind fun t126 => (if t126=true then (if 0≤a1 then (if a1 < (l0.length:Int) then (some ((rd_T51 l0 a1).f1,true)) else (none)) else (none)) else (some ((⟨#[]⟩:ByteArray),false))))=some (r1,r2):=h
 clear h
 replace H:=Option.bind_eq_some_iff.mp H
 obtain ⟨t126,A30,H⟩:=H
 replace H:(if t126=true then (if 0≤a1 then (if a1 < (l0.length:Int) then (some ((rd_T51 l0 a1).f1,true)) else (none)) else (none)) else (some ((⟨#[]⟩:ByteArray),false)))=some (r1,r2):=H
 have A3:=Aside0.mk A30
 clear A30
 by_cases c4:t126=true
 ·subst c4
  have H1:(if 0≤a1 then (if a1 < (l0.length:Int) then (some ((rd_T51 l0 a1).f1,true)) else (none)) else (none))=some (r1,r2):=by rw [if_pos rfl] at H;exact H
  clear H
  have H:=H1
  clear H1
  by_cases c5:0≤a1
  ·rw [if_pos c5] at H
   have c5b0:decide (0≤a1)=true:=decide_eq_true c5
   clear c5
   by_cases c6:a1 < (l0.length:Int)
   ·rw [if_pos c6] at H
    have c6b0:decide (a1 < (l0.length:Int))=true:=decide_eq_true c6
    clear c6
    simp only [Option.some.injEq,Prod.mk.injEq] at H
    obtain ⟨rfl,rfl⟩:=H
    go_enter Tryd.func24,Tryd.ntmps24
    go_wp2_with (first|((with_reducible refine gate_callee (f:=30) rfl ?_);refine goesL_ (some 8) rfl rfl Tryd.func30 (by kernel_rfl) rfl #[.slice A0 l0.length c0,.int .i64 a1,.int .i64 1] rfl (by (try simp only [List.map_toArray,List.map_cons,List.map_nil]);first|done|rfl|(simp only [List.length_drop,List.length_take];rfl)) ?_;(with_reducible refine (pool_is.calls _ _ l0 a1 1 true _ ?side1 ?side2 A3.out).mono ?_);(case side1 => repeat (first|exact HR0.out|(with_reducible refine Kd.C_alloc ?_ _)|(with_reducible refine Kd.C_drewN ?_ _)|(with_reducible refine Kd.C_drew ?_)));(case side2 => exact HC0.out);rintro e w' ⟨rfl,⟨nd,rfl⟩⟩;refine ⟨_,rfl,?_⟩;have p127:0≤(a1:Int):=of_decide_eq_true (by first|(with_reducible assumption)|assumption);have q127:a1 < (l0.length:Int):=of_decide_eq_true (by first|(with_reducible assumption)|assumption);obtain ⟨ad127,e127,hx127_0,hx127_1,hx127_2,hx127_3,hx127_4⟩:=at_T51 HR0.out a1 p127 q127;cases e127;replace p127:=eq_true p127;replace q127:=eq_true q127))
    go_ret2
    exact ⟨by first|rfl|(simp;done)|(simp [*];done),by repeat (first|exact Drawn0.refl _|apply Drawn0.step)⟩
   ·rw [if_neg c6] at H
    exact absurd H (by simp)
  ·rw [if_neg c5] at H
   exact absurd H (by simp)
 ·replace c4:=Bool.eq_false_iff.mpr c4
  subst c4
  have H1:(some ((⟨#[]⟩:ByteArray),false))=some (r1,r2):=by rw [if_neg (show ¬ (false=true) by decide)] at H;exact H
  clear H
  have H:=H1
  clear H1
  simp only [Option.some.injEq,Prod.mk.injEq] at H
  obtain ⟨rfl,rfl⟩:=H
  go_enter Tryd.func24,Tryd.ntmps24
  go_wp2_with (first|((with_reducible refine gate_callee (f:=30) rfl ?_);refine goesL_ (some 8) rfl rfl Tryd.func30 (by kernel_rfl) rfl #[.slice A0 l0.length c0,.int .i64 a1,.int .i64 1] rfl (by (try simp only [List.map_toArray,List.map_cons,List.map_nil]);first|done|rfl|(simp only [List.length_drop,List.length_take];rfl)) ?_;(with_reducible refine (pool_is.calls _ _ l0 a1 1 false _ ?side1 ?side2 A3.out).mono ?_);(case side1 => repeat (first|exact HR0.out|(with_reducible refine Kd.C_alloc ?_ _)|(with_reducible refine Kd.C_drewN ?_ _)|(with_reducible refine Kd.C_drew ?_)));(case side2 => exact HC0.out);rintro e w' ⟨rfl,⟨nd,rfl⟩⟩;refine ⟨_,rfl,?_⟩))
  go_ret2
  exact ⟨by first|rfl|(simp;done)|(simp [*];done),by repeat (first|exact Drawn0.refl _|apply Drawn0.step)⟩
/-! ### pool_Class: function 20 -/
def pool_Class.f (l0:List (S51)) (a1:Int):Option (ByteArray × Bool):=(pool_is.f l0 a1 7).bind fun t128 => (if t128=true then (if 0≤a1 then (if a1 < (l0.length:Int) then ((pool_Text.f l0 ((rd_T51 l0 a1).f3)).bind fun bt130 => (some (bt130.1,bt130.2))) else (none)) else (none)) else (some ((⟨#[]⟩:ByteArray),false)))
set_option maxHeartbeats 80000000 in
set_option maxRecDepth 100000 in
theorem pool_Class.calls (A0:Option Addr) (c0:Nat) (l0:List (S51)) (a1:Int) (r1:ByteArray) (r2:Bool) (w:World) (hr0:Kd.C k51 w A0 l0.length l0) (hc0:l0.length≤c0) (h:pool_Class.f l0 a1=some (r1,r2)) :
  Calls Tryd.prog 20 #[.slice A0 l0.length c0,.int .i64 a1] w fun e w' => e=.returned (.tuple #[.string r1,.bool r2])∧Drawn0 w w':=by
 have HR0:=Aside0.mk hr0
 have HC0:=Aside0.mk hc0
 clear hr0 hc0
 have H:((pool_is.f l0 a1 7).bind fun t128 => (if t128=true then (if 0≤a1 then (if a1 < (l0.length:Int) then ((pool_Text.f l0 ((rd_T51 l0 a1).f3)).bind fun bt130 => (some (bt130.1,bt130.2))) else (none)) else (none)) else (some ((⟨#[]⟩:ByteArray),false))))=some (r1,r2):=h
 clear h
 replace H:=Option.bind_eq_some_iff.mp H
 obtain ⟨t128,A30,H⟩:=H
 replace H:(if t128=true then (if 0≤a1 then (if a1 < (l0.length:Int) then ((pool_Text.f l0 ((rd_T51 l0 a1).f3)).bind fun bt130 => (some (bt130.1,bt130.2))) else (none)) else (none)) else (some ((⟨#[]⟩:ByteArray),false)))=some (r1,r2):=H
 have A3:=Aside0.mk A30
 clear A30
 by_cases c4:t128=true
 ·subst c4
  have H1:(if 0≤a1 then (if a1 < (l0.length:Int) then ((pool_Text.f l0 ((rd_T51 l0 a1).f3)).bind fun bt130 => (some (bt130.1,bt130.2))) else (none)) else (none))=some (r1,r2):=by rw [if_pos rfl] at H;exact H
  clear H
  have H:=H1
  clear H1
  by_cases c5:0≤a1
  ·rw [if_pos c5] at H
   have c5b0:decide (0≤a1)=true:=decide_eq_true c5
   clear c5
   by_cases c6:a1 < (l0.length:Int)
   ·rw [if_pos c6] at H
    have c6b0:decide (a1 < (l0.length:Int))=true:=decide_eq_true c6
    clear c6
    replace H:=Option.bind_eq_some_iff.mp H
    obtain ⟨⟨t130,t131⟩,A70,H⟩:=H
    replace H:(some (t130,t131))=some (r1,r2):=H
    have A7:=Aside0.mk A70
    clear A70
    simp only [Option.some.injEq,Prod.mk.injEq] at H
    obtain ⟨rfl,rfl⟩:=H
    go_enter Tryd.func20,Tryd.ntmps20
    go_wp2_with (first|((with_reducible refine gate_callee (f:=30) rfl ?_);refine goesL_ (some 8) rfl rfl Tryd.func30 (by kernel_rfl) rfl #[.slice A0 l0.length c0,.int .i64 a1,.int .i64 7] rfl (by (try simp only [List.map_toArray,List.map_cons,List.map_nil]);first|done|rfl|(simp only [List.length_drop,List.length_take];rfl)) ?_;(with_reducible refine (pool_is.calls _ _ l0 a1 7 true _ ?side1 ?side2 A3.out).mono ?_);(case side1 => repeat (first|exact HR0.out|(with_reducible refine Kd.C_alloc ?_ _)|(with_reducible refine Kd.C_drewN ?_ _)|(with_reducible refine Kd.C_drew ?_)));(case side2 => exact HC0.out);rintro e w' ⟨rfl,⟨nd,rfl⟩⟩;refine ⟨_,rfl,?_⟩;have p129:0≤(a1:Int):=of_decide_eq_true (by first|(with_reducible assumption)|assumption);have q129:a1 < (l0.length:Int):=of_decide_eq_true (by first|(with_reducible assumption)|assumption);obtain ⟨ad129,e129,hx129_0,hx129_1,hx129_2,hx129_3,hx129_4⟩:=at_T51 HR0.out a1 p129 q129;cases e129;replace p129:=eq_true p129;replace q129:=eq_true q129)|((with_reducible refine gate_callee (f:=24) rfl ?_);refine goesL_ (some 16) rfl rfl Tryd.func24 (by kernel_rfl) rfl #[.slice (some ad129) l0.length c0,.int .i64 ((rd_T51 l0 a1).f3)] rfl (by (try simp only [List.map_toArray,List.map_cons,List.map_nil]);first|done|rfl|(simp only [List.length_drop,List.length_take];rfl)) ?_;(with_reducible refine (pool_Text.calls _ _ l0 ((rd_T51 l0 a1).f3) t130 t131 _ ?side1 ?side2 A7.out).mono ?_);(case side1 => repeat (first|exact HR0.out|(with_reducible refine Kd.C_alloc ?_ _)|(with_reducible refine Kd.C_drewN ?_ _)|(with_reducible refine Kd.C_drew ?_)));(case side2 => exact HC0.out);rintro e w' ⟨rfl,⟨nd,rfl⟩⟩;refine ⟨_,rfl,?_⟩))
    go_ret2
    exact ⟨by first|rfl|(simp;done)|(simp [*];done),by repeat (first|exact Drawn0.refl _|apply Drawn0.step)⟩
   ·rw [if_neg c6] at H
    exact absurd H (by simp)
  ·rw [if_neg c5] at H
   exact absurd H (by simp)
 ·replace c4:=Bool.eq_false_iff.mpr c4
  subst c4
  have H1:(some ((⟨#[]⟩:ByteArray),false))=some (r1,r2):=by rw [if_neg (show ¬ (false=true) by decide)] at H;exact H
  clear H
  have H:=H1
  clear H1
  simp only [Option.some.injEq,Prod.mk.injEq] at H
  obtain ⟨rfl,rfl⟩:=H
  go_enter Tryd.func20,Tryd.ntmps20
  go_wp2_with (first|((with_reducible refine gate_callee (f:=30) rfl ?_);refine goesL_ (some 8) rfl rfl Tryd.func30 (by kernel_rfl) rfl #[.slice A0 l0.length c0,.int .i64 a1,.int .i64 7] rfl (by (try simp only [List.map_toArray,List.map_cons,List.map_nil]);first|done|rfl|(simp only [List.length_drop,List.length_take];rfl)) ?_;(with_reducible refine (pool_is.calls _ _ l0 a1 7 false _ ?side1 ?side2 A3.out).mono ?_);(case side1 => repeat (first|exact HR0.out|(with_reducible refine Kd.C_alloc ?_ _)|(with_reducible refine Kd.C_drewN ?_ _)|(with_reducible refine Kd.C_drew ?_)));(case side2 => exact HC0.out);rintro e w' ⟨rfl,⟨nd,rfl⟩⟩;refine ⟨_,rfl,?_⟩))
  go_ret2
  exact ⟨by first|rfl|(simp;done)|(simp [*];done),by repeat (first|exact Drawn0.refl _|apply Drawn0.step)⟩
/-! ### class_rules_class: function 12 -/
def class_rules_class.l0:Nat→List Int→Int→Int→List (S51)→Option (Bool)
 | 0,_,_,_,_ => none
 | k + 1,x9,x10,x11,x133000 => if x11 < x10 then (if 0≤x11 then (if x11 < (x9.length:Int) then ((pool_Class.f x133000 (rd x9 x11)).bind fun bt134 => (if bt134.2=true then (class_rules_class.l0 k x9 x10 (wrap64 (x11 + 1)) x133000) else (some false))) else (none)) else (none)) else (some true)
def class_rules_class.f (k:Nat) (l0_0:List (S51)) (l1:List Int):Option (Bool):=class_rules_class.l0 k l1 (l1.length:Int) 0 l0_0
theorem class_rules_class.mono_l:∀ k,(∀ y0 y1 y2 y3,LeO (class_rules_class.l0 k y0 y1 y2 y3) (class_rules_class.l0 (k + 1) y0 y1 y2 y3))
 | 0 => fun _ _ _ _ r h => by simp [class_rules_class.l0] at h
 | k + 1 => by
  have ih0:=class_rules_class.mono_l k
  ·intro y0 y1 y2 y3
   unfold class_rules_class.l0
   repeat' first
   | (with_reducible exact ih0 _ _ _ _)
   | (with_reducible exact LeO.refl _)
   | (with_reducible exact LeO.none _)
   | (with_reducible refine LeO.ite ?_ ?_)
   | (with_reducible refine LeO.bind ?_ (fun _ => ?_))
   | exact ih0 _ _ _ _
   | exact LeO.none _
   | refine LeO.ite ?_ ?_
   | refine LeO.bind ?_ (fun _ => ?_)
theorem class_rules_class.mono:∀ a0 a1 k,LeO (class_rules_class.f k a0 a1) (class_rules_class.f (k + 1) a0 a1):=by
 intro a0 a1 k
 have ih0:=class_rules_class.mono_l k
 unfold class_rules_class.f
 repeat' first
   | (with_reducible exact ih0 _ _ _ _)
   | (with_reducible exact LeO.refl _)
   | (with_reducible exact LeO.none _)
   | (with_reducible refine LeO.ite ?_ ?_)
   | (with_reducible refine LeO.bind ?_ (fun _ => ?_))
   | exact ih0 _ _ _ _
   | exact LeO.none _
   | refine LeO.ite ?_ ?_
   | refine LeO.bind ?_ (fun _ => ?_)
set_option maxHeartbeats 80000000 in
set_option maxRecDepth 100000 in
theorem class_rules_class.calls (k:Nat) (A0_0:Option Addr) (c0_0:Nat) (l0_0:List (S51)) (A1:Option Addr) (c1:Nat) (l1:List Int) (r:Bool) (w:World) (hr0_0:Kd.C k51 w A0_0 l0_0.length l0_0) (hc0_0:l0_0.length≤c0_0) (hr1:Kd.C (Kd.int .i64) w A1 l1.length l1) (hc1:l1.length≤c1) (h:class_rules_class.f k l0_0 l1=some r) :
  Calls Tryd.prog 12 #[.agg #[.slice A0_0 l0_0.length c0_0],.slice A1 l1.length c1] w fun e w' => e=.returned (.bool r)∧Below w.heap.size w w':=by
 have hu39:=Tryd.underlying39
 have HR0_0:=Aside0.mk hr0_0
 have HC0_0:=Aside0.mk hc0_0
 clear hr0_0 hc0_0
 have HR1:=Aside0.mk hr1
 have HC1:=Aside0.mk hc1
 clear hr1 hc1
 have HB:=Aside0.mk (Below.refl w.heap.size w)
 have H:(class_rules_class.l0 k l1 (l1.length:Int) 0 l0_0)=some r:=h
 clear h
 have H':=Aside0.mk H
 clear H
 go_enter Tryd.func12,Tryd.ntmps12
 go_wp2_with (first|((with_reducible refine gate_dst (N:=2) rfl ?_);refine box_event ?hg (N:=2) ?hd (cs:=#[.slice A0_0 l0_0.length c0_0]) (t:=39) ?hr ?_;(case hd => rfl);(case hg => rfl);(case hr => first|(go_simp;done)|(go_simp;rfl));intro gb132 hg w3 hbox hb;have n0_:=Aside0.mk (below_step (by repeat (first|(with_reducible first|exact HB.out|apply below_alloc|apply pw_below_drewN|apply below_drew1)|exact HB.out)) hb);have n1_:=Aside0.mk (hbox);have n2_:=Aside0.mk ((by rw [hg];exact (below_size (by repeat (first|(with_reducible first|exact HB.out|apply below_alloc|apply pw_below_drewN|apply below_drew1)|exact HB.out))):w.heap.size≤gb132));have n3_:=Aside0.mk ((by rw [hg];exact (below_size (by repeat (first|(with_reducible first|exact HB.out|apply below_alloc|apply pw_below_drewN|apply below_drew1)|exact HB.out))):w.heap.size≤gb132));clear HB;have HB:=n0_;have BK132:=n1_;have GW132:=n2_;have GE132:=n3_;clear n0_ n1_ n2_ n3_;clear hb hbox hg))
 go_loopg [11] k (fun kq v11 w' => ∃ (x11_1:Int),v11=.int .i64 x11_1∧Aside0 (class_rules_class.l0 kq l1 (l1.length:Int) x11_1 l0_0=some r)∧Aside0 (kq≤k)∧Aside0 (w'.heap[gb132]?=some (.cells #[(.slice A0_0 l0_0.length c0_0)] 39 (0,0)))∧Aside0 (Below w.heap.size w w'))
 case atStart => exact ⟨(0),(by first|rfl|(simp;done)|(simp [*];done)),H',⟨Nat.le_refl _⟩,⟨by (with_reducible repeat (first|refine blk_drewN ?_ _|refine blk_drew ?_|refine blk_alloc ?_ _));exact BK132.out⟩,⟨by repeat (first|(with_reducible first|exact HB.out|apply below_alloc|apply pw_below_drewN|apply below_drew1|refine below_set ?_ GE132.out)|exact HB.out)⟩⟩
 case round =>
  clear H'
  try clear c1;try clear p2
  obtain ⟨x11_1,rfl,HA,HK1,BK132,HB⟩:=hrel
  cases gk with
  | zero => exact absurd HA.out (by simp [class_rules_class.l0])
  | succ k1 =>
   have H:=HA.out
   clear HA
   simp only [class_rules_class.l0] at H
   by_cases c4:x11_1 < (l1.length:Int)
   ·rw [if_pos c4] at H
    have c4b0:decide (x11_1 < (l1.length:Int))=true:=decide_eq_true c4
    clear c4
    by_cases c5:0≤x11_1
    ·rw [if_pos c5] at H
     have c5b0:decide (0≤x11_1)=true:=decide_eq_true c5
     clear c5
     by_cases c6:x11_1 < (l1.length:Int)
     ·rw [if_pos c6] at H
      have c6b0:decide (x11_1 < (l1.length:Int))=true:=decide_eq_true c6
      clear c6
      replace H:=Option.bind_eq_some_iff.mp H
      obtain ⟨⟨t134,t135⟩,A70,H⟩:=H
      replace H:(if t135=true then (class_rules_class.l0 k1 l1 (l1.length:Int) (wrap64 (x11_1 + 1)) l0_0) else (some false))=some r:=H
      have A7:=Aside0.mk A70
      clear A70
      by_cases c8:t135=true
      ·subst c8
       have H1:(class_rules_class.l0 k1 l1 (l1.length:Int) (wrap64 (x11_1 + 1)) l0_0)=some r:=by rw [if_pos rfl] at H;exact H
       clear H
       have H:=H1
       clear H1
       have H':=Aside0.mk H
       clear H
       have p133:0≤(x11_1:Int):=of_decide_eq_true (by first|(with_reducible assumption)|assumption)
       have q133:x11_1 < (l1.length:Int):=of_decide_eq_true (by first|(with_reducible assumption)|assumption)
       obtain ⟨ad133,e133,hx133_0⟩:=Kd.at_int HR1.out x11_1 p133 q133
       cases e133
       replace hx133_0:=(HB.out.cell (World.block_lt_of_cell? w _ hx133_0)).trans hx133_0
       replace p133:=eq_true p133
       replace q133:=eq_true q133
       have hcz9_0:wr.cell? ⟨gb132,0,none⟩=some (.slice A0_0 l0_0.length c0_0):=(blk_cell BK132.out 0).trans rfl
       have hfz9_0:=blk_frozen BK132.out 0
       go_wp2_with (first|((with_reducible refine gate_callee (f:=20) rfl ?_);refine goesL_ (some 19) rfl rfl Tryd.func20 (by kernel_rfl) rfl #[.slice A0_0 l0_0.length c0_0,.int .i64 (rd l1 x11_1)] rfl (by (try simp only [List.map_toArray,List.map_cons,List.map_nil]);first|done|rfl|(simp only [List.length_drop,List.length_take];rfl)) ?_;(with_reducible refine (pool_Class.calls _ _ l0_0 (rd l1 x11_1) t134 true _ ?side1 ?side2 A7.out).mono ?_);(case side1 => repeat (first|exact (Kd.C_below HR0_0.out HB.out)|(with_reducible refine Kd.C_alloc ?_ _)|(with_reducible refine Kd.C_drewN ?_ _)|(with_reducible refine Kd.C_drew ?_)));(case side2 => exact HC0_0.out);rintro e w' ⟨rfl,⟨nd,rfl⟩⟩;refine ⟨_,rfl,?_⟩))
       go_roundg k1
       case measure => have:=HK1.out;omega
       case rel => exact ⟨(wrap64 (x11_1 + 1)),(by first|rfl|(simp;done)|(simp [*];done)),H',⟨by have:=HK1.out;omega⟩,⟨by (with_reducible repeat (first|refine blk_drewN ?_ _|refine blk_drew ?_|refine blk_alloc ?_ _));exact BK132.out⟩,⟨by repeat (first|(with_reducible first|exact HB.out|apply below_alloc|apply pw_below_drewN|apply below_drew1|refine below_set ?_ GE132.out)|exact HB.out)⟩⟩
      ·replace c8:=Bool.eq_false_iff.mpr c8
       subst c8
       have H1:(some false)=some r:=by rw [if_neg (show ¬ (false=true) by decide)] at H;exact H
       clear H
       have H:=H1
       clear H1
       obtain rfl:=Option.some.inj H
       have p133:0≤(x11_1:Int):=of_decide_eq_true (by first|(with_reducible assumption)|assumption)
       have q133:x11_1 < (l1.length:Int):=of_decide_eq_true (by first|(with_reducible assumption)|assumption)
       obtain ⟨ad133,e133,hx133_0⟩:=Kd.at_int HR1.out x11_1 p133 q133
       cases e133
       replace hx133_0:=(HB.out.cell (World.block_lt_of_cell? w _ hx133_0)).trans hx133_0
       replace p133:=eq_true p133
       replace q133:=eq_true q133
       have hcz10_0:wr.cell? ⟨gb132,0,none⟩=some (.slice A0_0 l0_0.length c0_0):=(blk_cell BK132.out 0).trans rfl
       have hfz10_0:=blk_frozen BK132.out 0
       go_wp2_with (first|((with_reducible refine gate_callee (f:=20) rfl ?_);refine goesL_ (some 19) rfl rfl Tryd.func20 (by kernel_rfl) rfl #[.slice A0_0 l0_0.length c0_0,.int .i64 (rd l1 x11_1)] rfl (by (try simp only [List.map_toArray,List.map_cons,List.map_nil]);first|done|rfl|(simp only [List.length_drop,List.length_take];rfl)) ?_;(with_reducible refine (pool_Class.calls _ _ l0_0 (rd l1 x11_1) t134 false _ ?side1 ?side2 A7.out).mono ?_);(case side1 => repeat (first|exact (Kd.C_below HR0_0.out HB.out)|(with_reducible refine Kd.C_alloc ?_ _)|(with_reducible refine Kd.C_drewN ?_ _)|(with_reducible refine Kd.C_drew ?_)));(case side2 => exact HC0_0.out);rintro e w' ⟨rfl,⟨nd,rfl⟩⟩;refine ⟨_,rfl,?_⟩))
       go_ret
       exact ⟨by first|rfl|(simp [errW_none,errW_some] <;> rfl)|(simp [*,errW_none,errW_some] <;> rfl),by repeat (first|(with_reducible first|exact HB.out|apply below_alloc|apply pw_below_drewN|apply below_drew1|refine below_set ?_ GE132.out)|exact HB.out)⟩
     ·rw [if_neg c6] at H
      exact absurd H (by simp)
    ·rw [if_neg c5] at H
     exact absurd H (by simp)
   ·rw [if_neg c4] at H
    have c4b0:decide (x11_1 < (l1.length:Int))=false:=decide_eq_false c4
    clear c4
    obtain rfl:=Option.some.inj H
    go_wp2
    go_ret
    exact ⟨by first|rfl|(simp [errW_none,errW_some] <;> rfl)|(simp [*,errW_none,errW_some] <;> rfl),by repeat (first|(with_reducible first|exact HB.out|apply below_alloc|apply pw_below_drewN|apply below_drew1|refine below_set ?_ GE132.out)|exact HB.out)⟩
/-! ### class_flags: function 13 -/
def class_flags.f (a0:Int):Option (Bool):=some ((Go.bits .andNot .i64 a0 8)==0)
set_option maxHeartbeats 80000000 in
set_option maxRecDepth 100000 in
theorem class_flags.calls (a0:Int) (r:Bool) (w:World) (h:class_flags.f a0=some r) :
  Calls Tryd.prog 13 #[.int .i64 a0] w fun e w' => e=.returned (.bool r)∧Drawn0 w w':=by
 have H:(some ((Go.bits .andNot .i64 a0 8)==0))=some r:=h
 clear h
 obtain rfl:=Option.some.inj H
 go_enter Tryd.func13,Tryd.ntmps13
 go_wp2
 go_ret
 exact ⟨by first|rfl|(simp;done)|(simp [*];done),by repeat (first|exact Drawn0.refl _|apply Drawn0.step)⟩
/-! ### class_rules_text: function 14 -/
def class_rules_text.l0:Nat→List Int→Int→Int→List (S51)→Option (Bool)
 | 0,_,_,_,_ => none
 | k + 1,x9,x10,x11,x137000 => if x11 < x10 then (if 0≤x11 then (if x11 < (x9.length:Int) then ((pool_Text.f x137000 (rd x9 x11)).bind fun bt138 => (if bt138.2=true then (class_rules_text.l0 k x9 x10 (wrap64 (x11 + 1)) x137000) else (some false))) else (none)) else (none)) else (some true)
def class_rules_text.f (k:Nat) (l0_0:List (S51)) (l1:List Int):Option (Bool):=class_rules_text.l0 k l1 (l1.length:Int) 0 l0_0
theorem class_rules_text.mono_l:∀ k,(∀ y0 y1 y2 y3,LeO (class_rules_text.l0 k y0 y1 y2 y3) (class_rules_text.l0 (k + 1) y0 y1 y2 y3))
 | 0 => fun _ _ _ _ r h => by simp [class_rules_text.l0] at h
 | k + 1 => by
  have ih0:=class_rules_text.mono_l k
  ·intro y0 y1 y2 y3
   unfold class_rules_text.l0
   repeat' first
   | (with_reducible exact ih0 _ _ _ _)
   | (with_reducible exact LeO.refl _)
   | (with_reducible exact LeO.none _)
   | (with_reducible refine LeO.ite ?_ ?_)
   | (with_reducible refine LeO.bind ?_ (fun _ => ?_))
   | exact ih0 _ _ _ _
   | exact LeO.none _
   | refine LeO.ite ?_ ?_
   | refine LeO.bind ?_ (fun _ => ?_)
theorem class_rules_text.mono:∀ a0 a1 k,LeO (class_rules_text.f k a0 a1) (class_rules_text.f (k + 1) a0 a1):=by
 intro a0 a1 k
 have ih0:=class_rules_text.mono_l k
 unfold class_rules_text.f
 repeat' first
   | (with_reducible exact ih0 _ _ _ _)
   | (with_reducible exact LeO.refl _)
   | (with_reducible exact LeO.none _)
   | (with_reducible refine LeO.ite ?_ ?_)
   | (with_reducible refine LeO.bind ?_ (fun _ => ?_))
   | exact ih0 _ _ _ _
   | exact LeO.none _
   | refine LeO.ite ?_ ?_
   | refine LeO.bind ?_ (fun _ => ?_)
set_option maxHeartbeats 80000000 in
set_option maxRecDepth 100000 in
theorem class_rules_text.calls (k:Nat) (A0_0:Option Addr) (c0_0:Nat) (l0_0:List (S51)) (A1:Option Addr) (c1:Nat) (l1:List Int) (r:Bool) (w:World) (hr0_0:Kd.C k51 w A0_0 l0_0.length l0_0) (hc0_0:l0_0.length≤c0_0) (hr1:Kd.C (Kd.int .i64) w A1 l1.length l1) (hc1:l1.length≤c1) (h:class_rules_text.f k l0_0 l1=some r) :
  Calls Tryd.prog 14 #[.agg #[.slice A0_0 l0_0.length c0_0],.slice A1 l1.length c1] w fun e w' => e=.returned (.bool r)∧Below w.heap.size w w':=by
 have hu39:=Tryd.underlying39
 have HR0_0:=Aside0.mk hr0_0
 have HC0_0:=Aside0.mk hc0_0
 clear hr0_0 hc0_0
 have HR1:=Aside0.mk hr1
 have HC1:=Aside0.mk hc1
 clear hr1 hc1
 have HB:=Aside0.mk (Below.refl w.heap.size w)
 have H:(class_rules_text.l0 k l1 (l1.length:Int) 0 l0_0)=some r:=h
 clear h
 have H':=Aside0.mk H
 clear H
 go_enter Tryd.func14,Tryd.ntmps14
 go_wp2_with (first|((with_reducible refine gate_dst (N:=2) rfl ?_);refine box_event ?hg (N:=2) ?hd (cs:=#[.slice A0_0 l0_0.length c0_0]) (t:=39) ?hr ?_;(case hd => rfl);(case hg => rfl);(case hr => first|(go_simp;done)|(go_simp;rfl));intro gb136 hg w3 hbox hb;have n0_:=Aside0.mk (below_step (by repeat (first|(with_reducible first|exact HB.out|apply below_alloc|apply pw_below_drewN|apply below_drew1)|exact HB.out)) hb);have n1_:=Aside0.mk (hbox);have n2_:=Aside0.mk ((by rw [hg];exact (below_size (by repeat (first|(with_reducible first|exact HB.out|apply below_alloc|apply pw_below_drewN|apply below_drew1)|exact HB.out))):w.heap.size≤gb136));have n3_:=Aside0.mk ((by rw [hg];exact (below_size (by repeat (first|(with_reducible first|exact HB.out|apply below_alloc|apply pw_below_drewN|apply below_drew1)|exact HB.out))):w.heap.size≤gb136));clear HB;have HB:=n0_;have BK136:=n1_;have GW136:=n2_;have GE136:=n3_;clear n0_ n1_ n2_ n3_;clear hb hbox hg))
 go_loopg [11] k (fun kq v11 w' => ∃ (x11_1:Int),v11=.int .i64 x11_1∧Aside0 (class_rules_text.l0 kq l1 (l1.length:Int) x11_1 l0_0=some r)∧Aside0 (kq≤k)∧Aside0 (w'.heap[gb136]?=some (.cells #[(.slice A0_0 l0_0.length c0_0)] 39 (0,0)))∧Aside0 (Below w.heap.size w w'))
 case atStart => exact ⟨(0),(by first|rfl|(simp;done)|(simp [*];done)),H',⟨Nat.le_refl _⟩,⟨by (with_reducible repeat (first|refine blk_drewN ?_ _|refine blk_drew ?_|refine blk_alloc ?_ _));exact BK136.out⟩,⟨by repeat (first|(with_reducible first|exact HB.out|apply below_alloc|apply pw_below_drewN|apply below_drew1|refine below_set ?_ GE136.out)|exact HB.out)⟩⟩
 case round =>
  clear H'
  try clear c1;try clear p2
  obtain ⟨x11_1,rfl,HA,HK1,BK136,HB⟩:=hrel
  cases gk with
  | zero => exact absurd HA.out (by simp [class_rules_text.l0])
  | succ k1 =>
   have H:=HA.out
   clear HA
   simp only [class_rules_text.l0] at H
   by_cases c4:x11_1 < (l1.length:Int)
   ·rw [if_pos c4] at H
    have c4b0:decide (x11_1 < (l1.length:Int))=true:=decide_eq_true c4
    clear c4
    by_cases c5:0≤x11_1
    ·rw [if_pos c5] at H
     have c5b0:decide (0≤x11_1)=true:=decide_eq_true c5
     clear c5
     by_cases c6:x11_1 < (l1.length:Int)
     ·rw [if_pos c6] at H
      have c6b0:decide (x11_1 < (l1.length:Int))=true:=decide_eq_true c6
      clear c6
      replace H:=Option.bind_eq_some_iff.mp H
      obtain ⟨⟨t138,t139⟩,A70,H⟩:=H
      replace H:(if t139=true then (class_rules_text.l0 k1 l1 (l1.length:Int) (wrap64 (x11_1 + 1)) l0_0) else (some false))=some r:=H
      have A7:=Aside0.mk A70
      clear A70
      by_cases c8:t139=true
      ·subst c8
       have H1:(class_rules_text.l0 k1 l1 (l1.length:Int) (wrap64 (x11_1 + 1)) l0_0)=some r:=by rw [if_pos rfl] at H;exact H
       clear H
       have H:=H1
       clear H1
       have H':=Aside0.mk H
       clear H
       have p137:0≤(x11_1:Int):=of_decide_eq_true (by first|(with_reducible assumption)|assumption)
       have q137:x11_1 < (l1.length:Int):=of_decide_eq_true (by first|(with_reducible assumption)|assumption)
       obtain ⟨ad137,e137,hx137_0⟩:=Kd.at_int HR1.out x11_1 p137 q137
       cases e137
       replace hx137_0:=(HB.out.cell (World.block_lt_of_cell? w _ hx137_0)).trans hx137_0
       replace p137:=eq_true p137
       replace q137:=eq_true q137
       have hcz9_0:wr.cell? ⟨gb136,0,none⟩=some (.slice A0_0 l0_0.length c0_0):=(blk_cell BK136.out 0).trans rfl
       have hfz9_0:=blk_frozen BK136.out 0
       go_wp2_with (first|((with_reducible refine gate_callee (f:=24) rfl ?_);refine goesL_ (some 19) rfl rfl Tryd.func24 (by kernel_rfl) rfl #[.slice A0_0 l0_0.length c0_0,.int .i64 (rd l1 x11_1)] rfl (by (try simp only [List.map_toArray,List.map_cons,List.map_nil]);first|done|rfl|(simp only [List.length_drop,List.length_take];rfl)) ?_;(with_reducible refine (pool_Text.calls _ _ l0_0 (rd l1 x11_1) t138 true _ ?side1 ?side2 A7.out).mono ?_);(case side1 => repeat (first|exact (Kd.C_below HR0_0.out HB.out)|(with_reducible refine Kd.C_alloc ?_ _)|(with_reducible refine Kd.C_drewN ?_ _)|(with_reducible refine Kd.C_drew ?_)));(case side2 => exact HC0_0.out);rintro e w' ⟨rfl,⟨nd,rfl⟩⟩;refine ⟨_,rfl,?_⟩))
       go_roundg k1
       case measure => have:=HK1.out;omega
       case rel => exact ⟨(wrap64 (x11_1 + 1)),(by first|rfl|(simp;done)|(simp [*];done)),H',⟨by have:=HK1.out;omega⟩,⟨by (with_reducible repeat (first|refine blk_drewN ?_ _|refine blk_drew ?_|refine blk_alloc ?_ _));exact BK136.out⟩,⟨by repeat (first|(with_reducible first|exact HB.out|apply below_alloc|apply pw_below_drewN|apply below_drew1|refine below_set ?_ GE136.out)|exact HB.out)⟩⟩
      ·replace c8:=Bool.eq_false_iff.mpr c8
       subst c8
       have H1:(some false)=some r:=by rw [if_neg (show ¬ (false=true) by decide)] at H;exact H
       clear H
       have H:=H1
       clear H1
       obtain rfl:=Option.some.inj H
       have p137:0≤(x11_1:Int):=of_decide_eq_true (by first|(with_reducible assumption)|assumption)
       have q137:x11_1 < (l1.length:Int):=of_decide_eq_true (by first|(with_reducible assumption)|assumption)
       obtain ⟨ad137,e137,hx137_0⟩:=Kd.at_int HR1.out x11_1 p137 q137
       cases e137
       replace hx137_0:=(HB.out.cell (World.block_lt_of_cell? w _ hx137_0)).trans hx137_0
       replace p137:=eq_true p137
       replace q137:=eq_true q137
       have hcz10_0:wr.cell? ⟨gb136,0,none⟩=some (.slice A0_0 l0_0.length c0_0):=(blk_cell BK136.out 0).trans rfl
       have hfz10_0:=blk_frozen BK136.out 0
       go_wp2_with (first|((with_reducible refine gate_callee (f:=24) rfl ?_);refine goesL_ (some 19) rfl rfl Tryd.func24 (by kernel_rfl) rfl #[.slice A0_0 l0_0.length c0_0,.int .i64 (rd l1 x11_1)] rfl (by (try simp only [List.map_toArray,List.map_cons,List.map_nil]);first|done|rfl|(simp only [List.length_drop,List.length_take];rfl)) ?_;(with_reducible refine (pool_Text.calls _ _ l0_0 (rd l1 x11_1) t138 false _ ?side1 ?side2 A7.out).mono ?_);(case side1 => repeat (first|exact (Kd.C_below HR0_0.out HB.out)|(with_reducible refine Kd.C_alloc ?_ _)|(with_reducible refine Kd.C_drewN ?_ _)|(with_reducible refine Kd.C_drew ?_)));(case side2 => exact HC0_0.out);rintro e w' ⟨rfl,⟨nd,rfl⟩⟩;refine ⟨_,rfl,?_⟩))
       go_ret
       exact ⟨by first|rfl|(simp [errW_none,errW_some] <;> rfl)|(simp [*,errW_none,errW_some] <;> rfl),by repeat (first|(with_reducible first|exact HB.out|apply below_alloc|apply pw_below_drewN|apply below_drew1|refine below_set ?_ GE136.out)|exact HB.out)⟩
     ·rw [if_neg c6] at H
      exact absurd H (by simp)
    ·rw [if_neg c5] at H
     exact absurd H (by simp)
   ·rw [if_neg c4] at H
    have c4b0:decide (x11_1 < (l1.length:Int))=false:=decide_eq_false c4
    clear c4
    obtain rfl:=Option.some.inj H
    go_wp2
    go_ret
    exact ⟨by first|rfl|(simp [errW_none,errW_some] <;> rfl)|(simp [*,errW_none,errW_some] <;> rfl),by repeat (first|(with_reducible first|exact HB.out|apply below_alloc|apply pw_below_drewN|apply below_drew1|refine below_set ?_ GE136.out)|exact HB.out)⟩
/-! ### class_within: function 25 -/
def class_within.f (a0:Int) (a1:Int):Option (Bool):=if a0 ≥ 0 then (some (decide (a0≤a1))) else (some false)
set_option maxHeartbeats 80000000 in
set_option maxRecDepth 100000 in
theorem class_within.calls (a0:Int) (a1:Int) (r:Bool) (w:World) (h:class_within.f a0 a1=some r) :
  Calls Tryd.prog 25 #[.int .i64 a0,.int .i64 a1] w fun e w' => e=.returned (.bool r)∧Drawn0 w w':=by
 have H:(if a0 ≥ 0 then (some (decide (a0≤a1))) else (some false))=some r:=h
 clear h
 by_cases c3:a0 ≥ 0
 ·rw [if_pos c3] at H
  have c3b0:decide (0≤a0)=true:=decide_eq_true c3
  clear c3
  obtain rfl:=Option.some.inj H
  go_enter Tryd.func25,Tryd.ntmps25
  go_wp2
  go_ret
  exact ⟨by first|rfl|(simp;done)|(simp [*];done),by repeat (first|exact Drawn0.refl _|apply Drawn0.step)⟩
 ·rw [if_neg c3] at H
  have c3b0:decide (0≤a0)=false:=decide_eq_false c3
  clear c3
  obtain rfl:=Option.some.inj H
  go_enter Tryd.func25,Tryd.ntmps25
  go_wp2
  go_ret
  exact ⟨by first|rfl|(simp;done)|(simp [*];done),by repeat (first|exact Drawn0.refl _|apply Drawn0.step)⟩
/-! ### class_place: function 26 -/
def class_place.l0:Nat→List (S51)→ByteArray→Int→Int→Option (Int)
 | 0,_,_,_,_ => none
 | k + 1,x0,x1,x9,x10 => if x10 < x9 then ((pool_Text.f x0 x10).bind fun bt140 => (if bt140.2=true then (if bt140.1.toList=x1.toList then (some x10) else (class_place.l0 k x0 x1 x9 (wrap64 (x10 + 1)))) else (class_place.l0 k x0 x1 x9 (wrap64 (x10 + 1))))) else (some 0)
def class_place.f (k:Nat) (l0:List (S51)) (a1:ByteArray):Option (Int):=class_place.l0 k l0 a1 (l0.length:Int) 0
theorem class_place.mono_l:∀ k,(∀ y0 y1 y2 y3,LeO (class_place.l0 k y0 y1 y2 y3) (class_place.l0 (k + 1) y0 y1 y2 y3))
 | 0 => fun _ _ _ _ r h => by simp [class_place.l0] at h
 | k + 1 => by
  have ih0:=class_place.mono_l k
  ·intro y0 y1 y2 y3
   unfold class_place.l0
   repeat' first
   | (with_reducible exact ih0 _ _ _ _)
   | (with_reducible exact LeO.refl _)
   | (with_reducible exact LeO.none _)
   | (with_reducible refine LeO.ite ?_ ?_)
   | (with_reducible refine LeO.bind ?_ (fun _ => ?_))
   | exact ih0 _ _ _ _
   | exact LeO.none _
   | refine LeO.ite ?_ ?_
   | refine LeO.bind ?_ (fun _ => ?_)
theorem class_place.mono:∀ a0 a1 k,LeO (class_place.f k a0 a1) (class_place.f (k + 1) a0 a1):=by
 intro a0 a1 k
 have ih0:=class_place.mono_l k
 unfold class_place.f
 repeat' first
   | (with_reducible exact ih0 _ _ _ _)
   | (with_reducible exact LeO.refl _)
   | (with_reducible exact LeO.none _)
   | (with_reducible refine LeO.ite ?_ ?_)
   | (with_reducible refine LeO.bind ?_ (fun _ => ?_))
   | exact ih0 _ _ _ _
   | exact LeO.none _
   | refine LeO.ite ?_ ?_
   | refine LeO.bind ?_ (fun _ => ?_)
set_option maxHeartbeats 80000000 in
set_option maxRecDepth 100000 in
theorem class_place.calls (k:Nat) (A0:Option Addr) (c0:Nat) (l0:List (S51)) (a1:ByteArray) (r:Int) (w:World) (hr0:Kd.C k51 w A0 l0.length l0) (hc0:l0.length≤c0) (h:class_place.f k l0 a1=some r) :
  Calls Tryd.prog 26 #[.slice A0 l0.length c0,.string a1] w fun e w' => e=.returned (.int .i64 r)∧Drawn0 w w':=by
 have HR0:=Aside0.mk hr0
 have HC0:=Aside0.mk hc0
 clear hr0 hc0
 have H:(class_place.l0 k l0 a1 (l0.length:Int) 0)=some r:=h
 clear h
 have H':=Aside0.mk H
 clear H
 go_enter Tryd.func26,Tryd.ntmps26
 go_wp2
 go_loopg [10] k (fun kq v10 w' => ∃ (x10_1:Int),v10=.int .i64 x10_1∧Aside0 (class_place.l0 kq l0 a1 (l0.length:Int) x10_1=some r)∧Aside0 (kq≤k)∧Drawn0 w w')
 case atStart => exact ⟨(0),(by first|rfl|(simp;done)|(simp [*];done)),H',⟨Nat.le_refl _⟩,by repeat (first|exact Drawn0.refl _|apply Drawn0.step)⟩
 case round =>
  clear H'
  try clear c2;try clear p2
  obtain ⟨x10_1,rfl,HA,HK1,⟨m1,rfl⟩⟩:=hrel
  cases gk with
  | zero => exact absurd HA.out (by simp [class_place.l0])
  | succ k1 =>
   have H:=HA.out
   clear HA
   simp only [class_place.l0] at H
   by_cases c3:x10_1 < (l0.length:Int)
   ·rw [if_pos c3] at H
    have c3b0:decide (x10_1 < (l0.length:Int))=true:=decide_eq_true c3
    clear c3
    replace H:=Option.bind_eq_some_iff.mp H
    obtain ⟨⟨t140,t141⟩,A40,H⟩:=H
    replace H:(if t141=true then (if t140.toList=a1.toList then (some x10_1) else (class_place.l0 k1 l0 a1 (l0.length:Int) (wrap64 (x10_1 + 1)))) else (class_place.l0 k1 l0 a1 (l0.length:Int) (wrap64 (x10_1 + 1))))=some r:=H
    have A4:=Aside0.mk A40
    clear A40
    by_cases c5:t141=true
    ·subst c5
     have H1:(if t140.toList=a1.toList then (some x10_1) else (class_place.l0 k1 l0 a1 (l0.length:Int) (wrap64 (x10_1 + 1))))=some r:=by rw [if_pos rfl] at H;exact H
     clear H
     have H:=H1
     clear H1
     by_cases c6:t140.toList=a1.toList
     ·rw [if_pos c6] at H
      have c6b0:(t140.toList==a1.toList)=true:=beq_iff_eq.mpr c6
      have c6b1:(t140.toList != a1.toList)=false:=bne_eq_false_iff_eq.mpr c6
      clear c6
      obtain rfl:=Option.some.inj H
      go_wp2_with (first|((with_reducible refine gate_callee (f:=24) rfl ?_);refine goesL_ (some 16) rfl rfl Tryd.func24 (by kernel_rfl) rfl #[.slice A0 l0.length c0,.int .i64 x10_1] rfl (by (try simp only [List.map_toArray,List.map_cons,List.map_nil]);first|done|rfl|(simp only [List.length_drop,List.length_take];rfl)) ?_;(with_reducible refine (pool_Text.calls _ _ l0 x10_1 t140 true _ ?side1 ?side2 A4.out).mono ?_);(case side1 => repeat (first|exact HR0.out|(with_reducible refine Kd.C_alloc ?_ _)|(with_reducible refine Kd.C_drewN ?_ _)|(with_reducible refine Kd.C_drew ?_)));(case side2 => exact HC0.out);rintro e w' ⟨rfl,⟨nd,rfl⟩⟩;refine ⟨_,rfl,?_⟩))
      go_ret
      exact ⟨by first|rfl|(simp;done)|(simp [*];done),by repeat (first|exact Drawn0.refl _|apply Drawn0.step)⟩
     ·rw [if_neg c6] at H
      have c6b0:(t140.toList==a1.toList)=false:=beq_eq_false_iff_ne.mpr c6
      have c6b1:(t140.toList != a1.toList)=true:=bne_iff_ne.mpr c6
      have H':=Aside0.mk H
      clear H
      go_wp2_with (first|((with_reducible refine gate_callee (f:=24) rfl ?_);refine goesL_ (some 16) rfl rfl Tryd.func24 (by kernel_rfl) rfl #[.slice A0 l0.length c0,.int .i64 x10_1] rfl (by (try simp only [List.map_toArray,List.map_cons,List.map_nil]);first|done|rfl|(simp only [List.length_drop,List.length_take];rfl)) ?_;(with_reducible refine (pool_Text.calls _ _ l0 x10_1 t140 true _ ?side1 ?side2 A4.out).mono ?_);(case side1 => repeat (first|exact HR0.out|(with_reducible refine Kd.C_alloc ?_ _)|(with_reducible refine Kd.C_drewN ?_ _)|(with_reducible refine Kd.C_drew ?_)));(case side2 => exact HC0.out);rintro e w' ⟨rfl,⟨nd,rfl⟩⟩;refine ⟨_,rfl,?_⟩))
      go_roundg k1
      case measure => have:=HK1.out;omega
      case rel => exact ⟨(wrap64 (x10_1 + 1)),(by first|rfl|(simp;done)|(simp [*];done)),H',⟨by have:=HK1.out;omega⟩,by repeat (first|exact Drawn0.refl _|apply Drawn0.step)⟩
    ·replace c5:=Bool.eq_false_iff.mpr c5
     subst c5
     have H1:(class_place.l0 k1 l0 a1 (l0.length:Int) (wrap64 (x10_1 + 1)))=some r:=by rw [if_neg (show ¬ (false=true) by decide)] at H;exact H
     clear H
     have H:=H1
     clear H1
     have H':=Aside0.mk H
     clear H
     go_wp2_with (first|((with_reducible refine gate_callee (f:=24) rfl ?_);refine goesL_ (some 16) rfl rfl Tryd.func24 (by kernel_rfl) rfl #[.slice A0 l0.length c0,.int .i64 x10_1] rfl (by (try simp only [List.map_toArray,List.map_cons,List.map_nil]);first|done|rfl|(simp only [List.length_drop,List.length_take];rfl)) ?_;(with_reducible refine (pool_Text.calls _ _ l0 x10_1 t140 false _ ?side1 ?side2 A4.out).mono ?_);(case side1 => repeat (first|exact HR0.out|(with_reducible refine Kd.C_alloc ?_ _)|(with_reducible refine Kd.C_drewN ?_ _)|(with_reducible refine Kd.C_drew ?_)));(case side2 => exact HC0.out);rintro e w' ⟨rfl,⟨nd,rfl⟩⟩;refine ⟨_,rfl,?_⟩))
     go_roundg k1
     case measure => have:=HK1.out;omega
     case rel => exact ⟨(wrap64 (x10_1 + 1)),(by first|rfl|(simp;done)|(simp [*];done)),H',⟨by have:=HK1.out;omega⟩,by repeat (first|exact Drawn0.refl _|apply Drawn0.step)⟩
   ·rw [if_neg c3] at H
    have c3b0:decide (x10_1 < (l0.length:Int))=false:=decide_eq_false c3
    clear c3
    obtain rfl:=Option.some.inj H
    go_wp2
    go_ret
    exact ⟨by first|rfl|(simp;done)|(simp [*];done),by repeat (first|exact Drawn0.refl _|apply Drawn0.step)⟩
end Go.Proofs.YtiolgmklpldpcaaDoor.Px
