-- short. By myprint.py (wip/tools), over the kit's print.
import Derived.Test.YtiolgmklpldpcaaDoorPx0
import Derived.Test.YtiolgmklpldpcaaDoorPx1
import Derived.Test.YtiolgmklpldpcaaDoorPx7
import Derived.Test.YtiolgmklpldpcaaDoorPx9
namespace Go.Proofs.YtiolgmklpldpcaaDoor.Px
open Go.RowKit Go.Proofs.YtiolgmklpldpcaaDoorW.PrintWords Go.Proofs.YtiolgmklpldpcaaDoorW.PrintLast Go.Proofs.YtiolgmklpldpcaaDoorW.PrintMore
attribute [local go_sem] max2_int min2_int max_two min_two max_three min_three max_four min_four
set_option linter.unusedVariables false
set_option linter.unusedSimpArgs false
attribute [local go_sem high] eqA51
/-! ### understudyref04_Check: function 16 -/
mutual
def understudyref04_Check.j0:Nat→List (S51)→Bool→Option (Int)
 | 0,_,_ => none
 | k + 1,x0,x17 => if x17=true then (some 40) else (understudyref04_Check.l0 k x0 1)
def understudyref04_Check.l0:Nat→List (S51)→Int→Option (Int)
 | 0,_,_ => none
 | k + 1,x0,x3 => if x3 < (x0.length:Int) then ((understudyref04_one.f k x0 x3).bind fun t224 => (if t224=0 then (understudyref04_Check.l0 k x0 (wrap64 (x3 + 1))) else (some t224))) else (some 0)
end
def understudyref04_Check.f (k:Nat) (l0:List (S51)):Option (Int):=if (l0.length:Int) > 1024 then (some 2) else (if (l0.length:Int)=0 then (understudyref04_Check.j0 k l0 true) else (if 0 < (l0.length:Int) then (understudyref04_Check.j0 k l0 (!(((rd_T51 l0 0).f0)==0) || (!((((rd_T51 l0 0).f1).toList)==([]:List UInt8)) || (!(((rd_T51 l0 0).f2)==0) || (!(((rd_T51 l0 0).f3)==0) || (!(((rd_T51 l0 0).f4)==0))))))) else (none)))
theorem understudyref04_Check.mono_l:∀ k,(∀ y0 y1,LeO (understudyref04_Check.j0 k y0 y1) (understudyref04_Check.j0 (k + 1) y0 y1))∧(∀ y0 y1,LeO (understudyref04_Check.l0 k y0 y1) (understudyref04_Check.l0 (k + 1) y0 y1))
 | 0 => ⟨fun _ _ r h => by simp [understudyref04_Check.j0] at h,fun _ _ r h => by simp [understudyref04_Check.l0] at h⟩
 | k + 1 => by
  obtain ⟨ih0,ih1⟩:=understudyref04_Check.mono_l k
  refine ⟨?_,?_⟩
  ·intro y0 y1
   unfold understudyref04_Check.j0
   repeat' first
   | (with_reducible exact ih0 _ _)
   | (with_reducible exact ih1 _ _)
   | (with_reducible exact understudyref04_one.mono _ _ _)
   | (with_reducible exact LeO.refl _)
   | (with_reducible exact LeO.none _)
   | (with_reducible refine LeO.ite ?_ ?_)
   | (with_reducible refine LeO.bind ?_ (fun _ => ?_))
   | exact ih0 _ _
   | exact ih1 _ _
   | exact understudyref04_one.mono _ _ _
   | exact LeO.none _
   | refine LeO.ite ?_ ?_
   | refine LeO.bind ?_ (fun _ => ?_)
  ·intro y0 y1
   unfold understudyref04_Check.l0
   repeat' first
   | (with_reducible exact ih0 _ _)
   | (with_reducible exact ih1 _ _)
   | (with_reducible exact understudyref04_one.mono _ _ _)
   | (with_reducible exact LeO.refl _)
   | (with_reducible exact LeO.none _)
   | (with_reducible refine LeO.ite ?_ ?_)
   | (with_reducible refine LeO.bind ?_ (fun _ => ?_))
   | exact ih0 _ _
   | exact ih1 _ _
   | exact understudyref04_one.mono _ _ _
   | exact LeO.none _
   | refine LeO.ite ?_ ?_
   | refine LeO.bind ?_ (fun _ => ?_)
theorem understudyref04_Check.mono:∀ a0 k,LeO (understudyref04_Check.f k a0) (understudyref04_Check.f (k + 1) a0):=by
 intro a0 k
 obtain ⟨ih0,ih1⟩:=understudyref04_Check.mono_l k
 unfold understudyref04_Check.f
 repeat' first
   | (with_reducible exact ih0 _ _)
   | (with_reducible exact ih1 _ _)
   | (with_reducible exact understudyref04_one.mono _ _ _)
   | (with_reducible exact LeO.refl _)
   | (with_reducible exact LeO.none _)
   | (with_reducible refine LeO.ite ?_ ?_)
   | (with_reducible refine LeO.bind ?_ (fun _ => ?_))
   | exact ih0 _ _
   | exact ih1 _ _
   | exact understudyref04_one.mono _ _ _
   | exact LeO.none _
   | refine LeO.ite ?_ ?_
   | refine LeO.bind ?_ (fun _ => ?_)
set_option maxHeartbeats 80000000 in
set_option maxRecDepth 100000 in
theorem understudyref04_Check.calls (k:Nat) (A0:Option Addr) (c0:Nat) (l0:List (S51)) (r:Int) (w:World) (hr0:Kd.C k51 w A0 l0.length l0) (hc0:l0.length≤c0) (h:understudyref04_Check.f k l0=some r) :
  Calls Tryd.prog 16 #[.slice A0 l0.length c0] w fun e w' => e=.returned (.int .i64 r)∧Below w.heap.size w w':=by
 have hu51:=Tryd.underlying51
 have HR0:=Aside0.mk hr0
 have HC0:=Aside0.mk hc0
 clear hr0 hc0
 have HB:=Aside0.mk (Below.refl w.heap.size w)
 have H:(if (l0.length:Int) > 1024 then (some 2) else (if (l0.length:Int)=0 then (understudyref04_Check.j0 k l0 true) else (if 0 < (l0.length:Int) then (understudyref04_Check.j0 k l0 (!(((rd_T51 l0 0).f0)==0) || (!((((rd_T51 l0 0).f1).toList)==([]:List UInt8)) || (!(((rd_T51 l0 0).f2)==0) || (!(((rd_T51 l0 0).f3)==0) || (!(((rd_T51 l0 0).f4)==0))))))) else (none))))=some r:=h
 clear h
 by_cases c2:(l0.length:Int) > 1024
 ·rw [if_pos c2] at H
  have c2b0:decide (1024 < (l0.length:Int))=true:=decide_eq_true c2
  have c2b1:decide (1024 < l0.length)=true:=decide_eq_true (by omega)
  clear c2
  obtain rfl:=Option.some.inj H
  go_enter Tryd.func16,Tryd.ntmps16
  go_wp2
  go_ret
  exact ⟨by first|rfl|(simp [errW_none,errW_some] <;> rfl)|(simp [*,errW_none,errW_some] <;> rfl),by repeat (first|(with_reducible first|exact HB.out|apply below_alloc|apply pw_below_drewN|apply below_drew1)|exact HB.out)⟩
 ·rw [if_neg c2] at H
  have c2b0:decide (1024 < (l0.length:Int))=false:=decide_eq_false c2
  have c2b1:decide (1024 < l0.length)=false:=decide_eq_false (by omega)
  clear c2
  have HC3:=Aside0.mk H
  clear H
  go_enter Tryd.func16,Tryd.ntmps16
  go_upto_region 3 with (fail)
  go_cut [17] (fun v17 wc => ∃ (kq:Nat) (x17_2:Bool),v17=.bool x17_2∧Aside0 (understudyref04_Check.j0 kq l0 x17_2=some r)∧Aside0 (kq≤k)∧Aside0 (Below w.heap.size w wc))
  case first =>
   have H:=HC3.out
   clear HC3
   by_cases c4:(l0.length:Int)=0
   ·rw [if_pos c4] at H
    have c4b0:((l0.length:Int)==0)=true:=beq_iff_eq.mpr c4
    have c4b1:((l0.length:Int) != 0)=false:=bne_eq_false_iff_eq.mpr c4
    clear c4
    (first|rw [c4b0]|(simp only [i64_w,i32_w];rw [c4b0])|skip)
    have H':=Aside0.mk H
    clear H
    go_wp2
    go_meet
    case rel => exact ⟨_,(true),(by first|rfl|(simp;done)|(simp [*];done)),H',⟨by first|omega|exact Nat.le_refl _⟩,⟨by repeat (first|(with_reducible first|exact HB.out|apply below_alloc|apply pw_below_drewN|apply below_drew1)|exact HB.out)⟩⟩
   ·rw [if_neg c4] at H
    have c4b0:((l0.length:Int)==0)=false:=beq_eq_false_iff_ne.mpr c4
    have c4b1:((l0.length:Int) != 0)=true:=bne_iff_ne.mpr c4
    have c4b2:¬ (l0=[]):=fun h_ => c4 (by rw [h_];rfl)
    (first|rw [c4b0]|(simp only [i64_w,i32_w];rw [c4b0])|skip)
    by_cases c5:0 < (l0.length:Int)
    ·rw [if_pos c5] at H
     have c5b0:decide (0 < (l0.length:Int))=true:=decide_eq_true c5
     have c5b1:decide (0 < l0.length)=true:=decide_eq_true (by omega)
     clear c5
     have H':=Aside0.mk H
     clear H
     have p223:0≤(0:Int):=(by omega)
     have q223:0 < (l0.length:Int):=of_decide_eq_true (by first|(with_reducible assumption)|assumption)
     obtain ⟨ad223,e223,hx223_0,hx223_1,hx223_2,hx223_3,hx223_4⟩:=at_T51 HR0.out 0 p223 q223
     cases e223
     have qi223:(0 < l0.length)=True:=eq_true (by omega)
     (try rw [show ((0:Int)).toNat=0 from rfl] at hx223_0)
     (try rw [show 0 * 5=0 from rfl] at hx223_0)
     (try rw [Addr.add_zero'] at hx223_0)
     (try rw [show ((0:Int)).toNat=0 from rfl] at hx223_1)
     (try rw [show 0 * 5=0 from rfl] at hx223_1)
     (try rw [Addr.add_zero'] at hx223_1)
     (try rw [show ((0:Int)).toNat=0 from rfl] at hx223_2)
     (try rw [show 0 * 5=0 from rfl] at hx223_2)
     (try rw [Addr.add_zero'] at hx223_2)
     (try rw [show ((0:Int)).toNat=0 from rfl] at hx223_3)
     (try rw [show 0 * 5=0 from rfl] at hx223_3)
     (try rw [Addr.add_zero'] at hx223_3)
     (try rw [show ((0:Int)).toNat=0 from rfl] at hx223_4)
     (try rw [show 0 * 5=0 from rfl] at hx223_4)
     (try rw [Addr.add_zero'] at hx223_4)
     replace hx223_0:=(HB.out.cell (World.block_lt_of_cell? w _ hx223_0)).trans hx223_0
     replace hx223_1:=(HB.out.cell (World.block_lt_of_cell? w _ hx223_1)).trans hx223_1
     replace hx223_2:=(HB.out.cell (World.block_lt_of_cell? w _ hx223_2)).trans hx223_2
     replace hx223_3:=(HB.out.cell (World.block_lt_of_cell? w _ hx223_3)).trans hx223_3
     replace hx223_4:=(HB.out.cell (World.block_lt_of_cell? w _ hx223_4)).trans hx223_4
     replace p223:=eq_true p223
     replace q223:=eq_true q223
     go_wp2
     go_meet
     case rel => exact ⟨_,((!(((rd_T51 l0 0).f0)==0) || (!((((rd_T51 l0 0).f1).toList)==([]:List UInt8)) || (!(((rd_T51 l0 0).f2)==0) || (!(((rd_T51 l0 0).f3)==0) || (!(((rd_T51 l0 0).f4)==0))))))),(by first|rfl|(simp;done)|(simp [*];done)),H',⟨by first|omega|exact Nat.le_refl _⟩,⟨by repeat (first|(with_reducible first|exact HB.out|apply below_alloc|apply pw_below_drewN|apply below_drew1)|exact HB.out)⟩⟩
    ·rw [if_neg c5] at H
     exact absurd H (by simp)
  case rest =>
   clear HC3
   try clear c1;try clear c2;try clear c2b0;try clear c2b1;try clear p2;try clear q2;try clear hx2;try clear qi2;try clear c4;try clear c4b0;try clear c4b1;try clear c4b2;try clear c5;try clear c5b0;try clear c5b1;try clear hx223_0;try clear hx223_1;try clear hx223_2;try clear hx223_3;try clear hx223_4;try clear p223;try clear q223
   obtain ⟨kq,x17_2,rfl,HA,HJ2,HB⟩:=hcut
   cases kq with
   | zero => exact absurd HA.out (by simp [understudyref04_Check.j0])
   | succ kj2 =>
    have H:=HA.out
    clear HA
    simp only [understudyref04_Check.j0] at H
    by_cases c6:x17_2=true
    ·subst c6
     have H1:(some 40)=some r:=by rw [if_pos rfl] at H;exact H
     clear H
     have H:=H1
     clear H1
     obtain rfl:=Option.some.inj H
     go_wp2
     go_ret
     exact ⟨by first|rfl|(simp [errW_none,errW_some] <;> rfl)|(simp [*,errW_none,errW_some] <;> rfl),by repeat (first|(with_reducible first|exact HB.out|apply below_alloc|apply pw_below_drewN|apply below_drew1)|exact HB.out)⟩
    ·replace c6:=Bool.eq_false_iff.mpr c6
     subst c6
     have H1:(understudyref04_Check.l0 kj2 l0 1)=some r:=by rw [if_neg (show ¬ (false=true) by decide)] at H;exact H
     clear H
     have H:=H1
     clear H1
     have H':=Aside0.mk H
     clear H
     go_wp2
     go_loopg [3] kj2 (fun kq v3 w' => ∃ (x3_2:Int),v3=.int .i64 x3_2∧Aside0 (understudyref04_Check.l0 kq l0 x3_2=some r)∧Aside0 (kq≤kj2)∧Aside0 (Below w.heap.size w w'))
     case atStart => exact ⟨(1),(by first|rfl|(simp;done)|(simp [*];done)),H',⟨Nat.le_refl _⟩,⟨by repeat (first|(with_reducible first|exact HB.out|apply below_alloc|apply pw_below_drewN|apply below_drew1)|exact HB.out)⟩⟩
     case round =>
      clear H'
      try clear c1;try clear c2;try clear c2b0;try clear c2b1;try clear p2;try clear q2;try clear hx2;try clear qi2;try clear c4;try clear c4b0;try clear c4b1;try clear c4b2;try clear c5;try clear c5b0;try clear c5b1;try clear c6;try clear hx223_0;try clear hx223_1;try clear hx223_2;try clear hx223_3;try clear hx223_4;try clear p2;try clear p223;try clear q2;try clear q223
      obtain ⟨x3_2,rfl,HA,HK2,HB⟩:=hrel
      cases gk with
      | zero => exact absurd HA.out (by simp [understudyref04_Check.l0])
      | succ k2 =>
       have H:=HA.out
       clear HA
       simp only [understudyref04_Check.l0] at H
       by_cases c7:x3_2 < (l0.length:Int)
       ·rw [if_pos c7] at H
        have c7b0:decide (x3_2 < (l0.length:Int))=true:=decide_eq_true c7
        clear c7
        replace H:=Option.bind_eq_some_iff.mp H
        obtain ⟨t224,A80,H⟩:=H
        replace H:(if t224=0 then (understudyref04_Check.l0 k2 l0 (wrap64 (x3_2 + 1))) else (some t224))=some r:=H
        have A8:=Aside0.mk A80
        clear A80
        by_cases c9:t224=0
        ·rw [if_pos c9] at H
         have c9b0:(t224==0)=true:=beq_iff_eq.mpr c9
         have c9b1:(t224 != 0)=false:=bne_eq_false_iff_eq.mpr c9
         clear c9
         have H':=Aside0.mk H
         clear H
         go_wp2_with (first|((with_reducible refine gate_callee (f:=27) rfl ?_);refine goesL_ (some 26) rfl rfl Tryd.func27 (by kernel_rfl) rfl #[.slice A0 l0.length c0,.int .i64 x3_2] rfl (by (try simp only [List.map_toArray,List.map_cons,List.map_nil]);first|done|rfl|(simp only [List.length_drop,List.length_take];rfl)) ?_;(with_reducible refine (understudyref04_one.calls k2 _ _ l0 x3_2 t224 _ ?side1 ?side2 A8.out).mono ?_);(case side1 => repeat (first|exact (Kd.C_below HR0.out HB.out)|(with_reducible refine Kd.C_alloc ?_ _)|(with_reducible refine Kd.C_drewN ?_ _)|(with_reducible refine Kd.C_drew ?_)));(case side2 => exact HC0.out);rintro e w10 ⟨rfl,hb⟩;refine ⟨_,rfl,?_⟩;have n0_:=Aside0.mk (below_step (by repeat (first|(with_reducible first|exact HB.out|apply below_alloc|apply pw_below_drewN|apply below_drew1)|exact HB.out)) hb);clear HB;have HB:=n0_;clear n0_;(try clear hb);(try clear hb2);(try clear hk);(try clear hi)))
         go_roundg k2
         case measure => have:=HJ2.out;have:=HK2.out;omega
         case rel => exact ⟨(wrap64 (x3_2 + 1)),(by first|rfl|(simp;done)|(simp [*];done)),H',⟨by have:=HJ2.out;have:=HK2.out;omega⟩,⟨by repeat (first|(with_reducible first|exact HB.out|apply below_alloc|apply pw_below_drewN|apply below_drew1)|exact HB.out)⟩⟩
        ·rw [if_neg c9] at H
         have c9b0:(t224==0)=false:=beq_eq_false_iff_ne.mpr c9
         have c9b1:(t224 != 0)=true:=bne_iff_ne.mpr c9
         obtain rfl:=Option.some.inj H
         go_wp2_with (first|((with_reducible refine gate_callee (f:=27) rfl ?_);refine goesL_ (some 26) rfl rfl Tryd.func27 (by kernel_rfl) rfl #[.slice A0 l0.length c0,.int .i64 x3_2] rfl (by (try simp only [List.map_toArray,List.map_cons,List.map_nil]);first|done|rfl|(simp only [List.length_drop,List.length_take];rfl)) ?_;(with_reducible refine (understudyref04_one.calls k2 _ _ l0 x3_2 t224 _ ?side1 ?side2 A8.out).mono ?_);(case side1 => repeat (first|exact (Kd.C_below HR0.out HB.out)|(with_reducible refine Kd.C_alloc ?_ _)|(with_reducible refine Kd.C_drewN ?_ _)|(with_reducible refine Kd.C_drew ?_)));(case side2 => exact HC0.out);rintro e w11 ⟨rfl,hb⟩;refine ⟨_,rfl,?_⟩;have n0_:=Aside0.mk (below_step (by repeat (first|(with_reducible first|exact HB.out|apply below_alloc|apply pw_below_drewN|apply below_drew1)|exact HB.out)) hb);clear HB;have HB:=n0_;clear n0_;(try clear hb);(try clear hb2);(try clear hk);(try clear hi)))
         go_ret
         exact ⟨by first|rfl|(simp [errW_none,errW_some] <;> rfl)|(simp [*,errW_none,errW_some] <;> rfl),by repeat (first|(with_reducible first|exact HB.out|apply below_alloc|apply pw_below_drewN|apply below_drew1)|exact HB.out)⟩
       ·rw [if_neg c7] at H
        have c7b0:decide (x3_2 < (l0.length:Int))=false:=decide_eq_false c7
        clear c7
        obtain rfl:=Option.some.inj H
        go_wp2
        go_ret
        exact ⟨by first|rfl|(simp [errW_none,errW_some] <;> rfl)|(simp [*,errW_none,errW_some] <;> rfl),by repeat (first|(with_reducible first|exact HB.out|apply below_alloc|apply pw_below_drewN|apply below_drew1)|exact HB.out)⟩
/-! ### understudyref04_Text: function 28 -/
def understudyref04_Text.f (l0:List (S51)) (a1:Int):Option (ByteArray × Bool):=(understudyref04_is.f l0 a1 1).bind fun t225 => (if t225=true then (if 0≤a1 then (if a1 < (l0.length:Int) then (some ((rd_T51 l0 a1).f1,true)) else (none)) else (none)) else (some ((⟨#[]⟩:ByteArray),false)))
set_option maxHeartbeats 80000000 in
set_option maxRecDepth 100000 in
theorem understudyref04_Text.calls (A0:Option Addr) (c0:Nat) (l0:List (S51)) (a1:Int) (r1:ByteArray) (r2:Bool) (w:World) (hr0:Kd.C k51 w A0 l0.length l0) (hc0:l0.length≤c0) (h:understudyref04_Text.f l0 a1=some (r1,r2)) :
  Calls Tryd.prog 28 #[.slice A0 l0.length c0,.int .i64 a1] w fun e w' => e=.returned (.tuple #[.string r1,.bool r2])∧Drawn0 w w':=by
 have HR0:=Aside0.mk hr0
 have HC0:=Aside0.mk hc0
 clear hr0 hc0
 have H:((understudyref04_is.f l0 a1 1).bind fun t225 => (if t225=true then (if 0≤a1 then (if a1 < (l0.length:Int) then (some ((rd_T51 l0 a1).f1,true)) else (none)) else (none)) else (some ((⟨#[]⟩:ByteArray),false))))=some (r1,r2):=h
 clear h
 replace H:=Option.bind_eq_some_iff.mp H
 obtain ⟨t225,A30,H⟩:=H
 replace H:(if t225=true then (if 0≤a1 then (if a1 < (l0.length:Int) then (some ((rd_T51 l0 a1).f1,true)) else (none)) else (none)) else (some ((⟨#[]⟩:ByteArray),false)))=some (r1,r2):=H
 have A3:=Aside0.mk A30
 clear A30
 by_cases c4:t225=true
 ·subst c4
  have H1:(if 0≤a1 then (if a1 < (l0.length:Int) then (some ((rd_T51 l0 a1).f1,true)) else (none)) else (none))=some (r1,r2):=by rw [if_pos rfl] at H;exact H
  clear H
  have H:=H1
  clear H1
  by_cases c5:0≤a1
  ·rw [if_pos c5] at H
   have c5b0:decide (0≤a1)=true:=decide_eq_true c5
   clear c5
   by_cases c6:a1 < (l0.length:Int)
   ·rw [if_pos c6] at H
    have c6b0:decide (a1 < (l0.length:Int))=true:=decide_eq_true c6
    clear c6
    simp only [Option.some.injEq,Prod.mk.injEq] at H
    obtain ⟨rfl,rfl⟩:=H
    go_enter Tryd.func28,Tryd.ntmps28
    go_wp2_with (first|((with_reducible refine gate_callee (f:=31) rfl ?_);refine goesL_ (some 8) rfl rfl Tryd.func31 (by kernel_rfl) rfl #[.slice A0 l0.length c0,.int .i64 a1,.int .i64 1] rfl (by (try simp only [List.map_toArray,List.map_cons,List.map_nil]);first|done|rfl|(simp only [List.length_drop,List.length_take];rfl)) ?_;(with_reducible refine (understudyref04_is.calls _ _ l0 a1 1 true _ ?side1 ?side2 A3.out).mono ?_);(case side1 => repeat (first|exact HR0.out|(with_reducible refine Kd.C_alloc ?_ _)|(with_reducible refine Kd.C_drewN ?_ _)|(with_reducible refine Kd.C_drew ?_)));(case side2 => exact HC0.out);rintro e w' ⟨rfl,⟨nd,rfl⟩⟩;refine ⟨_,rfl,?_⟩;have p226:0≤(a1:Int):=of_decide_eq_true (by first|(with_reducible assumption)|assumption);have q226:a1 < (l0.length:Int):=of_decide_eq_true (by first|(with_reducible assumption)|assumption);obtain ⟨ad226,e226,hx226_0,hx226_1,hx226_2,hx226_3,hx226_4⟩:=at_T51 HR0.out a1 p226 q226;cases e226;replace p226:=eq_true p226;replace q226:=eq_true q226))
    go_ret2
    exact ⟨by first|rfl|(simp;done)|(simp [*];done),by repeat (first|exact Drawn0.refl _|apply Drawn0.step)⟩
   ·rw [if_neg c6] at H
    exact absurd H (by simp)
  ·rw [if_neg c5] at H
   exact absurd H (by simp)
 ·replace c4:=Bool.eq_false_iff.mpr c4
  subst c4
  have H1:(some ((⟨#[]⟩:ByteArray),false))=some (r1,r2):=by rw [if_neg (show ¬ (false=true) by decide)] at H;exact H
  clear H
  have H:=H1
  clear H1
  simp only [Option.some.injEq,Prod.mk.injEq] at H
  obtain ⟨rfl,rfl⟩:=H
  go_enter Tryd.func28,Tryd.ntmps28
  go_wp2_with (first|((with_reducible refine gate_callee (f:=31) rfl ?_);refine goesL_ (some 8) rfl rfl Tryd.func31 (by kernel_rfl) rfl #[.slice A0 l0.length c0,.int .i64 a1,.int .i64 1] rfl (by (try simp only [List.map_toArray,List.map_cons,List.map_nil]);first|done|rfl|(simp only [List.length_drop,List.length_take];rfl)) ?_;(with_reducible refine (understudyref04_is.calls _ _ l0 a1 1 false _ ?side1 ?side2 A3.out).mono ?_);(case side1 => repeat (first|exact HR0.out|(with_reducible refine Kd.C_alloc ?_ _)|(with_reducible refine Kd.C_drewN ?_ _)|(with_reducible refine Kd.C_drew ?_)));(case side2 => exact HC0.out);rintro e w' ⟨rfl,⟨nd,rfl⟩⟩;refine ⟨_,rfl,?_⟩))
  go_ret2
  exact ⟨by first|rfl|(simp;done)|(simp [*];done),by repeat (first|exact Drawn0.refl _|apply Drawn0.step)⟩
/-! ### understudyref04_Class: function 21 -/
def understudyref04_Class.f (l0:List (S51)) (a1:Int):Option (ByteArray × Bool):=(understudyref04_is.f l0 a1 7).bind fun t227 => (if t227=true then (if 0≤a1 then (if a1 < (l0.length:Int) then ((understudyref04_Text.f l0 ((rd_T51 l0 a1).f3)).bind fun bt229 => (some (bt229.1,bt229.2))) else (none)) else (none)) else (some ((⟨#[]⟩:ByteArray),false)))
set_option maxHeartbeats 80000000 in
set_option maxRecDepth 100000 in
theorem understudyref04_Class.calls (A0:Option Addr) (c0:Nat) (l0:List (S51)) (a1:Int) (r1:ByteArray) (r2:Bool) (w:World) (hr0:Kd.C k51 w A0 l0.length l0) (hc0:l0.length≤c0) (h:understudyref04_Class.f l0 a1=some (r1,r2)) :
  Calls Tryd.prog 21 #[.slice A0 l0.length c0,.int .i64 a1] w fun e w' => e=.returned (.tuple #[.string r1,.bool r2])∧Drawn0 w w':=by
 have HR0:=Aside0.mk hr0
 have HC0:=Aside0.mk hc0
 clear hr0 hc0
 have H:((understudyref04_is.f l0 a1 7).bind fun t227 => (if t227=true then (if 0≤a1 then (if a1 < (l0.length:Int) then ((understudyref04_Text.f l0 ((rd_T51 l0 a1).f3)).bind fun bt229 => (some (bt229.1,bt229.2))) else (none)) else (none)) else (some ((⟨#[]⟩:ByteArray),false))))=some (r1,r2):=h
 clear h
 replace H:=Option.bind_eq_some_iff.mp H
 obtain ⟨t227,A30,H⟩:=H
 replace H:(if t227=true then (if 0≤a1 then (if a1 < (l0.length:Int) then ((understudyref04_Text.f l0 ((rd_T51 l0 a1).f3)).bind fun bt229 => (some (bt229.1,bt229.2))) else (none)) else (none)) else (some ((⟨#[]⟩:ByteArray),false)))=some (r1,r2):=H
 have A3:=Aside0.mk A30
 clear A30
 by_cases c4:t227=true
 ·subst c4
  have H1:(if 0≤a1 then (if a1 < (l0.length:Int) then ((understudyref04_Text.f l0 ((rd_T51 l0 a1).f3)).bind fun bt229 => (some (bt229.1,bt229.2))) else (none)) else (none))=some (r1,r2):=by rw [if_pos rfl] at H;exact H
  clear H
  have H:=H1
  clear H1
  by_cases c5:0≤a1
  ·rw [if_pos c5] at H
   have c5b0:decide (0≤a1)=true:=decide_eq_true c5
   clear c5
   by_cases c6:a1 < (l0.length:Int)
   ·rw [if_pos c6] at H
    have c6b0:decide (a1 < (l0.length:Int))=true:=decide_eq_true c6
    clear c6
    replace H:=Option.bind_eq_some_iff.mp H
    obtain ⟨⟨t229,t230⟩,A70,H⟩:=H
    replace H:(some (t229,t230))=some (r1,r2):=H
    have A7:=Aside0.mk A70
    clear A70
    simp only [Option.some.injEq,Prod.mk.injEq] at H
    obtain ⟨rfl,rfl⟩:=H
    go_enter Tryd.func21,Tryd.ntmps21
    go_wp2_with (first|((with_reducible refine gate_callee (f:=31) rfl ?_);refine goesL_ (some 8) rfl rfl Tryd.func31 (by kernel_rfl) rfl #[.slice A0 l0.length c0,.int .i64 a1,.int .i64 7] rfl (by (try simp only [List.map_toArray,List.map_cons,List.map_nil]);first|done|rfl|(simp only [List.length_drop,List.length_take];rfl)) ?_;(with_reducible refine (understudyref04_is.calls _ _ l0 a1 7 true _ ?side1 ?side2 A3.out).mono ?_);(case side1 => repeat (first|exact HR0.out|(with_reducible refine Kd.C_alloc ?_ _)|(with_reducible refine Kd.C_drewN ?_ _)|(with_reducible refine Kd.C_drew ?_)));(case side2 => exact HC0.out);rintro e w' ⟨rfl,⟨nd,rfl⟩⟩;refine ⟨_,rfl,?_⟩;have p228:0≤(a1:Int):=of_decide_eq_true (by first|(with_reducible assumption)|assumption);have q228:a1 < (l0.length:Int):=of_decide_eq_true (by first|(with_reducible assumption)|assumption);obtain ⟨ad228,e228,hx228_0,hx228_1,hx228_2,hx228_3,hx228_4⟩:=at_T51 HR0.out a1 p228 q228;cases e228;replace p228:=eq_true p228;replace q228:=eq_true q228)|((with_reducible refine gate_callee (f:=28) rfl ?_);refine goesL_ (some 16) rfl rfl Tryd.func28 (by kernel_rfl) rfl #[.slice (some ad228) l0.length c0,.int .i64 ((rd_T51 l0 a1).f3)] rfl (by (try simp only [List.map_toArray,List.map_cons,List.map_nil]);first|done|rfl|(simp only [List.length_drop,List.length_take];rfl)) ?_;(with_reducible refine (understudyref04_Text.calls _ _ l0 ((rd_T51 l0 a1).f3) t229 t230 _ ?side1 ?side2 A7.out).mono ?_);(case side1 => repeat (first|exact HR0.out|(with_reducible refine Kd.C_alloc ?_ _)|(with_reducible refine Kd.C_drewN ?_ _)|(with_reducible refine Kd.C_drew ?_)));(case side2 => exact HC0.out);rintro e w' ⟨rfl,⟨nd,rfl⟩⟩;refine ⟨_,rfl,?_⟩))
    go_ret2
    exact ⟨by first|rfl|(simp;done)|(simp [*];done),by repeat (first|exact Drawn0.refl _|apply Drawn0.step)⟩
   ·rw [if_neg c6] at H
    exact absurd H (by simp)
  ·rw [if_neg c5] at H
   exact absurd H (by simp)
 ·replace c4:=Bool.eq_false_iff.mpr c4
  subst c4
  have H1:(some ((⟨#[]⟩:ByteArray),false))=some (r1,r2):=by rw [if_neg (show ¬ (false=true) by decide)] at H;exact H
  clear H
  have H:=H1
  clear H1
  simp only [Option.some.injEq,Prod.mk.injEq] at H
  obtain ⟨rfl,rfl⟩:=H
  go_enter Tryd.func21,Tryd.ntmps21
  go_wp2_with (first|((with_reducible refine gate_callee (f:=31) rfl ?_);refine goesL_ (some 8) rfl rfl Tryd.func31 (by kernel_rfl) rfl #[.slice A0 l0.length c0,.int .i64 a1,.int .i64 7] rfl (by (try simp only [List.map_toArray,List.map_cons,List.map_nil]);first|done|rfl|(simp only [List.length_drop,List.length_take];rfl)) ?_;(with_reducible refine (understudyref04_is.calls _ _ l0 a1 7 false _ ?side1 ?side2 A3.out).mono ?_);(case side1 => repeat (first|exact HR0.out|(with_reducible refine Kd.C_alloc ?_ _)|(with_reducible refine Kd.C_drewN ?_ _)|(with_reducible refine Kd.C_drew ?_)));(case side2 => exact HC0.out);rintro e w' ⟨rfl,⟨nd,rfl⟩⟩;refine ⟨_,rfl,?_⟩))
  go_ret2
  exact ⟨by first|rfl|(simp;done)|(simp [*];done),by repeat (first|exact Drawn0.refl _|apply Drawn0.step)⟩
/-! ### understudyref05_cls: function 17 -/
def understudyref05_cls.f (l0:List (S51)) (a1:Int):Option (Bool):=(understudyref04_Class.f l0 a1).bind fun bt231 => (some bt231.2)
set_option maxHeartbeats 80000000 in
set_option maxRecDepth 100000 in
theorem understudyref05_cls.calls (A0:Option Addr) (c0:Nat) (l0:List (S51)) (a1:Int) (r:Bool) (w:World) (hr0:Kd.C k51 w A0 l0.length l0) (hc0:l0.length≤c0) (h:understudyref05_cls.f l0 a1=some r) :
  Calls Tryd.prog 17 #[.slice A0 l0.length c0,.int .i64 a1] w fun e w' => e=.returned (.bool r)∧Drawn0 w w':=by
 have HR0:=Aside0.mk hr0
 have HC0:=Aside0.mk hc0
 clear hr0 hc0
 have H:((understudyref04_Class.f l0 a1).bind fun bt231 => (some bt231.2))=some r:=h
 clear h
 replace H:=Option.bind_eq_some_iff.mp H
 obtain ⟨⟨t231,t232⟩,A30,H⟩:=H
 replace H:(some t232)=some r:=H
 have A3:=Aside0.mk A30
 clear A30
 obtain rfl:=Option.some.inj H
 go_enter Tryd.func17,Tryd.ntmps17
 go_wp2_with (first|((with_reducible refine gate_callee (f:=21) rfl ?_);refine goesL_ (some 10) rfl rfl Tryd.func21 (by kernel_rfl) rfl #[.slice A0 l0.length c0,.int .i64 a1] rfl (by (try simp only [List.map_toArray,List.map_cons,List.map_nil]);first|done|rfl|(simp only [List.length_drop,List.length_take];rfl)) ?_;(with_reducible refine (understudyref04_Class.calls _ _ l0 a1 t231 t232 _ ?side1 ?side2 A3.out).mono ?_);(case side1 => repeat (first|exact HR0.out|(with_reducible refine Kd.C_alloc ?_ _)|(with_reducible refine Kd.C_drewN ?_ _)|(with_reducible refine Kd.C_drew ?_)));(case side2 => exact HC0.out);rintro e w' ⟨rfl,⟨nd,rfl⟩⟩;refine ⟨_,rfl,?_⟩))
 go_ret
 exact ⟨by first|rfl|(simp;done)|(simp [*];done),by repeat (first|exact Drawn0.refl _|apply Drawn0.step)⟩
/-! ### understudyref05_utf: function 18 -/
def understudyref05_utf.f (l0:List (S51)) (a1:Int):Option (Bool):=(understudyref04_Text.f l0 a1).bind fun bt233 => (some bt233.2)
set_option maxHeartbeats 80000000 in
set_option maxRecDepth 100000 in
theorem understudyref05_utf.calls (A0:Option Addr) (c0:Nat) (l0:List (S51)) (a1:Int) (r:Bool) (w:World) (hr0:Kd.C k51 w A0 l0.length l0) (hc0:l0.length≤c0) (h:understudyref05_utf.f l0 a1=some r) :
  Calls Tryd.prog 18 #[.slice A0 l0.length c0,.int .i64 a1] w fun e w' => e=.returned (.bool r)∧Drawn0 w w':=by
 have HR0:=Aside0.mk hr0
 have HC0:=Aside0.mk hc0
 clear hr0 hc0
 have H:((understudyref04_Text.f l0 a1).bind fun bt233 => (some bt233.2))=some r:=h
 clear h
 replace H:=Option.bind_eq_some_iff.mp H
 obtain ⟨⟨t233,t234⟩,A30,H⟩:=H
 replace H:(some t234)=some r:=H
 have A3:=Aside0.mk A30
 clear A30
 obtain rfl:=Option.some.inj H
 go_enter Tryd.func18,Tryd.ntmps18
 go_wp2_with (first|((with_reducible refine gate_callee (f:=28) rfl ?_);refine goesL_ (some 10) rfl rfl Tryd.func28 (by kernel_rfl) rfl #[.slice A0 l0.length c0,.int .i64 a1] rfl (by (try simp only [List.map_toArray,List.map_cons,List.map_nil]);first|done|rfl|(simp only [List.length_drop,List.length_take];rfl)) ?_;(with_reducible refine (understudyref04_Text.calls _ _ l0 a1 t233 t234 _ ?side1 ?side2 A3.out).mono ?_);(case side1 => repeat (first|exact HR0.out|(with_reducible refine Kd.C_alloc ?_ _)|(with_reducible refine Kd.C_drewN ?_ _)|(with_reducible refine Kd.C_drew ?_)));(case side2 => exact HC0.out);rintro e w' ⟨rfl,⟨nd,rfl⟩⟩;refine ⟨_,rfl,?_⟩))
 go_ret
 exact ⟨by first|rfl|(simp;done)|(simp [*];done),by repeat (first|exact Drawn0.refl _|apply Drawn0.step)⟩
/-! ### understudyref05_text: function 29 -/
def understudyref05_text.l0:Nat→List (S51)→ByteArray→Int→Option (Int)
 | 0,_,_,_ => none
 | k + 1,x0,x1,x5 => if x5 < (x0.length:Int) then (if 0≤x5 then (if ((rd_T51 x0 x5).f0)=1 then (if ((rd_T51 x0 x5).f1).toList=x1.toList then (some x5) else (understudyref05_text.l0 k x0 x1 (wrap64 (x5 + 1)))) else (understudyref05_text.l0 k x0 x1 (wrap64 (x5 + 1)))) else (none)) else (some 0)
def understudyref05_text.f (k:Nat) (l0:List (S51)) (a1:ByteArray):Option (Int):=understudyref05_text.l0 k l0 a1 1
theorem understudyref05_text.mono_l:∀ k,(∀ y0 y1 y2,LeO (understudyref05_text.l0 k y0 y1 y2) (understudyref05_text.l0 (k + 1) y0 y1 y2))
 | 0 => fun _ _ _ r h => by simp [understudyref05_text.l0] at h
 | k + 1 => by
  have ih0:=understudyref05_text.mono_l k
  ·intro y0 y1 y2
   unfold understudyref05_text.l0
   repeat' first
   | (with_reducible exact ih0 _ _ _)
   | (with_reducible exact LeO.refl _)
   | (with_reducible exact LeO.none _)
   | (with_reducible refine LeO.ite ?_ ?_)
   | (with_reducible refine LeO.bind ?_ (fun _ => ?_))
   | exact ih0 _ _ _
   | exact LeO.none _
   | refine LeO.ite ?_ ?_
   | refine LeO.bind ?_ (fun _ => ?_)
theorem understudyref05_text.mono:∀ a0 a1 k,LeO (understudyref05_text.f k a0 a1) (understudyref05_text.f (k + 1) a0 a1):=by
 intro a0 a1 k
 have ih0:=understudyref05_text.mono_l k
 unfold understudyref05_text.f
 repeat' first
   | (with_reducible exact ih0 _ _ _)
   | (with_reducible exact LeO.refl _)
   | (with_reducible exact LeO.none _)
   | (with_reducible refine LeO.ite ?_ ?_)
   | (with_reducible refine LeO.bind ?_ (fun _ => ?_))
   | exact ih0 _ _ _
   | exact LeO.none _
   | refine LeO.ite ?_ ?_
   | refine LeO.bind ?_ (fun _ => ?_)
set_option maxHeartbeats 80000000 in
set_option maxRecDepth 100000 in
theorem understudyref05_text.calls (k:Nat) (A0:Option Addr) (c0:Nat) (l0:List (S51)) (a1:ByteArray) (r:Int) (w:World) (hr0:Kd.C k51 w A0 l0.length l0) (hc0:l0.length≤c0) (h:understudyref05_text.f k l0 a1=some r) :
  Calls Tryd.prog 29 #[.slice A0 l0.length c0,.string a1] w fun e w' => e=.returned (.int .i64 r)∧Drawn0 w w':=by
 have HR0:=Aside0.mk hr0
 have HC0:=Aside0.mk hc0
 clear hr0 hc0
 have H:(understudyref05_text.l0 k l0 a1 1)=some r:=h
 clear h
 have H':=Aside0.mk H
 clear H
 go_enter Tryd.func29,Tryd.ntmps29
 go_wp2
 go_loopg [5] k (fun kq v5 w' => ∃ (x5_1:Int),v5=.int .i64 x5_1∧Aside0 (understudyref05_text.l0 kq l0 a1 x5_1=some r)∧Aside0 (kq≤k)∧Drawn0 w w')
 case atStart => exact ⟨(1),(by first|rfl|(simp;done)|(simp [*];done)),H',⟨Nat.le_refl _⟩,by repeat (first|exact Drawn0.refl _|apply Drawn0.step)⟩
 case round =>
  clear H'
  try clear c2;try clear p2
  obtain ⟨x5_1,rfl,HA,HK1,⟨m1,rfl⟩⟩:=hrel
  cases gk with
  | zero => exact absurd HA.out (by simp [understudyref05_text.l0])
  | succ k1 =>
   have H:=HA.out
   clear HA
   simp only [understudyref05_text.l0] at H
   by_cases c3:x5_1 < (l0.length:Int)
   ·rw [if_pos c3] at H
    have c3b0:decide (x5_1 < (l0.length:Int))=true:=decide_eq_true c3
    clear c3
    by_cases c4:0≤x5_1
    ·rw [if_pos c4] at H
     have c4b0:decide (0≤x5_1)=true:=decide_eq_true c4
     clear c4
     by_cases c5:((rd_T51 l0 x5_1).f0)=1
     ·rw [if_pos c5] at H
      have c5b0:(((rd_T51 l0 x5_1).f0)==1)=true:=beq_iff_eq.mpr c5
      have c5b1:(((rd_T51 l0 x5_1).f0) != 1)=false:=bne_eq_false_iff_eq.mpr c5
      clear c5
      by_cases c6:((rd_T51 l0 x5_1).f1).toList=a1.toList
      ·rw [if_pos c6] at H
       have c6b0:(((rd_T51 l0 x5_1).f1).toList==a1.toList)=true:=beq_iff_eq.mpr c6
       have c6b1:(((rd_T51 l0 x5_1).f1).toList != a1.toList)=false:=bne_eq_false_iff_eq.mpr c6
       clear c6
       obtain rfl:=Option.some.inj H
       have p235:0≤(x5_1:Int):=of_decide_eq_true (by first|(with_reducible assumption)|assumption)
       have q235:x5_1 < (l0.length:Int):=of_decide_eq_true (by first|(with_reducible assumption)|assumption)
       obtain ⟨ad235,e235,hx235_0,hx235_1,hx235_2,hx235_3,hx235_4⟩:=at_T51 HR0.out x5_1 p235 q235
       cases e235
       replace p235:=eq_true p235
       replace q235:=eq_true q235
       have p236:0≤(x5_1:Int):=of_decide_eq_true (by first|(with_reducible assumption)|assumption)
       have q236:x5_1 < (l0.length:Int):=of_decide_eq_true (by first|(with_reducible assumption)|assumption)
       obtain ⟨ad236,e236,hx236_0,hx236_1,hx236_2,hx236_3,hx236_4⟩:=at_T51 HR0.out x5_1 p236 q236
       obtain rfl:ad235=ad236:=(by injection e236)
       replace p236:=eq_true p236
       replace q236:=eq_true q236
       go_wp2
       go_ret
       exact ⟨by first|rfl|(simp;done)|(simp [*];done),by repeat (first|exact Drawn0.refl _|apply Drawn0.step)⟩
      ·rw [if_neg c6] at H
       have c6b0:(((rd_T51 l0 x5_1).f1).toList==a1.toList)=false:=beq_eq_false_iff_ne.mpr c6
       have c6b1:(((rd_T51 l0 x5_1).f1).toList != a1.toList)=true:=bne_iff_ne.mpr c6
       have H':=Aside0.mk H
       clear H
       have p235:0≤(x5_1:Int):=of_decide_eq_true (by first|(with_reducible assumption)|assumption)
       have q235:x5_1 < (l0.length:Int):=of_decide_eq_true (by first|(with_reducible assumption)|assumption)
       obtain ⟨ad235,e235,hx235_0,hx235_1,hx235_2,hx235_3,hx235_4⟩:=at_T51 HR0.out x5_1 p235 q235
       cases e235
       replace p235:=eq_true p235
       replace q235:=eq_true q235
       have p236:0≤(x5_1:Int):=of_decide_eq_true (by first|(with_reducible assumption)|assumption)
       have q236:x5_1 < (l0.length:Int):=of_decide_eq_true (by first|(with_reducible assumption)|assumption)
       obtain ⟨ad236,e236,hx236_0,hx236_1,hx236_2,hx236_3,hx236_4⟩:=at_T51 HR0.out x5_1 p236 q236
       obtain rfl:ad235=ad236:=(by injection e236)
       replace p236:=eq_true p236
       replace q236:=eq_true q236
       go_wp2
       go_roundg k1
       case measure => have:=HK1.out;omega
       case rel => exact ⟨(wrap64 (x5_1 + 1)),(by first|rfl|(simp;done)|(simp [*];done)),H',⟨by have:=HK1.out;omega⟩,by repeat (first|exact Drawn0.refl _|apply Drawn0.step)⟩
     ·rw [if_neg c5] at H
      have c5b0:(((rd_T51 l0 x5_1).f0)==1)=false:=beq_eq_false_iff_ne.mpr c5
      have c5b1:(((rd_T51 l0 x5_1).f0) != 1)=true:=bne_iff_ne.mpr c5
      have H':=Aside0.mk H
      clear H
      have p235:0≤(x5_1:Int):=of_decide_eq_true (by first|(with_reducible assumption)|assumption)
      have q235:x5_1 < (l0.length:Int):=of_decide_eq_true (by first|(with_reducible assumption)|assumption)
      obtain ⟨ad235,e235,hx235_0,hx235_1,hx235_2,hx235_3,hx235_4⟩:=at_T51 HR0.out x5_1 p235 q235
      cases e235
      replace p235:=eq_true p235
      replace q235:=eq_true q235
      go_wp2
      go_roundg k1
      case measure => have:=HK1.out;omega
      case rel => exact ⟨(wrap64 (x5_1 + 1)),(by first|rfl|(simp;done)|(simp [*];done)),H',⟨by have:=HK1.out;omega⟩,by repeat (first|exact Drawn0.refl _|apply Drawn0.step)⟩
    ·rw [if_neg c4] at H
     exact absurd H (by simp)
   ·rw [if_neg c3] at H
    have c3b0:decide (x5_1 < (l0.length:Int))=false:=decide_eq_false c3
    clear c3
    obtain rfl:=Option.some.inj H
    go_wp2
    go_ret
    exact ⟨by first|rfl|(simp;done)|(simp [*];done),by repeat (first|exact Drawn0.refl _|apply Drawn0.step)⟩
end Go.Proofs.YtiolgmklpldpcaaDoor.Px
