/- Arithmetic of modified UTF-8: a unit's bytes. -/
/- Plain law of a unit that is read: the program's and the reference's both are 'takeV'. -/
/- Plain law of wire.Reader: the numbers that bytes make. -/
/- Plain law of Decode: the program's and the reference's both are 'decV'; the pure statement of TextDecodes. -/
/- Plain law of modified UTF-8: what a text's bytes are ('encL'), and that the program's Encode comes to them. -/
/- Plain law of there and back: what is encoded is decoded as itself, and what is decoded is encoded as itself. -/
/- Plain law of a pool's places: does a place lead to a tag, and to which text. -/
/- Plain law of pool.Check: what the program's check comes to. -/
/- Plain law of pool.Decode: what the program's comes to. -/
/- Plain law of pool.Encode: the bytes of a pool that may be. -/
/- Plain law: a pool's bytes are read as the pool. -/
/- Layer 4's law: the program computes at all. -/
/- Plain law: a pool is the same as itself. -/
/- The pure statement of PoolBack: a pool that may be, as bytes, with anything behind, is read as itself. -/
import Derived.Test.YtglnhkgodgjepaaDoorM1
import Derived.Test.YtglnhkgodgjepaaDoorM2
import Derived.Laws.BitsLemmas
import Derived.WalkKit
import Derived.Lib.ValidLaws
import Derived.Lib.DecodeN
import Derived.Lib.MapLaws
import Derived.Lib.Strings
namespace Go.Proofs.YtglnhkgodgjepaaDoor.Px
open Go.RowKit Go.Proofs.YtglnhkgodgjepaaDoorW.PrintWords Go.Proofs.YtglnhkgodgjepaaDoorW.PrintLast Go.Proofs.YtglnhkgodgjepaaDoorW.PrintMore
attribute [local go_sem] max2_int min2_int max_two min_two max_three min_three max_four min_four
set_option linter.unusedVariables false
set_option linter.unusedSimpArgs false
def understudylaw04_PoolBack.f (k:Nat) (l0:List (S33)) (l1:List Int):Option (Bool):=(pool_Encode.f k l0).bind fun bt173 => (if bt173.2=0 then ((some (([]:List Int):List Int)).bind fun y177 => (if y177.length + bt173.1.length < 140737488355328 then ((some (y177++bt173.1:List Int)).bind fun y180 => (if y180.length + l1.length < 140737488355328 then ((pool_Decode.f k (y180++l1)).bind fun bt186 => (if bt186.2.2=0 then (if bt186.2.1=(bt173.1.length:Int) then ((understudylaw04_same.f k l0 bt186.1).bind fun t191 => (if t191=true then ((understudylaw04_awake.f).bind fun t192 => (some t192)) else (some false))) else (some false)) else (some false))) else (none))) else (none))) else ((pool_Check.f k l0).bind fun t193 => (if bt173.2=t193 then (if (bt173.1.length:Int)=0 then ((understudylaw04_awake.f).bind fun t194 => (some t194)) else (some false)) else (some false))))
theorem understudylaw04_PoolBack.mono:∀ a0 a1 k,LeO (understudylaw04_PoolBack.f k a0 a1) (understudylaw04_PoolBack.f (k + 1) a0 a1):=by
 intro a0 a1 k
 unfold understudylaw04_PoolBack.f
 repeat' first
   | (with_reducible exact pool_Check.mono _ _)
   | (with_reducible exact pool_Decode.mono _ _)
   | (with_reducible exact pool_Encode.mono _ _)
   | (with_reducible exact understudylaw04_same.mono _ _ _)
   | (with_reducible exact LeO.refl _)
   | (with_reducible exact LeO.none _)
   | (with_reducible refine LeO.ite ?_ ?_)
   | (with_reducible refine LeO.bind ?_ (fun _ => ?_))
   | exact pool_Check.mono _ _
   | exact pool_Decode.mono _ _
   | exact pool_Encode.mono _ _
   | exact understudylaw04_same.mono _ _ _
   | exact LeO.none _
   | refine LeO.ite ?_ ?_
   | refine LeO.bind ?_ (fun _ => ?_)
set_option maxHeartbeats 80000000 in
set_option maxRecDepth 100000 in
theorem understudylaw04_PoolBack.calls (k:Nat) (A0:Option Addr) (c0:Nat) (l0:List (S33)) (A1:Option Addr) (c1:Nat) (l1:List Int) (r:Bool) (w:World) (hG:Aside0 (GG w)) (hr0:Kd.C k33 w A0 l0.length l0) (hc0:l0.length≤c0) (hr1:Kd.C (Kd.int .u8) w A1 l1.length l1) (hc1:l1.length≤c1) (h:understudylaw04_PoolBack.f k l0 l1=some r) :
  Calls Tryd.prog 7 #[.slice A0 l0.length c0,.slice A1 l1.length c1] w fun e w' => e=.returned (.bool r)∧Below w.heap.size w w':=by
 have HR0:=Aside0.mk hr0
 have HC0:=Aside0.mk hc0
 clear hr0 hc0
 have HR1:=Aside0.mk hr1
 have HC1:=Aside0.mk hc1
 clear hr1 hc1
 have HB:=Aside0.mk (Below.refl w.heap.size w)
 have H:((pool_Encode.f k l0).bind fun bt173 => (if bt173.2=0 then ((some (([]:List Int):List Int)).bind fun y177 => (if y177.length + bt173.1.length < 140737488355328 then ((some (y177++bt173.1:List Int)).bind fun y180 => (if y180.length + l1.length < 140737488355328 then ((pool_Decode.f k (y180++l1)).bind fun bt186 => (if bt186.2.2=0 then (if bt186.2.1=(bt173.1.length:Int) then ((understudylaw04_same.f k l0 bt186.1).bind fun t191 => (if t191=true then ((understudylaw04_awake.f).bind fun t192 => (some t192)) else (some false))) else (some false)) else (some false))) else (none))) else (none))) else ((pool_Check.f k l0).bind fun t193 => (if bt173.2=t193 then (if (bt173.1.length:Int)=0 then ((understudylaw04_awake.f).bind fun t194 => (some t194)) else (some false)) else (some false)))))=some r:=h
 clear h
 replace H:=Option.bind_eq_some_iff.mp H
 obtain ⟨⟨t173,t174⟩,A30,H⟩:=H
 replace H:(if t174=0 then ((some (([]:List Int):List Int)).bind fun y177 => (if y177.length + t173.length < 140737488355328 then ((some (y177++t173:List Int)).bind fun y180 => (if y180.length + l1.length < 140737488355328 then ((pool_Decode.f k (y180++l1)).bind fun bt186 => (if bt186.2.2=0 then (if bt186.2.1=(t173.length:Int) then ((understudylaw04_same.f k l0 bt186.1).bind fun t191 => (if t191=true then ((understudylaw04_awake.f).bind fun t192 => (some t192)) else (some false))) else (some false)) else (some false))) else (none))) else (none))) else ((pool_Check.f k l0).bind fun t193 => (if t174=t193 then (if (t173.length:Int)=0 then ((understudylaw04_awake.f).bind fun t194 => (some t194)) else (some false)) else (some false))))=some r:=H
 have A3:=Aside0.mk A30
 clear A30
 by_cases c4:t174=0
 ·rw [if_pos c4] at H
  have c4b0:(t174==0)=true:=beq_iff_eq.mpr c4
  have c4b1:(t174 != 0)=false:=bne_eq_false_iff_eq.mpr c4
  clear c4
  obtain ⟨y177,hy177⟩:∃ y_:List Int,y_=(([]:List Int)):=⟨_,rfl⟩
  replace H:(if y177.length + t173.length < 140737488355328 then ((some (y177++t173:List Int)).bind fun y180 => (if y180.length + l1.length < 140737488355328 then ((pool_Decode.f k (y180++l1)).bind fun bt186 => (if bt186.2.2=0 then (if bt186.2.1=(t173.length:Int) then ((understudylaw04_same.f k l0 bt186.1).bind fun t191 => (if t191=true then ((understudylaw04_awake.f).bind fun t192 => (some t192)) else (some false))) else (some false)) else (some false))) else (none))) else (none))=some r:=by first|(rw [hy177];with_reducible exact H)|(have H2_:=(Option.bind_some _ _).symm.trans H;rw [hy177];with_reducible exact H2_)|(have H2_:=(Option.bind_some _ _).symm.trans H;with_reducible exact H2_)|with_reducible exact H|(rw [hy177];exact H)|exact H
  have Ny177:=Aside0.mk hy177
  clear hy177
  by_cases c5:y177.length + t173.length < 140737488355328
  ·rw [if_pos c5] at H
   have LMc5:=Aside0.mk c5
   clear c5
   obtain ⟨y180,hy180⟩:∃ y_:List Int,y_=(y177++t173):=⟨_,rfl⟩
   replace H:(if y180.length + l1.length < 140737488355328 then ((pool_Decode.f k (y180++l1)).bind fun bt186 => (if bt186.2.2=0 then (if bt186.2.1=(t173.length:Int) then ((understudylaw04_same.f k l0 bt186.1).bind fun t191 => (if t191=true then ((understudylaw04_awake.f).bind fun t192 => (some t192)) else (some false))) else (some false)) else (some false))) else (none))=some r:=by first|(rw [hy180];with_reducible exact H)|(have H2_:=(Option.bind_some _ _).symm.trans H;rw [hy180];with_reducible exact H2_)|(have H2_:=(Option.bind_some _ _).symm.trans H;with_reducible exact H2_)|with_reducible exact H|(rw [hy180];exact H)|exact H
   have Ny180:=Aside0.mk hy180
   clear hy180
   by_cases c6:y180.length + l1.length < 140737488355328
   ·rw [if_pos c6] at H
    have LMc6:=Aside0.mk c6
    clear c6
    obtain ⟨y183,hy183⟩:∃ y_:List Int,y_=(y180++l1):=⟨_,rfl⟩
    replace H:((pool_Decode.f k y183).bind fun bt186 => (if bt186.2.2=0 then (if bt186.2.1=(t173.length:Int) then ((understudylaw04_same.f k l0 bt186.1).bind fun t191 => (if t191=true then ((understudylaw04_awake.f).bind fun t192 => (some t192)) else (some false))) else (some false)) else (some false)))=some r:=by first|(rw [hy183];with_reducible exact H)|(have H2_:=(Option.bind_some _ _).symm.trans H;rw [hy183];with_reducible exact H2_)|(have H2_:=(Option.bind_some _ _).symm.trans H;with_reducible exact H2_)|with_reducible exact H|(rw [hy183];exact H)|exact H
    have Ny183:=Aside0.mk hy183
    clear hy183
    replace H:=Option.bind_eq_some_iff.mp H
    obtain ⟨⟨t186,t187,t188⟩,A70,H⟩:=H
    replace H:(if t188=0 then (if t187=(t173.length:Int) then ((understudylaw04_same.f k l0 t186).bind fun t191 => (if t191=true then ((understudylaw04_awake.f).bind fun t192 => (some t192)) else (some false))) else (some false)) else (some false))=some r:=H
    have A7:=Aside0.mk A70
    clear A70
    by_cases c8:t188=0
    ·rw [if_pos c8] at H
     have c8b0:(t188==0)=true:=beq_iff_eq.mpr c8
     have c8b1:(t188 != 0)=false:=bne_eq_false_iff_eq.mpr c8
     clear c8
     by_cases c9:t187=(t173.length:Int)
     ·rw [if_pos c9] at H
      have c9b0:(t187==(t173.length:Int))=true:=beq_iff_eq.mpr c9
      have c9b1:(t187 != (t173.length:Int))=false:=bne_eq_false_iff_eq.mpr c9
      clear c9
      replace H:=Option.bind_eq_some_iff.mp H
      obtain ⟨t191,A100,H⟩:=H
      replace H:(if t191=true then ((understudylaw04_awake.f).bind fun t192 => (some t192)) else (some false))=some r:=H
      have A10:=Aside0.mk A100
      clear A100
      by_cases c11:t191=true
      ·subst c11
       have H1:((understudylaw04_awake.f).bind fun t192 => (some t192))=some r:=by rw [if_pos rfl] at H;exact H
       clear H
       have H:=H1
       clear H1
       replace H:=Option.bind_eq_some_iff.mp H
       obtain ⟨t192,A120,H⟩:=H
       replace H:(some t192)=some r:=H
       have A12:=Aside0.mk A120
       clear A120
       obtain rfl:=Option.some.inj H
       go_enter Tryd.func7,Tryd.ntmps7
       go_wp2_with (first|((with_reducible refine gate_callee (f:=14) rfl ?_);refine goesL_ (some 12) rfl rfl Tryd.func14 (by kernel_rfl) rfl #[.slice A0 l0.length c0] rfl (by (try simp only [List.map_toArray,List.map_cons,List.map_nil]);first|done|rfl|(simp only [List.length_drop,List.length_take];rfl)) ?_;(with_reducible refine (pool_Encode.calls k _ _ l0 t173 t174 _ ?side3 ?side1 ?side2 A3.out).mono ?_);(case side1 => repeat (first|exact HR0.out|(with_reducible refine Kd.C_alloc ?_ _)|(with_reducible refine Kd.C_drewN ?_ _)|(with_reducible refine Kd.C_drew ?_)));(case side2 => exact HC0.out);(case side3 => exact ⟨GG.below hG.out (by repeat (first|(with_reducible first|exact HB.out|apply below_alloc|apply pw_below_drewN|apply below_drew1)|exact HB.out))⟩);rintro e w13 ⟨v175,rfl,ho0,hb⟩;refine ⟨_,rfl,?_⟩;have n0_:=Aside0.mk (Kd.R_lower ho0 (below_size (by repeat (first|(with_reducible first|exact HB.out|apply below_alloc|apply pw_below_drewN|apply below_drew1)|exact HB.out))));have n1_:=Aside0.mk (below_step (by repeat (first|(with_reducible first|exact HB.out|apply below_alloc|apply pw_below_drewN|apply below_drew1)|exact HB.out)) hb);clear HB;have HO176:=n0_;have HB:=n1_;clear n0_ n1_;(try clear hb);(try clear hb2);(try clear hk);(try clear hi);(try clear ho0))|((with_reducible refine gate_dst (N:=30) rfl ?_);(try (refine gate_guard (by rfl) ?_;dsimp only));refine Kd.R_lit (Kd.int .u8) _ 5 ?hg (N:=30) ?hd (xs:=([]:List Int)) (inner:=[]) (ok:=fun _ => True) (okp:=fun _ => True) ?hr ?hp (fun _ hk => hk) trivial (Below.refl _ _) (Nat.le_refl _) (by simp) ?_;(case hd => rfl);(case hg => rfl);(case hr => first|(go_simp;done)|(go_simp;rfl));(case hp => exact (Reps.none _ _));intro v178 w14 ho15 hb hg_ hnew_;clear hg_ hnew_;(first|rw [← Ny177.out] at ho15|(simp only [Int.reduceToNat] at ho15;rw [← Ny177.out] at ho15));have n0_:=Aside0.mk (Kd.R_elder' (by (with_reducible repeat (first|apply Kd.R_alloc|apply Kd.R_drewN|apply Kd.R_drew));exact HO176.out) (Kd.R_base ho15) hb);have n1_:=Aside0.mk (Kd.R_lower (Kd.R_new' ho15 (Kd.R_lt (by (with_reducible repeat (first|apply Kd.R_alloc|apply Kd.R_drewN|apply Kd.R_drew));exact HO176.out))) (below_size (by repeat (first|(with_reducible first|exact HB.out|apply below_alloc|apply pw_below_drewN|apply below_drew1)|exact HB.out))));have n2_:=Aside0.mk (below_step (by repeat (first|(with_reducible first|exact HB.out|apply below_alloc|apply pw_below_drewN|apply below_drew1)|exact HB.out)) hb);clear HO176;clear HB;have HO176:=n0_;have HO179:=n1_;have HB:=n2_;clear n0_ n1_ n2_;clear hb ho15;obtain ⟨Ao17,co17,eo17⟩:=Kd.R_slice HO176.out;subst eo17)|((with_reducible refine gate_builtin (b:=.append) (xs:=#[.tmp 30,.tmp 31]) rfl ?_);(try (refine gate_guard (by rfl) ?_;dsimp only));at_builtin;refine Kd.R_append_rows (Kd.int .u8) (w0:=w) w.heap.size rfl (.tmp 30) (.tmp 31) 34 5 (.int .u8 0) 1 rfl Tryd.underlying34 info5 rfl (by decide) (by omega) v178 y177 t173 _ _ _ (fun k_ => some k_ ≠ (.slice Ao17 t173.length co17:Value).ownBlock) (fun _ => False) rfl rfl ?aO ?aR (fun _ _ h => h) (fun _ h => h.elim) ?aF ?aB ?aS ?aL ?_;(case aR => repeat (first|exact (Kd.R_reads' HO176.out).2.2|(with_reducible refine Kd.C_alloc ?_ _)|(with_reducible refine Kd.C_drewN ?_ _)|(with_reducible refine Kd.C_drew ?_)));(case aB => exact (by repeat (first|(with_reducible first|exact HB.out|apply below_alloc|apply pw_below_drewN|apply below_drew1)|exact HB.out)));(case aF => exact (fun k_ hk => Kd.fresh' (Kd.R_lt (by (with_reducible repeat (first|apply Kd.R_alloc|apply Kd.R_drewN|apply Kd.R_drew));exact HO176.out)) k_ hk));(case aO => exact (by (with_reducible repeat (first|apply Kd.R_alloc|apply Kd.R_drewN|apply Kd.R_drew));exact Kd.R_mono HO179.out (fun _ hk => hk.2)));(case aS => exact (below_size (by repeat (first|(with_reducible first|exact HB.out|apply below_alloc|apply pw_below_drewN|apply below_drew1)|exact HB.out))));(case aL => have:=LMc5.out;omega);intro v181 w16 ho hb hg hat;rw [← Ny180.out] at ho;have n0_:=Aside0.mk (Kd.R_after (ok:=(fun _ => True)) (by (with_reducible repeat (first|apply Kd.R_alloc|apply Kd.R_drewN|apply Kd.R_drew));exact HO176.out) hg hat);have n1_:=Aside0.mk (hb);have n2_:=Aside0.mk (ho);clear HO176;clear HB;clear HO179;have HO176:=n0_;have HB:=n1_;have HO182:=n2_;clear n0_ n1_ n2_;clear ho hb hg hat)|((with_reducible refine gate_builtin (b:=.append) (xs:=#[.tmp 32,.tmp 33]) rfl ?_);(try (refine gate_guard (by rfl) ?_;dsimp only));at_builtin;refine Kd.R_append_rows (Kd.int .u8) (w0:=w) w.heap.size rfl (.tmp 32) (.tmp 33) 34 5 (.int .u8 0) 1 rfl Tryd.underlying34 info5 rfl (by decide) (by omega) v181 y180 l1 _ _ _ (fun k_ => some k_ ≠ (.slice Ao17 t173.length co17:Value).ownBlock) (fun _ => False) rfl rfl ?aO ?aR (fun _ _ h => h) (fun _ h => h.elim) ?aF ?aB ?aS ?aL ?_;(case aR => repeat (first|exact (Kd.C_below HR1.out HB.out)|(with_reducible refine Kd.C_alloc ?_ _)|(with_reducible refine Kd.C_drewN ?_ _)|(with_reducible refine Kd.C_drew ?_)));(case aB => exact (by repeat (first|(with_reducible first|exact HB.out|apply below_alloc|apply pw_below_drewN|apply below_drew1)|exact HB.out)));(case aF => exact (fun k_ hk => Kd.fresh' (Kd.R_lt (by (with_reducible repeat (first|apply Kd.R_alloc|apply Kd.R_drewN|apply Kd.R_drew));exact HO176.out)) k_ hk));(case aO => exact (by (with_reducible repeat (first|apply Kd.R_alloc|apply Kd.R_drewN|apply Kd.R_drew));exact HO182.out));(case aS => exact (below_size (by repeat (first|(with_reducible first|exact HB.out|apply below_alloc|apply pw_below_drewN|apply below_drew1)|exact HB.out))));(case aL => have:=LMc6.out;omega);intro v184 w18 ho hb hg hat;rw [← Ny183.out] at ho;have n0_:=Aside0.mk (Kd.R_after (ok:=(fun _ => True)) (by (with_reducible repeat (first|apply Kd.R_alloc|apply Kd.R_drewN|apply Kd.R_drew));exact HO176.out) hg hat);have n1_:=Aside0.mk (hb);have n2_:=Aside0.mk (ho);clear HO176;clear HB;clear HO182;have HO176:=n0_;have HB:=n1_;have HO185:=n2_;clear n0_ n1_ n2_;clear ho hb hg hat;obtain ⟨Ao19,co19,eo19⟩:=Kd.R_slice HO185.out;subst eo19)|((with_reducible refine gate_callee (f:=16) rfl ?_);refine goesL_ (some 35) rfl rfl Tryd.func16 (by kernel_rfl) rfl #[.slice Ao19 y183.length co19] rfl (by (try simp only [List.map_toArray,List.map_cons,List.map_nil]);first|done|rfl|(simp only [List.length_drop,List.length_take];rfl)) ?_;(with_reducible refine (pool_Decode.calls k _ _ y183 t186 t187 t188 _ ?side3 ?side1 ?side2 A7.out).mono ?_);(case side1 => repeat (first|exact (Kd.R_reads' HO185.out).2.2|(with_reducible refine Kd.C_alloc ?_ _)|(with_reducible refine Kd.C_drewN ?_ _)|(with_reducible refine Kd.C_drew ?_)));(case side2 => exact (Kd.R_reads' HO185.out).2.1);(case side3 => exact ⟨GG.below hG.out (by repeat (first|(with_reducible first|exact HB.out|apply below_alloc|apply pw_below_drewN|apply below_drew1)|exact HB.out))⟩);rintro e w20 ⟨v189,rfl,ho0,hb⟩;refine ⟨_,rfl,?_⟩;have n0_:=Aside0.mk (Kd.R_below (by (with_reducible repeat (first|apply Kd.R_alloc|apply Kd.R_drewN|apply Kd.R_drew));exact HO176.out) hb);have n1_:=Aside0.mk (Kd.R_below (by (with_reducible repeat (first|apply Kd.R_alloc|apply Kd.R_drewN|apply Kd.R_drew));exact HO185.out) hb);have n2_:=Aside0.mk (Kd.R_lower ho0 (below_size (by repeat (first|(with_reducible first|exact HB.out|apply below_alloc|apply pw_below_drewN|apply below_drew1)|exact HB.out))));have n3_:=Aside0.mk (below_step (by repeat (first|(with_reducible first|exact HB.out|apply below_alloc|apply pw_below_drewN|apply below_drew1)|exact HB.out)) hb);clear HO176;clear HO185;clear HB;have HO176:=n0_;have HO185:=n1_;have HO190:=n2_;have HB:=n3_;clear n0_ n1_ n2_ n3_;(try clear hb);(try clear hb2);(try clear hk);(try clear hi);(try clear ho0);obtain ⟨Ao21,co21,eo21⟩:=Kd.R_slice HO190.out;subst eo21)|(go_at_call 18;(with_reducible refine (understudylaw04_same.calls k _ _ l0 _ _ t186 true _ ?side1 ?side2 ?side3 ?side4 A10.out).mono ?_);(case side1 => repeat (first|exact (Kd.C_below HR0.out HB.out)|(with_reducible refine Kd.C_alloc ?_ _)|(with_reducible refine Kd.C_drewN ?_ _)|(with_reducible refine Kd.C_drew ?_)));(case side2 => exact HC0.out);(case side3 => repeat (first|exact (Kd.R_reads' HO190.out).2.2|(with_reducible refine Kd.C_alloc ?_ _)|(with_reducible refine Kd.C_drewN ?_ _)|(with_reducible refine Kd.C_drew ?_)));(case side4 => exact (Kd.R_reads' HO190.out).2.1);rintro e w' ⟨rfl,⟨nd,rfl⟩⟩)|(go_at_call 10;(with_reducible refine (understudylaw04_awake.calls  t192 _ A12.out).mono ?_);rintro e w22 ⟨rfl,hb⟩;have n0_:=Aside0.mk (Kd.R_below (by (with_reducible repeat (first|apply Kd.R_alloc|apply Kd.R_drewN|apply Kd.R_drew));exact HO176.out) hb);have n1_:=Aside0.mk (Kd.R_below (by (with_reducible repeat (first|apply Kd.R_alloc|apply Kd.R_drewN|apply Kd.R_drew));exact HO185.out) hb);have n2_:=Aside0.mk (Kd.R_below (by (with_reducible repeat (first|apply Kd.R_alloc|apply Kd.R_drewN|apply Kd.R_drew));exact HO190.out) hb);have n3_:=Aside0.mk (below_step (by repeat (first|(with_reducible first|exact HB.out|apply below_alloc|apply pw_below_drewN|apply below_drew1)|exact HB.out)) hb);clear HO176;clear HO185;clear HO190;clear HB;have HO176:=n0_;have HO185:=n1_;have HO190:=n2_;have HB:=n3_;clear n0_ n1_ n2_ n3_;(try clear hb);(try clear hb2);(try clear hk);(try clear hi)))
       go_ret
       exact ⟨by first|rfl|(simp [errW_none,errW_some] <;> rfl)|(simp [*,errW_none,errW_some] <;> rfl),by repeat (first|(with_reducible first|exact HB.out|apply below_alloc|apply pw_below_drewN|apply below_drew1)|exact HB.out)⟩
      ·replace c11:=Bool.eq_false_iff.mpr c11
       subst c11
       have H1:(some false)=some r:=by rw [if_neg (show ¬ (false=true) by decide)] at H;exact H
       clear H
       have H:=H1
       clear H1
       obtain rfl:=Option.some.inj H
       go_enter Tryd.func7,Tryd.ntmps7
       go_wp2_with (first|((with_reducible refine gate_callee (f:=14) rfl ?_);refine goesL_ (some 12) rfl rfl Tryd.func14 (by kernel_rfl) rfl #[.slice A0 l0.length c0] rfl (by (try simp only [List.map_toArray,List.map_cons,List.map_nil]);first|done|rfl|(simp only [List.length_drop,List.length_take];rfl)) ?_;(with_reducible refine (pool_Encode.calls k _ _ l0 t173 t174 _ ?side3 ?side1 ?side2 A3.out).mono ?_);(case side1 => repeat (first|exact HR0.out|(with_reducible refine Kd.C_alloc ?_ _)|(with_reducible refine Kd.C_drewN ?_ _)|(with_reducible refine Kd.C_drew ?_)));(case side2 => exact HC0.out);(case side3 => exact ⟨GG.below hG.out (by repeat (first|(with_reducible first|exact HB.out|apply below_alloc|apply pw_below_drewN|apply below_drew1)|exact HB.out))⟩);rintro e w23 ⟨v175,rfl,ho0,hb⟩;refine ⟨_,rfl,?_⟩;have n0_:=Aside0.mk (Kd.R_lower ho0 (below_size (by repeat (first|(with_reducible first|exact HB.out|apply below_alloc|apply pw_below_drewN|apply below_drew1)|exact HB.out))));have n1_:=Aside0.mk (below_step (by repeat (first|(with_reducible first|exact HB.out|apply below_alloc|apply pw_below_drewN|apply below_drew1)|exact HB.out)) hb);clear HB;have HO176:=n0_;have HB:=n1_;clear n0_ n1_;(try clear hb);(try clear hb2);(try clear hk);(try clear hi);(try clear ho0))|((with_reducible refine gate_dst (N:=30) rfl ?_);(try (refine gate_guard (by rfl) ?_;dsimp only));refine Kd.R_lit (Kd.int .u8) _ 5 ?hg (N:=30) ?hd (xs:=([]:List Int)) (inner:=[]) (ok:=fun _ => True) (okp:=fun _ => True) ?hr ?hp (fun _ hk => hk) trivial (Below.refl _ _) (Nat.le_refl _) (by simp) ?_;(case hd => rfl);(case hg => rfl);(case hr => first|(go_simp;done)|(go_simp;rfl));(case hp => exact (Reps.none _ _));intro v178 w24 ho25 hb hg_ hnew_;clear hg_ hnew_;(first|rw [← Ny177.out] at ho25|(simp only [Int.reduceToNat] at ho25;rw [← Ny177.out] at ho25));have n0_:=Aside0.mk (Kd.R_elder' (by (with_reducible repeat (first|apply Kd.R_alloc|apply Kd.R_drewN|apply Kd.R_drew));exact HO176.out) (Kd.R_base ho25) hb);have n1_:=Aside0.mk (Kd.R_lower (Kd.R_new' ho25 (Kd.R_lt (by (with_reducible repeat (first|apply Kd.R_alloc|apply Kd.R_drewN|apply Kd.R_drew));exact HO176.out))) (below_size (by repeat (first|(with_reducible first|exact HB.out|apply below_alloc|apply pw_below_drewN|apply below_drew1)|exact HB.out))));have n2_:=Aside0.mk (below_step (by repeat (first|(with_reducible first|exact HB.out|apply below_alloc|apply pw_below_drewN|apply below_drew1)|exact HB.out)) hb);clear HO176;clear HB;have HO176:=n0_;have HO179:=n1_;have HB:=n2_;clear n0_ n1_ n2_;clear hb ho25;obtain ⟨Ao27,co27,eo27⟩:=Kd.R_slice HO176.out;subst eo27)|((with_reducible refine gate_builtin (b:=.append) (xs:=#[.tmp 30,.tmp 31]) rfl ?_);(try (refine gate_guard (by rfl) ?_;dsimp only));at_builtin;refine Kd.R_append_rows (Kd.int .u8) (w0:=w) w.heap.size rfl (.tmp 30) (.tmp 31) 34 5 (.int .u8 0) 1 rfl Tryd.underlying34 info5 rfl (by decide) (by omega) v178 y177 t173 _ _ _ (fun k_ => some k_ ≠ (.slice Ao27 t173.length co27:Value).ownBlock) (fun _ => False) rfl rfl ?aO ?aR (fun _ _ h => h) (fun _ h => h.elim) ?aF ?aB ?aS ?aL ?_;(case aR => repeat (first|exact (Kd.R_reads' HO176.out).2.2|(with_reducible refine Kd.C_alloc ?_ _)|(with_reducible refine Kd.C_drewN ?_ _)|(with_reducible refine Kd.C_drew ?_)));(case aB => exact (by repeat (first|(with_reducible first|exact HB.out|apply below_alloc|apply pw_below_drewN|apply below_drew1)|exact HB.out)));(case aF => exact (fun k_ hk => Kd.fresh' (Kd.R_lt (by (with_reducible repeat (first|apply Kd.R_alloc|apply Kd.R_drewN|apply Kd.R_drew));exact HO176.out)) k_ hk));(case aO => exact (by (with_reducible repeat (first|apply Kd.R_alloc|apply Kd.R_drewN|apply Kd.R_drew));exact Kd.R_mono HO179.out (fun _ hk => hk.2)));(case aS => exact (below_size (by repeat (first|(with_reducible first|exact HB.out|apply below_alloc|apply pw_below_drewN|apply below_drew1)|exact HB.out))));(case aL => have:=LMc5.out;omega);intro v181 w26 ho hb hg hat;rw [← Ny180.out] at ho;have n0_:=Aside0.mk (Kd.R_after (ok:=(fun _ => True)) (by (with_reducible repeat (first|apply Kd.R_alloc|apply Kd.R_drewN|apply Kd.R_drew));exact HO176.out) hg hat);have n1_:=Aside0.mk (hb);have n2_:=Aside0.mk (ho);clear HO176;clear HB;clear HO179;have HO176:=n0_;have HB:=n1_;have HO182:=n2_;clear n0_ n1_ n2_;clear ho hb hg hat)|((with_reducible refine gate_builtin (b:=.append) (xs:=#[.tmp 32,.tmp 33]) rfl ?_);(try (refine gate_guard (by rfl) ?_;dsimp only));at_builtin;refine Kd.R_append_rows (Kd.int .u8) (w0:=w) w.heap.size rfl (.tmp 32) (.tmp 33) 34 5 (.int .u8 0) 1 rfl Tryd.underlying34 info5 rfl (by decide) (by omega) v181 y180 l1 _ _ _ (fun k_ => some k_ ≠ (.slice Ao27 t173.length co27:Value).ownBlock) (fun _ => False) rfl rfl ?aO ?aR (fun _ _ h => h) (fun _ h => h.elim) ?aF ?aB ?aS ?aL ?_;(case aR => repeat (first|exact (Kd.C_below HR1.out HB.out)|(with_reducible refine Kd.C_alloc ?_ _)|(with_reducible refine Kd.C_drewN ?_ _)|(with_reducible refine Kd.C_drew ?_)));(case aB => exact (by repeat (first|(with_reducible first|exact HB.out|apply below_alloc|apply pw_below_drewN|apply below_drew1)|exact HB.out)));(case aF => exact (fun k_ hk => Kd.fresh' (Kd.R_lt (by (with_reducible repeat (first|apply Kd.R_alloc|apply Kd.R_drewN|apply Kd.R_drew));exact HO176.out)) k_ hk));(case aO => exact (by (with_reducible repeat (first|apply Kd.R_alloc|apply Kd.R_drewN|apply Kd.R_drew));exact HO182.out));(case aS => exact (below_size (by repeat (first|(with_reducible first|exact HB.out|apply below_alloc|apply pw_below_drewN|apply below_drew1)|exact HB.out))));(case aL => have:=LMc6.out;omega);intro v184 w28 ho hb hg hat;rw [← Ny183.out] at ho;have n0_:=Aside0.mk (Kd.R_after (ok:=(fun _ => True)) (by (with_reducible repeat (first|apply Kd.R_alloc|apply Kd.R_drewN|apply Kd.R_drew));exact HO176.out) hg hat);have n1_:=Aside0.mk (hb);have n2_:=Aside0.mk (ho);clear HO176;clear HB;clear HO182;have HO176:=n0_;have HB:=n1_;have HO185:=n2_;clear n0_ n1_ n2_;clear ho hb hg hat;obtain ⟨Ao29,co29,eo29⟩:=Kd.R_slice HO185.out;subst eo29)|((with_reducible refine gate_callee (f:=16) rfl ?_);refine goesL_ (some 35) rfl rfl Tryd.func16 (by kernel_rfl) rfl #[.slice Ao29 y183.length co29] rfl (by (try simp only [List.map_toArray,List.map_cons,List.map_nil]);first|done|rfl|(simp only [List.length_drop,List.length_take];rfl)) ?_;(with_reducible refine (pool_Decode.calls k _ _ y183 t186 t187 t188 _ ?side3 ?side1 ?side2 A7.out).mono ?_);(case side1 => repeat (first|exact (Kd.R_reads' HO185.out).2.2|(with_reducible refine Kd.C_alloc ?_ _)|(with_reducible refine Kd.C_drewN ?_ _)|(with_reducible refine Kd.C_drew ?_)));(case side2 => exact (Kd.R_reads' HO185.out).2.1);(case side3 => exact ⟨GG.below hG.out (by repeat (first|(with_reducible first|exact HB.out|apply below_alloc|apply pw_below_drewN|apply below_drew1)|exact HB.out))⟩);rintro e w30 ⟨v189,rfl,ho0,hb⟩;refine ⟨_,rfl,?_⟩;have n0_:=Aside0.mk (Kd.R_below (by (with_reducible repeat (first|apply Kd.R_alloc|apply Kd.R_drewN|apply Kd.R_drew));exact HO176.out) hb);have n1_:=Aside0.mk (Kd.R_below (by (with_reducible repeat (first|apply Kd.R_alloc|apply Kd.R_drewN|apply Kd.R_drew));exact HO185.out) hb);have n2_:=Aside0.mk (Kd.R_lower ho0 (below_size (by repeat (first|(with_reducible first|exact HB.out|apply below_alloc|apply pw_below_drewN|apply below_drew1)|exact HB.out))));have n3_:=Aside0.mk (below_step (by repeat (first|(with_reducible first|exact HB.out|apply below_alloc|apply pw_below_drewN|apply below_drew1)|exact HB.out)) hb);clear HO176;clear HO185;clear HB;have HO176:=n0_;have HO185:=n1_;have HO190:=n2_;have HB:=n3_;clear n0_ n1_ n2_ n3_;(try clear hb);(try clear hb2);(try clear hk);(try clear hi);(try clear ho0);obtain ⟨Ao31,co31,eo31⟩:=Kd.R_slice HO190.out;subst eo31)|(go_at_call 18;(with_reducible refine (understudylaw04_same.calls k _ _ l0 _ _ t186 false _ ?side1 ?side2 ?side3 ?side4 A10.out).mono ?_);(case side1 => repeat (first|exact (Kd.C_below HR0.out HB.out)|(with_reducible refine Kd.C_alloc ?_ _)|(with_reducible refine Kd.C_drewN ?_ _)|(with_reducible refine Kd.C_drew ?_)));(case side2 => exact HC0.out);(case side3 => repeat (first|exact (Kd.R_reads' HO190.out).2.2|(with_reducible refine Kd.C_alloc ?_ _)|(with_reducible refine Kd.C_drewN ?_ _)|(with_reducible refine Kd.C_drew ?_)));(case side4 => exact (Kd.R_reads' HO190.out).2.1);rintro e w' ⟨rfl,⟨nd,rfl⟩⟩))
       go_ret
       exact ⟨by first|rfl|(simp [errW_none,errW_some] <;> rfl)|(simp [*,errW_none,errW_some] <;> rfl),by repeat (first|(with_reducible first|exact HB.out|apply below_alloc|apply pw_below_drewN|apply below_drew1)|exact HB.out)⟩
     ·rw [if_neg c9] at H
      have c9b0:(t187==(t173.length:Int))=false:=beq_eq_false_iff_ne.mpr c9
      have c9b1:(t187 != (t173.length:Int))=true:=bne_iff_ne.mpr c9
      obtain rfl:=Option.some.inj H
      go_enter Tryd.func7,Tryd.ntmps7
      go_wp2_with (first|((with_reducible refine gate_callee (f:=14) rfl ?_);refine goesL_ (some 12) rfl rfl Tryd.func14 (by kernel_rfl) rfl #[.slice A0 l0.length c0] rfl (by (try simp only [List.map_toArray,List.map_cons,List.map_nil]);first|done|rfl|(simp only [List.length_drop,List.length_take];rfl)) ?_;(with_reducible refine (pool_Encode.calls k _ _ l0 t173 t174 _ ?side3 ?side1 ?side2 A3.out).mono ?_);(case side1 => repeat (first|exact HR0.out|(with_reducible refine Kd.C_alloc ?_ _)|(with_reducible refine Kd.C_drewN ?_ _)|(with_reducible refine Kd.C_drew ?_)));(case side2 => exact HC0.out);(case side3 => exact ⟨GG.below hG.out (by repeat (first|(with_reducible first|exact HB.out|apply below_alloc|apply pw_below_drewN|apply below_drew1)|exact HB.out))⟩);rintro e w32 ⟨v175,rfl,ho0,hb⟩;refine ⟨_,rfl,?_⟩;have n0_:=Aside0.mk (Kd.R_lower ho0 (below_size (by repeat (first|(with_reducible first|exact HB.out|apply below_alloc|apply pw_below_drewN|apply below_drew1)|exact HB.out))));have n1_:=Aside0.mk (below_step (by repeat (first|(with_reducible first|exact HB.out|apply below_alloc|apply pw_below_drewN|apply below_drew1)|exact HB.out)) hb);clear HB;have HO176:=n0_;have HB:=n1_;clear n0_ n1_;(try clear hb);(try clear hb2);(try clear hk);(try clear hi);(try clear ho0))|((with_reducible refine gate_dst (N:=30) rfl ?_);(try (refine gate_guard (by rfl) ?_;dsimp only));refine Kd.R_lit (Kd.int .u8) _ 5 ?hg (N:=30) ?hd (xs:=([]:List Int)) (inner:=[]) (ok:=fun _ => True) (okp:=fun _ => True) ?hr ?hp (fun _ hk => hk) trivial (Below.refl _ _) (Nat.le_refl _) (by simp) ?_;(case hd => rfl);(case hg => rfl);(case hr => first|(go_simp;done)|(go_simp;rfl));(case hp => exact (Reps.none _ _));intro v178 w33 ho34 hb hg_ hnew_;clear hg_ hnew_;(first|rw [← Ny177.out] at ho34|(simp only [Int.reduceToNat] at ho34;rw [← Ny177.out] at ho34));have n0_:=Aside0.mk (Kd.R_elder' (by (with_reducible repeat (first|apply Kd.R_alloc|apply Kd.R_drewN|apply Kd.R_drew));exact HO176.out) (Kd.R_base ho34) hb);have n1_:=Aside0.mk (Kd.R_lower (Kd.R_new' ho34 (Kd.R_lt (by (with_reducible repeat (first|apply Kd.R_alloc|apply Kd.R_drewN|apply Kd.R_drew));exact HO176.out))) (below_size (by repeat (first|(with_reducible first|exact HB.out|apply below_alloc|apply pw_below_drewN|apply below_drew1)|exact HB.out))));have n2_:=Aside0.mk (below_step (by repeat (first|(with_reducible first|exact HB.out|apply below_alloc|apply pw_below_drewN|apply below_drew1)|exact HB.out)) hb);clear HO176;clear HB;have HO176:=n0_;have HO179:=n1_;have HB:=n2_;clear n0_ n1_ n2_;clear hb ho34;obtain ⟨Ao36,co36,eo36⟩:=Kd.R_slice HO176.out;subst eo36)|((with_reducible refine gate_builtin (b:=.append) (xs:=#[.tmp 30,.tmp 31]) rfl ?_);(try (refine gate_guard (by rfl) ?_;dsimp only));at_builtin;refine Kd.R_append_rows (Kd.int .u8) (w0:=w) w.heap.size rfl (.tmp 30) (.tmp 31) 34 5 (.int .u8 0) 1 rfl Tryd.underlying34 info5 rfl (by decide) (by omega) v178 y177 t173 _ _ _ (fun k_ => some k_ ≠ (.slice Ao36 t173.length co36:Value).ownBlock) (fun _ => False) rfl rfl ?aO ?aR (fun _ _ h => h) (fun _ h => h.elim) ?aF ?aB ?aS ?aL ?_;(case aR => repeat (first|exact (Kd.R_reads' HO176.out).2.2|(with_reducible refine Kd.C_alloc ?_ _)|(with_reducible refine Kd.C_drewN ?_ _)|(with_reducible refine Kd.C_drew ?_)));(case aB => exact (by repeat (first|(with_reducible first|exact HB.out|apply below_alloc|apply pw_below_drewN|apply below_drew1)|exact HB.out)));(case aF => exact (fun k_ hk => Kd.fresh' (Kd.R_lt (by (with_reducible repeat (first|apply Kd.R_alloc|apply Kd.R_drewN|apply Kd.R_drew));exact HO176.out)) k_ hk));(case aO => exact (by (with_reducible repeat (first|apply Kd.R_alloc|apply Kd.R_drewN|apply Kd.R_drew));exact Kd.R_mono HO179.out (fun _ hk => hk.2)));(case aS => exact (below_size (by repeat (first|(with_reducible first|exact HB.out|apply below_alloc|apply pw_below_drewN|apply below_drew1)|exact HB.out))));(case aL => have:=LMc5.out;omega);intro v181 w35 ho hb hg hat;rw [← Ny180.out] at ho;have n0_:=Aside0.mk (Kd.R_after (ok:=(fun _ => True)) (by (with_reducible repeat (first|apply Kd.R_alloc|apply Kd.R_drewN|apply Kd.R_drew));exact HO176.out) hg hat);have n1_:=Aside0.mk (hb);have n2_:=Aside0.mk (ho);clear HO176;clear HB;clear HO179;have HO176:=n0_;have HB:=n1_;have HO182:=n2_;clear n0_ n1_ n2_;clear ho hb hg hat)|((with_reducible refine gate_builtin (b:=.append) (xs:=#[.tmp 32,.tmp 33]) rfl ?_);(try (refine gate_guard (by rfl) ?_;dsimp only));at_builtin;refine Kd.R_append_rows (Kd.int .u8) (w0:=w) w.heap.size rfl (.tmp 32) (.tmp 33) 34 5 (.int .u8 0) 1 rfl Tryd.underlying34 info5 rfl (by decide) (by omega) v181 y180 l1 _ _ _ (fun k_ => some k_ ≠ (.slice Ao36 t173.length co36:Value).ownBlock) (fun _ => False) rfl rfl ?aO ?aR (fun _ _ h => h) (fun _ h => h.elim) ?aF ?aB ?aS ?aL ?_;(case aR => repeat (first|exact (Kd.C_below HR1.out HB.out)|(with_reducible refine Kd.C_alloc ?_ _)|(with_reducible refine Kd.C_drewN ?_ _)|(with_reducible refine Kd.C_drew ?_)));(case aB => exact (by repeat (first|(with_reducible first|exact HB.out|apply below_alloc|apply pw_below_drewN|apply below_drew1)|exact HB.out)));(case aF => exact (fun k_ hk => Kd.fresh' (Kd.R_lt (by (with_reducible repeat (first|apply Kd.R_alloc|apply Kd.R_drewN|apply Kd.R_drew));exact HO176.out)) k_ hk));(case aO => exact (by (with_reducible repeat (first|apply Kd.R_alloc|apply Kd.R_drewN|apply Kd.R_drew));exact HO182.out));(case aS => exact (below_size (by repeat (first|(with_reducible first|exact HB.out|apply below_alloc|apply pw_below_drewN|apply below_drew1)|exact HB.out))));(case aL => have:=LMc6.out;omega);intro v184 w37 ho hb hg hat;rw [← Ny183.out] at ho;have n0_:=Aside0.mk (Kd.R_after (ok:=(fun _ => True)) (by (with_reducible repeat (first|apply Kd.R_alloc|apply Kd.R_drewN|apply Kd.R_drew));exact HO176.out) hg hat);have n1_:=Aside0.mk (hb);have n2_:=Aside0.mk (ho);clear HO176;clear HB;clear HO182;have HO176:=n0_;have HB:=n1_;have HO185:=n2_;clear n0_ n1_ n2_;clear ho hb hg hat;obtain ⟨Ao38,co38,eo38⟩:=Kd.R_slice HO185.out;subst eo38)|((with_reducible refine gate_callee (f:=16) rfl ?_);refine goesL_ (some 35) rfl rfl Tryd.func16 (by kernel_rfl) rfl #[.slice Ao38 y183.length co38] rfl (by (try simp only [List.map_toArray,List.map_cons,List.map_nil]);first|done|rfl|(simp only [List.length_drop,List.length_take];rfl)) ?_;(with_reducible refine (pool_Decode.calls k _ _ y183 t186 t187 t188 _ ?side3 ?side1 ?side2 A7.out).mono ?_);(case side1 => repeat (first|exact (Kd.R_reads' HO185.out).2.2|(with_reducible refine Kd.C_alloc ?_ _)|(with_reducible refine Kd.C_drewN ?_ _)|(with_reducible refine Kd.C_drew ?_)));(case side2 => exact (Kd.R_reads' HO185.out).2.1);(case side3 => exact ⟨GG.below hG.out (by repeat (first|(with_reducible first|exact HB.out|apply below_alloc|apply pw_below_drewN|apply below_drew1)|exact HB.out))⟩);rintro e w39 ⟨v189,rfl,ho0,hb⟩;refine ⟨_,rfl,?_⟩;have n0_:=Aside0.mk (Kd.R_below (by (with_reducible repeat (first|apply Kd.R_alloc|apply Kd.R_drewN|apply Kd.R_drew));exact HO176.out) hb);have n1_:=Aside0.mk (Kd.R_below (by (with_reducible repeat (first|apply Kd.R_alloc|apply Kd.R_drewN|apply Kd.R_drew));exact HO185.out) hb);have n2_:=Aside0.mk (Kd.R_lower ho0 (below_size (by repeat (first|(with_reducible first|exact HB.out|apply below_alloc|apply pw_below_drewN|apply below_drew1)|exact HB.out))));have n3_:=Aside0.mk (below_step (by repeat (first|(with_reducible first|exact HB.out|apply below_alloc|apply pw_below_drewN|apply below_drew1)|exact HB.out)) hb);clear HO176;clear HO185;clear HB;have HO176:=n0_;have HO185:=n1_;have HO190:=n2_;have HB:=n3_;clear n0_ n1_ n2_ n3_;(try clear hb);(try clear hb2);(try clear hk);(try clear hi);(try clear ho0)))
      go_ret
      exact ⟨by first|rfl|(simp [errW_none,errW_some] <;> rfl)|(simp [*,errW_none,errW_some] <;> rfl),by repeat (first|(with_reducible first|exact HB.out|apply below_alloc|apply pw_below_drewN|apply below_drew1)|exact HB.out)⟩
    ·rw [if_neg c8] at H
     have c8b0:(t188==0)=false:=beq_eq_false_iff_ne.mpr c8
     have c8b1:(t188 != 0)=true:=bne_iff_ne.mpr c8
     obtain rfl:=Option.some.inj H
     go_enter Tryd.func7,Tryd.ntmps7
     go_wp2_with (first|((with_reducible refine gate_callee (f:=14) rfl ?_);refine goesL_ (some 12) rfl rfl Tryd.func14 (by kernel_rfl) rfl #[.slice A0 l0.length c0] rfl (by (try simp only [List.map_toArray,List.map_cons,List.map_nil]);first|done|rfl|(simp only [List.length_drop,List.length_take];rfl)) ?_;(with_reducible refine (pool_Encode.calls k _ _ l0 t173 t174 _ ?side3 ?side1 ?side2 A3.out).mono ?_);(case side1 => repeat (first|exact HR0.out|(with_reducible refine Kd.C_alloc ?_ _)|(with_reducible refine Kd.C_drewN ?_ _)|(with_reducible refine Kd.C_drew ?_)));(case side2 => exact HC0.out);(case side3 => exact ⟨GG.below hG.out (by repeat (first|(with_reducible first|exact HB.out|apply below_alloc|apply pw_below_drewN|apply below_drew1)|exact HB.out))⟩);rintro e w40 ⟨v175,rfl,ho0,hb⟩;refine ⟨_,rfl,?_⟩;have n0_:=Aside0.mk (Kd.R_lower ho0 (below_size (by repeat (first|(with_reducible first|exact HB.out|apply below_alloc|apply pw_below_drewN|apply below_drew1)|exact HB.out))));have n1_:=Aside0.mk (below_step (by repeat (first|(with_reducible first|exact HB.out|apply below_alloc|apply pw_below_drewN|apply below_drew1)|exact HB.out)) hb);clear HB;have HO176:=n0_;have HB:=n1_;clear n0_ n1_;(try clear hb);(try clear hb2);(try clear hk);(try clear hi);(try clear ho0))|((with_reducible refine gate_dst (N:=30) rfl ?_);(try (refine gate_guard (by rfl) ?_;dsimp only));refine Kd.R_lit (Kd.int .u8) _ 5 ?hg (N:=30) ?hd (xs:=([]:List Int)) (inner:=[]) (ok:=fun _ => True) (okp:=fun _ => True) ?hr ?hp (fun _ hk => hk) trivial (Below.refl _ _) (Nat.le_refl _) (by simp) ?_;(case hd => rfl);(case hg => rfl);(case hr => first|(go_simp;done)|(go_simp;rfl));(case hp => exact (Reps.none _ _));intro v178 w41 ho42 hb hg_ hnew_;clear hg_ hnew_;(first|rw [← Ny177.out] at ho42|(simp only [Int.reduceToNat] at ho42;rw [← Ny177.out] at ho42));have n0_:=Aside0.mk (Kd.R_elder' (by (with_reducible repeat (first|apply Kd.R_alloc|apply Kd.R_drewN|apply Kd.R_drew));exact HO176.out) (Kd.R_base ho42) hb);have n1_:=Aside0.mk (Kd.R_lower (Kd.R_new' ho42 (Kd.R_lt (by (with_reducible repeat (first|apply Kd.R_alloc|apply Kd.R_drewN|apply Kd.R_drew));exact HO176.out))) (below_size (by repeat (first|(with_reducible first|exact HB.out|apply below_alloc|apply pw_below_drewN|apply below_drew1)|exact HB.out))));have n2_:=Aside0.mk (below_step (by repeat (first|(with_reducible first|exact HB.out|apply below_alloc|apply pw_below_drewN|apply below_drew1)|exact HB.out)) hb);clear HO176;clear HB;have HO176:=n0_;have HO179:=n1_;have HB:=n2_;clear n0_ n1_ n2_;clear hb ho42;obtain ⟨Ao44,co44,eo44⟩:=Kd.R_slice HO176.out;subst eo44)|((with_reducible refine gate_builtin (b:=.append) (xs:=#[.tmp 30,.tmp 31]) rfl ?_);(try (refine gate_guard (by rfl) ?_;dsimp only));at_builtin;refine Kd.R_append_rows (Kd.int .u8) (w0:=w) w.heap.size rfl (.tmp 30) (.tmp 31) 34 5 (.int .u8 0) 1 rfl Tryd.underlying34 info5 rfl (by decide) (by omega) v178 y177 t173 _ _ _ (fun k_ => some k_ ≠ (.slice Ao44 t173.length co44:Value).ownBlock) (fun _ => False) rfl rfl ?aO ?aR (fun _ _ h => h) (fun _ h => h.elim) ?aF ?aB ?aS ?aL ?_;(case aR => repeat (first|exact (Kd.R_reads' HO176.out).2.2|(with_reducible refine Kd.C_alloc ?_ _)|(with_reducible refine Kd.C_drewN ?_ _)|(with_reducible refine Kd.C_drew ?_)));(case aB => exact (by repeat (first|(with_reducible first|exact HB.out|apply below_alloc|apply pw_below_drewN|apply below_drew1)|exact HB.out)));(case aF => exact (fun k_ hk => Kd.fresh' (Kd.R_lt (by (with_reducible repeat (first|apply Kd.R_alloc|apply Kd.R_drewN|apply Kd.R_drew));exact HO176.out)) k_ hk));(case aO => exact (by (with_reducible repeat (first|apply Kd.R_alloc|apply Kd.R_drewN|apply Kd.R_drew));exact Kd.R_mono HO179.out (fun _ hk => hk.2)));(case aS => exact (below_size (by repeat (first|(with_reducible first|exact HB.out|apply below_alloc|apply pw_below_drewN|apply below_drew1)|exact HB.out))));(case aL => have:=LMc5.out;omega);intro v181 w43 ho hb hg hat;rw [← Ny180.out] at ho;have n0_:=Aside0.mk (Kd.R_after (ok:=(fun _ => True)) (by (with_reducible repeat (first|apply Kd.R_alloc|apply Kd.R_drewN|apply Kd.R_drew));exact HO176.out) hg hat);have n1_:=Aside0.mk (hb);have n2_:=Aside0.mk (ho);clear HO176;clear HB;clear HO179;have HO176:=n0_;have HB:=n1_;have HO182:=n2_;clear n0_ n1_ n2_;clear ho hb hg hat)|((with_reducible refine gate_builtin (b:=.append) (xs:=#[.tmp 32,.tmp 33]) rfl ?_);(try (refine gate_guard (by rfl) ?_;dsimp only));at_builtin;refine Kd.R_append_rows (Kd.int .u8) (w0:=w) w.heap.size rfl (.tmp 32) (.tmp 33) 34 5 (.int .u8 0) 1 rfl Tryd.underlying34 info5 rfl (by decide) (by omega) v181 y180 l1 _ _ _ (fun k_ => some k_ ≠ (.slice Ao44 t173.length co44:Value).ownBlock) (fun _ => False) rfl rfl ?aO ?aR (fun _ _ h => h) (fun _ h => h.elim) ?aF ?aB ?aS ?aL ?_;(case aR => repeat (first|exact (Kd.C_below HR1.out HB.out)|(with_reducible refine Kd.C_alloc ?_ _)|(with_reducible refine Kd.C_drewN ?_ _)|(with_reducible refine Kd.C_drew ?_)));(case aB => exact (by repeat (first|(with_reducible first|exact HB.out|apply below_alloc|apply pw_below_drewN|apply below_drew1)|exact HB.out)));(case aF => exact (fun k_ hk => Kd.fresh' (Kd.R_lt (by (with_reducible repeat (first|apply Kd.R_alloc|apply Kd.R_drewN|apply Kd.R_drew));exact HO176.out)) k_ hk));(case aO => exact (by (with_reducible repeat (first|apply Kd.R_alloc|apply Kd.R_drewN|apply Kd.R_drew));exact HO182.out));(case aS => exact (below_size (by repeat (first|(with_reducible first|exact HB.out|apply below_alloc|apply pw_below_drewN|apply below_drew1)|exact HB.out))));(case aL => have:=LMc6.out;omega);intro v184 w45 ho hb hg hat;rw [← Ny183.out] at ho;have n0_:=Aside0.mk (Kd.R_after (ok:=(fun _ => True)) (by (with_reducible repeat (first|apply Kd.R_alloc|apply Kd.R_drewN|apply Kd.R_drew));exact HO176.out) hg hat);have n1_:=Aside0.mk (hb);have n2_:=Aside0.mk (ho);clear HO176;clear HB;clear HO182;have HO176:=n0_;have HB:=n1_;have HO185:=n2_;clear n0_ n1_ n2_;clear ho hb hg hat;obtain ⟨Ao46,co46,eo46⟩:=Kd.R_slice HO185.out;subst eo46)|((with_reducible refine gate_callee (f:=16) rfl ?_);refine goesL_ (some 35) rfl rfl Tryd.func16 (by kernel_rfl) rfl #[.slice Ao46 y183.length co46] rfl (by (try simp only [List.map_toArray,List.map_cons,List.map_nil]);first|done|rfl|(simp only [List.length_drop,List.length_take];rfl)) ?_;(with_reducible refine (pool_Decode.calls k _ _ y183 t186 t187 t188 _ ?side3 ?side1 ?side2 A7.out).mono ?_);(case side1 => repeat (first|exact (Kd.R_reads' HO185.out).2.2|(with_reducible refine Kd.C_alloc ?_ _)|(with_reducible refine Kd.C_drewN ?_ _)|(with_reducible refine Kd.C_drew ?_)));(case side2 => exact (Kd.R_reads' HO185.out).2.1);(case side3 => exact ⟨GG.below hG.out (by repeat (first|(with_reducible first|exact HB.out|apply below_alloc|apply pw_below_drewN|apply below_drew1)|exact HB.out))⟩);rintro e w47 ⟨v189,rfl,ho0,hb⟩;refine ⟨_,rfl,?_⟩;have n0_:=Aside0.mk (Kd.R_below (by (with_reducible repeat (first|apply Kd.R_alloc|apply Kd.R_drewN|apply Kd.R_drew));exact HO176.out) hb);have n1_:=Aside0.mk (Kd.R_below (by (with_reducible repeat (first|apply Kd.R_alloc|apply Kd.R_drewN|apply Kd.R_drew));exact HO185.out) hb);have n2_:=Aside0.mk (Kd.R_lower ho0 (below_size (by repeat (first|(with_reducible first|exact HB.out|apply below_alloc|apply pw_below_drewN|apply below_drew1)|exact HB.out))));have n3_:=Aside0.mk (below_step (by repeat (first|(with_reducible first|exact HB.out|apply below_alloc|apply pw_below_drewN|apply below_drew1)|exact HB.out)) hb);clear HO176;clear HO185;clear HB;have HO176:=n0_;have HO185:=n1_;have HO190:=n2_;have HB:=n3_;clear n0_ n1_ n2_ n3_;(try clear hb);(try clear hb2);(try clear hk);(try clear hi);(try clear ho0)))
     go_ret
     exact ⟨by first|rfl|(simp [errW_none,errW_some] <;> rfl)|(simp [*,errW_none,errW_some] <;> rfl),by repeat (first|(with_reducible first|exact HB.out|apply below_alloc|apply pw_below_drewN|apply below_drew1)|exact HB.out)⟩
   ·rw [if_neg c6] at H
    exact absurd H (by simp)
  ·rw [if_neg c5] at H
   exact absurd H (by simp)
 ·rw [if_neg c4] at H
  have c4b0:(t174==0)=false:=beq_eq_false_iff_ne.mpr c4
  have c4b1:(t174 != 0)=true:=bne_iff_ne.mpr c4
  replace H:=Option.bind_eq_some_iff.mp H
  obtain ⟨t193,A480,H⟩:=H
  replace H:(if t174=t193 then (if (t173.length:Int)=0 then ((understudylaw04_awake.f).bind fun t194 => (some t194)) else (some false)) else (some false))=some r:=H
  have A48:=Aside0.mk A480
  clear A480
  by_cases c49:t174=t193
  ·rw [if_pos c49] at H
   have c49b0:(t174==t193)=true:=beq_iff_eq.mpr c49
   have c49b1:(t174 != t193)=false:=bne_eq_false_iff_eq.mpr c49
   clear c49
   by_cases c50:(t173.length:Int)=0
   ·rw [if_pos c50] at H
    have c50b0:((t173.length:Int)==0)=true:=beq_iff_eq.mpr c50
    have c50b1:((t173.length:Int) != 0)=false:=bne_eq_false_iff_eq.mpr c50
    clear c50
    replace H:=Option.bind_eq_some_iff.mp H
    obtain ⟨t194,A510,H⟩:=H
    replace H:(some t194)=some r:=H
    have A51:=Aside0.mk A510
    clear A510
    obtain rfl:=Option.some.inj H
    go_enter Tryd.func7,Tryd.ntmps7
    go_wp2_with (first|((with_reducible refine gate_callee (f:=14) rfl ?_);refine goesL_ (some 12) rfl rfl Tryd.func14 (by kernel_rfl) rfl #[.slice A0 l0.length c0] rfl (by (try simp only [List.map_toArray,List.map_cons,List.map_nil]);first|done|rfl|(simp only [List.length_drop,List.length_take];rfl)) ?_;(with_reducible refine (pool_Encode.calls k _ _ l0 t173 t174 _ ?side3 ?side1 ?side2 A3.out).mono ?_);(case side1 => repeat (first|exact HR0.out|(with_reducible refine Kd.C_alloc ?_ _)|(with_reducible refine Kd.C_drewN ?_ _)|(with_reducible refine Kd.C_drew ?_)));(case side2 => exact HC0.out);(case side3 => exact ⟨GG.below hG.out (by repeat (first|(with_reducible first|exact HB.out|apply below_alloc|apply pw_below_drewN|apply below_drew1)|exact HB.out))⟩);rintro e w52 ⟨v175,rfl,ho0,hb⟩;refine ⟨_,rfl,?_⟩;have n0_:=Aside0.mk (Kd.R_lower ho0 (below_size (by repeat (first|(with_reducible first|exact HB.out|apply below_alloc|apply pw_below_drewN|apply below_drew1)|exact HB.out))));have n1_:=Aside0.mk (below_step (by repeat (first|(with_reducible first|exact HB.out|apply below_alloc|apply pw_below_drewN|apply below_drew1)|exact HB.out)) hb);clear HB;have HO176:=n0_;have HB:=n1_;clear n0_ n1_;(try clear hb);(try clear hb2);(try clear hk);(try clear hi);(try clear ho0))|((with_reducible refine gate_callee (f:=8) rfl ?_);refine goesL_ (some 19) rfl rfl Tryd.func8 (by kernel_rfl) rfl #[.slice A0 l0.length c0] rfl (by (try simp only [List.map_toArray,List.map_cons,List.map_nil]);first|done|rfl|(simp only [List.length_drop,List.length_take];rfl)) ?_;(with_reducible refine (pool_Check.calls k _ _ l0 t193 _ ?side3 ?side1 ?side2 A48.out).mono ?_);(case side1 => repeat (first|exact (Kd.C_below HR0.out HB.out)|(with_reducible refine Kd.C_alloc ?_ _)|(with_reducible refine Kd.C_drewN ?_ _)|(with_reducible refine Kd.C_drew ?_)));(case side2 => exact HC0.out);(case side3 => exact ⟨GG.below hG.out (by repeat (first|(with_reducible first|exact HB.out|apply below_alloc|apply pw_below_drewN|apply below_drew1)|exact HB.out))⟩);rintro e w53 ⟨rfl,hb⟩;refine ⟨_,rfl,?_⟩;have n0_:=Aside0.mk (Kd.R_below (by (with_reducible repeat (first|apply Kd.R_alloc|apply Kd.R_drewN|apply Kd.R_drew));exact HO176.out) hb);have n1_:=Aside0.mk (below_step (by repeat (first|(with_reducible first|exact HB.out|apply below_alloc|apply pw_below_drewN|apply below_drew1)|exact HB.out)) hb);clear HO176;clear HB;have HO176:=n0_;have HB:=n1_;clear n0_ n1_;(try clear hb);(try clear hb2);(try clear hk);(try clear hi);obtain ⟨Ao54,co54,eo54⟩:=Kd.R_slice HO176.out;subst eo54)|(go_at_call 10;(with_reducible refine (understudylaw04_awake.calls  t194 _ A51.out).mono ?_);rintro e w55 ⟨rfl,hb⟩;have n0_:=Aside0.mk (Kd.R_below (by (with_reducible repeat (first|apply Kd.R_alloc|apply Kd.R_drewN|apply Kd.R_drew));exact HO176.out) hb);have n1_:=Aside0.mk (below_step (by repeat (first|(with_reducible first|exact HB.out|apply below_alloc|apply pw_below_drewN|apply below_drew1)|exact HB.out)) hb);clear HO176;clear HB;have HO176:=n0_;have HB:=n1_;clear n0_ n1_;(try clear hb);(try clear hb2);(try clear hk);(try clear hi)))
    go_ret
    exact ⟨by first|rfl|(simp [errW_none,errW_some] <;> rfl)|(simp [*,errW_none,errW_some] <;> rfl),by repeat (first|(with_reducible first|exact HB.out|apply below_alloc|apply pw_below_drewN|apply below_drew1)|exact HB.out)⟩
   ·rw [if_neg c50] at H
    have c50b0:((t173.length:Int)==0)=false:=beq_eq_false_iff_ne.mpr c50
    have c50b1:((t173.length:Int) != 0)=true:=bne_iff_ne.mpr c50
    have c50b2:¬ (t173=[]):=fun h_ => c50 (by rw [h_];rfl)
    obtain rfl:=Option.some.inj H
    go_enter Tryd.func7,Tryd.ntmps7
    go_wp2_with (first|((with_reducible refine gate_callee (f:=14) rfl ?_);refine goesL_ (some 12) rfl rfl Tryd.func14 (by kernel_rfl) rfl #[.slice A0 l0.length c0] rfl (by (try simp only [List.map_toArray,List.map_cons,List.map_nil]);first|done|rfl|(simp only [List.length_drop,List.length_take];rfl)) ?_;(with_reducible refine (pool_Encode.calls k _ _ l0 t173 t174 _ ?side3 ?side1 ?side2 A3.out).mono ?_);(case side1 => repeat (first|exact HR0.out|(with_reducible refine Kd.C_alloc ?_ _)|(with_reducible refine Kd.C_drewN ?_ _)|(with_reducible refine Kd.C_drew ?_)));(case side2 => exact HC0.out);(case side3 => exact ⟨GG.below hG.out (by repeat (first|(with_reducible first|exact HB.out|apply below_alloc|apply pw_below_drewN|apply below_drew1)|exact HB.out))⟩);rintro e w56 ⟨v175,rfl,ho0,hb⟩;refine ⟨_,rfl,?_⟩;have n0_:=Aside0.mk (Kd.R_lower ho0 (below_size (by repeat (first|(with_reducible first|exact HB.out|apply below_alloc|apply pw_below_drewN|apply below_drew1)|exact HB.out))));have n1_:=Aside0.mk (below_step (by repeat (first|(with_reducible first|exact HB.out|apply below_alloc|apply pw_below_drewN|apply below_drew1)|exact HB.out)) hb);clear HB;have HO176:=n0_;have HB:=n1_;clear n0_ n1_;(try clear hb);(try clear hb2);(try clear hk);(try clear hi);(try clear ho0))|((with_reducible refine gate_callee (f:=8) rfl ?_);refine goesL_ (some 19) rfl rfl Tryd.func8 (by kernel_rfl) rfl #[.slice A0 l0.length c0] rfl (by (try simp only [List.map_toArray,List.map_cons,List.map_nil]);first|done|rfl|(simp only [List.length_drop,List.length_take];rfl)) ?_;(with_reducible refine (pool_Check.calls k _ _ l0 t193 _ ?side3 ?side1 ?side2 A48.out).mono ?_);(case side1 => repeat (first|exact (Kd.C_below HR0.out HB.out)|(with_reducible refine Kd.C_alloc ?_ _)|(with_reducible refine Kd.C_drewN ?_ _)|(with_reducible refine Kd.C_drew ?_)));(case side2 => exact HC0.out);(case side3 => exact ⟨GG.below hG.out (by repeat (first|(with_reducible first|exact HB.out|apply below_alloc|apply pw_below_drewN|apply below_drew1)|exact HB.out))⟩);rintro e w57 ⟨rfl,hb⟩;refine ⟨_,rfl,?_⟩;have n0_:=Aside0.mk (Kd.R_below (by (with_reducible repeat (first|apply Kd.R_alloc|apply Kd.R_drewN|apply Kd.R_drew));exact HO176.out) hb);have n1_:=Aside0.mk (below_step (by repeat (first|(with_reducible first|exact HB.out|apply below_alloc|apply pw_below_drewN|apply below_drew1)|exact HB.out)) hb);clear HO176;clear HB;have HO176:=n0_;have HB:=n1_;clear n0_ n1_;(try clear hb);(try clear hb2);(try clear hk);(try clear hi);obtain ⟨Ao58,co58,eo58⟩:=Kd.R_slice HO176.out;subst eo58))
    go_ret
    exact ⟨by first|rfl|(simp [errW_none,errW_some] <;> rfl)|(simp [*,errW_none,errW_some] <;> rfl),by repeat (first|(with_reducible first|exact HB.out|apply below_alloc|apply pw_below_drewN|apply below_drew1)|exact HB.out)⟩
  ·rw [if_neg c49] at H
   have c49b0:(t174==t193)=false:=beq_eq_false_iff_ne.mpr c49
   have c49b1:(t174 != t193)=true:=bne_iff_ne.mpr c49
   obtain rfl:=Option.some.inj H
   go_enter Tryd.func7,Tryd.ntmps7
   go_wp2_with (first|((with_reducible refine gate_callee (f:=14) rfl ?_);refine goesL_ (some 12) rfl rfl Tryd.func14 (by kernel_rfl) rfl #[.slice A0 l0.length c0] rfl (by (try simp only [List.map_toArray,List.map_cons,List.map_nil]);first|done|rfl|(simp only [List.length_drop,List.length_take];rfl)) ?_;(with_reducible refine (pool_Encode.calls k _ _ l0 t173 t174 _ ?side3 ?side1 ?side2 A3.out).mono ?_);(case side1 => repeat (first|exact HR0.out|(with_reducible refine Kd.C_alloc ?_ _)|(with_reducible refine Kd.C_drewN ?_ _)|(with_reducible refine Kd.C_drew ?_)));(case side2 => exact HC0.out);(case side3 => exact ⟨GG.below hG.out (by repeat (first|(with_reducible first|exact HB.out|apply below_alloc|apply pw_below_drewN|apply below_drew1)|exact HB.out))⟩);rintro e w59 ⟨v175,rfl,ho0,hb⟩;refine ⟨_,rfl,?_⟩;have n0_:=Aside0.mk (Kd.R_lower ho0 (below_size (by repeat (first|(with_reducible first|exact HB.out|apply below_alloc|apply pw_below_drewN|apply below_drew1)|exact HB.out))));have n1_:=Aside0.mk (below_step (by repeat (first|(with_reducible first|exact HB.out|apply below_alloc|apply pw_below_drewN|apply below_drew1)|exact HB.out)) hb);clear HB;have HO176:=n0_;have HB:=n1_;clear n0_ n1_;(try clear hb);(try clear hb2);(try clear hk);(try clear hi);(try clear ho0))|((with_reducible refine gate_callee (f:=8) rfl ?_);refine goesL_ (some 19) rfl rfl Tryd.func8 (by kernel_rfl) rfl #[.slice A0 l0.length c0] rfl (by (try simp only [List.map_toArray,List.map_cons,List.map_nil]);first|done|rfl|(simp only [List.length_drop,List.length_take];rfl)) ?_;(with_reducible refine (pool_Check.calls k _ _ l0 t193 _ ?side3 ?side1 ?side2 A48.out).mono ?_);(case side1 => repeat (first|exact (Kd.C_below HR0.out HB.out)|(with_reducible refine Kd.C_alloc ?_ _)|(with_reducible refine Kd.C_drewN ?_ _)|(with_reducible refine Kd.C_drew ?_)));(case side2 => exact HC0.out);(case side3 => exact ⟨GG.below hG.out (by repeat (first|(with_reducible first|exact HB.out|apply below_alloc|apply pw_below_drewN|apply below_drew1)|exact HB.out))⟩);rintro e w60 ⟨rfl,hb⟩;refine ⟨_,rfl,?_⟩;have n0_:=Aside0.mk (Kd.R_below (by (with_reducible repeat (first|apply Kd.R_alloc|apply Kd.R_drewN|apply Kd.R_drew));exact HO176.out) hb);have n1_:=Aside0.mk (below_step (by repeat (first|(with_reducible first|exact HB.out|apply below_alloc|apply pw_below_drewN|apply below_drew1)|exact HB.out)) hb);clear HO176;clear HB;have HO176:=n0_;have HB:=n1_;clear n0_ n1_;(try clear hb);(try clear hb2);(try clear hk);(try clear hi)))
   go_ret
   exact ⟨by first|rfl|(simp [errW_none,errW_some] <;> rfl)|(simp [*,errW_none,errW_some] <;> rfl),by repeat (first|(with_reducible first|exact HB.out|apply below_alloc|apply pw_below_drewN|apply below_drew1)|exact HB.out)⟩
end Go.Proofs.YtglnhkgodgjepaaDoor.Px
namespace Go.Proofs.YtglnhkgodgjepaaDoor.Px
open Go.RowKit Go.Proofs.YtglnhkgodgjepaaDoorW.PrintWords Go.Proofs.YtglnhkgodgjepaaDoorW.PrintLast Go.Proofs.YtglnhkgodgjepaaDoorW.PrintMore
set_option linter.unusedVariables false
set_option linter.unusedSimpArgs false
theorem w32 {x:Int} (h0:-2147483648≤x) (h1:x≤2147483647):wrap32 x=x:=by unfold wrap32;omega
def unitL (u:Int):List Int:=if 1≤u∧u≤127 then [u] else if u≤2047 then [192 + u / 64,128 + u % 64] else [224 + u / 4096,128 + u / 64 % 64,128 + u % 64]
theorem unitL_len (u:Int):(unitL u).length≤3:=by unfold unitL;split <;> (try split) <;> simp
def cuL (c:Int):List Int:=if c < 65536 then unitL c else unitL (55296 + (c - 65536) / 1024)++unitL (56320 + (c - 65536) % 1024)
theorem cuL_len (c:Int):(cuL c).length≤6:=by
 unfold cuL
 have h1:=unitL_len c
 have h2:=unitL_len (55296 + (c - 65536) / 1024)
 have h3:=unitL_len (56320 + (c - 65536) % 1024)
 split
 ·omega
 ·rw [List.length_append];omega
theorem text_unit.ev (b:List Int) (u:Int) (h0:0≤u) (h1:u < 65536) (hb:b.length + 3 < 140737488355328):Ev (fun k => text_unit.f k b u) (b++unitL u):=by
 refine ⟨1,fun k hk => ?_⟩
 obtain ⟨k,rfl⟩:∃ m,k=m + 1:=⟨k - 1,by omega⟩
 have m63:∀ x:Int,0≤x→x < 2147483648→bits .and .i32 x 63=x % 64:=fun x a b => bits_mask .i32 31 (by decide) wraps_i32 6 (by decide) x a b
 show text_unit.f (k + 1) b u=_
 unfold text_unit.f unitL
 by_cases c1:1≤u∧u≤127
 ·rw [if_pos c1,if_pos (by omega),decide_eq_true (by omega)]
  simp only [text_unit.j0]
  rw [if_pos trivial,if_pos (by omega),show u % 256=u from by omega]
 ·rw [if_neg c1]
  have key:text_unit.j0 (k + 1) b u false=some (b++if u≤2047 then [192 + u / 64,128 + u % 64] else [224 + u / 4096,128 + u / 64 % 64,128 + u % 64]):=by
   simp only [text_unit.j0]
   rw [if_neg (by simp),m63 u h0 (by omega),m63 (u / 64) (by omega) (by omega)]
   by_cases c2:u≤2047
   ·rw [if_pos (by omega),if_pos c2,Option.bind_some,show u / 64 % 256=u / 64 from by omega,show u % 64 % 256=u % 64 from by omega,u8_or192 _ (by omega) (by omega),u8_or128 _ (by omega) (by omega)]
    rw [if_pos (by simp;omega)]
   ·rw [if_neg (by omega),if_neg c2,Option.bind_some,show u / 4096 % 256=u / 4096 from by omega,show u % 64 % 256=u % 64 from by omega,show u / 64 % 64 % 256=u / 64 % 64 from by omega,u8_or224 _ (by omega) (by omega),u8_or128 _ (by omega) (by omega),u8_or128 _ (by omega) (by omega)]
    rw [if_pos (by simp;omega)]
  by_cases c3:u > 0
  ·rw [if_pos c3,decide_eq_false (by omega),key]
  ·rw [if_neg c3,key]
end Go.Proofs.YtglnhkgodgjepaaDoor.Px
namespace Go.Proofs.YtglnhkgodgjepaaDoor.Px
open Go.RowKit Go.Proofs.YtglnhkgodgjepaaDoorW.PrintWords Go.Proofs.YtglnhkgodgjepaaDoorW.PrintLast Go.Proofs.YtglnhkgodgjepaaDoorW.PrintMore
set_option linter.unusedVariables false
set_option linter.unusedSimpArgs false
def V2 (L:List Int):Int:=(rd L 0 - 192) * 64 + (rd L 1 - 128)
def V3 (L:List Int):Int:=(rd L 0 - 224) * 4096 + (rd L 1 - 128) * 64 + (rd L 2 - 128)
def takeV (L:List Int):Option (Int × Nat) :=
 if 1≤rd L 0∧rd L 0≤127 then some (rd L 0,1)
 else if 192≤rd L 0∧rd L 0≤223∧2≤L.length∧128≤rd L 1∧rd L 1≤191∧(V2 L=0 ∨ 128≤V2 L) then some (V2 L,2)
 else if 224≤rd L 0∧rd L 0≤239∧3≤L.length∧128≤rd L 1∧rd L 1≤191∧128≤rd L 2∧rd L 2≤191∧2048≤V3 L then some (V3 L,3)
 else none
theorem rd_byte {L:List Int} (h:IsBytes L) (i:Int):0≤rd L i∧rd L i < 256:=by
 unfold rd
 rw [List.getD_eq_getElem?_getD]
 cases e:L[i.toNat]? with
 | none => simp
 | some x => simpa using h x (List.mem_of_getElem? e)
theorem strOfNums_eq {a b:List Int} (ha:IsBytes a) (hb:IsBytes b):((strOfNums a).toList==(strOfNums b).toList)=decide (a=b):=by
 rw [Lib.toList_data,Lib.toList_data]
 have e:∀ {l:List Int},(strOfNums l).data.toList=l.map fun n => UInt8.ofNat n.toNat:=fun {l} => rfl
 rw [e,e,Bool.eq_iff_iff,beq_iff_eq,decide_eq_true_eq]
 refine ⟨fun h => ?_,fun h => by rw [h]⟩
 have h1:a.length=b.length:=by simpa using congrArg List.length h
 apply List.ext_getElem h1
 intro i h2 h3
 have h4:=congrArg (fun l => l[i]?) h
 simp only [List.getElem?_map,List.getElem?_eq_getElem h2,List.getElem?_eq_getElem h3,Option.map_some,Option.some.injEq] at h4
 have h5:=ha a[i] (List.getElem_mem _)
 have h6:=hb b[i] (List.getElem_mem _)
 have h7:=congrArg UInt8.toNat h4
 simp only [UInt8.toNat_ofNat'] at h7
 rw [Nat.mod_eq_of_lt (by omega),Nat.mod_eq_of_lt (by omega)] at h7
 omega
theorem unitL_bytes (u:Int) (h0:0≤u) (h1:u < 65536):IsBytes (unitL u):=by
 unfold unitL
 split
 ·exact IsBytes.cons (by omega) IsBytes.nil
 ·split
  ·exact IsBytes.cons (by omega) (IsBytes.cons (by omega) IsBytes.nil)
  ·exact IsBytes.cons (by omega) (IsBytes.cons (by omega) (IsBytes.cons (by omega) IsBytes.nil))
theorem take1 (L:List Int) (h:0 < L.length):L.take 1=[rd L 0]:=by
 cases L with
 | nil => simp at h
 | cons a t => rfl
theorem take2 (L:List Int) (h:1 < L.length):L.take 2=[rd L 0,rd L 1]:=by
 match L with
 | [] => simp at h
 | [_] => simp at h
 | a :: b :: t => rfl
theorem take3 (L:List Int) (h:2 < L.length):L.take 3=[rd L 0,rd L 1,rd L 2]:=by
 match L with
 | [] => simp at h
 | [_] => simp at h
 | [_,_] => simp at h
 | a :: b :: c :: t => rfl
theorem IsBytes.take {L:List Int} (h:IsBytes L) (n:Nat):IsBytes (L.take n):=fun x hx => h x (List.mem_of_mem_take hx)
theorem IsBytes.drop {L:List Int} (h:IsBytes L) (n:Nat):IsBytes (L.drop n):=fun x hx => h x (List.mem_of_mem_drop hx)
theorem text_next.ev_some (L:List Int) (hL:IsBytes L) (u:Int) (h0:0≤u) (h1:u < 65536) (hu:uniV L=some u) :
  Ev (fun k => text_next.f k L) (u,decide (unitL u=L.take (nxN (rd L 0)).toNat),(nxN (rd L 0)).toNat):=by
 unfold text_next.f
 rw [hu]
 simp only
 have h:=text_unit.ev [] u h0 h1 (by simp)
 refine Ev.bind h ?_
 rw [List.nil_append,strOfNums_eq (unitL_bytes u h0 h1) (hL.take _)]
 exact Ev.now _
theorem text_next.ev_none (L:List Int) (hu:uniV L=none):Ev (fun k => text_next.f k L) (0,false,0):=by
 unfold text_next.f
 rw [hu]
 exact Ev.now _
theorem text_next.ev (L:List Int) (hL:IsBytes L) (hne:0 < L.length) :
  ∃ u m,Ev (fun k => text_next.f k L) (match takeV L with|some (v,m) => (v,true,m)|none => (u,false,m)):=by
 have h0:=rd_byte hL 0
 have h1:=rd_byte hL 1
 have h2:=rd_byte hL 2
 have m32:∀ (x:Int) (i:Nat),i≤30→0≤x→x < 2147483648→bits .and .i32 x (2 ^ i - 1)=x % 2 ^ i:=fun x i hi a b => bits_mask .i32 31 (by decide) wraps_i32 i (by omega) x a b
 have e0:wrap32 (rd L 0)=rd L 0:=w32 (by omega) (by omega)
 rcases nxN_cases (rd L 0) with hn|hn|hn
 ·-- one byte
  have hu:uniV L=some (rd L 0):=by unfold uniV u0V;rw [hn,if_neg (by omega),if_pos rfl,if_pos rfl,e0]
  have h:=text_next.ev_some L hL _ h0.1 (by omega) hu
  rw [hn,show ((1:Int)).toNat=1 from rfl,take1 L hne] at h
  by_cases c1:1≤rd L 0∧rd L 0≤127
  ·refine ⟨0,0,?_⟩
   rw [show unitL (rd L 0)=[rd L 0] from if_pos c1,decide_eq_true rfl] at h
   rw [show takeV L=some (rd L 0,1) from if_pos c1]
   exact h
  ·refine ⟨rd L 0,1,?_⟩
   have hc:rd L 0 < 192 ∨ 240≤rd L 0:=by unfold nxN at hn;split at hn <;> (try split at hn) <;> omega
   rw [show takeV L=none by unfold takeV;rw [if_neg c1,if_neg (by omega),if_neg (by omega)]]
   rw [decide_eq_false (by unfold unitL;rw [if_neg c1,if_pos (by omega)];simp)] at h
   exact h
 ·have hc:192≤rd L 0∧rd L 0 < 224:=by unfold nxN at hn;split at hn <;> (try split at hn) <;> omega
  by_cases hl:2≤L.length
  ·by_cases hb:rd L 1 / 64=2
   ·have hu2:U2 L=V2 L:=by
     unfold U2 u0V V2
     rw [hn,if_neg (by decide),if_pos rfl,e0,show (31:Int)=2 ^ 5 - 1 from rfl,m32 _ 5 (by decide) (by omega) (by omega),show (63:Int)=63 from rfl,u8_and63 _ (by omega) (by omega)]
     rw [w32 (by omega) (by omega),w32 (by omega) (by omega)]
     rw [bits_join .i32 31 (by decide) wraps_i32 6 (rd L 0 % 2 ^ 5 * 64) (rd L 1 % 64) (by omega) (by omega) (by omega) (by omega) (by omega) (by omega)]
     omega
    have hu:uniV L=some (V2 L):=by unfold uniV;rw [hn,if_neg (by omega),if_neg (by decide),if_pos hb,if_pos rfl,hu2]
    have hv:0≤V2 L∧V2 L≤2047:=by unfold V2;omega
    have h:=text_next.ev_some L hL _ hv.1 (by omega) hu
    rw [hn,show ((2:Int)).toNat=2 from rfl,take2 L (by omega)] at h
    by_cases c1:V2 L=0 ∨ 128≤V2 L
    ·refine ⟨0,0,?_⟩
     rw [show takeV L=some (V2 L,2) by unfold takeV;rw [if_neg (by omega),if_pos ⟨hc.1,by omega,hl,by omega,by omega,c1⟩]]
     rw [decide_eq_true (by unfold unitL;rw [if_neg (by omega),if_pos (by omega)];unfold V2 at *;simp only [List.cons.injEq,and_true];omega)] at h
     exact h
    ·refine ⟨V2 L,2,?_⟩
     rw [show takeV L=none by unfold takeV;rw [if_neg (by omega),if_neg (by omega),if_neg (by omega)]]
     rw [decide_eq_false (by unfold unitL;rw [if_pos (by omega)];simp)] at h
     exact h
   ·refine ⟨0,0,?_⟩
    rw [show takeV L=none by unfold takeV;rw [if_neg (by omega),if_neg (by omega),if_neg (by omega)]]
    exact text_next.ev_none L (by unfold uniV;rw [hn,if_neg (by omega),if_neg (by decide),if_neg hb])
  ·refine ⟨0,0,?_⟩
   rw [show takeV L=none by unfold takeV;rw [if_neg (by omega),if_neg (by omega),if_neg (by omega)]]
   exact text_next.ev_none L (by unfold uniV;rw [hn,if_pos (by omega)])
 ·have hc:224≤rd L 0∧rd L 0 < 240:=by unfold nxN at hn;split at hn <;> (try split at hn) <;> omega
  by_cases hl:3≤L.length
  ·by_cases hb:rd L 1 / 64=2∧rd L 2 / 64=2
   ·have hu3:U3 L=V3 L:=by
     unfold U3 U2 u0V V3
     rw [hn,if_neg (by decide),if_neg (by decide),e0,show (15:Int)=2 ^ 4 - 1 from rfl,m32 _ 4 (by decide) (by omega) (by omega),u8_and63 _ (by omega) (by omega),u8_and63 _ (by omega) (by omega)]
     rw [w32 (x:=rd L 0 % 2 ^ 4 * 64) (by omega) (by omega),w32 (x:=rd L 1 % 64) (by omega) (by omega),w32 (x:=rd L 2 % 64) (by omega) (by omega)]
     rw [bits_join .i32 31 (by decide) wraps_i32 6 (rd L 0 % 2 ^ 4 * 64) (rd L 1 % 64) (by omega) (by omega) (by omega) (by omega) (by omega) (by omega)]
     rw [w32 (x:=(rd L 0 % 2 ^ 4 * 64 + rd L 1 % 64) * 64) (by omega) (by omega)]
     rw [bits_join .i32 31 (by decide) wraps_i32 6 ((rd L 0 % 2 ^ 4 * 64 + rd L 1 % 64) * 64) (rd L 2 % 64) (by omega) (by omega) (by omega) (by omega) (by omega) (by omega)]
     omega
    have hu:uniV L=some (V3 L):=by unfold uniV;rw [hn,if_neg (by omega),if_neg (by decide),if_pos hb.1,if_neg (by decide),if_pos hb.2,hu3]
    have hv:0≤V3 L∧V3 L < 65536:=by unfold V3;omega
    have h:=text_next.ev_some L hL _ hv.1 (by omega) hu
    rw [hn,show ((3:Int)).toNat=3 from rfl,take3 L (by omega)] at h
    by_cases c1:2048≤V3 L
    ·refine ⟨0,0,?_⟩
     rw [show takeV L=some (V3 L,3) by unfold takeV;rw [if_neg (by omega),if_neg (by omega),if_pos ⟨hc.1,by omega,hl,by omega,by omega,by omega,by omega,c1⟩]]
     rw [decide_eq_true (by unfold unitL;rw [if_neg (by omega),if_neg (by omega)];unfold V3 at *;simp only [List.cons.injEq,and_true];omega)] at h
     exact h
    ·refine ⟨V3 L,3,?_⟩
     rw [show takeV L=none by unfold takeV;rw [if_neg (by omega),if_neg (by omega),if_neg (by omega)]]
     have hx:¬ unitL (V3 L)=[rd L 0,rd L 1,rd L 2]:=by
      unfold unitL
      by_cases q:1≤V3 L∧V3 L≤127
      ·rw [if_pos q];simp
      ·rw [if_neg q,if_pos (by omega)];simp
     rw [decide_eq_false hx] at h
     exact h
   ·refine ⟨0,0,?_⟩
    rw [show takeV L=none by unfold takeV;rw [if_neg (by omega),if_neg (by omega),if_neg (by omega)]]
    refine text_next.ev_none L ?_
    unfold uniV
    rw [hn,if_neg (by omega),if_neg (by decide)]
    by_cases hb1:rd L 1 / 64=2
    ·rw [if_pos hb1,if_neg (by decide),if_neg (by omega)]
    ·rw [if_neg hb1]
  ·refine ⟨0,0,?_⟩
   rw [show takeV L=none by unfold takeV;rw [if_neg (by omega),if_neg (by omega),if_neg (by omega)]]
   exact text_next.ev_none L (by unfold uniV;rw [hn,if_pos (by omega)])
end Go.Proofs.YtglnhkgodgjepaaDoor.Px
namespace Go.Proofs.YtglnhkgodgjepaaDoor.Px
open Go.RowKit Go.Proofs.YtglnhkgodgjepaaDoorW.PrintWords Go.Proofs.YtglnhkgodgjepaaDoorW.PrintLast Go.Proofs.YtglnhkgodgjepaaDoorW.PrintMore
set_option linter.unusedVariables false
set_option linter.unusedSimpArgs false
def beV (l:List Int):Int:=l.foldl (fun x c => x * 256 + c) 0
theorem beV_snoc (l:List Int) (c:Int):beV (l++[c])=beV l * 256 + c:=by simp [beV]
theorem beV_range (l:List Int) (h:IsBytes l):0≤beV l∧beV l < 256 ^ l.length:=by
 have key:∀ n (l:List Int),l.length=n→IsBytes l→0≤beV l∧beV l < 256 ^ l.length:=by
  intro n
  induction n with
  | zero => intro l hl _;obtain rfl:=List.eq_nil_of_length_eq_zero hl;exact ⟨by decide,by decide⟩
  | succ n ih =>
   intro l hl hb
   obtain ⟨l',c,rfl⟩:∃ l' c,l=l'++[c]:=⟨l.dropLast,l.getLast (by intro e;rw [e] at hl;simp at hl),(List.dropLast_concat_getLast _).symm⟩
   have hc:=hb c (by simp)
   have h1:=ih l' (by simp at hl;exact hl) (fun x hx => hb x (by simp [hx]))
   rw [beV_snoc,List.length_append,List.length_singleton,Int.pow_succ]
   omega
 exact key _ l rfl h
theorem pow256 {i:Nat} (h:i≤7):(256:Int) ^ i≤72057594037927936:=by
 obtain rfl|rfl|rfl|rfl|rfl|rfl|rfl|rfl:i=0 ∨ i=1 ∨ i=2 ∨ i=3 ∨ i=4 ∨ i=5 ∨ i=6 ∨ i=7:=by omega
 all_goals decide
theorem wraps_u64 (n:Int) (h0:0≤n) (h1:n < 2 ^ 64):IntKind.u64.wrap n=n:=by
 simp [IntKind.wrap,IntKind.bits,IntKind.signed]
 omega
theorem or_u64 {y c:Int} (h0:0≤y) (h1:y < 18446744073709551616) (hm:y % 256=0) (c0:0≤c) (c1:c < 256):bits .or .u64 y c=y + c :=
 bits_join .u64 64 (by decide) wraps_u64 8 y c h0 hm h1 c0 c1 (by omega)
theorem or_i64 {y c:Int} (h0:-9223372036854775808≤y) (h1:y < 9223372036854775808) (hm:y % 256=0) (c0:0≤c) (c1:c < 256):bits .or .i64 y c=y + c:=by
 obtain ⟨b,rfl⟩:=Int.eq_ofNat_of_zero_le c0
 have hb:b < 256:=by omega
 obtain ⟨a,ha⟩:∃ a:Nat,y % 18446744073709551616=(a:Int):=Int.eq_ofNat_of_zero_le (by omega)
 have ha2:a < 18446744073709551616:=by omega
 have ham:a % 2 ^ 8=0:=by omega
 have e1:(BitVec.ofInt 64 y).toNat=a:=by
  rw [BitVec.toNat_ofInt]
  have:y % ((2 ^ 64:Nat):Int)=(a:Int):=ha
  rw [this]
  rfl
 have e2:(BitVec.ofInt 64 (b:Int)).toNat=b:=by
  rw [BitVec.ofInt_natCast,BitVec.toNat_ofNat]
  exact Nat.mod_eq_of_lt (by omega)
 have hor:a ||| b=a + b:=by
  have hq:a=2 ^ 8 * (a / 2 ^ 8):=by have:=Nat.div_add_mod a (2 ^ 8);omega
  rw [hq]
  exact (Nat.two_pow_add_eq_or_of_lt (by omega) (a / 2 ^ 8)).symm
 have hbits:bits .or .i64 y (b:Int)=IntKind.i64.wrap (((a ||| b:Nat)):Int):=by
  have e3:(BitVec.ofInt 64 y ||| BitVec.ofInt 64 (b:Int)).toNat=a ||| b:=by rw [BitVec.toNat_or,e1,e2]
  show IntKind.i64.wrap ((BitVec.ofInt 64 y ||| BitVec.ofInt 64 (b:Int)).toNat:Int)=_
  rw [e3]
 rw [hbits,hor,IntKind.wrap_i64]
 omega
theorem rd_take {l:List Int} {i:Nat} (h:i < l.length):l.take (i + 1)=l.take i++[rd l (i:Int)]:=by
 rw [List.take_succ_eq_append_getElem h]
 congr 1
 unfold rd
 rw [Int.toNat_natCast,List.getD_eq_getElem?_getD,List.getElem?_eq_getElem h]
 rfl
theorem gather_u64.ev_l (l:List Int) (hb:IsBytes l) (h8:l.length≤8):∀ n (i:Nat),l.length≤i + n→i≤l.length→Ev (fun k => wire_gather_uint64.l0 k (beV (l.take i)) l (l.length:Int) (i:Int)) (beV l):=by
 have stop:∀ i:Nat,i=l.length→Ev (fun k => wire_gather_uint64.l0 k (beV (l.take i)) l (l.length:Int) (i:Int)) (beV l):=by
  intro i hi
  refine Ev.step (f:=fun _ => some (beV (l.take i))) (fun k => by simp only [wire_gather_uint64.l0];rw [if_neg (by omega)]) ?_
  rw [hi,List.take_length]
  exact Ev.now _
 intro n
 induction n with
 | zero => intro i h hi;exact stop i (by omega)
 | succ n ih =>
  intro i h hi
  by_cases hlt:i < l.length
  ·have hA:l.length≤i + 1 + n:=by omega
   have hB:i + 1≤l.length:=by omega
   have hC:(i:Int) < (l.length:Int):=by omega
   have hD:(0:Int)≤(i:Int):=by omega
   have hr:=beV_range (l.take i) (hb.take i)
   rw [List.length_take,Nat.min_eq_left (by omega)] at hr
   have hp:=pow256 (i:=i) (by omega)
   have hc:=rd_byte hb (i:Int)
   have e1:IntKind.u64.wrap (beV (l.take i) * 256)=beV (l.take i) * 256:=wraps_u64 _ (by omega) (by omega)
   have e2:IntKind.u64.wrap (rd l (i:Int))=rd l (i:Int):=wraps_u64 _ hc.1 (by omega)
   have e3:bits .or .u64 (beV (l.take i) * 256) (rd l (i:Int))=beV (l.take (i + 1)):=by
    rw [or_u64 (by omega) (by omega) (by omega) hc.1 hc.2,rd_take hlt,beV_snoc]
   have e4:wrap64 ((i:Int) + 1)=((i + 1:Nat):Int):=by unfold wrap64;omega
   refine Ev.step (f:=fun k => wire_gather_uint64.l0 k (beV (l.take (i + 1))) l (l.length:Int) ((i + 1:Nat):Int)) (fun k => ?_) (ih (i + 1) hA hB)
   simp only [wire_gather_uint64.l0]
   rw [if_pos hC,if_pos hD,if_pos hC,e1,e2,e3,e4]
  ·exact stop i (by omega)
theorem gather_u64.ev (l:List Int) (hb:IsBytes l) (h8:l.length≤8):Ev (fun k => wire_gather_uint64.f k l 0) (beV l):=gather_u64.ev_l l hb h8 l.length 0 (by omega) (by omega)
theorem gather_i64.ev_l (l:List Int) (hb:IsBytes l) (h7:l.length≤7) (s:Int) (s0:-128≤s) (s1:s < 128):∀ n (i:Nat),l.length≤i + n→i≤l.length→Ev (fun k => wire_gather_int64.l0 k (s * 256 ^ i + beV (l.take i)) l (l.length:Int) (i:Int)) (s * 256 ^ l.length + beV l):=by
 have stop:∀ i:Nat,i=l.length→Ev (fun k => wire_gather_int64.l0 k (s * 256 ^ i + beV (l.take i)) l (l.length:Int) (i:Int)) (s * 256 ^ l.length + beV l):=by
  intro i hi
  refine Ev.step (f:=fun _ => some (s * 256 ^ i + beV (l.take i))) (fun k => by simp only [wire_gather_int64.l0];rw [if_neg (by omega)]) ?_
  rw [hi,List.take_length]
  exact Ev.now _
 intro n
 induction n with
 | zero => intro i h hi;exact stop i (by omega)
 | succ n ih =>
  intro i h hi
  by_cases hlt:i < l.length
  ·have hA:l.length≤i + 1 + n:=by omega
   have hB:i + 1≤l.length:=by omega
   have hC:(i:Int) < (l.length:Int):=by omega
   have hD:(0:Int)≤(i:Int):=by omega
   have hr:=beV_range (l.take i) (hb.take i)
   rw [List.length_take,Nat.min_eq_left (by omega)] at hr
   have hp:1≤(256:Int) ^ i∧(256:Int) ^ i≤281474976710656:=by
    obtain rfl|rfl|rfl|rfl|rfl|rfl|rfl:i=0 ∨ i=1 ∨ i=2 ∨ i=3 ∨ i=4 ∨ i=5 ∨ i=6:=by omega
    all_goals decide
   have hs:-128 * 256 ^ i≤s * 256 ^ i∧s * 256 ^ i≤127 * 256 ^ i :=
    ⟨Int.mul_le_mul_of_nonneg_right s0 (by omega),Int.mul_le_mul_of_nonneg_right (by omega) (by omega)⟩
   have hc:=rd_byte hb (i:Int)
   have e1:wrap64 ((s * 256 ^ i + beV (l.take i)) * 256)=(s * 256 ^ i + beV (l.take i)) * 256:=by unfold wrap64;omega
   have e2:wrap64 (rd l (i:Int))=rd l (i:Int):=by unfold wrap64;omega
   have e3:bits .or .i64 ((s * 256 ^ i + beV (l.take i)) * 256) (rd l (i:Int))=s * 256 ^ (i + 1) + beV (l.take (i + 1)):=by
    rw [or_i64 (by omega) (by omega) (by omega) hc.1 hc.2,rd_take hlt,beV_snoc,Int.pow_succ,← Int.mul_assoc]
    omega
   have e4:wrap64 ((i:Int) + 1)=((i + 1:Nat):Int):=by unfold wrap64;omega
   refine Ev.step (f:=fun k => wire_gather_int64.l0 k (s * 256 ^ (i + 1) + beV (l.take (i + 1))) l (l.length:Int) ((i + 1:Nat):Int)) (fun k => ?_) (ih (i + 1) hA hB)
   simp only [wire_gather_int64.l0]
   rw [if_pos hC,if_pos hD,if_pos hC,e1,e2,e3,e4]
  ·exact stop i (by omega)
theorem gather_i64.ev (l:List Int) (hb:IsBytes l) (h7:l.length≤7) (s:Int) (s0:-128≤s) (s1:s < 128):Ev (fun k => wire_gather_int64.f k l s) (s * 256 ^ l.length + beV l):=by
 have h:=gather_i64.ev_l l hb h7 s s0 s1 l.length 0 (by omega) (by omega)
 have e:s * 256 ^ 0 + beV (l.take 0)=s:=by simp [beV]
 rw [e] at h
 exact h
theorem rdL_bytes {bs:List Int} (h:IsBytes bs) (p n:Nat):IsBytes (rdL bs p n):=by
 unfold rdL
 split
 ·exact (h.take _).drop _
 ·intro x hx;cases hx
theorem rdL_le (bs:List Int) (p n:Nat):(rdL bs p n).length≤n:=by
 unfold rdL
 split
 ·rw [List.length_drop,List.length_take];omega
 ·exact Nat.zero_le _
theorem beV_cons (b:Int) (l:List Int):beV (b :: l)=b * 256 ^ l.length + beV l:=by
 have key:∀ (l:List Int) (x:Int),l.foldl (fun x c => x * 256 + c) x=x * 256 ^ l.length + beV l:=by
  intro l
  induction l with
  | nil => intro x;simp [beV]
  | cons c l ih =>
   intro x
   rw [List.foldl_cons,ih]
   have e:beV (c :: l)=(0 * 256 + c) * 256 ^ l.length + beV l:=by unfold beV;rw [List.foldl_cons,ih];rfl
   rw [e,List.length_cons,Int.pow_succ,Int.add_mul,Int.zero_mul,Int.zero_add,Int.mul_assoc x 256,Int.mul_comm 256,Int.add_assoc]
 have h:=key l (0 * 256 + b)
 unfold beV
 rw [List.foldl_cons,h]
 simp [beV]
def intV (l:List Int):Int:=if rd l 0 < 128 then beV l else beV l - 256 ^ l.length
theorem uint.ev (bs:List Int) (hb:IsBytes bs) (p n:Nat) (h8:n≤8):Ev (fun k => rd_Uint.f k bs p n) (beV (rdL bs p n),rdE bs p n,rdP bs p n):=by
 have:=rdL_le bs p n
 exact Ev.bind (gather_u64.ev _ (rdL_bytes hb p n) (by omega)) (Ev.now _)
def iV (bs:List Int) (p n:Nat):Int × Int × Nat:=if p + n≤bs.length then (intV (rdL bs p n),0,p + n) else (0,3,p)
theorem intV_cons (b:Int) (t:List Int):(if b < 128 then b else b - 256) * 256 ^ t.length + beV t=intV (b :: t):=by
 have h0:rd (b :: t) 0=b:=rfl
 unfold intV
 rw [h0,beV_cons,List.length_cons,Int.pow_succ]
 split
 ·rfl
 ·rw [Int.sub_mul,Int.mul_comm _ 256];omega
theorem int.ev (bs:List Int) (hb:IsBytes bs) (p n:Nat) (h1:1≤n) (h8:n≤8):Ev (fun k => rd_Int.f k bs p n) (iV bs p n):=by
 unfold rd_Int.f iV
 by_cases h:p + n≤bs.length
 ·have hl:=rdL_len h
  have hbb:=rdL_bytes hb p n
  generalize rdL bs p n=l at hl hbb
  rw [if_pos h]
  cases l with
  | nil => simp at hl;omega
  | cons b t =>
   have hc:=hbb b (List.mem_cons_self)
   have h0:rd (b :: t) 0=b:=rfl
   rw [h0]
   refine Ev.congr (fun k => (if_pos h).trans (if_pos hc)) ?_
   rw [sx8_eq hc.1 hc.2,← intV_cons]
   refine Ev.bind (gather_i64.ev t (fun x hx => hbb x (List.mem_cons_of_mem _ hx)) (by simp at hl;omega) _ (by split <;> omega) (by split <;> omega)) (Ev.now _)
 ·rw [if_neg h]
  exact Ev.congr (fun k => if_neg h) (Ev.now _)
end Go.Proofs.YtglnhkgodgjepaaDoor.Px
namespace Go.Proofs.YtglnhkgodgjepaaDoor.Px
open Go.RowKit Go.Proofs.YtglnhkgodgjepaaDoorW.PrintWords Go.Proofs.YtglnhkgodgjepaaDoorW.PrintLast Go.Proofs.YtglnhkgodgjepaaDoorW.PrintMore
set_option linter.unusedVariables false
set_option linter.unusedSimpArgs false
def utf8L (v:Int):List Int :=
 if v < 128 then [v] else if v < 2048 then [192 + v / 64,128 + v % 64] else if v < 65536 then [224 + v / 4096,128 + v / 64 % 64,128 + v % 64]
 else [240 + v / 262144,128 + v / 4096 % 64,128 + v / 64 % 64,128 + v % 64]
theorem utf8L_len (v:Int):(utf8L v).length≤4:=by
 unfold utf8L
 split
 ·simp
 ·split
  ·simp
  ·split <;> simp
theorem utf8_AppendRune.ev (o:List Int) (v:Int) (h0:0≤v) (h1:v≤1114111) (hs:v < 55296 ∨ 57344≤v) (ho:o.length + 4 < 140737488355328):Ev (fun k => utf8_AppendRune.f k o v) (o++utf8L v):=by
 refine ⟨1,fun k hk => ?_⟩
 obtain ⟨k,rfl⟩:∃ m,k=m + 1:=⟨k - 1,by omega⟩
 show utf8_AppendRune.f (k + 1) o v=_
 unfold utf8_AppendRune.f utf8L
 rw [show v % 4294967296=v by omega]
 by_cases c1:v≤127
 ·rw [if_pos c1,if_pos (by omega),if_pos (by omega),show v % 256=v by omega]
 ·rw [if_neg c1,if_neg (by omega)]
  unfold utf8_appendRuneNonASCII.f
  rw [show v % 4294967296=v by omega]
  by_cases c2:v≤2047
  ·rw [if_pos c2,if_pos (by omega),Option.bind_some,if_pos (by simp;omega),show v / 64 % 256=v / 64 by omega,u8_or192 _ (by omega) (by omega)]
   rfl
  ·rw [if_neg c2,if_neg (show ¬ v < 2048 by omega)]
   have key3:v < 65536→utf8_appendRuneNonASCII.j0 (k + 1) o v v true=some (o++[224 + v / 4096,128 + v / 64 % 64,128 + v % 64]):=by
    intro h
    simp only [utf8_appendRuneNonASCII.j0,if_true]
    rw [Option.bind_some,if_pos (by simp;omega),show v / 4096 % 256=v / 4096 by omega,u8_or224 _ (by omega) (by omega)]
   have key4:65536≤v→utf8_appendRuneNonASCII.j0 (k + 1) o v v false=some (o++[240 + v / 262144,128 + v / 4096 % 64,128 + v / 64 % 64,128 + v % 64]):=by
    intro h
    simp only [utf8_appendRuneNonASCII.j0,Bool.false_eq_true,if_false]
    rw [if_pos (by omega),if_pos (by omega),Option.bind_some,if_pos (by simp;omega),show v / 262144 % 256=v / 262144 by omega,u8_or240 _ (by omega) (by omega)]
   by_cases c3:v < 55296
   ·rw [if_pos c3,decide_eq_true c3,key3 (by omega),if_pos (by omega)]
    rfl
   ·rw [if_neg c3,if_pos (by omega)]
    by_cases c4:v≤65535
    ·rw [decide_eq_true c4,key3 (by omega),if_pos (by omega)]
     rfl
    ·rw [decide_eq_false c4,key4 (by omega),if_neg (by omega)]
     rfl
def pairN (a u:Int):Int:=65536 + (a - 55296) * 1024 + (u - 56320)
abbrev badV:ByteArray × Int:=((⟨#[]⟩:ByteArray),20)
def decV:Nat→List Int→List Int→ByteArray × Int
 | 0,_,_ => badV
 | n + 1,L,o =>
  if L=[] then (strOfNums o,0)
  else match takeV L with
   | none => badV
   | some (v,m) =>
    if 56320≤v∧v≤57343 then badV
    else if v < 55296 ∨ 56319 < v then decV n (L.drop m) (o++utf8L v)
    else if L.drop m=[] then badV
    else match takeV (L.drop m) with
     | none => badV
     | some (u,q) => if 56320≤u∧u≤57343 then decV n ((L.drop m).drop q) (o++utf8L (pairN v u)) else badV
theorem takeV_ok {L:List Int} (hL:IsBytes L) {v:Int} {m:Nat} (h:takeV L=some (v,m)):0≤v∧v < 65536∧1≤m∧m≤3∧m≤L.length:=by
 have h0:=rd_byte hL 0
 have h1:=rd_byte hL 1
 have h2:=rd_byte hL 2
 have hl:1≤rd L 0→1≤L.length:=by
  intro hh
  cases L with
  | nil => simp [rd] at hh
  | cons a t => simp
 unfold takeV V2 V3 at h
 split at h
 ·cases h;omega
 ·split at h
  ·cases h;omega
  ·split at h
   ·cases h;omega
   ·cases h
theorem takeV_len {L:List Int} (hL:IsBytes L) {v:Int} {m:Nat} (h:takeV L=some (v,m)):(utf8L v).length≤m∧(2048≤v→m=3):=by
 have h0:=rd_byte hL 0
 have h1:=rd_byte hL 1
 have h2:=rd_byte hL 2
 unfold takeV V2 V3 at h
 unfold utf8L
 split at h
 ·cases h
  rw [if_pos (by omega)]
  exact ⟨Nat.le_refl _,by omega⟩
 ·split at h
  ·cases h
   refine ⟨?_,by omega⟩
   split
   ·simp
   ·rw [if_pos (by omega)];simp
  ·split at h
   ·cases h
    refine ⟨?_,fun _ => rfl⟩
    rw [if_neg (by omega),if_neg (by omega),if_pos (by omega)]
    simp
   ·cases h
theorem len_pos {L:List Int} (h:L ≠ []):0 < L.length:=List.length_pos_iff.2 h
theorem text_Decode.ev_l:∀ (n:Nat) (L o:List Int),IsBytes L→L.length < n→o.length + L.length + 8 < 140737488355328→Ev (fun k => text_Decode.l0 k L 0 o) (decV n L o):=by
 intro n
 induction n with
 | zero => intro L o _ h;omega
 | succ n ih =>
  intro L o hL hn ho
  simp only [decV]
  have hround:∀ (L:List Int) (a:Int),0 < L.length→∀ k,text_Decode.l0 (k + 1) L a o=(text_next.f k L).bind fun t =>
    if t.2.1=true then
     (if ((decide (56320≤t.1) && decide (t.1 < 57344)) != (a != 0))=true then some badV
     else if (a != 0)=true then (utf8_AppendRune.f k o (pairV a t.1)).bind fun o1 => text_Decode.l0 k (L.drop t.2.2) 0 o1
     else if (decide (55296≤t.1) && decide (t.1 < 56320))=true then text_Decode.l0 k (L.drop t.2.2) t.1 o
     else (utf8_AppendRune.f k o t.1).bind fun o1 => text_Decode.l0 k (L.drop t.2.2) a o1)
    else some badV:=by
   intro L a hp k
   simp only [text_Decode.l0]
   rw [if_pos hp]
  by_cases he:L=[]
  ·subst he
   refine Ev.step (f:=fun _ => some (strOfNums o,0)) (fun k => ?_) (Ev.now _)
   simp [text_Decode.l0]
  ·have hp:=len_pos he
   rw [if_neg he]
   obtain ⟨x,y,ht⟩:=text_next.ev L hL hp
   refine Ev.step (hround L 0 hp) ?_
   refine Ev.bind ht ?_
   cases e:takeV L with
   | none => simp only [Bool.false_eq_true,if_false];exact Ev.now _
   | some p =>
    obtain ⟨v,m⟩:=p
    obtain ⟨v0,v1,m1,m3,ml⟩:=takeV_ok hL e
    have hd:(L.drop m).length=L.length - m:=List.length_drop
    simp only [if_true]
    have ha:((0:Int) != 0)=false:=rfl
    simp only [ha,Bool.false_eq_true,if_false]
    by_cases c1:56320≤v∧v≤57343
    ·rw [if_pos c1]
     refine Ev.congr (f:=fun _ => some badV) (fun k => ?_) (Ev.now _)
     rw [if_pos (by rw [decide_eq_true c1.1,decide_eq_true (show v < 57344 by omega)];rfl)]
    ·rw [if_neg c1]
     have hlow:(decide (56320≤v) && decide (v < 57344))=false:=by
      by_cases c:56320≤v
      ·rw [decide_eq_false (show ¬ v < 57344 by omega),Bool.and_false]
      ·rw [decide_eq_false c,Bool.false_and]
     have hne:¬ ((decide (56320≤v) && decide (v < 57344)) != false)=true:=by rw [hlow];decide
     by_cases c2:v < 55296 ∨ 56319 < v
     ·rw [if_pos c2]
      have hhi:¬ (decide (55296≤v) && decide (v < 56320))=true:=by
       rw [Bool.and_eq_true,decide_eq_true_eq,decide_eq_true_eq];omega
      have hu:=(takeV_len hL e).1
      refine Ev.congr (f:=fun k => (utf8_AppendRune.f k o v).bind fun o1 => text_Decode.l0 k (L.drop m) 0 o1) (fun k => (if_neg hne).trans (if_neg hhi)) ?_
      exact Ev.bind (utf8_AppendRune.ev o v v0 (by omega) (by omega) (by omega)) (ih _ _ (hL.drop m) (by omega) (by rw [List.length_append];omega))
     ·rw [if_neg c2]
      have hhi:(decide (55296≤v) && decide (v < 56320))=true:=by
       rw [Bool.and_eq_true,decide_eq_true_eq,decide_eq_true_eq];omega
      refine Ev.congr (f:=fun k => text_Decode.l0 k (L.drop m) v o) (fun k => (if_neg hne).trans (if_pos hhi)) ?_
      have hv:(v != 0)=true:=bne_iff_ne.mpr (by omega)
      by_cases c3:L.drop m=[]
      ·rw [if_pos c3,c3]
       refine Ev.step (f:=fun _ => some badV) (fun k => ?_) (Ev.now _)
       simp only [text_Decode.l0]
       rw [if_neg (by simp),if_pos hv]
      ·rw [if_neg c3]
       have hp2:=len_pos c3
       obtain ⟨x2,y2,ht2⟩:=text_next.ev _ (hL.drop m) hp2
       refine Ev.step (hround (L.drop m) v hp2) ?_
       refine Ev.bind ht2 ?_
       cases e2:takeV (L.drop m) with
       | none => simp only [Bool.false_eq_true,if_false];exact Ev.now _
       | some p =>
        obtain ⟨u,q⟩:=p
        obtain ⟨u0,u1,q1,q3,ql⟩:=takeV_ok (hL.drop m) e2
        simp only [if_true,hv]
        by_cases c4:56320≤u∧u≤57343
        ·rw [if_pos c4]
         have hw:pairV v u=pairN v u:=by
          unfold pairV pairN
          rw [w32 (x:=v - 55296) (by omega) (by omega),w32 (x:=(v - 55296) * 1024) (by omega) (by omega),w32 (x:=65536 + (v - 55296) * 1024) (by omega) (by omega),w32 (x:=65536 + (v - 55296) * 1024 + u) (by omega) (by omega),w32 (by omega) (by omega)]
          omega
         have hr:65536≤pairN v u∧pairN v u≤1114111:=by unfold pairN;omega
         have hu:=utf8L_len (pairN v u)
         have hm3:=(takeV_len hL e).2 (by omega)
         have hq3:=(takeV_len (hL.drop m) e2).2 (by omega)
         have hd2:((L.drop m).drop q).length=L.length - m - q:=by rw [List.length_drop,hd]
         have hl2:¬ ((decide (56320≤u) && decide (u < 57344)) != true)=true:=by
          rw [decide_eq_true c4.1,decide_eq_true (show u < 57344 by omega)];decide
         refine Ev.congr (f:=fun k => (utf8_AppendRune.f k o (pairN v u)).bind fun o1 => text_Decode.l0 k ((L.drop m).drop q) 0 o1) (fun k => by rw [if_neg hl2,hw]) ?_
         exact Ev.bind (utf8_AppendRune.ev o _ (by omega) (by omega) (by omega) (by omega)) (ih _ _ ((hL.drop m).drop q) (by omega) (by rw [List.length_append];omega))
        ·rw [if_neg c4]
         have hl2:((decide (56320≤u) && decide (u < 57344)) != true)=true:=by
          by_cases c:56320≤u
          ·rw [decide_eq_false (show ¬ u < 57344 by omega),Bool.and_false];rfl
          ·rw [decide_eq_false c,Bool.false_and];rfl
         exact Ev.congr (fun k => if_pos hl2) (Ev.now _)
def DecV (L:List Int):ByteArray × Int:=decV (L.length + 1) L []
theorem text_Decode.ev (L:List Int) (hL:IsBytes L) (h:L.length≤140737488351232):Ev (fun k => text_Decode.f k L) (DecV L):=text_Decode.ev_l _ L [] hL (by omega) (by simp;omega)
theorem bytes_of_wf {l:List Int} (h:∀ x ∈ l,(Lit.int .u8 x).wf=true):IsBytes l:=by
 intro x hx
 have h1:=h x hx
 simp [Lit.wf,IntKind.min,IntKind.max,IntKind.bits,IntKind.signed] at h1
 omega
end Go.Proofs.YtglnhkgodgjepaaDoor.Px
namespace Go.Proofs.YtglnhkgodgjepaaDoor.Px
open Go.RowKit Go.Proofs.YtglnhkgodgjepaaDoorW.PrintWords Go.Proofs.YtglnhkgodgjepaaDoorW.PrintLast Go.Proofs.YtglnhkgodgjepaaDoorW.PrintMore
set_option linter.unusedVariables false
set_option linter.unusedSimpArgs false
theorem text_Encode.ev_one (b:List Int) (c:Int) (h0:0≤c) (h1:c≤1114111) (hb:b.length + 6 < 140737488355328):Ev (fun k => text_Encode.one k b c) (b++cuL c):=by
 unfold text_Encode.one text_split.f cuL
 by_cases hc:c < 65536
 ·refine Ev.congr (f:=fun k => text_unit.f k b c) (fun k => ?_) (by rw [if_pos hc];exact text_unit.ev b c h0 hc (by omega))
  simp only [if_pos hc,Option.bind_some,if_true]
 ·have e1:wrap32 (c - 65536)=c - 65536:=w32 (by omega) (by omega)
  have e2:bits .and .i32 (c - 65536) 1023=(c - 65536) % 1024:=bits_mask .i32 31 (by decide) wraps_i32 10 (by decide) _ (by omega) (by omega)
  have e3:wrap32 (55296 + (c - 65536) / 1024)=55296 + (c - 65536) / 1024:=w32 (by omega) (by omega)
  have e4:wrap32 (56320 + (c - 65536) % 1024)=56320 + (c - 65536) % 1024:=w32 (by omega) (by omega)
  have hl:=unitL_len (55296 + (c - 65536) / 1024)
  refine Ev.congr (f:=fun k => (text_unit.f k b (55296 + (c - 65536) / 1024)).bind fun b1 => text_unit.f k b1 (56320 + (c - 65536) % 1024)) (fun k => ?_) ?_
  ·simp only [if_neg hc,Option.bind_some,e1,e2,e3,e4]
   rw [if_neg (by omega)]
  rw [if_neg hc,← List.append_assoc]
  exact Ev.bind (text_unit.ev b _ (by omega) (by omega) (by omega)) (text_unit.ev _ _ (by omega) (by omega) (by rw [List.length_append];omega))
def encGo:Nat→List UInt8→List Int
 | 0,_ => []
 | f + 1,l => if l=[] then [] else cuL ((Lib.decodeL l).1:Int)++encGo f (l.drop (Lib.decodeL l).2)
def encL (l:List UInt8):List Int:=encGo l.length l
theorem encGo_fuel:∀ n m (l:List UInt8),l.length≤n→l.length≤m→encGo n l=encGo m l
 | 0,m,l,hn,_ => by
  have:l=[]:=List.length_eq_zero_iff.1 (by omega)
  subst this
  cases m <;> simp [encGo]
 | n + 1,0,l,_,hm => by
  have:l=[]:=List.length_eq_zero_iff.1 (by omega)
  subst this
  simp [encGo]
 | n + 1,m + 1,l,hn,hm => by
  unfold encGo
  by_cases hne:l=[]
  ·simp [hne]
  ·have hw:=Lib.decodeL_width l
   have hl:0 < l.length:=List.length_pos_iff.2 hne
   rw [if_neg hne,if_neg hne,encGo_fuel n m (l.drop (Lib.decodeL l).2) (by rw [List.length_drop];omega) (by rw [List.length_drop];omega)]
theorem encL_nil:encL []=[]:=rfl
theorem encL_step (l:List UInt8) (hne:l ≠ []):encL l=cuL ((Lib.decodeL l).1:Int)++encL (l.drop (Lib.decodeL l).2):=by
 have hl:0 < l.length:=List.length_pos_iff.2 hne
 have hw:=Lib.decodeL_width l
 obtain ⟨n,hn⟩:∃ n,l.length=n + 1:=⟨l.length - 1,by omega⟩
 unfold encL
 rw [hn]
 show (if l=[] then [] else _)=_
 rw [if_neg hne,encGo_fuel n (l.drop (Lib.decodeL l).2).length _ (by rw [List.length_drop];omega) (Nat.le_refl _)]
theorem text_Encode.ev_l (s:ByteArray) (hs:s.size≤1099511627776):∀ n p b,s.size - p≤n→b.length≤6 * p→Ev (fun k => text_Encode.l0 k s p b) (b++encL (s.data.toList.drop p),0)
 | 0,p,b,hn,hb => by
  refine Ev.step (f:=fun _ => some (b,0)) (fun k => ?_) ?_
  ·simp only [text_Encode.l0];rw [if_neg (by omega)]
  ·have:s.data.toList.drop p=[]:=List.drop_eq_nil_of_le (by rw [← Lib.size_eq];omega)
   rw [this,encL_nil,List.append_nil]
   exact Ev.now _
 | n + 1,p,b,hn,hb => by
  by_cases hp:p < s.size
  ·have hw:=text_Encode.width s p hp
   have hd:Lib.decodeL (s.data.toList.drop p)=Utf8.decode s p:=Lib.decodeL_drop s p
   have hr:=Lib.decodeL_rune (s.data.toList.drop p)
   have hne:s.data.toList.drop p ≠ []:=by
    intro e
    have:=congrArg List.length e
    rw [List.length_drop,← Lib.size_eq] at this
    simp at this
    omega
   rw [hd] at hr
   have h6:=cuL_len ((Utf8.decode s p).1:Int)
   have hwl:=decode_le s p
   refine Ev.step (f:=fun k => (text_Encode.one k b ((Utf8.decode s p).1:Int)).bind fun b1 => text_Encode.l0 k s (p + (Utf8.decode s p).2) b1) (fun k => ?_) ?_
   ·simp only [text_Encode.l0];rw [if_pos hp]
   ·rw [encL_step _ hne,hd,List.drop_drop,← List.append_assoc]
    exact Ev.bind (text_Encode.ev_one b _ (by omega) (by omega) (by omega)) (text_Encode.ev_l s hs n _ _ (by omega) (by rw [List.length_append];omega))
  ·refine Ev.step (f:=fun _ => some (b,0)) (fun k => ?_) ?_
   ·simp only [text_Encode.l0];rw [if_neg hp]
   ·have:s.data.toList.drop p=[]:=List.drop_eq_nil_of_le (by rw [← Lib.size_eq];omega)
    rw [this,encL_nil,List.append_nil]
    exact Ev.now _
def encV (s:ByteArray):List Int × Int:=if Lib.validD s.data.toList=true then (encL s.data.toList,0) else ([],20)
theorem text_Encode.ev (s:ByteArray) (hs:s.size≤1099511627776):Ev (fun k => text_Encode.f k s) (encV s):=by
 unfold text_Encode.f encV
 by_cases hv:Lib.validD s.data.toList=true
 ·refine Ev.congr (f:=fun k => text_Encode.l0 k s 0 []) (fun k => by rw [if_pos (by omega),if_pos hv]) ?_
  rw [if_pos hv]
  have:=text_Encode.ev_l s hs s.size 0 [] (by omega) (by simp)
  simpa using this
 ·refine Ev.congr (f:=fun k => some ([],20)) (fun k => by rw [if_pos (by omega),if_neg hv]) ?_
  rw [if_neg hv]
  exact Ev.now _
end Go.Proofs.YtglnhkgodgjepaaDoor.Px
namespace Go.Proofs.YtglnhkgodgjepaaDoor.Px
open Go.RowKit Go.Proofs.YtglnhkgodgjepaaDoorW.PrintWords Go.Proofs.YtglnhkgodgjepaaDoorW.PrintLast Go.Proofs.YtglnhkgodgjepaaDoorW.PrintMore
set_option linter.unusedVariables false
set_option linter.unusedSimpArgs false
abbrev B8 (x:Int):UInt8:=UInt8.ofNat x.toNat
theorem takeV_unit (v:Int) (h0:0≤v) (h1:v < 65536) (R:List Int):takeV (unitL v++R)=some (v,(unitL v).length):=by
 unfold unitL
 by_cases c1:1≤v∧v≤127
 ·rw [if_pos c1]
  unfold takeV
  simp only [List.cons_append,List.nil_append]
  rw [show rd (v :: R) 0=v from rfl,if_pos c1]
  rfl
 ·rw [if_neg c1]
  by_cases c2:v≤2047
  ·rw [if_pos c2]
   unfold takeV V2
   simp only [List.cons_append,List.nil_append]
   rw [show rd ((192 + v / 64) :: (128 + v % 64) :: R) 0=192 + v / 64 from rfl,show rd ((192 + v / 64) :: (128 + v % 64) :: R) 1=128 + v % 64 from rfl]
   rw [if_neg (by omega),if_pos ⟨by omega,by omega,by simp,by omega,by omega,by omega⟩]
   exact congrArg some (Prod.ext (show (192 + v / 64 - 192) * 64 + (128 + v % 64 - 128)=v by omega) rfl)
  ·rw [if_neg c2]
   unfold takeV V3 V2
   simp only [List.cons_append,List.nil_append]
   rw [show rd ((224 + v / 4096) :: (128 + v / 64 % 64) :: (128 + v % 64) :: R) 0=224 + v / 4096 from rfl,show rd ((224 + v / 4096) :: (128 + v / 64 % 64) :: (128 + v % 64) :: R) 1=128 + v / 64 % 64 from rfl,show rd ((224 + v / 4096) :: (128 + v / 64 % 64) :: (128 + v % 64) :: R) 2=128 + v % 64 from rfl]
   rw [if_neg (by omega),if_neg (by omega),if_pos ⟨by omega,by omega,by simp,by omega,by omega,by omega,by omega,by omega⟩]
   exact congrArg some (Prod.ext (show (224 + v / 4096 - 224) * 4096 + (128 + v / 64 % 64 - 128) * 64 + (128 + v % 64 - 128)=v by omega) rfl)
theorem unit_of_takeV {L:List Int} (hL:IsBytes L) {v:Int} {m:Nat} (h:takeV L=some (v,m)):L=unitL v++L.drop m:=by
 have h0:=rd_byte hL 0
 have h1:=rd_byte hL 1
 have h2:=rd_byte hL 2
 have hl:1≤rd L 0→0 < L.length:=by
  intro hh
  cases L with
  | nil => simp [rd] at hh
  | cons a t => simp
 have key:L.take m=unitL v:=by
  unfold takeV V2 V3 at h
  unfold unitL
  split at h
  ·cases h
   rw [if_pos (by assumption),take1 L (hl (by omega))]
  ·split at h
   ·cases h
    rw [if_neg (by omega),if_pos (by omega),take2 L (by omega)]
    simp only [List.cons.injEq,and_true]
    omega
   ·split at h
    ·cases h
     rw [if_neg (by omega),if_neg (by omega),take3 L (by omega)]
     simp only [List.cons.injEq,and_true]
     omega
    ·cases h
 rw [← key,List.take_append_drop]
theorem unitL_pos (v:Int):0 < (unitL v).length:=by unfold unitL;split <;> (try split) <;> simp
theorem unitL_ne (v:Int) (h0:0≤v) (h1:v < 65536):∀ x ∈ unitL v,x ≠ 0:=by
 intro x hx
 unfold unitL at hx
 split at hx
 ·simp only [List.mem_singleton] at hx;omega
 ·split at hx <;> simp only [List.mem_cons,List.not_mem_nil,or_false] at hx <;> omega
theorem cuL_ne (c:Int) (h0:0≤c) (h1:c≤1114111):∀ x ∈ cuL c,x ≠ 0:=by
 intro x hx
 unfold cuL at hx
 split at hx
 ·exact unitL_ne c h0 (by assumption) x hx
 ·rcases List.mem_append.1 hx with hx|hx
  ·exact unitL_ne _ (by omega) (by omega) x hx
  ·exact unitL_ne _ (by omega) (by omega) x hx
theorem cuL_bytes (c:Int) (h0:0≤c) (h1:c≤1114111):IsBytes (cuL c):=by
 intro x hx
 unfold cuL at hx
 split at hx
 ·exact unitL_bytes c h0 (by assumption) x hx
 ·rcases List.mem_append.1 hx with hx|hx
  ·exact unitL_bytes _ (by omega) (by omega) x hx
  ·exact unitL_bytes _ (by omega) (by omega) x hx
theorem encL_all:∀ n (l:List UInt8),l.length≤n→(∀ x ∈ encL l,x ≠ 0)∧IsBytes (encL l)
 | 0,l,h => by
  have:l=[]:=List.length_eq_zero_iff.1 (by omega)
  subst this
  exact ⟨fun x hx => by simp [encL_nil] at hx,fun x hx => by simp [encL_nil] at hx⟩
 | n + 1,l,h => by
  by_cases hne:l=[]
  ·subst hne;exact ⟨fun x hx => by simp [encL_nil] at hx,fun x hx => by simp [encL_nil] at hx⟩
  ·have hw:=Lib.decodeL_width l
   have hl:0 < l.length:=List.length_pos_iff.2 hne
   have ih:=encL_all n (l.drop (Lib.decodeL l).2) (by rw [List.length_drop];omega)
   have hr:=Lib.decodeL_rune l
   rw [encL_step l hne]
   refine ⟨fun x hx => ?_,fun x hx => ?_⟩
   ·rcases List.mem_append.1 hx with hx|hx
    ·exact cuL_ne _ (by omega) (by omega) x hx
    ·exact ih.1 x hx
   ·rcases List.mem_append.1 hx with hx|hx
    ·exact cuL_bytes _ (by omega) (by omega) x hx
    ·exact ih.2 x hx
theorem decodeL_scalar (l:List UInt8):(Lib.decodeL l).1 < 55296 ∨ 57344≤(Lib.decodeL l).1:=by
 rw [Lib.decodeL_N]
 have k0:=(l.getD 0 0).toNat_lt
 rcases Lib.decodeN_shape l.length (l.getD 0 0).toNat (l.getD 1 0).toNat (l.getD 2 0).toNat (l.getD 3 0).toNat with ⟨c,e⟩|⟨c1,c2,c3,cv,e⟩|⟨c1,c2,c3,c4,cv,cs,e⟩|⟨c1,c2,c3,c4,c5,cv,cw,e⟩|e
 all_goals (rw [e];dsimp only;omega)
theorem utf8L_eq (v:Int) (h0:0≤v) (h1:v≤1114111) (hs:v < 55296 ∨ 57344≤v):Lib.encodeRuneZ v=utf8L v:=by
 unfold utf8L
 by_cases c1:v < 128
 ·rw [if_pos c1,Lib.encodeRuneZ_one h0 (by omega)]
 ·rw [if_neg c1]
  by_cases c2:v < 2048
  ·rw [if_pos c2,Lib.encodeRuneZ_two (by omega) (by omega)]
  ·rw [if_neg c2]
   by_cases c3:v < 65536
   ·rw [if_pos c3,Lib.encodeRuneZ_three (by omega)]
   ·rw [if_neg c3,Lib.encodeRuneZ_four (by omega) h1]
theorem utf8L_bytes (v:Int) (h0:0≤v) (h1:v≤1114111):IsBytes (utf8L v):=by
 intro x hx
 unfold utf8L at hx
 split at hx
 ·simp only [List.mem_singleton] at hx;omega
 ·split at hx
  ·simp only [List.mem_cons,List.not_mem_nil,or_false] at hx;omega
  ·split at hx <;> simp only [List.mem_cons,List.not_mem_nil,or_false] at hx <;> omega
abbrev Nums (l:List UInt8):List Int:=l.map fun b => (b.toNat:Int)
theorem nums_B8 {xs:List Int} (h:IsBytes xs):Nums (xs.map B8)=xs:=by
 rw [Nums,List.map_map]
 refine (List.map_congr_left (fun x hx => ?_)).trans (List.map_id xs)
 have:=h x hx
 simp only [Function.comp,B8,UInt8.toNat_ofNat',id]
 rw [Nat.mod_eq_of_lt (by omega)]
 omega
theorem b8_nums (l:List UInt8):(Nums l).map B8=l:=by
 rw [Nums,List.map_map]
 refine (List.map_congr_left (fun x _ => ?_)).trans (List.map_id l)
 simp [Function.comp,B8]
theorem strOfNums_nums (s:ByteArray):strOfNums (Nums s.data.toList)=s:=by
 have e:(strOfNums (Nums s.data.toList)).data.toList=(Nums s.data.toList).map B8:=rfl
 rw [b8_nums] at e
 have e2:=congrArg List.toArray e
 simp only [Array.toArray_toList] at e2
 cases h:strOfNums (Nums s.data.toList)
 cases s
 rw [h] at e2
 exact congrArg ByteArray.mk e2
theorem take_utf8 (l:List UInt8) (hne:l ≠ []) (hv:¬ ((Lib.decodeL l).1=65533∧(Lib.decodeL l).2=1)):Nums (l.take (Lib.decodeL l).2)=utf8L ((Lib.decodeL l).1:Int):=by
 have hr:=Lib.decodeL_rune l
 have hs:=decodeL_scalar l
 rw [← Lib.encode_decode l hne hv]
 unfold Lib.encodeRune
 rw [utf8L_eq _ (by omega) (by omega) (by omega)]
 exact nums_B8 (utf8L_bytes _ (by omega) (by omega))
theorem dec_enc:∀ (n:Nat) (l:List UInt8) (o:List Int) (q:Nat),l.length≤n→Lib.validD l=true→(encL l).length < q→decV q (encL l) o=(strOfNums (o++Nums l),0):=by
 have base:∀ (o:List Int) (q:Nat),(encL []).length < q→decV q (encL []) o=(strOfNums (o++Nums []),0):=by
  intro o q hq
  obtain ⟨q,rfl⟩:∃ m,q=m + 1:=⟨q - 1,by omega⟩
  simp [decV,encL_nil]
 intro n
 induction n with
 | zero =>
  intro l o q h hv hq
  have:l=[]:=List.length_eq_zero_iff.1 (by omega)
  subst this
  exact base o q hq
 | succ n ih =>
  intro l o q h hv hq
  by_cases hne:l=[]
  ·subst hne;exact base o q hq
  have hl:0 < l.length:=List.length_pos_iff.2 hne
  have hw:=Lib.decodeL_width l
  have hr:=Lib.decodeL_rune l
  have hs:=decodeL_scalar l
  rw [Lib.validD_step l hne] at hv
  by_cases hbad:(Lib.decodeL l).1=65533∧(Lib.decodeL l).2=1
  ·rw [if_pos hbad] at hv;cases hv
  rw [if_neg hbad] at hv
  have ht:=take_utf8 l hne hbad
  have hN:Nums l=utf8L ((Lib.decodeL l).1:Int)++Nums (l.drop (Lib.decodeL l).2):=by
   rw [← ht]
   show _=(l.take _).map _++(l.drop _).map _
   rw [← List.map_append,List.take_append_drop]
  obtain ⟨q,rfl⟩:∃ m,q=m + 1:=⟨q - 1,by omega⟩
  rw [encL_step l hne] at hq ⊢
  rw [List.length_append] at hq
  obtain ⟨c,hc⟩:∃ c:Int,c=((Lib.decodeL l).1:Int):=⟨_,rfl⟩
  rw [← hc] at hq hN ⊢
  unfold cuL at hq ⊢
  by_cases h16:c < 65536
  ·rw [if_pos h16] at hq ⊢
   have hp:=unitL_pos c
   simp only [decV]
   rw [if_neg (fun e => absurd (congrArg List.length e) (by rw [List.length_append,List.length_nil];omega)),takeV_unit c (by omega) h16]
   simp only
   rw [if_neg (by omega),if_pos (by omega),List.drop_left,ih _ _ q (by rw [List.length_drop];omega) hv (by omega),hN,List.append_assoc]
  ·rw [if_neg h16] at hq ⊢
   have hp1:=unitL_pos (55296 + (c - 65536) / 1024)
   have hp2:=unitL_pos (56320 + (c - 65536) % 1024)
   rw [List.length_append] at hq
   simp only [decV]
   rw [List.append_assoc,if_neg (fun e => absurd (congrArg List.length e) (by rw [List.length_append,List.length_nil];omega)),takeV_unit _ (by omega) (by omega)]
   simp only
   rw [if_neg (by omega),if_neg (by omega),List.drop_left,if_neg (fun e => absurd (congrArg List.length e) (by rw [List.length_append,List.length_nil];omega)),takeV_unit _ (by omega) (by omega)]
   simp only
   rw [if_pos (by omega),List.drop_left,ih _ _ q (by rw [List.length_drop];omega) hv (by omega),hN,List.append_assoc]
   rw [show pairN (55296 + (c - 65536) / 1024) (56320 + (c - 65536) % 1024)=c by unfold pairN;omega]
theorem n8 (x:Int) (h0:0≤x) (h1:x < 256):((B8 x).toNat:Nat)=x.toNat:=by
 simp only [B8,UInt8.toNat_ofNat']
 rw [Nat.mod_eq_of_lt (by omega)]
theorem decodeL_utf8 (v:Int) (h0:0≤v) (h1:v≤1114111) (hs:v < 55296 ∨ 57344≤v) (R:List UInt8):Lib.decodeL ((utf8L v).map B8++R)=(v.toNat,(utf8L v).length):=by
 rw [Lib.decodeL_N]
 unfold utf8L
 by_cases c1:v < 128
 ·rw [if_pos c1]
  simp only [List.map_cons,List.map_nil,List.cons_append,List.nil_append,List.getD_cons_zero,List.length_cons,List.length_nil]
  unfold Lib.decodeN
  rw [n8 _ (by omega) (by omega),if_pos (by omega)]
 ·rw [if_neg c1]
  by_cases c2:v < 2048
  ·rw [if_pos c2]
   simp only [List.map_cons,List.map_nil,List.cons_append,List.nil_append,List.getD_cons_zero,List.getD_cons_succ,List.length_cons,List.length_nil]
   unfold Lib.decodeN
   rw [n8 _ (by omega) (by omega),n8 _ (by omega) (by omega),if_neg (by omega),if_pos (by omega),if_pos (by omega)]
   exact Prod.ext (show (192 + v / 64).toNat % 32 * 64 + (128 + v % 64).toNat % 64=v.toNat by omega) rfl
  ·rw [if_neg c2]
   by_cases c3:v < 65536
   ·rw [if_pos c3]
    simp only [List.map_cons,List.map_nil,List.cons_append,List.nil_append,List.getD_cons_zero,List.getD_cons_succ,List.length_cons,List.length_nil]
    unfold Lib.decodeN
    rw [n8 _ (by omega) (by omega),n8 _ (by omega) (by omega),n8 _ (by omega) (by omega),if_neg (by omega),if_neg (by omega),if_pos (by omega),if_pos (by omega)]
    exact Prod.ext (show (224 + v / 4096).toNat % 16 * 4096 + (128 + v / 64 % 64).toNat % 64 * 64 + (128 + v % 64).toNat % 64=v.toNat by omega) rfl
   ·rw [if_neg c3]
    simp only [List.map_cons,List.map_nil,List.cons_append,List.nil_append,List.getD_cons_zero,List.getD_cons_succ,List.length_cons,List.length_nil]
    unfold Lib.decodeN
    rw [n8 _ (by omega) (by omega),n8 _ (by omega) (by omega),n8 _ (by omega) (by omega),n8 _ (by omega) (by omega),if_neg (by omega),if_neg (by omega),if_neg (by omega),if_pos (by omega),if_pos (by omega)]
    exact Prod.ext (show (240 + v / 262144).toNat % 8 * 262144 + (128 + v / 4096 % 64).toNat % 64 * 4096 + (128 + v / 64 % 64).toNat % 64 * 64 + (128 + v % 64).toNat % 64=v.toNat by omega) rfl
theorem utf8L_pos (v:Int):0 < (utf8L v).length:=by unfold utf8L;split <;> (try split) <;> (try split) <;> simp
theorem step_utf8 (v:Int) (h0:0≤v) (h1:v≤1114111) (hs:v < 55296 ∨ 57344≤v) (R:List UInt8):Lib.validD ((utf8L v).map B8++R)=Lib.validD R∧encL ((utf8L v).map B8++R)=cuL v++encL R:=by
 have hd:=decodeL_utf8 v h0 h1 hs R
 have hne:(utf8L v).map B8++R ≠ []:=by
  intro e
  have e1:=congrArg List.length e
  have e2:=utf8L_pos v
  rw [List.length_append,List.length_map,List.length_nil] at e1
  omega
 have hlen:((utf8L v).map B8).length=(utf8L v).length:=List.length_map ..
 rw [Lib.validD_step _ hne,encL_step _ hne,hd]
 dsimp only
 have hdrop:((utf8L v).map B8++R).drop (utf8L v).length=R:=by rw [← hlen,List.drop_left]
 rw [hdrop]
 refine ⟨if_neg ?_,by rw [Int.toNat_of_nonneg h0]⟩
 rintro ⟨e1,e2⟩
 unfold utf8L at e2
 rw [if_neg (by omega),if_neg (by omega),if_pos (by omega)] at e2
 simp at e2
theorem enc_dec:∀ (n:Nat) (L o:List Int) (t:ByteArray),IsBytes L→decV n L o=(t,0)→∃ X:List Int,IsBytes X∧t=strOfNums (o++X)∧X.length≤L.length∧Lib.validD (X.map B8)=true∧encL (X.map B8)=L:=by
 intro n
 induction n with
 | zero => intro L o t hL h;simp [decV] at h
 | succ n ih =>
  intro L o t hL h
  simp only [decV] at h
  by_cases he:L=[]
  ·rw [if_pos he] at h
   subst he
   cases h
   exact ⟨[],fun x hx => by simp at hx,by rw [List.append_nil],Nat.le_refl _,rfl,rfl⟩
  rw [if_neg he] at h
  cases e:takeV L with
  | none => rw [e] at h;simp at h
  | some p =>
   obtain ⟨v,m⟩:=p
   rw [e] at h
   simp only at h
   obtain ⟨v0,v1,m1,m3,ml⟩:=takeV_ok hL e
   have hu:=unit_of_takeV hL e
   have hlen:=(takeV_len hL e)
   have hdl:(L.drop m).length=L.length - m:=List.length_drop
   by_cases c1:56320≤v∧v≤57343
   ·rw [if_pos c1] at h;simp at h
   rw [if_neg c1] at h
   by_cases c2:v < 55296 ∨ 56319 < v
   ·rw [if_pos c2] at h
    obtain ⟨X,hX,rfl,hXl,hXv,hXe⟩:=ih _ _ _ (hL.drop m) h
    obtain ⟨s1,s2⟩:=step_utf8 v v0 (by omega) (by omega) (X.map B8)
    refine ⟨utf8L v++X,fun x hx => ?_,by rw [List.append_assoc],by rw [List.length_append];omega,by rw [List.map_append,s1];exact hXv,?_⟩
    ·rcases List.mem_append.1 hx with hx|hx
     ·exact utf8L_bytes v v0 (by omega) x hx
     ·exact hX x hx
    ·rw [List.map_append,s2,hXe]
     unfold cuL
     rw [if_pos v1]
     exact hu.symm
   ·rw [if_neg c2] at h
    by_cases c3:L.drop m=[]
    ·rw [if_pos c3] at h;simp at h
    rw [if_neg c3] at h
    cases e2:takeV (L.drop m) with
    | none => rw [e2] at h;simp at h
    | some p2 =>
     obtain ⟨u,q⟩:=p2
     rw [e2] at h
     simp only at h
     obtain ⟨u0,u1,q1,q3,ql⟩:=takeV_ok (hL.drop m) e2
     have hu2:=unit_of_takeV (hL.drop m) e2
     have hlen2:=(takeV_len (hL.drop m) e2)
     have hdl2:((L.drop m).drop q).length=L.length - m - q:=by rw [List.length_drop,hdl]
     by_cases c4:56320≤u∧u≤57343
     ·rw [if_pos c4] at h
      obtain ⟨X,hX,rfl,hXl,hXv,hXe⟩:=ih _ _ _ ((hL.drop m).drop q) h
      have hc:65536≤pairN v u∧pairN v u≤1114111:=by unfold pairN;omega
      obtain ⟨s1,s2⟩:=step_utf8 (pairN v u) (by omega) (by omega) (by omega) (X.map B8)
      have h4:=utf8L_len (pairN v u)
      have m33:=hlen.2 (by omega)
      have q33:=hlen2.2 (by omega)
      refine ⟨utf8L (pairN v u)++X,fun x hx => ?_,by rw [List.append_assoc],by rw [List.length_append];omega,by rw [List.map_append,s1];exact hXv,?_⟩
      ·rcases List.mem_append.1 hx with hx|hx
       ·exact utf8L_bytes _ (by omega) (by omega) x hx
       ·exact hX x hx
      ·rw [List.map_append,s2,hXe]
       unfold cuL
       rw [if_neg (by omega),show 55296 + (pairN v u - 65536) / 1024=v by unfold pairN;omega,show 56320 + (pairN v u - 65536) % 1024=u by unfold pairN;omega,List.append_assoc,← hu2]
       exact hu.symm
     ·rw [if_neg c4] at h;simp at h
end Go.Proofs.YtglnhkgodgjepaaDoor.Px
namespace Go.Proofs.YtglnhkgodgjepaaDoor.Px
open Go.RowKit Go.Proofs.YtglnhkgodgjepaaDoorW.PrintWords Go.Proofs.YtglnhkgodgjepaaDoorW.PrintLast Go.Proofs.YtglnhkgodgjepaaDoorW.PrintMore
set_option linter.unusedVariables false
set_option linter.unusedSimpArgs false
def isV (l:List S33) (i tag:Int):Bool:=decide (0 < i∧i < (l.length:Int)∧(rd_T33 l i).f0=tag)
def noText:ByteArray:=⟨#[]⟩
def textV (l:List S33) (i:Int):ByteArray × Bool:=if isV l i 1=true then ((rd_T33 l i).f1,true) else (noText,false)
theorem isV_pos {l:List S33} {i tag:Int} (h:isV l i tag=true):0 < i∧i < (l.length:Int)∧(rd_T33 l i).f0=tag:=of_decide_eq_true h
theorem pool_is.eq (l:List S33) (i tag:Int):pool_is.f l i tag=some (isV l i tag):=by
 unfold pool_is.f isV
 by_cases h1:i > 0
 ·rw [if_pos h1]
  by_cases h2:i < (l.length:Int)
  ·rw [if_pos h2,if_pos (by omega)]
   congr 1
   rw [Bool.eq_iff_iff]
   simp only [beq_iff_eq,decide_eq_true_eq]
   exact ⟨fun h => ⟨h1,h2,h⟩,fun h => h.2.2⟩
  ·rw [if_neg h2,decide_eq_false (by omega)]
 ·rw [if_neg h1,decide_eq_false (by omega)]
theorem pool_Text.eq (l:List S33) (i:Int):pool_Text.f l i=some (textV l i):=by
 unfold pool_Text.f textV
 rw [pool_is.eq,Option.bind_some]
 by_cases h:isV l i 1=true
 ·have:=isV_pos h
  rw [if_pos h,if_pos h,if_pos (by omega),if_pos this.2.1]
 ·rw [if_neg h,if_neg h];rfl
end Go.Proofs.YtglnhkgodgjepaaDoor.Px
namespace Go.Proofs.YtglnhkgodgjepaaDoor.Px
open Go.RowKit Go.Proofs.YtglnhkgodgjepaaDoorW.PrintWords Go.Proofs.YtglnhkgodgjepaaDoorW.PrintLast Go.Proofs.YtglnhkgodgjepaaDoorW.PrintMore
set_option linter.unusedVariables false
set_option linter.unusedSimpArgs false
def fieldsV (c:Cst):Int × ByteArray × Int × Int × Int :=
 if c.f0=1 then (c.f0,c.f1,0,0,0) else if c.f0=3 ∨ c.f0=5 then (c.f0,⟨#[]⟩,c.f2,0,0) else if c.f0=9 ∨ c.f0=10 ∨ c.f0=12 then (c.f0,⟨#[]⟩,0,c.f3,c.f4) else if c.f0=7 then (c.f0,⟨#[]⟩,0,c.f3,0) else (c.f0,⟨#[]⟩,0,0,0)
def leadsV (p:List Cst) (c:Cst):Bool :=
 if c.f0=1 ∨ c.f0=5 then true else if c.f0=3 then decide (-2147483648≤c.f2∧c.f2≤2147483647) else if c.f0=7 then isV p c.f3 1 else if c.f0=12 then isV p c.f3 1 && isV p c.f4 1 else if c.f0=9 ∨ c.f0=10 then isV p c.f3 7 && isV p c.f4 12 else false
def bareV (c:Cst):Bool :=
 if c.f0=1 then decide (c.f2=0∧c.f3=0∧c.f4=0) else if c.f0=3 ∨ c.f0=5 then decide (c.f1.toList=[]∧c.f3=0∧c.f4=0) else if c.f0=7 then decide (c.f1.toList=[]∧c.f2=0∧c.f4=0) else decide (c.f1.toList=[]∧c.f2=0)
def oneV (p:List Cst) (c:Cst):Int :=
 if bareV c=true∧leadsV p c=true then (if c.f0=1∧¬ ((encV c.f1).2=0∧(encV c.f1).1.length≤256) then 20 else 0) else 40
def chkV:Nat→List Cst→Nat→Int
 | 0,_,_ => 0
 | n + 1,p,i => if i < p.length then (if oneV p (rd_T33 p (i:Int))=0 then chkV n p (i + 1) else oneV p (rd_T33 p (i:Int))) else 0
def zeroV (c:Cst):Bool:=decide (c.f0=0∧c.f1.toList=[]∧c.f2=0∧c.f3=0∧c.f4=0)
def checkV (p:List Cst):Int:=if p.length > 1024 then 2 else if p.length=0 then 40 else if zeroV (rd_T33 p 0)=true then chkV p.length p 1 else 40
theorem noBytes:(⟨#[]⟩:ByteArray).toList=[]:=by rw [Lib.toList_data]
theorem pool_fields.at2 (c:Cst):pool_fields.f 2 c.f0 c.f1 c.f2 c.f3 c.f4=some (fieldsV c):=by
 unfold fieldsV pool_fields.f
 simp only [pool_fields.j0,pool_fields.j1,beq_iff_eq]
 repeat' split
 all_goals first|rfl|(exfalso;omega)
theorem pool_fields.ev (c:Cst):Ev (fun k => pool_fields.f k c.f0 c.f1 c.f2 c.f3 c.f4) (fieldsV c):=Ev.of (fun k => pool_fields.mono _ _ _ _ _ k) (pool_fields.at2 c)
theorem wraps (x:Int) (h:(Lit.int .i64 x).wf=true):(wrap64 (wrap32 x)==x)=decide (-2147483648≤x∧x≤2147483647):=by
 simp [Lit.wf,IntKind.min,IntKind.max,IntKind.bits,IntKind.signed] at h
 rw [Bool.eq_iff_iff,beq_iff_eq,decide_eq_true_eq]
 unfold wrap64 wrap32
 omega
theorem pool_leads.at2 (p:List Cst) (c:Cst) (hw:(Lit.int .i64 c.f2).wf=true):pool_leads.f 2 p c.f0 c.f1 c.f2 c.f3 c.f4=some (leadsV p c):=by
 unfold leadsV pool_leads.f
 simp only [pool_leads.j0,pool_leads.j1,beq_iff_eq,pool_is.eq,Option.bind_some,wraps _ hw]
 by_cases h1:c.f0=1
 ·rw [if_pos h1,if_pos h1,if_pos (by omega)]
 rw [if_neg h1]
 by_cases h5:c.f0=5
 ·rw [if_pos h5,if_pos (by omega)]
 rw [if_neg h5,if_neg (show ¬ (c.f0=1 ∨ c.f0=5) by omega)]
 by_cases h3:c.f0=3
 ·rw [if_pos h3,if_pos h3]
 rw [if_neg h3,if_neg h3]
 by_cases h7:c.f0=7
 ·rw [if_pos h7,if_pos h7]
 rw [if_neg h7,if_neg h7]
 by_cases h12:c.f0=12
 ·rw [if_pos h12,if_pos h12]
  cases isV p c.f3 1 <;> simp
 rw [if_neg h12,if_neg h12]
 by_cases h9:c.f0=9
 ·rw [if_pos h9,if_pos h9,if_pos (show c.f0=9 ∨ c.f0=10 by omega)]
  cases isV p c.f3 7 <;> simp
 rw [if_neg h9]
 by_cases h10:c.f0=10
 ·rw [if_pos h10,if_pos (show c.f0=9 ∨ c.f0=10 by omega)]
  cases isV p c.f3 7 <;> simp
 rw [if_neg h10,if_neg (by omega)]
theorem pool_leads.ev (p:List Cst) (c:Cst) (hw:(Lit.int .i64 c.f2).wf=true):Ev (fun k => pool_leads.f k p c.f0 c.f1 c.f2 c.f3 c.f4) (leadsV p c):=Ev.of (fun k => pool_leads.mono _ _ _ _ _ _ k) (pool_leads.at2 p c hw)
theorem sameC_iff (c:Cst) (x:Int × ByteArray × Int × Int × Int):sameC c x=true ↔ c.f0=x.1∧c.f1.toList=x.2.1.toList∧c.f2=x.2.2.1∧c.f3=x.2.2.2.1∧c.f4=x.2.2.2.2:=by
 unfold sameC
 simp only [Bool.and_eq_true,beq_iff_eq]
theorem same_bare (p:List Cst) (c:Cst) (h:leadsV p c=true):sameC c (fieldsV c)=true ↔ bareV c=true:=by
 rw [sameC_iff]
 unfold fieldsV bareV
 unfold leadsV at h
 by_cases h1:c.f0=1
 ·simp [h1]
 ·by_cases h35:c.f0=3 ∨ c.f0=5
  ·rw [if_neg h1,if_neg h1,if_pos h35,if_pos h35]
   simp [noBytes]
  ·by_cases h9:c.f0=9 ∨ c.f0=10 ∨ c.f0=12
   ·rw [if_neg h1,if_neg h1,if_neg h35,if_neg h35,if_pos h9,if_neg (by omega)]
    simp [noBytes]
   ·by_cases h7:c.f0=7
    ·rw [if_neg h1,if_neg h1,if_neg h35,if_neg h35,if_neg h9,if_pos h7,if_pos h7]
     simp [noBytes]
    ·rw [if_neg (by omega),if_neg (by omega),if_neg (by omega),if_neg (by omega),if_neg (by omega)] at h
     cases h
theorem bare_text (c:Cst) (h:bareV c=true) (h1:c.f0 ≠ 1):encV c.f1=([],0):=by
 have ht:c.f1.toList=[]:=by
  unfold bareV at h
  rw [if_neg h1] at h
  split at h
  ·exact (of_decide_eq_true h).1
  ·split at h
   ·exact (of_decide_eq_true h).1
   ·exact (of_decide_eq_true h).1
 rw [Lib.toList_data] at ht
 unfold encV
 rw [ht]
 rfl
def codeOf (r:Option (Int × Int)):Int:=match r with|none => 0|some (_,y) => y
def FitC (c:Cst):Prop:=c.f1.size≤1099511627776∧(Lit.int .i64 c.f2).wf=true
theorem fit_zero:FitC z33:=⟨by decide,by decide⟩
theorem fit_rd {p:List Cst} (h:∀ c ∈ p,FitC c) (i:Int):FitC (rd_T33 p i):=by
 unfold rd_T33
 rw [List.getD_eq_getElem?_getD]
 cases e:p[i.toNat]? with
 | none => exact fit_zero
 | some x => exact h x (List.mem_of_getElem? e)
theorem pool_check.ev_l (p:List Cst) (hp:∀ c ∈ p,FitC c):∀ n i,p.length≤i + 1 + n→∃ r,Ev (fun k => pool_check.l0 k p i) r∧codeOf r=chkV n p (i + 1):=by
 have stop:∀ i,¬ i + 1 < p.length→Ev (fun k => pool_check.l0 k p i) none:=fun i hi => Ev.step (f:=fun _ => some none) (fun k => by simp only [pool_check.l0];rw [if_neg hi]) (Ev.now _)
 intro n
 induction n with
 | zero => intro i h;exact ⟨none,stop i (by omega),rfl⟩
 | succ n ih =>
  intro i h
  by_cases hi:i + 1 < p.length
  ·obtain ⟨c,hc⟩:∃ c,c=rd_T33 p ((i:Int) + 1):=⟨_,rfl⟩
   have hfit:FitC c:=hc ▸ fit_rd hp _
   have hV:chkV (n + 1) p (i + 1)=if oneV p c=0 then chkV n p (i + 2) else oneV p c:=by
    rw [hc]
    show (if i + 1 < p.length then _ else _)=_
    rw [if_pos hi]
    rfl
   rw [hV]
   have step:∀ r,Ev (fun k => (pool_fields.f k c.f0 c.f1 c.f2 c.f3 c.f4).bind fun x => if sameC c x=true then (pool_leads.f k p c.f0 c.f1 c.f2 c.f3 c.f4).bind fun t => if t=true then (text_Encode.f k c.f1).bind fun b => if b.2=0 then (if (b.1.length:Int) > 256 then some (some ((i:Int) + 1,20)) else pool_check.l0 k p (i + 1)) else some (some ((i:Int) + 1,20)) else some (some ((i:Int) + 1,40)) else some (some ((i:Int) + 1,40))) r→Ev (fun k => pool_check.l0 k p i) r:=fun r hr => Ev.step (fun k => by simp only [pool_check.l0];rw [if_pos hi,← hc]) hr
   by_cases hs:sameC c (fieldsV c)=true
   ·by_cases hl:leadsV p c=true
    ·have hb:=(same_bare p c hl).1 hs
     by_cases he:(encV c.f1).2=0∧(encV c.f1).1.length≤256
     ·obtain ⟨r,hr,hrc⟩:=ih (i + 1) (by omega)
      have h1:oneV p c=0:=by unfold oneV;rw [if_pos ⟨hb,hl⟩,if_neg (fun h => h.2 he)]
      rw [if_pos h1]
      refine ⟨r,step r (Ev.bind (pool_fields.ev c) (Ev.congr (fun k => if_pos hs) (Ev.bind (pool_leads.ev p c hfit.2) (Ev.congr (fun k => if_pos hl) (Ev.bind (text_Encode.ev c.f1 hfit.1) (Ev.congr (fun k => (if_pos he.1).trans (if_neg (by omega))) hr)))))),hrc⟩
     ·have hf1:c.f0=1:=by
       apply Classical.byContradiction
       intro h
       rw [bare_text c hb h] at he
       exact he ⟨rfl,by simp⟩
      have h1:oneV p c=20:=by unfold oneV;rw [if_pos ⟨hb,hl⟩,if_pos ⟨hf1,he⟩]
      rw [h1,if_neg (by decide)]
      refine ⟨some ((i:Int) + 1,20),step _ (Ev.bind (pool_fields.ev c) (Ev.congr (fun k => if_pos hs) (Ev.bind (pool_leads.ev p c hfit.2) (Ev.congr (fun k => if_pos hl) (Ev.bind (text_Encode.ev c.f1 hfit.1) ?_))))),rfl⟩
      by_cases h0:(encV c.f1).2=0
      ·exact Ev.congr (fun k => (if_pos h0).trans (if_pos (by omega))) (Ev.now _)
      ·exact Ev.congr (fun k => if_neg h0) (Ev.now _)
    ·have h1:oneV p c=40:=by unfold oneV;rw [if_neg (fun h => hl h.2)]
     rw [h1,if_neg (by decide)]
     exact ⟨some ((i:Int) + 1,40),step _ (Ev.bind (pool_fields.ev c) (Ev.congr (fun k => if_pos hs) (Ev.bind (pool_leads.ev p c hfit.2) (Ev.congr (fun k => if_neg hl) (Ev.now _))))),rfl⟩
   ·have h1:oneV p c=40:=by
     unfold oneV
     rw [if_neg (fun h => hs ((same_bare p c h.2).2 h.1))]
    rw [h1,if_neg (by decide)]
    exact ⟨some ((i:Int) + 1,40),step _ (Ev.bind (pool_fields.ev c) (Ev.congr (fun k => if_neg hs) (Ev.now _))),rfl⟩
  ·refine ⟨none,stop i hi,?_⟩
   show (0:Int)=if i + 1 < p.length then _ else 0
   rw [if_neg hi]
theorem zeroV_iff (c:Cst):sameC c (0,⟨#[]⟩,0,0,0)=zeroV c:=by
 rw [Bool.eq_iff_iff,sameC_iff]
 unfold zeroV
 rw [decide_eq_true_eq,noBytes]
theorem pool_Check.ev (p:List Cst) (hp:∀ c ∈ p,FitC c):Ev (fun k => pool_Check.f k p) (checkV p):=by
 have key:∀ r,Ev (fun k => pool_check.f k p) r→Ev (fun k => pool_Check.f k p) (codeOf r):=fun r hr => Ev.bind hr (Ev.now _)
 unfold checkV
 by_cases c1:p.length > 1024
 ·rw [if_pos c1]
  exact key (some (0,2)) (Ev.congr (f:=fun _ => some (some (0,2))) (fun k => by unfold pool_check.f;rw [if_pos c1]) (Ev.now _))
 rw [if_neg c1]
 by_cases c2:p.length=0
 ·rw [if_pos c2]
  exact key (some (0,40)) (Ev.congr (f:=fun _ => some (some (0,40))) (fun k => by unfold pool_check.f;rw [if_neg c1,if_pos c2]) (Ev.now _))
 rw [if_neg c2]
 by_cases c3:zeroV (rd_T33 p 0)=true
 ·rw [if_pos c3]
  obtain ⟨r,hr,hrc⟩:=pool_check.ev_l p hp p.length 0 (by omega)
  have:=key r (Ev.congr (f:=fun k => pool_check.l0 k p 0) (fun k => by unfold pool_check.f;rw [if_neg c1,if_neg c2,zeroV_iff,if_pos c3]) hr)
  rw [hrc] at this
  exact this
 ·rw [if_neg c3]
  exact key (some (0,40)) (Ev.congr (f:=fun _ => some (some (0,40))) (fun k => by unfold pool_check.f;rw [if_neg c1,if_neg c2,zeroV_iff,if_neg c3]) (Ev.now _))
end Go.Proofs.YtglnhkgodgjepaaDoor.Px
namespace Go.Proofs.YtglnhkgodgjepaaDoor.Px
open Go.RowKit Go.Proofs.YtglnhkgodgjepaaDoorW.PrintWords Go.Proofs.YtglnhkgodgjepaaDoorW.PrintLast Go.Proofs.YtglnhkgodgjepaaDoorW.PrintMore
set_option linter.unusedVariables false
set_option linter.unusedSimpArgs false
def uV (bs:List Int) (p n:Nat):Int × Int × Nat:=(beV (rdL bs p n),rdE bs p n,rdP bs p n)
def twoV (bs:List Int) (p:Nat) (e:Int):Int × Int × Nat:=if e=0 then uV bs p 2 else (0,e,p)
def bodyV (bs:List Int) (t:Int) (p:Nat):Cst × Int × Nat :=
 if t=1 then
  (if (uV bs p 2).2.1=0 then
   (if (uV bs p 2).1 > 256 then (⟨t,⟨#[]⟩,0,0,0⟩,20,(uV bs p 2).2.2)
    else if rdE bs (uV bs p 2).2.2 (uV bs p 2).1.toNat=0 then (⟨t,(DecV (rdL bs (uV bs p 2).2.2 (uV bs p 2).1.toNat)).1,0,0,0⟩,(DecV (rdL bs (uV bs p 2).2.2 (uV bs p 2).1.toNat)).2,rdP bs (uV bs p 2).2.2 (uV bs p 2).1.toNat)
      else (⟨t,⟨#[]⟩,0,0,0⟩,rdE bs (uV bs p 2).2.2 (uV bs p 2).1.toNat,rdP bs (uV bs p 2).2.2 (uV bs p 2).1.toNat))
   else (⟨t,⟨#[]⟩,0,0,0⟩,(uV bs p 2).2.1,(uV bs p 2).2.2))
 else if t=3 then (⟨t,⟨#[]⟩,(iV bs p 4).1,0,0⟩,(iV bs p 4).2.1,(iV bs p 4).2.2)
 else if t=5 then (⟨t,⟨#[]⟩,(iV bs p 8).1,0,0⟩,(iV bs p 8).2.1,(iV bs p 8).2.2)
 else if t=7 then (⟨t,⟨#[]⟩,0,(uV bs p 2).1,0⟩,(uV bs p 2).2.1,(uV bs p 2).2.2)
 else if t=9 ∨ t=10 ∨ t=12 then (⟨t,⟨#[]⟩,0,(uV bs p 2).1,(twoV bs (uV bs p 2).2.2 (uV bs p 2).2.1).1⟩,(twoV bs (uV bs p 2).2.2 (uV bs p 2).2.1).2.1,(twoV bs (uV bs p 2).2.2 (uV bs p 2).2.1).2.2)
 else (⟨t,⟨#[]⟩,0,0,0⟩,40,p)
def constV (bs:List Int) (p:Nat):Cst × Int × Nat :=
 if (uV bs p 1).2.1=0 then bodyV bs (uV bs p 1).1 (uV bs p 1).2.2 else (⟨(uV bs p 1).1,⟨#[]⟩,0,0,0⟩,(uV bs p 1).2.1,(uV bs p 1).2.2)
theorem pow256_mono {a b:Nat} (h:a≤b):(256:Int) ^ a≤256 ^ b:=by
 have h1:=Int.ofNat_le.2 (Nat.pow_le_pow_right (n:=256) (by decide) h)
 rw [Int.natCast_pow,Int.natCast_pow] at h1
 exact h1
theorem beV_lt {l:List Int} (h:IsBytes l) {n:Nat} (hl:l.length≤n):0≤beV l∧beV l < 256 ^ n:=by
 have h1:=beV_range l h
 have h2:(256:Int) ^ l.length≤256 ^ n:=pow256_mono hl
 omega
theorem u1_range {bs:List Int} (h:IsBytes bs) (p:Nat):0≤(uV bs p 1).1∧(uV bs p 1).1 < 256:=beV_lt (n:=1) (rdL_bytes h p 1) (rdL_le bs p 1)
theorem u2_range {bs:List Int} (h:IsBytes bs) (p:Nat):0≤(uV bs p 2).1∧(uV bs p 2).1 < 65536:=beV_lt (n:=2) (rdL_bytes h p 2) (rdL_le bs p 2)
theorem uV.ev {bs:List Int} (hb:IsBytes bs) (p n:Nat) (h8:n≤8):Ev (fun k => rd_Uint.f k bs p n) (uV bs p n):=uint.ev bs hb p n h8
theorem pool_two.ev {bs:List Int} (hb:IsBytes bs) (p:Nat) (e:Int):Ev (fun k => pool_two.f k bs p e) (twoV bs p e):=by
 unfold pool_two.f twoV
 by_cases he:e=0
 ·rw [if_pos he]
  refine Ev.congr (fun k => if_pos he) (Ev.bind (uV.ev hb p 2 (by decide)) ?_)
  exact Ev.congr (fun k => if_pos (u2_range hb p)) (Ev.now _)
 ·rw [if_neg he]
  exact Ev.congr (fun k => if_neg he) (Ev.now _)
theorem twoV_zero (bs:List Int) (p:Nat):twoV bs p 0=uV bs p 2:=if_pos rfl
theorem pool_constant.ev {bs:List Int} (hb:IsBytes bs) (hl:bs.length≤140737488351232) (p:Nat):Ev (fun k => pool_constant.f k bs p) (constV bs p):=by
 unfold pool_constant.f constV
 refine Ev.bind (uV.ev hb p 1 (by decide)) ?_
 refine Ev.congr (fun k => if_pos (u1_range hb p)) ?_
 by_cases he:(uV bs p 1).2.1=0
 ·refine Ev.congr (fun k => if_pos he) ?_
  rw [if_pos he]
  generalize (uV bs p 1).1=t
  generalize (uV bs p 1).2.2=q
  unfold bodyV
  have e2:=twoV_zero bs q ▸ pool_two.ev hb q 0
  have h2:=u2_range hb q
  by_cases h1:t=1
  ·rw [if_pos h1]
   refine Ev.congr (fun k => if_pos h1) (Ev.bind e2 ?_)
   by_cases h0:(uV bs q 2).2.1=0
   ·rw [if_pos h0]
    refine Ev.congr (fun k => if_pos h0) ?_
    by_cases h3:(uV bs q 2).1 > 256
    ·rw [if_pos h3]
     exact Ev.congr (fun k => if_pos h3) (Ev.now _)
    rw [if_neg h3]
    refine Ev.congr (fun k => if_neg h3) ?_
    by_cases h4:rdE bs (uV bs q 2).2.2 (uV bs q 2).1.toNat=0
    ·rw [if_pos h4]
     refine Ev.congr (fun k => if_pos h4) (Ev.bind (text_Decode.ev _ (rdL_bytes hb _ _) (by have:=rdL_le bs (uV bs q 2).2.2 (uV bs q 2).1.toNat;omega)) (Ev.now _))
    ·rw [if_neg h4]
     exact Ev.congr (fun k => if_neg h4) (Ev.now _)
   ·rw [if_neg h0]
    exact Ev.congr (fun k => if_neg h0) (Ev.now _)
  rw [if_neg h1]
  refine Ev.congr (fun k => if_neg h1) ?_
  by_cases h3:t=3
  ·rw [if_pos h3]
   exact Ev.congr (fun k => if_pos h3) (Ev.bind (int.ev bs hb q 4 (by decide) (by decide)) (Ev.now _))
  rw [if_neg h3]
  refine Ev.congr (fun k => if_neg h3) ?_
  by_cases h5:t=5
  ·rw [if_pos h5]
   exact Ev.congr (fun k => if_pos h5) (Ev.bind (int.ev bs hb q 8 (by decide) (by decide)) (Ev.now _))
  rw [if_neg h5]
  refine Ev.congr (fun k => if_neg h5) ?_
  by_cases h7:t=7
  ·rw [if_pos h7]
   exact Ev.congr (fun k => if_pos h7) (Ev.bind e2 (Ev.now _))
  rw [if_neg h7]
  refine Ev.congr (fun k => if_neg h7) ?_
  by_cases h9:t=9 ∨ t=10 ∨ t=12
  ·rw [if_pos h9]
   exact Ev.congr (fun k => if_pos h9) (Ev.bind e2 (Ev.bind (pool_two.ev hb _ _) (Ev.now _)))
  ·rw [if_neg h9]
   exact Ev.congr (fun k => if_neg h9) (Ev.now _)
 ·rw [if_neg he]
  exact Ev.congr (fun k => if_neg he) (Ev.now _)
theorem intV_range {l:List Int} (h:IsBytes l) (h1:1≤l.length) (h8:l.length≤8):-9223372036854775808≤intV l∧intV l < 9223372036854775808:=by
 cases l with
 | nil => simp at h1
 | cons b t =>
  have hc:=h b List.mem_cons_self
  have ht:IsBytes t:=fun x hx => h x (List.mem_cons_of_mem _ hx)
  have hl:t.length≤7:=by simp at h8;omega
  have hr:=beV_range t ht
  have hp:=pow256 hl
  have hp1:1≤(256:Int) ^ t.length:=by omega
  rw [← intV_cons]
  generalize beV t=y at hr
  generalize (256:Int) ^ t.length=q at hr hp hp1
  have hs:-128 * q≤(if b < 128 then b else b - 256) * q∧(if b < 128 then b else b - 256) * q≤127 * q :=
   ⟨Int.mul_le_mul_of_nonneg_right (by split <;> omega) (by omega),Int.mul_le_mul_of_nonneg_right (by split <;> omega) (by omega)⟩
  omega
theorem wf_i64 {x:Int} (h:-9223372036854775808≤x∧x < 9223372036854775808):(Lit.int .i64 x).wf=true:=by
 simp [Lit.wf,IntKind.min,IntKind.max,IntKind.bits,IntKind.signed]
 omega
theorem iV_wf {bs:List Int} (h:IsBytes bs) (p n:Nat) (h1:1≤n) (h8:n≤8):(Lit.int .i64 (iV bs p n).1).wf=true:=by
 unfold iV
 by_cases hs:p + n≤bs.length
 ·rw [if_pos hs]
  have hl:=rdL_len hs
  exact wf_i64 (intV_range (rdL_bytes h p n) (by omega) (by omega))
 ·rw [if_neg hs];show (Lit.int .i64 0).wf=true;decide
theorem strOfNums_len (l:List Int):(strOfNums l).size=l.length:=by
 unfold strOfNums
 simp [ByteArray.size]
theorem DecV_len {L:List Int} (h:IsBytes L) (h0:(DecV L).2=0):(DecV L).1.size≤L.length:=by
 have e:decV (L.length + 1) L []=((DecV L).1,0):=by rw [← h0];rfl
 obtain ⟨X,_,ht,hx,_⟩:=enc_dec _ L [] _ h e
 rw [ht,strOfNums_len,List.nil_append]
 exact hx
theorem bodyV_fit {bs:List Int} (h:IsBytes bs) (t:Int) (p:Nat) (h0:(bodyV bs t p).2.1=0):FitC (bodyV bs t p).1:=by
 have hz:∀ t x y,FitC ⟨t,⟨#[]⟩,0,x,y⟩:=fun t x y => ⟨by show (⟨#[]⟩:ByteArray).size≤_;decide,by show (Lit.int .i64 0).wf=true;decide⟩
 have h2:=u2_range h p
 unfold bodyV at h0 ⊢
 by_cases h1:t=1
 ·rw [if_pos h1] at h0 ⊢
  by_cases h3:(uV bs p 2).2.1=0
  ·rw [if_pos h3] at h0 ⊢
   by_cases h4:(uV bs p 2).1 > 256
   ·rw [if_pos h4] at h0 ⊢;exact hz _ _ _
   rw [if_neg h4] at h0 ⊢
   by_cases h5:rdE bs (uV bs p 2).2.2 (uV bs p 2).1.toNat=0
   ·rw [if_pos h5] at h0 ⊢
    have hd:=DecV_len (rdL_bytes h (uV bs p 2).2.2 (uV bs p 2).1.toNat) h0
    have:=rdL_le bs (uV bs p 2).2.2 (uV bs p 2).1.toNat
    exact ⟨by show (DecV _).1.size≤_;omega,by show (Lit.int .i64 0).wf=true;decide⟩
   ·rw [if_neg h5] at h0 ⊢;exact hz _ _ _
  ·rw [if_neg h3] at h0 ⊢;exact hz _ _ _
 rw [if_neg h1]
 by_cases h3:t=3
 ·rw [if_pos h3]
  exact ⟨by show (⟨#[]⟩:ByteArray).size≤_;decide,iV_wf h p 4 (by decide) (by decide)⟩
 rw [if_neg h3]
 by_cases h5:t=5
 ·rw [if_pos h5]
  exact ⟨by show (⟨#[]⟩:ByteArray).size≤_;decide,iV_wf h p 8 (by decide) (by decide)⟩
 rw [if_neg h5]
 repeat' split
 all_goals exact hz _ _ _
def decL:Nat→List Int→Int→List Cst→Nat→List Cst × Int × Int
 | 0,_,_,_,_ => ([],0,0)
 | f + 1,bs,n,ps,p =>
  if (ps.length:Int) < n then (if (constV bs p).2.1=0 then decL f bs n (ps++[(constV bs p).1]) (constV bs p).2.2 else ([],0,(constV bs p).2.1))
  else if checkV ps=0 then (ps,(p:Int),0) else ([],0,checkV ps)
def decPV (bs:List Int):List Cst × Int × Int :=
 if (uV bs 0 2).2.1=0 then (if (uV bs 0 2).1 > 1024 then ([],0,2) else if (uV bs 0 2).1=0 then ([],0,40) else decL ((uV bs 0 2).1.toNat + 1) bs (uV bs 0 2).1 [z33] (uV bs 0 2).2.2) else ([],0,(uV bs 0 2).2.1)
theorem constV_fit {bs:List Int} (h:IsBytes bs) (p:Nat) (h0:(constV bs p).2.1=0):FitC (constV bs p).1:=by
 unfold constV at h0 ⊢
 by_cases he:(uV bs p 1).2.1=0
 ·rw [if_pos he] at h0 ⊢
  exact bodyV_fit h _ _ h0
 ·rw [if_neg he] at h0
  exact absurd h0 he
theorem pool_Decode.ev_l {bs:List Int} (hb:IsBytes bs) (hl:bs.length≤140737488351232) (n:Int) (hn:n≤1024):∀ (f:Nat) (ps:List Cst) (p:Nat),n≤ps.length + f→ps.length≤1024→(∀ c ∈ ps,FitC c)→Ev (fun k => pool_Decode.l0 k bs n ps p) (decL (f + 1) bs n ps p):=by
 have last:∀ (f:Nat) (ps:List Cst) (p:Nat),¬ (ps.length:Int) < n→(∀ c ∈ ps,FitC c)→Ev (fun k => pool_Decode.l0 k bs n ps p) (decL (f + 1) bs n ps p):=by
  intro f ps p hs hf
  refine Ev.step (fun k => by simp only [pool_Decode.l0];rw [if_neg hs]) ?_
  unfold decL
  rw [if_neg hs]
  refine Ev.bind (pool_Check.ev ps hf) ?_
  by_cases h0:checkV ps=0
  ·simp only [if_pos h0]
   exact Ev.now _
  ·simp only [if_neg h0]
   exact Ev.now _
 intro f
 induction f with
 | zero => intro ps p h hp hf;exact last 0 ps p (by omega) hf
 | succ f ih =>
  intro ps p h hp hf
  by_cases hs:(ps.length:Int) < n
  ·refine Ev.step (fun k => by simp only [pool_Decode.l0];rw [if_pos hs]) ?_
   rw [decL,if_pos hs]
   refine Ev.bind (pool_constant.ev hb hl p) ?_
   by_cases h0:(constV bs p).2.1=0
   ·rw [if_pos h0]
    refine Ev.congr (fun k => (if_pos h0).trans (if_pos (by omega))) ?_
    refine ih (ps++[(constV bs p).1]) (constV bs p).2.2 (by rw [List.length_append,List.length_singleton];omega) (by rw [List.length_append,List.length_singleton];omega) ?_
    intro c hc
    rcases List.mem_append.1 hc with hc|hc
    ·exact hf c hc
    ·rw [List.mem_singleton.1 hc]
     exact constV_fit hb p h0
   ·rw [if_neg h0]
    exact Ev.congr (fun k => if_neg h0) (Ev.now _)
  ·exact last (f + 1) ps p hs hf
theorem one_fit:∀ c ∈ [z33],FitC c:=fun c hc => by rw [List.mem_singleton.1 hc];exact fit_zero
theorem pool_Decode.ev {bs:List Int} (hb:IsBytes bs) (hl:bs.length≤140737488351232):Ev (fun k => pool_Decode.f k bs) (decPV bs):=by
 unfold pool_Decode.f decPV
 refine Ev.congr (fun k => if_pos (by omega)) ?_
 refine Ev.bind (uV.ev hb 0 2 (by decide)) ?_
 have h2:=u2_range hb 0
 refine Ev.congr (fun k => if_pos h2) ?_
 by_cases h0:(uV bs 0 2).2.1=0
 ·rw [if_pos h0]
  refine Ev.congr (fun k => if_pos h0) ?_
  by_cases h3:(uV bs 0 2).1 > 1024
  ·rw [if_pos h3]
   exact Ev.congr (fun k => if_pos h3) (Ev.now _)
  rw [if_neg h3]
  refine Ev.congr (fun k => if_neg h3) ?_
  by_cases h4:(uV bs 0 2).1=0
  ·rw [if_pos h4]
   exact Ev.congr (fun k => if_pos h4) (Ev.now _)
  rw [if_neg h4]
  refine Ev.congr (fun k => if_neg h4) ?_
  exact pool_Decode.ev_l hb hl _ (by omega) (uV bs 0 2).1.toNat [z33] (uV bs 0 2).2.2 (by simp;omega) (by simp) one_fit
 ·rw [if_neg h0]
  exact Ev.congr (fun k => if_neg h0) (Ev.now _)
end Go.Proofs.YtglnhkgodgjepaaDoor.Px
namespace Go.Proofs.YtglnhkgodgjepaaDoor.Px
open Go.RowKit Go.Proofs.YtglnhkgodgjepaaDoorW.PrintWords Go.Proofs.YtglnhkgodgjepaaDoorW.PrintLast Go.Proofs.YtglnhkgodgjepaaDoorW.PrintMore
set_option linter.unusedVariables false
set_option linter.unusedSimpArgs false
def bodyL (c:Cst):List Int :=
 if c.f0=1 then beN 2 ((encV c.f1).1.length:Int)++(encV c.f1).1 else if c.f0=3 then beN 4 c.f2 else if c.f0=5 then beN 8 c.f2 else if c.f0=7 then beN 2 c.f3 else beN 2 c.f3++beN 2 c.f4
def constL (c:Cst):List Int:=beN 1 c.f0++bodyL c
def poolL (p:List Cst):List Int:=beN 2 (p.length:Int)++(p.drop 1).flatMap constL
theorem chkV_all {p:List Cst}:∀ n i,chkV n p i=0→p.length≤i + n→∀ j,i≤j→j < p.length→oneV p (rd_T33 p (j:Int))=0
 | 0,i,_,hl,j,h1,h2 => by omega
 | n + 1,i,h,hl,j,h1,h2 => by
  have hi:i < p.length:=by omega
  unfold chkV at h
  rw [if_pos hi] at h
  by_cases h0:oneV p (rd_T33 p (i:Int))=0
  ·rw [if_pos h0] at h
   by_cases e:j=i
   ·subst e;exact h0
   ·exact chkV_all n (i + 1) h (by omega) j (by omega) h2
  ·rw [if_neg h0] at h
   exact absurd h h0
theorem checkV_ok {p:List Cst} (h:checkV p=0):0 < p.length∧p.length≤1024∧zeroV (rd_T33 p 0)=true∧∀ j:Nat,1≤j→j < p.length→oneV p (rd_T33 p (j:Int))=0:=by
 unfold checkV at h
 by_cases c1:p.length > 1024
 ·rw [if_pos c1] at h;omega
 rw [if_neg c1] at h
 by_cases c2:p.length=0
 ·rw [if_pos c2] at h;omega
 rw [if_neg c2] at h
 by_cases c3:zeroV (rd_T33 p 0)=true
 ·rw [if_pos c3] at h
  exact ⟨by omega,by omega,c3,chkV_all p.length 1 h (by omega)⟩
 ·rw [if_neg c3] at h;omega
structure OkC (c:Cst):Prop where
 tag:c.f0=1 ∨ c.f0=3 ∨ c.f0=5 ∨ c.f0=7 ∨ c.f0=9 ∨ c.f0=10 ∨ c.f0=12
 bare:bareV c=true
 txt:c.f0=1→(encV c.f1).2=0∧(encV c.f1).1.length≤256
 num:c.f0=3→-2147483648≤c.f2∧c.f2≤2147483647
 a:c.f0 ≠ 1→c.f0 ≠ 3→c.f0 ≠ 5→0 < c.f3∧c.f3 < 1024
 b:c.f0 ≠ 1→c.f0 ≠ 3→c.f0 ≠ 5→c.f0 ≠ 7→0 < c.f4∧c.f4 < 1024
theorem oneV_ok {p:List Cst} {c:Cst} (hl:p.length≤1024) (h:oneV p c=0):OkC c:=by
 unfold oneV at h
 by_cases hb:bareV c=true∧leadsV p c=true
 ·rw [if_pos hb] at h
  have ht:¬ (c.f0=1∧¬ ((encV c.f1).2=0∧(encV c.f1).1.length≤256)):=by
   intro hc
   rw [if_pos hc] at h
   omega
  have hL:=hb.2
  unfold leadsV at hL
  have is2:∀ {i t},isV p i t=true→0 < i∧i < 1024:=fun h => by have:=isV_pos h;omega
  refine ⟨?_,hb.1,fun h1 => ?_,fun h3 => ?_,fun h1 h3 h5 => ?_,fun h1 h3 h5 h7 => ?_⟩
  ·by_cases h1:c.f0=1 ∨ c.f0=5
   ·omega
   ·rw [if_neg h1] at hL
    by_cases h3:c.f0=3
    ·omega
    rw [if_neg h3] at hL
    by_cases h7:c.f0=7
    ·omega
    rw [if_neg h7] at hL
    by_cases h12:c.f0=12
    ·omega
    rw [if_neg h12] at hL
    by_cases h9:c.f0=9 ∨ c.f0=10
    ·omega
    rw [if_neg h9] at hL
    cases hL
  ·exact Classical.byContradiction fun hn => ht ⟨h1,hn⟩
  ·rw [if_neg (by omega),if_pos h3] at hL
   exact of_decide_eq_true hL
  ·rw [if_neg (by omega),if_neg h3] at hL
   by_cases h7:c.f0=7
   ·rw [if_pos h7] at hL
    exact is2 hL
   rw [if_neg h7] at hL
   by_cases h12:c.f0=12
   ·rw [if_pos h12,Bool.and_eq_true] at hL
    exact is2 hL.1
   rw [if_neg h12] at hL
   by_cases h9:c.f0=9 ∨ c.f0=10
   ·rw [if_pos h9,Bool.and_eq_true] at hL
    exact is2 hL.1
   rw [if_neg h9] at hL
   cases hL
  ·rw [if_neg (by omega),if_neg h3,if_neg h7] at hL
   by_cases h12:c.f0=12
   ·rw [if_pos h12,Bool.and_eq_true] at hL
    exact is2 hL.2
   rw [if_neg h12] at hL
   by_cases h9:c.f0=9 ∨ c.f0=10
   ·rw [if_pos h9,Bool.and_eq_true] at hL
    exact is2 hL.2
   rw [if_neg h9] at hL
   cases hL
 ·rw [if_neg hb] at h
  omega
theorem bodyL_len {c:Cst} (h:OkC c):(bodyL c).length≤258:=by
 unfold bodyL
 by_cases h1:c.f0=1
 ·rw [if_pos h1,List.length_append,beN_length]
  have:=(h.txt h1).2
  omega
 rw [if_neg h1]
 repeat' split
 all_goals simp only [List.length_append,beN_length]
 all_goals omega
theorem constL_len {c:Cst} (h:OkC c):(constL c).length≤259:=by
 unfold constL
 have:=bodyL_len h
 rw [List.length_append,beN_length]
 omega
theorem i32_top {x:Int} (h0:-2147483648≤x) (h1:x≤2147483647):x / 2 ^ (8 * 4 - 1)=0 ∨ x / 2 ^ (8 * 4 - 1)=-1:=by omega
theorem wU_ok {n:Nat} {x:Int} {bs:List Int} (h:bs.length + n≤1048576∧0≤x∧x < 2 ^ (8 * n)):wU n x bs=some (bs++beN n x):=by unfold wU;rw [if_pos h]
theorem pool_Encode.ev_one {c:Cst} (hf:FitC c) (h:OkC c) (bs:List Int) (hl:bs.length + 259≤1048576):Ev (fun k => pool_Encode.one k c bs) (bs++constL c):=by
 have htag:0≤c.f0∧c.f0 < 2 ^ (8 * 1):=by have:=h.tag;omega
 have e1:wU 1 c.f0 bs=some (bs++beN 1 c.f0):=wU_ok ⟨by omega,htag⟩
 have hl1:(bs++beN 1 c.f0).length=bs.length + 1:=by rw [List.length_append,beN_length]
 unfold pool_Encode.one constL bodyL
 rw [e1]
 simp only [Option.bind_some]
 by_cases h1:c.f0=1
 ·have ht:=h.txt h1
  simp only [if_pos h1]
  refine Ev.bind (text_Encode.ev c.f1 hf.1) ?_
  rw [wU_ok (by rw [hl1];omega)]
  simp only [Option.bind_some]
  unfold wB
  rw [if_pos (by rw [List.length_append,hl1,beN_length];omega)]
  simp only [List.append_assoc]
  exact Ev.now _
 simp only [if_neg h1]
 by_cases h3:c.f0=3
 ·simp only [if_pos h3]
  unfold wI
  rw [if_pos ⟨by rw [hl1];omega,fun _ => i32_top (h.num h3).1 (h.num h3).2⟩]
  simp only [List.append_assoc]
  exact Ev.now _
 simp only [if_neg h3]
 by_cases h5:c.f0=5
 ·simp only [if_pos h5]
  unfold wI
  rw [if_pos ⟨by rw [hl1];omega,fun h => by omega⟩]
  simp only [List.append_assoc]
  exact Ev.now _
 simp only [if_neg h5]
 have ha:=h.a h1 h3 h5
 rw [wU_ok (by rw [hl1];omega)]
 simp only [Option.bind_some]
 by_cases h7:c.f0=7
 ·simp only [if_pos h7,List.append_assoc]
  exact Ev.now _
 simp only [if_neg h7]
 have hb:=h.b h1 h3 h5 h7
 rw [wU_ok (by rw [List.length_append,hl1,beN_length];omega)]
 simp only [List.append_assoc]
 exact Ev.now _
theorem drop_rd {p:List Cst} {i:Nat} (h:i < p.length):p.drop i=rd_T33 p (i:Int) :: p.drop (i + 1):=by
 rw [List.drop_eq_getElem_cons h]
 congr 1
 unfold rd_T33
 rw [Int.toNat_natCast,List.getD_eq_getElem?_getD,List.getElem?_eq_getElem h]
 rfl
theorem pool_Encode.ev_l {p:List Cst} (hp:∀ c ∈ p,FitC c) (hl:p.length≤1024) (h1:∀ j:Nat,1≤j→j < p.length→oneV p (rd_T33 p (j:Int))=0) :
  ∀ n i (bs:List Int),p.length≤i + 1 + n→bs.length≤2 + 259 * i→i≤1024→Ev (fun k => pool_Encode.l0 k p i bs) (bs++(p.drop (i + 1)).flatMap constL):=by
 have stop:∀ i (bs:List Int),¬ i + 1 < p.length→bs.length≤1048576→Ev (fun k => pool_Encode.l0 k p i bs) (bs++(p.drop (i + 1)).flatMap constL):=by
  intro i bs hi hb
  refine Ev.step (f:=fun _ => some bs) (fun k => by simp only [pool_Encode.l0];rw [if_neg hi,if_pos hb]) ?_
  rw [List.drop_eq_nil_of_le (by omega),List.flatMap_nil,List.append_nil]
  exact Ev.now _
 intro n
 induction n with
 | zero => intro i bs h hb hi;exact stop i bs (by omega) (by omega)
 | succ n ih =>
  intro i bs h hb hi
  by_cases hlt:i + 1 < p.length
  ·have ok:=oneV_ok hl (h1 (i + 1) (by omega) hlt)
   have hc:=constL_len ok
   have hfit:FitC (rd_T33 p ((i + 1:Nat):Int)):=fit_rd hp _
   refine Ev.step (f:=fun k => (pool_Encode.one k (rd_T33 p ((i + 1:Nat):Int)) bs).bind fun b => pool_Encode.l0 k p (i + 1) b) (fun k => by simp only [pool_Encode.l0];rw [if_pos hlt];rfl) ?_
   rw [drop_rd hlt,List.flatMap_cons,← List.append_assoc]
   exact Ev.bind (pool_Encode.ev_one hfit ok bs (by omega)) (ih (i + 1) _ (by omega) (by rw [List.length_append];omega) (by omega))
  ·exact stop i bs hlt (by omega)
def encPV (p:List Cst):List Int × Int:=if checkV p=0 then (poolL p,0) else ([],checkV p)
theorem pool_Encode.ev (p:List Cst) (hp:∀ c ∈ p,FitC c):Ev (fun k => pool_Encode.f k p) (encPV p):=by
 unfold pool_Encode.f encPV
 refine Ev.bind (pool_Check.ev p hp) ?_
 by_cases h:checkV p=0
 ·obtain ⟨h0,hl,hz,h1⟩:=checkV_ok h
  simp only [if_pos h]
  refine Ev.congr (fun k => if_pos ⟨h0,hl⟩) ?_
  rw [wU_ok (by simp only [List.length_nil];omega)]
  simp only [Option.bind_some,List.nil_append]
  refine Ev.bind (pool_Encode.ev_l hp hl h1 p.length 0 (beN 2 (p.length:Int)) (by omega) (by rw [beN_length];omega) (by omega)) ?_
  exact Ev.now _
 ·simp only [if_neg h]
  exact Ev.now _
theorem flat_len {l:List Cst}:(∀ c ∈ l,OkC c)→(l.flatMap constL).length≤259 * l.length:=by
 induction l with
 | nil => intro _;simp
 | cons c l ih =>
  intro h
  have h1:=constL_len (h c List.mem_cons_self)
  have h2:=ih (fun d hd => h d (List.mem_cons_of_mem _ hd))
  rw [List.flatMap_cons,List.length_append,List.length_cons]
  omega
theorem ok_drop {p:List Cst} (h:checkV p=0):∀ c ∈ p.drop 1,OkC c:=by
 obtain ⟨h0,hl,hz,h1⟩:=checkV_ok h
 intro c hc
 obtain ⟨j,hj⟩:=List.getElem?_of_mem hc
 rw [List.getElem?_drop] at hj
 have hlt:1 + j < p.length:=(List.getElem?_eq_some_iff.1 hj).1
 have:=oneV_ok hl (h1 (1 + j) (by omega) hlt)
 unfold rd_T33 at this
 rw [Int.toNat_natCast,List.getD_eq_getElem?_getD,hj] at this
 exact this
theorem poolL_len {p:List Cst} (h:checkV p=0):(poolL p).length≤265000:=by
 obtain ⟨h0,hl,hz,h1⟩:=checkV_ok h
 have:=flat_len (ok_drop h)
 unfold poolL
 rw [List.length_append,beN_length]
 rw [List.length_drop] at this
 omega
end Go.Proofs.YtglnhkgodgjepaaDoor.Px
namespace Go.Proofs.YtglnhkgodgjepaaDoor.Px
open Go.RowKit Go.Proofs.YtglnhkgodgjepaaDoorW.PrintWords Go.Proofs.YtglnhkgodgjepaaDoorW.PrintLast Go.Proofs.YtglnhkgodgjepaaDoorW.PrintMore
set_option linter.unusedVariables false
set_option linter.unusedSimpArgs false
theorem beN_bytes:∀ n x,IsBytes (beN n x)
 | 0,_ => fun y hy => by cases hy
 | n + 1,x => fun y hy => by
  rcases List.mem_cons.1 hy with rfl|hy
  ·omega
  ·exact beN_bytes n x y hy
theorem beV_beN:∀ n x,beV (beN n x)=x % 256 ^ n
 | 0,x => by simp [beN,beV]
 | n + 1,x => by
  rw [show beN (n + 1) x=(x / 2 ^ (8 * n) % 256) :: beN n x from rfl,beV_cons,beN_length,beV_beN n x]
  have e:(2:Int) ^ (8 * n)=256 ^ n:=by rw [Int.pow_mul];rfl
  rw [e,Int.pow_succ]
  have hp:(0:Int) < 256 ^ n:=Int.pow_pos (by decide)
  generalize (256:Int) ^ n=q at *
  have e1:=Int.emod_add_mul_ediv x q
  have e2:=Int.emod_add_mul_ediv (x / q) 256
  have e3:=Int.emod_add_mul_ediv x (q * 256)
  have e4:x / (q * 256)=x / q / 256:=(Int.ediv_ediv_of_nonneg (by omega)).symm
  rw [e4,Int.mul_assoc] at e3
  rw [Int.mul_comm _ q]
  have e5:q * (x / q)=q * (x / q % 256) + q * (256 * (x / q / 256)):=by rw [← Int.mul_add,e2]
  omega
theorem rdL_mid {A X R:List Int} {q n:Nat} (hq:A.length=q) (hn:X.length=n):rdL (A++X++R) q n=X∧rdE (A++X++R) q n=0∧rdP (A++X++R) q n=q + n:=by
 have h:q + n≤(A++X++R).length:=by rw [List.length_append,List.length_append];omega
 refine ⟨?_,if_pos h,if_pos h⟩
 unfold rdL
 rw [if_pos h,List.append_assoc,List.take_append,List.take_of_length_le (by omega),List.drop_append,List.drop_eq_nil_of_le (by omega),hq]
 simp only [List.nil_append,Nat.sub_self,List.drop_zero]
 rw [show q + n - q=n by omega,List.take_append,List.take_of_length_le (by omega),hn,Nat.sub_self]
 simp
theorem uV_mid {A R:List Int} {q n:Nat} {x:Int} (hq:A.length=q) (h0:0≤x) (h1:x < 256 ^ n):uV (A++beN n x++R) q n=(x,0,q + n):=by
 obtain ⟨e1,e2,e3⟩:=rdL_mid (A:=A) (X:=beN n x) (R:=R) hq (beN_length n x)
 unfold uV
 rw [e1,e2,e3,beV_beN,Int.emod_eq_of_lt h0 h1]
theorem intV_beN4 {x:Int} (h0:-2147483648≤x) (h1:x≤2147483647):intV (beN 4 x)=x:=by
 have hr:rd (beN 4 x) 0=x / 16777216 % 256:=by simp [beN,rd]
 unfold intV
 rw [hr,beV_beN,beN_length]
 split <;> omega
theorem intV_beN8 {x:Int} (h0:-9223372036854775808≤x) (h1:x≤9223372036854775807):intV (beN 8 x)=x:=by
 have hr:rd (beN 8 x) 0=x / 72057594037927936 % 256:=by simp [beN,rd]
 unfold intV
 rw [hr,beV_beN,beN_length]
 split <;> omega
theorem iV_mid {A X R:List Int} {q n:Nat} (hq:A.length=q) (hn:X.length=n):iV (A++X++R) q n=(intV X,0,q + n):=by
 obtain ⟨e1,e2,e3⟩:=rdL_mid (A:=A) (X:=X) (R:=R) hq hn
 have h:q + n≤(A++X++R).length:=by rw [List.length_append,List.length_append];omega
 unfold iV
 rw [if_pos h,e1]
theorem no_text {s:ByteArray} (h:s.toList=[]):s=⟨#[]⟩:=by
 rw [Lib.toList_data] at h
 cases s with
 | mk d =>
  have:d=#[]:=by
   have:=congrArg List.toArray h
   simpa using this
  rw [this]
theorem DecV_encV {s:ByteArray} (h:(encV s).2=0):DecV (encV s).1=(s,0):=by
 unfold encV at h ⊢
 by_cases hv:Lib.validD s.data.toList=true
 ·rw [if_pos hv]
  show decV _ (encL s.data.toList) []=_
  rw [dec_enc s.data.toList.length s.data.toList [] _ (Nat.le_refl _) hv (Nat.lt_succ_self _),List.nil_append,strOfNums_nums]
 ·rw [if_neg hv] at h
  exact absurd h (by decide)
theorem constV_mid {A R:List Int} {q:Nat} {c:Cst} (hq:A.length=q) (hf:FitC c) (h:OkC c):constV (A++constL c++R) q=(c,0,q + (constL c).length):=by
 have htag:0≤c.f0∧c.f0 < 256 ^ 1:=by have:=h.tag;omega
 have e0:A++constL c++R=A++beN 1 c.f0++(bodyL c++R):=by unfold constL;simp only [List.append_assoc]
 have e1:uV (A++constL c++R) q 1=(c.f0,0,q + 1):=by rw [e0];exact uV_mid hq htag.1 htag.2
 have hlen:q + (constL c).length=q + 1 + (bodyL c).length:=by unfold constL;rw [List.length_append,beN_length];omega
 rw [hlen]
 unfold constV
 rw [e1]
 simp only [if_true]
 obtain ⟨A1,hA1⟩:∃ A1,A1=A++beN 1 c.f0:=⟨_,rfl⟩
 have hq1:A1.length=q + 1:=by rw [hA1,List.length_append,beN_length,hq]
 have e2:A++constL c++R=A1++bodyL c++R:=by rw [e0,hA1];simp only [List.append_assoc]
 rw [e2]
 clear e0 e1 e2 hA1 hlen
 generalize q + 1=p at *
 have hb:=h.bare
 unfold bareV at hb
 have hw:-9223372036854775808≤c.f2∧c.f2≤9223372036854775807:=by
  have:=hf.2
  simp [Lit.wf,IntKind.min,IntKind.max,IntKind.bits,IntKind.signed] at this
  omega
 obtain ⟨t,s,n,a,b⟩:=c
 simp only at hb hw htag
 unfold bodyV bodyL
 simp only
 by_cases h1:t=1
 ·rw [if_pos h1] at hb
  obtain ⟨hn,ha,hbb⟩:=of_decide_eq_true hb
  obtain ⟨ht1,ht2⟩:=h.txt h1
  simp only at ht1 ht2
  simp only [if_pos h1]
  have x1:uV (A1++(beN 2 ((encV s).1.length:Int)++(encV s).1)++R) p 2=(((encV s).1.length:Int),0,p + 2):=by
   have:=uV_mid (A:=A1) (R:=(encV s).1++R) (n:=2) (x:=((encV s).1.length:Int)) hq1 (by omega) (by omega)
   simpa only [List.append_assoc] using this
  have x2:=rdL_mid (A:=A1++beN 2 ((encV s).1.length:Int)) (X:=(encV s).1) (R:=R) (q:=p + 2) (by rw [List.length_append,beN_length,hq1]) rfl
  rw [List.append_assoc A1] at x2
  rw [x1]
  simp only [if_true,Int.toNat_natCast]
  rw [if_neg (by omega),if_pos x2.2.1,x2.1,x2.2.2,DecV_encV ht1]
  simp only [hn,ha,hbb,List.length_append,beN_length]
  rw [Nat.add_assoc]
 ·rw [if_neg h1] at hb
  have htx:s=⟨#[]⟩:=by
   split at hb
   ·exact no_text (of_decide_eq_true hb).1
   ·split at hb
    ·exact no_text (of_decide_eq_true hb).1
    ·exact no_text (of_decide_eq_true hb).1
  simp only [if_neg h1]
  by_cases h3:t=3
  ·rw [if_pos (.inl h3)] at hb
   obtain ⟨_,ha,hbb⟩:=of_decide_eq_true hb
   have hr:=h.num h3
   simp only [if_pos h3]
   rw [iV_mid hq1 (beN_length 4 n),intV_beN4 hr.1 hr.2,htx]
   simp only [ha,hbb,beN_length]
  simp only [if_neg h3]
  by_cases h5:t=5
  ·rw [if_pos (.inr h5)] at hb
   obtain ⟨_,ha,hbb⟩:=of_decide_eq_true hb
   simp only [if_pos h5]
   rw [iV_mid hq1 (beN_length 8 n),intV_beN8 hw.1 hw.2,htx]
   simp only [ha,hbb,beN_length]
  simp only [if_neg h5]
  rw [if_neg (by omega)] at hb
  have hra:=h.a h1 h3 h5
  simp only at hra
  by_cases h7:t=7
  ·rw [if_pos h7] at hb
   obtain ⟨_,hn,hbb⟩:=of_decide_eq_true hb
   simp only [if_pos h7]
   rw [uV_mid hq1 (by omega) (by omega),htx]
   simp only [hn,hbb,beN_length]
  rw [if_neg h7] at hb
  obtain ⟨_,hn⟩:=of_decide_eq_true hb
  simp only [if_neg h7]
  have hrb:=h.b h1 h3 h5 h7
  simp only at hrb
  have ht:=h.tag
  simp only at ht
  rw [if_pos (by omega)]
  have x1:uV (A1++(beN 2 a++beN 2 b)++R) p 2=(a,0,p + 2):=by
   have:=uV_mid (A:=A1) (R:=beN 2 b++R) (n:=2) (x:=a) hq1 (by omega) (by omega)
   simpa only [List.append_assoc] using this
  have x2:uV (A1++(beN 2 a++beN 2 b)++R) (p + 2) 2=(b,0,p + 2 + 2):=by
   have:=uV_mid (A:=A1++beN 2 a) (R:=R) (n:=2) (x:=b) (q:=p + 2) (by rw [List.length_append,beN_length,hq1]) (by omega) (by omega)
   simpa only [List.append_assoc] using this
  rw [x1]
  simp only [twoV_zero]
  rw [x2,htx]
  simp only [hn,List.length_append,beN_length]
theorem constL_bytes {c:Cst} (h:OkC c):IsBytes (constL c):=by
 have app:∀ {a b:List Int},IsBytes a→IsBytes b→IsBytes (a++b):=fun ha hb x hx => by rcases List.mem_append.1 hx with q|q;exact ha x q;exact hb x q
 unfold constL bodyL
 refine app (beN_bytes _ _) ?_
 by_cases h1:c.f0=1
 ·rw [if_pos h1]
  refine app (beN_bytes _ _) ?_
  have ht:=(h.txt h1).1
  unfold encV at ht ⊢
  by_cases hv:Lib.validD c.f1.data.toList=true
  ·rw [if_pos hv]
   exact (encL_all _ _ (Nat.le_refl _)).2
  ·rw [if_neg hv] at ht
   exact absurd ht (by decide)
 rw [if_neg h1]
 repeat' split
 all_goals first|exact beN_bytes _ _|exact app (beN_bytes _ _) (beN_bytes _ _)
theorem flat_bytes {l:List Cst} (h:∀ c ∈ l,OkC c):IsBytes (l.flatMap constL):=by
 intro x hx
 obtain ⟨c,hc,hx⟩:=List.mem_flatMap.1 hx
 exact constL_bytes (h c hc) x hx
theorem zero_is {c:Cst} (h:zeroV c=true):c=z33:=by
 obtain ⟨h0,h1,h2,h3,h4⟩:=of_decide_eq_true h
 obtain ⟨t,s,n,a,b⟩:=c
 simp only at h0 h1 h2 h3 h4
 rw [h0,no_text h1,h2,h3,h4]
 rfl
theorem take_one {p:List Cst} (h:checkV p=0):p=z33 :: p.drop 1:=by
 obtain ⟨h0,hl,hz,h1⟩:=checkV_ok h
 cases p with
 | nil => simp at h0
 | cons c p =>
  have:c=z33:=zero_is hz
  rw [this]
  rfl
theorem decL_mid {p:List Cst} (h:checkV p=0) (hp:∀ c ∈ p,FitC c) (R:List Int):∀ (l ps:List Cst) (A:List Int) (f:Nat),p=ps++l→(∀ c ∈ l,OkC c)→l.length≤f →
  decL (f + 1) (A++l.flatMap constL++R) (p.length:Int) ps A.length=(p,((A.length + (l.flatMap constL).length:Nat):Int),0)
 | [],ps,A,f,e,_,_ => by
  rw [List.append_nil] at e
  subst e
  unfold decL
  rw [if_neg (by omega),if_pos h]
  simp
 | c :: l,ps,A,f,e,ho,hf => by
  obtain ⟨f,rfl⟩:∃ m,f=m + 1:=⟨f - 1,by simp at hf;omega⟩
  have hlt:(ps.length:Int) < (p.length:Int):=by rw [e,List.length_append,List.length_cons];omega
  rw [decL,if_pos hlt,List.flatMap_cons]
  have hc:=constV_mid (A:=A) (R:=l.flatMap constL++R) (c:=c) rfl (hp c (by rw [e];simp)) (ho c List.mem_cons_self)
  have e1:A++(constL c++l.flatMap constL)++R=A++constL c++(l.flatMap constL++R):=by simp only [List.append_assoc]
  rw [e1,hc]
  simp only [if_true]
  have ih:=decL_mid h hp R l (ps++[c]) (A++constL c) f (by rw [e];simp) (fun d hd => ho d (List.mem_cons_of_mem _ hd)) (by simp at hf;omega)
  rw [List.length_append] at ih
  rw [← List.append_assoc,ih]
  congr 2
  rw [List.length_append]
  omega
theorem decPV_poolL {p:List Cst} (h:checkV p=0) (hp:∀ c ∈ p,FitC c) (R:List Int):decPV (poolL p++R)=(p,((poolL p).length:Int),0):=by
 obtain ⟨h0,hl,hz,h1⟩:=checkV_ok h
 have e0:poolL p++R=[]++beN 2 (p.length:Int)++((p.drop 1).flatMap constL++R):=by unfold poolL;simp
 have e1:uV (poolL p++R) 0 2=((p.length:Int),0,2):=by rw [e0];exact uV_mid rfl (by omega) (by omega)
 unfold decPV
 rw [e1]
 simp only [if_true]
 rw [if_neg (by omega),if_neg (by omega)]
 have hd:=decL_mid h hp R (p.drop 1) [z33] (beN 2 (p.length:Int)) (p.length:Int).toNat (take_one h) (ok_drop h) (by rw [List.length_drop];omega)
 rw [beN_length] at hd
 have e2:poolL p++R=beN 2 (p.length:Int)++(p.drop 1).flatMap constL++R:=rfl
 rw [e2,hd]
 have e3:(poolL p).length=2 + ((p.drop 1).flatMap constL).length:=by unfold poolL;rw [List.length_append,beN_length]
 rw [e3]
theorem poolL_bytes {p:List Cst} (h:checkV p=0):IsBytes (poolL p):=by
 unfold poolL
 intro x hx
 rcases List.mem_append.1 hx with q|q
 ·exact beN_bytes _ _ x q
 ·exact flat_bytes (ok_drop h) x q
end Go.Proofs.YtglnhkgodgjepaaDoor.Px
namespace Go.Proofs.YtglnhkgodgjepaaDoor.Px
open Go.RowKit Go.Proofs.YtglnhkgodgjepaaDoorW.PrintWords Go.Proofs.YtglnhkgodgjepaaDoorW.PrintLast Go.Proofs.YtglnhkgodgjepaaDoorW.PrintMore
set_option linter.unusedVariables false
set_option linter.unusedSimpArgs false
theorem pool_awake.eq:understudylaw04_awake.f=some true:=by
 unfold understudylaw04_awake.f
 rw [pool_Text.eq,Option.bind_some]
 have h:textV [(⟨0,(⟨#[]⟩:ByteArray),0,0,0⟩:S33),(⟨1,(⟨#[65]⟩:ByteArray),0,0,0⟩:S33)] 1=((⟨#[65]⟩:ByteArray),true):=rfl
 rw [h,Lib.toList_data]
 rfl
end Go.Proofs.YtglnhkgodgjepaaDoor.Px
namespace Go.Proofs.YtglnhkgodgjepaaDoor.Px
open Go.RowKit Go.Proofs.YtglnhkgodgjepaaDoorW.PrintWords Go.Proofs.YtglnhkgodgjepaaDoorW.PrintLast Go.Proofs.YtglnhkgodgjepaaDoorW.PrintMore
set_option linter.unusedVariables false
set_option linter.unusedSimpArgs false
theorem same.ev_l (ps:List S33) (hp:ps.length≤1048576):∀ n (i:Nat),ps.length≤i + n→Ev (fun k => understudylaw04_same.l0 k ps ps (i:Int)) true:=by
 have stop:∀ i:Nat,¬ i < ps.length→Ev (fun k => understudylaw04_same.l0 k ps ps (i:Int)) true:=fun i hi => Ev.step (f:=fun _ => some true) (fun k => by simp only [understudylaw04_same.l0];rw [if_neg (by omega)]) (Ev.now _)
 intro n
 induction n with
 | zero => intro i h;exact stop i (by omega)
 | succ n ih =>
  intro i h
  by_cases hi:i < ps.length
  ·have e4:wrap64 ((i:Int) + 1)=((i + 1:Nat):Int):=by unfold wrap64;omega
   refine Ev.step (f:=fun k => understudylaw04_same.l0 k ps ps ((i + 1:Nat):Int)) (fun k => ?_) (ih (i + 1) (by omega))
   simp only [understudylaw04_same.l0]
   rw [if_pos (by omega),if_pos (by omega),if_pos (by omega),if_neg (by simp),e4]
  ·exact stop i hi
theorem same.ev (ps:List S33) (hp:ps.length≤1048576):Ev (fun k => understudylaw04_same.f k ps ps) true:=by
 unfold understudylaw04_same.f
 exact Ev.congr (fun k => if_pos rfl) (same.ev_l ps hp ps.length 0 (by omega))
end Go.Proofs.YtglnhkgodgjepaaDoor.Px
namespace Go.Proofs.YtglnhkgodgjepaaDoor.Px
open Go.RowKit Go.Proofs.YtglnhkgodgjepaaDoorW.PrintWords Go.Proofs.YtglnhkgodgjepaaDoorW.PrintLast Go.Proofs.YtglnhkgodgjepaaDoorW.PrintMore
set_option linter.unusedVariables false
set_option linter.unusedSimpArgs false
theorem PoolBack_pure (p:List Cst) (l1:List Int) (hp:∀ c ∈ p,FitC c) (h1:l1.length≤1048576) (hw:∀ x ∈ l1,(Lit.int .u8 x).wf=true):∃ k,understudylaw04_PoolBack.f k p l1=some true:=by
 have hb:=bytes_of_wf hw
 refine Ev.rounds ?_
 unfold understudylaw04_PoolBack.f
 refine Ev.bind (pool_Encode.ev p hp) ?_
 unfold encPV
 by_cases h:checkV p=0
 ·have hl:=poolL_len h
  have hbl:=poolL_bytes h
  obtain ⟨h0,hle,_,_⟩:=checkV_ok h
  have hall:IsBytes (poolL p++l1):=fun x hx => by rcases List.mem_append.1 hx with q|q;exact hbl x q;exact hb x q
  simp only [if_pos h,if_true,Option.bind_some,List.nil_append,List.length_nil]
  refine Ev.congr (fun k => (if_pos (by omega)).trans (if_pos (by omega))) ?_
  refine Ev.bind (pool_Decode.ev hall (by rw [List.length_append];omega)) ?_
  rw [decPV_poolL h hp l1]
  simp only [if_true]
  refine Ev.bind (same.ev p (by omega)) ?_
  simp only [if_true]
  rw [pool_awake.eq]
  exact Ev.now _
 ·simp only [if_neg h]
  refine Ev.bind (pool_Check.ev p hp) ?_
  refine Ev.congr (fun k => if_pos rfl) ?_
  rw [pool_awake.eq]
  exact Ev.now _
end Go.Proofs.YtglnhkgodgjepaaDoor.Px
