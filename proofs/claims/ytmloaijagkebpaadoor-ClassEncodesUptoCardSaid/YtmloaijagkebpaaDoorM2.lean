/- pool.check, pool.Check: what they compute, as Lean functions, and the walks; errors.As by the worked example's contracts. -/
import Derived.Test.YtmloaijagkebpaaDoorM1
import Derived.BigCall
import Derived.Deep.CutBlock
import Derived.Deep.RegionHeld3
namespace Go.Proofs.YtmloaijagkebpaaDoor.Px
open Go.RowKit Go.Proofs.YtmloaijagkebpaaDoorW.PrintWords Go.Proofs.YtmloaijagkebpaaDoorW.PrintLast Go.Proofs.YtmloaijagkebpaaDoorW.PrintMore
set_option linter.unusedVariables false
set_option linter.unusedSimpArgs false
abbrev Cst:=S60
def sameC (c:Cst) (x:Int × ByteArray × Int × Int × Int):Bool:=c.f0==x.1 && (c.f1.toList==x.2.1.toList && (c.f2==x.2.2.1 && (c.f3==x.2.2.2.1 && c.f4==x.2.2.2.2)))
def pool_check.l0:Nat→List Cst→Nat→Option (Option (Int × Int))
 | 0,_,_ => none
 | k + 1,p,i =>
  if i + 1 < p.length then
   (pool_fields.f k (rd_T60 p (i + 1)).f0 (rd_T60 p (i + 1)).f1 (rd_T60 p (i + 1)).f2 (rd_T60 p (i + 1)).f3 (rd_T60 p (i + 1)).f4).bind fun x =>
   if sameC (rd_T60 p (i + 1)) x=true then
    (pool_leads.f k p (rd_T60 p (i + 1)).f0 (rd_T60 p (i + 1)).f1 (rd_T60 p (i + 1)).f2 (rd_T60 p (i + 1)).f3 (rd_T60 p (i + 1)).f4).bind fun t =>
    if t=true then
     (text_Encode.f k (rd_T60 p (i + 1)).f1).bind fun b =>
     if b.2=0 then (if (b.1.length:Int) > 256 then some (some ((i:Int) + 1,20)) else pool_check.l0 k p (i + 1)) else some (some ((i:Int) + 1,20))
    else some (some ((i:Int) + 1,40))
   else some (some ((i:Int) + 1,40))
  else some none
def pool_check.f (k:Nat) (p:List Cst):Option (Option (Int × Int)) :=
 if p.length > 1024 then some (some (0,2)) else if p.length=0 then some (some (0,40)) else if sameC (rd_T60 p 0) (0,⟨#[]⟩,0,0,0)=true then pool_check.l0 k p 0 else some (some (0,40))
def pool_Check.f (k:Nat) (p:List Cst):Option Int:=(pool_check.f k p).bind fun r => some (match r with|none => 0|some (_,y) => y)
def IsWrong (w':World) (r:Option (Int × Int)) (e:Ending):Prop :=
 match r with
 | none => e=.returned .nilIface
 | some q => ∃ g,e=.returned (.iface 85 (.pointer (some ⟨g,0,none⟩)))∧w'.heap[g]?=some (.cells #[.int .i64 q.1,.int .i64 q.2] 92 (0,0))
theorem eqC0 (d:Nat) (w:World) (x0 y0:Int) (x1 y1:ByteArray) (x2 y2:Int) (x3 y3:Int) (x4 y4:Int) :
  (Op.equalIn (d + 2) 60 (.agg #[.int .i64 x0,.string x1,.int .i64 x2,.int .i64 x3,.int .i64 x4]) (.agg #[.int .i64 y0,.string y1,.int .i64 y2,.int .i64 y3,.int .i64 y4])).run Tryd.prog w=.ok (x0==y0 && (x1.toList==y1.toList && (x2==y2 && (x3==y3 && (x4==y4))))) w:=by
 refine eqA_of Tryd.underlying60 (by kernel_rfl) ?_
 refine eqf_cons (by rfl) (by go_simp;rfl) (by go_simp;rfl) (by go_simp) ?_
 refine eqf_cons (by rfl) (by go_simp;rfl) (by go_simp;rfl) (by go_simp) ?_
 refine eqf_cons (by rfl) (by go_simp;rfl) (by go_simp;rfl) (by go_simp) ?_
 refine eqf_cons (by rfl) (by go_simp;rfl) (by go_simp;rfl) (by go_simp) ?_
 exact eqf_last (by rfl) (by go_simp;rfl) (by go_simp;rfl) (by go_simp)
theorem eqC (d:Nat) (W:World) (c:Cst) (x1:Int) (x2:ByteArray) (x3 x4 x5:Int) :
  (Op.equalIn (d + 2) 60 (.agg #[.int .i64 c.f0,.string c.f1,.int .i64 c.f2,.int .i64 c.f3,.int .i64 c.f4]) (.agg #[.int .i64 x1,.string x2,.int .i64 x3,.int .i64 x4,.int .i64 x5])).run Tryd.prog W=.ok (sameC c (x1,x2,x3,x4,x5)) W :=
 eqC0 d W _ _ _ _ _ _ _ _ _ _
attribute [local go_sem high] eqC
set_option maxHeartbeats 80000000 in
set_option maxRecDepth 100000 in
theorem pool_check.calls (k:Nat) (A0:Option Addr) (c0:Nat) (p:List Cst) (r:Option (Int × Int)) (w:World) (hG:Aside0 (GG w)) (hr0:Kd.C k60 w A0 p.length p) (hc0:p.length≤c0) (h:pool_check.f k p=some r) :
  Calls Tryd.prog 43 #[.slice A0 p.length c0] w fun e w' => IsWrong w' r e∧Below w.heap.size w w':=by
 have hu1:=Tryd.underlying60
 have hu2:=Tryd.underlying92
 have HR:=Aside0.mk hr0
 have HC:=Aside0.mk hc0
 have HB0:=Aside0.mk (Below.refl w.heap.size w)
 clear hr0 hc0
 unfold pool_check.f at h
 by_cases c1:p.length > 1024
 ·rw [if_pos c1] at h
  obtain rfl:=Option.some.inj h
  have c1b:decide (1024 < p.length)=true:=decide_eq_true c1
  have c1i:decide ((1024:Int) < (p.length:Int))=true:=decide_eq_true (by omega)
  clear c1 h
  go_enter Tryd.func43,Tryd.ntmps43
  go_wp2_with ((with_reducible refine gate_dst (N:=12) rfl ?_);refine box_event ?hg (N:=12) ?hd (cs:=#[.int .i64 0,.int .i64 2]) (t:=92) ?hr ?_;(case hd => rfl);(case hg => rfl);(case hr => first|(go_simp;done)|(go_simp;rfl));intro gb hg w1 hbox hb;have BK:=Aside0.mk hbox;have HB:=Aside0.mk (below_step HB0.out hb);clear hbox hb hg)
  go_ret
  exact ⟨⟨gb,rfl,BK.out⟩,HB.out⟩
 rw [if_neg c1] at h
 have c1b:decide (1024 < p.length)=false:=decide_eq_false c1
 have c1i:decide ((1024:Int) < (p.length:Int))=false:=decide_eq_false (by omega)
 clear c1
 by_cases c2:p.length=0
 ·rw [if_pos c2] at h
  obtain rfl:=Option.some.inj h
  have c2i:((p.length:Int)==0)=true:=beq_iff_eq.mpr (by omega)
  have c2n:(p.length==0)=true:=beq_iff_eq.mpr c2
  clear c2 h
  go_enter Tryd.func43,Tryd.ntmps43
  go_wp2_with ((with_reducible refine gate_dst (N:=26) rfl ?_);refine box_event ?hg (N:=26) ?hd (cs:=#[.int .i64 0,.int .i64 40]) (t:=92) ?hr ?_;(case hd => rfl);(case hg => rfl);(case hr => first|(go_simp;done)|(go_simp;rfl));intro gb hg w1 hbox hb;have BK:=Aside0.mk hbox;have HB:=Aside0.mk (below_step HB0.out hb);clear hbox hb hg)
  go_ret
  exact ⟨⟨gb,rfl,BK.out⟩,HB.out⟩
 rw [if_neg c2] at h
 have c2i:((p.length:Int)==0)=false:=beq_eq_false_iff_ne.mpr (by omega)
 have HL:=Aside0.mk (show 0 < p.length by omega)
 clear c2
 obtain ⟨ad,ea,hx0,hx1,hx2,hx3,hx4⟩:=at_T60 HR.out 0 (by omega) (by have:=HL.out;omega)
 subst ea
 have qi:(0 < p.length)=True:=eq_true HL.out
 simp only [show ((0:Int)).toNat=0 from rfl,Nat.zero_mul,Addr.add_zero'] at hx0 hx1 hx2 hx3 hx4
 by_cases c3:sameC (rd_T60 p 0) (0,⟨#[]⟩,0,0,0)=true
 ·rw [if_pos c3] at h
  have hEq:sameC (rd_T60 p 0) (0,⟨#[]⟩,0,0,0)=true:=c3
  have HH:=Aside0.mk h
  clear c3 h
  obtain ⟨i0,hi0,_,hsz,_⟩:=info_parts info60
  have hs1:=cut_from (P:=Tryd.prog) 22 60 .i64 Tryd.underlying22 hi0 5 hsz (some ad) p.length c0 1 (by decide) (by have:=HL.out;omega)
  obtain ⟨A1,hA1⟩:∃ A1,A1=(if c0=(1:Int).toNat then some ad else (some ad).map (·.add ((1:Int).toNat * 5))):=⟨_,rfl⟩
  rw [← hA1] at hs1
  have HD:=Aside0.mk (show Kd.C k60 w A1 (p.drop 1).length (p.drop 1) from by rw [hA1];exact Kd.C_drop (m:=1) (c:=c0) HR.out HL.out HC.out)
  clear hA1
  go_enter Tryd.func43,Tryd.ntmps43
  go_wp2
  clear hx0 hx1 hx2 hx3 hx4
  go_loopg [31] k (fun kq v31 w' => ∃ i:Nat,v31=.int .i64 (i:Int)∧Aside0 (pool_check.l0 kq p i=some r)∧Aside0 (kq≤k)∧Aside0 (i + 1≤p.length)∧Aside0 (Below w.heap.size w w'))
  case atStart => exact ⟨0,rfl,HH,⟨Nat.le_refl _⟩,⟨HL.out⟩,HB0⟩
  case round =>
   obtain ⟨i,rfl,HA,HK,HI,HB⟩:=hrel
   cases gk with
   | zero => exact absurd HA.out (by simp [pool_check.l0])
   | succ k1 =>
   have H:=HA.out
   clear HA
   simp only [pool_check.l0] at H
   have hlen:(p.drop 1).length=p.length - 1:=List.length_drop
   by_cases hp:i + 1 < p.length
   ·rw [if_pos hp] at H
    have hpi:decide ((i:Int) < ((p.length - 1:Nat):Int))=true:=decide_eq_true (by omega)
    have hpn:decide (i < p.length - 1)=true:=decide_eq_true (by omega)
    have hpt:(i < p.length - 1)=True:=eq_true (by omega)
    have hge:(0≤(i:Int))=True:=eq_true (by omega)
    have hrd:rd_T60 p ((i:Int) + 1)=rd_T60 (p.drop 1) (i:Int):=by
     unfold rd_T60
     rw [Int.toNat_natCast,show ((i:Int) + 1).toNat=i + 1 by omega,List.getD_eq_getElem?_getD,List.getD_eq_getElem?_getD,List.getElem?_drop,Nat.add_comm]
    rw [hrd] at H
    obtain ⟨a1,ea,hx0,hx1,hx2,hx3,hx4⟩:=at_T60 (Kd.C_below HD.out HB.out) (i:Int) (by omega) (by omega)
    subst ea
    simp only [Int.toNat_natCast] at hx0 hx1 hx2 hx3 hx4
    obtain ⟨cc,hcc⟩:∃ cc,cc=rd_T60 (p.drop 1) (i:Int):=⟨_,rfl⟩
    rw [← hcc] at H hx0 hx1 hx2 hx3 hx4
    have hcap:p.length≤1024:=by simpa using c1b
    have HPI:=Aside0.mk (show i < 1024 from by omega)
    clear hp hcc hrd
    obtain ⟨⟨x1,x2,x3,x4,x5⟩,hf,H⟩:=Option.bind_eq_some_iff.mp H
    have HF:=Aside0.mk hf
    clear hf
    go_wp2_with (first|((with_reducible refine gate_dst (N:=4) rfl ?_);refine box_event ?hg (N:=4) ?hd (cs:=#[.int .i64 0,.string (⟨#[]⟩:ByteArray),.int .i64 0,.int .i64 0,.int .i64 0]) (t:=60) ?hr ?_;(case hd => rfl);(case hg => rfl);(case hr => first|(go_simp;done)|(go_simp;rfl));intro gb hg w1 hbox hb;have BK:=Aside0.mk hbox;have GE:=Aside0.mk (show w.heap.size≤gb from by rw [hg];exact HB.out.size);have HB1:=Aside0.mk (below_step HB.out hb);have hz0:w1.cell? ⟨gb,0,none⟩=some (.int .i64 0):=(blk_cell BK.out 0).trans rfl;have hz1:w1.cell? ⟨gb,1,none⟩=some (.string (⟨#[]⟩:ByteArray)):=(blk_cell BK.out 1).trans rfl;have hz2:w1.cell? ⟨gb,2,none⟩=some (.int .i64 0):=(blk_cell BK.out 2).trans rfl;have hz3:w1.cell? ⟨gb,3,none⟩=some (.int .i64 0):=(blk_cell BK.out 3).trans rfl;have hz4:w1.cell? ⟨gb,4,none⟩=some (.int .i64 0):=(blk_cell BK.out 4).trans rfl;have hf0:=blk_frozen BK.out 0;have hf1:=blk_frozen BK.out 1;have hf2:=blk_frozen BK.out 2;have hf3:=blk_frozen BK.out 3;have hf4:=blk_frozen BK.out 4;clear hbox hb hg)|((with_reducible refine gate_store (t:=60) (p:=4) rfl ?_);refine store_event (t:=60) (p:=4) (v:=?vo_) (w1:=(((((w1.setCell ⟨gb,0,none⟩ (.int .i64 cc.f0)).setCell ⟨gb,1,none⟩ (.string cc.f1)).setCell ⟨gb,2,none⟩ (.int .i64 cc.f2)).setCell ⟨gb,3,none⟩ (.int .i64 cc.f3)).setCell ⟨gb,4,none⟩ (.int .i64 cc.f4))) ?hg ?ho ?hn ?hr ?_;(case ho => rfl);(case hg => rfl);(case hn => rfl);(case hr => first|(go_simp;done)|(go_simp;rfl));intro w2 hw;have BK2:=Aside0.mk (show w2.heap[gb]?=some (.cells #[.int .i64 cc.f0,.string cc.f1,.int .i64 cc.f2,.int .i64 cc.f3,.int .i64 cc.f4] 60 (0,0)) from by rw [hw];refine blk_put (cs:=#[.int .i64 cc.f0,.string cc.f1,.int .i64 cc.f2,.int .i64 cc.f3,.int .i64 0]) ?_ 4 _ rfl;refine blk_put (cs:=#[.int .i64 cc.f0,.string cc.f1,.int .i64 cc.f2,.int .i64 0,.int .i64 0]) ?_ 3 _ rfl;refine blk_put (cs:=#[.int .i64 cc.f0,.string cc.f1,.int .i64 0,.int .i64 0,.int .i64 0]) ?_ 2 _ rfl;refine blk_put (cs:=#[.int .i64 cc.f0,.string (⟨#[]⟩:ByteArray),.int .i64 0,.int .i64 0,.int .i64 0]) ?_ 1 _ rfl;refine blk_put (cs:=#[.int .i64 0,.string (⟨#[]⟩:ByteArray),.int .i64 0,.int .i64 0,.int .i64 0]) ?_ 0 _ rfl;exact BK.out);have HB2:=Aside0.mk (show Below w.heap.size w w2 from by rw [hw];refine below_set ?_ GE.out;refine below_set ?_ GE.out;refine below_set ?_ GE.out;refine below_set ?_ GE.out;refine below_set ?_ GE.out;exact HB1.out);have hc0:w2.cell? ⟨gb,0,none⟩=some (.int .i64 cc.f0):=(blk_cell BK2.out 0).trans rfl;have hc1:w2.cell? ⟨gb,1,none⟩=some (.string cc.f1):=(blk_cell BK2.out 1).trans rfl;have hc2:w2.cell? ⟨gb,2,none⟩=some (.int .i64 cc.f2):=(blk_cell BK2.out 2).trans rfl;have hc3:w2.cell? ⟨gb,3,none⟩=some (.int .i64 cc.f3):=(blk_cell BK2.out 3).trans rfl;have hc4:w2.cell? ⟨gb,4,none⟩=some (.int .i64 cc.f4):=(blk_cell BK2.out 4).trans rfl;clear hw))
    by_cases hs:sameC cc (x1,x2,x3,x4,x5)=true
    ·rw [if_pos hs] at H
     have hEqc:sameC cc (x1,x2,x3,x4,x5)=true:=hs
     have hwi:wrap64 ((i:Int) + 1)=(i:Int) + 1:=by have:=HPI.out;unfold wrap64;omega
     clear hs
     obtain ⟨t,hld,H⟩:=Option.bind_eq_some_iff.mp H
     have HLD:=Aside0.mk hld
     clear hld
     cases t with
     | false =>
      rw [if_neg (by simp)] at H
      obtain rfl:=Option.some.inj H
      clear H
      refine start_ (n:=10) (S:=fun w' => w'.cell? ⟨gb,0,none⟩=some (.int .i64 cc.f0)∧w'.cell? ⟨gb,1,none⟩=some (.string cc.f1)∧w'.cell? ⟨gb,2,none⟩=some (.int .i64 cc.f2)∧w'.cell? ⟨gb,3,none⟩=some (.int .i64 cc.f3)∧w'.cell? ⟨gb,4,none⟩=some (.int .i64 cc.f4)) (ds:=[]) #[false,false,false,false,false,false,false,false,false,false] (by kernel_rfl) rfl rfl ⟨hc0,hc1,hc2,hc3,hc4⟩ (fun hHeld => ?_)
      refine take_ (i:=0) (N:=some 36) (v:=?_) (a':=?_) #[true,false,false,false,false,false,false,false,false,false] rfl rfl (by kernel_rfl) (fun _ _ _ h => h) (Or.inl ⟨by rfl,?_⟩) hHeld ?_ ?_
      rotate_left
      ·rintro w' ⟨s0,s1,s2,s3,s4⟩
       go_simp
       with_reducible rfl
      rotate_left
      ·simp only [Act.put,List.setIfInBounds_toArray,List.set_cons_zero,List.set_cons_succ,i64_w,i32_w]
       rfl
      refine take_ (i:=1) (N:=some 37) (v:=?_) (a':=?_) #[true,true,false,false,false,false,false,false,false,false] rfl rfl (by kernel_rfl) (fun _ _ _ h => h) (Or.inl ⟨by rfl,?_⟩) hHeld ?_ ?_
      rotate_left
      ·rintro w' ⟨s0,s1,s2,s3,s4⟩
       go_simp
       with_reducible rfl
      rotate_left
      ·simp only [Act.put,List.setIfInBounds_toArray,List.set_cons_zero,List.set_cons_succ,i64_w,i32_w]
       rfl
      refine one_ (i:=2) (N:=some 38) #[true,true,true,false,false,false,false,false,false,false] rfl rfl (by kernel_rfl) (by decide) (fun K hK => ?_)
      refine goes_ Tryd.func59 (by kernel_rfl) rfl #[.agg #[.int .i64 cc.f0,.string cc.f1,.int .i64 cc.f2,.int .i64 cc.f3,.int .i64 cc.f4]] (by rfl) rfl rfl (by simp only [List.map_toArray,List.map_cons,List.map_nil];rfl) ?_
      with_reducible refine (pool_fields.calls k1 cc.f0 cc.f1 cc.f2 cc.f3 cc.f4 x1 x2 x3 x4 x5 _ HF.out).mono ?_
      rintro e w3 ⟨rfl,hb3⟩
      refine ⟨_,rfl,?_⟩
      have BK3:=Aside0.mk (blk_below (by first|exact BK2.out|exact blk_drewN BK2.out _|exact blk_drew BK2.out) hb3)
      have HB3:=Aside0.mk (below_step (by first|exact HB2.out|exact pw_below_drewN HB2.out _|exact below_drew1 HB2.out) hb3)
      clear hb3
      refine hK.out _ _ ⟨(blk_cell BK3.out 0).trans rfl,(blk_cell BK3.out 1).trans rfl,(blk_cell BK3.out 2).trans rfl,(blk_cell BK3.out 3).trans rfl,(blk_cell BK3.out 4).trans rfl⟩ (fun hHeld => ?_)
      clear hK K
      refine norm_ (a':=?_) ?_ ?_
      rotate_left
      ·show Act.put _ (some 38) _=_
       simp only [Act.put,List.setIfInBounds_toArray,List.set_cons_zero,List.set_cons_succ,i64_w,i32_w]
       rfl
      refine pure_ (i:=3) (N:=some 39) (v:=?_) (a':=?_) #[true,true,true,true,false,false,false,false,false,false] rfl rfl (by kernel_rfl) (fun _ _ _ h => h) (Or.inl ⟨by rfl,?_⟩) ?_ ?_
      rotate_left
      ·intro w'
       go_simp
       with_reducible rfl
      rotate_left
      ·simp only [Act.put,List.setIfInBounds_toArray,List.set_cons_zero,List.set_cons_succ,i64_w,i32_w]
       rfl
      refine pure_ (i:=4) (N:=some 40) (v:=?_) (a':=?_) #[true,true,true,true,true,false,false,false,false,false] rfl rfl (by kernel_rfl) (fun _ _ _ h => h) (Or.inl ⟨by rfl,?_⟩) ?_ ?_
      rotate_left
      ·intro w'
       go_simp
       with_reducible rfl
      rotate_left
      ·simp only [Act.put,List.setIfInBounds_toArray,List.set_cons_zero,List.set_cons_succ,i64_w,i32_w]
       rfl
      refine pure_ (i:=5) (N:=some 41) (v:=?_) (a':=?_) #[true,true,true,true,true,true,false,false,false,false] rfl rfl (by kernel_rfl) (fun _ _ _ h => h) (Or.inl ⟨by rfl,?_⟩) ?_ ?_
      rotate_left
      ·intro w'
       go_simp
       with_reducible rfl
      rotate_left
      ·simp only [Act.put,List.setIfInBounds_toArray,List.set_cons_zero,List.set_cons_succ,i64_w,i32_w]
       rfl
      refine take_ (i:=6) (N:=some 42) (v:=?_) (a':=?_) #[true,true,true,true,true,true,true,false,false,false] rfl rfl (by kernel_rfl) (fun _ _ _ h => h) (Or.inl ⟨by rfl,?_⟩) hHeld ?_ ?_
      rotate_left
      ·rintro w' ⟨s0,s1,s2,s3,s4⟩
       go_simp
       with_reducible rfl
      rotate_left
      ·simp only [Act.put,List.setIfInBounds_toArray,List.set_cons_zero,List.set_cons_succ,i64_w,i32_w]
       rfl
      refine one_ (i:=7) (N:=some 43) #[true,true,true,true,true,true,true,true,false,false] rfl rfl (by kernel_rfl) (by decide) (fun K hK => ?_)
      refine goes_ Tryd.func60 (by kernel_rfl) rfl #[.slice (some ad) p.length c0,.agg #[.int .i64 cc.f0,.string cc.f1,.int .i64 cc.f2,.int .i64 cc.f3,.int .i64 cc.f4]] (by rfl) rfl rfl (by simp only [List.map_toArray,List.map_cons,List.map_nil];rfl) ?_
      with_reducible refine (pool_leads.calls k1 (some ad) c0 p cc.f0 cc.f1 cc.f2 cc.f3 cc.f4 false _ (Kd.C_below (Kd.C_below HR.out HB3.out) (by first|exact Below.refl _ _|exact pw_below_drewN (Below.refl _ _) _)) HC.out HLD.out).mono ?_
      rintro e w5 ⟨rfl,hb5⟩
      refine ⟨_,rfl,?_⟩
      have BK5:=Aside0.mk (blk_below (by first|exact BK3.out|exact blk_drewN BK3.out _|exact blk_drew BK3.out) hb5)
      have HB5:=Aside0.mk (below_step (by first|exact HB3.out|exact pw_below_drewN HB3.out _|exact below_drew1 HB3.out) hb5)
      clear hb5
      refine hK.out _ _ ⟨(blk_cell BK5.out 0).trans rfl,(blk_cell BK5.out 1).trans rfl,(blk_cell BK5.out 2).trans rfl,(blk_cell BK5.out 3).trans rfl,(blk_cell BK5.out 4).trans rfl⟩ (fun hHeld => ?_)
      clear hK K
      refine norm_ (a':=?_) ?_ ?_
      rotate_left
      ·show Act.put _ (some 43) _=_
       simp only [Act.put,List.setIfInBounds_toArray,List.set_cons_zero,List.set_cons_succ,i64_w,i32_w]
       rfl
      refine pure_ (i:=8) (N:=some 44) (v:=?_) (a':=?_) #[true,true,true,true,true,true,true,true,true,false] rfl rfl (by kernel_rfl) (fun _ _ _ h => h) (Or.inl ⟨by rfl,?_⟩) ?_ ?_
      rotate_left
      ·intro w'
       go_simp
       with_reducible rfl
      rotate_left
      ·simp only [Act.put,List.setIfInBounds_toArray,List.set_cons_zero,List.set_cons_succ,i64_w,i32_w]
       rfl
      refine pure_ (i:=9) (N:=some 45) (v:=?_) (a':=?_) #[true,true,true,true,true,true,true,true,true,true] rfl rfl (by kernel_rfl) (fun _ _ _ h => h) (Or.inl ⟨by rfl,?_⟩) ?_ ?_
      rotate_left
      ·intro w'
       go_simp
       with_reducible rfl
      rotate_left
      ·simp only [Act.put,List.setIfInBounds_toArray,List.set_cons_zero,List.set_cons_succ,i64_w,i32_w]
       rfl
      refine done_ (by kernel_rfl) ?_
      go_wp2_with ((with_reducible refine gate_dst (N:=49) rfl ?_);refine box_event ?hg (N:=49) ?hd (cs:=#[.int .i64 ((i:Int) + 1),.int .i64 40]) (t:=92) ?hr ?_;(case hd => rfl);(case hg => rfl);(case hr => first|(go_simp;done)|(go_simp;rfl));intro gw hgw w6 hbox hb;have BK6:=Aside0.mk hbox;have HB6:=Aside0.mk (below_step HB5.out hb);clear hbox hb hgw)
      go_ret
      exact ⟨⟨gw,rfl,BK6.out⟩,HB6.out⟩
     | true =>
      rw [if_pos rfl] at H
      obtain ⟨⟨b1,b2⟩,hE,H⟩:=Option.bind_eq_some_iff.mp H
      have HE:=Aside0.mk hE
      have H9:=Aside0.mk H
      clear hE H
      refine start_ (n:=10) (S:=fun w' => w'.cell? ⟨gb,0,none⟩=some (.int .i64 cc.f0)∧w'.cell? ⟨gb,1,none⟩=some (.string cc.f1)∧w'.cell? ⟨gb,2,none⟩=some (.int .i64 cc.f2)∧w'.cell? ⟨gb,3,none⟩=some (.int .i64 cc.f3)∧w'.cell? ⟨gb,4,none⟩=some (.int .i64 cc.f4)) (ds:=[]) #[false,false,false,false,false,false,false,false,false,false] (by kernel_rfl) rfl rfl ⟨hc0,hc1,hc2,hc3,hc4⟩ (fun hHeld => ?_)
      refine take_ (i:=0) (N:=some 36) (v:=?_) (a':=?_) #[true,false,false,false,false,false,false,false,false,false] rfl rfl (by kernel_rfl) (fun _ _ _ h => h) (Or.inl ⟨by rfl,?_⟩) hHeld ?_ ?_
      rotate_left
      ·rintro w' ⟨s0,s1,s2,s3,s4⟩
       go_simp
       with_reducible rfl
      rotate_left
      ·simp only [Act.put,List.setIfInBounds_toArray,List.set_cons_zero,List.set_cons_succ,i64_w,i32_w]
       rfl
      refine take_ (i:=1) (N:=some 37) (v:=?_) (a':=?_) #[true,true,false,false,false,false,false,false,false,false] rfl rfl (by kernel_rfl) (fun _ _ _ h => h) (Or.inl ⟨by rfl,?_⟩) hHeld ?_ ?_
      rotate_left
      ·rintro w' ⟨s0,s1,s2,s3,s4⟩
       go_simp
       with_reducible rfl
      rotate_left
      ·simp only [Act.put,List.setIfInBounds_toArray,List.set_cons_zero,List.set_cons_succ,i64_w,i32_w]
       rfl
      refine one_ (i:=2) (N:=some 38) #[true,true,true,false,false,false,false,false,false,false] rfl rfl (by kernel_rfl) (by decide) (fun K hK => ?_)
      refine goes_ Tryd.func59 (by kernel_rfl) rfl #[.agg #[.int .i64 cc.f0,.string cc.f1,.int .i64 cc.f2,.int .i64 cc.f3,.int .i64 cc.f4]] (by rfl) rfl rfl (by simp only [List.map_toArray,List.map_cons,List.map_nil];rfl) ?_
      with_reducible refine (pool_fields.calls k1 cc.f0 cc.f1 cc.f2 cc.f3 cc.f4 x1 x2 x3 x4 x5 _ HF.out).mono ?_
      rintro e w3 ⟨rfl,hb3⟩
      refine ⟨_,rfl,?_⟩
      have BK3:=Aside0.mk (blk_below (by first|exact BK2.out|exact blk_drewN BK2.out _|exact blk_drew BK2.out) hb3)
      have HB3:=Aside0.mk (below_step (by first|exact HB2.out|exact pw_below_drewN HB2.out _|exact below_drew1 HB2.out) hb3)
      clear hb3
      refine hK.out _ _ ⟨(blk_cell BK3.out 0).trans rfl,(blk_cell BK3.out 1).trans rfl,(blk_cell BK3.out 2).trans rfl,(blk_cell BK3.out 3).trans rfl,(blk_cell BK3.out 4).trans rfl⟩ (fun hHeld => ?_)
      clear hK K
      refine norm_ (a':=?_) ?_ ?_
      rotate_left
      ·show Act.put _ (some 38) _=_
       simp only [Act.put,List.setIfInBounds_toArray,List.set_cons_zero,List.set_cons_succ,i64_w,i32_w]
       rfl
      refine pure_ (i:=3) (N:=some 39) (v:=?_) (a':=?_) #[true,true,true,true,false,false,false,false,false,false] rfl rfl (by kernel_rfl) (fun _ _ _ h => h) (Or.inl ⟨by rfl,?_⟩) ?_ ?_
      rotate_left
      ·intro w'
       go_simp
       with_reducible rfl
      rotate_left
      ·simp only [Act.put,List.setIfInBounds_toArray,List.set_cons_zero,List.set_cons_succ,i64_w,i32_w]
       rfl
      refine pure_ (i:=4) (N:=some 40) (v:=?_) (a':=?_) #[true,true,true,true,true,false,false,false,false,false] rfl rfl (by kernel_rfl) (fun _ _ _ h => h) (Or.inl ⟨by rfl,?_⟩) ?_ ?_
      rotate_left
      ·intro w'
       go_simp
       with_reducible rfl
      rotate_left
      ·simp only [Act.put,List.setIfInBounds_toArray,List.set_cons_zero,List.set_cons_succ,i64_w,i32_w]
       rfl
      refine pure_ (i:=5) (N:=some 41) (v:=?_) (a':=?_) #[true,true,true,true,true,true,false,false,false,false] rfl rfl (by kernel_rfl) (fun _ _ _ h => h) (Or.inl ⟨by rfl,?_⟩) ?_ ?_
      rotate_left
      ·intro w'
       go_simp
       with_reducible rfl
      rotate_left
      ·simp only [Act.put,List.setIfInBounds_toArray,List.set_cons_zero,List.set_cons_succ,i64_w,i32_w]
       rfl
      refine take_ (i:=6) (N:=some 42) (v:=?_) (a':=?_) #[true,true,true,true,true,true,true,false,false,false] rfl rfl (by kernel_rfl) (fun _ _ _ h => h) (Or.inl ⟨by rfl,?_⟩) hHeld ?_ ?_
      rotate_left
      ·rintro w' ⟨s0,s1,s2,s3,s4⟩
       go_simp
       with_reducible rfl
      rotate_left
      ·simp only [Act.put,List.setIfInBounds_toArray,List.set_cons_zero,List.set_cons_succ,i64_w,i32_w]
       rfl
      refine one_ (i:=7) (N:=some 43) #[true,true,true,true,true,true,true,true,false,false] rfl rfl (by kernel_rfl) (by decide) (fun K hK => ?_)
      refine goes_ Tryd.func60 (by kernel_rfl) rfl #[.slice (some ad) p.length c0,.agg #[.int .i64 cc.f0,.string cc.f1,.int .i64 cc.f2,.int .i64 cc.f3,.int .i64 cc.f4]] (by rfl) rfl rfl (by simp only [List.map_toArray,List.map_cons,List.map_nil];rfl) ?_
      with_reducible refine (pool_leads.calls k1 (some ad) c0 p cc.f0 cc.f1 cc.f2 cc.f3 cc.f4 true _ (Kd.C_below (Kd.C_below HR.out HB3.out) (by first|exact Below.refl _ _|exact pw_below_drewN (Below.refl _ _) _)) HC.out HLD.out).mono ?_
      rintro e w5 ⟨rfl,hb5⟩
      refine ⟨_,rfl,?_⟩
      have BK5:=Aside0.mk (blk_below (by first|exact BK3.out|exact blk_drewN BK3.out _|exact blk_drew BK3.out) hb5)
      have HB5:=Aside0.mk (below_step (by first|exact HB3.out|exact pw_below_drewN HB3.out _|exact below_drew1 HB3.out) hb5)
      clear hb5
      refine hK.out _ _ ⟨(blk_cell BK5.out 0).trans rfl,(blk_cell BK5.out 1).trans rfl,(blk_cell BK5.out 2).trans rfl,(blk_cell BK5.out 3).trans rfl,(blk_cell BK5.out 4).trans rfl⟩ (fun hHeld => ?_)
      clear hK K
      refine norm_ (a':=?_) ?_ ?_
      rotate_left
      ·show Act.put _ (some 43) _=_
       simp only [Act.put,List.setIfInBounds_toArray,List.set_cons_zero,List.set_cons_succ,i64_w,i32_w]
       rfl
      refine pure_ (i:=8) (N:=some 44) (v:=?_) (a':=?_) #[true,true,true,true,true,true,true,true,true,false] rfl rfl (by kernel_rfl) (fun _ _ _ h => h) (Or.inl ⟨by rfl,?_⟩) ?_ ?_
      rotate_left
      ·intro w'
       go_simp
       with_reducible rfl
      rotate_left
      ·simp only [Act.put,List.setIfInBounds_toArray,List.set_cons_zero,List.set_cons_succ,i64_w,i32_w]
       rfl
      refine pure_ (i:=9) (N:=some 45) (v:=?_) (a':=?_) #[true,true,true,true,true,true,true,true,true,true] rfl rfl (by kernel_rfl) (fun _ _ _ h => h) (Or.inl ⟨by rfl,?_⟩) ?_ ?_
      rotate_left
      ·intro w'
       go_simp
       with_reducible rfl
      rotate_left
      ·simp only [Act.put,List.setIfInBounds_toArray,List.set_cons_zero,List.set_cons_succ,i64_w,i32_w]
       rfl
      refine done_ (by kernel_rfl) ?_
      have hs1:w5.cell? ⟨gb,1,none⟩=some (.string cc.f1):=(blk_cell BK5.out 1).trans rfl
      have H:=H9.out
      clear H9
      simp only at H
      by_cases he:b2=0
      ·rw [if_pos he] at H
       have heb:(b2 != 0)=false:=bne_eq_false_iff_eq.mpr he
       by_cases hl:(b1.length:Int) > 256
       ·rw [if_pos hl] at H
        obtain rfl:=Option.some.inj H
        have hlb:decide ((256:Int) < (b1.length:Int))=true:=decide_eq_true hl
        have hln:decide (256 < b1.length)=true:=decide_eq_true (by omega)
        clear he hl H
        go_wp2_with fail
        refine (text_Encode.calls k1 cc.f1 b1 b2 _ ⟨GG.below hG.out (by first|exact HB5.out|exact pw_below_drewN HB5.out _|exact below_drew1 HB5.out)⟩ HE.out).mono ?_
        rintro e w6 ⟨v6,rfl,hR6,hb6⟩
        obtain ⟨A6,c6,hv6⟩:=Kd.R_slice hR6
        subst hv6
        have HB6:=Aside0.mk (below_step (by first|exact HB5.out|exact pw_below_drewN HB5.out _|exact below_drew1 HB5.out) hb6)
        clear hR6 hb6
        go_wp2_with ((with_reducible refine gate_dst (N:=67) rfl ?_);refine box_event ?hg (N:=67) ?hd (cs:=#[.int .i64 ((i:Int) + 1),.int .i64 20]) (t:=92) ?hr ?_;(case hd => rfl);(case hg => rfl);(case hr => first|(go_simp;done)|(go_simp;rfl));intro gw hgw w7 hbox hb;have BK9:=Aside0.mk hbox;have HB7:=Aside0.mk (below_step HB6.out hb);clear hbox hb hgw)
        go_ret
        exact ⟨⟨gw,rfl,BK9.out⟩,HB7.out⟩
       ·rw [if_neg hl] at H
        have hlb:decide ((256:Int) < (b1.length:Int))=false:=decide_eq_false hl
        have hln:decide (256 < b1.length)=false:=decide_eq_false (by omega)
        have H':=Aside0.mk H
        clear he hl H
        go_wp2_with fail
        refine (text_Encode.calls k1 cc.f1 b1 b2 _ ⟨GG.below hG.out (by first|exact HB5.out|exact pw_below_drewN HB5.out _|exact below_drew1 HB5.out)⟩ HE.out).mono ?_
        rintro e w6 ⟨v6,rfl,hR6,hb6⟩
        obtain ⟨A6,c6,hv6⟩:=Kd.R_slice hR6
        subst hv6
        have HB6:=Aside0.mk (below_step (by first|exact HB5.out|exact pw_below_drewN HB5.out _|exact below_drew1 HB5.out) hb6)
        clear hR6 hb6
        go_wp2
        go_roundg k1
        case measure => have:=HK.out;omega
        case rel => exact ⟨i + 1,congrArg (Value.int .i64) (by omega),H',⟨by have:=HK.out;omega⟩,⟨by have:=of_decide_eq_true hpn;omega⟩,HB6⟩
      ·rw [if_neg he] at H
       obtain rfl:=Option.some.inj H
       have heb:(b2 != 0)=true:=bne_iff_ne.mpr he
       clear he H
       go_wp2_with fail
       refine (text_Encode.calls k1 cc.f1 b1 b2 _ ⟨GG.below hG.out (by first|exact HB5.out|exact pw_below_drewN HB5.out _|exact below_drew1 HB5.out)⟩ HE.out).mono ?_
       rintro e w6 ⟨v6,rfl,hR6,hb6⟩
       obtain ⟨A6,c6,hv6⟩:=Kd.R_slice hR6
       subst hv6
       have HB6:=Aside0.mk (below_step (by first|exact HB5.out|exact pw_below_drewN HB5.out _|exact below_drew1 HB5.out) hb6)
       clear hR6 hb6
       go_wp2_with ((with_reducible refine gate_dst (N:=67) rfl ?_);refine box_event ?hg (N:=67) ?hd (cs:=#[.int .i64 ((i:Int) + 1),.int .i64 20]) (t:=92) ?hr ?_;(case hd => rfl);(case hg => rfl);(case hr => first|(go_simp;done)|(go_simp;rfl));intro gw hgw w7 hbox hb;have BK9:=Aside0.mk hbox;have HB7:=Aside0.mk (below_step HB6.out hb);clear hbox hb hgw)
       go_ret
       exact ⟨⟨gw,rfl,BK9.out⟩,HB7.out⟩
    ·rw [if_neg hs] at H
     obtain rfl:=Option.some.inj H
     have hEqc:sameC cc (x1,x2,x3,x4,x5)=false:=by simpa using hs
     clear hs H
     refine start_ (n:=10) (S:=fun w' => w'.cell? ⟨gb,0,none⟩=some (.int .i64 cc.f0)∧w'.cell? ⟨gb,1,none⟩=some (.string cc.f1)∧w'.cell? ⟨gb,2,none⟩=some (.int .i64 cc.f2)∧w'.cell? ⟨gb,3,none⟩=some (.int .i64 cc.f3)∧w'.cell? ⟨gb,4,none⟩=some (.int .i64 cc.f4)) (ds:=[]) #[false,false,false,false,false,false,false,false,false,false] (by kernel_rfl) rfl rfl ⟨hc0,hc1,hc2,hc3,hc4⟩ (fun hHeld => ?_)
     refine take_ (i:=0) (N:=some 36) (v:=?_) (a':=?_) #[true,false,false,false,false,false,false,false,false,false] rfl rfl (by kernel_rfl) (fun _ _ _ h => h) (Or.inl ⟨by rfl,?_⟩) hHeld ?_ ?_
     rotate_left
     ·rintro w' ⟨s0,s1,s2,s3,s4⟩
      go_simp
      with_reducible rfl
     rotate_left
     ·simp only [Act.put,List.setIfInBounds_toArray,List.set_cons_zero,List.set_cons_succ,i64_w,i32_w]
      rfl
     refine take_ (i:=1) (N:=some 37) (v:=?_) (a':=?_) #[true,true,false,false,false,false,false,false,false,false] rfl rfl (by kernel_rfl) (fun _ _ _ h => h) (Or.inl ⟨by rfl,?_⟩) hHeld ?_ ?_
     rotate_left
     ·rintro w' ⟨s0,s1,s2,s3,s4⟩
      go_simp
      with_reducible rfl
     rotate_left
     ·simp only [Act.put,List.setIfInBounds_toArray,List.set_cons_zero,List.set_cons_succ,i64_w,i32_w]
      rfl
     refine one_ (i:=2) (N:=some 38) #[true,true,true,false,false,false,false,false,false,false] rfl rfl (by kernel_rfl) (by decide) (fun K hK => ?_)
     refine goes_ Tryd.func59 (by kernel_rfl) rfl #[.agg #[.int .i64 cc.f0,.string cc.f1,.int .i64 cc.f2,.int .i64 cc.f3,.int .i64 cc.f4]] (by rfl) rfl rfl (by simp only [List.map_toArray,List.map_cons,List.map_nil];rfl) ?_
     with_reducible refine (pool_fields.calls k1 cc.f0 cc.f1 cc.f2 cc.f3 cc.f4 x1 x2 x3 x4 x5 _ HF.out).mono ?_
     rintro e w3 ⟨rfl,hb3⟩
     refine ⟨_,rfl,?_⟩
     have BK3:=Aside0.mk (blk_below (by first|exact BK2.out|exact blk_drewN BK2.out _|exact blk_drew BK2.out) hb3)
     have HB3:=Aside0.mk (below_step (by first|exact HB2.out|exact pw_below_drewN HB2.out _|exact below_drew1 HB2.out) hb3)
     clear hb3
     refine hK.out _ _ ⟨(blk_cell BK3.out 0).trans rfl,(blk_cell BK3.out 1).trans rfl,(blk_cell BK3.out 2).trans rfl,(blk_cell BK3.out 3).trans rfl,(blk_cell BK3.out 4).trans rfl⟩ (fun hHeld => ?_)
     clear hK K
     refine norm_ (a':=?_) ?_ ?_
     rotate_left
     ·show Act.put _ (some 38) _=_
      simp only [Act.put,List.setIfInBounds_toArray,List.set_cons_zero,List.set_cons_succ,i64_w,i32_w]
      rfl
     refine pure_ (i:=3) (N:=some 39) (v:=?_) (a':=?_) #[true,true,true,true,false,false,false,false,false,false] rfl rfl (by kernel_rfl) (fun _ _ _ h => h) (Or.inl ⟨by rfl,?_⟩) ?_ ?_
     rotate_left
     ·intro w'
      go_simp
      with_reducible rfl
     rotate_left
     ·simp only [Act.put,List.setIfInBounds_toArray,List.set_cons_zero,List.set_cons_succ,i64_w,i32_w]
      rfl
     refine pure_ (i:=4) (N:=some 40) (v:=?_) (a':=?_) #[true,true,true,true,true,false,false,false,false,false] rfl rfl (by kernel_rfl) (fun _ _ _ h => h) (Or.inl ⟨by rfl,?_⟩) ?_ ?_
     rotate_left
     ·intro w'
      go_simp
      with_reducible rfl
     rotate_left
     ·simp only [Act.put,List.setIfInBounds_toArray,List.set_cons_zero,List.set_cons_succ,i64_w,i32_w]
      rfl
     refine pure_ (i:=5) (N:=some 41) (v:=undef) (a':=?_) #[true,true,true,true,true,true,false,false,false,false] rfl rfl (by kernel_rfl) (fun _ _ _ h => h) (Or.inr ⟨by rfl,rfl⟩) ?_ ?_
     rotate_left
     ·simp only [Act.put,List.setIfInBounds_toArray,List.set_cons_zero,List.set_cons_succ,i64_w,i32_w]
      rfl
     refine pure_ (i:=6) (N:=some 42) (v:=undef) (a':=?_) #[true,true,true,true,true,true,true,false,false,false] rfl rfl (by kernel_rfl) (fun _ _ _ h => h) (Or.inr ⟨by rfl,rfl⟩) ?_ ?_
     rotate_left
     ·simp only [Act.put,List.setIfInBounds_toArray,List.set_cons_zero,List.set_cons_succ,i64_w,i32_w]
      rfl
     refine pure_ (i:=7) (N:=some 43) (v:=undef) (a':=?_) #[true,true,true,true,true,true,true,true,false,false] rfl rfl (by kernel_rfl) (fun _ _ _ h => h) (Or.inr ⟨by rfl,rfl⟩) ?_ ?_
     rotate_left
     ·simp only [Act.put,List.setIfInBounds_toArray,List.set_cons_zero,List.set_cons_succ,i64_w,i32_w]
      rfl
     refine pure_ (i:=8) (N:=some 44) (v:=undef) (a':=?_) #[true,true,true,true,true,true,true,true,true,false] rfl rfl (by kernel_rfl) (fun _ _ _ h => h) (Or.inr ⟨by rfl,rfl⟩) ?_ ?_
     rotate_left
     ·simp only [Act.put,List.setIfInBounds_toArray,List.set_cons_zero,List.set_cons_succ,i64_w,i32_w]
      rfl
     refine pure_ (i:=9) (N:=some 45) (v:=?_) (a':=?_) #[true,true,true,true,true,true,true,true,true,true] rfl rfl (by kernel_rfl) (fun _ _ _ h => h) (Or.inl ⟨by rfl,?_⟩) ?_ ?_
     rotate_left
     ·intro w'
      go_simp
      with_reducible rfl
     rotate_left
     ·simp only [Act.put,List.setIfInBounds_toArray,List.set_cons_zero,List.set_cons_succ,i64_w,i32_w]
      rfl
     refine done_ (by kernel_rfl) ?_
     have hwi:wrap64 ((i:Int) + 1)=(i:Int) + 1:=by have:=HPI.out;unfold wrap64;omega
     go_wp2_with ((with_reducible refine gate_dst (N:=49) rfl ?_);refine box_event ?hg (N:=49) ?hd (cs:=#[.int .i64 ((i:Int) + 1),.int .i64 40]) (t:=92) ?hr ?_;(case hd => rfl);(case hg => rfl);(case hr => first|(go_simp;done)|(go_simp;rfl));intro gw hgw w4 hbox hb;have BK4:=Aside0.mk hbox;have HB4:=Aside0.mk (below_step HB3.out hb);clear hbox hb hgw)
     go_ret
     exact ⟨⟨gw,rfl,BK4.out⟩,HB4.out⟩
   ·rw [if_neg hp] at H
    obtain rfl:=Option.some.inj H
    have hpi:decide ((i:Int) < ((p.length - 1:Nat):Int))=false:=decide_eq_false (by omega)
    have hpn:decide (i < p.length - 1)=false:=decide_eq_false (by omega)
    clear hp H
    go_wp2
    go_ret
    exact ⟨rfl,HB.out⟩
 ·rw [if_neg c3] at h
  obtain rfl:=Option.some.inj h
  have c3b:sameC (rd_T60 p 0) (0,⟨#[]⟩,0,0,0)=false:=by simpa using c3
  have hEq:=c3b
  clear c3 h c3b
  go_enter Tryd.func43,Tryd.ntmps43
  go_wp2_with ((with_reducible refine gate_dst (N:=26) rfl ?_);refine box_event ?hg (N:=26) ?hd (cs:=#[.int .i64 0,.int .i64 40]) (t:=92) ?hr ?_;(case hd => rfl);(case hg => rfl);(case hr => first|(go_simp;done)|(go_simp;rfl));intro gb hg w1 hbox hb;have BK:=Aside0.mk hbox;have HB:=Aside0.mk (below_step HB0.out hb);clear hbox hb hg)
  go_ret
  exact ⟨⟨gb,rfl,BK.out⟩,HB.out⟩
theorem pool_check.mono_l:∀ k p i,LeO (pool_check.l0 k p i) (pool_check.l0 (k + 1) p i)
 | 0 => fun _ _ r h => by simp [pool_check.l0] at h
 | k + 1 => fun p i => by
  unfold pool_check.l0
  exact LeO.ite (LeO.bind (pool_fields.mono _ _ _ _ _ _) (fun _ => LeO.ite (LeO.bind (pool_leads.mono _ _ _ _ _ _ _) (fun _ => LeO.ite (LeO.bind (text_Encode.mono _ _) (fun _ => LeO.ite (LeO.ite (LeO.refl _) (pool_check.mono_l k _ _)) (LeO.refl _))) (LeO.refl _))) (LeO.refl _))) (LeO.refl _)
theorem pool_check.mono (p:List Cst) (k:Nat):LeO (pool_check.f k p) (pool_check.f (k + 1) p):=by
 unfold pool_check.f
 exact LeO.ite (LeO.refl _) (LeO.ite (LeO.refl _) (LeO.ite (pool_check.mono_l _ _ _) (LeO.refl _)))
theorem pool_Check.mono:∀ (p:List Cst) k,LeO (pool_Check.f k p) (pool_Check.f (k + 1) p):=by
 intro p k
 unfold pool_Check.f
 exact LeO.bind (pool_check.mono p k) (fun _ => LeO.refl _)
theorem as_at (B:Nat) (w0 w:World) (g gb:Nat) (x y:Int) (hB:Below B w0 w) (hgb:B≤gb) (hbk:w.heap[gb]?=some (.cells #[.pointer none] 85 (0,0))) (hbg:w.heap[g]?=some (.cells #[.int .i64 x,.int .i64 y] 92 (0,0))) (hG:GG w) (hBs:B≤w.heap.size) :
  Calls Tryd.prog 42 #[.iface 85 (.pointer (some ⟨g,0,none⟩)),.iface 90 (.pointer (some ⟨gb,0,none⟩))] w fun ev w' => ev=.returned (.bool true)∧w'.cell? ⟨gb,0,none⟩=some (.pointer (some ⟨g,0,none⟩))∧w'.cell? ⟨g,1,none⟩=some (.int .i64 y)∧Below B w0 w':=by
 have hne:gb ≠ g:=by
  rintro rfl
  rw [hbk] at hbg
  cases hbg
 have hl1:=blk_lt hbk
 have hl2:=blk_lt hbg
 refine (as_hit ⟨g,0,none⟩ ⟨gb,0,none⟩ (.pointer none) w hG.et ((blk_cell hbk 0).trans rfl) (blk_frozen hbk 0)).mono ?_
 rintro ev w' ⟨rfl,rfl⟩
 refine ⟨rfl,?_,?_,?_⟩
 ·refine World.cell?_setCell_same (u:=.pointer none) _ _ _ ?_
  rw [World.cell?_alloc_lt _ _ ⟨gb,0,none⟩ (by simp <;> omega),World.cell?_alloc_lt _ _ ⟨gb,0,none⟩ (by simp <;> omega),World.cell?_alloc_lt _ _ ⟨gb,0,none⟩ (by simp <;> omega),World.cell?_alloc_lt _ _ ⟨gb,0,none⟩ hl1]
  exact (blk_cell hbk 0).trans rfl
 ·rw [World.cell?_setCell_far _ _ _ _ hne]
  rw [World.cell?_alloc_lt _ _ ⟨g,1,none⟩ (by simp <;> omega),World.cell?_alloc_lt _ _ ⟨g,1,none⟩ (by simp <;> omega),World.cell?_alloc_lt _ _ ⟨g,1,none⟩ (by simp <;> omega),World.cell?_alloc_lt _ _ ⟨g,1,none⟩ hl2]
  exact (blk_cell hbg 1).trans rfl
 ·exact ((((hB.alloc hBs _).alloc (by simp <;> omega) _).alloc (by simp <;> omega) _).alloc (by simp <;> omega) _).setCell hgb _
set_option maxHeartbeats 4000000 in
set_option maxRecDepth 100000 in
theorem pool_Check.calls (k:Nat) (A0:Option Addr) (c0:Nat) (p:List Cst) (r1:Int) (w:World) (hG:Aside0 (GG w)) (hr0:Kd.C k60 w A0 p.length p) (hc0:p.length≤c0) (h:pool_Check.f k p=some r1) :
  Calls Tryd.prog 24 #[.slice A0 p.length c0] w fun e w' => e=.returned (.int .i64 r1)∧Below w.heap.size w w':=by
 have HR:=Aside0.mk hr0
 have HC:=Aside0.mk hc0
 have HB0:=Aside0.mk (Below.refl w.heap.size w)
 clear hr0 hc0
 unfold pool_Check.f at h
 obtain ⟨r,hr,h⟩:=Option.bind_eq_some_iff.mp h
 have HF:=Aside0.mk hr
 clear hr
 go_enter Tryd.func24,Tryd.ntmps24
 go_wp2_with ((with_reducible refine gate_dst (N:=3) rfl ?_);refine box_event ?hg (N:=3) ?hd (cs:=#[.pointer none]) (t:=85) ?hr ?_;(case hd => rfl);(case hg => rfl);(case hr => first|(go_simp;done)|(go_simp;rfl));intro gb hg w1 hbox hb;have BK:=Aside0.mk hbox;have GE:=Aside0.mk (show w.heap.size≤gb from by rw [hg];exact Nat.le_refl _);have HB1:=Aside0.mk (below_step HB0.out hb);clear hbox hb hg)
 refine (pool_check.calls k A0 c0 p r _ ⟨GG.below hG.out HB1.out⟩ (Kd.C_below HR.out HB1.out) HC.out HF.out).mono ?_
 rintro e w2 ⟨hw,hb2⟩
 have HB2:=Aside0.mk (below_step HB1.out hb2)
 have BK2:=Aside0.mk (blk_below BK.out hb2)
 clear hb2
 cases r with
 | none =>
  obtain rfl:=Option.some.inj h
  obtain rfl:e=.returned .nilIface:=hw
  clear h
  go_wp2_with fail
  refine (as_nil _ _).mono ?_
  rintro e w3 ⟨rfl,rfl⟩
  go_wp2
  go_ret
  exact ⟨rfl,HB2.out⟩
 | some q =>
  obtain ⟨x,y⟩:=q
  obtain rfl:=Option.some.inj h
  obtain ⟨g,rfl,hbg⟩:=hw
  have HBG:=Aside0.mk hbg
  clear h hbg
  go_wp2_with fail
  refine (as_at w.heap.size w _ g gb x y HB2.out GE.out BK2.out HBG.out (GG.below hG.out HB2.out) HB2.out.size).mono ?_
  rintro e w3 ⟨rfl,hc1,hc2,hb3⟩
  have HB3:=Aside0.mk hb3
  clear hb3
  go_wp2
  go_ret
  exact ⟨rfl,HB3.out⟩
end Go.Proofs.YtmloaijagkebpaaDoor.Px
namespace Go.Proofs.YtmloaijagkebpaaDoor.Px
open Go.RowKit Go.Proofs.YtmloaijagkebpaaDoorW.PrintWords Go.Proofs.YtmloaijagkebpaaDoorW.PrintLast Go.Proofs.YtmloaijagkebpaaDoorW.PrintMore
attribute [local go_sem] max2_int min2_int max_two min_two max_three min_three max_four min_four
set_option linter.unusedVariables false
set_option linter.unusedSimpArgs false
mutual
def class_Check.l0:Nat→Int→List (S49)→Int→Int→List (S60)→Int→Int→List (S46)→List (S49)→Option (Int)
 | 0,_,_,_,_,_,_,_,_,_ => none
 | k + 1,x4,x27,x28,x29,x162000,x162001,x162002,x162003,x162004 => if x29 < x28 then (if 0≤x29 then (if x29 < (x27.length:Int) then (class_Check.l0 k (mx x4 (((rd_T49 x27 x29).f6).length:Int)) x27 x28 (wrap64 (x29 + 1)) x162000 x162001 x162002 x162003 x162004) else (none)) else (none)) else (if x4 > 64 then (some 2) else ((class_rules_class.f k x162000 (([x162001,x162002]:List Int))).bind fun t169 => (class_Check.l1 k t169 x162003 (x162003.length:Int) 0 x162000 x162001 x162002 x162003 x162004 x162000)))
def class_Check.l1:Nat→Bool→List (S46)→Int→Int→List (S60)→Int→Int→List (S46)→List (S49)→List (S60)→Option (Int)
 | 0,_,_,_,_,_,_,_,_,_,_ => none
 | k + 1,x8,x52,x53,x54,x162000,x162001,x162002,x162003,x162004,x166000 => if x54 < x53 then (if 0≤x54 then (if x54 < (x52.length:Int) then (if x8=true then ((class_flags.f ((rd_T46 x52 x54).f0)).bind fun t172 => (if t172=true then ((class_rules_text.f k x166000 (([(rd_T46 x52 x54).f1,(rd_T46 x52 x54).f2]:List Int))).bind fun t176 => (class_Check.l1 k t176 x52 x53 (wrap64 (x54 + 1)) x162000 x162001 x162002 x162003 x162004 x166000)) else (class_Check.l1 k false x52 x53 (wrap64 (x54 + 1)) x162000 x162001 x162002 x162003 x162004 x166000))) else (class_Check.l1 k false x52 x53 (wrap64 (x54 + 1)) x162000 x162001 x162002 x162003 x162004 x166000)) else (none)) else (none)) else (class_Check.l2 k x8 x162004 (x162004.length:Int) 0 x166000)
def class_Check.l2:Nat→Bool→List (S49)→Int→Int→List (S60)→Option (Int)
 | 0,_,_,_,_,_ => none
 | k + 1,x8,x75,x76,x77,x166000 => if x77 < x76 then (if 0≤x77 then (if x77 < (x75.length:Int) then (if x8=true then ((class_rules_method.f k x166000 ((rd_T49 x75 x77).f0) ((rd_T49 x75 x77).f1) ((rd_T49 x75 x77).f2) ((rd_T49 x75 x77).f3) ((rd_T49 x75 x77).f4) ((rd_T49 x75 x77).f5) ((rd_T49 x75 x77).f6) ((rd_T49 x75 x77).f7)).bind fun t179 => (class_Check.l2 k t179 x75 x76 (wrap64 (x77 + 1)) x166000)) else (class_Check.l2 k false x75 x76 (wrap64 (x77 + 1)) x166000)) else (none)) else (none)) else (if x8=true then (some 0) else (some 50))
end
def class_Check.f (k:Nat) (l0_0:List (S60)) (a0_1:Int) (a0_2:Int) (l0_3:List (S46)) (l0_4:List (S49)):Option (Int):=(pool_Check.f k l0_0).bind fun t162 => (if t162=0 then (class_Check.l0 k (mx (l0_3.length:Int) (l0_4.length:Int)) l0_4 (l0_4.length:Int) 0 l0_0 a0_1 a0_2 l0_3 l0_4) else (some t162))
theorem class_Check.mono_l:∀ k,(∀ y0 y1 y2 y3 y4 y5 y6 y7 y8,LeO (class_Check.l0 k y0 y1 y2 y3 y4 y5 y6 y7 y8) (class_Check.l0 (k + 1) y0 y1 y2 y3 y4 y5 y6 y7 y8))∧(∀ y0 y1 y2 y3 y4 y5 y6 y7 y8 y9,LeO (class_Check.l1 k y0 y1 y2 y3 y4 y5 y6 y7 y8 y9) (class_Check.l1 (k + 1) y0 y1 y2 y3 y4 y5 y6 y7 y8 y9))∧(∀ y0 y1 y2 y3 y4,LeO (class_Check.l2 k y0 y1 y2 y3 y4) (class_Check.l2 (k + 1) y0 y1 y2 y3 y4))
 | 0 => ⟨fun _ _ _ _ _ _ _ _ _ r h => by simp [class_Check.l0] at h,fun _ _ _ _ _ _ _ _ _ _ r h => by simp [class_Check.l1] at h,fun _ _ _ _ _ r h => by simp [class_Check.l2] at h⟩
 | k + 1 => by
  obtain ⟨ih0,ih1,ih2⟩:=class_Check.mono_l k
  refine ⟨?_,?_,?_⟩
  ·intro y0 y1 y2 y3 y4 y5 y6 y7 y8
   unfold class_Check.l0
   repeat' first
   | (with_reducible exact ih0 _ _ _ _ _ _ _ _ _)
   | (with_reducible exact ih1 _ _ _ _ _ _ _ _ _ _)
   | (with_reducible exact ih2 _ _ _ _ _)
   | (with_reducible exact class_rules_class.mono _ _ _)
   | (with_reducible exact class_rules_method.mono _ _ _ _ _ _ _ _ _ _)
   | (with_reducible exact class_rules_text.mono _ _ _)
   | (with_reducible exact pool_Check.mono _ _)
   | (with_reducible exact LeO.refl _)
   | (with_reducible exact LeO.none _)
   | (with_reducible refine LeO.ite ?_ ?_)
   | (with_reducible refine LeO.bind ?_ (fun _ => ?_))
   | exact ih0 _ _ _ _ _ _ _ _ _
   | exact ih1 _ _ _ _ _ _ _ _ _ _
   | exact ih2 _ _ _ _ _
   | exact class_rules_class.mono _ _ _
   | exact class_rules_method.mono _ _ _ _ _ _ _ _ _ _
   | exact class_rules_text.mono _ _ _
   | exact pool_Check.mono _ _
   | exact LeO.none _
   | refine LeO.ite ?_ ?_
   | refine LeO.bind ?_ (fun _ => ?_)
  ·intro y0 y1 y2 y3 y4 y5 y6 y7 y8 y9
   unfold class_Check.l1
   repeat' first
   | (with_reducible exact ih0 _ _ _ _ _ _ _ _ _)
   | (with_reducible exact ih1 _ _ _ _ _ _ _ _ _ _)
   | (with_reducible exact ih2 _ _ _ _ _)
   | (with_reducible exact class_rules_class.mono _ _ _)
   | (with_reducible exact class_rules_method.mono _ _ _ _ _ _ _ _ _ _)
   | (with_reducible exact class_rules_text.mono _ _ _)
   | (with_reducible exact pool_Check.mono _ _)
   | (with_reducible exact LeO.refl _)
   | (with_reducible exact LeO.none _)
   | (with_reducible refine LeO.ite ?_ ?_)
   | (with_reducible refine LeO.bind ?_ (fun _ => ?_))
   | exact ih0 _ _ _ _ _ _ _ _ _
   | exact ih1 _ _ _ _ _ _ _ _ _ _
   | exact ih2 _ _ _ _ _
   | exact class_rules_class.mono _ _ _
   | exact class_rules_method.mono _ _ _ _ _ _ _ _ _ _
   | exact class_rules_text.mono _ _ _
   | exact pool_Check.mono _ _
   | exact LeO.none _
   | refine LeO.ite ?_ ?_
   | refine LeO.bind ?_ (fun _ => ?_)
  ·intro y0 y1 y2 y3 y4
   unfold class_Check.l2
   repeat' first
   | (with_reducible exact ih0 _ _ _ _ _ _ _ _ _)
   | (with_reducible exact ih1 _ _ _ _ _ _ _ _ _ _)
   | (with_reducible exact ih2 _ _ _ _ _)
   | (with_reducible exact class_rules_class.mono _ _ _)
   | (with_reducible exact class_rules_method.mono _ _ _ _ _ _ _ _ _ _)
   | (with_reducible exact class_rules_text.mono _ _ _)
   | (with_reducible exact pool_Check.mono _ _)
   | (with_reducible exact LeO.refl _)
   | (with_reducible exact LeO.none _)
   | (with_reducible refine LeO.ite ?_ ?_)
   | (with_reducible refine LeO.bind ?_ (fun _ => ?_))
   | exact ih0 _ _ _ _ _ _ _ _ _
   | exact ih1 _ _ _ _ _ _ _ _ _ _
   | exact ih2 _ _ _ _ _
   | exact class_rules_class.mono _ _ _
   | exact class_rules_method.mono _ _ _ _ _ _ _ _ _ _
   | exact class_rules_text.mono _ _ _
   | exact pool_Check.mono _ _
   | exact LeO.none _
   | refine LeO.ite ?_ ?_
   | refine LeO.bind ?_ (fun _ => ?_)
theorem class_Check.mono:∀ a0 a1 a2 a3 a4 k,LeO (class_Check.f k a0 a1 a2 a3 a4) (class_Check.f (k + 1) a0 a1 a2 a3 a4):=by
 intro a0 a1 a2 a3 a4 k
 obtain ⟨ih0,ih1,ih2⟩:=class_Check.mono_l k
 unfold class_Check.f
 repeat' first
   | (with_reducible exact ih0 _ _ _ _ _ _ _ _ _)
   | (with_reducible exact ih1 _ _ _ _ _ _ _ _ _ _)
   | (with_reducible exact ih2 _ _ _ _ _)
   | (with_reducible exact class_rules_class.mono _ _ _)
   | (with_reducible exact class_rules_method.mono _ _ _ _ _ _ _ _ _ _)
   | (with_reducible exact class_rules_text.mono _ _ _)
   | (with_reducible exact pool_Check.mono _ _)
   | (with_reducible exact LeO.refl _)
   | (with_reducible exact LeO.none _)
   | (with_reducible refine LeO.ite ?_ ?_)
   | (with_reducible refine LeO.bind ?_ (fun _ => ?_))
   | exact ih0 _ _ _ _ _ _ _ _ _
   | exact ih1 _ _ _ _ _ _ _ _ _ _
   | exact ih2 _ _ _ _ _
   | exact class_rules_class.mono _ _ _
   | exact class_rules_method.mono _ _ _ _ _ _ _ _ _ _
   | exact class_rules_text.mono _ _ _
   | exact pool_Check.mono _ _
   | exact LeO.none _
   | refine LeO.ite ?_ ?_
   | refine LeO.bind ?_ (fun _ => ?_)
set_option maxHeartbeats 80000000 in
set_option maxRecDepth 100000 in
theorem class_Check.calls (k:Nat) (A0_0:Option Addr) (c0_0:Nat) (l0_0:List (S60)) (a0_1:Int) (a0_2:Int) (A0_3:Option Addr) (c0_3:Nat) (l0_3:List (S46)) (A0_4:Option Addr) (c0_4:Nat) (l0_4:List (S49)) (r:Int) (w:World) (hG:Aside0 (GG w)) (hr0_0:Kd.C k60 w A0_0 l0_0.length l0_0) (hc0_0:l0_0.length≤c0_0) (hr0_3:Kd.C k46 w A0_3 l0_3.length l0_3) (hc0_3:l0_3.length≤c0_3) (hr0_4:Kd.C k49 w A0_4 l0_4.length l0_4) (hc0_4:l0_4.length≤c0_4) (h:class_Check.f k l0_0 a0_1 a0_2 l0_3 l0_4=some r) :
  Calls Tryd.prog 7 #[.agg #[.slice A0_0 l0_0.length c0_0,.int .i64 a0_1,.int .i64 a0_2,.slice A0_3 l0_3.length c0_3,.slice A0_4 l0_4.length c0_4]] w fun e w' => e=.returned (.int .i64 r)∧Below w.heap.size w w':=by
 have hu26:=Tryd.underlying26
 have hu49:=Tryd.underlying49
 have hu64:=Tryd.underlying64
 have hu46:=Tryd.underlying46
 have HR0_0:=Aside0.mk hr0_0
 have HC0_0:=Aside0.mk hc0_0
 clear hr0_0 hc0_0
 have HR0_3:=Aside0.mk hr0_3
 have HC0_3:=Aside0.mk hc0_3
 clear hr0_3 hc0_3
 have HR0_4:=Aside0.mk hr0_4
 have HC0_4:=Aside0.mk hc0_4
 clear hr0_4 hc0_4
 have HB:=Aside0.mk (Below.refl w.heap.size w)
 have H:((pool_Check.f k l0_0).bind fun t162 => (if t162=0 then (class_Check.l0 k (mx (l0_3.length:Int) (l0_4.length:Int)) l0_4 (l0_4.length:Int) 0 l0_0 a0_1 a0_2 l0_3 l0_4) else (some t162)))=some r:=h
 clear h
 replace H:=Option.bind_eq_some_iff.mp H
 obtain ⟨t162,A20,H⟩:=H
 try dsimp only at H
 have A2:=Aside0.mk A20
 clear A20
 by_cases c3:t162=0
 ·rw [if_pos c3] at H
  have c3b0:(t162==0)=true:=beq_iff_eq.mpr c3
  have c3b1:(t162 != 0)=false:=bne_eq_false_iff_eq.mpr c3
  clear c3
  obtain ⟨ji4,hji4⟩:∃ j_:Int,(mx (l0_3.length:Int) (l0_4.length:Int))=j_:=⟨_,rfl⟩
  replace H:(class_Check.l0 k ji4 l0_4 (l0_4.length:Int) 0 l0_0 a0_1 a0_2 l0_3 l0_4)=some r:=by first|(rw [hji4] at H;exact H)|(simp only [hji4] at H ⊢;exact H)
  (try rw [hji4] at A2)
  (try (have hji4l:0≤ji4:=by (rw [← hji4];unfold mx;(repeat' split) <;> omega)))
  (try (have hji4m:0≤ji4:=by omega))
  have hji4_:(if (l0_3.length:Int) < (l0_4.length:Int) then (l0_4.length:Int) else (l0_3.length:Int))=ji4:=hji4
  have hji4n_:(if l0_3.length < l0_4.length then (l0_4.length:Int) else (l0_3.length:Int))=ji4:=by (rw [← hji4_];(repeat' split) <;> first|rfl|omega)
  have H':=Aside0.mk H
  clear H
  go_enter Tryd.func7,Tryd.ntmps7
  go_wp2_with (first|((with_reducible refine gate_dst (N:=1) rfl ?_);(try (refine gate_guard (by rfl) ?_;dsimp only));refine box_event ?hg (N:=1) ?hd (cs:=#[.slice A0_0 l0_0.length c0_0,.int .i64 a0_1,.int .i64 a0_2,.slice A0_3 l0_3.length c0_3,.slice A0_4 l0_4.length c0_4]) (t:=26) ?hr ?_;(case hd => rfl);(case hg => rfl);(case hr => first|(go_simp;done)|(go_simp;rfl));intro gb161 hg w5 hbox hb;have n0_:=Aside0.mk (below_step bl_ hb);have n1_:=Aside0.mk (hbox);have n2_:=Aside0.mk ((by rw [hg];exact (below_size bl_):w.heap.size≤gb161));have n3_:=Aside0.mk ((by rw [hg];exact (below_size bl_):w.heap.size≤gb161));clear HB;have HB:=n0_;have BK161:=n1_;have GW161:=n2_;have GE161:=n3_;clear n0_ n1_ n2_ n3_;clear hb hbox hg;obtain ⟨hcz6_0,hcz6_1,hcz6_2,hcz6_3,hcz6_4⟩:=blc5_ BK161.out;have hfz6_0:=blk_frozen BK161.out 0;have hfz6_1:=blk_frozen BK161.out 1;have hfz6_2:=blk_frozen BK161.out 2;have hfz6_3:=blk_frozen BK161.out 3;have hfz6_4:=blk_frozen BK161.out 4)|(refine callA_ (f:=24) (some 15) Tryd.func24 #[.slice A0_0 l0_0.length c0_0] ?_;(with_reducible refine (pool_Check.calls k _ _ l0_0 t162 _ ?side3 ?side1 ?side2 A2.out).mono ?_);(case side1 => exact kc_ (Kd.C_below HR0_0.out HB.out));(case side2 => exact HC0_0.out);(case side3 => exact ⟨GG.below hG.out bl_⟩);rintro e w7 ⟨rfl,hb⟩;refine ⟨_,rfl,?_⟩;have n0_:=Aside0.mk (blk_below (g:=gb161) (o:=.cells #[.slice A0_0 l0_0.length c0_0,.int .i64 a0_1,.int .i64 a0_2,.slice A0_3 l0_3.length c0_3,.slice A0_4 l0_4.length c0_4] 26 (0,0)) bk_ hb);have n1_:=Aside0.mk (below_step bl_ hb);clear BK161;clear HB;have BK161:=n0_;have HB:=n1_;clear n0_ n1_;(try clear hb);(try clear hb2);(try clear hk);(try clear hi);obtain ⟨hcz8_0,hcz8_1,hcz8_2,hcz8_3,hcz8_4⟩:=blc5_ BK161.out;have hfz8_0:=blk_frozen BK161.out 0;have hfz8_1:=blk_frozen BK161.out 1;have hfz8_2:=blk_frozen BK161.out 2;have hfz8_3:=blk_frozen BK161.out 3;have hfz8_4:=blk_frozen BK161.out 4))
  go_loopg [4,29] k (fun kq v4 v29 w' => ∃ (x4_1:Int) (x29_1:Int),v4=.int .i64 x4_1∧v29=.int .i64 x29_1∧Aside0 (class_Check.l0 kq x4_1 l0_4 (l0_4.length:Int) x29_1 l0_0 a0_1 a0_2 l0_3 l0_4=some r)∧Aside0 (kq≤k)∧Aside0 (w'.heap[gb161]?=some (.cells #[(.slice A0_0 l0_0.length c0_0),.int .i64 a0_1,.int .i64 a0_2,(.slice A0_3 l0_3.length c0_3),(.slice A0_4 l0_4.length c0_4)] 26 (0,0)))∧Aside0 (Below w.heap.size w w'))
  case atStart => exact ⟨(ji4),(0),(by first|rfl|(simp;done)|(simp only [← hji4] <;> (first|rfl|simp))|(simp [*];done)),r3_,H',⟨Nat.le_refl _⟩,⟨bk_⟩,⟨bl_⟩⟩
  case round =>
   clear H'
   try clear c3;try clear c3b0;try clear c3b1;try clear hcz6_0;try clear hcz6_1;try clear hcz6_2;try clear hcz6_3;try clear hcz6_4;try clear hcz8_0;try clear hcz8_1;try clear hcz8_2;try clear hcz8_3;try clear hcz8_4;try clear hfz6_0;try clear hfz6_1;try clear hfz6_2;try clear hfz6_3;try clear hfz6_4;try clear hfz8_0;try clear hfz8_1;try clear hfz8_2;try clear hfz8_3;try clear hfz8_4
   obtain ⟨x4_1,x29_1,rfl,rfl,HA,HK1,BK161,HB⟩:=hrel
   cases gk with
   | zero => exact absurd HA.out (by simp [class_Check.l0])
   | succ k1 =>
    have H:=HA.out
    clear HA
    simp only [class_Check.l0] at H
    by_cases c9:x29_1 < (l0_4.length:Int)
    ·rw [if_pos c9] at H
     have c9b0:decide (x29_1 < (l0_4.length:Int))=true:=decide_eq_true c9
     clear c9
     by_cases c10:0≤x29_1
     ·rw [if_pos c10] at H
      have c10b0:decide (0≤x29_1)=true:=decide_eq_true c10
      clear c10
      by_cases c11:x29_1 < (l0_4.length:Int)
      ·rw [if_pos c11] at H
       have c11b0:decide (x29_1 < (l0_4.length:Int))=true:=decide_eq_true c11
       clear c11
       obtain ⟨ji12,hji12⟩:∃ j_:Int,(mx x4_1 (((rd_T49 l0_4 x29_1).f6).length:Int))=j_:=⟨_,rfl⟩
       replace H:(class_Check.l0 k1 ji12 l0_4 (l0_4.length:Int) (wrap64 (x29_1 + 1)) l0_0 a0_1 a0_2 l0_3 l0_4)=some r:=by first|(rw [hji12] at H;exact H)|(simp only [hji12] at H ⊢;exact H)
       have hji12_:(if x4_1 < (((rd_T49 l0_4 x29_1).f6).length:Int) then (((rd_T49 l0_4 x29_1).f6).length:Int) else x4_1)=ji12:=hji12
       have H':=Aside0.mk H
       clear H
       have p163:0≤(x29_1:Int):=od_
       have q163:x29_1 < (l0_4.length:Int):=od_
       obtain ⟨ad163,A163_5,c163_5,A163_6,c163_6,A163_7,c163_7,e163,hx163_0,hx163_1,hx163_2,hx163_3,hx163_4,hx163_5,hx163_6,hx163_7,hl163_5,hi163_5,hl163_6,hi163_6,hl163_7,hi163_7⟩:=at_T49 HR0_4.out x29_1 p163 q163
       cases e163
       replace hx163_0:=hb_ HB hx163_0
       replace hx163_1:=hb_ HB hx163_1
       replace hx163_2:=hb_ HB hx163_2
       replace hx163_3:=hb_ HB hx163_3
       replace hx163_4:=hb_ HB hx163_4
       replace hx163_5:=hb_ HB hx163_5
       replace hx163_6:=hb_ HB hx163_6
       replace hx163_7:=hb_ HB hx163_7
       have HR163_5:=Aside0.mk hi163_5
       have HC163_5:=Aside0.mk hl163_5
       clear hi163_5 hl163_5
       have HR163_6:=Aside0.mk hi163_6
       have HC163_6:=Aside0.mk hl163_6
       clear hi163_6 hl163_6
       have HR163_7:=Aside0.mk hi163_7
       have HC163_7:=Aside0.mk hl163_7
       clear hi163_7 hl163_7
       replace p163:=eq_true p163
       replace q163:=eq_true q163
       go_wp2_with (first|((with_reducible refine gate_dst (N:=6) rfl ?_);(try (refine gate_guard (by rfl) ?_;dsimp only));refine box_event ?hg (N:=6) ?hd (cs:=#[.int .i64 0,.int .i64 0,.int .i64 0,.int .i64 0,.int .i64 0,.slice none 0 0,.slice none 0 0,.slice none 0 0]) (t:=49) ?hr ?_;(case hd => rfl);(case hg => rfl);(case hr => first|(go_simp;done)|(go_simp;rfl));intro gb164 hg w13 hbox hb;have n0_:=Aside0.mk (blk_below (g:=gb161) (o:=.cells #[.slice A0_0 l0_0.length c0_0,.int .i64 a0_1,.int .i64 a0_2,.slice A0_3 l0_3.length c0_3,.slice (some ad163) l0_4.length c0_4] 26 (0,0)) bk_ hb);have n1_:=Aside0.mk (below_step bl_ hb);have n2_:=Aside0.mk (hbox);have n3_:=Aside0.mk ((by rw [hg];exact (below_size bl_):w.heap.size≤gb164));have n4_:=Aside0.mk ((by rw [hg];exact (below_size bl_):w.heap.size≤gb164));have n5_:=Aside0.mk ((by rw [hg];exact Nat.ne_of_lt (blk_lt (g:=gb161) (o:=.cells #[.slice A0_0 l0_0.length c0_0,.int .i64 a0_1,.int .i64 a0_2,.slice A0_3 l0_3.length c0_3,.slice (some ad163) l0_4.length c0_4] 26 (0,0)) bk_):gb161 ≠ gb164));have n6_:=Aside0.mk ((by rw [hg];exact Nat.ne_of_gt (blk_lt (g:=gb161) (o:=.cells #[.slice A0_0 l0_0.length c0_0,.int .i64 a0_1,.int .i64 a0_2,.slice A0_3 l0_3.length c0_3,.slice (some ad163) l0_4.length c0_4] 26 (0,0)) bk_):gb164 ≠ gb161));clear BK161;clear HB;have BK161:=n0_;have HB:=n1_;have BK164:=n2_;have GW164:=n3_;have GE164:=n4_;have NB161_164:=n5_;have NB164_161:=n6_;clear n0_ n1_ n2_ n3_ n4_ n5_ n6_;clear hb hbox hg;have hnb14:=NB164_161.out;have hnc14:=NB161_164.out;obtain ⟨hcz15_0,hcz15_1,hcz15_2,hcz15_3,hcz15_4,hcz15_5,hcz15_6,hcz15_7⟩:=blc8_ BK164.out;have hfz15_0:=blk_frozen BK164.out 0;have hfz15_1:=blk_frozen BK164.out 1;have hfz15_2:=blk_frozen BK164.out 2;have hfz15_3:=blk_frozen BK164.out 3;have hfz15_4:=blk_frozen BK164.out 4;have hfz15_5:=blk_frozen BK164.out 5;have hfz15_6:=blk_frozen BK164.out 6;have hfz15_7:=blk_frozen BK164.out 7)|((with_reducible refine gate_store (t:=49) (p:=6) rfl ?_);refine store_event (t:=49) (p:=6) (v:=?vo_w16) (w1:=((((((((w13.setCell ⟨gb164,0,none⟩ (.int .i64 ((rd_T49 l0_4 x29_1).f0))).setCell ⟨gb164,1,none⟩ (.int .i64 ((rd_T49 l0_4 x29_1).f1))).setCell ⟨gb164,2,none⟩ (.int .i64 ((rd_T49 l0_4 x29_1).f2))).setCell ⟨gb164,3,none⟩ (.int .i64 ((rd_T49 l0_4 x29_1).f3))).setCell ⟨gb164,4,none⟩ (.int .i64 ((rd_T49 l0_4 x29_1).f4))).setCell ⟨gb164,5,none⟩ (.slice A163_5 ((rd_T49 l0_4 x29_1).f5).length c163_5)).setCell ⟨gb164,6,none⟩ (.slice A163_6 ((rd_T49 l0_4 x29_1).f6).length c163_6)).setCell ⟨gb164,7,none⟩ (.slice A163_7 ((rd_T49 l0_4 x29_1).f7).length c163_7))) ?hg ?ho ?hn ?hr ?_;(case ho => rfl);(case hg => rfl);(case hn => rfl);(case hr => first|(go_simp;done)|(go_simp;rfl));intro w16 hw;have n0_:Aside0 (w16.heap[gb161]?=some (.cells #[.slice A0_0 l0_0.length c0_0,.int .i64 a0_1,.int .i64 a0_2,.slice A0_3 l0_3.length c0_3,.slice (some ad163) l0_4.length c0_4] 26 (0,0))):=⟨(by rw [hw];exact bk_)⟩;have n1_:Aside0 (w16.heap[gb164]?=some (.cells #[.int .i64 ((rd_T49 l0_4 x29_1).f0),.int .i64 ((rd_T49 l0_4 x29_1).f1),.int .i64 ((rd_T49 l0_4 x29_1).f2),.int .i64 ((rd_T49 l0_4 x29_1).f3),.int .i64 ((rd_T49 l0_4 x29_1).f4),.slice A163_5 ((rd_T49 l0_4 x29_1).f5).length c163_5,.slice A163_6 ((rd_T49 l0_4 x29_1).f6).length c163_6,.slice A163_7 ((rd_T49 l0_4 x29_1).f7).length c163_7] 49 (0,0))):=⟨(by rw [hw];exact (by (with_reducible repeat (first|refine blk_drewN ?_ _|refine blk_drew ?_|refine blk_alloc ?_ _));refine blk_put (cs:=#[.int .i64 ((rd_T49 l0_4 x29_1).f0),.int .i64 ((rd_T49 l0_4 x29_1).f1),.int .i64 ((rd_T49 l0_4 x29_1).f2),.int .i64 ((rd_T49 l0_4 x29_1).f3),.int .i64 ((rd_T49 l0_4 x29_1).f4),.slice A163_5 ((rd_T49 l0_4 x29_1).f5).length c163_5,.slice A163_6 ((rd_T49 l0_4 x29_1).f6).length c163_6,.slice none 0 0]) ?_ 7 _ rfl;(with_reducible repeat (first|refine blk_drewN ?_ _|refine blk_drew ?_|refine blk_alloc ?_ _));refine blk_put (cs:=#[.int .i64 ((rd_T49 l0_4 x29_1).f0),.int .i64 ((rd_T49 l0_4 x29_1).f1),.int .i64 ((rd_T49 l0_4 x29_1).f2),.int .i64 ((rd_T49 l0_4 x29_1).f3),.int .i64 ((rd_T49 l0_4 x29_1).f4),.slice A163_5 ((rd_T49 l0_4 x29_1).f5).length c163_5,.slice none 0 0,.slice none 0 0]) ?_ 6 _ rfl;(with_reducible repeat (first|refine blk_drewN ?_ _|refine blk_drew ?_|refine blk_alloc ?_ _));refine blk_put (cs:=#[.int .i64 ((rd_T49 l0_4 x29_1).f0),.int .i64 ((rd_T49 l0_4 x29_1).f1),.int .i64 ((rd_T49 l0_4 x29_1).f2),.int .i64 ((rd_T49 l0_4 x29_1).f3),.int .i64 ((rd_T49 l0_4 x29_1).f4),.slice none 0 0,.slice none 0 0,.slice none 0 0]) ?_ 5 _ rfl;(with_reducible repeat (first|refine blk_drewN ?_ _|refine blk_drew ?_|refine blk_alloc ?_ _));refine blk_put (cs:=#[.int .i64 ((rd_T49 l0_4 x29_1).f0),.int .i64 ((rd_T49 l0_4 x29_1).f1),.int .i64 ((rd_T49 l0_4 x29_1).f2),.int .i64 ((rd_T49 l0_4 x29_1).f3),.int .i64 0,.slice none 0 0,.slice none 0 0,.slice none 0 0]) ?_ 4 _ rfl;(with_reducible repeat (first|refine blk_drewN ?_ _|refine blk_drew ?_|refine blk_alloc ?_ _));refine blk_put (cs:=#[.int .i64 ((rd_T49 l0_4 x29_1).f0),.int .i64 ((rd_T49 l0_4 x29_1).f1),.int .i64 ((rd_T49 l0_4 x29_1).f2),.int .i64 0,.int .i64 0,.slice none 0 0,.slice none 0 0,.slice none 0 0]) ?_ 3 _ rfl;(with_reducible repeat (first|refine blk_drewN ?_ _|refine blk_drew ?_|refine blk_alloc ?_ _));refine blk_put (cs:=#[.int .i64 ((rd_T49 l0_4 x29_1).f0),.int .i64 ((rd_T49 l0_4 x29_1).f1),.int .i64 0,.int .i64 0,.int .i64 0,.slice none 0 0,.slice none 0 0,.slice none 0 0]) ?_ 2 _ rfl;(with_reducible repeat (first|refine blk_drewN ?_ _|refine blk_drew ?_|refine blk_alloc ?_ _));refine blk_put (cs:=#[.int .i64 ((rd_T49 l0_4 x29_1).f0),.int .i64 0,.int .i64 0,.int .i64 0,.int .i64 0,.slice none 0 0,.slice none 0 0,.slice none 0 0]) ?_ 1 _ rfl;(with_reducible repeat (first|refine blk_drewN ?_ _|refine blk_drew ?_|refine blk_alloc ?_ _));refine blk_put (cs:=#[.int .i64 0,.int .i64 0,.int .i64 0,.int .i64 0,.int .i64 0,.slice none 0 0,.slice none 0 0,.slice none 0 0]) ?_ 0 _ rfl;(with_reducible repeat (first|refine blk_drewN ?_ _|refine blk_drew ?_|refine blk_alloc ?_ _));exact BK164.out))⟩;have n2_:Aside0 (Below w.heap.size w w16):=⟨(by rw [hw];exact bl_)⟩;clear hw;clear BK161;clear BK164;clear HB;have BK161:=n0_;have BK164:=n1_;have HB:=n2_;clear n0_ n1_ n2_;obtain ⟨hcz17_0,hcz17_1,hcz17_2,hcz17_3,hcz17_4,hcz17_5,hcz17_6,hcz17_7⟩:=blc8_ BK164.out;have hfz17_0:=blk_frozen BK164.out 0;have hfz17_1:=blk_frozen BK164.out 1;have hfz17_2:=blk_frozen BK164.out 2;have hfz17_3:=blk_frozen BK164.out 3;have hfz17_4:=blk_frozen BK164.out 4;have hfz17_5:=blk_frozen BK164.out 5;have hfz17_6:=blk_frozen BK164.out 6;have hfz17_7:=blk_frozen BK164.out 7))
       go_roundg k1
       case measure => have:=HK1.out;omega
       case rel => exact ⟨(ji12),(wrap64 (x29_1 + 1)),(by first|rfl|(simp;done)|(simp only [← hji12] <;> (first|rfl|simp))|(simp [*];done)),r3_,H',⟨by have:=HK1.out;omega⟩,⟨bk_⟩,⟨bl_⟩⟩
      ·rw [if_neg c11] at H
       exact absurd H (by simp)
     ·rw [if_neg c10] at H
      exact absurd H (by simp)
    ·rw [if_neg c9] at H
     have c9b0:decide (x29_1 < (l0_4.length:Int))=false:=decide_eq_false c9
     clear c9
     by_cases c18:x4_1 > 64
     ·rw [if_pos c18] at H
      have c18b0:decide (64 < x4_1)=true:=decide_eq_true c18
      clear c18
      obtain rfl:=Option.some.inj H
      go_wp2
      go_ret
      exact ⟨by first|rfl|(simp [errW_none,errW_some] <;> rfl)|(simp only [← hji4];first|rfl|(simp [errW_none,errW_some] <;> rfl))|(simp [*,errW_none,errW_some] <;> rfl),bl_⟩
     ·rw [if_neg c18] at H
      have c18b0:decide (64 < x4_1)=false:=decide_eq_false c18
      clear c18
      obtain ⟨y166,hy166⟩:∃ y_:List Int,y_=(([a0_1,a0_2]:List Int)):=⟨_,rfl⟩
      replace H:((class_rules_class.f k1 l0_0 y166).bind fun t169 => (class_Check.l1 k1 t169 l0_3 (l0_3.length:Int) 0 l0_0 a0_1 a0_2 l0_3 l0_4 l0_0))=some r:=by first|(rw [hy166];with_reducible exact H)|(have H2_:=(Option.bind_some _ _).symm.trans H;rw [hy166];with_reducible exact H2_)|(have H2_:=(Option.bind_some _ _).symm.trans H;with_reducible exact H2_)|with_reducible exact H|(rw [hy166];exact H)|exact H
      have Ny166:=Aside0.mk hy166
      clear hy166
      replace H:=Option.bind_eq_some_iff.mp H
      obtain ⟨t169,A190,H⟩:=H
      try dsimp only at H
      have A19:=Aside0.mk A190
      clear A190
      have H':=Aside0.mk H
      clear H
      obtain ⟨hcz20_0,hcz20_1,hcz20_2,hcz20_3,hcz20_4,hfz20_0,hfz20_1,hfz20_2,hfz20_3,hfz20_4⟩:=blk5_ BK161.out
      go_wp2_with (first|((with_reducible refine gate_dst (N:=7) rfl ?_);(try (refine gate_guard (by rfl) ?_;dsimp only));refine box_event ?hg (N:=7) ?hd (cs:=#[.slice none 0 0]) (t:=64) ?hr ?_;(case hd => rfl);(case hg => rfl);(case hr => first|(go_simp;done)|(go_simp;rfl));intro gb165 hg w21 hbox hb;have n0_:=Aside0.mk (blk_below (g:=gb161) (o:=.cells #[.slice A0_0 l0_0.length c0_0,.int .i64 a0_1,.int .i64 a0_2,.slice A0_3 l0_3.length c0_3,.slice A0_4 l0_4.length c0_4] 26 (0,0)) bk_ hb);have n1_:=Aside0.mk (below_step bl_ hb);have n2_:=Aside0.mk (hbox);have n3_:=Aside0.mk ((by rw [hg];exact (below_size bl_):w.heap.size≤gb165));have n4_:=Aside0.mk ((by rw [hg];exact (below_size bl_):w.heap.size≤gb165));have n5_:=Aside0.mk ((by rw [hg];exact Nat.ne_of_lt (blk_lt (g:=gb161) (o:=.cells #[.slice A0_0 l0_0.length c0_0,.int .i64 a0_1,.int .i64 a0_2,.slice A0_3 l0_3.length c0_3,.slice A0_4 l0_4.length c0_4] 26 (0,0)) bk_):gb161 ≠ gb165));have n6_:=Aside0.mk ((by rw [hg];exact Nat.ne_of_gt (blk_lt (g:=gb161) (o:=.cells #[.slice A0_0 l0_0.length c0_0,.int .i64 a0_1,.int .i64 a0_2,.slice A0_3 l0_3.length c0_3,.slice A0_4 l0_4.length c0_4] 26 (0,0)) bk_):gb165 ≠ gb161));clear BK161;clear HB;have BK161:=n0_;have HB:=n1_;have BK165:=n2_;have GW165:=n3_;have GE165:=n4_;have NB161_165:=n5_;have NB165_161:=n6_;clear n0_ n1_ n2_ n3_ n4_ n5_ n6_;clear hb hbox hg;have hnb22:=NB165_161.out;have hnc22:=NB161_165.out;have hcz23_0:w21.cell? ⟨gb165,0,none⟩=some (.slice none 0 0):=(blk_cell BK165.out 0).trans rfl;have hfz23_0:=blk_frozen BK165.out 0;obtain ⟨hcz24_0,hcz24_1,hcz24_2,hcz24_3,hcz24_4⟩:=blc5_ BK161.out;have hfz24_0:=blk_frozen BK161.out 0;have hfz24_1:=blk_frozen BK161.out 1;have hfz24_2:=blk_frozen BK161.out 2;have hfz24_3:=blk_frozen BK161.out 3;have hfz24_4:=blk_frozen BK161.out 4)|((with_reducible refine gate_dst (N:=49) rfl ?_);(try (refine gate_guard (by rfl) ?_;dsimp only));refine Kd.R_lit (Kd.int .i64) _ 3 ?hg (N:=49) ?hd (xs:=([a0_1,a0_2]:List Int)) (inner:=[.int .i64 a0_1,.int .i64 a0_2]) (ok:=fun _ => True) (okp:=fun _ => True) ?hr ?hp (fun _ hk => hk) trivial (Below.refl _ _) (Nat.le_refl _) (by simp) ?_;(case hd => rfl);(case hg => rfl);(case hr => first|(go_simp;done)|(go_simp;rfl));(case hp => exact (Reps.one (show Kd.M (Kd.int .i64) _ _ _ a0_1 [.int .i64 a0_1] from rfl) (Reps.one (show Kd.M (Kd.int .i64) _ _ _ a0_2 [.int .i64 a0_2] from rfl) (Reps.none _ _))));intro v167 w25 ho26 hb hg_ hnew_;clear hg_ hnew_;(first|rw [← Ny166.out] at ho26|(simp only [Int.reduceToNat] at ho26;rw [← Ny166.out] at ho26));have n0_:=Aside0.mk (Kd.R_lower ho26 (below_size bl_));have n1_:=Aside0.mk (blk_below (g:=gb161) (o:=.cells #[.slice A0_0 l0_0.length c0_0,.int .i64 a0_1,.int .i64 a0_2,.slice A0_3 l0_3.length c0_3,.slice A0_4 l0_4.length c0_4] 26 (0,0)) bk_ hb);have n2_:=Aside0.mk (blk_below (g:=gb165) (o:=.cells #[.slice A0_0 l0_0.length c0_0] 64 (0,0)) (by (with_reducible repeat (first|refine blk_drewN ?_ _|refine blk_drew ?_|refine blk_alloc ?_ _));refine blk_put (cs:=#[.slice none 0 0]) ?_ 0 _ rfl;(with_reducible repeat (first|refine blk_drewN ?_ _|refine blk_drew ?_|refine blk_alloc ?_ _));exact BK165.out) hb);have n3_:=Aside0.mk (below_step bl_ hb);clear BK161;clear BK165;clear HB;have HO168:=n0_;have BK161:=n1_;have BK165:=n2_;have HB:=n3_;clear n0_ n1_ n2_ n3_;clear hb ho26;obtain ⟨Ao27,co27,eo27⟩:=Kd.R_slice HO168.out;subst eo27)|(refine callA_ (f:=25) (some 50) Tryd.func25 #[.agg #[.slice A0_0 l0_0.length c0_0],.slice Ao27 y166.length co27] ?_;(with_reducible refine (class_rules_class.calls k1 _ _ l0_0 _ _ y166 t169 _ ?side1 ?side2 ?side3 ?side4 A19.out).mono ?_);(case side1 => exact kc_ (Kd.C_below HR0_0.out HB.out));(case side2 => exact HC0_0.out);(case side3 => exact kc_ (Kd.R_reads' HO168.out).2.2);(case side4 => exact (Kd.R_reads' HO168.out).2.1);rintro e w28 ⟨rfl,hb⟩;refine ⟨_,rfl,?_⟩;have n0_:=Aside0.mk (Kd.R_below (kr_ HO168.out) hb);have n1_:=Aside0.mk (blk_below (g:=gb161) (o:=.cells #[.slice A0_0 l0_0.length c0_0,.int .i64 a0_1,.int .i64 a0_2,.slice A0_3 l0_3.length c0_3,.slice A0_4 l0_4.length c0_4] 26 (0,0)) bk_ hb);have n2_:=Aside0.mk (blk_below (g:=gb165) (o:=.cells #[.slice A0_0 l0_0.length c0_0] 64 (0,0)) bk_ hb);have n3_:=Aside0.mk (below_step bl_ hb);clear HO168;clear BK161;clear BK165;clear HB;have HO168:=n0_;have BK161:=n1_;have BK165:=n2_;have HB:=n3_;clear n0_ n1_ n2_ n3_;(try clear hb);(try clear hb2);(try clear hk);(try clear hi);obtain ⟨hcz29_0,hcz29_1,hcz29_2,hcz29_3,hcz29_4⟩:=blc5_ BK161.out;have hfz29_0:=blk_frozen BK161.out 0;have hfz29_1:=blk_frozen BK161.out 1;have hfz29_2:=blk_frozen BK161.out 2;have hfz29_3:=blk_frozen BK161.out 3;have hfz29_4:=blk_frozen BK161.out 4))
      go_loopg [8,54] k1 (fun kq v8 v54 w' => ∃ (x8_2:Bool) (x54_2:Int),v8=.bool x8_2∧v54=.int .i64 x54_2∧Aside0 (class_Check.l1 kq x8_2 l0_3 (l0_3.length:Int) x54_2 l0_0 a0_1 a0_2 l0_3 l0_4 l0_0=some r)∧Aside0 (kq≤k1)∧Aside0 (w'.heap[gb161]?=some (.cells #[(.slice A0_0 l0_0.length c0_0),.int .i64 a0_1,.int .i64 a0_2,(.slice A0_3 l0_3.length c0_3),(.slice A0_4 l0_4.length c0_4)] 26 (0,0)))∧Aside0 (w'.heap[gb165]?=some (.cells #[(.slice A0_0 l0_0.length c0_0)] 64 (0,0)))∧Aside0 (Below w.heap.size w w'))
      case atStart => exact ⟨(t169),(0),r3_,r3_,H',⟨Nat.le_refl _⟩,⟨bk_⟩,⟨bk_⟩,⟨bl_⟩⟩
      case round =>
       clear H'
       try clear c9;try clear c9b0;try clear c18;try clear c18b0;try clear hcz20_0;try clear hcz20_1;try clear hcz20_2;try clear hcz20_3;try clear hcz20_4;try clear hcz23_0;try clear hcz24_0;try clear hcz24_1;try clear hcz24_2;try clear hcz24_3;try clear hcz24_4;try clear hcz29_0;try clear hcz29_1;try clear hcz29_2;try clear hcz29_3;try clear hcz29_4;try clear hfz20_0;try clear hfz20_1;try clear hfz20_2;try clear hfz20_3;try clear hfz20_4;try clear hfz23_0;try clear hfz24_0;try clear hfz24_1;try clear hfz24_2;try clear hfz24_3;try clear hfz24_4;try clear hfz29_0;try clear hfz29_1;try clear hfz29_2;try clear hfz29_3;try clear hfz29_4
       obtain ⟨x8_2,x54_2,rfl,rfl,HA,HK2,BK161,BK165,HB⟩:=hrel
       cases gk with
       | zero => exact absurd HA.out (by simp [class_Check.l1])
       | succ k2 =>
        have H:=HA.out
        clear HA
        simp only [class_Check.l1] at H
        by_cases c30:x54_2 < (l0_3.length:Int)
        ·rw [if_pos c30] at H
         have c30b0:decide (x54_2 < (l0_3.length:Int))=true:=decide_eq_true c30
         clear c30
         by_cases c31:0≤x54_2
         ·rw [if_pos c31] at H
          have c31b0:decide (0≤x54_2)=true:=decide_eq_true c31
          clear c31
          by_cases c32:x54_2 < (l0_3.length:Int)
          ·rw [if_pos c32] at H
           have c32b0:decide (x54_2 < (l0_3.length:Int))=true:=decide_eq_true c32
           clear c32
           by_cases c33:x8_2=true
           ·subst c33
            rw [if_pos rfl] at H
            replace H:=Option.bind_eq_some_iff.mp H
            obtain ⟨t172,A340,H⟩:=H
            try dsimp only at H
            have A34:=Aside0.mk A340
            clear A340
            by_cases c35:t172=true
            ·subst c35
             rw [if_pos rfl] at H
             obtain ⟨y173,hy173⟩:∃ y_:List Int,y_=(([(rd_T46 l0_3 x54_2).f1,(rd_T46 l0_3 x54_2).f2]:List Int)):=⟨_,rfl⟩
             replace H:((class_rules_text.f k2 l0_0 y173).bind fun t176 => (class_Check.l1 k2 t176 l0_3 (l0_3.length:Int) (wrap64 (x54_2 + 1)) l0_0 a0_1 a0_2 l0_3 l0_4 l0_0))=some r:=by first|(rw [hy173];with_reducible exact H)|(have H2_:=(Option.bind_some _ _).symm.trans H;rw [hy173];with_reducible exact H2_)|(have H2_:=(Option.bind_some _ _).symm.trans H;with_reducible exact H2_)|with_reducible exact H|(rw [hy173];exact H)|exact H
             have Ny173:=Aside0.mk hy173
             clear hy173
             replace H:=Option.bind_eq_some_iff.mp H
             obtain ⟨t176,A360,H⟩:=H
             try dsimp only at H
             have A36:=Aside0.mk A360
             clear A360
             have H':=Aside0.mk H
             clear H
             have p170:0≤(x54_2:Int):=od_
             have q170:x54_2 < (l0_3.length:Int):=od_
             obtain ⟨ad170,e170,hx170_0,hx170_1,hx170_2⟩:=at_T46 HR0_3.out x54_2 p170 q170
             cases e170
             replace hx170_0:=hb_ HB hx170_0
             replace hx170_1:=hb_ HB hx170_1
             replace hx170_2:=hb_ HB hx170_2
             replace p170:=eq_true p170
             replace q170:=eq_true q170
             go_wp2_with (first|((with_reducible refine gate_dst (N:=10) rfl ?_);(try (refine gate_guard (by rfl) ?_;dsimp only));refine box_event ?hg (N:=10) ?hd (cs:=#[.int .i64 0,.int .i64 0,.int .i64 0]) (t:=46) ?hr ?_;(case hd => rfl);(case hg => rfl);(case hr => first|(go_simp;done)|(go_simp;rfl));intro gb171 hg w37 hbox hb;have n0_:=Aside0.mk (blk_below (g:=gb161) (o:=.cells #[.slice A0_0 l0_0.length c0_0,.int .i64 a0_1,.int .i64 a0_2,.slice (some ad170) l0_3.length c0_3,.slice A0_4 l0_4.length c0_4] 26 (0,0)) bk_ hb);have n1_:=Aside0.mk (blk_below (g:=gb165) (o:=.cells #[.slice A0_0 l0_0.length c0_0] 64 (0,0)) bk_ hb);have n2_:=Aside0.mk (below_step bl_ hb);have n3_:=Aside0.mk (hbox);have n4_:=Aside0.mk ((by rw [hg];exact (below_size bl_):w.heap.size≤gb171));have n5_:=Aside0.mk ((by rw [hg];exact (below_size bl_):w.heap.size≤gb171));have n6_:=Aside0.mk ((by rw [hg];exact Nat.ne_of_lt (blk_lt (g:=gb161) (o:=.cells #[.slice A0_0 l0_0.length c0_0,.int .i64 a0_1,.int .i64 a0_2,.slice (some ad170) l0_3.length c0_3,.slice A0_4 l0_4.length c0_4] 26 (0,0)) bk_):gb161 ≠ gb171));have n7_:=Aside0.mk ((by rw [hg];exact Nat.ne_of_gt (blk_lt (g:=gb161) (o:=.cells #[.slice A0_0 l0_0.length c0_0,.int .i64 a0_1,.int .i64 a0_2,.slice (some ad170) l0_3.length c0_3,.slice A0_4 l0_4.length c0_4] 26 (0,0)) bk_):gb171 ≠ gb161));have n8_:=Aside0.mk ((by rw [hg];exact Nat.ne_of_lt (blk_lt (g:=gb165) (o:=.cells #[.slice A0_0 l0_0.length c0_0] 64 (0,0)) bk_):gb165 ≠ gb171));have n9_:=Aside0.mk ((by rw [hg];exact Nat.ne_of_gt (blk_lt (g:=gb165) (o:=.cells #[.slice A0_0 l0_0.length c0_0] 64 (0,0)) bk_):gb171 ≠ gb165));clear BK161;clear BK165;clear HB;have BK161:=n0_;have BK165:=n1_;have HB:=n2_;have BK171:=n3_;have GW171:=n4_;have GE171:=n5_;have NB161_171:=n6_;have NB171_161:=n7_;have NB165_171:=n8_;have NB171_165:=n9_;clear n0_ n1_ n2_ n3_ n4_ n5_ n6_ n7_ n8_ n9_;clear hb hbox hg;have hnb38:=NB171_161.out;have hnc38:=NB161_171.out;have hnb39:=NB171_165.out;have hnc39:=NB165_171.out;obtain ⟨hcz40_0,hcz40_1,hcz40_2⟩:=blc3_ BK171.out;have hfz40_0:=blk_frozen BK171.out 0;have hfz40_1:=blk_frozen BK171.out 1;have hfz40_2:=blk_frozen BK171.out 2)|(go_at_call 26;(with_reducible refine (class_flags.calls ((rd_T46 l0_3 x54_2).f0) true _ A34.out).mono ?_);rintro e w' ⟨rfl,⟨nd,rfl⟩⟩;have hnb41:=NB165_161.out;have hnc41:=NB161_165.out;have hcz42_0:w37.cell? ⟨gb165,0,none⟩=some (.slice A0_0 l0_0.length c0_0):=(blk_cell BK165.out 0).trans rfl;have hfz42_0:=blk_frozen BK165.out 0)|((with_reducible refine gate_dst (N:=70) rfl ?_);(try (refine gate_guard (by rfl) ?_;dsimp only));refine Kd.R_lit (Kd.int .i64) _ 3 ?hg (N:=70) ?hd (xs:=([(rd_T46 l0_3 x54_2).f1,(rd_T46 l0_3 x54_2).f2]:List Int)) (inner:=[.int .i64 ((rd_T46 l0_3 x54_2).f1),.int .i64 ((rd_T46 l0_3 x54_2).f2)]) (ok:=fun _ => True) (okp:=fun _ => True) ?hr ?hp (fun _ hk => hk) trivial (Below.refl _ _) (Nat.le_refl _) (by simp) ?_;(case hd => rfl);(case hg => rfl);(case hr => first|(go_simp;done)|(go_simp;rfl));(case hp => exact (Reps.one (show Kd.M (Kd.int .i64) _ _ _ ((rd_T46 l0_3 x54_2).f1) [.int .i64 ((rd_T46 l0_3 x54_2).f1)] from rfl) (Reps.one (show Kd.M (Kd.int .i64) _ _ _ ((rd_T46 l0_3 x54_2).f2) [.int .i64 ((rd_T46 l0_3 x54_2).f2)] from rfl) (Reps.none _ _))));intro v174 w43 ho44 hb hg_ hnew_;clear hg_ hnew_;(first|rw [← Ny173.out] at ho44|(simp only [Int.reduceToNat] at ho44;rw [← Ny173.out] at ho44));have n0_:=Aside0.mk (Kd.R_lower ho44 (below_size bl_));have n1_:=Aside0.mk (blk_below (g:=gb161) (o:=.cells #[.slice A0_0 l0_0.length c0_0,.int .i64 a0_1,.int .i64 a0_2,.slice (some ad170) l0_3.length c0_3,.slice A0_4 l0_4.length c0_4] 26 (0,0)) bk_ hb);have n2_:=Aside0.mk (blk_below (g:=gb165) (o:=.cells #[.slice A0_0 l0_0.length c0_0] 64 (0,0)) bk_ hb);have n3_:=Aside0.mk (blk_below (g:=gb171) (o:=.cells #[.int .i64 ((rd_T46 l0_3 x54_2).f0),.int .i64 ((rd_T46 l0_3 x54_2).f1),.int .i64 ((rd_T46 l0_3 x54_2).f2)] 46 (0,0)) (by (with_reducible repeat (first|refine blk_drewN ?_ _|refine blk_drew ?_|refine blk_alloc ?_ _));refine blk_put (cs:=#[.int .i64 ((rd_T46 l0_3 x54_2).f0),.int .i64 ((rd_T46 l0_3 x54_2).f1),.int .i64 0]) ?_ 2 _ rfl;(with_reducible repeat (first|refine blk_drewN ?_ _|refine blk_drew ?_|refine blk_alloc ?_ _));refine blk_put (cs:=#[.int .i64 ((rd_T46 l0_3 x54_2).f0),.int .i64 0,.int .i64 0]) ?_ 1 _ rfl;(with_reducible repeat (first|refine blk_drewN ?_ _|refine blk_drew ?_|refine blk_alloc ?_ _));refine blk_put (cs:=#[.int .i64 0,.int .i64 0,.int .i64 0]) ?_ 0 _ rfl;(with_reducible repeat (first|refine blk_drewN ?_ _|refine blk_drew ?_|refine blk_alloc ?_ _));exact BK171.out) hb);have n4_:=Aside0.mk (below_step bl_ hb);clear BK161;clear BK165;clear BK171;clear HB;have HO175:=n0_;have BK161:=n1_;have BK165:=n2_;have BK171:=n3_;have HB:=n4_;clear n0_ n1_ n2_ n3_ n4_;clear hb ho44;obtain ⟨Ao45,co45,eo45⟩:=Kd.R_slice HO175.out;subst eo45)|(go_at_call 27;(with_reducible refine (class_rules_text.calls k2 _ _ l0_0 _ _ y173 t176 _ ?side1 ?side2 ?side3 ?side4 A36.out).mono ?_);(case side1 => exact kc_ (Kd.C_below HR0_0.out HB.out));(case side2 => exact HC0_0.out);(case side3 => exact kc_ (Kd.R_reads' HO175.out).2.2);(case side4 => exact (Kd.R_reads' HO175.out).2.1);rintro e w46 ⟨rfl,hb⟩;have n0_:=Aside0.mk (Kd.R_below (kr_ HO175.out) hb);have n1_:=Aside0.mk (blk_below (g:=gb161) (o:=.cells #[.slice A0_0 l0_0.length c0_0,.int .i64 a0_1,.int .i64 a0_2,.slice (some ad170) l0_3.length c0_3,.slice A0_4 l0_4.length c0_4] 26 (0,0)) bk_ hb);have n2_:=Aside0.mk (blk_below (g:=gb165) (o:=.cells #[.slice A0_0 l0_0.length c0_0] 64 (0,0)) bk_ hb);have n3_:=Aside0.mk (blk_below (g:=gb171) (o:=.cells #[.int .i64 ((rd_T46 l0_3 x54_2).f0),.int .i64 ((rd_T46 l0_3 x54_2).f1),.int .i64 ((rd_T46 l0_3 x54_2).f2)] 46 (0,0)) bk_ hb);have n4_:=Aside0.mk (below_step bl_ hb);clear HO175;clear BK161;clear BK165;clear BK171;clear HB;have HO175:=n0_;have BK161:=n1_;have BK165:=n2_;have BK171:=n3_;have HB:=n4_;clear n0_ n1_ n2_ n3_ n4_;(try clear hb);(try clear hb2);(try clear hk);(try clear hi)))
             go_roundg k2
             case measure => have:=HK1.out;have:=HK2.out;omega
             case rel => exact ⟨(t176),(wrap64 (x54_2 + 1)),r3_,r3_,H',⟨by have:=HK1.out;have:=HK2.out;omega⟩,⟨bk_⟩,⟨bk_⟩,⟨bl_⟩⟩
            ·replace c35:=Bool.eq_false_iff.mpr c35
             subst c35
             rw [if_neg (show ¬ (false=true) by decide)] at H
             have H':=Aside0.mk H
             clear H
             have p170:0≤(x54_2:Int):=od_
             have q170:x54_2 < (l0_3.length:Int):=od_
             obtain ⟨ad170,e170,hx170_0,hx170_1,hx170_2⟩:=at_T46 HR0_3.out x54_2 p170 q170
             cases e170
             replace hx170_0:=hb_ HB hx170_0
             replace hx170_1:=hb_ HB hx170_1
             replace hx170_2:=hb_ HB hx170_2
             replace p170:=eq_true p170
             replace q170:=eq_true q170
             go_wp2_with (first|((with_reducible refine gate_dst (N:=10) rfl ?_);(try (refine gate_guard (by rfl) ?_;dsimp only));refine box_event ?hg (N:=10) ?hd (cs:=#[.int .i64 0,.int .i64 0,.int .i64 0]) (t:=46) ?hr ?_;(case hd => rfl);(case hg => rfl);(case hr => first|(go_simp;done)|(go_simp;rfl));intro gb171 hg w47 hbox hb;have n0_:=Aside0.mk (blk_below (g:=gb161) (o:=.cells #[.slice A0_0 l0_0.length c0_0,.int .i64 a0_1,.int .i64 a0_2,.slice (some ad170) l0_3.length c0_3,.slice A0_4 l0_4.length c0_4] 26 (0,0)) bk_ hb);have n1_:=Aside0.mk (blk_below (g:=gb165) (o:=.cells #[.slice A0_0 l0_0.length c0_0] 64 (0,0)) bk_ hb);have n2_:=Aside0.mk (below_step bl_ hb);have n3_:=Aside0.mk (hbox);have n4_:=Aside0.mk ((by rw [hg];exact (below_size bl_):w.heap.size≤gb171));have n5_:=Aside0.mk ((by rw [hg];exact (below_size bl_):w.heap.size≤gb171));have n6_:=Aside0.mk ((by rw [hg];exact Nat.ne_of_lt (blk_lt (g:=gb161) (o:=.cells #[.slice A0_0 l0_0.length c0_0,.int .i64 a0_1,.int .i64 a0_2,.slice (some ad170) l0_3.length c0_3,.slice A0_4 l0_4.length c0_4] 26 (0,0)) bk_):gb161 ≠ gb171));have n7_:=Aside0.mk ((by rw [hg];exact Nat.ne_of_gt (blk_lt (g:=gb161) (o:=.cells #[.slice A0_0 l0_0.length c0_0,.int .i64 a0_1,.int .i64 a0_2,.slice (some ad170) l0_3.length c0_3,.slice A0_4 l0_4.length c0_4] 26 (0,0)) bk_):gb171 ≠ gb161));have n8_:=Aside0.mk ((by rw [hg];exact Nat.ne_of_lt (blk_lt (g:=gb165) (o:=.cells #[.slice A0_0 l0_0.length c0_0] 64 (0,0)) bk_):gb165 ≠ gb171));have n9_:=Aside0.mk ((by rw [hg];exact Nat.ne_of_gt (blk_lt (g:=gb165) (o:=.cells #[.slice A0_0 l0_0.length c0_0] 64 (0,0)) bk_):gb171 ≠ gb165));clear BK161;clear BK165;clear HB;have BK161:=n0_;have BK165:=n1_;have HB:=n2_;have BK171:=n3_;have GW171:=n4_;have GE171:=n5_;have NB161_171:=n6_;have NB171_161:=n7_;have NB165_171:=n8_;have NB171_165:=n9_;clear n0_ n1_ n2_ n3_ n4_ n5_ n6_ n7_ n8_ n9_;clear hb hbox hg;have hnb48:=NB171_161.out;have hnc48:=NB161_171.out;have hnb49:=NB171_165.out;have hnc49:=NB165_171.out;obtain ⟨hcz50_0,hcz50_1,hcz50_2⟩:=blc3_ BK171.out;have hfz50_0:=blk_frozen BK171.out 0;have hfz50_1:=blk_frozen BK171.out 1;have hfz50_2:=blk_frozen BK171.out 2)|(go_at_call 26;(with_reducible refine (class_flags.calls ((rd_T46 l0_3 x54_2).f0) false _ A34.out).mono ?_);rintro e w' ⟨rfl,⟨nd,rfl⟩⟩))
             go_roundg k2
             case measure => have:=HK1.out;have:=HK2.out;omega
             case rel => exact ⟨(false),(wrap64 (x54_2 + 1)),r3_,r3_,H',⟨by have:=HK1.out;have:=HK2.out;omega⟩,⟨bk_⟩,⟨bk_⟩,⟨bl_⟩⟩
           ·replace c33:=Bool.eq_false_iff.mpr c33
            subst c33
            rw [if_neg (show ¬ (false=true) by decide)] at H
            have H':=Aside0.mk H
            clear H
            have p170:0≤(x54_2:Int):=od_
            have q170:x54_2 < (l0_3.length:Int):=od_
            obtain ⟨ad170,e170,hx170_0,hx170_1,hx170_2⟩:=at_T46 HR0_3.out x54_2 p170 q170
            cases e170
            replace hx170_0:=hb_ HB hx170_0
            replace hx170_1:=hb_ HB hx170_1
            replace hx170_2:=hb_ HB hx170_2
            replace p170:=eq_true p170
            replace q170:=eq_true q170
            go_wp2_with (first|((with_reducible refine gate_dst (N:=10) rfl ?_);(try (refine gate_guard (by rfl) ?_;dsimp only));refine box_event ?hg (N:=10) ?hd (cs:=#[.int .i64 0,.int .i64 0,.int .i64 0]) (t:=46) ?hr ?_;(case hd => rfl);(case hg => rfl);(case hr => first|(go_simp;done)|(go_simp;rfl));intro gb171 hg w51 hbox hb;have n0_:=Aside0.mk (blk_below (g:=gb161) (o:=.cells #[.slice A0_0 l0_0.length c0_0,.int .i64 a0_1,.int .i64 a0_2,.slice (some ad170) l0_3.length c0_3,.slice A0_4 l0_4.length c0_4] 26 (0,0)) bk_ hb);have n1_:=Aside0.mk (blk_below (g:=gb165) (o:=.cells #[.slice A0_0 l0_0.length c0_0] 64 (0,0)) bk_ hb);have n2_:=Aside0.mk (below_step bl_ hb);have n3_:=Aside0.mk (hbox);have n4_:=Aside0.mk ((by rw [hg];exact (below_size bl_):w.heap.size≤gb171));have n5_:=Aside0.mk ((by rw [hg];exact (below_size bl_):w.heap.size≤gb171));have n6_:=Aside0.mk ((by rw [hg];exact Nat.ne_of_lt (blk_lt (g:=gb161) (o:=.cells #[.slice A0_0 l0_0.length c0_0,.int .i64 a0_1,.int .i64 a0_2,.slice (some ad170) l0_3.length c0_3,.slice A0_4 l0_4.length c0_4] 26 (0,0)) bk_):gb161 ≠ gb171));have n7_:=Aside0.mk ((by rw [hg];exact Nat.ne_of_gt (blk_lt (g:=gb161) (o:=.cells #[.slice A0_0 l0_0.length c0_0,.int .i64 a0_1,.int .i64 a0_2,.slice (some ad170) l0_3.length c0_3,.slice A0_4 l0_4.length c0_4] 26 (0,0)) bk_):gb171 ≠ gb161));have n8_:=Aside0.mk ((by rw [hg];exact Nat.ne_of_lt (blk_lt (g:=gb165) (o:=.cells #[.slice A0_0 l0_0.length c0_0] 64 (0,0)) bk_):gb165 ≠ gb171));have n9_:=Aside0.mk ((by rw [hg];exact Nat.ne_of_gt (blk_lt (g:=gb165) (o:=.cells #[.slice A0_0 l0_0.length c0_0] 64 (0,0)) bk_):gb171 ≠ gb165));clear BK161;clear BK165;clear HB;have BK161:=n0_;have BK165:=n1_;have HB:=n2_;have BK171:=n3_;have GW171:=n4_;have GE171:=n5_;have NB161_171:=n6_;have NB171_161:=n7_;have NB165_171:=n8_;have NB171_165:=n9_;clear n0_ n1_ n2_ n3_ n4_ n5_ n6_ n7_ n8_ n9_;clear hb hbox hg;have hnb52:=NB171_161.out;have hnc52:=NB161_171.out;have hnb53:=NB171_165.out;have hnc53:=NB165_171.out;obtain ⟨hcz54_0,hcz54_1,hcz54_2⟩:=blc3_ BK171.out;have hfz54_0:=blk_frozen BK171.out 0;have hfz54_1:=blk_frozen BK171.out 1;have hfz54_2:=blk_frozen BK171.out 2))
            go_roundg k2
            case measure => have:=HK1.out;have:=HK2.out;omega
            case rel => exact ⟨(false),(wrap64 (x54_2 + 1)),r3_,r3_,H',⟨by have:=HK1.out;have:=HK2.out;omega⟩,⟨bk_⟩,⟨bk_⟩,⟨bl_⟩⟩
          ·rw [if_neg c32] at H
           exact absurd H (by simp)
         ·rw [if_neg c31] at H
          exact absurd H (by simp)
        ·rw [if_neg c30] at H
         have c30b0:decide (x54_2 < (l0_3.length:Int))=false:=decide_eq_false c30
         clear c30
         have H':=Aside0.mk H
         clear H
         have hnb55:=NB161_165.out
         have hnc55:=NB165_161.out
         obtain ⟨hcz56_0,hcz56_1,hcz56_2,hcz56_3,hcz56_4,hfz56_0,hfz56_1,hfz56_2,hfz56_3,hfz56_4⟩:=blk5_ BK161.out
         go_wp2
         go_loopg [8,77] k2 (fun kq v8 v77 w' => ∃ (x8_3:Bool) (x77_3:Int),v8=.bool x8_3∧v77=.int .i64 x77_3∧Aside0 (class_Check.l2 kq x8_3 l0_4 (l0_4.length:Int) x77_3 l0_0=some r)∧Aside0 (kq≤k2)∧Aside0 (w'.heap[gb161]?=some (.cells #[(.slice A0_0 l0_0.length c0_0),.int .i64 a0_1,.int .i64 a0_2,(.slice A0_3 l0_3.length c0_3),(.slice A0_4 l0_4.length c0_4)] 26 (0,0)))∧Aside0 (w'.heap[gb165]?=some (.cells #[(.slice A0_0 l0_0.length c0_0)] 64 (0,0)))∧Aside0 (Below w.heap.size w w'))
         case atStart => exact ⟨(x8_2),(0),r3_,r3_,H',⟨Nat.le_refl _⟩,⟨bk_⟩,⟨bk_⟩,⟨bl_⟩⟩
         case round =>
          clear H'
          try clear c30;try clear c30b0;try clear hcz56_0;try clear hcz56_1;try clear hcz56_2;try clear hcz56_3;try clear hcz56_4;try clear hfz56_0;try clear hfz56_1;try clear hfz56_2;try clear hfz56_3;try clear hfz56_4
          obtain ⟨x8_3,x77_3,rfl,rfl,HA,HK3,BK161,BK165,HB⟩:=hrel
          cases gk with
          | zero => exact absurd HA.out (by simp [class_Check.l2])
          | succ k3 =>
           have H:=HA.out
           clear HA
           simp only [class_Check.l2] at H
           by_cases c57:x77_3 < (l0_4.length:Int)
           ·rw [if_pos c57] at H
            have c57b0:decide (x77_3 < (l0_4.length:Int))=true:=decide_eq_true c57
            clear c57
            by_cases c58:0≤x77_3
            ·rw [if_pos c58] at H
             have c58b0:decide (0≤x77_3)=true:=decide_eq_true c58
             clear c58
             by_cases c59:x77_3 < (l0_4.length:Int)
             ·rw [if_pos c59] at H
              have c59b0:decide (x77_3 < (l0_4.length:Int))=true:=decide_eq_true c59
              clear c59
              by_cases c60:x8_3=true
              ·subst c60
               rw [if_pos rfl] at H
               replace H:=Option.bind_eq_some_iff.mp H
               obtain ⟨t179,A610,H⟩:=H
               try dsimp only at H
               have A61:=Aside0.mk A610
               clear A610
               have H':=Aside0.mk H
               clear H
               have p177:0≤(x77_3:Int):=od_
               have q177:x77_3 < (l0_4.length:Int):=od_
               obtain ⟨ad177,A177_5,c177_5,A177_6,c177_6,A177_7,c177_7,e177,hx177_0,hx177_1,hx177_2,hx177_3,hx177_4,hx177_5,hx177_6,hx177_7,hl177_5,hi177_5,hl177_6,hi177_6,hl177_7,hi177_7⟩:=at_T49 HR0_4.out x77_3 p177 q177
               cases e177
               replace hx177_0:=hb_ HB hx177_0
               replace hx177_1:=hb_ HB hx177_1
               replace hx177_2:=hb_ HB hx177_2
               replace hx177_3:=hb_ HB hx177_3
               replace hx177_4:=hb_ HB hx177_4
               replace hx177_5:=hb_ HB hx177_5
               replace hx177_6:=hb_ HB hx177_6
               replace hx177_7:=hb_ HB hx177_7
               have HR177_5:=Aside0.mk hi177_5
               have HC177_5:=Aside0.mk hl177_5
               clear hi177_5 hl177_5
               have HR177_6:=Aside0.mk hi177_6
               have HC177_6:=Aside0.mk hl177_6
               clear hi177_6 hl177_6
               have HR177_7:=Aside0.mk hi177_7
               have HC177_7:=Aside0.mk hl177_7
               clear hi177_7 hl177_7
               replace p177:=eq_true p177
               replace q177:=eq_true q177
               go_wp2_with (first|((with_reducible refine gate_dst (N:=12) rfl ?_);(try (refine gate_guard (by rfl) ?_;dsimp only));refine box_event ?hg (N:=12) ?hd (cs:=#[.int .i64 0,.int .i64 0,.int .i64 0,.int .i64 0,.int .i64 0,.slice none 0 0,.slice none 0 0,.slice none 0 0]) (t:=49) ?hr ?_;(case hd => rfl);(case hg => rfl);(case hr => first|(go_simp;done)|(go_simp;rfl));intro gb178 hg w62 hbox hb;have n0_:=Aside0.mk (blk_below (g:=gb161) (o:=.cells #[.slice A0_0 l0_0.length c0_0,.int .i64 a0_1,.int .i64 a0_2,.slice A0_3 l0_3.length c0_3,.slice (some ad177) l0_4.length c0_4] 26 (0,0)) bk_ hb);have n1_:=Aside0.mk (blk_below (g:=gb165) (o:=.cells #[.slice A0_0 l0_0.length c0_0] 64 (0,0)) bk_ hb);have n2_:=Aside0.mk (below_step bl_ hb);have n3_:=Aside0.mk (hbox);have n4_:=Aside0.mk ((by rw [hg];exact (below_size bl_):w.heap.size≤gb178));have n5_:=Aside0.mk ((by rw [hg];exact (below_size bl_):w.heap.size≤gb178));have n6_:=Aside0.mk ((by rw [hg];exact Nat.ne_of_lt (blk_lt (g:=gb161) (o:=.cells #[.slice A0_0 l0_0.length c0_0,.int .i64 a0_1,.int .i64 a0_2,.slice A0_3 l0_3.length c0_3,.slice (some ad177) l0_4.length c0_4] 26 (0,0)) bk_):gb161 ≠ gb178));have n7_:=Aside0.mk ((by rw [hg];exact Nat.ne_of_gt (blk_lt (g:=gb161) (o:=.cells #[.slice A0_0 l0_0.length c0_0,.int .i64 a0_1,.int .i64 a0_2,.slice A0_3 l0_3.length c0_3,.slice (some ad177) l0_4.length c0_4] 26 (0,0)) bk_):gb178 ≠ gb161));have n8_:=Aside0.mk ((by rw [hg];exact Nat.ne_of_lt (blk_lt (g:=gb165) (o:=.cells #[.slice A0_0 l0_0.length c0_0] 64 (0,0)) bk_):gb165 ≠ gb178));have n9_:=Aside0.mk ((by rw [hg];exact Nat.ne_of_gt (blk_lt (g:=gb165) (o:=.cells #[.slice A0_0 l0_0.length c0_0] 64 (0,0)) bk_):gb178 ≠ gb165));clear BK161;clear BK165;clear HB;have BK161:=n0_;have BK165:=n1_;have HB:=n2_;have BK178:=n3_;have GW178:=n4_;have GE178:=n5_;have NB161_178:=n6_;have NB178_161:=n7_;have NB165_178:=n8_;have NB178_165:=n9_;clear n0_ n1_ n2_ n3_ n4_ n5_ n6_ n7_ n8_ n9_;clear hb hbox hg;have hnb63:=NB178_161.out;have hnc63:=NB161_178.out;have hnb64:=NB178_165.out;have hnc64:=NB165_178.out;obtain ⟨hcz65_0,hcz65_1,hcz65_2,hcz65_3,hcz65_4,hcz65_5,hcz65_6,hcz65_7⟩:=blc8_ BK178.out;have hfz65_0:=blk_frozen BK178.out 0;have hfz65_1:=blk_frozen BK178.out 1;have hfz65_2:=blk_frozen BK178.out 2;have hfz65_3:=blk_frozen BK178.out 3;have hfz65_4:=blk_frozen BK178.out 4;have hfz65_5:=blk_frozen BK178.out 5;have hfz65_6:=blk_frozen BK178.out 6;have hfz65_7:=blk_frozen BK178.out 7)|((with_reducible refine gate_store (t:=49) (p:=12) rfl ?_);refine store_event (t:=49) (p:=12) (v:=?vo_w66) (w1:=((((((((w62.setCell ⟨gb178,0,none⟩ (.int .i64 ((rd_T49 l0_4 x77_3).f0))).setCell ⟨gb178,1,none⟩ (.int .i64 ((rd_T49 l0_4 x77_3).f1))).setCell ⟨gb178,2,none⟩ (.int .i64 ((rd_T49 l0_4 x77_3).f2))).setCell ⟨gb178,3,none⟩ (.int .i64 ((rd_T49 l0_4 x77_3).f3))).setCell ⟨gb178,4,none⟩ (.int .i64 ((rd_T49 l0_4 x77_3).f4))).setCell ⟨gb178,5,none⟩ (.slice A177_5 ((rd_T49 l0_4 x77_3).f5).length c177_5)).setCell ⟨gb178,6,none⟩ (.slice A177_6 ((rd_T49 l0_4 x77_3).f6).length c177_6)).setCell ⟨gb178,7,none⟩ (.slice A177_7 ((rd_T49 l0_4 x77_3).f7).length c177_7))) ?hg ?ho ?hn ?hr ?_;(case ho => rfl);(case hg => rfl);(case hn => rfl);(case hr => first|(go_simp;done)|(go_simp;rfl));intro w66 hw;have n0_:Aside0 (w66.heap[gb161]?=some (.cells #[.slice A0_0 l0_0.length c0_0,.int .i64 a0_1,.int .i64 a0_2,.slice A0_3 l0_3.length c0_3,.slice (some ad177) l0_4.length c0_4] 26 (0,0))):=⟨(by rw [hw];exact bk_)⟩;have n1_:Aside0 (w66.heap[gb165]?=some (.cells #[.slice A0_0 l0_0.length c0_0] 64 (0,0))):=⟨(by rw [hw];exact bk_)⟩;have n2_:Aside0 (w66.heap[gb178]?=some (.cells #[.int .i64 ((rd_T49 l0_4 x77_3).f0),.int .i64 ((rd_T49 l0_4 x77_3).f1),.int .i64 ((rd_T49 l0_4 x77_3).f2),.int .i64 ((rd_T49 l0_4 x77_3).f3),.int .i64 ((rd_T49 l0_4 x77_3).f4),.slice A177_5 ((rd_T49 l0_4 x77_3).f5).length c177_5,.slice A177_6 ((rd_T49 l0_4 x77_3).f6).length c177_6,.slice A177_7 ((rd_T49 l0_4 x77_3).f7).length c177_7] 49 (0,0))):=⟨(by rw [hw];exact (by (with_reducible repeat (first|refine blk_drewN ?_ _|refine blk_drew ?_|refine blk_alloc ?_ _));refine blk_put (cs:=#[.int .i64 ((rd_T49 l0_4 x77_3).f0),.int .i64 ((rd_T49 l0_4 x77_3).f1),.int .i64 ((rd_T49 l0_4 x77_3).f2),.int .i64 ((rd_T49 l0_4 x77_3).f3),.int .i64 ((rd_T49 l0_4 x77_3).f4),.slice A177_5 ((rd_T49 l0_4 x77_3).f5).length c177_5,.slice A177_6 ((rd_T49 l0_4 x77_3).f6).length c177_6,.slice none 0 0]) ?_ 7 _ rfl;(with_reducible repeat (first|refine blk_drewN ?_ _|refine blk_drew ?_|refine blk_alloc ?_ _));refine blk_put (cs:=#[.int .i64 ((rd_T49 l0_4 x77_3).f0),.int .i64 ((rd_T49 l0_4 x77_3).f1),.int .i64 ((rd_T49 l0_4 x77_3).f2),.int .i64 ((rd_T49 l0_4 x77_3).f3),.int .i64 ((rd_T49 l0_4 x77_3).f4),.slice A177_5 ((rd_T49 l0_4 x77_3).f5).length c177_5,.slice none 0 0,.slice none 0 0]) ?_ 6 _ rfl;(with_reducible repeat (first|refine blk_drewN ?_ _|refine blk_drew ?_|refine blk_alloc ?_ _));refine blk_put (cs:=#[.int .i64 ((rd_T49 l0_4 x77_3).f0),.int .i64 ((rd_T49 l0_4 x77_3).f1),.int .i64 ((rd_T49 l0_4 x77_3).f2),.int .i64 ((rd_T49 l0_4 x77_3).f3),.int .i64 ((rd_T49 l0_4 x77_3).f4),.slice none 0 0,.slice none 0 0,.slice none 0 0]) ?_ 5 _ rfl;(with_reducible repeat (first|refine blk_drewN ?_ _|refine blk_drew ?_|refine blk_alloc ?_ _));refine blk_put (cs:=#[.int .i64 ((rd_T49 l0_4 x77_3).f0),.int .i64 ((rd_T49 l0_4 x77_3).f1),.int .i64 ((rd_T49 l0_4 x77_3).f2),.int .i64 ((rd_T49 l0_4 x77_3).f3),.int .i64 0,.slice none 0 0,.slice none 0 0,.slice none 0 0]) ?_ 4 _ rfl;(with_reducible repeat (first|refine blk_drewN ?_ _|refine blk_drew ?_|refine blk_alloc ?_ _));refine blk_put (cs:=#[.int .i64 ((rd_T49 l0_4 x77_3).f0),.int .i64 ((rd_T49 l0_4 x77_3).f1),.int .i64 ((rd_T49 l0_4 x77_3).f2),.int .i64 0,.int .i64 0,.slice none 0 0,.slice none 0 0,.slice none 0 0]) ?_ 3 _ rfl;(with_reducible repeat (first|refine blk_drewN ?_ _|refine blk_drew ?_|refine blk_alloc ?_ _));refine blk_put (cs:=#[.int .i64 ((rd_T49 l0_4 x77_3).f0),.int .i64 ((rd_T49 l0_4 x77_3).f1),.int .i64 0,.int .i64 0,.int .i64 0,.slice none 0 0,.slice none 0 0,.slice none 0 0]) ?_ 2 _ rfl;(with_reducible repeat (first|refine blk_drewN ?_ _|refine blk_drew ?_|refine blk_alloc ?_ _));refine blk_put (cs:=#[.int .i64 ((rd_T49 l0_4 x77_3).f0),.int .i64 0,.int .i64 0,.int .i64 0,.int .i64 0,.slice none 0 0,.slice none 0 0,.slice none 0 0]) ?_ 1 _ rfl;(with_reducible repeat (first|refine blk_drewN ?_ _|refine blk_drew ?_|refine blk_alloc ?_ _));refine blk_put (cs:=#[.int .i64 0,.int .i64 0,.int .i64 0,.int .i64 0,.int .i64 0,.slice none 0 0,.slice none 0 0,.slice none 0 0]) ?_ 0 _ rfl;(with_reducible repeat (first|refine blk_drewN ?_ _|refine blk_drew ?_|refine blk_alloc ?_ _));exact BK178.out))⟩;have n3_:Aside0 (Below w.heap.size w w66):=⟨(by rw [hw];exact bl_)⟩;clear hw;clear BK161;clear BK165;clear BK178;clear HB;have BK161:=n0_;have BK165:=n1_;have BK178:=n2_;have HB:=n3_;clear n0_ n1_ n2_ n3_;have hnb67:=NB165_161.out;have hnc67:=NB161_165.out;have hcz68_0:w66.cell? ⟨gb165,0,none⟩=some (.slice A0_0 l0_0.length c0_0):=(blk_cell BK165.out 0).trans rfl;have hfz68_0:=blk_frozen BK165.out 0;obtain ⟨hcz69_0,hcz69_1,hcz69_2,hcz69_3,hcz69_4,hcz69_5,hcz69_6,hcz69_7⟩:=blc8_ BK178.out;have hfz69_0:=blk_frozen BK178.out 0;have hfz69_1:=blk_frozen BK178.out 1;have hfz69_2:=blk_frozen BK178.out 2;have hfz69_3:=blk_frozen BK178.out 3;have hfz69_4:=blk_frozen BK178.out 4;have hfz69_5:=blk_frozen BK178.out 5;have hfz69_6:=blk_frozen BK178.out 6;have hfz69_7:=blk_frozen BK178.out 7)|(go_at_call 28;(with_reducible refine (class_rules_method.calls k3 _ _ l0_0 ((rd_T49 l0_4 x77_3).f0) ((rd_T49 l0_4 x77_3).f1) ((rd_T49 l0_4 x77_3).f2) ((rd_T49 l0_4 x77_3).f3) ((rd_T49 l0_4 x77_3).f4) _ _ ((rd_T49 l0_4 x77_3).f5) _ _ ((rd_T49 l0_4 x77_3).f6) _ _ ((rd_T49 l0_4 x77_3).f7) t179 _ ?side1 ?side2 ?side3 ?side4 ?side5 ?side6 ?side7 ?side8 A61.out).mono ?_);(case side1 => exact kc_ (Kd.C_below HR0_0.out HB.out));(case side2 => exact HC0_0.out);(case side3 => exact kc_ (Kd.C_below HR177_5.out HB.out));(case side4 => exact HC177_5.out);(case side5 => exact kc_ (Kd.C_below HR177_6.out HB.out));(case side6 => exact HC177_6.out);(case side7 => exact kc_ (Kd.C_below HR177_7.out HB.out));(case side8 => exact HC177_7.out);rintro e w70 ⟨rfl,hb⟩;have n0_:=Aside0.mk (blk_below (g:=gb161) (o:=.cells #[.slice A0_0 l0_0.length c0_0,.int .i64 a0_1,.int .i64 a0_2,.slice A0_3 l0_3.length c0_3,.slice (some ad177) l0_4.length c0_4] 26 (0,0)) bk_ hb);have n1_:=Aside0.mk (blk_below (g:=gb165) (o:=.cells #[.slice A0_0 l0_0.length c0_0] 64 (0,0)) bk_ hb);have n2_:=Aside0.mk (blk_below (g:=gb178) (o:=.cells #[.int .i64 ((rd_T49 l0_4 x77_3).f0),.int .i64 ((rd_T49 l0_4 x77_3).f1),.int .i64 ((rd_T49 l0_4 x77_3).f2),.int .i64 ((rd_T49 l0_4 x77_3).f3),.int .i64 ((rd_T49 l0_4 x77_3).f4),.slice A177_5 ((rd_T49 l0_4 x77_3).f5).length c177_5,.slice A177_6 ((rd_T49 l0_4 x77_3).f6).length c177_6,.slice A177_7 ((rd_T49 l0_4 x77_3).f7).length c177_7] 49 (0,0)) bk_ hb);have n3_:=Aside0.mk (below_step bl_ hb);clear BK161;clear BK165;clear BK178;clear HB;have BK161:=n0_;have BK165:=n1_;have BK178:=n2_;have HB:=n3_;clear n0_ n1_ n2_ n3_;(try clear hb);(try clear hb2);(try clear hk);(try clear hi)))
               go_roundg k3
               case measure => have:=HK1.out;have:=HK2.out;have:=HK3.out;omega
               case rel => exact ⟨(t179),(wrap64 (x77_3 + 1)),r3_,r3_,H',⟨by have:=HK1.out;have:=HK2.out;have:=HK3.out;omega⟩,⟨bk_⟩,⟨bk_⟩,⟨bl_⟩⟩
              ·replace c60:=Bool.eq_false_iff.mpr c60
               subst c60
               rw [if_neg (show ¬ (false=true) by decide)] at H
               have H':=Aside0.mk H
               clear H
               have p177:0≤(x77_3:Int):=od_
               have q177:x77_3 < (l0_4.length:Int):=od_
               obtain ⟨ad177,A177_5,c177_5,A177_6,c177_6,A177_7,c177_7,e177,hx177_0,hx177_1,hx177_2,hx177_3,hx177_4,hx177_5,hx177_6,hx177_7,hl177_5,hi177_5,hl177_6,hi177_6,hl177_7,hi177_7⟩:=at_T49 HR0_4.out x77_3 p177 q177
               cases e177
               replace hx177_0:=hb_ HB hx177_0
               replace hx177_1:=hb_ HB hx177_1
               replace hx177_2:=hb_ HB hx177_2
               replace hx177_3:=hb_ HB hx177_3
               replace hx177_4:=hb_ HB hx177_4
               replace hx177_5:=hb_ HB hx177_5
               replace hx177_6:=hb_ HB hx177_6
               replace hx177_7:=hb_ HB hx177_7
               have HR177_5:=Aside0.mk hi177_5
               have HC177_5:=Aside0.mk hl177_5
               clear hi177_5 hl177_5
               have HR177_6:=Aside0.mk hi177_6
               have HC177_6:=Aside0.mk hl177_6
               clear hi177_6 hl177_6
               have HR177_7:=Aside0.mk hi177_7
               have HC177_7:=Aside0.mk hl177_7
               clear hi177_7 hl177_7
               replace p177:=eq_true p177
               replace q177:=eq_true q177
               go_wp2_with (first|((with_reducible refine gate_dst (N:=12) rfl ?_);(try (refine gate_guard (by rfl) ?_;dsimp only));refine box_event ?hg (N:=12) ?hd (cs:=#[.int .i64 0,.int .i64 0,.int .i64 0,.int .i64 0,.int .i64 0,.slice none 0 0,.slice none 0 0,.slice none 0 0]) (t:=49) ?hr ?_;(case hd => rfl);(case hg => rfl);(case hr => first|(go_simp;done)|(go_simp;rfl));intro gb178 hg w71 hbox hb;have n0_:=Aside0.mk (blk_below (g:=gb161) (o:=.cells #[.slice A0_0 l0_0.length c0_0,.int .i64 a0_1,.int .i64 a0_2,.slice A0_3 l0_3.length c0_3,.slice (some ad177) l0_4.length c0_4] 26 (0,0)) bk_ hb);have n1_:=Aside0.mk (blk_below (g:=gb165) (o:=.cells #[.slice A0_0 l0_0.length c0_0] 64 (0,0)) bk_ hb);have n2_:=Aside0.mk (below_step bl_ hb);have n3_:=Aside0.mk (hbox);have n4_:=Aside0.mk ((by rw [hg];exact (below_size bl_):w.heap.size≤gb178));have n5_:=Aside0.mk ((by rw [hg];exact (below_size bl_):w.heap.size≤gb178));have n6_:=Aside0.mk ((by rw [hg];exact Nat.ne_of_lt (blk_lt (g:=gb161) (o:=.cells #[.slice A0_0 l0_0.length c0_0,.int .i64 a0_1,.int .i64 a0_2,.slice A0_3 l0_3.length c0_3,.slice (some ad177) l0_4.length c0_4] 26 (0,0)) bk_):gb161 ≠ gb178));have n7_:=Aside0.mk ((by rw [hg];exact Nat.ne_of_gt (blk_lt (g:=gb161) (o:=.cells #[.slice A0_0 l0_0.length c0_0,.int .i64 a0_1,.int .i64 a0_2,.slice A0_3 l0_3.length c0_3,.slice (some ad177) l0_4.length c0_4] 26 (0,0)) bk_):gb178 ≠ gb161));have n8_:=Aside0.mk ((by rw [hg];exact Nat.ne_of_lt (blk_lt (g:=gb165) (o:=.cells #[.slice A0_0 l0_0.length c0_0] 64 (0,0)) bk_):gb165 ≠ gb178));have n9_:=Aside0.mk ((by rw [hg];exact Nat.ne_of_gt (blk_lt (g:=gb165) (o:=.cells #[.slice A0_0 l0_0.length c0_0] 64 (0,0)) bk_):gb178 ≠ gb165));clear BK161;clear BK165;clear HB;have BK161:=n0_;have BK165:=n1_;have HB:=n2_;have BK178:=n3_;have GW178:=n4_;have GE178:=n5_;have NB161_178:=n6_;have NB178_161:=n7_;have NB165_178:=n8_;have NB178_165:=n9_;clear n0_ n1_ n2_ n3_ n4_ n5_ n6_ n7_ n8_ n9_;clear hb hbox hg;have hnb72:=NB178_161.out;have hnc72:=NB161_178.out;have hnb73:=NB178_165.out;have hnc73:=NB165_178.out;obtain ⟨hcz74_0,hcz74_1,hcz74_2,hcz74_3,hcz74_4,hcz74_5,hcz74_6,hcz74_7⟩:=blc8_ BK178.out;have hfz74_0:=blk_frozen BK178.out 0;have hfz74_1:=blk_frozen BK178.out 1;have hfz74_2:=blk_frozen BK178.out 2;have hfz74_3:=blk_frozen BK178.out 3;have hfz74_4:=blk_frozen BK178.out 4;have hfz74_5:=blk_frozen BK178.out 5;have hfz74_6:=blk_frozen BK178.out 6;have hfz74_7:=blk_frozen BK178.out 7)|((with_reducible refine gate_store (t:=49) (p:=12) rfl ?_);refine store_event (t:=49) (p:=12) (v:=?vo_w75) (w1:=((((((((w71.setCell ⟨gb178,0,none⟩ (.int .i64 ((rd_T49 l0_4 x77_3).f0))).setCell ⟨gb178,1,none⟩ (.int .i64 ((rd_T49 l0_4 x77_3).f1))).setCell ⟨gb178,2,none⟩ (.int .i64 ((rd_T49 l0_4 x77_3).f2))).setCell ⟨gb178,3,none⟩ (.int .i64 ((rd_T49 l0_4 x77_3).f3))).setCell ⟨gb178,4,none⟩ (.int .i64 ((rd_T49 l0_4 x77_3).f4))).setCell ⟨gb178,5,none⟩ (.slice A177_5 ((rd_T49 l0_4 x77_3).f5).length c177_5)).setCell ⟨gb178,6,none⟩ (.slice A177_6 ((rd_T49 l0_4 x77_3).f6).length c177_6)).setCell ⟨gb178,7,none⟩ (.slice A177_7 ((rd_T49 l0_4 x77_3).f7).length c177_7))) ?hg ?ho ?hn ?hr ?_;(case ho => rfl);(case hg => rfl);(case hn => rfl);(case hr => first|(go_simp;done)|(go_simp;rfl));intro w75 hw;have n0_:Aside0 (w75.heap[gb161]?=some (.cells #[.slice A0_0 l0_0.length c0_0,.int .i64 a0_1,.int .i64 a0_2,.slice A0_3 l0_3.length c0_3,.slice (some ad177) l0_4.length c0_4] 26 (0,0))):=⟨(by rw [hw];exact bk_)⟩;have n1_:Aside0 (w75.heap[gb165]?=some (.cells #[.slice A0_0 l0_0.length c0_0] 64 (0,0))):=⟨(by rw [hw];exact bk_)⟩;have n2_:Aside0 (w75.heap[gb178]?=some (.cells #[.int .i64 ((rd_T49 l0_4 x77_3).f0),.int .i64 ((rd_T49 l0_4 x77_3).f1),.int .i64 ((rd_T49 l0_4 x77_3).f2),.int .i64 ((rd_T49 l0_4 x77_3).f3),.int .i64 ((rd_T49 l0_4 x77_3).f4),.slice A177_5 ((rd_T49 l0_4 x77_3).f5).length c177_5,.slice A177_6 ((rd_T49 l0_4 x77_3).f6).length c177_6,.slice A177_7 ((rd_T49 l0_4 x77_3).f7).length c177_7] 49 (0,0))):=⟨(by rw [hw];exact (by (with_reducible repeat (first|refine blk_drewN ?_ _|refine blk_drew ?_|refine blk_alloc ?_ _));refine blk_put (cs:=#[.int .i64 ((rd_T49 l0_4 x77_3).f0),.int .i64 ((rd_T49 l0_4 x77_3).f1),.int .i64 ((rd_T49 l0_4 x77_3).f2),.int .i64 ((rd_T49 l0_4 x77_3).f3),.int .i64 ((rd_T49 l0_4 x77_3).f4),.slice A177_5 ((rd_T49 l0_4 x77_3).f5).length c177_5,.slice A177_6 ((rd_T49 l0_4 x77_3).f6).length c177_6,.slice none 0 0]) ?_ 7 _ rfl;(with_reducible repeat (first|refine blk_drewN ?_ _|refine blk_drew ?_|refine blk_alloc ?_ _));refine blk_put (cs:=#[.int .i64 ((rd_T49 l0_4 x77_3).f0),.int .i64 ((rd_T49 l0_4 x77_3).f1),.int .i64 ((rd_T49 l0_4 x77_3).f2),.int .i64 ((rd_T49 l0_4 x77_3).f3),.int .i64 ((rd_T49 l0_4 x77_3).f4),.slice A177_5 ((rd_T49 l0_4 x77_3).f5).length c177_5,.slice none 0 0,.slice none 0 0]) ?_ 6 _ rfl;(with_reducible repeat (first|refine blk_drewN ?_ _|refine blk_drew ?_|refine blk_alloc ?_ _));refine blk_put (cs:=#[.int .i64 ((rd_T49 l0_4 x77_3).f0),.int .i64 ((rd_T49 l0_4 x77_3).f1),.int .i64 ((rd_T49 l0_4 x77_3).f2),.int .i64 ((rd_T49 l0_4 x77_3).f3),.int .i64 ((rd_T49 l0_4 x77_3).f4),.slice none 0 0,.slice none 0 0,.slice none 0 0]) ?_ 5 _ rfl;(with_reducible repeat (first|refine blk_drewN ?_ _|refine blk_drew ?_|refine blk_alloc ?_ _));refine blk_put (cs:=#[.int .i64 ((rd_T49 l0_4 x77_3).f0),.int .i64 ((rd_T49 l0_4 x77_3).f1),.int .i64 ((rd_T49 l0_4 x77_3).f2),.int .i64 ((rd_T49 l0_4 x77_3).f3),.int .i64 0,.slice none 0 0,.slice none 0 0,.slice none 0 0]) ?_ 4 _ rfl;(with_reducible repeat (first|refine blk_drewN ?_ _|refine blk_drew ?_|refine blk_alloc ?_ _));refine blk_put (cs:=#[.int .i64 ((rd_T49 l0_4 x77_3).f0),.int .i64 ((rd_T49 l0_4 x77_3).f1),.int .i64 ((rd_T49 l0_4 x77_3).f2),.int .i64 0,.int .i64 0,.slice none 0 0,.slice none 0 0,.slice none 0 0]) ?_ 3 _ rfl;(with_reducible repeat (first|refine blk_drewN ?_ _|refine blk_drew ?_|refine blk_alloc ?_ _));refine blk_put (cs:=#[.int .i64 ((rd_T49 l0_4 x77_3).f0),.int .i64 ((rd_T49 l0_4 x77_3).f1),.int .i64 0,.int .i64 0,.int .i64 0,.slice none 0 0,.slice none 0 0,.slice none 0 0]) ?_ 2 _ rfl;(with_reducible repeat (first|refine blk_drewN ?_ _|refine blk_drew ?_|refine blk_alloc ?_ _));refine blk_put (cs:=#[.int .i64 ((rd_T49 l0_4 x77_3).f0),.int .i64 0,.int .i64 0,.int .i64 0,.int .i64 0,.slice none 0 0,.slice none 0 0,.slice none 0 0]) ?_ 1 _ rfl;(with_reducible repeat (first|refine blk_drewN ?_ _|refine blk_drew ?_|refine blk_alloc ?_ _));refine blk_put (cs:=#[.int .i64 0,.int .i64 0,.int .i64 0,.int .i64 0,.int .i64 0,.slice none 0 0,.slice none 0 0,.slice none 0 0]) ?_ 0 _ rfl;(with_reducible repeat (first|refine blk_drewN ?_ _|refine blk_drew ?_|refine blk_alloc ?_ _));exact BK178.out))⟩;have n3_:Aside0 (Below w.heap.size w w75):=⟨(by rw [hw];exact bl_)⟩;clear hw;clear BK161;clear BK165;clear BK178;clear HB;have BK161:=n0_;have BK165:=n1_;have BK178:=n2_;have HB:=n3_;clear n0_ n1_ n2_ n3_))
               go_roundg k3
               case measure => have:=HK1.out;have:=HK2.out;have:=HK3.out;omega
               case rel => exact ⟨(false),(wrap64 (x77_3 + 1)),r3_,r3_,H',⟨by have:=HK1.out;have:=HK2.out;have:=HK3.out;omega⟩,⟨bk_⟩,⟨bk_⟩,⟨bl_⟩⟩
             ·rw [if_neg c59] at H
              exact absurd H (by simp)
            ·rw [if_neg c58] at H
             exact absurd H (by simp)
           ·rw [if_neg c57] at H
            have c57b0:decide (x77_3 < (l0_4.length:Int))=false:=decide_eq_false c57
            clear c57
            by_cases c76:x8_3=true
            ·subst c76
             rw [if_pos rfl] at H
             obtain rfl:=Option.some.inj H
             go_wp2
             go_ret
             exact ⟨by first|rfl|(simp [errW_none,errW_some] <;> rfl)|(simp only [← hji4];first|rfl|(simp [errW_none,errW_some] <;> rfl))|(simp [*,errW_none,errW_some] <;> rfl),bl_⟩
            ·replace c76:=Bool.eq_false_iff.mpr c76
             subst c76
             rw [if_neg (show ¬ (false=true) by decide)] at H
             obtain rfl:=Option.some.inj H
             go_wp2
             go_ret
             exact ⟨by first|rfl|(simp [errW_none,errW_some] <;> rfl)|(simp only [← hji4];first|rfl|(simp [errW_none,errW_some] <;> rfl))|(simp [*,errW_none,errW_some] <;> rfl),bl_⟩
 ·rw [if_neg c3] at H
  have c3b0:(t162==0)=false:=beq_eq_false_iff_ne.mpr c3
  have c3b1:(t162 != 0)=true:=bne_iff_ne.mpr c3
  obtain rfl:=Option.some.inj H
  go_enter Tryd.func7,Tryd.ntmps7
  go_wp2_with (first|((with_reducible refine gate_dst (N:=1) rfl ?_);(try (refine gate_guard (by rfl) ?_;dsimp only));refine box_event ?hg (N:=1) ?hd (cs:=#[.slice A0_0 l0_0.length c0_0,.int .i64 a0_1,.int .i64 a0_2,.slice A0_3 l0_3.length c0_3,.slice A0_4 l0_4.length c0_4]) (t:=26) ?hr ?_;(case hd => rfl);(case hg => rfl);(case hr => first|(go_simp;done)|(go_simp;rfl));intro gb161 hg w77 hbox hb;have n0_:=Aside0.mk (below_step bl_ hb);have n1_:=Aside0.mk (hbox);have n2_:=Aside0.mk ((by rw [hg];exact (below_size bl_):w.heap.size≤gb161));have n3_:=Aside0.mk ((by rw [hg];exact (below_size bl_):w.heap.size≤gb161));clear HB;have HB:=n0_;have BK161:=n1_;have GW161:=n2_;have GE161:=n3_;clear n0_ n1_ n2_ n3_;clear hb hbox hg;obtain ⟨hcz78_0,hcz78_1,hcz78_2,hcz78_3,hcz78_4⟩:=blc5_ BK161.out;have hfz78_0:=blk_frozen BK161.out 0;have hfz78_1:=blk_frozen BK161.out 1;have hfz78_2:=blk_frozen BK161.out 2;have hfz78_3:=blk_frozen BK161.out 3;have hfz78_4:=blk_frozen BK161.out 4)|(refine callA_ (f:=24) (some 15) Tryd.func24 #[.slice A0_0 l0_0.length c0_0] ?_;(with_reducible refine (pool_Check.calls k _ _ l0_0 t162 _ ?side3 ?side1 ?side2 A2.out).mono ?_);(case side1 => exact kc_ (Kd.C_below HR0_0.out HB.out));(case side2 => exact HC0_0.out);(case side3 => exact ⟨GG.below hG.out bl_⟩);rintro e w79 ⟨rfl,hb⟩;refine ⟨_,rfl,?_⟩;have n0_:=Aside0.mk (blk_below (g:=gb161) (o:=.cells #[.slice A0_0 l0_0.length c0_0,.int .i64 a0_1,.int .i64 a0_2,.slice A0_3 l0_3.length c0_3,.slice A0_4 l0_4.length c0_4] 26 (0,0)) bk_ hb);have n1_:=Aside0.mk (below_step bl_ hb);clear BK161;clear HB;have BK161:=n0_;have HB:=n1_;clear n0_ n1_;(try clear hb);(try clear hb2);(try clear hk);(try clear hi)))
  go_ret
  exact ⟨ew_,bl_⟩
end Go.Proofs.YtmloaijagkebpaaDoor.Px
namespace Go.Proofs.YtmloaijagkebpaaDoor.Px
open Go.RowKit Go.Proofs.YtmloaijagkebpaaDoorW.PrintWords Go.Proofs.YtmloaijagkebpaaDoorW.PrintLast Go.Proofs.YtmloaijagkebpaaDoorW.PrintMore
attribute [local go_sem] max2_int min2_int max_two min_two max_three min_three max_four min_four
set_option linter.unusedVariables false
set_option linter.unusedSimpArgs false
theorem eqA60 (d:Nat) (w:World) (x0 y0:Int) (x1 y1:ByteArray) (x2 y2:Int) (x3 y3:Int) (x4 y4:Int) :
  (Op.equalIn (d + 2) 60 (.agg #[.int .i64 x0,.string x1,.int .i64 x2,.int .i64 x3,.int .i64 x4]) (.agg #[.int .i64 y0,.string y1,.int .i64 y2,.int .i64 y3,.int .i64 y4])).run Tryd.prog w=.ok (x0==y0 && (x1.toList==y1.toList && (x2==y2 && (x3==y3 && (x4==y4))))) w:=by
 refine eqA_of Tryd.underlying60 (by kernel_rfl) ?_
 refine eqf_cons (by rfl) (by go_simp;rfl) (by go_simp;rfl) (by go_simp) ?_
 refine eqf_cons (by rfl) (by go_simp;rfl) (by go_simp;rfl) (by go_simp) ?_
 refine eqf_cons (by rfl) (by go_simp;rfl) (by go_simp;rfl) (by go_simp) ?_
 refine eqf_cons (by rfl) (by go_simp;rfl) (by go_simp;rfl) (by go_simp) ?_
 exact eqf_last (by rfl) (by go_simp;rfl) (by go_simp;rfl) (by go_simp)
end Go.Proofs.YtmloaijagkebpaaDoor.Px
namespace Go.Proofs.YtmloaijagkebpaaDoor.Px
open Go.RowKit Go.Proofs.YtmloaijagkebpaaDoorW.PrintWords Go.Proofs.YtmloaijagkebpaaDoorW.PrintLast Go.Proofs.YtmloaijagkebpaaDoorW.PrintMore
attribute [local go_sem] max2_int min2_int max_two min_two max_three min_three max_four min_four
set_option linter.unusedVariables false
set_option linter.unusedSimpArgs false
def understudyref04_bare.j0:Nat→Int→Bool→Int→ByteArray→Int→Int→Int→Option (Bool)
 | 0,_,_,_,_,_,_,_ => none
 | k + 1,x4,x20,x210000,x210001,x210002,x210003,x210004 => if x20=true then (if x210001.toList=([]:List UInt8) then (if x210003=0 then (some (x210004==0)) else (some false)) else (some false)) else (if x4=7 then (if x210001.toList=([]:List UInt8) then (if x210002=0 then (some (x210004==0)) else (some false)) else (some false)) else (if x210001.toList=([]:List UInt8) then (some (x210002==0)) else (some false)))
def understudyref04_bare.f (k:Nat) (a0_0:Int) (a0_1:ByteArray) (a0_2:Int) (a0_3:Int) (a0_4:Int):Option (Bool):=if a0_0=1 then (if a0_2=0 then (if a0_3=0 then (some (a0_4==0)) else (some false)) else (some false)) else (if a0_0=3 then (understudyref04_bare.j0 k a0_0 (a0_0==3) a0_0 a0_1 a0_2 a0_3 a0_4) else (understudyref04_bare.j0 k a0_0 (a0_0==5) a0_0 a0_1 a0_2 a0_3 a0_4))
theorem understudyref04_bare.mono_l:∀ k,(∀ y0 y1 y2 y3 y4 y5 y6,LeO (understudyref04_bare.j0 k y0 y1 y2 y3 y4 y5 y6) (understudyref04_bare.j0 (k + 1) y0 y1 y2 y3 y4 y5 y6))
 | 0 => fun _ _ _ _ _ _ _ r h => by simp [understudyref04_bare.j0] at h
 | k + 1 => by
  have ih0:=understudyref04_bare.mono_l k
  ·intro y0 y1 y2 y3 y4 y5 y6
   unfold understudyref04_bare.j0
   repeat' first
   | (with_reducible exact ih0 _ _ _ _ _ _ _)
   | (with_reducible exact LeO.refl _)
   | (with_reducible exact LeO.none _)
   | (with_reducible refine LeO.ite ?_ ?_)
   | (with_reducible refine LeO.bind ?_ (fun _ => ?_))
   | exact ih0 _ _ _ _ _ _ _
   | exact LeO.none _
   | refine LeO.ite ?_ ?_
   | refine LeO.bind ?_ (fun _ => ?_)
theorem understudyref04_bare.mono:∀ a0 a1 a2 a3 a4 k,LeO (understudyref04_bare.f k a0 a1 a2 a3 a4) (understudyref04_bare.f (k + 1) a0 a1 a2 a3 a4):=by
 intro a0 a1 a2 a3 a4 k
 have ih0:=understudyref04_bare.mono_l k
 unfold understudyref04_bare.f
 repeat' first
   | (with_reducible exact ih0 _ _ _ _ _ _ _)
   | (with_reducible exact LeO.refl _)
   | (with_reducible exact LeO.none _)
   | (with_reducible refine LeO.ite ?_ ?_)
   | (with_reducible refine LeO.bind ?_ (fun _ => ?_))
   | exact ih0 _ _ _ _ _ _ _
   | exact LeO.none _
   | refine LeO.ite ?_ ?_
   | refine LeO.bind ?_ (fun _ => ?_)
set_option maxHeartbeats 80000000 in
set_option maxRecDepth 100000 in
theorem understudyref04_bare.calls (k:Nat) (a0_0:Int) (a0_1:ByteArray) (a0_2:Int) (a0_3:Int) (a0_4:Int) (r:Bool) (w:World) (h:understudyref04_bare.f k a0_0 a0_1 a0_2 a0_3 a0_4=some r) :
  Calls Tryd.prog 62 #[.agg #[.int .i64 a0_0,.string a0_1,.int .i64 a0_2,.int .i64 a0_3,.int .i64 a0_4]] w fun e w' => e=.returned (.bool r)∧Below w.heap.size w w':=by
 have hu60:=Tryd.underlying60
 have HB:=Aside0.mk (Below.refl w.heap.size w)
 have H:(if a0_0=1 then (if a0_2=0 then (if a0_3=0 then (some (a0_4==0)) else (some false)) else (some false)) else (if a0_0=3 then (understudyref04_bare.j0 k a0_0 (a0_0==3) a0_0 a0_1 a0_2 a0_3 a0_4) else (understudyref04_bare.j0 k a0_0 (a0_0==5) a0_0 a0_1 a0_2 a0_3 a0_4)))=some r:=h
 clear h
 by_cases c2:a0_0=1
 ·rw [if_pos c2] at H
  have c2b0:(a0_0==1)=true:=beq_iff_eq.mpr c2
  have c2b1:(a0_0 != 1)=false:=bne_eq_false_iff_eq.mpr c2
  clear c2
  by_cases c3:a0_2=0
  ·rw [if_pos c3] at H
   have c3b0:(a0_2==0)=true:=beq_iff_eq.mpr c3
   have c3b1:(a0_2 != 0)=false:=bne_eq_false_iff_eq.mpr c3
   clear c3
   by_cases c4:a0_3=0
   ·rw [if_pos c4] at H
    have c4b0:(a0_3==0)=true:=beq_iff_eq.mpr c4
    have c4b1:(a0_3 != 0)=false:=bne_eq_false_iff_eq.mpr c4
    clear c4
    obtain rfl:=Option.some.inj H
    go_enter Tryd.func62,Tryd.ntmps62
    go_wp2_with (first|((with_reducible refine gate_dst (N:=1) rfl ?_);refine box_event ?hg (N:=1) ?hd (cs:=#[.int .i64 a0_0,.string a0_1,.int .i64 a0_2,.int .i64 a0_3,.int .i64 a0_4]) (t:=60) ?hr ?_;(case hd => rfl);(case hg => rfl);(case hr => first|(go_simp;done)|(go_simp;rfl));intro gb209 hg w5 hbox hb;have n0_:=Aside0.mk (below_step bl_ hb);have n1_:=Aside0.mk (hbox);have n2_:=Aside0.mk ((by rw [hg];exact (below_size bl_):w.heap.size≤gb209));have n3_:=Aside0.mk ((by rw [hg];exact (below_size bl_):w.heap.size≤gb209));clear HB;have HB:=n0_;have BK209:=n1_;have GW209:=n2_;have GE209:=n3_;clear n0_ n1_ n2_ n3_;clear hb hbox hg;obtain ⟨hcz6_0,hcz6_1,hcz6_2,hcz6_3,hcz6_4⟩:=blc5_ BK209.out;have hfz6_0:=blk_frozen BK209.out 0;have hfz6_1:=blk_frozen BK209.out 1;have hfz6_2:=blk_frozen BK209.out 2;have hfz6_3:=blk_frozen BK209.out 3;have hfz6_4:=blk_frozen BK209.out 4))
    go_ret
    exact ⟨ew_,bl_⟩
   ·rw [if_neg c4] at H
    have c4b0:(a0_3==0)=false:=beq_eq_false_iff_ne.mpr c4
    have c4b1:(a0_3 != 0)=true:=bne_iff_ne.mpr c4
    obtain rfl:=Option.some.inj H
    go_enter Tryd.func62,Tryd.ntmps62
    go_wp2_with (first|((with_reducible refine gate_dst (N:=1) rfl ?_);refine box_event ?hg (N:=1) ?hd (cs:=#[.int .i64 a0_0,.string a0_1,.int .i64 a0_2,.int .i64 a0_3,.int .i64 a0_4]) (t:=60) ?hr ?_;(case hd => rfl);(case hg => rfl);(case hr => first|(go_simp;done)|(go_simp;rfl));intro gb209 hg w7 hbox hb;have n0_:=Aside0.mk (below_step bl_ hb);have n1_:=Aside0.mk (hbox);have n2_:=Aside0.mk ((by rw [hg];exact (below_size bl_):w.heap.size≤gb209));have n3_:=Aside0.mk ((by rw [hg];exact (below_size bl_):w.heap.size≤gb209));clear HB;have HB:=n0_;have BK209:=n1_;have GW209:=n2_;have GE209:=n3_;clear n0_ n1_ n2_ n3_;clear hb hbox hg;obtain ⟨hcz8_0,hcz8_1,hcz8_2,hcz8_3,hcz8_4⟩:=blc5_ BK209.out;have hfz8_0:=blk_frozen BK209.out 0;have hfz8_1:=blk_frozen BK209.out 1;have hfz8_2:=blk_frozen BK209.out 2;have hfz8_3:=blk_frozen BK209.out 3;have hfz8_4:=blk_frozen BK209.out 4))
    go_ret
    exact ⟨ew_,bl_⟩
  ·rw [if_neg c3] at H
   have c3b0:(a0_2==0)=false:=beq_eq_false_iff_ne.mpr c3
   have c3b1:(a0_2 != 0)=true:=bne_iff_ne.mpr c3
   obtain rfl:=Option.some.inj H
   go_enter Tryd.func62,Tryd.ntmps62
   go_wp2_with (first|((with_reducible refine gate_dst (N:=1) rfl ?_);refine box_event ?hg (N:=1) ?hd (cs:=#[.int .i64 a0_0,.string a0_1,.int .i64 a0_2,.int .i64 a0_3,.int .i64 a0_4]) (t:=60) ?hr ?_;(case hd => rfl);(case hg => rfl);(case hr => first|(go_simp;done)|(go_simp;rfl));intro gb209 hg w9 hbox hb;have n0_:=Aside0.mk (below_step bl_ hb);have n1_:=Aside0.mk (hbox);have n2_:=Aside0.mk ((by rw [hg];exact (below_size bl_):w.heap.size≤gb209));have n3_:=Aside0.mk ((by rw [hg];exact (below_size bl_):w.heap.size≤gb209));clear HB;have HB:=n0_;have BK209:=n1_;have GW209:=n2_;have GE209:=n3_;clear n0_ n1_ n2_ n3_;clear hb hbox hg;obtain ⟨hcz10_0,hcz10_1,hcz10_2,hcz10_3,hcz10_4⟩:=blc5_ BK209.out;have hfz10_0:=blk_frozen BK209.out 0;have hfz10_1:=blk_frozen BK209.out 1;have hfz10_2:=blk_frozen BK209.out 2;have hfz10_3:=blk_frozen BK209.out 3;have hfz10_4:=blk_frozen BK209.out 4))
   go_ret
   exact ⟨ew_,bl_⟩
 ·rw [if_neg c2] at H
  have c2b0:(a0_0==1)=false:=beq_eq_false_iff_ne.mpr c2
  have c2b1:(a0_0 != 1)=true:=bne_iff_ne.mpr c2
  have HC11:=Aside0.mk H
  clear H
  go_enter Tryd.func62,Tryd.ntmps62
  go_upto_if 20 with (first|((with_reducible refine gate_dst (N:=1) rfl ?_);refine box_event ?hg (N:=1) ?hd (cs:=#[.int .i64 a0_0,.string a0_1,.int .i64 a0_2,.int .i64 a0_3,.int .i64 a0_4]) (t:=60) ?hr ?_;(case hd => rfl);(case hg => rfl);(case hr => first|(go_simp;done)|(go_simp;rfl));intro gb209 hg w12 hbox hb;have n0_:=Aside0.mk (below_step bl_ hb);have n1_:=Aside0.mk (hbox);have n2_:=Aside0.mk ((by rw [hg];exact (below_size bl_):w.heap.size≤gb209));have n3_:=Aside0.mk ((by rw [hg];exact (below_size bl_):w.heap.size≤gb209));clear HB;have HB:=n0_;have BK209:=n1_;have GW209:=n2_;have GE209:=n3_;clear n0_ n1_ n2_ n3_;clear hb hbox hg;obtain ⟨hcz13_0,hcz13_1,hcz13_2,hcz13_3,hcz13_4⟩:=blc5_ BK209.out;have hfz13_0:=blk_frozen BK209.out 0;have hfz13_1:=blk_frozen BK209.out 1;have hfz13_2:=blk_frozen BK209.out 2;have hfz13_3:=blk_frozen BK209.out 3;have hfz13_4:=blk_frozen BK209.out 4))
  (try simp only [Act.put,List.setIfInBounds_toArray,List.set_cons_zero,List.set_cons_succ])
  go_cut [20] (fun v20 wc => ∃ (kq:Nat) (x20_10:Bool),v20=.bool x20_10∧Aside0 (understudyref04_bare.j0 kq a0_0 x20_10 a0_0 a0_1 a0_2 a0_3 a0_4=some r)∧Aside0 (kq≤k)∧Aside0 (wc.heap[gb209]?=some (.cells #[.int .i64 a0_0,.string a0_1,.int .i64 a0_2,.int .i64 a0_3,.int .i64 a0_4] 60 (0,0)))∧Aside0 (Below w.heap.size w wc))
  case first =>
   have H:=HC11.out
   clear HC11
   by_cases c14:a0_0=3
   ·rw [if_pos c14] at H
    have c14b0:(a0_0==3)=true:=beq_iff_eq.mpr c14
    have c14b1:(a0_0 != 3)=false:=bne_eq_false_iff_eq.mpr c14
    clear c14
    (first|rw [c14b0]|(simp only [i64_w,i32_w];rw [c14b0])|skip)
    have H':=Aside0.mk H
    clear H
    go_wp2
    go_meet
    case rel => exact ⟨_,((a0_0==3)),r3_,H',⟨by first|omega|exact Nat.le_refl _⟩,⟨bk_⟩,⟨bl_⟩⟩
   ·rw [if_neg c14] at H
    have c14b0:(a0_0==3)=false:=beq_eq_false_iff_ne.mpr c14
    have c14b1:(a0_0 != 3)=true:=bne_iff_ne.mpr c14
    (first|rw [c14b0]|(simp only [i64_w,i32_w];rw [c14b0])|skip)
    have H':=Aside0.mk H
    clear H
    go_wp2
    go_meet
    case rel => exact ⟨_,((a0_0==5)),r3_,H',⟨by first|omega|exact Nat.le_refl _⟩,⟨bk_⟩,⟨bl_⟩⟩
  case rest =>
   clear HC11
   try clear c2;try clear c2b0;try clear c2b1;try clear hcz13_0;try clear hcz13_1;try clear hcz13_2;try clear hcz13_3;try clear hcz13_4;try clear hfz13_0;try clear hfz13_1;try clear hfz13_2;try clear hfz13_3;try clear hfz13_4
   obtain ⟨kq,x20_10,rfl,HA,HJ10,BK209,HB⟩:=hcut
   cases kq with
   | zero => exact absurd HA.out (by simp [understudyref04_bare.j0])
   | succ kj10 =>
    have H:=HA.out
    clear HA
    simp only [understudyref04_bare.j0] at H
    by_cases c15:x20_10=true
    ·subst c15
     rw [if_pos rfl] at H
     by_cases c16:a0_1.toList=([]:List UInt8)
     ·rw [if_pos c16] at H
      have c16b0:(a0_1.toList==([]:List UInt8))=true:=beq_iff_eq.mpr c16
      have c16b1:(a0_1.toList != ([]:List UInt8))=false:=bne_eq_false_iff_eq.mpr c16
      clear c16
      by_cases c17:a0_3=0
      ·rw [if_pos c17] at H
       have c17b0:(a0_3==0)=true:=beq_iff_eq.mpr c17
       have c17b1:(a0_3 != 0)=false:=bne_eq_false_iff_eq.mpr c17
       clear c17
       obtain rfl:=Option.some.inj H
       obtain ⟨hcz18_0,hcz18_1,hcz18_2,hcz18_3,hcz18_4,hfz18_0,hfz18_1,hfz18_2,hfz18_3,hfz18_4⟩:=blk5_ BK209.out
       go_wp2
       go_ret
       exact ⟨ew_,bl_⟩
      ·rw [if_neg c17] at H
       have c17b0:(a0_3==0)=false:=beq_eq_false_iff_ne.mpr c17
       have c17b1:(a0_3 != 0)=true:=bne_iff_ne.mpr c17
       obtain rfl:=Option.some.inj H
       obtain ⟨hcz19_0,hcz19_1,hcz19_2,hcz19_3,hcz19_4,hfz19_0,hfz19_1,hfz19_2,hfz19_3,hfz19_4⟩:=blk5_ BK209.out
       go_wp2
       go_ret
       exact ⟨ew_,bl_⟩
     ·rw [if_neg c16] at H
      have c16b0:(a0_1.toList==([]:List UInt8))=false:=beq_eq_false_iff_ne.mpr c16
      have c16b1:(a0_1.toList != ([]:List UInt8))=true:=bne_iff_ne.mpr c16
      obtain rfl:=Option.some.inj H
      obtain ⟨hcz20_0,hcz20_1,hcz20_2,hcz20_3,hcz20_4,hfz20_0,hfz20_1,hfz20_2,hfz20_3,hfz20_4⟩:=blk5_ BK209.out
      go_wp2
      go_ret
      exact ⟨ew_,bl_⟩
    ·replace c15:=Bool.eq_false_iff.mpr c15
     subst c15
     rw [if_neg (show ¬ (false=true) by decide)] at H
     by_cases c21:a0_0=7
     ·rw [if_pos c21] at H
      have c21b0:(a0_0==7)=true:=beq_iff_eq.mpr c21
      have c21b1:(a0_0 != 7)=false:=bne_eq_false_iff_eq.mpr c21
      clear c21
      by_cases c22:a0_1.toList=([]:List UInt8)
      ·rw [if_pos c22] at H
       have c22b0:(a0_1.toList==([]:List UInt8))=true:=beq_iff_eq.mpr c22
       have c22b1:(a0_1.toList != ([]:List UInt8))=false:=bne_eq_false_iff_eq.mpr c22
       clear c22
       by_cases c23:a0_2=0
       ·rw [if_pos c23] at H
        have c23b0:(a0_2==0)=true:=beq_iff_eq.mpr c23
        have c23b1:(a0_2 != 0)=false:=bne_eq_false_iff_eq.mpr c23
        clear c23
        obtain rfl:=Option.some.inj H
        obtain ⟨hcz24_0,hcz24_1,hcz24_2,hcz24_3,hcz24_4,hfz24_0,hfz24_1,hfz24_2,hfz24_3,hfz24_4⟩:=blk5_ BK209.out
        go_wp2
        go_ret
        exact ⟨ew_,bl_⟩
       ·rw [if_neg c23] at H
        have c23b0:(a0_2==0)=false:=beq_eq_false_iff_ne.mpr c23
        have c23b1:(a0_2 != 0)=true:=bne_iff_ne.mpr c23
        obtain rfl:=Option.some.inj H
        obtain ⟨hcz25_0,hcz25_1,hcz25_2,hcz25_3,hcz25_4,hfz25_0,hfz25_1,hfz25_2,hfz25_3,hfz25_4⟩:=blk5_ BK209.out
        go_wp2
        go_ret
        exact ⟨ew_,bl_⟩
      ·rw [if_neg c22] at H
       have c22b0:(a0_1.toList==([]:List UInt8))=false:=beq_eq_false_iff_ne.mpr c22
       have c22b1:(a0_1.toList != ([]:List UInt8))=true:=bne_iff_ne.mpr c22
       obtain rfl:=Option.some.inj H
       obtain ⟨hcz26_0,hcz26_1,hcz26_2,hcz26_3,hcz26_4,hfz26_0,hfz26_1,hfz26_2,hfz26_3,hfz26_4⟩:=blk5_ BK209.out
       go_wp2
       go_ret
       exact ⟨ew_,bl_⟩
     ·rw [if_neg c21] at H
      have c21b0:(a0_0==7)=false:=beq_eq_false_iff_ne.mpr c21
      have c21b1:(a0_0 != 7)=true:=bne_iff_ne.mpr c21
      by_cases c27:a0_1.toList=([]:List UInt8)
      ·rw [if_pos c27] at H
       have c27b0:(a0_1.toList==([]:List UInt8))=true:=beq_iff_eq.mpr c27
       have c27b1:(a0_1.toList != ([]:List UInt8))=false:=bne_eq_false_iff_eq.mpr c27
       clear c27
       obtain rfl:=Option.some.inj H
       obtain ⟨hcz28_0,hcz28_1,hcz28_2,hcz28_3,hcz28_4,hfz28_0,hfz28_1,hfz28_2,hfz28_3,hfz28_4⟩:=blk5_ BK209.out
       go_wp2
       go_ret
       exact ⟨ew_,bl_⟩
      ·rw [if_neg c27] at H
       have c27b0:(a0_1.toList==([]:List UInt8))=false:=beq_eq_false_iff_ne.mpr c27
       have c27b1:(a0_1.toList != ([]:List UInt8))=true:=bne_iff_ne.mpr c27
       obtain rfl:=Option.some.inj H
       obtain ⟨hcz29_0,hcz29_1,hcz29_2,hcz29_3,hcz29_4,hfz29_0,hfz29_1,hfz29_2,hfz29_3,hfz29_4⟩:=blk5_ BK209.out
       go_wp2
       go_ret
       exact ⟨ew_,bl_⟩
def understudyref04_is.f (l0:List (S60)) (a1:Int) (a2:Int):Option (Bool):=if a1 ≥ 1 then (if a1 < (l0.length:Int) then (if 0≤a1 then (some (((rd_T60 l0 a1).f0)==a2)) else (none)) else (some false)) else (some false)
set_option maxHeartbeats 80000000 in
set_option maxRecDepth 100000 in
theorem understudyref04_is.calls (A0:Option Addr) (c0:Nat) (l0:List (S60)) (a1:Int) (a2:Int) (r:Bool) (w:World) (hr0:Kd.C k60 w A0 l0.length l0) (hc0:l0.length≤c0) (h:understudyref04_is.f l0 a1 a2=some r) :
  Calls Tryd.prog 63 #[.slice A0 l0.length c0,.int .i64 a1,.int .i64 a2] w fun e w' => e=.returned (.bool r)∧Drawn0 w w':=by
 have HR0:=Aside0.mk hr0
 have HC0:=Aside0.mk hc0
 clear hr0 hc0
 have H:(if a1 ≥ 1 then (if a1 < (l0.length:Int) then (if 0≤a1 then (some (((rd_T60 l0 a1).f0)==a2)) else (none)) else (some false)) else (some false))=some r:=h
 clear h
 by_cases c4:a1 ≥ 1
 ·rw [if_pos c4] at H
  have c4b0:decide (1≤a1)=true:=decide_eq_true c4
  clear c4
  by_cases c5:a1 < (l0.length:Int)
  ·rw [if_pos c5] at H
   have c5b0:decide (a1 < (l0.length:Int))=true:=decide_eq_true c5
   clear c5
   by_cases c6:0≤a1
   ·rw [if_pos c6] at H
    have c6b0:decide (0≤a1)=true:=decide_eq_true c6
    clear c6
    obtain rfl:=Option.some.inj H
    have p210:0≤(a1:Int):=od_
    have q210:a1 < (l0.length:Int):=od_
    obtain ⟨ad210,e210,hx210_0,hx210_1,hx210_2,hx210_3,hx210_4⟩:=at_T60 HR0.out a1 p210 q210
    cases e210
    replace p210:=eq_true p210
    replace q210:=eq_true q210
    go_enter Tryd.func63,Tryd.ntmps63
    go_wp2
    go_ret
    exact ⟨by first|rfl|(simp;done)|(simp [*];done),by repeat (first|exact Drawn0.refl _|apply Drawn0.step)⟩
   ·rw [if_neg c6] at H
    exact absurd H (by simp)
  ·rw [if_neg c5] at H
   have c5b0:decide (a1 < (l0.length:Int))=false:=decide_eq_false c5
   clear c5
   obtain rfl:=Option.some.inj H
   go_enter Tryd.func63,Tryd.ntmps63
   go_wp2
   go_ret
   exact ⟨by first|rfl|(simp;done)|(simp [*];done),by repeat (first|exact Drawn0.refl _|apply Drawn0.step)⟩
 ·rw [if_neg c4] at H
  have c4b0:decide (1≤a1)=false:=decide_eq_false c4
  clear c4
  obtain rfl:=Option.some.inj H
  go_enter Tryd.func63,Tryd.ntmps63
  go_wp2
  go_ret
  exact ⟨by first|rfl|(simp;done)|(simp [*];done),by repeat (first|exact Drawn0.refl _|apply Drawn0.step)⟩
end Go.Proofs.YtmloaijagkebpaaDoor.Px
namespace Go.Proofs.YtmloaijagkebpaaDoor.Px
open Go.RowKit Go.Proofs.YtmloaijagkebpaaDoorW.PrintWords Go.Proofs.YtmloaijagkebpaaDoorW.PrintLast Go.Proofs.YtmloaijagkebpaaDoorW.PrintMore
attribute [local go_sem] max2_int min2_int max_two min_two max_three min_three max_four min_four
set_option linter.unusedVariables false
set_option linter.unusedSimpArgs false
mutual
def understudyref02_point.j2:Nat→ByteArray→Int→Int→Int→Option (Int × Int)
 | 0,_,_,_,_ => none
 | k + 1,x0,x4,x5,x6 => if (x0.size:Int) < x5 then (some (0,0)) else (understudyref02_point.l0 k x0 x4 x5 x6 1)
def understudyref02_point.l0:Nat→ByteArray→Int→Int→Int→Int→Option (Int × Int)
 | 0,_,_,_,_,_ => none
 | k + 1,x0,x4,x5,x6,x7 => if x7 < x5 then (if 0≤x7 then (if x7 < (x0.size:Int) then (if (bt x0 x7) < 128 then (some (0,0)) else (if (bt x0 x7) > 191 then (some (0,0)) else (understudyref02_point.l0 k x0 (Go.bits .or .i64 (wrap64 (x4 * 64)) (wrap64 (Go.bits .and .u8 (bt x0 x7) 63))) x5 x6 (wrap64 (x7 + 1))))) else (none)) else (none)) else (if x4 < x6 then (some (0,0)) else (if x4 > 1114111 then (some (0,0)) else (if x4 ≥ 55296 then (if x4≤57343 then (some (0,0)) else (some (x4,x5))) else (some (x4,x5)))))
def understudyref02_point.j0:Nat→ByteArray→Int→Bool→Option (Int × Int)
 | 0,_,_,_ => none
 | k + 1,x0,x4,x15 => if x15=true then (understudyref02_point.j2 k x0 (Go.bits .and .i64 x4 31) 2 128) else (if x4 ≥ 224 then (understudyref02_point.j1 k x0 x4 (decide (x4≤239))) else (understudyref02_point.j1 k x0 x4 false))
def understudyref02_point.j1:Nat→ByteArray→Int→Bool→Option (Int × Int)
 | 0,_,_,_ => none
 | k + 1,x0,x4,x24 => if x24=true then (understudyref02_point.j2 k x0 (Go.bits .and .i64 x4 15) 3 2048) else (if x4 ≥ 240 then (if x4≤244 then (understudyref02_point.j2 k x0 (Go.bits .and .i64 x4 7) 4 65536) else (some (0,0))) else (some (0,0)))
end
def understudyref02_point.f (k:Nat) (a0:ByteArray):Option (Int × Int):=if 0 < (a0.size:Int) then (if (wrap64 (bt a0 0)) < 128 then (some (wrap64 (bt a0 0),1)) else (if (wrap64 (bt a0 0)) ≥ 194 then (understudyref02_point.j0 k a0 (wrap64 (bt a0 0)) (decide ((wrap64 (bt a0 0))≤223))) else (understudyref02_point.j0 k a0 (wrap64 (bt a0 0)) false))) else (none)
theorem understudyref02_point.mono_l:∀ k,(∀ y0 y1 y2 y3,LeO (understudyref02_point.j2 k y0 y1 y2 y3) (understudyref02_point.j2 (k + 1) y0 y1 y2 y3))∧(∀ y0 y1 y2 y3 y4,LeO (understudyref02_point.l0 k y0 y1 y2 y3 y4) (understudyref02_point.l0 (k + 1) y0 y1 y2 y3 y4))∧(∀ y0 y1 y2,LeO (understudyref02_point.j0 k y0 y1 y2) (understudyref02_point.j0 (k + 1) y0 y1 y2))∧(∀ y0 y1 y2,LeO (understudyref02_point.j1 k y0 y1 y2) (understudyref02_point.j1 (k + 1) y0 y1 y2))
 | 0 => ⟨fun _ _ _ _ r h => by simp [understudyref02_point.j2] at h,fun _ _ _ _ _ r h => by simp [understudyref02_point.l0] at h,fun _ _ _ r h => by simp [understudyref02_point.j0] at h,fun _ _ _ r h => by simp [understudyref02_point.j1] at h⟩
 | k + 1 => by
  obtain ⟨ih0,ih1,ih2,ih3⟩:=understudyref02_point.mono_l k
  refine ⟨?_,?_,?_,?_⟩
  ·intro y0 y1 y2 y3
   unfold understudyref02_point.j2
   repeat' first
   | (with_reducible exact ih0 _ _ _ _)
   | (with_reducible exact ih1 _ _ _ _ _)
   | (with_reducible exact ih2 _ _ _)
   | (with_reducible exact ih3 _ _ _)
   | (with_reducible exact LeO.refl _)
   | (with_reducible exact LeO.none _)
   | (with_reducible refine LeO.ite ?_ ?_)
   | (with_reducible refine LeO.bind ?_ (fun _ => ?_))
   | exact ih0 _ _ _ _
   | exact ih1 _ _ _ _ _
   | exact ih2 _ _ _
   | exact ih3 _ _ _
   | exact LeO.none _
   | refine LeO.ite ?_ ?_
   | refine LeO.bind ?_ (fun _ => ?_)
  ·intro y0 y1 y2 y3 y4
   unfold understudyref02_point.l0
   repeat' first
   | (with_reducible exact ih0 _ _ _ _)
   | (with_reducible exact ih1 _ _ _ _ _)
   | (with_reducible exact ih2 _ _ _)
   | (with_reducible exact ih3 _ _ _)
   | (with_reducible exact LeO.refl _)
   | (with_reducible exact LeO.none _)
   | (with_reducible refine LeO.ite ?_ ?_)
   | (with_reducible refine LeO.bind ?_ (fun _ => ?_))
   | exact ih0 _ _ _ _
   | exact ih1 _ _ _ _ _
   | exact ih2 _ _ _
   | exact ih3 _ _ _
   | exact LeO.none _
   | refine LeO.ite ?_ ?_
   | refine LeO.bind ?_ (fun _ => ?_)
  ·intro y0 y1 y2
   unfold understudyref02_point.j0
   repeat' first
   | (with_reducible exact ih0 _ _ _ _)
   | (with_reducible exact ih1 _ _ _ _ _)
   | (with_reducible exact ih2 _ _ _)
   | (with_reducible exact ih3 _ _ _)
   | (with_reducible exact LeO.refl _)
   | (with_reducible exact LeO.none _)
   | (with_reducible refine LeO.ite ?_ ?_)
   | (with_reducible refine LeO.bind ?_ (fun _ => ?_))
   | exact ih0 _ _ _ _
   | exact ih1 _ _ _ _ _
   | exact ih2 _ _ _
   | exact ih3 _ _ _
   | exact LeO.none _
   | refine LeO.ite ?_ ?_
   | refine LeO.bind ?_ (fun _ => ?_)
  ·intro y0 y1 y2
   unfold understudyref02_point.j1
   repeat' first
   | (with_reducible exact ih0 _ _ _ _)
   | (with_reducible exact ih1 _ _ _ _ _)
   | (with_reducible exact ih2 _ _ _)
   | (with_reducible exact ih3 _ _ _)
   | (with_reducible exact LeO.refl _)
   | (with_reducible exact LeO.none _)
   | (with_reducible refine LeO.ite ?_ ?_)
   | (with_reducible refine LeO.bind ?_ (fun _ => ?_))
   | exact ih0 _ _ _ _
   | exact ih1 _ _ _ _ _
   | exact ih2 _ _ _
   | exact ih3 _ _ _
   | exact LeO.none _
   | refine LeO.ite ?_ ?_
   | refine LeO.bind ?_ (fun _ => ?_)
theorem understudyref02_point.mono:∀ a0 k,LeO (understudyref02_point.f k a0) (understudyref02_point.f (k + 1) a0):=by
 intro a0 k
 obtain ⟨ih0,ih1,ih2,ih3⟩:=understudyref02_point.mono_l k
 unfold understudyref02_point.f
 repeat' first
   | (with_reducible exact ih0 _ _ _ _)
   | (with_reducible exact ih1 _ _ _ _ _)
   | (with_reducible exact ih2 _ _ _)
   | (with_reducible exact ih3 _ _ _)
   | (with_reducible exact LeO.refl _)
   | (with_reducible exact LeO.none _)
   | (with_reducible refine LeO.ite ?_ ?_)
   | (with_reducible refine LeO.bind ?_ (fun _ => ?_))
   | exact ih0 _ _ _ _
   | exact ih1 _ _ _ _ _
   | exact ih2 _ _ _
   | exact ih3 _ _ _
   | exact LeO.none _
   | refine LeO.ite ?_ ?_
   | refine LeO.bind ?_ (fun _ => ?_)
set_option maxHeartbeats 80000000 in
set_option maxRecDepth 100000 in
theorem understudyref02_point.calls (k:Nat) (a0:ByteArray) (r1:Int) (r2:Int) (w:World) (h:understudyref02_point.f k a0=some (r1,r2)) :
  Calls Tryd.prog 53 #[.string a0] w fun e w' => e=.returned (.tuple #[.int .i64 r1,.int .i64 r2])∧Drawn0 w w':=by
 have H:(if 0 < (a0.size:Int) then (if (wrap64 (bt a0 0)) < 128 then (some (wrap64 (bt a0 0),1)) else (if (wrap64 (bt a0 0)) ≥ 194 then (understudyref02_point.j0 k a0 (wrap64 (bt a0 0)) (decide ((wrap64 (bt a0 0))≤223))) else (understudyref02_point.j0 k a0 (wrap64 (bt a0 0)) false))) else (none))=some (r1,r2):=h
 clear h
 by_cases c2:0 < (a0.size:Int)
 ·rw [if_pos c2] at H
  have c2b0:decide (0 < (a0.size:Int))=true:=decide_eq_true c2
  have c2b1:decide (0 < a0.size)=true:=decide_eq_true (by omega)
  clear c2
  have HC4:=Aside0.mk H
  clear H
  have p3:0≤(0:Int):=(by omega)
  have q3:0 < a0.size:=(by have:(0:Int) < (a0.size:Int):=od_;omega)
  have hx3:∀ h:0 < a0.size,((a0[0]'h).toNat:Int)=bt a0 0:=bt_at a0 0
  clear p3
  have qi3:(0 < (a0.size:Int))=True:=eq_true (od_)
  replace q3:=eq_true q3
  go_enter Tryd.func53,Tryd.ntmps53
  go_upto_block 0 with (fail)
  go_cut [4,5,6] (fun v4 v5 v6 wc => ∃ (kq:Nat) (x4_3:Int) (x5_3:Int) (x6_3:Int),v4=.int .i64 x4_3∧v5=.int .i64 x5_3∧v6=.int .i64 x6_3∧Aside0 (understudyref02_point.j2 kq a0 x4_3 x5_3 x6_3=some (r1,r2))∧Aside0 (kq≤k)∧Drawn0 w wc)
  case first =>
   have H:=HC4.out
   clear HC4
   by_cases c5:(wrap64 (bt a0 0)) < 128
   ·rw [if_pos c5] at H
    have c5b0:decide ((wrap64 (bt a0 0)) < 128)=true:=decide_eq_true c5
    clear c5
    (first|rw [c5b0]|(simp only [i64_w,i32_w];rw [c5b0])|skip)
    simp only [Option.some.injEq,Prod.mk.injEq] at H
    obtain ⟨rfl,rfl⟩:=H
    go_wp2
    go_ret2
    exact ⟨by first|rfl|(simp;done)|(simp [*];done),by repeat (first|exact Drawn0.refl _|apply Drawn0.step)⟩
   ·rw [if_neg c5] at H
    have c5b0:decide ((wrap64 (bt a0 0)) < 128)=false:=decide_eq_false c5
    clear c5
    (first|rw [c5b0]|(simp only [i64_w,i32_w];rw [c5b0])|skip)
    have HC6:=Aside0.mk H
    clear H
    go_upto_region 7 with (fail)
    go_cut [15] (fun v15 wc => ∃ (kq:Nat) (x15_5:Bool),v15=.bool x15_5∧Aside0 (understudyref02_point.j0 kq a0 (wrap64 (bt a0 0)) x15_5=some (r1,r2))∧Aside0 (kq≤k)∧Drawn0 w wc)
    case first =>
     have H:=HC6.out
     clear HC6
     by_cases c7:(wrap64 (bt a0 0)) ≥ 194
     ·rw [if_pos c7] at H
      have c7b0:decide (194≤(wrap64 (bt a0 0)))=true:=decide_eq_true c7
      clear c7
      (first|rw [c7b0]|(simp only [i64_w,i32_w];rw [c7b0])|skip)
      have H':=Aside0.mk H
      clear H
      go_wp2
      go_meet
      case rel => exact ⟨_,(decide ((wrap64 (bt a0 0))≤223)),r3_,H',⟨by first|omega|exact Nat.le_refl _⟩,by repeat (first|exact Drawn0.refl _|apply Drawn0.step)⟩
     ·rw [if_neg c7] at H
      have c7b0:decide (194≤(wrap64 (bt a0 0)))=false:=decide_eq_false c7
      clear c7
      (first|rw [c7b0]|(simp only [i64_w,i32_w];rw [c7b0])|skip)
      have H':=Aside0.mk H
      clear H
      go_wp2
      go_meet
      case rel => exact ⟨_,(false),r3_,H',⟨by first|omega|exact Nat.le_refl _⟩,by repeat (first|exact Drawn0.refl _|apply Drawn0.step)⟩
    case rest =>
     clear HC6
     try clear c2;try clear c2b0;try clear c2b1;try clear p3;try clear q3;try clear hx3;try clear qi3;try clear c5;try clear c5b0
     obtain ⟨kq,x15_5,rfl,HA,HJ5,⟨mc5,rfl⟩⟩:=hcut
     cases kq with
     | zero => exact absurd HA.out (by simp [understudyref02_point.j0])
     | succ kj5 =>
      have H:=HA.out
      clear HA
      simp only [understudyref02_point.j0] at H
      by_cases c8:x15_5=true
      ·subst c8
       rw [if_pos rfl] at H
       have H':=Aside0.mk H
       clear H
       go_wp2
       go_meet
       case rel => exact ⟨_,(Go.bits .and .i64 (wrap64 (bt a0 0)) 31),(2),(128),r3_,r3_,r3_,H',⟨by have:=HJ5.out;first|omega|exact Nat.le_refl _⟩,by repeat (first|exact Drawn0.refl _|apply Drawn0.step)⟩
      ·replace c8:=Bool.eq_false_iff.mpr c8
       subst c8
       rw [if_neg (show ¬ (false=true) by decide)] at H
       have HC9:=Aside0.mk H
       clear H
       go_upto_region 11 with (fail)
       go_cut [24] (fun v24 wc => ∃ (kq:Nat) (x24_8:Bool),v24=.bool x24_8∧Aside0 (understudyref02_point.j1 kq a0 (wrap64 (bt a0 0)) x24_8=some (r1,r2))∧Aside0 (kq≤kj5)∧Drawn0 w wc)
       case first =>
        have H:=HC9.out
        clear HC9
        by_cases c10:(wrap64 (bt a0 0)) ≥ 224
        ·rw [if_pos c10] at H
         have c10b0:decide (224≤(wrap64 (bt a0 0)))=true:=decide_eq_true c10
         clear c10
         (first|rw [c10b0]|(simp only [i64_w,i32_w];rw [c10b0])|skip)
         have H':=Aside0.mk H
         clear H
         go_wp2
         go_meet
         case rel => exact ⟨_,(decide ((wrap64 (bt a0 0))≤239)),r3_,H',⟨by have:=HJ5.out;first|omega|exact Nat.le_refl _⟩,by repeat (first|exact Drawn0.refl _|apply Drawn0.step)⟩
        ·rw [if_neg c10] at H
         have c10b0:decide (224≤(wrap64 (bt a0 0)))=false:=decide_eq_false c10
         clear c10
         (first|rw [c10b0]|(simp only [i64_w,i32_w];rw [c10b0])|skip)
         have H':=Aside0.mk H
         clear H
         go_wp2
         go_meet
         case rel => exact ⟨_,(false),r3_,H',⟨by have:=HJ5.out;first|omega|exact Nat.le_refl _⟩,by repeat (first|exact Drawn0.refl _|apply Drawn0.step)⟩
       case rest =>
        clear HC9
        try clear c8
        obtain ⟨kq,x24_8,rfl,HA,HJ8,⟨mc8,rfl⟩⟩:=hcut
        cases kq with
        | zero => exact absurd HA.out (by simp [understudyref02_point.j1])
        | succ kj8 =>
         have H:=HA.out
         clear HA
         simp only [understudyref02_point.j1] at H
         by_cases c11:x24_8=true
         ·subst c11
          rw [if_pos rfl] at H
          have H':=Aside0.mk H
          clear H
          go_wp2
          go_meet
          case rel => exact ⟨_,(Go.bits .and .i64 (wrap64 (bt a0 0)) 15),(3),(2048),r3_,r3_,r3_,H',⟨by have:=HJ5.out;have:=HJ8.out;first|omega|exact Nat.le_refl _⟩,by repeat (first|exact Drawn0.refl _|apply Drawn0.step)⟩
         ·replace c11:=Bool.eq_false_iff.mpr c11
          subst c11
          rw [if_neg (show ¬ (false=true) by decide)] at H
          by_cases c12:(wrap64 (bt a0 0)) ≥ 240
          ·rw [if_pos c12] at H
           have c12b0:decide (240≤(wrap64 (bt a0 0)))=true:=decide_eq_true c12
           clear c12
           by_cases c13:(wrap64 (bt a0 0))≤244
           ·rw [if_pos c13] at H
            have c13b0:decide ((wrap64 (bt a0 0))≤244)=true:=decide_eq_true c13
            clear c13
            have H':=Aside0.mk H
            clear H
            go_wp2
            go_meet
            case rel => exact ⟨_,(Go.bits .and .i64 (wrap64 (bt a0 0)) 7),(4),(65536),r3_,r3_,r3_,H',⟨by have:=HJ5.out;have:=HJ8.out;first|omega|exact Nat.le_refl _⟩,by repeat (first|exact Drawn0.refl _|apply Drawn0.step)⟩
           ·rw [if_neg c13] at H
            have c13b0:decide ((wrap64 (bt a0 0))≤244)=false:=decide_eq_false c13
            clear c13
            simp only [Option.some.injEq,Prod.mk.injEq] at H
            obtain ⟨rfl,rfl⟩:=H
            go_wp2
            go_ret2
            exact ⟨by first|rfl|(simp;done)|(simp [*];done),by repeat (first|exact Drawn0.refl _|apply Drawn0.step)⟩
          ·rw [if_neg c12] at H
           have c12b0:decide (240≤(wrap64 (bt a0 0)))=false:=decide_eq_false c12
           clear c12
           simp only [Option.some.injEq,Prod.mk.injEq] at H
           obtain ⟨rfl,rfl⟩:=H
           go_wp2
           go_ret2
           exact ⟨by first|rfl|(simp;done)|(simp [*];done),by repeat (first|exact Drawn0.refl _|apply Drawn0.step)⟩
  case rest =>
   clear HC4
   obtain ⟨kq,x4_3,x5_3,x6_3,rfl,rfl,rfl,HA,HJ3,⟨mc3,rfl⟩⟩:=hcut
   cases kq with
   | zero => exact absurd HA.out (by simp [understudyref02_point.j2])
   | succ kj3 =>
    have H:=HA.out
    clear HA
    simp only [understudyref02_point.j2] at H
    by_cases c14:(a0.size:Int) < x5_3
    ·rw [if_pos c14] at H
     have c14b0:decide ((a0.size:Int) < x5_3)=true:=decide_eq_true c14
     clear c14
     simp only [Option.some.injEq,Prod.mk.injEq] at H
     obtain ⟨rfl,rfl⟩:=H
     go_wp2
     go_ret2
     exact ⟨by first|rfl|(simp;done)|(simp [*];done),by repeat (first|exact Drawn0.refl _|apply Drawn0.step)⟩
    ·rw [if_neg c14] at H
     have c14b0:decide ((a0.size:Int) < x5_3)=false:=decide_eq_false c14
     clear c14
     have H':=Aside0.mk H
     clear H
     go_wp2
     go_loopg [4,7] kj3 (fun kq v4 v7 w' => ∃ (x4_2:Int) (x7_2:Int),v4=.int .i64 x4_2∧v7=.int .i64 x7_2∧Aside0 (understudyref02_point.l0 kq a0 x4_2 x5_3 x6_3 x7_2=some (r1,r2))∧Aside0 (kq≤kj3)∧Drawn0 w w')
     case atStart => exact ⟨(x4_3),(1),r3_,r3_,H',⟨Nat.le_refl _⟩,by repeat (first|exact Drawn0.refl _|apply Drawn0.step)⟩
     case round =>
      clear H'
      try clear c14;try clear c14b0
      obtain ⟨x4_2,x7_2,rfl,rfl,HA,HK2,⟨m2,rfl⟩⟩:=hrel
      cases gk with
      | zero => exact absurd HA.out (by simp [understudyref02_point.l0])
      | succ k2 =>
       have H:=HA.out
       clear HA
       simp only [understudyref02_point.l0] at H
       by_cases c15:x7_2 < x5_3
       ·rw [if_pos c15] at H
        have c15b0:decide (x7_2 < x5_3)=true:=decide_eq_true c15
        clear c15
        by_cases c16:0≤x7_2
        ·rw [if_pos c16] at H
         have c16b0:decide (0≤x7_2)=true:=decide_eq_true c16
         clear c16
         by_cases c17:x7_2 < (a0.size:Int)
         ·rw [if_pos c17] at H
          have c17b0:decide (x7_2 < (a0.size:Int))=true:=decide_eq_true c17
          clear c17
          by_cases c19:(bt a0 x7_2) < 128
          ·rw [if_pos c19] at H
           have c19b0:decide ((bt a0 x7_2) < 128)=true:=decide_eq_true c19
           clear c19
           simp only [Option.some.injEq,Prod.mk.injEq] at H
           obtain ⟨rfl,rfl⟩:=H
           have p18:0≤(x7_2:Int):=od_
           have q18:x7_2 < (a0.size:Int):=od_
           have hx18:=bt_at a0 x7_2
           replace p18:=eq_true p18
           replace q18:=eq_true q18
           go_wp2
           go_ret2
           exact ⟨by first|rfl|(simp;done)|(simp [*];done),by repeat (first|exact Drawn0.refl _|apply Drawn0.step)⟩
          ·rw [if_neg c19] at H
           have c19b0:decide ((bt a0 x7_2) < 128)=false:=decide_eq_false c19
           clear c19
           by_cases c21:(bt a0 x7_2) > 191
           ·rw [if_pos c21] at H
            have c21b0:decide (191 < (bt a0 x7_2))=true:=decide_eq_true c21
            clear c21
            simp only [Option.some.injEq,Prod.mk.injEq] at H
            obtain ⟨rfl,rfl⟩:=H
            have p18:0≤(x7_2:Int):=od_
            have q18:x7_2 < (a0.size:Int):=od_
            have hx18:=bt_at a0 x7_2
            replace p18:=eq_true p18
            replace q18:=eq_true q18
            have p20:0≤(x7_2:Int):=od_
            have q20:x7_2 < (a0.size:Int):=od_
            have hx20:=bt_at a0 x7_2
            replace p20:=eq_true p20
            replace q20:=eq_true q20
            go_wp2
            go_ret2
            exact ⟨by first|rfl|(simp;done)|(simp [*];done),by repeat (first|exact Drawn0.refl _|apply Drawn0.step)⟩
           ·rw [if_neg c21] at H
            have c21b0:decide (191 < (bt a0 x7_2))=false:=decide_eq_false c21
            clear c21
            have H':=Aside0.mk H
            clear H
            have p18:0≤(x7_2:Int):=od_
            have q18:x7_2 < (a0.size:Int):=od_
            have hx18:=bt_at a0 x7_2
            replace p18:=eq_true p18
            replace q18:=eq_true q18
            have p20:0≤(x7_2:Int):=od_
            have q20:x7_2 < (a0.size:Int):=od_
            have hx20:=bt_at a0 x7_2
            replace p20:=eq_true p20
            replace q20:=eq_true q20
            have p22:0≤(x7_2:Int):=od_
            have q22:x7_2 < (a0.size:Int):=od_
            have hx22:=bt_at a0 x7_2
            replace p22:=eq_true p22
            replace q22:=eq_true q22
            go_wp2
            go_roundg k2
            case measure => have:=HJ3.out;have:=HK2.out;omega
            case rel => exact ⟨(Go.bits .or .i64 (wrap64 (x4_2 * 64)) (wrap64 (Go.bits .and .u8 (bt a0 x7_2) 63))),(wrap64 (x7_2 + 1)),r3_,r3_,H',⟨by have:=HJ3.out;have:=HK2.out;omega⟩,by repeat (first|exact Drawn0.refl _|apply Drawn0.step)⟩
         ·rw [if_neg c17] at H
          exact absurd H (by simp)
        ·rw [if_neg c16] at H
         exact absurd H (by simp)
       ·rw [if_neg c15] at H
        have c15b0:decide (x7_2 < x5_3)=false:=decide_eq_false c15
        clear c15
        by_cases c23:x4_2 < x6_3
        ·rw [if_pos c23] at H
         have c23b0:decide (x4_2 < x6_3)=true:=decide_eq_true c23
         clear c23
         simp only [Option.some.injEq,Prod.mk.injEq] at H
         obtain ⟨rfl,rfl⟩:=H
         go_wp2
         go_ret2
         exact ⟨by first|rfl|(simp;done)|(simp [*];done),by repeat (first|exact Drawn0.refl _|apply Drawn0.step)⟩
        ·rw [if_neg c23] at H
         have c23b0:decide (x4_2 < x6_3)=false:=decide_eq_false c23
         clear c23
         by_cases c24:x4_2 > 1114111
         ·rw [if_pos c24] at H
          have c24b0:decide (1114111 < x4_2)=true:=decide_eq_true c24
          clear c24
          simp only [Option.some.injEq,Prod.mk.injEq] at H
          obtain ⟨rfl,rfl⟩:=H
          go_wp2
          go_ret2
          exact ⟨by first|rfl|(simp;done)|(simp [*];done),by repeat (first|exact Drawn0.refl _|apply Drawn0.step)⟩
         ·rw [if_neg c24] at H
          have c24b0:decide (1114111 < x4_2)=false:=decide_eq_false c24
          clear c24
          by_cases c25:x4_2 ≥ 55296
          ·rw [if_pos c25] at H
           have c25b0:decide (55296≤x4_2)=true:=decide_eq_true c25
           clear c25
           by_cases c26:x4_2≤57343
           ·rw [if_pos c26] at H
            have c26b0:decide (x4_2≤57343)=true:=decide_eq_true c26
            clear c26
            simp only [Option.some.injEq,Prod.mk.injEq] at H
            obtain ⟨rfl,rfl⟩:=H
            go_wp2
            go_ret2
            exact ⟨by first|rfl|(simp;done)|(simp [*];done),by repeat (first|exact Drawn0.refl _|apply Drawn0.step)⟩
           ·rw [if_neg c26] at H
            have c26b0:decide (x4_2≤57343)=false:=decide_eq_false c26
            clear c26
            simp only [Option.some.injEq,Prod.mk.injEq] at H
            obtain ⟨rfl,rfl⟩:=H
            go_wp2
            go_ret2
            exact ⟨by first|rfl|(simp;done)|(simp [*];done),by repeat (first|exact Drawn0.refl _|apply Drawn0.step)⟩
          ·rw [if_neg c25] at H
           have c25b0:decide (55296≤x4_2)=false:=decide_eq_false c25
           clear c25
           simp only [Option.some.injEq,Prod.mk.injEq] at H
           obtain ⟨rfl,rfl⟩:=H
           go_wp2
           go_ret2
           exact ⟨by first|rfl|(simp;done)|(simp [*];done),by repeat (first|exact Drawn0.refl _|apply Drawn0.step)⟩
 ·rw [if_neg c2] at H
  exact absurd H (by simp)
def understudyref02_unit.j0:Nat→Int→Bool→Option (List Int)
 | 0,_,_ => none
 | k + 1,x0,x3 => if x3=true then (some (([(x0) % 256]:List Int))) else (if x0≤2047 then (some (([(wrap64 (192 + (wrap64 (Int.tdiv x0 64)))) % 256,(wrap64 (128 + (Int.tmod x0 64))) % 256]:List Int))) else (some (([(wrap64 (224 + (wrap64 (Int.tdiv x0 4096)))) % 256,(wrap64 (128 + (Int.tmod (wrap64 (Int.tdiv x0 64)) 64))) % 256,(wrap64 (128 + (Int.tmod x0 64))) % 256]:List Int))))
def understudyref02_unit.f (k:Nat) (a0:Int):Option (List Int):=if a0 ≥ 1 then (understudyref02_unit.j0 k a0 (decide (a0≤127))) else (understudyref02_unit.j0 k a0 false)
theorem understudyref02_unit.mono_l:∀ k,(∀ y0 y1,LeO (understudyref02_unit.j0 k y0 y1) (understudyref02_unit.j0 (k + 1) y0 y1))
 | 0 => fun _ _ r h => by simp [understudyref02_unit.j0] at h
 | k + 1 => by
  have ih0:=understudyref02_unit.mono_l k
  ·intro y0 y1
   unfold understudyref02_unit.j0
   repeat' first
   | (with_reducible exact ih0 _ _)
   | (with_reducible exact LeO.refl _)
   | (with_reducible exact LeO.none _)
   | (with_reducible refine LeO.ite ?_ ?_)
   | (with_reducible refine LeO.bind ?_ (fun _ => ?_))
   | exact ih0 _ _
   | exact LeO.none _
   | refine LeO.ite ?_ ?_
   | refine LeO.bind ?_ (fun _ => ?_)
theorem understudyref02_unit.mono:∀ a0 k,LeO (understudyref02_unit.f k a0) (understudyref02_unit.f (k + 1) a0):=by
 intro a0 k
 have ih0:=understudyref02_unit.mono_l k
 unfold understudyref02_unit.f
 repeat' first
   | (with_reducible exact ih0 _ _)
   | (with_reducible exact LeO.refl _)
   | (with_reducible exact LeO.none _)
   | (with_reducible refine LeO.ite ?_ ?_)
   | (with_reducible refine LeO.bind ?_ (fun _ => ?_))
   | exact ih0 _ _
   | exact LeO.none _
   | refine LeO.ite ?_ ?_
   | refine LeO.bind ?_ (fun _ => ?_)
set_option maxHeartbeats 80000000 in
set_option maxRecDepth 100000 in
theorem understudyref02_unit.calls (k:Nat) (a0:Int) (r:List Int) (w:World) (h:understudyref02_unit.f k a0=some r) :
  Calls Tryd.prog 54 #[.int .i64 a0] w fun e w' => ∃ v0_:Value,e=.returned (v0_)∧Kd.R (Kd.int .u8) 5 w' w.heap.size (fun _ => True) v0_ r∧Below w.heap.size w w':=by
 have HB:=Aside0.mk (Below.refl w.heap.size w)
 have H:(if a0 ≥ 1 then (understudyref02_unit.j0 k a0 (decide (a0≤127))) else (understudyref02_unit.j0 k a0 false))=some r:=h
 clear h
 have HC2:=Aside0.mk H
 clear H
 go_enter Tryd.func54,Tryd.ntmps54
 go_upto_region 1 with (fail)
 go_cut [3] (fun v3 wc => ∃ (kq:Nat) (x3_1:Bool),v3=.bool x3_1∧Aside0 (understudyref02_unit.j0 kq a0 x3_1=some r)∧Aside0 (kq≤k)∧Aside0 (Below w.heap.size w wc))
 case first =>
  have H:=HC2.out
  clear HC2
  by_cases c3:a0 ≥ 1
  ·rw [if_pos c3] at H
   have c3b0:decide (1≤a0)=true:=decide_eq_true c3
   clear c3
   (first|rw [c3b0]|(simp only [i64_w,i32_w];rw [c3b0])|skip)
   have H':=Aside0.mk H
   clear H
   go_wp2
   go_meet
   case rel => exact ⟨_,(decide (a0≤127)),r3_,H',⟨by first|omega|exact Nat.le_refl _⟩,⟨bl_⟩⟩
  ·rw [if_neg c3] at H
   have c3b0:decide (1≤a0)=false:=decide_eq_false c3
   clear c3
   (first|rw [c3b0]|(simp only [i64_w,i32_w];rw [c3b0])|skip)
   have H':=Aside0.mk H
   clear H
   go_wp2
   go_meet
   case rel => exact ⟨_,(false),r3_,H',⟨by first|omega|exact Nat.le_refl _⟩,⟨bl_⟩⟩
 case rest =>
  clear HC2
  obtain ⟨kq,x3_1,rfl,HA,HJ1,HB⟩:=hcut
  cases kq with
  | zero => exact absurd HA.out (by simp [understudyref02_unit.j0])
  | succ kj1 =>
   have H:=HA.out
   clear HA
   simp only [understudyref02_unit.j0] at H
   by_cases c4:x3_1=true
   ·subst c4
    rw [if_pos rfl] at H
    obtain ⟨y180,hy180⟩:∃ y_:List Int,y_=(([(a0) % 256]:List Int)):=⟨_,rfl⟩
    replace H:(some y180)=some r:=by first|(rw [hy180];with_reducible exact H)|(have H2_:=(Option.bind_some _ _).symm.trans H;rw [hy180];with_reducible exact H2_)|(have H2_:=(Option.bind_some _ _).symm.trans H;with_reducible exact H2_)|with_reducible exact H|(rw [hy180];exact H)|exact H
    have Ny180:=Aside0.mk hy180
    clear hy180
    obtain rfl:=Option.some.inj H
    go_wp2_with (first|((with_reducible refine gate_dst (N:=12) rfl ?_);refine Kd.R_lit (Kd.int .u8) _ 5 ?hg (N:=12) ?hd (xs:=([(a0) % 256]:List Int)) (inner:=[.int .u8 ((a0) % 256)]) (ok:=fun _ => True) (okp:=fun _ => True) ?hr ?hp (fun _ hk => hk) trivial (Below.refl _ _) (Nat.le_refl _) (by simp) ?_;(case hd => rfl);(case hg => rfl);(case hr => first|(go_simp;done)|(go_simp;rfl));(case hp => exact (Reps.one (show Kd.M (Kd.int .u8) _ _ _ ((a0) % 256) [.int .u8 ((a0) % 256)] from rfl) (Reps.none _ _)));intro v181 w5 ho6 hb hg_ hnew_;clear hg_ hnew_;(first|rw [← Ny180.out] at ho6|(simp only [Int.reduceToNat] at ho6;rw [← Ny180.out] at ho6));have n0_:=Aside0.mk (Kd.R_lower ho6 (below_size bl_));have n1_:=Aside0.mk (below_step bl_ hb);clear HB;have HO182:=n0_;have HB:=n1_;clear n0_ n1_;clear hb ho6))
    go_ret
    exact ⟨_,ew_,kr_ HO182.out,bl_⟩
   ·replace c4:=Bool.eq_false_iff.mpr c4
    subst c4
    rw [if_neg (show ¬ (false=true) by decide)] at H
    by_cases c7:a0≤2047
    ·rw [if_pos c7] at H
     have c7b0:decide (a0≤2047)=true:=decide_eq_true c7
     clear c7
     obtain ⟨y183,hy183⟩:∃ y_:List Int,y_=(([(wrap64 (192 + (wrap64 (Int.tdiv a0 64)))) % 256,(wrap64 (128 + (Int.tmod a0 64))) % 256]:List Int)):=⟨_,rfl⟩
     replace H:(some y183)=some r:=by first|(rw [hy183];with_reducible exact H)|(have H2_:=(Option.bind_some _ _).symm.trans H;rw [hy183];with_reducible exact H2_)|(have H2_:=(Option.bind_some _ _).symm.trans H;with_reducible exact H2_)|with_reducible exact H|(rw [hy183];exact H)|exact H
     have Ny183:=Aside0.mk hy183
     clear hy183
     obtain rfl:=Option.some.inj H
     go_wp2_with (first|((with_reducible refine gate_dst (N:=24) rfl ?_);refine Kd.R_lit (Kd.int .u8) _ 5 ?hg (N:=24) ?hd (xs:=([(wrap64 (192 + (wrap64 (Int.tdiv a0 64)))) % 256,(wrap64 (128 + (Int.tmod a0 64))) % 256]:List Int)) (inner:=[.int .u8 ((wrap64 (192 + (wrap64 (Int.tdiv a0 64)))) % 256),.int .u8 ((wrap64 (128 + (Int.tmod a0 64))) % 256)]) (ok:=fun _ => True) (okp:=fun _ => True) ?hr ?hp (fun _ hk => hk) trivial (Below.refl _ _) (Nat.le_refl _) (by simp) ?_;(case hd => rfl);(case hg => rfl);(case hr => first|(go_simp;done)|(go_simp;rfl));(case hp => exact (Reps.one (show Kd.M (Kd.int .u8) _ _ _ ((wrap64 (192 + (wrap64 (Int.tdiv a0 64)))) % 256) [.int .u8 ((wrap64 (192 + (wrap64 (Int.tdiv a0 64)))) % 256)] from rfl) (Reps.one (show Kd.M (Kd.int .u8) _ _ _ ((wrap64 (128 + (Int.tmod a0 64))) % 256) [.int .u8 ((wrap64 (128 + (Int.tmod a0 64))) % 256)] from rfl) (Reps.none _ _))));intro v184 w8 ho9 hb hg_ hnew_;clear hg_ hnew_;(first|rw [← Ny183.out] at ho9|(simp only [Int.reduceToNat] at ho9;rw [← Ny183.out] at ho9));have n0_:=Aside0.mk (Kd.R_lower ho9 (below_size bl_));have n1_:=Aside0.mk (below_step bl_ hb);clear HB;have HO185:=n0_;have HB:=n1_;clear n0_ n1_;clear hb ho9))
     go_ret
     exact ⟨_,ew_,kr_ HO185.out,bl_⟩
    ·rw [if_neg c7] at H
     have c7b0:decide (a0≤2047)=false:=decide_eq_false c7
     clear c7
     obtain ⟨y186,hy186⟩:∃ y_:List Int,y_=(([(wrap64 (224 + (wrap64 (Int.tdiv a0 4096)))) % 256,(wrap64 (128 + (Int.tmod (wrap64 (Int.tdiv a0 64)) 64))) % 256,(wrap64 (128 + (Int.tmod a0 64))) % 256]:List Int)):=⟨_,rfl⟩
     replace H:(some y186)=some r:=by first|(rw [hy186];with_reducible exact H)|(have H2_:=(Option.bind_some _ _).symm.trans H;rw [hy186];with_reducible exact H2_)|(have H2_:=(Option.bind_some _ _).symm.trans H;with_reducible exact H2_)|with_reducible exact H|(rw [hy186];exact H)|exact H
     have Ny186:=Aside0.mk hy186
     clear hy186
     obtain rfl:=Option.some.inj H
     go_wp2_with (first|((with_reducible refine gate_dst (N:=38) rfl ?_);refine Kd.R_lit (Kd.int .u8) _ 5 ?hg (N:=38) ?hd (xs:=([(wrap64 (224 + (wrap64 (Int.tdiv a0 4096)))) % 256,(wrap64 (128 + (Int.tmod (wrap64 (Int.tdiv a0 64)) 64))) % 256,(wrap64 (128 + (Int.tmod a0 64))) % 256]:List Int)) (inner:=[.int .u8 ((wrap64 (224 + (wrap64 (Int.tdiv a0 4096)))) % 256),.int .u8 ((wrap64 (128 + (Int.tmod (wrap64 (Int.tdiv a0 64)) 64))) % 256),.int .u8 ((wrap64 (128 + (Int.tmod a0 64))) % 256)]) (ok:=fun _ => True) (okp:=fun _ => True) ?hr ?hp (fun _ hk => hk) trivial (Below.refl _ _) (Nat.le_refl _) (by simp) ?_;(case hd => rfl);(case hg => rfl);(case hr => first|(go_simp;done)|(go_simp;rfl));(case hp => exact (Reps.one (show Kd.M (Kd.int .u8) _ _ _ ((wrap64 (224 + (wrap64 (Int.tdiv a0 4096)))) % 256) [.int .u8 ((wrap64 (224 + (wrap64 (Int.tdiv a0 4096)))) % 256)] from rfl) (Reps.one (show Kd.M (Kd.int .u8) _ _ _ ((wrap64 (128 + (Int.tmod (wrap64 (Int.tdiv a0 64)) 64))) % 256) [.int .u8 ((wrap64 (128 + (Int.tmod (wrap64 (Int.tdiv a0 64)) 64))) % 256)] from rfl) (Reps.one (show Kd.M (Kd.int .u8) _ _ _ ((wrap64 (128 + (Int.tmod a0 64))) % 256) [.int .u8 ((wrap64 (128 + (Int.tmod a0 64))) % 256)] from rfl) (Reps.none _ _)))));intro v187 w10 ho11 hb hg_ hnew_;clear hg_ hnew_;(first|rw [← Ny186.out] at ho11|(simp only [Int.reduceToNat] at ho11;rw [← Ny186.out] at ho11));have n0_:=Aside0.mk (Kd.R_lower ho11 (below_size bl_));have n1_:=Aside0.mk (below_step bl_ hb);clear HB;have HO188:=n0_;have HB:=n1_;clear n0_ n1_;clear hb ho11))
     go_ret
     exact ⟨_,ew_,kr_ HO188.out,bl_⟩
def understudyref02_Encode.l0:Nat→ByteArray→List Int→Option (List Int × Int)
 | 0,_,_ => none
 | k + 1,x0,x4 => if (x0.size:Int) > 0 then ((understudyref02_point.f k x0).bind fun bt189 => (if bt189.2=0 then (some (([]:List Int),20)) else (if 0≤bt189.2 then (if bt189.2≤(x0.size:Int) then (if bt189.1 ≥ 65536 then ((understudyref02_unit.f k (wrap64 (55296 + (wrap64 (Int.tdiv (wrap64 (bt189.1 - 65536)) 1024))))).bind fun t191 => (if x4.length + t191.length < 140737488355328 then ((some (x4++t191:List Int)).bind fun y194 => ((understudyref02_unit.f k (wrap64 (56320 + (Int.tmod (wrap64 (bt189.1 - 65536)) 1024)))).bind fun t197 => (if y194.length + t197.length < 140737488355328 then (understudyref02_Encode.l0 k (x0.extract (bt189.2:Int).toNat x0.size) (y194++t197)) else (none)))) else (none))) else ((understudyref02_unit.f k bt189.1).bind fun t203 => (if x4.length + t203.length < 140737488355328 then (understudyref02_Encode.l0 k (x0.extract (bt189.2:Int).toNat x0.size) (x4++t203)) else (none)))) else (none)) else (none)))) else (some (x4,0))
def understudyref02_Encode.f (k:Nat) (a0:ByteArray):Option (List Int × Int):=understudyref02_Encode.l0 k a0 ([]:List Int)
theorem understudyref02_Encode.mono_l:∀ k,(∀ y0 y1,LeO (understudyref02_Encode.l0 k y0 y1) (understudyref02_Encode.l0 (k + 1) y0 y1))
 | 0 => fun _ _ r h => by simp [understudyref02_Encode.l0] at h
 | k + 1 => by
  have ih0:=understudyref02_Encode.mono_l k
  ·intro y0 y1
   unfold understudyref02_Encode.l0
   repeat' first
   | (with_reducible exact ih0 _ _)
   | (with_reducible exact understudyref02_point.mono _ _)
   | (with_reducible exact understudyref02_unit.mono _ _)
   | (with_reducible exact LeO.refl _)
   | (with_reducible exact LeO.none _)
   | (with_reducible refine LeO.ite ?_ ?_)
   | (with_reducible refine LeO.bind ?_ (fun _ => ?_))
   | exact ih0 _ _
   | exact understudyref02_point.mono _ _
   | exact understudyref02_unit.mono _ _
   | exact LeO.none _
   | refine LeO.ite ?_ ?_
   | refine LeO.bind ?_ (fun _ => ?_)
theorem understudyref02_Encode.mono:∀ a0 k,LeO (understudyref02_Encode.f k a0) (understudyref02_Encode.f (k + 1) a0):=by
 intro a0 k
 have ih0:=understudyref02_Encode.mono_l k
 unfold understudyref02_Encode.f
 repeat' first
   | (with_reducible exact ih0 _ _)
   | (with_reducible exact understudyref02_point.mono _ _)
   | (with_reducible exact understudyref02_unit.mono _ _)
   | (with_reducible exact LeO.refl _)
   | (with_reducible exact LeO.none _)
   | (with_reducible refine LeO.ite ?_ ?_)
   | (with_reducible refine LeO.bind ?_ (fun _ => ?_))
   | exact ih0 _ _
   | exact understudyref02_point.mono _ _
   | exact understudyref02_unit.mono _ _
   | exact LeO.none _
   | refine LeO.ite ?_ ?_
   | refine LeO.bind ?_ (fun _ => ?_)
set_option maxHeartbeats 80000000 in
set_option maxRecDepth 100000 in
theorem understudyref02_Encode.calls (k:Nat) (a0:ByteArray) (r1:List Int) (r2:Int) (w:World) (h:understudyref02_Encode.f k a0=some (r1,r2)) :
  Calls Tryd.prog 40 #[.string a0] w fun e w' => ∃ v0_:Value,e=.returned (.tuple #[v0_,.int .i64 r2])∧Kd.R (Kd.int .u8) 5 w' w.heap.size (fun _ => True) v0_ r1∧Below w.heap.size w w':=by
 have HB:=Aside0.mk (Below.refl w.heap.size w)
 have H:(understudyref02_Encode.l0 k a0 ([]:List Int))=some (r1,r2):=h
 clear h
 have H':=Aside0.mk H
 clear H
 go_enter Tryd.func40,Tryd.ntmps40
 go_wp2
 go_loopg [0,4] k (fun kq v0 v4 w' => ∃ (x0_1:ByteArray) (x4_1:List Int),v0=.string x0_1∧Aside0 (understudyref02_Encode.l0 kq x0_1 x4_1=some (r1,r2))∧Aside0 (kq≤k)∧Aside0 (Kd.R (Kd.int .u8) 5 w' w.heap.size (fun _ => True) v4 x4_1)∧Aside0 (Below w.heap.size w w'))
 case atStart => exact ⟨(a0),(([]:List Int)),r3_,H',⟨Nat.le_refl _⟩,⟨by first|exact Kd.R_nil _ _ _ _ _|exact Kd.N_nil _ _ _ _ _|exact Kd.V_nil _ _ _ _ _|exact Kd.Q_nil _ _ _ _ _|exact Kd.S_nil _ _ _ _ _⟩,⟨bl_⟩⟩
 case round =>
  clear H'
  obtain ⟨x0_1,x4_1,rfl,HA,HK1,HO_4,HB⟩:=hrel
  cases gk with
  | zero => exact absurd HA.out (by simp [understudyref02_Encode.l0])
  | succ k1 =>
   have H:=HA.out
   clear HA
   simp only [understudyref02_Encode.l0] at H
   by_cases c2:(x0_1.size:Int) > 0
   ·rw [if_pos c2] at H
    have c2b0:decide (0 < (x0_1.size:Int))=true:=decide_eq_true c2
    have c2b1:decide (0 < x0_1.size)=true:=decide_eq_true (by omega)
    clear c2
    replace H:=Option.bind_eq_some_iff.mp H
    obtain ⟨⟨t189,t190⟩,A30,H⟩:=H
    try dsimp only at H
    have A3:=Aside0.mk A30
    clear A30
    by_cases c4:t190=0
    ·rw [if_pos c4] at H
     have c4b0:(t190==0)=true:=beq_iff_eq.mpr c4
     have c4b1:(t190 != 0)=false:=bne_eq_false_iff_eq.mpr c4
     clear c4
     simp only [Option.some.injEq,Prod.mk.injEq] at H
     obtain ⟨rfl,rfl⟩:=H
     go_wp2_with (first|(refine callA_ (f:=53) (some 12) Tryd.func53 #[.string x0_1] ?_;(with_reducible refine (understudyref02_point.calls k1 x0_1 t189 t190 _ A3.out).mono ?_);rintro e w' ⟨rfl,⟨nd,rfl⟩⟩;refine ⟨_,rfl,?_⟩))
     go_ret2
     exact ⟨_,ew_,by first|exact Kd.R_nil _ _ _ _ _|exact Kd.N_nil _ _ _ _ _|exact Kd.V_nil _ _ _ _ _|exact Kd.Q_nil _ _ _ _ _|exact Kd.S_nil _ _ _ _ _,bl_⟩
    ·rw [if_neg c4] at H
     have c4b0:(t190==0)=false:=beq_eq_false_iff_ne.mpr c4
     have c4b1:(t190 != 0)=true:=bne_iff_ne.mpr c4
     by_cases c5:0≤t190
     ·rw [if_pos c5] at H
      have c5b0:=eq_true c5
      have c5b1:decide (0≤t190)=true:=decide_eq_true c5
      clear c5
      by_cases c6:t190≤(x0_1.size:Int)
      ·rw [if_pos c6] at H
       have c6b0:=eq_true c6
       have c6b1:decide (t190≤(x0_1.size:Int))=true:=decide_eq_true c6
       clear c6
       by_cases c7:t189 ≥ 65536
       ·rw [if_pos c7] at H
        have c7b0:decide (65536≤t189)=true:=decide_eq_true c7
        clear c7
        replace H:=Option.bind_eq_some_iff.mp H
        obtain ⟨t191,A80,H⟩:=H
        try dsimp only at H
        have A8:=Aside0.mk A80
        clear A80
        by_cases c9:x4_1.length + t191.length < 140737488355328
        ·rw [if_pos c9] at H
         have LMc9:=Aside0.mk c9
         clear c9
         obtain ⟨y194,hy194⟩:∃ y_:List Int,y_=(x4_1++t191):=⟨_,rfl⟩
         replace H:((understudyref02_unit.f k1 (wrap64 (56320 + (Int.tmod (wrap64 (t189 - 65536)) 1024)))).bind fun t197 => (if y194.length + t197.length < 140737488355328 then (understudyref02_Encode.l0 k1 (x0_1.extract (t190:Int).toNat x0_1.size) (y194++t197)) else (none)))=some (r1,r2):=by first|(rw [hy194];with_reducible exact H)|(have H2_:=(Option.bind_some _ _).symm.trans H;rw [hy194];with_reducible exact H2_)|(have H2_:=(Option.bind_some _ _).symm.trans H;with_reducible exact H2_)|with_reducible exact H|(rw [hy194];exact H)|exact H
         have Ny194:=Aside0.mk hy194
         clear hy194
         replace H:=Option.bind_eq_some_iff.mp H
         obtain ⟨t197,A100,H⟩:=H
         try dsimp only at H
         have A10:=Aside0.mk A100
         clear A100
         by_cases c11:y194.length + t197.length < 140737488355328
         ·rw [if_pos c11] at H
          have LMc11:=Aside0.mk c11
          clear c11
          obtain ⟨y200,hy200⟩:∃ y_:List Int,y_=(y194++t197):=⟨_,rfl⟩
          replace H:(understudyref02_Encode.l0 k1 (x0_1.extract (t190:Int).toNat x0_1.size) y200)=some (r1,r2):=by first|(rw [hy200];with_reducible exact H)|(have H2_:=(Option.bind_some _ _).symm.trans H;rw [hy200];with_reducible exact H2_)|(have H2_:=(Option.bind_some _ _).symm.trans H;with_reducible exact H2_)|with_reducible exact H|(rw [hy200];exact H)|exact H
          have Ny200:=Aside0.mk hy200
          clear hy200
          have H':=Aside0.mk H
          clear H
          go_wp2_with (first|(refine callA_ (f:=53) (some 12) Tryd.func53 #[.string x0_1] ?_;(with_reducible refine (understudyref02_point.calls k1 x0_1 t189 t190 _ A3.out).mono ?_);rintro e w' ⟨rfl,⟨nd,rfl⟩⟩;refine ⟨_,rfl,?_⟩)|(refine callA_ (f:=54) (some 27) Tryd.func54 #[.int .i64 (wrap64 (55296 + (wrap64 (Int.tdiv (wrap64 (t189 - 65536)) 1024))))] ?_;(with_reducible refine (understudyref02_unit.calls k1 (wrap64 (55296 + (wrap64 (Int.tdiv (wrap64 (t189 - 65536)) 1024)))) t191 _ A8.out).mono ?_);rintro e w12 ⟨v192,rfl,ho0,hb⟩;refine ⟨_,rfl,?_⟩;have n0_:=Aside0.mk (Kd.R_elder' (kr_ HO_4.out) (Kd.R_base ho0) hb);have n1_:=Aside0.mk (Kd.R_lower (Kd.R_new' ho0 (Kd.R_lt (kr_ HO_4.out))) (below_size bl_));have n2_:=Aside0.mk (below_step bl_ hb);clear HO_4;clear HB;have HO_4:=n0_;have HO193:=n1_;have HB:=n2_;clear n0_ n1_ n2_;(try clear hb);(try clear hb2);(try clear hk);(try clear hi);(try clear ho0);obtain ⟨Ao14,co14,eo14⟩:=Kd.R_slice HO193.out;subst eo14)|((with_reducible refine gate_builtin (b:=.append) (xs:=#[.tmp 22,.tmp 27]) rfl ?_);at_builtin;refine Kd.R_append_rows (Kd.int .u8) (w0:=w) w.heap.size rfl (.tmp 22) (.tmp 27) 27 5 (.int .u8 0) 1 rfl Tryd.underlying27 info5 rfl (by decide) (by omega) u4 x4_1 t191 _ _ _ (fun k_ => some k_ ≠ (.slice Ao14 t191.length co14:Value).ownBlock) (fun _ => False) rfl rfl ?aO ?aR (fun _ _ h => h) (fun _ h => h.elim) ?aF ?aB ?aS ?aL ?_;(case aR => exact kc_ (Kd.R_reads' HO193.out).2.2);(case aB => exact bl_);(case aF => exact (fun k_ hk => Kd.fresh' (Kd.R_lt (kr_ HO193.out)) k_ hk));(case aO => exact (by (with_reducible repeat (first|apply Kd.R_alloc|apply Kd.R_drewN|apply Kd.R_drew));exact Kd.R_mono HO_4.out (fun _ hk => hk.2)));(case aS => exact (below_size bl_));(case aL => have:=LMc9.out;omega);intro v195 w13 ho hb hg hat;rw [← Ny194.out] at ho;have n0_:=Aside0.mk (Kd.R_after (ok:=(fun _ => True)) (kr_ HO193.out) hg hat);have n1_:=Aside0.mk (hb);have n2_:=Aside0.mk (ho);clear HO193;clear HB;clear HO_4;have HO193:=n0_;have HB:=n1_;have HO196:=n2_;clear n0_ n1_ n2_;clear ho hb hg hat)|(refine callA_ (f:=54) (some 34) Tryd.func54 #[.int .i64 (wrap64 (56320 + (Int.tmod (wrap64 (t189 - 65536)) 1024)))] ?_;(with_reducible refine (understudyref02_unit.calls k1 (wrap64 (56320 + (Int.tmod (wrap64 (t189 - 65536)) 1024))) t197 _ A10.out).mono ?_);rintro e w15 ⟨v198,rfl,ho0,hb⟩;refine ⟨_,rfl,?_⟩;have n0_:=Aside0.mk (Kd.R_elder' (kr_ HO193.out) (Kd.R_base ho0) hb);have n1_:=Aside0.mk (Kd.R_elder' (kr_ HO196.out) (Kd.R_base ho0) hb);have n2_:=Aside0.mk (Kd.R_lower (Kd.R_new' (Kd.R_new' ho0 (Kd.R_lt (kr_ HO193.out))) (Kd.R_lt (kr_ HO196.out))) (below_size bl_));have n3_:=Aside0.mk (below_step bl_ hb);clear HO193;clear HO196;clear HB;have HO193:=n0_;have HO196:=n1_;have HO199:=n2_;have HB:=n3_;clear n0_ n1_ n2_ n3_;(try clear hb);(try clear hb2);(try clear hk);(try clear hi);(try clear ho0);obtain ⟨Ao17,co17,eo17⟩:=Kd.R_slice HO199.out;subst eo17)|((with_reducible refine gate_builtin (b:=.append) (xs:=#[.tmp 29,.tmp 34]) rfl ?_);at_builtin;refine Kd.R_append_rows (Kd.int .u8) (w0:=w) w.heap.size rfl (.tmp 29) (.tmp 34) 27 5 (.int .u8 0) 1 rfl Tryd.underlying27 info5 rfl (by decide) (by omega) v195 y194 t197 _ _ _ (fun k_ => some k_ ≠ (.slice Ao14 t191.length co14:Value).ownBlock∧some k_ ≠ (.slice Ao17 t197.length co17:Value).ownBlock) (fun _ => False) rfl rfl ?aO ?aR (fun _ _ h => h) (fun _ h => h.elim) ?aF ?aB ?aS ?aL ?_;(case aR => exact kc_ (Kd.R_reads' HO199.out).2.2);(case aB => exact bl_);(case aF => exact (fun k_ hk => ⟨Kd.fresh' (Kd.R_lt (kr_ HO193.out)) k_ hk,Kd.fresh' (Kd.R_lt (kr_ HO199.out)) k_ hk⟩));(case aO => exact (kr_ HO196.out));(case aS => exact (below_size bl_));(case aL => have:=LMc11.out;omega);intro v201 w16 ho hb hg hat;rw [← Ny200.out] at ho;have n0_:=Aside0.mk (Kd.R_after (ok:=(fun k_ => some k_ ≠ (.slice Ao17 t197.length co17:Value).ownBlock)) (by (with_reducible repeat (first|apply Kd.R_alloc|apply Kd.R_drewN|apply Kd.R_drew));exact Kd.R_mono HO193.out (fun _ hk => ⟨hk.2,hk.1.2⟩)) hg hat);have n1_:=Aside0.mk (Kd.R_after (ok:=(fun k_ => some k_ ≠ (.slice Ao14 t191.length co14:Value).ownBlock)) (by (with_reducible repeat (first|apply Kd.R_alloc|apply Kd.R_drewN|apply Kd.R_drew));exact Kd.R_mono HO199.out (fun _ hk => ⟨hk.1.2,hk.2⟩)) hg hat);have n2_:=Aside0.mk (hb);have n3_:=Aside0.mk (ho);clear HO193;clear HO199;clear HB;clear HO196;have HO193:=n0_;have HO199:=n1_;have HB:=n2_;have HO202:=n3_;clear n0_ n1_ n2_ n3_;clear ho hb hg hat))
          go_roundg k1
          case measure => have:=HK1.out;omega
          case rel => exact ⟨(x0_1.extract (t190:Int).toNat x0_1.size),(y200),r3_,H',⟨by have:=HK1.out;omega⟩,⟨by (with_reducible repeat (first|apply Kd.R_alloc|apply Kd.R_drewN|apply Kd.R_drew));exact Kd.R_mono HO202.out (fun _ hk => trivial)⟩,⟨bl_⟩⟩
         ·rw [if_neg c11] at H
          exact absurd H (by simp)
        ·rw [if_neg c9] at H
         exact absurd H (by simp)
       ·rw [if_neg c7] at H
        have c7b0:decide (65536≤t189)=false:=decide_eq_false c7
        clear c7
        replace H:=Option.bind_eq_some_iff.mp H
        obtain ⟨t203,A180,H⟩:=H
        try dsimp only at H
        have A18:=Aside0.mk A180
        clear A180
        by_cases c19:x4_1.length + t203.length < 140737488355328
        ·rw [if_pos c19] at H
         have LMc19:=Aside0.mk c19
         clear c19
         obtain ⟨y206,hy206⟩:∃ y_:List Int,y_=(x4_1++t203):=⟨_,rfl⟩
         replace H:(understudyref02_Encode.l0 k1 (x0_1.extract (t190:Int).toNat x0_1.size) y206)=some (r1,r2):=by first|(rw [hy206];with_reducible exact H)|(have H2_:=(Option.bind_some _ _).symm.trans H;rw [hy206];with_reducible exact H2_)|(have H2_:=(Option.bind_some _ _).symm.trans H;with_reducible exact H2_)|with_reducible exact H|(rw [hy206];exact H)|exact H
         have Ny206:=Aside0.mk hy206
         clear hy206
         have H':=Aside0.mk H
         clear H
         go_wp2_with (first|(refine callA_ (f:=53) (some 12) Tryd.func53 #[.string x0_1] ?_;(with_reducible refine (understudyref02_point.calls k1 x0_1 t189 t190 _ A3.out).mono ?_);rintro e w' ⟨rfl,⟨nd,rfl⟩⟩;refine ⟨_,rfl,?_⟩)|(refine callA_ (f:=54) (some 38) Tryd.func54 #[.int .i64 t189] ?_;(with_reducible refine (understudyref02_unit.calls k1 t189 t203 _ A18.out).mono ?_);rintro e w20 ⟨v204,rfl,ho0,hb⟩;refine ⟨_,rfl,?_⟩;have n0_:=Aside0.mk (Kd.R_elder' (kr_ HO_4.out) (Kd.R_base ho0) hb);have n1_:=Aside0.mk (Kd.R_lower (Kd.R_new' ho0 (Kd.R_lt (kr_ HO_4.out))) (below_size bl_));have n2_:=Aside0.mk (below_step bl_ hb);clear HO_4;clear HB;have HO_4:=n0_;have HO205:=n1_;have HB:=n2_;clear n0_ n1_ n2_;(try clear hb);(try clear hb2);(try clear hk);(try clear hi);(try clear ho0);obtain ⟨Ao22,co22,eo22⟩:=Kd.R_slice HO205.out;subst eo22)|((with_reducible refine gate_builtin (b:=.append) (xs:=#[.tmp 36,.tmp 38]) rfl ?_);at_builtin;refine Kd.R_append_rows (Kd.int .u8) (w0:=w) w.heap.size rfl (.tmp 36) (.tmp 38) 27 5 (.int .u8 0) 1 rfl Tryd.underlying27 info5 rfl (by decide) (by omega) u4 x4_1 t203 _ _ _ (fun k_ => some k_ ≠ (.slice Ao22 t203.length co22:Value).ownBlock) (fun _ => False) rfl rfl ?aO ?aR (fun _ _ h => h) (fun _ h => h.elim) ?aF ?aB ?aS ?aL ?_;(case aR => exact kc_ (Kd.R_reads' HO205.out).2.2);(case aB => exact bl_);(case aF => exact (fun k_ hk => Kd.fresh' (Kd.R_lt (kr_ HO205.out)) k_ hk));(case aO => exact (by (with_reducible repeat (first|apply Kd.R_alloc|apply Kd.R_drewN|apply Kd.R_drew));exact Kd.R_mono HO_4.out (fun _ hk => hk.2)));(case aS => exact (below_size bl_));(case aL => have:=LMc19.out;omega);intro v207 w21 ho hb hg hat;rw [← Ny206.out] at ho;have n0_:=Aside0.mk (Kd.R_after (ok:=(fun _ => True)) (kr_ HO205.out) hg hat);have n1_:=Aside0.mk (hb);have n2_:=Aside0.mk (ho);clear HO205;clear HB;clear HO_4;have HO205:=n0_;have HB:=n1_;have HO208:=n2_;clear n0_ n1_ n2_;clear ho hb hg hat))
         go_roundg k1
         case measure => have:=HK1.out;omega
         case rel => exact ⟨(x0_1.extract (t190:Int).toNat x0_1.size),(y206),r3_,H',⟨by have:=HK1.out;omega⟩,⟨by (with_reducible repeat (first|apply Kd.R_alloc|apply Kd.R_drewN|apply Kd.R_drew));exact Kd.R_mono HO208.out (fun _ hk => trivial)⟩,⟨bl_⟩⟩
        ·rw [if_neg c19] at H
         exact absurd H (by simp)
      ·rw [if_neg c6] at H
       exact absurd H (by simp)
     ·rw [if_neg c5] at H
      exact absurd H (by simp)
   ·rw [if_neg c2] at H
    have c2b0:decide (0 < (x0_1.size:Int))=false:=decide_eq_false c2
    have c2b1:decide (0 < x0_1.size)=false:=decide_eq_false (by omega)
    clear c2
    simp only [Option.some.injEq,Prod.mk.injEq] at H
    obtain ⟨rfl,rfl⟩:=H
    go_wp2
    go_ret2
    exact ⟨_,ew_,kr_ HO_4.out,bl_⟩
end Go.Proofs.YtmloaijagkebpaaDoor.Px
namespace Go.Proofs.YtmloaijagkebpaaDoor.Px
open Go.RowKit Go.Proofs.YtmloaijagkebpaaDoorW.PrintWords Go.Proofs.YtmloaijagkebpaaDoorW.PrintLast Go.Proofs.YtmloaijagkebpaaDoorW.PrintMore
attribute [local go_sem] max2_int min2_int max_two min_two max_three min_three max_four min_four
set_option linter.unusedVariables false
set_option linter.unusedSimpArgs false
mutual
def understudyref04_one.j0:Nat→Bool→Option (Int)
 | 0,_ => none
 | k + 1,x32 => if x32=true then (some 20) else (some 0)
def understudyref04_one.j1:Nat→List (S60)→Bool→Int→ByteArray→Int→Int→Int→Option (Int)
 | 0,_,_,_,_,_,_,_ => none
 | k + 1,x0,x63,x213000,x213001,x213002,x213003,x213004 => if x63=true then ((understudyref04_is.f x0 x213003 7).bind fun t221 => (if t221=true then ((understudyref04_is.f x0 x213004 12).bind fun t222 => (if t222=true then (some 0) else (some 40))) else (some 40))) else (some 40)
end
def understudyref04_one.f (k:Nat) (l0:List (S60)) (a1:Int):Option (Int):=if 0≤a1 then (if a1 < (l0.length:Int) then ((understudyref04_bare.f k ((rd_T60 l0 a1).f0) ((rd_T60 l0 a1).f1) ((rd_T60 l0 a1).f2) ((rd_T60 l0 a1).f3) ((rd_T60 l0 a1).f4)).bind fun t213 => (if t213=true then (if ((rd_T60 l0 a1).f0)=1 then ((understudyref02_Encode.f k ((rd_T60 l0 a1).f1)).bind fun bt214 => (if bt214.2=0 then (understudyref04_one.j0 k (decide ((bt214.1.length:Int) > 256))) else (understudyref04_one.j0 k true))) else (if ((rd_T60 l0 a1).f0)=3 then (if ((rd_T60 l0 a1).f2) ≥ (-2147483648) then (if (((rd_T60 l0 a1).f2)≤2147483647) then (some 0) else (some 40)) else (some 40)) else (if ((rd_T60 l0 a1).f0)=5 then (some 0) else (if ((rd_T60 l0 a1).f0)=7 then ((understudyref04_is.f l0 ((rd_T60 l0 a1).f3) 1).bind fun t218 => (if t218=true then (some 0) else (some 40))) else (if ((rd_T60 l0 a1).f0)=12 then ((understudyref04_is.f l0 ((rd_T60 l0 a1).f3) 1).bind fun t219 => (if t219=true then ((understudyref04_is.f l0 ((rd_T60 l0 a1).f4) 1).bind fun t220 => (if t220=true then (some 0) else (some 40))) else (some 40))) else (if ((rd_T60 l0 a1).f0)=9 then (understudyref04_one.j1 k l0 (((rd_T60 l0 a1).f0)==9) ((rd_T60 l0 a1).f0) ((rd_T60 l0 a1).f1) ((rd_T60 l0 a1).f2) ((rd_T60 l0 a1).f3) ((rd_T60 l0 a1).f4)) else (understudyref04_one.j1 k l0 (((rd_T60 l0 a1).f0)==10) ((rd_T60 l0 a1).f0) ((rd_T60 l0 a1).f1) ((rd_T60 l0 a1).f2) ((rd_T60 l0 a1).f3) ((rd_T60 l0 a1).f4)))))))) else (some 40))) else (none)) else (none)
theorem understudyref04_one.mono_l:∀ k,(∀ y0,LeO (understudyref04_one.j0 k y0) (understudyref04_one.j0 (k + 1) y0))∧(∀ y0 y1 y2 y3 y4 y5 y6,LeO (understudyref04_one.j1 k y0 y1 y2 y3 y4 y5 y6) (understudyref04_one.j1 (k + 1) y0 y1 y2 y3 y4 y5 y6))
 | 0 => ⟨fun _ r h => by simp [understudyref04_one.j0] at h,fun _ _ _ _ _ _ _ r h => by simp [understudyref04_one.j1] at h⟩
 | k + 1 => by
  obtain ⟨ih0,ih1⟩:=understudyref04_one.mono_l k
  refine ⟨?_,?_⟩
  ·intro y0
   unfold understudyref04_one.j0
   repeat' first
   | (with_reducible exact ih0 _)
   | (with_reducible exact ih1 _ _ _ _ _ _ _)
   | (with_reducible exact understudyref02_Encode.mono _ _)
   | (with_reducible exact understudyref04_bare.mono _ _ _ _ _ _)
   | (with_reducible exact LeO.refl _)
   | (with_reducible exact LeO.none _)
   | (with_reducible refine LeO.ite ?_ ?_)
   | (with_reducible refine LeO.bind ?_ (fun _ => ?_))
   | exact ih0 _
   | exact ih1 _ _ _ _ _ _ _
   | exact understudyref02_Encode.mono _ _
   | exact understudyref04_bare.mono _ _ _ _ _ _
   | exact LeO.none _
   | refine LeO.ite ?_ ?_
   | refine LeO.bind ?_ (fun _ => ?_)
  ·intro y0 y1 y2 y3 y4 y5 y6
   unfold understudyref04_one.j1
   repeat' first
   | (with_reducible exact ih0 _)
   | (with_reducible exact ih1 _ _ _ _ _ _ _)
   | (with_reducible exact understudyref02_Encode.mono _ _)
   | (with_reducible exact understudyref04_bare.mono _ _ _ _ _ _)
   | (with_reducible exact LeO.refl _)
   | (with_reducible exact LeO.none _)
   | (with_reducible refine LeO.ite ?_ ?_)
   | (with_reducible refine LeO.bind ?_ (fun _ => ?_))
   | exact ih0 _
   | exact ih1 _ _ _ _ _ _ _
   | exact understudyref02_Encode.mono _ _
   | exact understudyref04_bare.mono _ _ _ _ _ _
   | exact LeO.none _
   | refine LeO.ite ?_ ?_
   | refine LeO.bind ?_ (fun _ => ?_)
theorem understudyref04_one.mono:∀ a0 a1 k,LeO (understudyref04_one.f k a0 a1) (understudyref04_one.f (k + 1) a0 a1):=by
 intro a0 a1 k
 obtain ⟨ih0,ih1⟩:=understudyref04_one.mono_l k
 unfold understudyref04_one.f
 repeat' first
   | (with_reducible exact ih0 _)
   | (with_reducible exact ih1 _ _ _ _ _ _ _)
   | (with_reducible exact understudyref02_Encode.mono _ _)
   | (with_reducible exact understudyref04_bare.mono _ _ _ _ _ _)
   | (with_reducible exact LeO.refl _)
   | (with_reducible exact LeO.none _)
   | (with_reducible refine LeO.ite ?_ ?_)
   | (with_reducible refine LeO.bind ?_ (fun _ => ?_))
   | exact ih0 _
   | exact ih1 _ _ _ _ _ _ _
   | exact understudyref02_Encode.mono _ _
   | exact understudyref04_bare.mono _ _ _ _ _ _
   | exact LeO.none _
   | refine LeO.ite ?_ ?_
   | refine LeO.bind ?_ (fun _ => ?_)
set_option maxHeartbeats 80000000 in
set_option maxRecDepth 100000 in
theorem understudyref04_one.calls (k:Nat) (A0:Option Addr) (c0:Nat) (l0:List (S60)) (a1:Int) (r:Int) (w:World) (hr0:Kd.C k60 w A0 l0.length l0) (hc0:l0.length≤c0) (h:understudyref04_one.f k l0 a1=some r) :
  Calls Tryd.prog 50 #[.slice A0 l0.length c0,.int .i64 a1] w fun e w' => e=.returned (.int .i64 r)∧Below w.heap.size w w':=by
 have hu60:=Tryd.underlying60
 have HR0:=Aside0.mk hr0
 have HC0:=Aside0.mk hc0
 clear hr0 hc0
 have HB:=Aside0.mk (Below.refl w.heap.size w)
 have H:(if 0≤a1 then (if a1 < (l0.length:Int) then ((understudyref04_bare.f k ((rd_T60 l0 a1).f0) ((rd_T60 l0 a1).f1) ((rd_T60 l0 a1).f2) ((rd_T60 l0 a1).f3) ((rd_T60 l0 a1).f4)).bind fun t213 => (if t213=true then (if ((rd_T60 l0 a1).f0)=1 then ((understudyref02_Encode.f k ((rd_T60 l0 a1).f1)).bind fun bt214 => (if bt214.2=0 then (understudyref04_one.j0 k (decide ((bt214.1.length:Int) > 256))) else (understudyref04_one.j0 k true))) else (if ((rd_T60 l0 a1).f0)=3 then (if ((rd_T60 l0 a1).f2) ≥ (-2147483648) then (if (((rd_T60 l0 a1).f2)≤2147483647) then (some 0) else (some 40)) else (some 40)) else (if ((rd_T60 l0 a1).f0)=5 then (some 0) else (if ((rd_T60 l0 a1).f0)=7 then ((understudyref04_is.f l0 ((rd_T60 l0 a1).f3) 1).bind fun t218 => (if t218=true then (some 0) else (some 40))) else (if ((rd_T60 l0 a1).f0)=12 then ((understudyref04_is.f l0 ((rd_T60 l0 a1).f3) 1).bind fun t219 => (if t219=true then ((understudyref04_is.f l0 ((rd_T60 l0 a1).f4) 1).bind fun t220 => (if t220=true then (some 0) else (some 40))) else (some 40))) else (if ((rd_T60 l0 a1).f0)=9 then (understudyref04_one.j1 k l0 (((rd_T60 l0 a1).f0)==9) ((rd_T60 l0 a1).f0) ((rd_T60 l0 a1).f1) ((rd_T60 l0 a1).f2) ((rd_T60 l0 a1).f3) ((rd_T60 l0 a1).f4)) else (understudyref04_one.j1 k l0 (((rd_T60 l0 a1).f0)==10) ((rd_T60 l0 a1).f0) ((rd_T60 l0 a1).f1) ((rd_T60 l0 a1).f2) ((rd_T60 l0 a1).f3) ((rd_T60 l0 a1).f4)))))))) else (some 40))) else (none)) else (none))=some r:=h
 clear h
 by_cases c3:0≤a1
 ·rw [if_pos c3] at H
  have c3b0:decide (0≤a1)=true:=decide_eq_true c3
  clear c3
  by_cases c4:a1 < (l0.length:Int)
  ·rw [if_pos c4] at H
   have c4b0:decide (a1 < (l0.length:Int))=true:=decide_eq_true c4
   clear c4
   replace H:=Option.bind_eq_some_iff.mp H
   obtain ⟨t213,A50,H⟩:=H
   try dsimp only at H
   have A5:=Aside0.mk A50
   clear A50
   by_cases c6:t213=true
   ·subst c6
    rw [if_pos rfl] at H
    by_cases c7:((rd_T60 l0 a1).f0)=1
    ·rw [if_pos c7] at H
     have c7b0:(((rd_T60 l0 a1).f0)==1)=true:=beq_iff_eq.mpr c7
     have c7b1:(((rd_T60 l0 a1).f0) != 1)=false:=bne_eq_false_iff_eq.mpr c7
     clear c7
     replace H:=Option.bind_eq_some_iff.mp H
     obtain ⟨⟨t214,t215⟩,A80,H⟩:=H
     try dsimp only at H
     have A8:=Aside0.mk A80
     clear A80
     have HC9:=Aside0.mk H
     clear H
     have p211:0≤(a1:Int):=od_
     have q211:a1 < (l0.length:Int):=od_
     obtain ⟨ad211,e211,hx211_0,hx211_1,hx211_2,hx211_3,hx211_4⟩:=at_T60 HR0.out a1 p211 q211
     cases e211
     replace p211:=eq_true p211
     replace q211:=eq_true q211
     go_enter Tryd.func50,Tryd.ntmps50
     go_upto_region 9 with (first|((with_reducible refine gate_dst (N:=5) rfl ?_);(try (refine gate_guard (by rfl) ?_;dsimp only));refine box_event ?hg (N:=5) ?hd (cs:=#[.int .i64 0,.string (⟨#[]⟩:ByteArray),.int .i64 0,.int .i64 0,.int .i64 0]) (t:=60) ?hr ?_;(case hd => rfl);(case hg => rfl);(case hr => first|(go_simp;done)|(go_simp;rfl));intro gb212 hg w10 hbox hb;have n0_:=Aside0.mk (below_step bl_ hb);have n1_:=Aside0.mk (hbox);have n2_:=Aside0.mk ((by rw [hg];exact (below_size bl_):w.heap.size≤gb212));have n3_:=Aside0.mk ((by rw [hg];exact (below_size bl_):w.heap.size≤gb212));clear HB;have HB:=n0_;have BK212:=n1_;have GW212:=n2_;have GE212:=n3_;clear n0_ n1_ n2_ n3_;clear hb hbox hg;obtain ⟨hcz11_0,hcz11_1,hcz11_2,hcz11_3,hcz11_4⟩:=blc5_ BK212.out;have hfz11_0:=blk_frozen BK212.out 0;have hfz11_1:=blk_frozen BK212.out 1;have hfz11_2:=blk_frozen BK212.out 2;have hfz11_3:=blk_frozen BK212.out 3;have hfz11_4:=blk_frozen BK212.out 4)|((with_reducible refine gate_store (t:=60) (p:=5) rfl ?_);refine store_event (t:=60) (p:=5) (v:=?vo_w12) (w1:=(((((w10.setCell ⟨gb212,0,none⟩ (.int .i64 ((rd_T60 l0 a1).f0))).setCell ⟨gb212,1,none⟩ (.string ((rd_T60 l0 a1).f1))).setCell ⟨gb212,2,none⟩ (.int .i64 ((rd_T60 l0 a1).f2))).setCell ⟨gb212,3,none⟩ (.int .i64 ((rd_T60 l0 a1).f3))).setCell ⟨gb212,4,none⟩ (.int .i64 ((rd_T60 l0 a1).f4)))) ?hg ?ho ?hn ?hr ?_;(case ho => rfl);(case hg => rfl);(case hn => rfl);(case hr => first|(go_simp;done)|(go_simp;rfl));intro w12 hw;have n0_:Aside0 (w12.heap[gb212]?=some (.cells #[.int .i64 ((rd_T60 l0 a1).f0),.string ((rd_T60 l0 a1).f1),.int .i64 ((rd_T60 l0 a1).f2),.int .i64 ((rd_T60 l0 a1).f3),.int .i64 ((rd_T60 l0 a1).f4)] 60 (0,0))):=⟨(by rw [hw];exact (st5_ BK212.out))⟩;have n1_:Aside0 (Below w.heap.size w w12):=⟨(by rw [hw];exact bl_)⟩;clear hw;clear BK212;clear HB;have BK212:=n0_;have HB:=n1_;clear n0_ n1_;obtain ⟨hcz13_0,hcz13_1,hcz13_2,hcz13_3,hcz13_4⟩:=blc5_ BK212.out;have hfz13_0:=blk_frozen BK212.out 0;have hfz13_1:=blk_frozen BK212.out 1;have hfz13_2:=blk_frozen BK212.out 2;have hfz13_3:=blk_frozen BK212.out 3;have hfz13_4:=blk_frozen BK212.out 4)|(refine callA_ (f:=62) (some 14) Tryd.func62 #[.agg #[.int .i64 ((rd_T60 l0 a1).f0),.string ((rd_T60 l0 a1).f1),.int .i64 ((rd_T60 l0 a1).f2),.int .i64 ((rd_T60 l0 a1).f3),.int .i64 ((rd_T60 l0 a1).f4)]] ?_;(with_reducible refine (understudyref04_bare.calls k ((rd_T60 l0 a1).f0) ((rd_T60 l0 a1).f1) ((rd_T60 l0 a1).f2) ((rd_T60 l0 a1).f3) ((rd_T60 l0 a1).f4) true _ A5.out).mono ?_);rintro e w14 ⟨rfl,hb⟩;refine ⟨_,rfl,?_⟩;have n0_:=Aside0.mk (blk_below (g:=gb212) (o:=.cells #[.int .i64 ((rd_T60 l0 a1).f0),.string ((rd_T60 l0 a1).f1),.int .i64 ((rd_T60 l0 a1).f2),.int .i64 ((rd_T60 l0 a1).f3),.int .i64 ((rd_T60 l0 a1).f4)] 60 (0,0)) bk_ hb);have n1_:=Aside0.mk (below_step bl_ hb);clear BK212;clear HB;have BK212:=n0_;have HB:=n1_;clear n0_ n1_;(try clear hb);(try clear hb2);(try clear hk);(try clear hi);obtain ⟨hcz15_0,hcz15_1,hcz15_2,hcz15_3,hcz15_4⟩:=blc5_ BK212.out;have hfz15_0:=blk_frozen BK212.out 0;have hfz15_1:=blk_frozen BK212.out 1;have hfz15_2:=blk_frozen BK212.out 2;have hfz15_3:=blk_frozen BK212.out 3;have hfz15_4:=blk_frozen BK212.out 4)|(refine callA_ (f:=40) (some 23) Tryd.func40 #[.string ((rd_T60 l0 a1).f1)] ?_;(with_reducible refine (understudyref02_Encode.calls k ((rd_T60 l0 a1).f1) t214 t215 _ A8.out).mono ?_);rintro e w16 ⟨v216,rfl,ho0,hb⟩;refine ⟨_,rfl,?_⟩;have n0_:=Aside0.mk (Kd.R_lower ho0 (below_size bl_));have n1_:=Aside0.mk (blk_below (g:=gb212) (o:=.cells #[.int .i64 ((rd_T60 l0 a1).f0),.string ((rd_T60 l0 a1).f1),.int .i64 ((rd_T60 l0 a1).f2),.int .i64 ((rd_T60 l0 a1).f3),.int .i64 ((rd_T60 l0 a1).f4)] 60 (0,0)) bk_ hb);have n2_:=Aside0.mk (below_step bl_ hb);clear BK212;clear HB;have HO217:=n0_;have BK212:=n1_;have HB:=n2_;clear n0_ n1_ n2_;(try clear hb);(try clear hb2);(try clear hk);(try clear hi);(try clear ho0)))
     (try simp only [Act.put,List.setIfInBounds_toArray,List.set_cons_zero,List.set_cons_succ])
     go_cut [32] (fun v32 wc => ∃ (kq:Nat) (x32_8:Bool),v32=.bool x32_8∧Aside0 (understudyref04_one.j0 kq x32_8=some r)∧Aside0 (kq≤k)∧Aside0 (wc.heap[gb212]?=some (.cells #[.int .i64 ((rd_T60 l0 a1).f0),.string ((rd_T60 l0 a1).f1),.int .i64 ((rd_T60 l0 a1).f2),.int .i64 ((rd_T60 l0 a1).f3),.int .i64 ((rd_T60 l0 a1).f4)] 60 (0,0)))∧Aside0 (Below w.heap.size w wc))
     case first =>
      have H:=HC9.out
      clear HC9
      by_cases c17:t215=0
      ·rw [if_pos c17] at H
       have c17b0:(t215==0)=true:=beq_iff_eq.mpr c17
       have c17b1:(t215 != 0)=false:=bne_eq_false_iff_eq.mpr c17
       clear c17
       (first|rw [c17b0]|(simp only [i64_w,i32_w];rw [c17b0])|skip)
       have H':=Aside0.mk H
       clear H
       obtain ⟨Ao18,co18,eo18⟩:=Kd.R_slice HO217.out
       subst eo18
       go_wp2
       go_meet
       case rel => exact ⟨_,(decide ((t214.length:Int) > 256)),r3_,H',⟨by first|omega|exact Nat.le_refl _⟩,⟨bk_⟩,⟨bl_⟩⟩
      ·rw [if_neg c17] at H
       have c17b0:(t215==0)=false:=beq_eq_false_iff_ne.mpr c17
       have c17b1:(t215 != 0)=true:=bne_iff_ne.mpr c17
       (first|rw [c17b0]|(simp only [i64_w,i32_w];rw [c17b0])|skip)
       have H':=Aside0.mk H
       clear H
       go_wp2
       go_meet
       case rel => exact ⟨_,(true),r3_,H',⟨by first|omega|exact Nat.le_refl _⟩,⟨bk_⟩,⟨bl_⟩⟩
     case rest =>
      clear HC9
      try clear c3;try clear c3b0;try clear c4;try clear c4b0;try clear c6;try clear c7;try clear c7b0;try clear c7b1;try clear hcz11_0;try clear hcz11_1;try clear hcz11_2;try clear hcz11_3;try clear hcz11_4;try clear hcz13_0;try clear hcz13_1;try clear hcz13_2;try clear hcz13_3;try clear hcz13_4;try clear hcz15_0;try clear hcz15_1;try clear hcz15_2;try clear hcz15_3;try clear hcz15_4;try clear hfz11_0;try clear hfz11_1;try clear hfz11_2;try clear hfz11_3;try clear hfz11_4;try clear hfz13_0;try clear hfz13_1;try clear hfz13_2;try clear hfz13_3;try clear hfz13_4;try clear hfz15_0;try clear hfz15_1;try clear hfz15_2;try clear hfz15_3;try clear hfz15_4;try clear hx211_0;try clear hx211_1;try clear hx211_2;try clear hx211_3;try clear hx211_4;try clear p211;try clear q211
      obtain ⟨kq,x32_8,rfl,HA,HJ8,BK212,HB⟩:=hcut
      cases kq with
      | zero => exact absurd HA.out (by simp [understudyref04_one.j0])
      | succ kj8 =>
       have H:=HA.out
       clear HA
       simp only [understudyref04_one.j0] at H
       by_cases c19:x32_8=true
       ·subst c19
        rw [if_pos rfl] at H
        obtain rfl:=Option.some.inj H
        go_wp2
        go_ret
        exact ⟨ew_,bl_⟩
       ·replace c19:=Bool.eq_false_iff.mpr c19
        subst c19
        rw [if_neg (show ¬ (false=true) by decide)] at H
        obtain rfl:=Option.some.inj H
        go_wp2
        go_ret
        exact ⟨ew_,bl_⟩
    ·rw [if_neg c7] at H
     have c7b0:(((rd_T60 l0 a1).f0)==1)=false:=beq_eq_false_iff_ne.mpr c7
     have c7b1:(((rd_T60 l0 a1).f0) != 1)=true:=bne_iff_ne.mpr c7
     by_cases c20:((rd_T60 l0 a1).f0)=3
     ·rw [if_pos c20] at H
      have c20b0:(((rd_T60 l0 a1).f0)==3)=true:=beq_iff_eq.mpr c20
      have c20b1:(((rd_T60 l0 a1).f0) != 3)=false:=bne_eq_false_iff_eq.mpr c20
      clear c20
      by_cases c21:((rd_T60 l0 a1).f2) ≥ (-2147483648)
      ·rw [if_pos c21] at H
       have c21b0:decide ((-2147483648)≤((rd_T60 l0 a1).f2))=true:=decide_eq_true c21
       clear c21
       by_cases c22:(((rd_T60 l0 a1).f2)≤2147483647)
       ·rw [if_pos c22] at H
        have c22b0:decide (((rd_T60 l0 a1).f2)≤2147483647)=true:=decide_eq_true c22
        clear c22
        obtain rfl:=Option.some.inj H
        have p211:0≤(a1:Int):=od_
        have q211:a1 < (l0.length:Int):=od_
        obtain ⟨ad211,e211,hx211_0,hx211_1,hx211_2,hx211_3,hx211_4⟩:=at_T60 HR0.out a1 p211 q211
        cases e211
        replace p211:=eq_true p211
        replace q211:=eq_true q211
        go_enter Tryd.func50,Tryd.ntmps50
        go_wp2_with (first|((with_reducible refine gate_dst (N:=5) rfl ?_);(try (refine gate_guard (by rfl) ?_;dsimp only));refine box_event ?hg (N:=5) ?hd (cs:=#[.int .i64 0,.string (⟨#[]⟩:ByteArray),.int .i64 0,.int .i64 0,.int .i64 0]) (t:=60) ?hr ?_;(case hd => rfl);(case hg => rfl);(case hr => first|(go_simp;done)|(go_simp;rfl));intro gb212 hg w23 hbox hb;have n0_:=Aside0.mk (below_step bl_ hb);have n1_:=Aside0.mk (hbox);have n2_:=Aside0.mk ((by rw [hg];exact (below_size bl_):w.heap.size≤gb212));have n3_:=Aside0.mk ((by rw [hg];exact (below_size bl_):w.heap.size≤gb212));clear HB;have HB:=n0_;have BK212:=n1_;have GW212:=n2_;have GE212:=n3_;clear n0_ n1_ n2_ n3_;clear hb hbox hg;obtain ⟨hcz24_0,hcz24_1,hcz24_2,hcz24_3,hcz24_4⟩:=blc5_ BK212.out;have hfz24_0:=blk_frozen BK212.out 0;have hfz24_1:=blk_frozen BK212.out 1;have hfz24_2:=blk_frozen BK212.out 2;have hfz24_3:=blk_frozen BK212.out 3;have hfz24_4:=blk_frozen BK212.out 4)|((with_reducible refine gate_store (t:=60) (p:=5) rfl ?_);refine store_event (t:=60) (p:=5) (v:=?vo_w25) (w1:=(((((w23.setCell ⟨gb212,0,none⟩ (.int .i64 ((rd_T60 l0 a1).f0))).setCell ⟨gb212,1,none⟩ (.string ((rd_T60 l0 a1).f1))).setCell ⟨gb212,2,none⟩ (.int .i64 ((rd_T60 l0 a1).f2))).setCell ⟨gb212,3,none⟩ (.int .i64 ((rd_T60 l0 a1).f3))).setCell ⟨gb212,4,none⟩ (.int .i64 ((rd_T60 l0 a1).f4)))) ?hg ?ho ?hn ?hr ?_;(case ho => rfl);(case hg => rfl);(case hn => rfl);(case hr => first|(go_simp;done)|(go_simp;rfl));intro w25 hw;have n0_:Aside0 (w25.heap[gb212]?=some (.cells #[.int .i64 ((rd_T60 l0 a1).f0),.string ((rd_T60 l0 a1).f1),.int .i64 ((rd_T60 l0 a1).f2),.int .i64 ((rd_T60 l0 a1).f3),.int .i64 ((rd_T60 l0 a1).f4)] 60 (0,0))):=⟨(by rw [hw];exact (st5_ BK212.out))⟩;have n1_:Aside0 (Below w.heap.size w w25):=⟨(by rw [hw];exact bl_)⟩;clear hw;clear BK212;clear HB;have BK212:=n0_;have HB:=n1_;clear n0_ n1_;obtain ⟨hcz26_0,hcz26_1,hcz26_2,hcz26_3,hcz26_4⟩:=blc5_ BK212.out;have hfz26_0:=blk_frozen BK212.out 0;have hfz26_1:=blk_frozen BK212.out 1;have hfz26_2:=blk_frozen BK212.out 2;have hfz26_3:=blk_frozen BK212.out 3;have hfz26_4:=blk_frozen BK212.out 4)|(refine callA_ (f:=62) (some 14) Tryd.func62 #[.agg #[.int .i64 ((rd_T60 l0 a1).f0),.string ((rd_T60 l0 a1).f1),.int .i64 ((rd_T60 l0 a1).f2),.int .i64 ((rd_T60 l0 a1).f3),.int .i64 ((rd_T60 l0 a1).f4)]] ?_;(with_reducible refine (understudyref04_bare.calls k ((rd_T60 l0 a1).f0) ((rd_T60 l0 a1).f1) ((rd_T60 l0 a1).f2) ((rd_T60 l0 a1).f3) ((rd_T60 l0 a1).f4) true _ A5.out).mono ?_);rintro e w27 ⟨rfl,hb⟩;refine ⟨_,rfl,?_⟩;have n0_:=Aside0.mk (blk_below (g:=gb212) (o:=.cells #[.int .i64 ((rd_T60 l0 a1).f0),.string ((rd_T60 l0 a1).f1),.int .i64 ((rd_T60 l0 a1).f2),.int .i64 ((rd_T60 l0 a1).f3),.int .i64 ((rd_T60 l0 a1).f4)] 60 (0,0)) bk_ hb);have n1_:=Aside0.mk (below_step bl_ hb);clear BK212;clear HB;have BK212:=n0_;have HB:=n1_;clear n0_ n1_;(try clear hb);(try clear hb2);(try clear hk);(try clear hi);obtain ⟨hcz28_0,hcz28_1,hcz28_2,hcz28_3,hcz28_4⟩:=blc5_ BK212.out;have hfz28_0:=blk_frozen BK212.out 0;have hfz28_1:=blk_frozen BK212.out 1;have hfz28_2:=blk_frozen BK212.out 2;have hfz28_3:=blk_frozen BK212.out 3;have hfz28_4:=blk_frozen BK212.out 4))
        go_ret
        exact ⟨ew_,bl_⟩
       ·rw [if_neg c22] at H
        have c22b0:decide (((rd_T60 l0 a1).f2)≤2147483647)=false:=decide_eq_false c22
        clear c22
        obtain rfl:=Option.some.inj H
        have p211:0≤(a1:Int):=od_
        have q211:a1 < (l0.length:Int):=od_
        obtain ⟨ad211,e211,hx211_0,hx211_1,hx211_2,hx211_3,hx211_4⟩:=at_T60 HR0.out a1 p211 q211
        cases e211
        replace p211:=eq_true p211
        replace q211:=eq_true q211
        go_enter Tryd.func50,Tryd.ntmps50
        go_wp2_with (first|((with_reducible refine gate_dst (N:=5) rfl ?_);(try (refine gate_guard (by rfl) ?_;dsimp only));refine box_event ?hg (N:=5) ?hd (cs:=#[.int .i64 0,.string (⟨#[]⟩:ByteArray),.int .i64 0,.int .i64 0,.int .i64 0]) (t:=60) ?hr ?_;(case hd => rfl);(case hg => rfl);(case hr => first|(go_simp;done)|(go_simp;rfl));intro gb212 hg w29 hbox hb;have n0_:=Aside0.mk (below_step bl_ hb);have n1_:=Aside0.mk (hbox);have n2_:=Aside0.mk ((by rw [hg];exact (below_size bl_):w.heap.size≤gb212));have n3_:=Aside0.mk ((by rw [hg];exact (below_size bl_):w.heap.size≤gb212));clear HB;have HB:=n0_;have BK212:=n1_;have GW212:=n2_;have GE212:=n3_;clear n0_ n1_ n2_ n3_;clear hb hbox hg;obtain ⟨hcz30_0,hcz30_1,hcz30_2,hcz30_3,hcz30_4⟩:=blc5_ BK212.out;have hfz30_0:=blk_frozen BK212.out 0;have hfz30_1:=blk_frozen BK212.out 1;have hfz30_2:=blk_frozen BK212.out 2;have hfz30_3:=blk_frozen BK212.out 3;have hfz30_4:=blk_frozen BK212.out 4)|((with_reducible refine gate_store (t:=60) (p:=5) rfl ?_);refine store_event (t:=60) (p:=5) (v:=?vo_w31) (w1:=(((((w29.setCell ⟨gb212,0,none⟩ (.int .i64 ((rd_T60 l0 a1).f0))).setCell ⟨gb212,1,none⟩ (.string ((rd_T60 l0 a1).f1))).setCell ⟨gb212,2,none⟩ (.int .i64 ((rd_T60 l0 a1).f2))).setCell ⟨gb212,3,none⟩ (.int .i64 ((rd_T60 l0 a1).f3))).setCell ⟨gb212,4,none⟩ (.int .i64 ((rd_T60 l0 a1).f4)))) ?hg ?ho ?hn ?hr ?_;(case ho => rfl);(case hg => rfl);(case hn => rfl);(case hr => first|(go_simp;done)|(go_simp;rfl));intro w31 hw;have n0_:Aside0 (w31.heap[gb212]?=some (.cells #[.int .i64 ((rd_T60 l0 a1).f0),.string ((rd_T60 l0 a1).f1),.int .i64 ((rd_T60 l0 a1).f2),.int .i64 ((rd_T60 l0 a1).f3),.int .i64 ((rd_T60 l0 a1).f4)] 60 (0,0))):=⟨(by rw [hw];exact (st5_ BK212.out))⟩;have n1_:Aside0 (Below w.heap.size w w31):=⟨(by rw [hw];exact bl_)⟩;clear hw;clear BK212;clear HB;have BK212:=n0_;have HB:=n1_;clear n0_ n1_;obtain ⟨hcz32_0,hcz32_1,hcz32_2,hcz32_3,hcz32_4⟩:=blc5_ BK212.out;have hfz32_0:=blk_frozen BK212.out 0;have hfz32_1:=blk_frozen BK212.out 1;have hfz32_2:=blk_frozen BK212.out 2;have hfz32_3:=blk_frozen BK212.out 3;have hfz32_4:=blk_frozen BK212.out 4)|(refine callA_ (f:=62) (some 14) Tryd.func62 #[.agg #[.int .i64 ((rd_T60 l0 a1).f0),.string ((rd_T60 l0 a1).f1),.int .i64 ((rd_T60 l0 a1).f2),.int .i64 ((rd_T60 l0 a1).f3),.int .i64 ((rd_T60 l0 a1).f4)]] ?_;(with_reducible refine (understudyref04_bare.calls k ((rd_T60 l0 a1).f0) ((rd_T60 l0 a1).f1) ((rd_T60 l0 a1).f2) ((rd_T60 l0 a1).f3) ((rd_T60 l0 a1).f4) true _ A5.out).mono ?_);rintro e w33 ⟨rfl,hb⟩;refine ⟨_,rfl,?_⟩;have n0_:=Aside0.mk (blk_below (g:=gb212) (o:=.cells #[.int .i64 ((rd_T60 l0 a1).f0),.string ((rd_T60 l0 a1).f1),.int .i64 ((rd_T60 l0 a1).f2),.int .i64 ((rd_T60 l0 a1).f3),.int .i64 ((rd_T60 l0 a1).f4)] 60 (0,0)) bk_ hb);have n1_:=Aside0.mk (below_step bl_ hb);clear BK212;clear HB;have BK212:=n0_;have HB:=n1_;clear n0_ n1_;(try clear hb);(try clear hb2);(try clear hk);(try clear hi);obtain ⟨hcz34_0,hcz34_1,hcz34_2,hcz34_3,hcz34_4⟩:=blc5_ BK212.out;have hfz34_0:=blk_frozen BK212.out 0;have hfz34_1:=blk_frozen BK212.out 1;have hfz34_2:=blk_frozen BK212.out 2;have hfz34_3:=blk_frozen BK212.out 3;have hfz34_4:=blk_frozen BK212.out 4))
        go_ret
        exact ⟨ew_,bl_⟩
      ·rw [if_neg c21] at H
       have c21b0:decide ((-2147483648)≤((rd_T60 l0 a1).f2))=false:=decide_eq_false c21
       clear c21
       obtain rfl:=Option.some.inj H
       have p211:0≤(a1:Int):=od_
       have q211:a1 < (l0.length:Int):=od_
       obtain ⟨ad211,e211,hx211_0,hx211_1,hx211_2,hx211_3,hx211_4⟩:=at_T60 HR0.out a1 p211 q211
       cases e211
       replace p211:=eq_true p211
       replace q211:=eq_true q211
       go_enter Tryd.func50,Tryd.ntmps50
       go_wp2_with (first|((with_reducible refine gate_dst (N:=5) rfl ?_);(try (refine gate_guard (by rfl) ?_;dsimp only));refine box_event ?hg (N:=5) ?hd (cs:=#[.int .i64 0,.string (⟨#[]⟩:ByteArray),.int .i64 0,.int .i64 0,.int .i64 0]) (t:=60) ?hr ?_;(case hd => rfl);(case hg => rfl);(case hr => first|(go_simp;done)|(go_simp;rfl));intro gb212 hg w35 hbox hb;have n0_:=Aside0.mk (below_step bl_ hb);have n1_:=Aside0.mk (hbox);have n2_:=Aside0.mk ((by rw [hg];exact (below_size bl_):w.heap.size≤gb212));have n3_:=Aside0.mk ((by rw [hg];exact (below_size bl_):w.heap.size≤gb212));clear HB;have HB:=n0_;have BK212:=n1_;have GW212:=n2_;have GE212:=n3_;clear n0_ n1_ n2_ n3_;clear hb hbox hg;obtain ⟨hcz36_0,hcz36_1,hcz36_2,hcz36_3,hcz36_4⟩:=blc5_ BK212.out;have hfz36_0:=blk_frozen BK212.out 0;have hfz36_1:=blk_frozen BK212.out 1;have hfz36_2:=blk_frozen BK212.out 2;have hfz36_3:=blk_frozen BK212.out 3;have hfz36_4:=blk_frozen BK212.out 4)|((with_reducible refine gate_store (t:=60) (p:=5) rfl ?_);refine store_event (t:=60) (p:=5) (v:=?vo_w37) (w1:=(((((w35.setCell ⟨gb212,0,none⟩ (.int .i64 ((rd_T60 l0 a1).f0))).setCell ⟨gb212,1,none⟩ (.string ((rd_T60 l0 a1).f1))).setCell ⟨gb212,2,none⟩ (.int .i64 ((rd_T60 l0 a1).f2))).setCell ⟨gb212,3,none⟩ (.int .i64 ((rd_T60 l0 a1).f3))).setCell ⟨gb212,4,none⟩ (.int .i64 ((rd_T60 l0 a1).f4)))) ?hg ?ho ?hn ?hr ?_;(case ho => rfl);(case hg => rfl);(case hn => rfl);(case hr => first|(go_simp;done)|(go_simp;rfl));intro w37 hw;have n0_:Aside0 (w37.heap[gb212]?=some (.cells #[.int .i64 ((rd_T60 l0 a1).f0),.string ((rd_T60 l0 a1).f1),.int .i64 ((rd_T60 l0 a1).f2),.int .i64 ((rd_T60 l0 a1).f3),.int .i64 ((rd_T60 l0 a1).f4)] 60 (0,0))):=⟨(by rw [hw];exact (st5_ BK212.out))⟩;have n1_:Aside0 (Below w.heap.size w w37):=⟨(by rw [hw];exact bl_)⟩;clear hw;clear BK212;clear HB;have BK212:=n0_;have HB:=n1_;clear n0_ n1_;obtain ⟨hcz38_0,hcz38_1,hcz38_2,hcz38_3,hcz38_4⟩:=blc5_ BK212.out;have hfz38_0:=blk_frozen BK212.out 0;have hfz38_1:=blk_frozen BK212.out 1;have hfz38_2:=blk_frozen BK212.out 2;have hfz38_3:=blk_frozen BK212.out 3;have hfz38_4:=blk_frozen BK212.out 4)|(refine callA_ (f:=62) (some 14) Tryd.func62 #[.agg #[.int .i64 ((rd_T60 l0 a1).f0),.string ((rd_T60 l0 a1).f1),.int .i64 ((rd_T60 l0 a1).f2),.int .i64 ((rd_T60 l0 a1).f3),.int .i64 ((rd_T60 l0 a1).f4)]] ?_;(with_reducible refine (understudyref04_bare.calls k ((rd_T60 l0 a1).f0) ((rd_T60 l0 a1).f1) ((rd_T60 l0 a1).f2) ((rd_T60 l0 a1).f3) ((rd_T60 l0 a1).f4) true _ A5.out).mono ?_);rintro e w39 ⟨rfl,hb⟩;refine ⟨_,rfl,?_⟩;have n0_:=Aside0.mk (blk_below (g:=gb212) (o:=.cells #[.int .i64 ((rd_T60 l0 a1).f0),.string ((rd_T60 l0 a1).f1),.int .i64 ((rd_T60 l0 a1).f2),.int .i64 ((rd_T60 l0 a1).f3),.int .i64 ((rd_T60 l0 a1).f4)] 60 (0,0)) bk_ hb);have n1_:=Aside0.mk (below_step bl_ hb);clear BK212;clear HB;have BK212:=n0_;have HB:=n1_;clear n0_ n1_;(try clear hb);(try clear hb2);(try clear hk);(try clear hi);obtain ⟨hcz40_0,hcz40_1,hcz40_2,hcz40_3,hcz40_4⟩:=blc5_ BK212.out;have hfz40_0:=blk_frozen BK212.out 0;have hfz40_1:=blk_frozen BK212.out 1;have hfz40_2:=blk_frozen BK212.out 2;have hfz40_3:=blk_frozen BK212.out 3;have hfz40_4:=blk_frozen BK212.out 4))
       go_ret
       exact ⟨ew_,bl_⟩
     ·rw [if_neg c20] at H
      have c20b0:(((rd_T60 l0 a1).f0)==3)=false:=beq_eq_false_iff_ne.mpr c20
      have c20b1:(((rd_T60 l0 a1).f0) != 3)=true:=bne_iff_ne.mpr c20
      by_cases c41:((rd_T60 l0 a1).f0)=5
      ·rw [if_pos c41] at H
       have c41b0:(((rd_T60 l0 a1).f0)==5)=true:=beq_iff_eq.mpr c41
       have c41b1:(((rd_T60 l0 a1).f0) != 5)=false:=bne_eq_false_iff_eq.mpr c41
       clear c41
       obtain rfl:=Option.some.inj H
       have p211:0≤(a1:Int):=od_
       have q211:a1 < (l0.length:Int):=od_
       obtain ⟨ad211,e211,hx211_0,hx211_1,hx211_2,hx211_3,hx211_4⟩:=at_T60 HR0.out a1 p211 q211
       cases e211
       replace p211:=eq_true p211
       replace q211:=eq_true q211
       go_enter Tryd.func50,Tryd.ntmps50
       go_wp2_with (first|((with_reducible refine gate_dst (N:=5) rfl ?_);(try (refine gate_guard (by rfl) ?_;dsimp only));refine box_event ?hg (N:=5) ?hd (cs:=#[.int .i64 0,.string (⟨#[]⟩:ByteArray),.int .i64 0,.int .i64 0,.int .i64 0]) (t:=60) ?hr ?_;(case hd => rfl);(case hg => rfl);(case hr => first|(go_simp;done)|(go_simp;rfl));intro gb212 hg w42 hbox hb;have n0_:=Aside0.mk (below_step bl_ hb);have n1_:=Aside0.mk (hbox);have n2_:=Aside0.mk ((by rw [hg];exact (below_size bl_):w.heap.size≤gb212));have n3_:=Aside0.mk ((by rw [hg];exact (below_size bl_):w.heap.size≤gb212));clear HB;have HB:=n0_;have BK212:=n1_;have GW212:=n2_;have GE212:=n3_;clear n0_ n1_ n2_ n3_;clear hb hbox hg;obtain ⟨hcz43_0,hcz43_1,hcz43_2,hcz43_3,hcz43_4⟩:=blc5_ BK212.out;have hfz43_0:=blk_frozen BK212.out 0;have hfz43_1:=blk_frozen BK212.out 1;have hfz43_2:=blk_frozen BK212.out 2;have hfz43_3:=blk_frozen BK212.out 3;have hfz43_4:=blk_frozen BK212.out 4)|((with_reducible refine gate_store (t:=60) (p:=5) rfl ?_);refine store_event (t:=60) (p:=5) (v:=?vo_w44) (w1:=(((((w42.setCell ⟨gb212,0,none⟩ (.int .i64 ((rd_T60 l0 a1).f0))).setCell ⟨gb212,1,none⟩ (.string ((rd_T60 l0 a1).f1))).setCell ⟨gb212,2,none⟩ (.int .i64 ((rd_T60 l0 a1).f2))).setCell ⟨gb212,3,none⟩ (.int .i64 ((rd_T60 l0 a1).f3))).setCell ⟨gb212,4,none⟩ (.int .i64 ((rd_T60 l0 a1).f4)))) ?hg ?ho ?hn ?hr ?_;(case ho => rfl);(case hg => rfl);(case hn => rfl);(case hr => first|(go_simp;done)|(go_simp;rfl));intro w44 hw;have n0_:Aside0 (w44.heap[gb212]?=some (.cells #[.int .i64 ((rd_T60 l0 a1).f0),.string ((rd_T60 l0 a1).f1),.int .i64 ((rd_T60 l0 a1).f2),.int .i64 ((rd_T60 l0 a1).f3),.int .i64 ((rd_T60 l0 a1).f4)] 60 (0,0))):=⟨(by rw [hw];exact (st5_ BK212.out))⟩;have n1_:Aside0 (Below w.heap.size w w44):=⟨(by rw [hw];exact bl_)⟩;clear hw;clear BK212;clear HB;have BK212:=n0_;have HB:=n1_;clear n0_ n1_;obtain ⟨hcz45_0,hcz45_1,hcz45_2,hcz45_3,hcz45_4⟩:=blc5_ BK212.out;have hfz45_0:=blk_frozen BK212.out 0;have hfz45_1:=blk_frozen BK212.out 1;have hfz45_2:=blk_frozen BK212.out 2;have hfz45_3:=blk_frozen BK212.out 3;have hfz45_4:=blk_frozen BK212.out 4)|(refine callA_ (f:=62) (some 14) Tryd.func62 #[.agg #[.int .i64 ((rd_T60 l0 a1).f0),.string ((rd_T60 l0 a1).f1),.int .i64 ((rd_T60 l0 a1).f2),.int .i64 ((rd_T60 l0 a1).f3),.int .i64 ((rd_T60 l0 a1).f4)]] ?_;(with_reducible refine (understudyref04_bare.calls k ((rd_T60 l0 a1).f0) ((rd_T60 l0 a1).f1) ((rd_T60 l0 a1).f2) ((rd_T60 l0 a1).f3) ((rd_T60 l0 a1).f4) true _ A5.out).mono ?_);rintro e w46 ⟨rfl,hb⟩;refine ⟨_,rfl,?_⟩;have n0_:=Aside0.mk (blk_below (g:=gb212) (o:=.cells #[.int .i64 ((rd_T60 l0 a1).f0),.string ((rd_T60 l0 a1).f1),.int .i64 ((rd_T60 l0 a1).f2),.int .i64 ((rd_T60 l0 a1).f3),.int .i64 ((rd_T60 l0 a1).f4)] 60 (0,0)) bk_ hb);have n1_:=Aside0.mk (below_step bl_ hb);clear BK212;clear HB;have BK212:=n0_;have HB:=n1_;clear n0_ n1_;(try clear hb);(try clear hb2);(try clear hk);(try clear hi);obtain ⟨hcz47_0,hcz47_1,hcz47_2,hcz47_3,hcz47_4⟩:=blc5_ BK212.out;have hfz47_0:=blk_frozen BK212.out 0;have hfz47_1:=blk_frozen BK212.out 1;have hfz47_2:=blk_frozen BK212.out 2;have hfz47_3:=blk_frozen BK212.out 3;have hfz47_4:=blk_frozen BK212.out 4))
       go_ret
       exact ⟨ew_,bl_⟩
      ·rw [if_neg c41] at H
       have c41b0:(((rd_T60 l0 a1).f0)==5)=false:=beq_eq_false_iff_ne.mpr c41
       have c41b1:(((rd_T60 l0 a1).f0) != 5)=true:=bne_iff_ne.mpr c41
       by_cases c48:((rd_T60 l0 a1).f0)=7
       ·rw [if_pos c48] at H
        have c48b0:(((rd_T60 l0 a1).f0)==7)=true:=beq_iff_eq.mpr c48
        have c48b1:(((rd_T60 l0 a1).f0) != 7)=false:=bne_eq_false_iff_eq.mpr c48
        clear c48
        replace H:=Option.bind_eq_some_iff.mp H
        obtain ⟨t218,A490,H⟩:=H
        try dsimp only at H
        have A49:=Aside0.mk A490
        clear A490
        by_cases c50:t218=true
        ·subst c50
         rw [if_pos rfl] at H
         obtain rfl:=Option.some.inj H
         have p211:0≤(a1:Int):=od_
         have q211:a1 < (l0.length:Int):=od_
         obtain ⟨ad211,e211,hx211_0,hx211_1,hx211_2,hx211_3,hx211_4⟩:=at_T60 HR0.out a1 p211 q211
         cases e211
         replace p211:=eq_true p211
         replace q211:=eq_true q211
         go_enter Tryd.func50,Tryd.ntmps50
         go_wp2_with (first|((with_reducible refine gate_dst (N:=5) rfl ?_);(try (refine gate_guard (by rfl) ?_;dsimp only));refine box_event ?hg (N:=5) ?hd (cs:=#[.int .i64 0,.string (⟨#[]⟩:ByteArray),.int .i64 0,.int .i64 0,.int .i64 0]) (t:=60) ?hr ?_;(case hd => rfl);(case hg => rfl);(case hr => first|(go_simp;done)|(go_simp;rfl));intro gb212 hg w51 hbox hb;have n0_:=Aside0.mk (below_step bl_ hb);have n1_:=Aside0.mk (hbox);have n2_:=Aside0.mk ((by rw [hg];exact (below_size bl_):w.heap.size≤gb212));have n3_:=Aside0.mk ((by rw [hg];exact (below_size bl_):w.heap.size≤gb212));clear HB;have HB:=n0_;have BK212:=n1_;have GW212:=n2_;have GE212:=n3_;clear n0_ n1_ n2_ n3_;clear hb hbox hg;obtain ⟨hcz52_0,hcz52_1,hcz52_2,hcz52_3,hcz52_4⟩:=blc5_ BK212.out;have hfz52_0:=blk_frozen BK212.out 0;have hfz52_1:=blk_frozen BK212.out 1;have hfz52_2:=blk_frozen BK212.out 2;have hfz52_3:=blk_frozen BK212.out 3;have hfz52_4:=blk_frozen BK212.out 4)|((with_reducible refine gate_store (t:=60) (p:=5) rfl ?_);refine store_event (t:=60) (p:=5) (v:=?vo_w53) (w1:=(((((w51.setCell ⟨gb212,0,none⟩ (.int .i64 ((rd_T60 l0 a1).f0))).setCell ⟨gb212,1,none⟩ (.string ((rd_T60 l0 a1).f1))).setCell ⟨gb212,2,none⟩ (.int .i64 ((rd_T60 l0 a1).f2))).setCell ⟨gb212,3,none⟩ (.int .i64 ((rd_T60 l0 a1).f3))).setCell ⟨gb212,4,none⟩ (.int .i64 ((rd_T60 l0 a1).f4)))) ?hg ?ho ?hn ?hr ?_;(case ho => rfl);(case hg => rfl);(case hn => rfl);(case hr => first|(go_simp;done)|(go_simp;rfl));intro w53 hw;have n0_:Aside0 (w53.heap[gb212]?=some (.cells #[.int .i64 ((rd_T60 l0 a1).f0),.string ((rd_T60 l0 a1).f1),.int .i64 ((rd_T60 l0 a1).f2),.int .i64 ((rd_T60 l0 a1).f3),.int .i64 ((rd_T60 l0 a1).f4)] 60 (0,0))):=⟨(by rw [hw];exact (st5_ BK212.out))⟩;have n1_:Aside0 (Below w.heap.size w w53):=⟨(by rw [hw];exact bl_)⟩;clear hw;clear BK212;clear HB;have BK212:=n0_;have HB:=n1_;clear n0_ n1_;obtain ⟨hcz54_0,hcz54_1,hcz54_2,hcz54_3,hcz54_4⟩:=blc5_ BK212.out;have hfz54_0:=blk_frozen BK212.out 0;have hfz54_1:=blk_frozen BK212.out 1;have hfz54_2:=blk_frozen BK212.out 2;have hfz54_3:=blk_frozen BK212.out 3;have hfz54_4:=blk_frozen BK212.out 4)|(refine callA_ (f:=62) (some 14) Tryd.func62 #[.agg #[.int .i64 ((rd_T60 l0 a1).f0),.string ((rd_T60 l0 a1).f1),.int .i64 ((rd_T60 l0 a1).f2),.int .i64 ((rd_T60 l0 a1).f3),.int .i64 ((rd_T60 l0 a1).f4)]] ?_;(with_reducible refine (understudyref04_bare.calls k ((rd_T60 l0 a1).f0) ((rd_T60 l0 a1).f1) ((rd_T60 l0 a1).f2) ((rd_T60 l0 a1).f3) ((rd_T60 l0 a1).f4) true _ A5.out).mono ?_);rintro e w55 ⟨rfl,hb⟩;refine ⟨_,rfl,?_⟩;have n0_:=Aside0.mk (blk_below (g:=gb212) (o:=.cells #[.int .i64 ((rd_T60 l0 a1).f0),.string ((rd_T60 l0 a1).f1),.int .i64 ((rd_T60 l0 a1).f2),.int .i64 ((rd_T60 l0 a1).f3),.int .i64 ((rd_T60 l0 a1).f4)] 60 (0,0)) bk_ hb);have n1_:=Aside0.mk (below_step bl_ hb);clear BK212;clear HB;have BK212:=n0_;have HB:=n1_;clear n0_ n1_;(try clear hb);(try clear hb2);(try clear hk);(try clear hi);obtain ⟨hcz56_0,hcz56_1,hcz56_2,hcz56_3,hcz56_4⟩:=blc5_ BK212.out;have hfz56_0:=blk_frozen BK212.out 0;have hfz56_1:=blk_frozen BK212.out 1;have hfz56_2:=blk_frozen BK212.out 2;have hfz56_3:=blk_frozen BK212.out 3;have hfz56_4:=blk_frozen BK212.out 4)|(refine callA_ (f:=63) (some 50) Tryd.func63 #[.slice (some ad211) l0.length c0,.int .i64 ((rd_T60 l0 a1).f3),.int .i64 1] ?_;(with_reducible refine (understudyref04_is.calls _ _ l0 ((rd_T60 l0 a1).f3) 1 true _ ?side1 ?side2 A49.out).mono ?_);(case side1 => exact kc_ (Kd.C_below HR0.out HB.out));(case side2 => exact HC0.out);rintro e w' ⟨rfl,⟨nd,rfl⟩⟩;refine ⟨_,rfl,?_⟩))
         go_ret
         exact ⟨ew_,bl_⟩
        ·replace c50:=Bool.eq_false_iff.mpr c50
         subst c50
         rw [if_neg (show ¬ (false=true) by decide)] at H
         obtain rfl:=Option.some.inj H
         have p211:0≤(a1:Int):=od_
         have q211:a1 < (l0.length:Int):=od_
         obtain ⟨ad211,e211,hx211_0,hx211_1,hx211_2,hx211_3,hx211_4⟩:=at_T60 HR0.out a1 p211 q211
         cases e211
         replace p211:=eq_true p211
         replace q211:=eq_true q211
         go_enter Tryd.func50,Tryd.ntmps50
         go_wp2_with (first|((with_reducible refine gate_dst (N:=5) rfl ?_);(try (refine gate_guard (by rfl) ?_;dsimp only));refine box_event ?hg (N:=5) ?hd (cs:=#[.int .i64 0,.string (⟨#[]⟩:ByteArray),.int .i64 0,.int .i64 0,.int .i64 0]) (t:=60) ?hr ?_;(case hd => rfl);(case hg => rfl);(case hr => first|(go_simp;done)|(go_simp;rfl));intro gb212 hg w57 hbox hb;have n0_:=Aside0.mk (below_step bl_ hb);have n1_:=Aside0.mk (hbox);have n2_:=Aside0.mk ((by rw [hg];exact (below_size bl_):w.heap.size≤gb212));have n3_:=Aside0.mk ((by rw [hg];exact (below_size bl_):w.heap.size≤gb212));clear HB;have HB:=n0_;have BK212:=n1_;have GW212:=n2_;have GE212:=n3_;clear n0_ n1_ n2_ n3_;clear hb hbox hg;obtain ⟨hcz58_0,hcz58_1,hcz58_2,hcz58_3,hcz58_4⟩:=blc5_ BK212.out;have hfz58_0:=blk_frozen BK212.out 0;have hfz58_1:=blk_frozen BK212.out 1;have hfz58_2:=blk_frozen BK212.out 2;have hfz58_3:=blk_frozen BK212.out 3;have hfz58_4:=blk_frozen BK212.out 4)|((with_reducible refine gate_store (t:=60) (p:=5) rfl ?_);refine store_event (t:=60) (p:=5) (v:=?vo_w59) (w1:=(((((w57.setCell ⟨gb212,0,none⟩ (.int .i64 ((rd_T60 l0 a1).f0))).setCell ⟨gb212,1,none⟩ (.string ((rd_T60 l0 a1).f1))).setCell ⟨gb212,2,none⟩ (.int .i64 ((rd_T60 l0 a1).f2))).setCell ⟨gb212,3,none⟩ (.int .i64 ((rd_T60 l0 a1).f3))).setCell ⟨gb212,4,none⟩ (.int .i64 ((rd_T60 l0 a1).f4)))) ?hg ?ho ?hn ?hr ?_;(case ho => rfl);(case hg => rfl);(case hn => rfl);(case hr => first|(go_simp;done)|(go_simp;rfl));intro w59 hw;have n0_:Aside0 (w59.heap[gb212]?=some (.cells #[.int .i64 ((rd_T60 l0 a1).f0),.string ((rd_T60 l0 a1).f1),.int .i64 ((rd_T60 l0 a1).f2),.int .i64 ((rd_T60 l0 a1).f3),.int .i64 ((rd_T60 l0 a1).f4)] 60 (0,0))):=⟨(by rw [hw];exact (st5_ BK212.out))⟩;have n1_:Aside0 (Below w.heap.size w w59):=⟨(by rw [hw];exact bl_)⟩;clear hw;clear BK212;clear HB;have BK212:=n0_;have HB:=n1_;clear n0_ n1_;obtain ⟨hcz60_0,hcz60_1,hcz60_2,hcz60_3,hcz60_4⟩:=blc5_ BK212.out;have hfz60_0:=blk_frozen BK212.out 0;have hfz60_1:=blk_frozen BK212.out 1;have hfz60_2:=blk_frozen BK212.out 2;have hfz60_3:=blk_frozen BK212.out 3;have hfz60_4:=blk_frozen BK212.out 4)|(refine callA_ (f:=62) (some 14) Tryd.func62 #[.agg #[.int .i64 ((rd_T60 l0 a1).f0),.string ((rd_T60 l0 a1).f1),.int .i64 ((rd_T60 l0 a1).f2),.int .i64 ((rd_T60 l0 a1).f3),.int .i64 ((rd_T60 l0 a1).f4)]] ?_;(with_reducible refine (understudyref04_bare.calls k ((rd_T60 l0 a1).f0) ((rd_T60 l0 a1).f1) ((rd_T60 l0 a1).f2) ((rd_T60 l0 a1).f3) ((rd_T60 l0 a1).f4) true _ A5.out).mono ?_);rintro e w61 ⟨rfl,hb⟩;refine ⟨_,rfl,?_⟩;have n0_:=Aside0.mk (blk_below (g:=gb212) (o:=.cells #[.int .i64 ((rd_T60 l0 a1).f0),.string ((rd_T60 l0 a1).f1),.int .i64 ((rd_T60 l0 a1).f2),.int .i64 ((rd_T60 l0 a1).f3),.int .i64 ((rd_T60 l0 a1).f4)] 60 (0,0)) bk_ hb);have n1_:=Aside0.mk (below_step bl_ hb);clear BK212;clear HB;have BK212:=n0_;have HB:=n1_;clear n0_ n1_;(try clear hb);(try clear hb2);(try clear hk);(try clear hi);obtain ⟨hcz62_0,hcz62_1,hcz62_2,hcz62_3,hcz62_4⟩:=blc5_ BK212.out;have hfz62_0:=blk_frozen BK212.out 0;have hfz62_1:=blk_frozen BK212.out 1;have hfz62_2:=blk_frozen BK212.out 2;have hfz62_3:=blk_frozen BK212.out 3;have hfz62_4:=blk_frozen BK212.out 4)|(refine callA_ (f:=63) (some 50) Tryd.func63 #[.slice (some ad211) l0.length c0,.int .i64 ((rd_T60 l0 a1).f3),.int .i64 1] ?_;(with_reducible refine (understudyref04_is.calls _ _ l0 ((rd_T60 l0 a1).f3) 1 false _ ?side1 ?side2 A49.out).mono ?_);(case side1 => exact kc_ (Kd.C_below HR0.out HB.out));(case side2 => exact HC0.out);rintro e w' ⟨rfl,⟨nd,rfl⟩⟩;refine ⟨_,rfl,?_⟩))
         go_ret
         exact ⟨ew_,bl_⟩
       ·rw [if_neg c48] at H
        have c48b0:(((rd_T60 l0 a1).f0)==7)=false:=beq_eq_false_iff_ne.mpr c48
        have c48b1:(((rd_T60 l0 a1).f0) != 7)=true:=bne_iff_ne.mpr c48
        by_cases c63:((rd_T60 l0 a1).f0)=12
        ·rw [if_pos c63] at H
         have c63b0:(((rd_T60 l0 a1).f0)==12)=true:=beq_iff_eq.mpr c63
         have c63b1:(((rd_T60 l0 a1).f0) != 12)=false:=bne_eq_false_iff_eq.mpr c63
         clear c63
         replace H:=Option.bind_eq_some_iff.mp H
         obtain ⟨t219,A640,H⟩:=H
         try dsimp only at H
         have A64:=Aside0.mk A640
         clear A640
         by_cases c65:t219=true
         ·subst c65
          rw [if_pos rfl] at H
          replace H:=Option.bind_eq_some_iff.mp H
          obtain ⟨t220,A660,H⟩:=H
          try dsimp only at H
          have A66:=Aside0.mk A660
          clear A660
          by_cases c67:t220=true
          ·subst c67
           rw [if_pos rfl] at H
           obtain rfl:=Option.some.inj H
           have p211:0≤(a1:Int):=od_
           have q211:a1 < (l0.length:Int):=od_
           obtain ⟨ad211,e211,hx211_0,hx211_1,hx211_2,hx211_3,hx211_4⟩:=at_T60 HR0.out a1 p211 q211
           cases e211
           replace p211:=eq_true p211
           replace q211:=eq_true q211
           go_enter Tryd.func50,Tryd.ntmps50
           go_wp2_with (first|((with_reducible refine gate_dst (N:=5) rfl ?_);(try (refine gate_guard (by rfl) ?_;dsimp only));refine box_event ?hg (N:=5) ?hd (cs:=#[.int .i64 0,.string (⟨#[]⟩:ByteArray),.int .i64 0,.int .i64 0,.int .i64 0]) (t:=60) ?hr ?_;(case hd => rfl);(case hg => rfl);(case hr => first|(go_simp;done)|(go_simp;rfl));intro gb212 hg w68 hbox hb;have n0_:=Aside0.mk (below_step bl_ hb);have n1_:=Aside0.mk (hbox);have n2_:=Aside0.mk ((by rw [hg];exact (below_size bl_):w.heap.size≤gb212));have n3_:=Aside0.mk ((by rw [hg];exact (below_size bl_):w.heap.size≤gb212));clear HB;have HB:=n0_;have BK212:=n1_;have GW212:=n2_;have GE212:=n3_;clear n0_ n1_ n2_ n3_;clear hb hbox hg;obtain ⟨hcz69_0,hcz69_1,hcz69_2,hcz69_3,hcz69_4⟩:=blc5_ BK212.out;have hfz69_0:=blk_frozen BK212.out 0;have hfz69_1:=blk_frozen BK212.out 1;have hfz69_2:=blk_frozen BK212.out 2;have hfz69_3:=blk_frozen BK212.out 3;have hfz69_4:=blk_frozen BK212.out 4)|((with_reducible refine gate_store (t:=60) (p:=5) rfl ?_);refine store_event (t:=60) (p:=5) (v:=?vo_w70) (w1:=(((((w68.setCell ⟨gb212,0,none⟩ (.int .i64 ((rd_T60 l0 a1).f0))).setCell ⟨gb212,1,none⟩ (.string ((rd_T60 l0 a1).f1))).setCell ⟨gb212,2,none⟩ (.int .i64 ((rd_T60 l0 a1).f2))).setCell ⟨gb212,3,none⟩ (.int .i64 ((rd_T60 l0 a1).f3))).setCell ⟨gb212,4,none⟩ (.int .i64 ((rd_T60 l0 a1).f4)))) ?hg ?ho ?hn ?hr ?_;(case ho => rfl);(case hg => rfl);(case hn => rfl);(case hr => first|(go_simp;done)|(go_simp;rfl));intro w70 hw;have n0_:Aside0 (w70.heap[gb212]?=some (.cells #[.int .i64 ((rd_T60 l0 a1).f0),.string ((rd_T60 l0 a1).f1),.int .i64 ((rd_T60 l0 a1).f2),.int .i64 ((rd_T60 l0 a1).f3),.int .i64 ((rd_T60 l0 a1).f4)] 60 (0,0))):=⟨(by rw [hw];exact (st5_ BK212.out))⟩;have n1_:Aside0 (Below w.heap.size w w70):=⟨(by rw [hw];exact bl_)⟩;clear hw;clear BK212;clear HB;have BK212:=n0_;have HB:=n1_;clear n0_ n1_;obtain ⟨hcz71_0,hcz71_1,hcz71_2,hcz71_3,hcz71_4⟩:=blc5_ BK212.out;have hfz71_0:=blk_frozen BK212.out 0;have hfz71_1:=blk_frozen BK212.out 1;have hfz71_2:=blk_frozen BK212.out 2;have hfz71_3:=blk_frozen BK212.out 3;have hfz71_4:=blk_frozen BK212.out 4)|(refine callA_ (f:=62) (some 14) Tryd.func62 #[.agg #[.int .i64 ((rd_T60 l0 a1).f0),.string ((rd_T60 l0 a1).f1),.int .i64 ((rd_T60 l0 a1).f2),.int .i64 ((rd_T60 l0 a1).f3),.int .i64 ((rd_T60 l0 a1).f4)]] ?_;(with_reducible refine (understudyref04_bare.calls k ((rd_T60 l0 a1).f0) ((rd_T60 l0 a1).f1) ((rd_T60 l0 a1).f2) ((rd_T60 l0 a1).f3) ((rd_T60 l0 a1).f4) true _ A5.out).mono ?_);rintro e w72 ⟨rfl,hb⟩;refine ⟨_,rfl,?_⟩;have n0_:=Aside0.mk (blk_below (g:=gb212) (o:=.cells #[.int .i64 ((rd_T60 l0 a1).f0),.string ((rd_T60 l0 a1).f1),.int .i64 ((rd_T60 l0 a1).f2),.int .i64 ((rd_T60 l0 a1).f3),.int .i64 ((rd_T60 l0 a1).f4)] 60 (0,0)) bk_ hb);have n1_:=Aside0.mk (below_step bl_ hb);clear BK212;clear HB;have BK212:=n0_;have HB:=n1_;clear n0_ n1_;(try clear hb);(try clear hb2);(try clear hk);(try clear hi);obtain ⟨hcz73_0,hcz73_1,hcz73_2,hcz73_3,hcz73_4⟩:=blc5_ BK212.out;have hfz73_0:=blk_frozen BK212.out 0;have hfz73_1:=blk_frozen BK212.out 1;have hfz73_2:=blk_frozen BK212.out 2;have hfz73_3:=blk_frozen BK212.out 3;have hfz73_4:=blk_frozen BK212.out 4)|(refine callA_ (f:=63) (some 56) Tryd.func63 #[.slice (some ad211) l0.length c0,.int .i64 ((rd_T60 l0 a1).f3),.int .i64 1] ?_;(with_reducible refine (understudyref04_is.calls _ _ l0 ((rd_T60 l0 a1).f3) 1 true _ ?side1 ?side2 A64.out).mono ?_);(case side1 => exact kc_ (Kd.C_below HR0.out HB.out));(case side2 => exact HC0.out);rintro e w' ⟨rfl,⟨nd,rfl⟩⟩;refine ⟨_,rfl,?_⟩)|(go_at_call 63;(with_reducible refine (understudyref04_is.calls _ _ l0 ((rd_T60 l0 a1).f4) 1 true _ ?side1 ?side2 A66.out).mono ?_);(case side1 => exact kc_ (Kd.C_below HR0.out bl_));(case side2 => exact HC0.out);rintro e w' ⟨rfl,⟨nd,rfl⟩⟩))
           go_ret
           exact ⟨ew_,bl_⟩
          ·replace c67:=Bool.eq_false_iff.mpr c67
           subst c67
           rw [if_neg (show ¬ (false=true) by decide)] at H
           obtain rfl:=Option.some.inj H
           have p211:0≤(a1:Int):=od_
           have q211:a1 < (l0.length:Int):=od_
           obtain ⟨ad211,e211,hx211_0,hx211_1,hx211_2,hx211_3,hx211_4⟩:=at_T60 HR0.out a1 p211 q211
           cases e211
           replace p211:=eq_true p211
           replace q211:=eq_true q211
           go_enter Tryd.func50,Tryd.ntmps50
           go_wp2_with (first|((with_reducible refine gate_dst (N:=5) rfl ?_);(try (refine gate_guard (by rfl) ?_;dsimp only));refine box_event ?hg (N:=5) ?hd (cs:=#[.int .i64 0,.string (⟨#[]⟩:ByteArray),.int .i64 0,.int .i64 0,.int .i64 0]) (t:=60) ?hr ?_;(case hd => rfl);(case hg => rfl);(case hr => first|(go_simp;done)|(go_simp;rfl));intro gb212 hg w74 hbox hb;have n0_:=Aside0.mk (below_step bl_ hb);have n1_:=Aside0.mk (hbox);have n2_:=Aside0.mk ((by rw [hg];exact (below_size bl_):w.heap.size≤gb212));have n3_:=Aside0.mk ((by rw [hg];exact (below_size bl_):w.heap.size≤gb212));clear HB;have HB:=n0_;have BK212:=n1_;have GW212:=n2_;have GE212:=n3_;clear n0_ n1_ n2_ n3_;clear hb hbox hg;obtain ⟨hcz75_0,hcz75_1,hcz75_2,hcz75_3,hcz75_4⟩:=blc5_ BK212.out;have hfz75_0:=blk_frozen BK212.out 0;have hfz75_1:=blk_frozen BK212.out 1;have hfz75_2:=blk_frozen BK212.out 2;have hfz75_3:=blk_frozen BK212.out 3;have hfz75_4:=blk_frozen BK212.out 4)|((with_reducible refine gate_store (t:=60) (p:=5) rfl ?_);refine store_event (t:=60) (p:=5) (v:=?vo_w76) (w1:=(((((w74.setCell ⟨gb212,0,none⟩ (.int .i64 ((rd_T60 l0 a1).f0))).setCell ⟨gb212,1,none⟩ (.string ((rd_T60 l0 a1).f1))).setCell ⟨gb212,2,none⟩ (.int .i64 ((rd_T60 l0 a1).f2))).setCell ⟨gb212,3,none⟩ (.int .i64 ((rd_T60 l0 a1).f3))).setCell ⟨gb212,4,none⟩ (.int .i64 ((rd_T60 l0 a1).f4)))) ?hg ?ho ?hn ?hr ?_;(case ho => rfl);(case hg => rfl);(case hn => rfl);(case hr => first|(go_simp;done)|(go_simp;rfl));intro w76 hw;have n0_:Aside0 (w76.heap[gb212]?=some (.cells #[.int .i64 ((rd_T60 l0 a1).f0),.string ((rd_T60 l0 a1).f1),.int .i64 ((rd_T60 l0 a1).f2),.int .i64 ((rd_T60 l0 a1).f3),.int .i64 ((rd_T60 l0 a1).f4)] 60 (0,0))):=⟨(by rw [hw];exact (st5_ BK212.out))⟩;have n1_:Aside0 (Below w.heap.size w w76):=⟨(by rw [hw];exact bl_)⟩;clear hw;clear BK212;clear HB;have BK212:=n0_;have HB:=n1_;clear n0_ n1_;obtain ⟨hcz77_0,hcz77_1,hcz77_2,hcz77_3,hcz77_4⟩:=blc5_ BK212.out;have hfz77_0:=blk_frozen BK212.out 0;have hfz77_1:=blk_frozen BK212.out 1;have hfz77_2:=blk_frozen BK212.out 2;have hfz77_3:=blk_frozen BK212.out 3;have hfz77_4:=blk_frozen BK212.out 4)|(refine callA_ (f:=62) (some 14) Tryd.func62 #[.agg #[.int .i64 ((rd_T60 l0 a1).f0),.string ((rd_T60 l0 a1).f1),.int .i64 ((rd_T60 l0 a1).f2),.int .i64 ((rd_T60 l0 a1).f3),.int .i64 ((rd_T60 l0 a1).f4)]] ?_;(with_reducible refine (understudyref04_bare.calls k ((rd_T60 l0 a1).f0) ((rd_T60 l0 a1).f1) ((rd_T60 l0 a1).f2) ((rd_T60 l0 a1).f3) ((rd_T60 l0 a1).f4) true _ A5.out).mono ?_);rintro e w78 ⟨rfl,hb⟩;refine ⟨_,rfl,?_⟩;have n0_:=Aside0.mk (blk_below (g:=gb212) (o:=.cells #[.int .i64 ((rd_T60 l0 a1).f0),.string ((rd_T60 l0 a1).f1),.int .i64 ((rd_T60 l0 a1).f2),.int .i64 ((rd_T60 l0 a1).f3),.int .i64 ((rd_T60 l0 a1).f4)] 60 (0,0)) bk_ hb);have n1_:=Aside0.mk (below_step bl_ hb);clear BK212;clear HB;have BK212:=n0_;have HB:=n1_;clear n0_ n1_;(try clear hb);(try clear hb2);(try clear hk);(try clear hi);obtain ⟨hcz79_0,hcz79_1,hcz79_2,hcz79_3,hcz79_4⟩:=blc5_ BK212.out;have hfz79_0:=blk_frozen BK212.out 0;have hfz79_1:=blk_frozen BK212.out 1;have hfz79_2:=blk_frozen BK212.out 2;have hfz79_3:=blk_frozen BK212.out 3;have hfz79_4:=blk_frozen BK212.out 4)|(refine callA_ (f:=63) (some 56) Tryd.func63 #[.slice (some ad211) l0.length c0,.int .i64 ((rd_T60 l0 a1).f3),.int .i64 1] ?_;(with_reducible refine (understudyref04_is.calls _ _ l0 ((rd_T60 l0 a1).f3) 1 true _ ?side1 ?side2 A64.out).mono ?_);(case side1 => exact kc_ (Kd.C_below HR0.out HB.out));(case side2 => exact HC0.out);rintro e w' ⟨rfl,⟨nd,rfl⟩⟩;refine ⟨_,rfl,?_⟩)|(go_at_call 63;(with_reducible refine (understudyref04_is.calls _ _ l0 ((rd_T60 l0 a1).f4) 1 false _ ?side1 ?side2 A66.out).mono ?_);(case side1 => exact kc_ (Kd.C_below HR0.out bl_));(case side2 => exact HC0.out);rintro e w' ⟨rfl,⟨nd,rfl⟩⟩))
           go_ret
           exact ⟨ew_,bl_⟩
         ·replace c65:=Bool.eq_false_iff.mpr c65
          subst c65
          rw [if_neg (show ¬ (false=true) by decide)] at H
          obtain rfl:=Option.some.inj H
          have p211:0≤(a1:Int):=od_
          have q211:a1 < (l0.length:Int):=od_
          obtain ⟨ad211,e211,hx211_0,hx211_1,hx211_2,hx211_3,hx211_4⟩:=at_T60 HR0.out a1 p211 q211
          cases e211
          replace p211:=eq_true p211
          replace q211:=eq_true q211
          go_enter Tryd.func50,Tryd.ntmps50
          go_wp2_with (first|((with_reducible refine gate_dst (N:=5) rfl ?_);(try (refine gate_guard (by rfl) ?_;dsimp only));refine box_event ?hg (N:=5) ?hd (cs:=#[.int .i64 0,.string (⟨#[]⟩:ByteArray),.int .i64 0,.int .i64 0,.int .i64 0]) (t:=60) ?hr ?_;(case hd => rfl);(case hg => rfl);(case hr => first|(go_simp;done)|(go_simp;rfl));intro gb212 hg w80 hbox hb;have n0_:=Aside0.mk (below_step bl_ hb);have n1_:=Aside0.mk (hbox);have n2_:=Aside0.mk ((by rw [hg];exact (below_size bl_):w.heap.size≤gb212));have n3_:=Aside0.mk ((by rw [hg];exact (below_size bl_):w.heap.size≤gb212));clear HB;have HB:=n0_;have BK212:=n1_;have GW212:=n2_;have GE212:=n3_;clear n0_ n1_ n2_ n3_;clear hb hbox hg;obtain ⟨hcz81_0,hcz81_1,hcz81_2,hcz81_3,hcz81_4⟩:=blc5_ BK212.out;have hfz81_0:=blk_frozen BK212.out 0;have hfz81_1:=blk_frozen BK212.out 1;have hfz81_2:=blk_frozen BK212.out 2;have hfz81_3:=blk_frozen BK212.out 3;have hfz81_4:=blk_frozen BK212.out 4)|((with_reducible refine gate_store (t:=60) (p:=5) rfl ?_);refine store_event (t:=60) (p:=5) (v:=?vo_w82) (w1:=(((((w80.setCell ⟨gb212,0,none⟩ (.int .i64 ((rd_T60 l0 a1).f0))).setCell ⟨gb212,1,none⟩ (.string ((rd_T60 l0 a1).f1))).setCell ⟨gb212,2,none⟩ (.int .i64 ((rd_T60 l0 a1).f2))).setCell ⟨gb212,3,none⟩ (.int .i64 ((rd_T60 l0 a1).f3))).setCell ⟨gb212,4,none⟩ (.int .i64 ((rd_T60 l0 a1).f4)))) ?hg ?ho ?hn ?hr ?_;(case ho => rfl);(case hg => rfl);(case hn => rfl);(case hr => first|(go_simp;done)|(go_simp;rfl));intro w82 hw;have n0_:Aside0 (w82.heap[gb212]?=some (.cells #[.int .i64 ((rd_T60 l0 a1).f0),.string ((rd_T60 l0 a1).f1),.int .i64 ((rd_T60 l0 a1).f2),.int .i64 ((rd_T60 l0 a1).f3),.int .i64 ((rd_T60 l0 a1).f4)] 60 (0,0))):=⟨(by rw [hw];exact (st5_ BK212.out))⟩;have n1_:Aside0 (Below w.heap.size w w82):=⟨(by rw [hw];exact bl_)⟩;clear hw;clear BK212;clear HB;have BK212:=n0_;have HB:=n1_;clear n0_ n1_;obtain ⟨hcz83_0,hcz83_1,hcz83_2,hcz83_3,hcz83_4⟩:=blc5_ BK212.out;have hfz83_0:=blk_frozen BK212.out 0;have hfz83_1:=blk_frozen BK212.out 1;have hfz83_2:=blk_frozen BK212.out 2;have hfz83_3:=blk_frozen BK212.out 3;have hfz83_4:=blk_frozen BK212.out 4)|(refine callA_ (f:=62) (some 14) Tryd.func62 #[.agg #[.int .i64 ((rd_T60 l0 a1).f0),.string ((rd_T60 l0 a1).f1),.int .i64 ((rd_T60 l0 a1).f2),.int .i64 ((rd_T60 l0 a1).f3),.int .i64 ((rd_T60 l0 a1).f4)]] ?_;(with_reducible refine (understudyref04_bare.calls k ((rd_T60 l0 a1).f0) ((rd_T60 l0 a1).f1) ((rd_T60 l0 a1).f2) ((rd_T60 l0 a1).f3) ((rd_T60 l0 a1).f4) true _ A5.out).mono ?_);rintro e w84 ⟨rfl,hb⟩;refine ⟨_,rfl,?_⟩;have n0_:=Aside0.mk (blk_below (g:=gb212) (o:=.cells #[.int .i64 ((rd_T60 l0 a1).f0),.string ((rd_T60 l0 a1).f1),.int .i64 ((rd_T60 l0 a1).f2),.int .i64 ((rd_T60 l0 a1).f3),.int .i64 ((rd_T60 l0 a1).f4)] 60 (0,0)) bk_ hb);have n1_:=Aside0.mk (below_step bl_ hb);clear BK212;clear HB;have BK212:=n0_;have HB:=n1_;clear n0_ n1_;(try clear hb);(try clear hb2);(try clear hk);(try clear hi);obtain ⟨hcz85_0,hcz85_1,hcz85_2,hcz85_3,hcz85_4⟩:=blc5_ BK212.out;have hfz85_0:=blk_frozen BK212.out 0;have hfz85_1:=blk_frozen BK212.out 1;have hfz85_2:=blk_frozen BK212.out 2;have hfz85_3:=blk_frozen BK212.out 3;have hfz85_4:=blk_frozen BK212.out 4)|(refine callA_ (f:=63) (some 56) Tryd.func63 #[.slice (some ad211) l0.length c0,.int .i64 ((rd_T60 l0 a1).f3),.int .i64 1] ?_;(with_reducible refine (understudyref04_is.calls _ _ l0 ((rd_T60 l0 a1).f3) 1 false _ ?side1 ?side2 A64.out).mono ?_);(case side1 => exact kc_ (Kd.C_below HR0.out HB.out));(case side2 => exact HC0.out);rintro e w' ⟨rfl,⟨nd,rfl⟩⟩;refine ⟨_,rfl,?_⟩))
          go_ret
          exact ⟨ew_,bl_⟩
        ·rw [if_neg c63] at H
         have c63b0:(((rd_T60 l0 a1).f0)==12)=false:=beq_eq_false_iff_ne.mpr c63
         have c63b1:(((rd_T60 l0 a1).f0) != 12)=true:=bne_iff_ne.mpr c63
         have HC86:=Aside0.mk H
         clear H
         have p211:0≤(a1:Int):=od_
         have q211:a1 < (l0.length:Int):=od_
         obtain ⟨ad211,e211,hx211_0,hx211_1,hx211_2,hx211_3,hx211_4⟩:=at_T60 HR0.out a1 p211 q211
         cases e211
         replace p211:=eq_true p211
         replace q211:=eq_true q211
         go_enter Tryd.func50,Tryd.ntmps50
         go_upto_if 63 with (first|((with_reducible refine gate_dst (N:=5) rfl ?_);(try (refine gate_guard (by rfl) ?_;dsimp only));refine box_event ?hg (N:=5) ?hd (cs:=#[.int .i64 0,.string (⟨#[]⟩:ByteArray),.int .i64 0,.int .i64 0,.int .i64 0]) (t:=60) ?hr ?_;(case hd => rfl);(case hg => rfl);(case hr => first|(go_simp;done)|(go_simp;rfl));intro gb212 hg w87 hbox hb;have n0_:=Aside0.mk (below_step bl_ hb);have n1_:=Aside0.mk (hbox);have n2_:=Aside0.mk ((by rw [hg];exact (below_size bl_):w.heap.size≤gb212));have n3_:=Aside0.mk ((by rw [hg];exact (below_size bl_):w.heap.size≤gb212));clear HB;have HB:=n0_;have BK212:=n1_;have GW212:=n2_;have GE212:=n3_;clear n0_ n1_ n2_ n3_;clear hb hbox hg;obtain ⟨hcz88_0,hcz88_1,hcz88_2,hcz88_3,hcz88_4⟩:=blc5_ BK212.out;have hfz88_0:=blk_frozen BK212.out 0;have hfz88_1:=blk_frozen BK212.out 1;have hfz88_2:=blk_frozen BK212.out 2;have hfz88_3:=blk_frozen BK212.out 3;have hfz88_4:=blk_frozen BK212.out 4)|((with_reducible refine gate_store (t:=60) (p:=5) rfl ?_);refine store_event (t:=60) (p:=5) (v:=?vo_w89) (w1:=(((((w87.setCell ⟨gb212,0,none⟩ (.int .i64 ((rd_T60 l0 a1).f0))).setCell ⟨gb212,1,none⟩ (.string ((rd_T60 l0 a1).f1))).setCell ⟨gb212,2,none⟩ (.int .i64 ((rd_T60 l0 a1).f2))).setCell ⟨gb212,3,none⟩ (.int .i64 ((rd_T60 l0 a1).f3))).setCell ⟨gb212,4,none⟩ (.int .i64 ((rd_T60 l0 a1).f4)))) ?hg ?ho ?hn ?hr ?_;(case ho => rfl);(case hg => rfl);(case hn => rfl);(case hr => first|(go_simp;done)|(go_simp;rfl));intro w89 hw;have n0_:Aside0 (w89.heap[gb212]?=some (.cells #[.int .i64 ((rd_T60 l0 a1).f0),.string ((rd_T60 l0 a1).f1),.int .i64 ((rd_T60 l0 a1).f2),.int .i64 ((rd_T60 l0 a1).f3),.int .i64 ((rd_T60 l0 a1).f4)] 60 (0,0))):=⟨(by rw [hw];exact (st5_ BK212.out))⟩;have n1_:Aside0 (Below w.heap.size w w89):=⟨(by rw [hw];exact bl_)⟩;clear hw;clear BK212;clear HB;have BK212:=n0_;have HB:=n1_;clear n0_ n1_;obtain ⟨hcz90_0,hcz90_1,hcz90_2,hcz90_3,hcz90_4⟩:=blc5_ BK212.out;have hfz90_0:=blk_frozen BK212.out 0;have hfz90_1:=blk_frozen BK212.out 1;have hfz90_2:=blk_frozen BK212.out 2;have hfz90_3:=blk_frozen BK212.out 3;have hfz90_4:=blk_frozen BK212.out 4)|(refine callA_ (f:=62) (some 14) Tryd.func62 #[.agg #[.int .i64 ((rd_T60 l0 a1).f0),.string ((rd_T60 l0 a1).f1),.int .i64 ((rd_T60 l0 a1).f2),.int .i64 ((rd_T60 l0 a1).f3),.int .i64 ((rd_T60 l0 a1).f4)]] ?_;(with_reducible refine (understudyref04_bare.calls k ((rd_T60 l0 a1).f0) ((rd_T60 l0 a1).f1) ((rd_T60 l0 a1).f2) ((rd_T60 l0 a1).f3) ((rd_T60 l0 a1).f4) true _ A5.out).mono ?_);rintro e w91 ⟨rfl,hb⟩;refine ⟨_,rfl,?_⟩;have n0_:=Aside0.mk (blk_below (g:=gb212) (o:=.cells #[.int .i64 ((rd_T60 l0 a1).f0),.string ((rd_T60 l0 a1).f1),.int .i64 ((rd_T60 l0 a1).f2),.int .i64 ((rd_T60 l0 a1).f3),.int .i64 ((rd_T60 l0 a1).f4)] 60 (0,0)) bk_ hb);have n1_:=Aside0.mk (below_step bl_ hb);clear BK212;clear HB;have BK212:=n0_;have HB:=n1_;clear n0_ n1_;(try clear hb);(try clear hb2);(try clear hk);(try clear hi);obtain ⟨hcz92_0,hcz92_1,hcz92_2,hcz92_3,hcz92_4⟩:=blc5_ BK212.out;have hfz92_0:=blk_frozen BK212.out 0;have hfz92_1:=blk_frozen BK212.out 1;have hfz92_2:=blk_frozen BK212.out 2;have hfz92_3:=blk_frozen BK212.out 3;have hfz92_4:=blk_frozen BK212.out 4))
         (try simp only [Act.put,List.setIfInBounds_toArray,List.set_cons_zero,List.set_cons_succ])
         go_cut [63] (fun v63 wc => ∃ (kq:Nat) (x63_85:Bool),v63=.bool x63_85∧Aside0 (understudyref04_one.j1 kq l0 x63_85 ((rd_T60 l0 a1).f0) ((rd_T60 l0 a1).f1) ((rd_T60 l0 a1).f2) ((rd_T60 l0 a1).f3) ((rd_T60 l0 a1).f4)=some r)∧Aside0 (kq≤k)∧Aside0 (wc.heap[gb212]?=some (.cells #[.int .i64 ((rd_T60 l0 a1).f0),.string ((rd_T60 l0 a1).f1),.int .i64 ((rd_T60 l0 a1).f2),.int .i64 ((rd_T60 l0 a1).f3),.int .i64 ((rd_T60 l0 a1).f4)] 60 (0,0)))∧Aside0 (Below w.heap.size w wc))
         case first =>
          have H:=HC86.out
          clear HC86
          by_cases c93:((rd_T60 l0 a1).f0)=9
          ·rw [if_pos c93] at H
           have c93b0:(((rd_T60 l0 a1).f0)==9)=true:=beq_iff_eq.mpr c93
           have c93b1:(((rd_T60 l0 a1).f0) != 9)=false:=bne_eq_false_iff_eq.mpr c93
           clear c93
           (first|rw [c93b0]|(simp only [i64_w,i32_w];rw [c93b0])|skip)
           have H':=Aside0.mk H
           clear H
           go_wp2
           go_meet
           case rel => exact ⟨_,((((rd_T60 l0 a1).f0)==9)),r3_,H',⟨by first|omega|exact Nat.le_refl _⟩,⟨bk_⟩,⟨bl_⟩⟩
          ·rw [if_neg c93] at H
           have c93b0:(((rd_T60 l0 a1).f0)==9)=false:=beq_eq_false_iff_ne.mpr c93
           have c93b1:(((rd_T60 l0 a1).f0) != 9)=true:=bne_iff_ne.mpr c93
           (first|rw [c93b0]|(simp only [i64_w,i32_w];rw [c93b0])|skip)
           have H':=Aside0.mk H
           clear H
           go_wp2
           go_meet
           case rel => exact ⟨_,((((rd_T60 l0 a1).f0)==10)),r3_,H',⟨by first|omega|exact Nat.le_refl _⟩,⟨bk_⟩,⟨bl_⟩⟩
         case rest =>
          clear HC86
          try clear c7;try clear c7b0;try clear c7b1;try clear c20;try clear c20b0;try clear c20b1;try clear c41;try clear c41b0;try clear c41b1;try clear c48;try clear c48b0;try clear c48b1;try clear c63;try clear c63b0;try clear c63b1;try clear hcz88_0;try clear hcz88_1;try clear hcz88_2;try clear hcz88_3;try clear hcz88_4;try clear hcz90_0;try clear hcz90_1;try clear hcz90_2;try clear hcz90_3;try clear hcz90_4;try clear hcz92_0;try clear hcz92_1;try clear hcz92_2;try clear hcz92_3;try clear hcz92_4;try clear hfz88_0;try clear hfz88_1;try clear hfz88_2;try clear hfz88_3;try clear hfz88_4;try clear hfz90_0;try clear hfz90_1;try clear hfz90_2;try clear hfz90_3;try clear hfz90_4;try clear hfz92_0;try clear hfz92_1;try clear hfz92_2;try clear hfz92_3;try clear hfz92_4;try clear hx211_0;try clear hx211_1;try clear hx211_2;try clear hx211_3;try clear hx211_4;try clear p211;try clear q211
          obtain ⟨kq,x63_85,rfl,HA,HJ85,BK212,HB⟩:=hcut
          cases kq with
          | zero => exact absurd HA.out (by simp [understudyref04_one.j1])
          | succ kj85 =>
           have H:=HA.out
           clear HA
           simp only [understudyref04_one.j1] at H
           by_cases c94:x63_85=true
           ·subst c94
            rw [if_pos rfl] at H
            replace H:=Option.bind_eq_some_iff.mp H
            obtain ⟨t221,A950,H⟩:=H
            try dsimp only at H
            have A95:=Aside0.mk A950
            clear A950
            by_cases c96:t221=true
            ·subst c96
             rw [if_pos rfl] at H
             replace H:=Option.bind_eq_some_iff.mp H
             obtain ⟨t222,A970,H⟩:=H
             try dsimp only at H
             have A97:=Aside0.mk A970
             clear A970
             by_cases c98:t222=true
             ·subst c98
              rw [if_pos rfl] at H
              obtain rfl:=Option.some.inj H
              obtain ⟨hcz99_0,hcz99_1,hcz99_2,hcz99_3,hcz99_4,hfz99_0,hfz99_1,hfz99_2,hfz99_3,hfz99_4⟩:=blk5_ BK212.out
              go_wp2_with (first|(refine callA_ (f:=63) (some 69) Tryd.func63 #[.slice (some ad211) l0.length c0,.int .i64 ((rd_T60 l0 a1).f3),.int .i64 7] ?_;(with_reducible refine (understudyref04_is.calls _ _ l0 ((rd_T60 l0 a1).f3) 7 true _ ?side1 ?side2 A95.out).mono ?_);(case side1 => exact kc_ (Kd.C_below HR0.out HB.out));(case side2 => exact HC0.out);rintro e w' ⟨rfl,⟨nd,rfl⟩⟩;refine ⟨_,rfl,?_⟩)|(go_at_call 63;(with_reducible refine (understudyref04_is.calls _ _ l0 ((rd_T60 l0 a1).f4) 12 true _ ?side1 ?side2 A97.out).mono ?_);(case side1 => exact kc_ (Kd.C_below HR0.out bl_));(case side2 => exact HC0.out);rintro e w' ⟨rfl,⟨nd,rfl⟩⟩))
              go_ret
              exact ⟨ew_,bl_⟩
             ·replace c98:=Bool.eq_false_iff.mpr c98
              subst c98
              rw [if_neg (show ¬ (false=true) by decide)] at H
              obtain rfl:=Option.some.inj H
              obtain ⟨hcz100_0,hcz100_1,hcz100_2,hcz100_3,hcz100_4,hfz100_0,hfz100_1,hfz100_2,hfz100_3,hfz100_4⟩:=blk5_ BK212.out
              go_wp2_with (first|(refine callA_ (f:=63) (some 69) Tryd.func63 #[.slice (some ad211) l0.length c0,.int .i64 ((rd_T60 l0 a1).f3),.int .i64 7] ?_;(with_reducible refine (understudyref04_is.calls _ _ l0 ((rd_T60 l0 a1).f3) 7 true _ ?side1 ?side2 A95.out).mono ?_);(case side1 => exact kc_ (Kd.C_below HR0.out HB.out));(case side2 => exact HC0.out);rintro e w' ⟨rfl,⟨nd,rfl⟩⟩;refine ⟨_,rfl,?_⟩)|(go_at_call 63;(with_reducible refine (understudyref04_is.calls _ _ l0 ((rd_T60 l0 a1).f4) 12 false _ ?side1 ?side2 A97.out).mono ?_);(case side1 => exact kc_ (Kd.C_below HR0.out bl_));(case side2 => exact HC0.out);rintro e w' ⟨rfl,⟨nd,rfl⟩⟩))
              go_ret
              exact ⟨ew_,bl_⟩
            ·replace c96:=Bool.eq_false_iff.mpr c96
             subst c96
             rw [if_neg (show ¬ (false=true) by decide)] at H
             obtain rfl:=Option.some.inj H
             obtain ⟨hcz101_0,hcz101_1,hcz101_2,hcz101_3,hcz101_4,hfz101_0,hfz101_1,hfz101_2,hfz101_3,hfz101_4⟩:=blk5_ BK212.out
             go_wp2_with (first|(refine callA_ (f:=63) (some 69) Tryd.func63 #[.slice (some ad211) l0.length c0,.int .i64 ((rd_T60 l0 a1).f3),.int .i64 7] ?_;(with_reducible refine (understudyref04_is.calls _ _ l0 ((rd_T60 l0 a1).f3) 7 false _ ?side1 ?side2 A95.out).mono ?_);(case side1 => exact kc_ (Kd.C_below HR0.out HB.out));(case side2 => exact HC0.out);rintro e w' ⟨rfl,⟨nd,rfl⟩⟩;refine ⟨_,rfl,?_⟩))
             go_ret
             exact ⟨ew_,bl_⟩
           ·replace c94:=Bool.eq_false_iff.mpr c94
            subst c94
            rw [if_neg (show ¬ (false=true) by decide)] at H
            obtain rfl:=Option.some.inj H
            go_wp2
            go_ret
            exact ⟨ew_,bl_⟩
   ·replace c6:=Bool.eq_false_iff.mpr c6
    subst c6
    rw [if_neg (show ¬ (false=true) by decide)] at H
    obtain rfl:=Option.some.inj H
    have p211:0≤(a1:Int):=od_
    have q211:a1 < (l0.length:Int):=od_
    obtain ⟨ad211,e211,hx211_0,hx211_1,hx211_2,hx211_3,hx211_4⟩:=at_T60 HR0.out a1 p211 q211
    cases e211
    replace p211:=eq_true p211
    replace q211:=eq_true q211
    go_enter Tryd.func50,Tryd.ntmps50
    go_wp2_with (first|((with_reducible refine gate_dst (N:=5) rfl ?_);(try (refine gate_guard (by rfl) ?_;dsimp only));refine box_event ?hg (N:=5) ?hd (cs:=#[.int .i64 0,.string (⟨#[]⟩:ByteArray),.int .i64 0,.int .i64 0,.int .i64 0]) (t:=60) ?hr ?_;(case hd => rfl);(case hg => rfl);(case hr => first|(go_simp;done)|(go_simp;rfl));intro gb212 hg w102 hbox hb;have n0_:=Aside0.mk (below_step bl_ hb);have n1_:=Aside0.mk (hbox);have n2_:=Aside0.mk ((by rw [hg];exact (below_size bl_):w.heap.size≤gb212));have n3_:=Aside0.mk ((by rw [hg];exact (below_size bl_):w.heap.size≤gb212));clear HB;have HB:=n0_;have BK212:=n1_;have GW212:=n2_;have GE212:=n3_;clear n0_ n1_ n2_ n3_;clear hb hbox hg;obtain ⟨hcz103_0,hcz103_1,hcz103_2,hcz103_3,hcz103_4⟩:=blc5_ BK212.out;have hfz103_0:=blk_frozen BK212.out 0;have hfz103_1:=blk_frozen BK212.out 1;have hfz103_2:=blk_frozen BK212.out 2;have hfz103_3:=blk_frozen BK212.out 3;have hfz103_4:=blk_frozen BK212.out 4)|((with_reducible refine gate_store (t:=60) (p:=5) rfl ?_);refine store_event (t:=60) (p:=5) (v:=?vo_w104) (w1:=(((((w102.setCell ⟨gb212,0,none⟩ (.int .i64 ((rd_T60 l0 a1).f0))).setCell ⟨gb212,1,none⟩ (.string ((rd_T60 l0 a1).f1))).setCell ⟨gb212,2,none⟩ (.int .i64 ((rd_T60 l0 a1).f2))).setCell ⟨gb212,3,none⟩ (.int .i64 ((rd_T60 l0 a1).f3))).setCell ⟨gb212,4,none⟩ (.int .i64 ((rd_T60 l0 a1).f4)))) ?hg ?ho ?hn ?hr ?_;(case ho => rfl);(case hg => rfl);(case hn => rfl);(case hr => first|(go_simp;done)|(go_simp;rfl));intro w104 hw;have n0_:Aside0 (w104.heap[gb212]?=some (.cells #[.int .i64 ((rd_T60 l0 a1).f0),.string ((rd_T60 l0 a1).f1),.int .i64 ((rd_T60 l0 a1).f2),.int .i64 ((rd_T60 l0 a1).f3),.int .i64 ((rd_T60 l0 a1).f4)] 60 (0,0))):=⟨(by rw [hw];exact (st5_ BK212.out))⟩;have n1_:Aside0 (Below w.heap.size w w104):=⟨(by rw [hw];exact bl_)⟩;clear hw;clear BK212;clear HB;have BK212:=n0_;have HB:=n1_;clear n0_ n1_;obtain ⟨hcz105_0,hcz105_1,hcz105_2,hcz105_3,hcz105_4⟩:=blc5_ BK212.out;have hfz105_0:=blk_frozen BK212.out 0;have hfz105_1:=blk_frozen BK212.out 1;have hfz105_2:=blk_frozen BK212.out 2;have hfz105_3:=blk_frozen BK212.out 3;have hfz105_4:=blk_frozen BK212.out 4)|(refine callA_ (f:=62) (some 14) Tryd.func62 #[.agg #[.int .i64 ((rd_T60 l0 a1).f0),.string ((rd_T60 l0 a1).f1),.int .i64 ((rd_T60 l0 a1).f2),.int .i64 ((rd_T60 l0 a1).f3),.int .i64 ((rd_T60 l0 a1).f4)]] ?_;(with_reducible refine (understudyref04_bare.calls k ((rd_T60 l0 a1).f0) ((rd_T60 l0 a1).f1) ((rd_T60 l0 a1).f2) ((rd_T60 l0 a1).f3) ((rd_T60 l0 a1).f4) false _ A5.out).mono ?_);rintro e w106 ⟨rfl,hb⟩;refine ⟨_,rfl,?_⟩;have n0_:=Aside0.mk (blk_below (g:=gb212) (o:=.cells #[.int .i64 ((rd_T60 l0 a1).f0),.string ((rd_T60 l0 a1).f1),.int .i64 ((rd_T60 l0 a1).f2),.int .i64 ((rd_T60 l0 a1).f3),.int .i64 ((rd_T60 l0 a1).f4)] 60 (0,0)) bk_ hb);have n1_:=Aside0.mk (below_step bl_ hb);clear BK212;clear HB;have BK212:=n0_;have HB:=n1_;clear n0_ n1_;(try clear hb);(try clear hb2);(try clear hk);(try clear hi)))
    go_ret
    exact ⟨ew_,bl_⟩
  ·rw [if_neg c4] at H
   exact absurd H (by simp)
 ·rw [if_neg c3] at H
  exact absurd H (by simp)
end Go.Proofs.YtmloaijagkebpaaDoor.Px
namespace Go.Proofs.YtmloaijagkebpaaDoor.Px
open Go.RowKit Go.Proofs.YtmloaijagkebpaaDoorW.PrintWords Go.Proofs.YtmloaijagkebpaaDoorW.PrintLast Go.Proofs.YtmloaijagkebpaaDoorW.PrintMore
attribute [local go_sem] max2_int min2_int max_two min_two max_three min_three max_four min_four
set_option linter.unusedVariables false
set_option linter.unusedSimpArgs false
attribute [local go_sem high] eqA60
mutual
def understudyref04_Check.j0:Nat→List (S60)→Bool→Option (Int)
 | 0,_,_ => none
 | k + 1,x0,x17 => if x17=true then (some 40) else (understudyref04_Check.l0 k x0 1)
def understudyref04_Check.l0:Nat→List (S60)→Int→Option (Int)
 | 0,_,_ => none
 | k + 1,x0,x3 => if x3 < (x0.length:Int) then ((understudyref04_one.f k x0 x3).bind fun t224 => (if t224=0 then (understudyref04_Check.l0 k x0 (wrap64 (x3 + 1))) else (some t224))) else (some 0)
end
def understudyref04_Check.f (k:Nat) (l0:List (S60)):Option (Int):=if (l0.length:Int) > 1024 then (some 2) else (if (l0.length:Int)=0 then (understudyref04_Check.j0 k l0 true) else (if 0 < (l0.length:Int) then (understudyref04_Check.j0 k l0 (!(((rd_T60 l0 0).f0)==0) || (!((((rd_T60 l0 0).f1).toList)==([]:List UInt8)) || (!(((rd_T60 l0 0).f2)==0) || (!(((rd_T60 l0 0).f3)==0) || (!(((rd_T60 l0 0).f4)==0))))))) else (none)))
theorem understudyref04_Check.mono_l:∀ k,(∀ y0 y1,LeO (understudyref04_Check.j0 k y0 y1) (understudyref04_Check.j0 (k + 1) y0 y1))∧(∀ y0 y1,LeO (understudyref04_Check.l0 k y0 y1) (understudyref04_Check.l0 (k + 1) y0 y1))
 | 0 => ⟨fun _ _ r h => by simp [understudyref04_Check.j0] at h,fun _ _ r h => by simp [understudyref04_Check.l0] at h⟩
 | k + 1 => by
  obtain ⟨ih0,ih1⟩:=understudyref04_Check.mono_l k
  refine ⟨?_,?_⟩
  ·intro y0 y1
   unfold understudyref04_Check.j0
   repeat' first
   | (with_reducible exact ih0 _ _)
   | (with_reducible exact ih1 _ _)
   | (with_reducible exact understudyref04_one.mono _ _ _)
   | (with_reducible exact LeO.refl _)
   | (with_reducible exact LeO.none _)
   | (with_reducible refine LeO.ite ?_ ?_)
   | (with_reducible refine LeO.bind ?_ (fun _ => ?_))
   | exact ih0 _ _
   | exact ih1 _ _
   | exact understudyref04_one.mono _ _ _
   | exact LeO.none _
   | refine LeO.ite ?_ ?_
   | refine LeO.bind ?_ (fun _ => ?_)
  ·intro y0 y1
   unfold understudyref04_Check.l0
   repeat' first
   | (with_reducible exact ih0 _ _)
   | (with_reducible exact ih1 _ _)
   | (with_reducible exact understudyref04_one.mono _ _ _)
   | (with_reducible exact LeO.refl _)
   | (with_reducible exact LeO.none _)
   | (with_reducible refine LeO.ite ?_ ?_)
   | (with_reducible refine LeO.bind ?_ (fun _ => ?_))
   | exact ih0 _ _
   | exact ih1 _ _
   | exact understudyref04_one.mono _ _ _
   | exact LeO.none _
   | refine LeO.ite ?_ ?_
   | refine LeO.bind ?_ (fun _ => ?_)
theorem understudyref04_Check.mono:∀ a0 k,LeO (understudyref04_Check.f k a0) (understudyref04_Check.f (k + 1) a0):=by
 intro a0 k
 obtain ⟨ih0,ih1⟩:=understudyref04_Check.mono_l k
 unfold understudyref04_Check.f
 repeat' first
   | (with_reducible exact ih0 _ _)
   | (with_reducible exact ih1 _ _)
   | (with_reducible exact understudyref04_one.mono _ _ _)
   | (with_reducible exact LeO.refl _)
   | (with_reducible exact LeO.none _)
   | (with_reducible refine LeO.ite ?_ ?_)
   | (with_reducible refine LeO.bind ?_ (fun _ => ?_))
   | exact ih0 _ _
   | exact ih1 _ _
   | exact understudyref04_one.mono _ _ _
   | exact LeO.none _
   | refine LeO.ite ?_ ?_
   | refine LeO.bind ?_ (fun _ => ?_)
set_option maxHeartbeats 80000000 in
set_option maxRecDepth 100000 in
theorem understudyref04_Check.calls (k:Nat) (A0:Option Addr) (c0:Nat) (l0:List (S60)) (r:Int) (w:World) (hr0:Kd.C k60 w A0 l0.length l0) (hc0:l0.length≤c0) (h:understudyref04_Check.f k l0=some r) :
  Calls Tryd.prog 35 #[.slice A0 l0.length c0] w fun e w' => e=.returned (.int .i64 r)∧Below w.heap.size w w':=by
 have hu60:=Tryd.underlying60
 have HR0:=Aside0.mk hr0
 have HC0:=Aside0.mk hc0
 clear hr0 hc0
 have HB:=Aside0.mk (Below.refl w.heap.size w)
 have H:(if (l0.length:Int) > 1024 then (some 2) else (if (l0.length:Int)=0 then (understudyref04_Check.j0 k l0 true) else (if 0 < (l0.length:Int) then (understudyref04_Check.j0 k l0 (!(((rd_T60 l0 0).f0)==0) || (!((((rd_T60 l0 0).f1).toList)==([]:List UInt8)) || (!(((rd_T60 l0 0).f2)==0) || (!(((rd_T60 l0 0).f3)==0) || (!(((rd_T60 l0 0).f4)==0))))))) else (none))))=some r:=h
 clear h
 by_cases c2:(l0.length:Int) > 1024
 ·rw [if_pos c2] at H
  have c2b0:decide (1024 < (l0.length:Int))=true:=decide_eq_true c2
  have c2b1:decide (1024 < l0.length)=true:=decide_eq_true (by omega)
  clear c2
  obtain rfl:=Option.some.inj H
  go_enter Tryd.func35,Tryd.ntmps35
  go_wp2
  go_ret
  exact ⟨ew_,bl_⟩
 ·rw [if_neg c2] at H
  have c2b0:decide (1024 < (l0.length:Int))=false:=decide_eq_false c2
  have c2b1:decide (1024 < l0.length)=false:=decide_eq_false (by omega)
  clear c2
  have HC3:=Aside0.mk H
  clear H
  go_enter Tryd.func35,Tryd.ntmps35
  go_upto_region 3 with (fail)
  go_cut [17] (fun v17 wc => ∃ (kq:Nat) (x17_2:Bool),v17=.bool x17_2∧Aside0 (understudyref04_Check.j0 kq l0 x17_2=some r)∧Aside0 (kq≤k)∧Aside0 (Below w.heap.size w wc))
  case first =>
   have H:=HC3.out
   clear HC3
   by_cases c4:(l0.length:Int)=0
   ·rw [if_pos c4] at H
    have c4b0:((l0.length:Int)==0)=true:=beq_iff_eq.mpr c4
    have c4b1:((l0.length:Int) != 0)=false:=bne_eq_false_iff_eq.mpr c4
    clear c4
    (first|rw [c4b0]|(simp only [i64_w,i32_w];rw [c4b0])|skip)
    have H':=Aside0.mk H
    clear H
    go_wp2
    go_meet
    case rel => exact ⟨_,(true),r3_,H',⟨by first|omega|exact Nat.le_refl _⟩,⟨bl_⟩⟩
   ·rw [if_neg c4] at H
    have c4b0:((l0.length:Int)==0)=false:=beq_eq_false_iff_ne.mpr c4
    have c4b1:((l0.length:Int) != 0)=true:=bne_iff_ne.mpr c4
    have c4b2:¬ (l0=[]):=fun h_ => c4 (by rw [h_];rfl)
    (first|rw [c4b0]|(simp only [i64_w,i32_w];rw [c4b0])|skip)
    by_cases c5:0 < (l0.length:Int)
    ·rw [if_pos c5] at H
     have c5b0:decide (0 < (l0.length:Int))=true:=decide_eq_true c5
     have c5b1:decide (0 < l0.length)=true:=decide_eq_true (by omega)
     clear c5
     have H':=Aside0.mk H
     clear H
     have p223:0≤(0:Int):=(by omega)
     have q223:0 < (l0.length:Int):=od_
     obtain ⟨ad223,e223,hx223_0,hx223_1,hx223_2,hx223_3,hx223_4⟩:=at_T60 HR0.out 0 p223 q223
     cases e223
     have qi223:(0 < l0.length)=True:=eq_true (by omega)
     (try rw [show ((0:Int)).toNat=0 from rfl] at hx223_0)
     (try rw [show 0 * 5=0 from rfl] at hx223_0)
     (try rw [Addr.add_zero'] at hx223_0)
     (try rw [show ((0:Int)).toNat=0 from rfl] at hx223_1)
     (try rw [show 0 * 5=0 from rfl] at hx223_1)
     (try rw [Addr.add_zero'] at hx223_1)
     (try rw [show ((0:Int)).toNat=0 from rfl] at hx223_2)
     (try rw [show 0 * 5=0 from rfl] at hx223_2)
     (try rw [Addr.add_zero'] at hx223_2)
     (try rw [show ((0:Int)).toNat=0 from rfl] at hx223_3)
     (try rw [show 0 * 5=0 from rfl] at hx223_3)
     (try rw [Addr.add_zero'] at hx223_3)
     (try rw [show ((0:Int)).toNat=0 from rfl] at hx223_4)
     (try rw [show 0 * 5=0 from rfl] at hx223_4)
     (try rw [Addr.add_zero'] at hx223_4)
     replace hx223_0:=hb_ HB hx223_0
     replace hx223_1:=hb_ HB hx223_1
     replace hx223_2:=hb_ HB hx223_2
     replace hx223_3:=hb_ HB hx223_3
     replace hx223_4:=hb_ HB hx223_4
     replace p223:=eq_true p223
     replace q223:=eq_true q223
     go_wp2
     go_meet
     case rel => exact ⟨_,((!(((rd_T60 l0 0).f0)==0) || (!((((rd_T60 l0 0).f1).toList)==([]:List UInt8)) || (!(((rd_T60 l0 0).f2)==0) || (!(((rd_T60 l0 0).f3)==0) || (!(((rd_T60 l0 0).f4)==0))))))),r3_,H',⟨by first|omega|exact Nat.le_refl _⟩,⟨bl_⟩⟩
    ·rw [if_neg c5] at H
     exact absurd H (by simp)
  case rest =>
   clear HC3
   try clear c2;try clear c2b0;try clear c2b1
   obtain ⟨kq,x17_2,rfl,HA,HJ2,HB⟩:=hcut
   cases kq with
   | zero => exact absurd HA.out (by simp [understudyref04_Check.j0])
   | succ kj2 =>
    have H:=HA.out
    clear HA
    simp only [understudyref04_Check.j0] at H
    by_cases c6:x17_2=true
    ·subst c6
     rw [if_pos rfl] at H
     obtain rfl:=Option.some.inj H
     go_wp2
     go_ret
     exact ⟨ew_,bl_⟩
    ·replace c6:=Bool.eq_false_iff.mpr c6
     subst c6
     rw [if_neg (show ¬ (false=true) by decide)] at H
     have H':=Aside0.mk H
     clear H
     go_wp2
     go_loopg [3] kj2 (fun kq v3 w' => ∃ (x3_2:Int),v3=.int .i64 x3_2∧Aside0 (understudyref04_Check.l0 kq l0 x3_2=some r)∧Aside0 (kq≤kj2)∧Aside0 (Below w.heap.size w w'))
     case atStart => exact ⟨(1),r3_,H',⟨Nat.le_refl _⟩,⟨bl_⟩⟩
     case round =>
      clear H'
      try clear c6
      obtain ⟨x3_2,rfl,HA,HK2,HB⟩:=hrel
      cases gk with
      | zero => exact absurd HA.out (by simp [understudyref04_Check.l0])
      | succ k2 =>
       have H:=HA.out
       clear HA
       simp only [understudyref04_Check.l0] at H
       by_cases c7:x3_2 < (l0.length:Int)
       ·rw [if_pos c7] at H
        have c7b0:decide (x3_2 < (l0.length:Int))=true:=decide_eq_true c7
        clear c7
        replace H:=Option.bind_eq_some_iff.mp H
        obtain ⟨t224,A80,H⟩:=H
        try dsimp only at H
        have A8:=Aside0.mk A80
        clear A80
        by_cases c9:t224=0
        ·rw [if_pos c9] at H
         have c9b0:(t224==0)=true:=beq_iff_eq.mpr c9
         have c9b1:(t224 != 0)=false:=bne_eq_false_iff_eq.mpr c9
         clear c9
         have H':=Aside0.mk H
         clear H
         go_wp2_with (first|(refine callA_ (f:=50) (some 26) Tryd.func50 #[.slice A0 l0.length c0,.int .i64 x3_2] ?_;(with_reducible refine (understudyref04_one.calls k2 _ _ l0 x3_2 t224 _ ?side1 ?side2 A8.out).mono ?_);(case side1 => exact kc_ (Kd.C_below HR0.out HB.out));(case side2 => exact HC0.out);rintro e w10 ⟨rfl,hb⟩;refine ⟨_,rfl,?_⟩;have n0_:=Aside0.mk (below_step bl_ hb);clear HB;have HB:=n0_;clear n0_;(try clear hb);(try clear hb2);(try clear hk);(try clear hi)))
         go_roundg k2
         case measure => have:=HJ2.out;have:=HK2.out;omega
         case rel => exact ⟨(wrap64 (x3_2 + 1)),r3_,H',⟨by have:=HJ2.out;have:=HK2.out;omega⟩,⟨bl_⟩⟩
        ·rw [if_neg c9] at H
         have c9b0:(t224==0)=false:=beq_eq_false_iff_ne.mpr c9
         have c9b1:(t224 != 0)=true:=bne_iff_ne.mpr c9
         obtain rfl:=Option.some.inj H
         go_wp2_with (first|(refine callA_ (f:=50) (some 26) Tryd.func50 #[.slice A0 l0.length c0,.int .i64 x3_2] ?_;(with_reducible refine (understudyref04_one.calls k2 _ _ l0 x3_2 t224 _ ?side1 ?side2 A8.out).mono ?_);(case side1 => exact kc_ (Kd.C_below HR0.out HB.out));(case side2 => exact HC0.out);rintro e w11 ⟨rfl,hb⟩;refine ⟨_,rfl,?_⟩;have n0_:=Aside0.mk (below_step bl_ hb);clear HB;have HB:=n0_;clear n0_;(try clear hb);(try clear hb2);(try clear hk);(try clear hi)))
         go_ret
         exact ⟨ew_,bl_⟩
       ·rw [if_neg c7] at H
        have c7b0:decide (x3_2 < (l0.length:Int))=false:=decide_eq_false c7
        clear c7
        obtain rfl:=Option.some.inj H
        go_wp2
        go_ret
        exact ⟨ew_,bl_⟩
def understudyref04_Text.f (l0:List (S60)) (a1:Int):Option (ByteArray × Bool):=(understudyref04_is.f l0 a1 1).bind fun t225 => (if t225=true then (if 0≤a1 then (if a1 < (l0.length:Int) then (some ((rd_T60 l0 a1).f1,true)) else (none)) else (none)) else (some ((⟨#[]⟩:ByteArray),false)))
set_option maxHeartbeats 80000000 in
set_option maxRecDepth 100000 in
theorem understudyref04_Text.calls (A0:Option Addr) (c0:Nat) (l0:List (S60)) (a1:Int) (r1:ByteArray) (r2:Bool) (w:World) (hr0:Kd.C k60 w A0 l0.length l0) (hc0:l0.length≤c0) (h:understudyref04_Text.f l0 a1=some (r1,r2)) :
  Calls Tryd.prog 52 #[.slice A0 l0.length c0,.int .i64 a1] w fun e w' => e=.returned (.tuple #[.string r1,.bool r2])∧Drawn0 w w':=by
 have HR0:=Aside0.mk hr0
 have HC0:=Aside0.mk hc0
 clear hr0 hc0
 have H:((understudyref04_is.f l0 a1 1).bind fun t225 => (if t225=true then (if 0≤a1 then (if a1 < (l0.length:Int) then (some ((rd_T60 l0 a1).f1,true)) else (none)) else (none)) else (some ((⟨#[]⟩:ByteArray),false))))=some (r1,r2):=h
 clear h
 replace H:=Option.bind_eq_some_iff.mp H
 obtain ⟨t225,A30,H⟩:=H
 try dsimp only at H
 have A3:=Aside0.mk A30
 clear A30
 by_cases c4:t225=true
 ·subst c4
  rw [if_pos rfl] at H
  by_cases c5:0≤a1
  ·rw [if_pos c5] at H
   have c5b0:decide (0≤a1)=true:=decide_eq_true c5
   clear c5
   by_cases c6:a1 < (l0.length:Int)
   ·rw [if_pos c6] at H
    have c6b0:decide (a1 < (l0.length:Int))=true:=decide_eq_true c6
    clear c6
    simp only [Option.some.injEq,Prod.mk.injEq] at H
    obtain ⟨rfl,rfl⟩:=H
    go_enter Tryd.func52,Tryd.ntmps52
    go_wp2_with (first|(refine callA_ (f:=63) (some 8) Tryd.func63 #[.slice A0 l0.length c0,.int .i64 a1,.int .i64 1] ?_;(with_reducible refine (understudyref04_is.calls _ _ l0 a1 1 true _ ?side1 ?side2 A3.out).mono ?_);(case side1 => exact kc_ HR0.out);(case side2 => exact HC0.out);rintro e w' ⟨rfl,⟨nd,rfl⟩⟩;refine ⟨_,rfl,?_⟩;have p226:0≤(a1:Int):=od_;have q226:a1 < (l0.length:Int):=od_;obtain ⟨ad226,e226,hx226_0,hx226_1,hx226_2,hx226_3,hx226_4⟩:=at_T60 HR0.out a1 p226 q226;cases e226;replace p226:=eq_true p226;replace q226:=eq_true q226))
    go_ret2
    exact ⟨by first|rfl|(simp;done)|(simp [*];done),by repeat (first|exact Drawn0.refl _|apply Drawn0.step)⟩
   ·rw [if_neg c6] at H
    exact absurd H (by simp)
  ·rw [if_neg c5] at H
   exact absurd H (by simp)
 ·replace c4:=Bool.eq_false_iff.mpr c4
  subst c4
  rw [if_neg (show ¬ (false=true) by decide)] at H
  simp only [Option.some.injEq,Prod.mk.injEq] at H
  obtain ⟨rfl,rfl⟩:=H
  go_enter Tryd.func52,Tryd.ntmps52
  go_wp2_with (first|(refine callA_ (f:=63) (some 8) Tryd.func63 #[.slice A0 l0.length c0,.int .i64 a1,.int .i64 1] ?_;(with_reducible refine (understudyref04_is.calls _ _ l0 a1 1 false _ ?side1 ?side2 A3.out).mono ?_);(case side1 => exact kc_ HR0.out);(case side2 => exact HC0.out);rintro e w' ⟨rfl,⟨nd,rfl⟩⟩;refine ⟨_,rfl,?_⟩))
  go_ret2
  exact ⟨by first|rfl|(simp;done)|(simp [*];done),by repeat (first|exact Drawn0.refl _|apply Drawn0.step)⟩
def understudyref04_Class.f (l0:List (S60)) (a1:Int):Option (ByteArray × Bool):=(understudyref04_is.f l0 a1 7).bind fun t227 => (if t227=true then (if 0≤a1 then (if a1 < (l0.length:Int) then ((understudyref04_Text.f l0 ((rd_T60 l0 a1).f3)).bind fun bt229 => (some (bt229.1,bt229.2))) else (none)) else (none)) else (some ((⟨#[]⟩:ByteArray),false)))
set_option maxHeartbeats 80000000 in
set_option maxRecDepth 100000 in
theorem understudyref04_Class.calls (A0:Option Addr) (c0:Nat) (l0:List (S60)) (a1:Int) (r1:ByteArray) (r2:Bool) (w:World) (hr0:Kd.C k60 w A0 l0.length l0) (hc0:l0.length≤c0) (h:understudyref04_Class.f l0 a1=some (r1,r2)) :
  Calls Tryd.prog 51 #[.slice A0 l0.length c0,.int .i64 a1] w fun e w' => e=.returned (.tuple #[.string r1,.bool r2])∧Drawn0 w w':=by
 have HR0:=Aside0.mk hr0
 have HC0:=Aside0.mk hc0
 clear hr0 hc0
 have H:((understudyref04_is.f l0 a1 7).bind fun t227 => (if t227=true then (if 0≤a1 then (if a1 < (l0.length:Int) then ((understudyref04_Text.f l0 ((rd_T60 l0 a1).f3)).bind fun bt229 => (some (bt229.1,bt229.2))) else (none)) else (none)) else (some ((⟨#[]⟩:ByteArray),false))))=some (r1,r2):=h
 clear h
 replace H:=Option.bind_eq_some_iff.mp H
 obtain ⟨t227,A30,H⟩:=H
 try dsimp only at H
 have A3:=Aside0.mk A30
 clear A30
 by_cases c4:t227=true
 ·subst c4
  rw [if_pos rfl] at H
  by_cases c5:0≤a1
  ·rw [if_pos c5] at H
   have c5b0:decide (0≤a1)=true:=decide_eq_true c5
   clear c5
   by_cases c6:a1 < (l0.length:Int)
   ·rw [if_pos c6] at H
    have c6b0:decide (a1 < (l0.length:Int))=true:=decide_eq_true c6
    clear c6
    replace H:=Option.bind_eq_some_iff.mp H
    obtain ⟨⟨t229,t230⟩,A70,H⟩:=H
    try dsimp only at H
    have A7:=Aside0.mk A70
    clear A70
    simp only [Option.some.injEq,Prod.mk.injEq] at H
    obtain ⟨rfl,rfl⟩:=H
    go_enter Tryd.func51,Tryd.ntmps51
    go_wp2_with (first|(refine callA_ (f:=63) (some 8) Tryd.func63 #[.slice A0 l0.length c0,.int .i64 a1,.int .i64 7] ?_;(with_reducible refine (understudyref04_is.calls _ _ l0 a1 7 true _ ?side1 ?side2 A3.out).mono ?_);(case side1 => exact kc_ HR0.out);(case side2 => exact HC0.out);rintro e w' ⟨rfl,⟨nd,rfl⟩⟩;refine ⟨_,rfl,?_⟩;have p228:0≤(a1:Int):=od_;have q228:a1 < (l0.length:Int):=od_;obtain ⟨ad228,e228,hx228_0,hx228_1,hx228_2,hx228_3,hx228_4⟩:=at_T60 HR0.out a1 p228 q228;cases e228;replace p228:=eq_true p228;replace q228:=eq_true q228)|(refine callA_ (f:=52) (some 16) Tryd.func52 #[.slice (some ad228) l0.length c0,.int .i64 ((rd_T60 l0 a1).f3)] ?_;(with_reducible refine (understudyref04_Text.calls _ _ l0 ((rd_T60 l0 a1).f3) t229 t230 _ ?side1 ?side2 A7.out).mono ?_);(case side1 => exact kc_ HR0.out);(case side2 => exact HC0.out);rintro e w' ⟨rfl,⟨nd,rfl⟩⟩;refine ⟨_,rfl,?_⟩))
    go_ret2
    exact ⟨by first|rfl|(simp;done)|(simp [*];done),by repeat (first|exact Drawn0.refl _|apply Drawn0.step)⟩
   ·rw [if_neg c6] at H
    exact absurd H (by simp)
  ·rw [if_neg c5] at H
   exact absurd H (by simp)
 ·replace c4:=Bool.eq_false_iff.mpr c4
  subst c4
  rw [if_neg (show ¬ (false=true) by decide)] at H
  simp only [Option.some.injEq,Prod.mk.injEq] at H
  obtain ⟨rfl,rfl⟩:=H
  go_enter Tryd.func51,Tryd.ntmps51
  go_wp2_with (first|(refine callA_ (f:=63) (some 8) Tryd.func63 #[.slice A0 l0.length c0,.int .i64 a1,.int .i64 7] ?_;(with_reducible refine (understudyref04_is.calls _ _ l0 a1 7 false _ ?side1 ?side2 A3.out).mono ?_);(case side1 => exact kc_ HR0.out);(case side2 => exact HC0.out);rintro e w' ⟨rfl,⟨nd,rfl⟩⟩;refine ⟨_,rfl,?_⟩))
  go_ret2
  exact ⟨by first|rfl|(simp;done)|(simp [*];done),by repeat (first|exact Drawn0.refl _|apply Drawn0.step)⟩
def understudyref05_cls.f (l0:List (S60)) (a1:Int):Option (Bool):=(understudyref04_Class.f l0 a1).bind fun bt231 => (some bt231.2)
set_option maxHeartbeats 80000000 in
set_option maxRecDepth 100000 in
theorem understudyref05_cls.calls (A0:Option Addr) (c0:Nat) (l0:List (S60)) (a1:Int) (r:Bool) (w:World) (hr0:Kd.C k60 w A0 l0.length l0) (hc0:l0.length≤c0) (h:understudyref05_cls.f l0 a1=some r) :
  Calls Tryd.prog 36 #[.slice A0 l0.length c0,.int .i64 a1] w fun e w' => e=.returned (.bool r)∧Drawn0 w w':=by
 have HR0:=Aside0.mk hr0
 have HC0:=Aside0.mk hc0
 clear hr0 hc0
 have H:((understudyref04_Class.f l0 a1).bind fun bt231 => (some bt231.2))=some r:=h
 clear h
 replace H:=Option.bind_eq_some_iff.mp H
 obtain ⟨⟨t231,t232⟩,A30,H⟩:=H
 try dsimp only at H
 have A3:=Aside0.mk A30
 clear A30
 obtain rfl:=Option.some.inj H
 go_enter Tryd.func36,Tryd.ntmps36
 go_wp2_with (first|(refine callA_ (f:=51) (some 10) Tryd.func51 #[.slice A0 l0.length c0,.int .i64 a1] ?_;(with_reducible refine (understudyref04_Class.calls _ _ l0 a1 t231 t232 _ ?side1 ?side2 A3.out).mono ?_);(case side1 => exact kc_ HR0.out);(case side2 => exact HC0.out);rintro e w' ⟨rfl,⟨nd,rfl⟩⟩;refine ⟨_,rfl,?_⟩))
 go_ret
 exact ⟨by first|rfl|(simp;done)|(simp [*];done),by repeat (first|exact Drawn0.refl _|apply Drawn0.step)⟩
def understudyref05_utf.f (l0:List (S60)) (a1:Int):Option (Bool):=(understudyref04_Text.f l0 a1).bind fun bt233 => (some bt233.2)
set_option maxHeartbeats 80000000 in
set_option maxRecDepth 100000 in
theorem understudyref05_utf.calls (A0:Option Addr) (c0:Nat) (l0:List (S60)) (a1:Int) (r:Bool) (w:World) (hr0:Kd.C k60 w A0 l0.length l0) (hc0:l0.length≤c0) (h:understudyref05_utf.f l0 a1=some r) :
  Calls Tryd.prog 37 #[.slice A0 l0.length c0,.int .i64 a1] w fun e w' => e=.returned (.bool r)∧Drawn0 w w':=by
 have HR0:=Aside0.mk hr0
 have HC0:=Aside0.mk hc0
 clear hr0 hc0
 have H:((understudyref04_Text.f l0 a1).bind fun bt233 => (some bt233.2))=some r:=h
 clear h
 replace H:=Option.bind_eq_some_iff.mp H
 obtain ⟨⟨t233,t234⟩,A30,H⟩:=H
 try dsimp only at H
 have A3:=Aside0.mk A30
 clear A30
 obtain rfl:=Option.some.inj H
 go_enter Tryd.func37,Tryd.ntmps37
 go_wp2_with (first|(refine callA_ (f:=52) (some 10) Tryd.func52 #[.slice A0 l0.length c0,.int .i64 a1] ?_;(with_reducible refine (understudyref04_Text.calls _ _ l0 a1 t233 t234 _ ?side1 ?side2 A3.out).mono ?_);(case side1 => exact kc_ HR0.out);(case side2 => exact HC0.out);rintro e w' ⟨rfl,⟨nd,rfl⟩⟩;refine ⟨_,rfl,?_⟩))
 go_ret
 exact ⟨by first|rfl|(simp;done)|(simp [*];done),by repeat (first|exact Drawn0.refl _|apply Drawn0.step)⟩
def understudyref05_text.l0:Nat→List (S60)→ByteArray→Int→Option (Int)
 | 0,_,_,_ => none
 | k + 1,x0,x1,x5 => if x5 < (x0.length:Int) then (if 0≤x5 then (if ((rd_T60 x0 x5).f0)=1 then (if ((rd_T60 x0 x5).f1).toList=x1.toList then (some x5) else (understudyref05_text.l0 k x0 x1 (wrap64 (x5 + 1)))) else (understudyref05_text.l0 k x0 x1 (wrap64 (x5 + 1)))) else (none)) else (some 0)
def understudyref05_text.f (k:Nat) (l0:List (S60)) (a1:ByteArray):Option (Int):=understudyref05_text.l0 k l0 a1 1
theorem understudyref05_text.mono_l:∀ k,(∀ y0 y1 y2,LeO (understudyref05_text.l0 k y0 y1 y2) (understudyref05_text.l0 (k + 1) y0 y1 y2))
 | 0 => fun _ _ _ r h => by simp [understudyref05_text.l0] at h
 | k + 1 => by
  have ih0:=understudyref05_text.mono_l k
  ·intro y0 y1 y2
   unfold understudyref05_text.l0
   repeat' first
   | (with_reducible exact ih0 _ _ _)
   | (with_reducible exact LeO.refl _)
   | (with_reducible exact LeO.none _)
   | (with_reducible refine LeO.ite ?_ ?_)
   | (with_reducible refine LeO.bind ?_ (fun _ => ?_))
   | exact ih0 _ _ _
   | exact LeO.none _
   | refine LeO.ite ?_ ?_
   | refine LeO.bind ?_ (fun _ => ?_)
theorem understudyref05_text.mono:∀ a0 a1 k,LeO (understudyref05_text.f k a0 a1) (understudyref05_text.f (k + 1) a0 a1):=by
 intro a0 a1 k
 have ih0:=understudyref05_text.mono_l k
 unfold understudyref05_text.f
 repeat' first
   | (with_reducible exact ih0 _ _ _)
   | (with_reducible exact LeO.refl _)
   | (with_reducible exact LeO.none _)
   | (with_reducible refine LeO.ite ?_ ?_)
   | (with_reducible refine LeO.bind ?_ (fun _ => ?_))
   | exact ih0 _ _ _
   | exact LeO.none _
   | refine LeO.ite ?_ ?_
   | refine LeO.bind ?_ (fun _ => ?_)
set_option maxHeartbeats 80000000 in
set_option maxRecDepth 100000 in
theorem understudyref05_text.calls (k:Nat) (A0:Option Addr) (c0:Nat) (l0:List (S60)) (a1:ByteArray) (r:Int) (w:World) (hr0:Kd.C k60 w A0 l0.length l0) (hc0:l0.length≤c0) (h:understudyref05_text.f k l0 a1=some r) :
  Calls Tryd.prog 21 #[.slice A0 l0.length c0,.string a1] w fun e w' => e=.returned (.int .i64 r)∧Drawn0 w w':=by
 have HR0:=Aside0.mk hr0
 have HC0:=Aside0.mk hc0
 clear hr0 hc0
 have H:(understudyref05_text.l0 k l0 a1 1)=some r:=h
 clear h
 have H':=Aside0.mk H
 clear H
 go_enter Tryd.func21,Tryd.ntmps21
 go_wp2
 go_loopg [5] k (fun kq v5 w' => ∃ (x5_1:Int),v5=.int .i64 x5_1∧Aside0 (understudyref05_text.l0 kq l0 a1 x5_1=some r)∧Aside0 (kq≤k)∧Drawn0 w w')
 case atStart => exact ⟨(1),r3_,H',⟨Nat.le_refl _⟩,by repeat (first|exact Drawn0.refl _|apply Drawn0.step)⟩
 case round =>
  clear H'
  obtain ⟨x5_1,rfl,HA,HK1,⟨m1,rfl⟩⟩:=hrel
  cases gk with
  | zero => exact absurd HA.out (by simp [understudyref05_text.l0])
  | succ k1 =>
   have H:=HA.out
   clear HA
   simp only [understudyref05_text.l0] at H
   by_cases c3:x5_1 < (l0.length:Int)
   ·rw [if_pos c3] at H
    have c3b0:decide (x5_1 < (l0.length:Int))=true:=decide_eq_true c3
    clear c3
    by_cases c4:0≤x5_1
    ·rw [if_pos c4] at H
     have c4b0:decide (0≤x5_1)=true:=decide_eq_true c4
     clear c4
     by_cases c5:((rd_T60 l0 x5_1).f0)=1
     ·rw [if_pos c5] at H
      have c5b0:(((rd_T60 l0 x5_1).f0)==1)=true:=beq_iff_eq.mpr c5
      have c5b1:(((rd_T60 l0 x5_1).f0) != 1)=false:=bne_eq_false_iff_eq.mpr c5
      clear c5
      by_cases c6:((rd_T60 l0 x5_1).f1).toList=a1.toList
      ·rw [if_pos c6] at H
       have c6b0:(((rd_T60 l0 x5_1).f1).toList==a1.toList)=true:=beq_iff_eq.mpr c6
       have c6b1:(((rd_T60 l0 x5_1).f1).toList != a1.toList)=false:=bne_eq_false_iff_eq.mpr c6
       clear c6
       obtain rfl:=Option.some.inj H
       have p235:0≤(x5_1:Int):=od_
       have q235:x5_1 < (l0.length:Int):=od_
       obtain ⟨ad235,e235,hx235_0,hx235_1,hx235_2,hx235_3,hx235_4⟩:=at_T60 HR0.out x5_1 p235 q235
       cases e235
       replace p235:=eq_true p235
       replace q235:=eq_true q235
       have p236:0≤(x5_1:Int):=od_
       have q236:x5_1 < (l0.length:Int):=od_
       obtain ⟨ad236,e236,hx236_0,hx236_1,hx236_2,hx236_3,hx236_4⟩:=at_T60 HR0.out x5_1 p236 q236
       obtain rfl:ad235=ad236:=(by injection e236)
       replace p236:=eq_true p236
       replace q236:=eq_true q236
       go_wp2
       go_ret
       exact ⟨by first|rfl|(simp;done)|(simp [*];done),by repeat (first|exact Drawn0.refl _|apply Drawn0.step)⟩
      ·rw [if_neg c6] at H
       have c6b0:(((rd_T60 l0 x5_1).f1).toList==a1.toList)=false:=beq_eq_false_iff_ne.mpr c6
       have c6b1:(((rd_T60 l0 x5_1).f1).toList != a1.toList)=true:=bne_iff_ne.mpr c6
       have H':=Aside0.mk H
       clear H
       have p235:0≤(x5_1:Int):=od_
       have q235:x5_1 < (l0.length:Int):=od_
       obtain ⟨ad235,e235,hx235_0,hx235_1,hx235_2,hx235_3,hx235_4⟩:=at_T60 HR0.out x5_1 p235 q235
       cases e235
       replace p235:=eq_true p235
       replace q235:=eq_true q235
       have p236:0≤(x5_1:Int):=od_
       have q236:x5_1 < (l0.length:Int):=od_
       obtain ⟨ad236,e236,hx236_0,hx236_1,hx236_2,hx236_3,hx236_4⟩:=at_T60 HR0.out x5_1 p236 q236
       obtain rfl:ad235=ad236:=(by injection e236)
       replace p236:=eq_true p236
       replace q236:=eq_true q236
       go_wp2
       go_roundg k1
       case measure => have:=HK1.out;omega
       case rel => exact ⟨(wrap64 (x5_1 + 1)),r3_,H',⟨by have:=HK1.out;omega⟩,by repeat (first|exact Drawn0.refl _|apply Drawn0.step)⟩
     ·rw [if_neg c5] at H
      have c5b0:(((rd_T60 l0 x5_1).f0)==1)=false:=beq_eq_false_iff_ne.mpr c5
      have c5b1:(((rd_T60 l0 x5_1).f0) != 1)=true:=bne_iff_ne.mpr c5
      have H':=Aside0.mk H
      clear H
      have p235:0≤(x5_1:Int):=od_
      have q235:x5_1 < (l0.length:Int):=od_
      obtain ⟨ad235,e235,hx235_0,hx235_1,hx235_2,hx235_3,hx235_4⟩:=at_T60 HR0.out x5_1 p235 q235
      cases e235
      replace p235:=eq_true p235
      replace q235:=eq_true q235
      go_wp2
      go_roundg k1
      case measure => have:=HK1.out;omega
      case rel => exact ⟨(wrap64 (x5_1 + 1)),r3_,H',⟨by have:=HK1.out;omega⟩,by repeat (first|exact Drawn0.refl _|apply Drawn0.step)⟩
    ·rw [if_neg c4] at H
     exact absurd H (by simp)
   ·rw [if_neg c3] at H
    have c3b0:decide (x5_1 < (l0.length:Int))=false:=decide_eq_false c3
    clear c3
    obtain rfl:=Option.some.inj H
    go_wp2
    go_ret
    exact ⟨by first|rfl|(simp;done)|(simp [*];done),by repeat (first|exact Drawn0.refl _|apply Drawn0.step)⟩
end Go.Proofs.YtmloaijagkebpaaDoor.Px
