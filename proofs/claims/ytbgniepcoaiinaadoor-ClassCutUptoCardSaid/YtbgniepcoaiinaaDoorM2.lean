/- pool.Encode: what it computes, as a Lean function, and the walk: pool.Check, text.Encode and wire.Writer by their contracts. -/
/- class.fresh, file.two, file.long: what they leave of a writer. -/
/- class.body: a method's code as bytes: what it computes, as a Lean function, and the walk. -/
import Derived.Test.YtbgniepcoaiinaaDoorM1
import Derived.Deep.RegionHeld3
namespace Go.Proofs.YtbgniepcoaiinaaDoor.Px
open Go.RowKit Go.Proofs.YtbgniepcoaiinaaDoorW.PrintWords Go.Proofs.YtbgniepcoaiinaaDoorW.PrintLast Go.Proofs.YtbgniepcoaiinaaDoorW.PrintMore
set_option linter.unusedVariables false
set_option linter.unusedSimpArgs false
def wU (n:Nat) (x:Int) (bs:List Int):Option (List Int):=if bs.length + n≤1048576∧0≤x∧x < 2 ^ (8 * n) then some (bs++beN n x) else none
def wI (n:Nat) (x:Int) (bs:List Int):Option (List Int):=if bs.length + n≤1048576∧(n≤7→x / 2 ^ (8 * n - 1)=0 ∨ x / 2 ^ (8 * n - 1)=-1) then some (bs++beN n x) else none
def wB (ys bs:List Int):Option (List Int):=if bs.length + ys.length≤1048576 then some (bs++ys) else none
theorem wU_some {n:Nat} {x:Int} {bs r:List Int} (h:wU n x bs=some r):(bs.length + n≤1048576∧0≤x∧x < 2 ^ (8 * n))∧bs++beN n x=r:=by
 unfold wU at h
 split at h
 ·rename_i hc;exact ⟨hc,Option.some.inj h⟩
 ·cases h
theorem wI_some {n:Nat} {x:Int} {bs r:List Int} (h:wI n x bs=some r):(bs.length + n≤1048576∧(n≤7→x / 2 ^ (8 * n - 1)=0 ∨ x / 2 ^ (8 * n - 1)=-1))∧bs++beN n x=r:=by
 unfold wI at h
 split at h
 ·rename_i hc;exact ⟨hc,Option.some.inj h⟩
 ·cases h
theorem wB_some {ys bs r:List Int} (h:wB ys bs=some r):bs.length + ys.length≤1048576∧bs++ys=r:=by
 unfold wB at h
 split at h
 ·rename_i hc;exact ⟨hc,Option.some.inj h⟩
 ·cases h
theorem wr_U {B g:Nat} {v:Value} {bs r:List Int} {x:Int} {n:Nat} {w:World} (hI:IsWr B w g v bs 1048576) (h1:1≤n) (h8:n≤8) (h:wU n x bs=some r) :
  Calls Tryd.prog 14 #[.pointer (some ⟨g,0,none⟩),.int .i64 n,.int .u64 x] w fun e w' => e=.returned (.int .i64 0)∧WrPost B w g v r 1048576 w':=by
 obtain ⟨⟨a,b,c⟩,rfl⟩:=wU_some h
 exact wr_Uint.calls B g v bs 1048576 x n w hI h1 h8 b c (by omega) (by omega)
theorem wr_I {B g:Nat} {v:Value} {bs r:List Int} {x:Int} {n:Nat} {w:World} (hI:IsWr B w g v bs 1048576) (h1:1≤n) (h8:n≤8) (h:wI n x bs=some r) :
  Calls Tryd.prog 40 #[.pointer (some ⟨g,0,none⟩),.int .i64 n,.int .i64 x] w fun e w' => e=.returned (.int .i64 0)∧WrPost B w g v r 1048576 w':=by
 obtain ⟨⟨a,b⟩,rfl⟩:=wI_some h
 exact wr_Int.calls B g v bs 1048576 x n w hI h1 h8 b (by omega) (by omega)
theorem wr_B {B g:Nat} {v:Value} {bs ys r:List Int} {A:Option Addr} {c:Nat} {w:World} (hI:IsWr B w g v bs 1048576) (hy:(Kd.int .u8).C w A ys.length ys) (h:wB ys bs=some r) :
  Calls Tryd.prog 16 #[.pointer (some ⟨g,0,none⟩),.slice A ys.length c] w fun e w' => e=.returned (.int .i64 0)∧WrPost B w g v r 1048576 w':=by
 obtain ⟨a,rfl⟩:=wB_some h
 exact wr_Bytes.calls B g v bs ys 1048576 A c w hI hy (by omega) (by omega)
def pool_Encode.one (k:Nat) (c:Cst) (bs:List Int):Option (List Int) :=
 (wU 1 c.f0 bs).bind fun b1 =>
  if c.f0=1 then (text_Encode.f k c.f1).bind fun t => (wU 2 (t.1.length:Int) b1).bind fun b2 => wB t.1 b2
  else if c.f0=3 then wI 4 c.f2 b1
  else if c.f0=5 then wI 8 c.f2 b1
  else (wU 2 c.f3 b1).bind fun b2 => if c.f0=7 then some b2 else wU 2 c.f4 b2
def pool_Encode.l0:Nat→List Cst→Nat→List Int→Option (List Int)
 | 0,_,_,_ => none
 | k + 1,p,i,bs => if i + 1 < p.length then (pool_Encode.one k (rd_T67 p (i + 1)) bs).bind fun b => pool_Encode.l0 k p (i + 1) b else if bs.length≤1048576 then some bs else none
def pool_Encode.f (k:Nat) (p:List Cst):Option (List Int × Int) :=
 (pool_Check.f k p).bind fun e => if e=0 then (if 0 < p.length∧p.length≤1024 then (wU 2 (p.length:Int) []).bind fun b0 => (pool_Encode.l0 k p 0 b0).bind fun b => some (b,0) else none) else some ([],e)
theorem pool_Encode.mono_one (k:Nat) (c:Cst) (bs:List Int):LeO (pool_Encode.one k c bs) (pool_Encode.one (k + 1) c bs):=by
 unfold pool_Encode.one
 refine LeO.bind (LeO.refl _) (fun _ => LeO.ite (LeO.bind (text_Encode.mono _ _) (fun _ => LeO.refl _)) (LeO.refl _))
theorem pool_Encode.mono_l:∀ k p i bs,LeO (pool_Encode.l0 k p i bs) (pool_Encode.l0 (k + 1) p i bs)
 | 0 => fun _ _ _ r h => by simp [pool_Encode.l0] at h
 | k + 1 => fun p i bs => by
  unfold pool_Encode.l0
  exact LeO.ite (LeO.bind (pool_Encode.mono_one _ _ _) (fun _ => pool_Encode.mono_l k _ _ _)) (LeO.refl _)
theorem pool_Encode.mono:∀ a0 k,LeO (pool_Encode.f k a0) (pool_Encode.f (k + 1) a0):=by
 intro a0 k
 unfold pool_Encode.f
 exact LeO.bind (pool_Check.mono _ _) (fun _ => LeO.ite (LeO.ite (LeO.bind (LeO.refl _) (fun _ => LeO.bind (pool_Encode.mono_l _ _ _ _) (fun _ => LeO.refl _))) (LeO.refl _)) (LeO.refl _))
set_option maxHeartbeats 80000000 in
set_option maxRecDepth 100000 in
theorem pool_Encode.calls (k:Nat) (A0:Option Addr) (c0:Nat) (p:List Cst) (r1:List Int) (r2:Int) (w:World) (hG:Aside0 (GG w)) (hr0:Kd.C k67 w A0 p.length p) (hc0:p.length≤c0) (h:pool_Encode.f k p=some (r1,r2)) :
  Calls Tryd.prog 15 #[.slice A0 p.length c0] w fun e w' => ∃ v0_:Value,e=.returned (.tuple #[v0_,.int .i64 r2])∧Kd.R (Kd.int .u8) 5 w' w.heap.size (fun _ => True) v0_ r1∧Below w.heap.size w w':=by
 unfold pool_Encode.f at h
 obtain ⟨e0,hE,h⟩:=Option.bind_eq_some_iff.mp h
 have HCk:=Aside0.mk (pool_Check.calls k A0 c0 p e0 w hG hr0 hc0 hE)
 have HR:=Aside0.mk hr0
 have HC:=Aside0.mk hc0
 clear hr0 hc0 hE
 by_cases he:e0=0
 ·rw [if_pos he] at h
  have heb:(e0 != 0)=false:=bne_eq_false_iff_eq.mpr he
  clear he
  by_cases hp:0 < p.length∧p.length≤1024
  ·rw [if_pos hp] at h
   obtain ⟨b0,hU,h⟩:=Option.bind_eq_some_iff.mp h
   obtain ⟨b,hL,h⟩:=Option.bind_eq_some_iff.mp h
   have H:=Option.some.inj h
   injection H with H1 H2
   subst H1
   subst H2
   have HU:=Aside0.mk hU
   have HL:=Aside0.mk hL
   have HP:=Aside0.mk hp
   obtain ⟨ad,ea,_⟩:=at_T67 HR.out 0 (by omega) (by omega)
   subst ea
   obtain ⟨i0,hi0,_,hsz,_⟩:=info_parts info67
   have hs1:=cut_from (P:=Tryd.prog) 22 67 .i64 Tryd.underlying22 hi0 5 hsz (some ad) p.length c0 1 (by decide) (by have:=HP.out;omega)
   obtain ⟨A1,hA1⟩:∃ A1,A1=(if c0=(1:Int).toNat then some ad else (some ad).map (·.add ((1:Int).toNat * 5))):=⟨_,rfl⟩
   rw [← hA1] at hs1
   have HD:=Aside0.mk (show Kd.C k67 w A1 (p.drop 1).length (p.drop 1) from by rw [hA1];exact Kd.C_drop (m:=1) (c:=c0) HR.out HP.out.1 HC.out)
   have hlp:(p.length:Int)≤1024:=by omega
   clear hA1 hU hL h hp
   go_enter Tryd.func15,Tryd.ntmps15
   go_wp2_with fail
   with_reducible refine HCk.out.mono ?_
   rintro e w1 ⟨rfl,hb1⟩
   have HB1:=Aside0.mk hb1
   clear hb1 HCk
   go_wp2_with fail
   refine (wr_New.calls 1048576 w1 (by decide) (by decide)).mono ?_
   rintro e w2 ⟨rfl,hI2,hb2⟩
   have HI2:=Aside0.mk hI2
   obtain ⟨g,hg⟩:∃ g,g=w1.heap.size:=⟨_,rfl⟩
   rw [← hg] at hI2 hb2 HI2
   rw [← hg]
   have HGG:=Aside0.mk hg
   have HB2:=Aside0.mk (show Below w1.heap.size w1 w2 from by rw [← hg];exact hb2)
   have HB2':=Aside0.mk (below_step HB1.out HB2.out)
   clear hg hI2 hb2
   go_wp2_with fail
   refine (wr_U (n:=2) HI2.out (by decide) (by decide) HU.out).mono ?_
   rintro e w3 ⟨rfl,v3,hI3,hS3⟩
   have HI3:=Aside0.mk hI3
   have HS3:=Aside0.mk hS3
   have HB3:=Aside0.mk (show Below w.heap.size w w3 from HB2'.out.trans (hS3.below.mono (by rw [HGG.out];exact HB1.out.size)))
   have HG1:=Aside0.mk (show w.heap.size≤g from by rw [HGG.out];exact HB1.out.size)
   clear hI3 hS3 HU
   go_wp2
   go_loopg [28] k (fun kq v28 w' => ∃ (i:Nat) (cur:List Int) (v:Value),v28=.int .i64 (i:Int)∧Aside0 (pool_Encode.l0 kq p i cur=some b)∧Aside0 (kq≤k)∧Aside0 (i + 1≤p.length)∧Aside0 (IsWr g w' g v cur 1048576)∧Aside0 (Below w.heap.size w w'))
   case atStart => exact ⟨0,_,_,rfl,HL,⟨Nat.le_refl _⟩,⟨HP.out.1⟩,HI3,HB3⟩
   case round =>
    obtain ⟨i,cur,vr,rfl,HA,HK,HI1,HI,HB⟩:=hrel
    cases gk with
    | zero => exact absurd HA.out (by simp [pool_Encode.l0])
    | succ k1 =>
    have H:=HA.out
    clear HA
    simp only [pool_Encode.l0] at H
    have hlen:(p.drop 1).length=p.length - 1:=List.length_drop
    by_cases hp:i + 1 < p.length
    ·rw [if_pos hp] at H
     have hpi:decide ((i:Int) < ((p.length - 1:Nat):Int))=true:=decide_eq_true (by omega)
     have hpn:decide (i < p.length - 1)=true:=decide_eq_true (by omega)
     have hpt:(i < p.length - 1)=True:=eq_true (by omega)
     have hge:(0≤(i:Int))=True:=eq_true (by omega)
     have hrd:rd_T67 p ((i:Int) + 1)=rd_T67 (p.drop 1) (i:Int):=by
      unfold rd_T67
      rw [Int.toNat_natCast,show ((i:Int) + 1).toNat=i + 1 by omega,List.getD_eq_getElem?_getD,List.getD_eq_getElem?_getD,List.getElem?_drop,Nat.add_comm]
     rw [hrd] at H
     obtain ⟨a1,ea,hx0,hx1,hx2,hx3,hx4⟩:=at_T67 (Kd.C_below HD.out HB.out) (i:Int) (by omega) (by omega)
     subst ea
     simp only [Int.toNat_natCast] at hx0 hx1 hx2 hx3 hx4
     obtain ⟨cc,hcc⟩:∃ cc,cc=rd_T67 (p.drop 1) (i:Int):=⟨_,rfl⟩
     rw [← hcc] at H hx0 hx1 hx2 hx3 hx4
     have HPI:=Aside0.mk (show i < 1024 from by omega)
     have hwi:wrap64 ((i:Int) + 1)=(i:Int) + 1:=by have:=HPI.out;unfold wrap64;omega
     clear hp hcc hrd
     obtain ⟨bn,hO,H⟩:=Option.bind_eq_some_iff.mp H
     have HN:=Aside0.mk H
     clear H
     unfold pool_Encode.one at hO
     obtain ⟨b1,hU1,hO⟩:=Option.bind_eq_some_iff.mp hO
     have HU1:=Aside0.mk hU1
     have hlo:=(wU_some hU1).1.2.1
     have hhi:cc.f0 < 256:=(wU_some hU1).1.2.2
     clear hU1
     have HBb:=Aside0.mk (below_alloc (Below.refl wr.heap.size wr) (.cells #[.int .i64 cc.f0,.string cc.f1,.int .i64 cc.f2,.int .i64 cc.f3,.int .i64 cc.f4] 67 (0,0)))
     have BK2:=Aside0.mk (blk_new wr (.cells #[.int .i64 cc.f0,.string cc.f1,.int .i64 cc.f2,.int .i64 cc.f3,.int .i64 cc.f4] 67 (0,0)))
     have HIa:=Aside0.mk (HI.out.below HBb.out)
     have HBa':=Aside0.mk (HB.out.trans (HBb.out.mono HB.out.size))
     have FRa:=Aside0.mk (HI.out.far_new (Nat.le_refl _) (blk_lt BK2.out))
     have BKa:=BK2
     have HBa:=HBa'
     clear BK2 HBb HBa'
     go_wp2_with fail
     refine (wr_U (n:=1) HIa.out (by decide) (by decide) HU1.out).mono ?_
     rintro e wb ⟨rfl,vb,hIb,hSb⟩
     have HIb:=Aside0.mk hIb
     have HBb:=Aside0.mk (HBa.out.trans (hSb.below.mono HG1.out))
     have BKb:=Aside0.mk (hSb.blk FRa.out BKa.out)
     have FRb:=Aside0.mk (hSb.far FRa.out)
     clear hIb hSb
     have hc0_b:wb.cell? ⟨wr.heap.size,0,none⟩=some (.int .i64 cc.f0):=(blk_cell BKb.out 0).trans rfl
     have hc1_b:wb.cell? ⟨wr.heap.size,1,none⟩=some (.string cc.f1):=(blk_cell BKb.out 1).trans rfl
     have hc2_b:wb.cell? ⟨wr.heap.size,2,none⟩=some (.int .i64 cc.f2):=(blk_cell BKb.out 2).trans rfl
     have hc3_b:wb.cell? ⟨wr.heap.size,3,none⟩=some (.int .i64 cc.f3):=(blk_cell BKb.out 3).trans rfl
     have hc4_b:wb.cell? ⟨wr.heap.size,4,none⟩=some (.int .i64 cc.f4):=(blk_cell BKb.out 4).trans rfl
     by_cases t1:cc.f0=1
     ·rw [if_pos t1] at hO
      obtain ⟨⟨tb,te⟩,hT,hO⟩:=Option.bind_eq_some_iff.mp hO
      obtain ⟨b2,hU2,hO⟩:=Option.bind_eq_some_iff.mp hO
      have q1:(cc.f0==1)=true:=beq_iff_eq.mpr t1
      have HT:=Aside0.mk hT
      have HU2:=Aside0.mk hU2
      have HW:=Aside0.mk hO
      have htl:(tb.length:Int) < 65536:=(wU_some hU2).1.2.2
      clear t1 hT hU2 hO
      go_wp2_with fail
      refine (text_Encode.calls k1 cc.f1 tb te _ ⟨GG.below hG.out HBb.out⟩ HT.out).mono ?_
      rintro e wt ⟨vt,rfl,hRt,hbt⟩
      obtain ⟨At,ct,hvt,hct,_⟩:=Kd.R_reads hRt
      subst hvt
      have HRt:=Aside0.mk hRt
      have HIt:=Aside0.mk (HIb.out.below hbt)
      have HBt:=Aside0.mk (below_step HBb.out hbt)
      have HF:=Aside0.mk (show ∀ k,wb.heap.size≤k→k < wt.heap.size→WrFar wt g vb k from fun k h1 h2 => HIb.out.far_new h1 h2)
      clear hRt hbt hc0_b hc1_b hc2_b hc3_b hc4_b
      go_wp2_with fail
      refine (wr_U (n:=2) HIt.out (by decide) (by decide) HU2.out).mono ?_
      rintro e wc ⟨rfl,vc,hIc,hSc⟩
      have HIc:=Aside0.mk hIc
      have HBc:=Aside0.mk (HBt.out.trans (hSc.below.mono HG1.out))
      have HRc:=Aside0.mk (hSc.R HRt.out HF.out)
      clear hIc hSc
      go_wp2_with fail
      refine (wr_B HIc.out (row_C HRc.out) HW.out).mono ?_
      rintro e wd ⟨rfl,vd,hId,hSd⟩
      have HId:=Aside0.mk hId
      have HBd:=Aside0.mk (HBc.out.trans (hSd.below.mono HG1.out))
      clear hId hSd
      go_wp2
      go_roundg k1
      case measure => have:=HK.out;omega
      case rel => exact ⟨i + 1,_,_,congrArg (Value.int .i64) (by omega),HN,⟨by have:=HK.out;omega⟩,⟨by have:=of_decide_eq_true hpn;omega⟩,HId,HBd⟩
     rw [if_neg t1] at hO
     have q1:(cc.f0==1)=false:=beq_eq_false_iff_ne.mpr t1
     by_cases t3:cc.f0=3
     ·rw [if_pos t3] at hO
      have q3:(cc.f0==3)=true:=beq_iff_eq.mpr t3
      have HW:=Aside0.mk hO
      clear t1 t3 hO
      go_wp2_with fail
      refine (wr_I (n:=4) HIb.out (by decide) (by decide) HW.out).mono ?_
      rintro e wc ⟨rfl,vc,hIc,hSc⟩
      have HIc:=Aside0.mk hIc
      have HBc:=Aside0.mk (HBb.out.trans (hSc.below.mono HG1.out))
      clear hIc hSc hc0_b hc1_b hc2_b hc3_b hc4_b
      go_wp2
      go_roundg k1
      case measure => have:=HK.out;omega
      case rel => exact ⟨i + 1,_,_,congrArg (Value.int .i64) (by omega),HN,⟨by have:=HK.out;omega⟩,⟨by have:=of_decide_eq_true hpn;omega⟩,HIc,HBc⟩
     rw [if_neg t3] at hO
     have q3:(cc.f0==3)=false:=beq_eq_false_iff_ne.mpr t3
     by_cases t5:cc.f0=5
     ·rw [if_pos t5] at hO
      have q5:(cc.f0==5)=true:=beq_iff_eq.mpr t5
      have HW:=Aside0.mk hO
      clear t1 t3 t5 hO
      go_wp2_with fail
      refine (wr_I (n:=8) HIb.out (by decide) (by decide) HW.out).mono ?_
      rintro e wc ⟨rfl,vc,hIc,hSc⟩
      have HIc:=Aside0.mk hIc
      have HBc:=Aside0.mk (HBb.out.trans (hSc.below.mono HG1.out))
      clear hIc hSc hc0_b hc1_b hc2_b hc3_b hc4_b
      go_wp2
      go_roundg k1
      case measure => have:=HK.out;omega
      case rel => exact ⟨i + 1,_,_,congrArg (Value.int .i64) (by omega),HN,⟨by have:=HK.out;omega⟩,⟨by have:=of_decide_eq_true hpn;omega⟩,HIc,HBc⟩
     rw [if_neg t5] at hO
     have q5:(cc.f0==5)=false:=beq_eq_false_iff_ne.mpr t5
     obtain ⟨b2,hU2,hO⟩:=Option.bind_eq_some_iff.mp hO
     have HU2:=Aside0.mk hU2
     have h20:=(wU_some hU2).1.2.1
     have h21:cc.f3 < 65536:=(wU_some hU2).1.2.2
     by_cases t7:cc.f0=7
     ·rw [if_pos t7] at hO
      obtain rfl:=Option.some.inj hO
      have q7:(cc.f0 != 7)=false:=bne_eq_false_iff_eq.mpr t7
      clear t1 t3 t5 t7 hO hU2
      go_wp2_with fail
      refine (wr_U (n:=2) HIb.out (by decide) (by decide) HU2.out).mono ?_
      rintro e wc ⟨rfl,vc,hIc,hSc⟩
      have HIc:=Aside0.mk hIc
      have HBc:=Aside0.mk (HBb.out.trans (hSc.below.mono HG1.out))
      have BKc:=Aside0.mk (hSc.blk FRb.out BKb.out)
      have FRc:=Aside0.mk (hSc.far FRb.out)
      clear hIc hSc hc0_b hc1_b hc2_b hc3_b hc4_b
      have hc0_c:wc.cell? ⟨wr.heap.size,0,none⟩=some (.int .i64 cc.f0):=(blk_cell BKc.out 0).trans rfl
      have hc1_c:wc.cell? ⟨wr.heap.size,1,none⟩=some (.string cc.f1):=(blk_cell BKc.out 1).trans rfl
      have hc2_c:wc.cell? ⟨wr.heap.size,2,none⟩=some (.int .i64 cc.f2):=(blk_cell BKc.out 2).trans rfl
      have hc3_c:wc.cell? ⟨wr.heap.size,3,none⟩=some (.int .i64 cc.f3):=(blk_cell BKc.out 3).trans rfl
      have hc4_c:wc.cell? ⟨wr.heap.size,4,none⟩=some (.int .i64 cc.f4):=(blk_cell BKc.out 4).trans rfl
      go_wp2
      go_roundg k1
      case measure => have:=HK.out;omega
      case rel => exact ⟨i + 1,_,_,congrArg (Value.int .i64) (by omega),HN,⟨by have:=HK.out;omega⟩,⟨by have:=of_decide_eq_true hpn;omega⟩,HIc,HBc⟩
     rw [if_neg t7] at hO
     have q7:(cc.f0 != 7)=true:=bne_iff_ne.mpr t7
     have HW:=Aside0.mk hO
     have h30:=(wU_some hO).1.2.1
     have h31:cc.f4 < 65536:=(wU_some hO).1.2.2
     clear t1 t3 t5 t7 hO hU2
     go_wp2_with fail
     refine (wr_U (n:=2) HIb.out (by decide) (by decide) HU2.out).mono ?_
     rintro e wc ⟨rfl,vc,hIc,hSc⟩
     have HIc:=Aside0.mk hIc
     have HBc:=Aside0.mk (HBb.out.trans (hSc.below.mono HG1.out))
     have BKc:=Aside0.mk (hSc.blk FRb.out BKb.out)
     have FRc:=Aside0.mk (hSc.far FRb.out)
     clear hIc hSc hc0_b hc1_b hc2_b hc3_b hc4_b
     have hc0_c:wc.cell? ⟨wr.heap.size,0,none⟩=some (.int .i64 cc.f0):=(blk_cell BKc.out 0).trans rfl
     have hc1_c:wc.cell? ⟨wr.heap.size,1,none⟩=some (.string cc.f1):=(blk_cell BKc.out 1).trans rfl
     have hc2_c:wc.cell? ⟨wr.heap.size,2,none⟩=some (.int .i64 cc.f2):=(blk_cell BKc.out 2).trans rfl
     have hc3_c:wc.cell? ⟨wr.heap.size,3,none⟩=some (.int .i64 cc.f3):=(blk_cell BKc.out 3).trans rfl
     have hc4_c:wc.cell? ⟨wr.heap.size,4,none⟩=some (.int .i64 cc.f4):=(blk_cell BKc.out 4).trans rfl
     go_wp2_with fail
     refine (wr_U (n:=2) HIc.out (by decide) (by decide) HW.out).mono ?_
     rintro e wd ⟨rfl,vd,hId,hSd⟩
     have HId:=Aside0.mk hId
     have HBd:=Aside0.mk (HBc.out.trans (hSd.below.mono HG1.out))
     clear hId hSd hc0_c hc1_c hc2_c hc3_c hc4_c
     go_wp2
     go_roundg k1
     case measure => have:=HK.out;omega
     case rel => exact ⟨i + 1,_,_,congrArg (Value.int .i64) (by omega),HN,⟨by have:=HK.out;omega⟩,⟨by have:=of_decide_eq_true hpn;omega⟩,HId,HBd⟩
    ·rw [if_neg hp] at H
     have hpi:decide ((i:Int) < ((p.length - 1:Nat):Int))=false:=decide_eq_false (by omega)
     have hpn:decide (i < p.length - 1)=false:=decide_eq_false (by omega)
     by_cases hl:cur.length≤1048576
     ·rw [if_pos hl] at H
      obtain rfl:=Option.some.inj H
      have HLn:=Aside0.mk hl
      clear hp H hl
      go_wp2_with fail
      refine (wr_Out.calls g g vr cur 1048576 _ HI.out HLn.out).mono ?_
      rintro e wo ⟨vo,rfl,hRo,hbo⟩
      have HRo:=Aside0.mk hRo
      have HBo:=Aside0.mk (below_step HB.out hbo)
      clear hRo hbo
      go_wp2
      go_ret2
      exact ⟨_,rfl,Kd.R_lower HRo.out HB.out.size,HBo.out⟩
     ·rw [if_neg hl] at H
      cases H
  ·rw [if_neg hp] at h
   cases h
 ·rw [if_neg he] at h
  have heb:(e0 != 0)=true:=bne_iff_ne.mpr he
  have H:=Option.some.inj h
  injection H with H1 H2
  subst H1
  subst H2
  clear he h
  go_enter Tryd.func15,Tryd.ntmps15
  go_wp2_with fail
  with_reducible refine HCk.out.mono ?_
  rintro e w1 ⟨rfl,hb1⟩
  have HB1:=Aside0.mk hb1
  clear hb1 HCk
  go_wp2
  go_ret2
  exact ⟨_,rfl,Kd.R_nil _ _ _ _ _,HB1.out⟩
end Go.Proofs.YtbgniepcoaiinaaDoor.Px
namespace Go.Proofs.YtbgniepcoaiinaaDoor.Px
open Go.RowKit Go.Proofs.YtbgniepcoaiinaaDoorW.PrintWords Go.Proofs.YtbgniepcoaiinaaDoorW.PrintLast Go.Proofs.YtbgniepcoaiinaaDoorW.PrintMore
set_option linter.unusedVariables false
set_option linter.unusedSimpArgs false
theorem class_fresh.calls (w:World) :
  Calls Tryd.prog 13 #[] w fun e w' => ∃ g,e=.returned (.agg #[.pointer (some ⟨g,0,none⟩)])∧w.heap.size≤g∧IsWr w.heap.size w' g (.slice none 0 0) [] 1048576∧Below w.heap.size w w':=by
 go_enter Tryd.func13,Tryd.ntmps13
 go_wp2_with fail
 refine (wr_New.calls 1048576 _ (by decide) (by decide)).mono ?_
 rintro e w2 ⟨rfl,hI,hb⟩
 obtain ⟨wA,hwA⟩:∃ wA,wA=w.alloc (.cells #[.pointer none] 45 (0,0)):=⟨_,rfl⟩
 have hb1:Below w.heap.size w wA:=by rw [hwA];exact below_alloc (Below.refl _ _) _
 have hk:wA.heap[w.heap.size]?=some (.cells #[.pointer none] 45 (0,0)):=by rw [hwA];exact blk_new _ _
 have hsz:wA.heap.size=w.heap.size + 1:=by rw [hwA];simp
 rw [← hwA] at hI hb ⊢
 obtain ⟨g,hg⟩:∃ g,g=wA.heap.size:=⟨_,rfl⟩
 rw [← hg] at hI hb
 (try rw [← hg])
 have hk2:w2.heap[w.heap.size]?=some (.cells #[.pointer none] 45 (0,0)):=(hb.block _ (by omega)).trans hk
 have c2:w2.cell? ⟨w.heap.size,0,none⟩=some (.pointer none):=(blk_cell hk2 0).trans rfl
 have f2:w2.frozen? ⟨w.heap.size,0,none⟩=false:=blk_frozen hk2 0
 have HI:=Aside0.mk (show IsWr w.heap.size w2 g (.slice none 0 0) [] 1048576 from ⟨by omega,hI.blk,Kd.R_nil _ _ _ _ _⟩)
 have HB:=Aside0.mk (hb1.trans (hb.mono (by omega)))
 have HK:=Aside0.mk hk2
 have HG:Aside0 (w.heap.size≤g):=⟨by omega⟩
 clear hwA hb1 hk hsz hI hb hg hk2
 go_wp2
 refine bodyPost_ret (v:=.agg #[.pointer (some ⟨g,0,none⟩)]) ?_ rfl ?_
 ·have hk3:=blk_set HK.out 0 (.pointer (some ⟨g,0,none⟩))
  have c3:=(blk_cell hk3 0).trans rfl
  simp [results,Tryd.results13,go_sem,c3]
 ·exact ⟨g,rfl,HG.out,⟨HI.out.ge,blk_far HI.out.blk (blk_ne HI.out.blk HK.out (by decide)) _,Kd.R_nil _ _ _ _ _⟩,below_set HB.out (Nat.le_refl _)⟩
theorem fewer {i n:Nat} (h:i < n) (hw:wrap64 ((i:Int) + 1)=(i:Int) + 1):n - (intOf (.int .i64 (wrap64 ((i:Int) + 1)))).toNat < n - (intOf (.int .i64 (i:Int))).toNat:=by
 rw [hw]
 show n - ((i:Int) + 1).toNat < n - ((i:Int)).toNat
 omega
def wTwos:List Int→List Int→Option (List Int)
 | [],bs => some bs
 | x :: l,bs => (wU 2 x bs).bind (wTwos l)
def wLong (ys bs:List Int):Option (List Int):=(wU 4 (ys.length:Int) bs).bind (wB ys)
abbrev intRow (l:List Int):Obj:=.cells (l.map (Value.int .i64)).toArray 3 (0,0)
theorem row_cell {w:World} {a i:Nat} {l:List Int} (h:w.heap[a]?=some (intRow l)) (hi:i < l.length):w.cell? ⟨a,i,none⟩=some (.int .i64 (rd l (i:Int))):=by
 rw [blk_cell h i]
 simp [rd,List.getD_eq_getElem?_getD,List.getElem?_eq_getElem hi,hi]
structure TwoAt (B:Nat) (w:World) (g:Nat) (v:Value) (a:Nat) (l:List Int) (W:World) (cur:List Int) (vr:Value):Prop where
 I:IsWr B W g vr cur 1048576
 S:WrStep B w W g v vr
 ka:W.heap[a]?=some (intRow l)
 kb:W.heap[a + 1]?=some (.cells #[.pointer (some ⟨g,0,none⟩)] 45 (0,0))
 fa:WrFar W g vr a
 fb:WrFar W g vr (a + 1)
theorem two_start {B:Nat} {w wB:World} {g a:Nat} {v:Value} {bs l:List Int} (h:IsWr B w g v bs 1048576) (hw:wB=(w.alloc (intRow l)).alloc (.cells #[.pointer (some ⟨g,0,none⟩)] 45 (0,0))) (ha:a=w.heap.size):TwoAt B w g v a l wB bs v:=by
 have hb:Below w.heap.size w wB:=by rw [hw];exact below_alloc (below_alloc (Below.refl _ _) _) _
 have hka:wB.heap[a]?=some (intRow l):=by
  rw [hw,ha,heap_alloc_old _ _ (by simp)]
  exact heap_alloc_new w _
 have hkb:wB.heap[a + 1]?=some (.cells #[.pointer (some ⟨g,0,none⟩)] 45 (0,0)):=by
  rw [hw,ha]
  simpa using heap_alloc_new (w.alloc (intRow l)) (.cells #[.pointer (some ⟨g,0,none⟩)] 45 (0,0))
 exact ⟨h.below hb,⟨hb.mono h.base_le,KeepBut.of_below hb _ _,.inl rfl⟩,hka,hkb,h.far_new (w1:=wB) (k:=a) (by omega) (blk_lt hka),h.far_new (w1:=wB) (k:=a + 1) (by omega) (blk_lt hkb)⟩
theorem TwoAt.step {B:Nat} {w W W':World} {g a:Nat} {v vr v3:Value} {l cur b1:List Int} (h:TwoAt B w g v a l W cur vr) (hI:IsWr B W' g v3 b1 1048576) (hS:WrStep B W W' g vr v3):TwoAt B w g v a l W' b1 v3 :=
 ⟨hI,h.S.trans hS,hS.blk h.fa h.ka,hS.blk h.fb h.kb,hS.far h.fa,hS.far h.fb⟩
set_option maxHeartbeats 8000000 in
set_option maxRecDepth 100000 in
theorem file_two.calls (B g:Nat) (v:Value) (bs r l:List Int) (w:World) (hI:IsWr B w g v bs 1048576) (hl:l.length≤64) (h:wTwos l bs=some r) :
  Calls Tryd.prog 17 #[.agg #[.pointer (some ⟨g,0,none⟩)],.slice (some ⟨w.heap.size,0,none⟩) l.length l.length] (w.alloc (intRow l)) fun e w' => e=.returned (.tuple #[])∧WrPost B w g v r 1048576 w':=by
 have HI:=Aside0.mk hI
 have H0:=Aside0.mk h
 have HL:=Aside0.mk hl
 clear hI h hl
 go_enter Tryd.func17,Tryd.ntmps17
 go_wp2
 obtain ⟨a,ha⟩:∃ a,a=w.heap.size:=⟨_,rfl⟩
 obtain ⟨wB,hwB⟩:∃ wB,wB=(w.alloc (intRow l)).alloc (.cells #[.pointer (some ⟨g,0,none⟩)] 45 (0,0)):=⟨_,rfl⟩
 have hS:=two_start HI.out hwB ha
 rw [← hwB,← ha]
 have HA0:=Aside0.mk hS
 clear hwB ha hS
 go_loopw [8] (fun vi wr => ∃ (i:Nat) (cur:List Int) (vr:Value),vi=.int .i64 (i:Int)∧Aside0 (i≤l.length)∧Aside0 (wTwos (l.drop i) cur=some r)∧Aside0 (TwoAt B w g v a l wr cur vr)) (fun vi _ => (l.length - (intOf vi).toNat))
 case atStart => exact ⟨0,bs,v,rfl,⟨Nat.zero_le _⟩,H0,HA0⟩
 case round =>
  obtain ⟨i,cur,vr,rfl,HLI,HT,HAr⟩:=hrel
  clear HA0 H0
  by_cases hlt:i < l.length
  ·have hpi:decide ((i:Int) < (l.length:Int))=true:=decide_eq_true (by omega)
   have hpn:decide (i < l.length)=true:=decide_eq_true hlt
   have hpt:(i < l.length)=True:=eq_true hlt
   have hge:(0≤(i:Int))=True:=eq_true (by omega)
   have hx:wr.cell? ⟨a,i,none⟩=some (.int .i64 (rd l (i:Int))):=row_cell HAr.out.ka hlt
   have hc:wr.cell? ⟨a + 1,0,none⟩=some (.pointer (some ⟨g,0,none⟩)):=(blk_cell HAr.out.kb 0).trans rfl
   have hT:=HT.out
   have hdr:l.drop i=rd l (i:Int) :: l.drop (i + 1):=by
    rw [List.drop_eq_getElem_cons hlt]
    congr 1
    simp [rd,List.getD_eq_getElem?_getD,List.getElem?_eq_getElem hlt]
   rw [hdr] at hT
   obtain ⟨b1,hU,hN⟩:=Option.bind_eq_some_iff.mp hT
   have HU:=Aside0.mk hU
   have HN:=Aside0.mk hN
   have h0:=(wU_some hU).1.2.1
   have h1:rd l (i:Int) < 65536:=(wU_some hU).1.2.2
   have hwi:wrap64 ((i:Int) + 1)=(i:Int) + 1:=by have:=HL.out;unfold wrap64;omega
   clear hT hdr hU hN HT hlt
   go_wp2_with fail
   refine (wr_U (n:=2) HAr.out.I (by decide) (by decide) HU.out).mono ?_
   rintro e w3 ⟨rfl,v3,hI3,hS3⟩
   have HA3:=Aside0.mk (HAr.out.step hI3 hS3)
   clear hI3 hS3 hx hc
   go_wp2
   go_roundw
   case measure => exact fewer (of_decide_eq_true hpn) hwi
   case rel =>
    rw [hwi]
    exact ⟨i + 1,b1,v3,rfl,⟨of_decide_eq_true hpn⟩,HN,HA3⟩
  ·have hpi:decide ((i:Int) < (l.length:Int))=false:=decide_eq_false (by omega)
   have hpn:decide (i < l.length)=false:=decide_eq_false hlt
   have hT:=HT.out
   rw [List.drop_eq_nil_of_le (by omega)] at hT
   have e:=Option.some.inj hT
   subst e
   clear hT HT hlt
   go_wp2
   go_end0
   exact ⟨rfl,vr,HAr.out.I,HAr.out.S⟩
set_option maxHeartbeats 8000000 in
set_option maxRecDepth 100000 in
theorem file_long.calls (B g:Nat) (v:Value) (bs r ys:List Int) (A:Option Addr) (c:Nat) (w:World) (hI:IsWr B w g v bs 1048576) (hy:∀ w' v',WrStep B w w' g v v'→(Kd.int .u8).C w' A ys.length ys) (h:wLong ys bs=some r) :
  Calls Tryd.prog 19 #[.agg #[.pointer (some ⟨g,0,none⟩)],.slice A ys.length c] w fun e w' => e=.returned (.tuple #[])∧WrPost B w g v r 1048576 w':=by
 unfold wLong at h
 obtain ⟨b1,hU,hB⟩:=Option.bind_eq_some_iff.mp h
 have HI:=Aside0.mk hI
 have HU:=Aside0.mk hU
 have HB:=Aside0.mk hB
 have HY:=Aside0.mk hy
 have hl1:(ys.length:Int) < 4294967296:=(wU_some hU).1.2.2
 clear hI hU hB hy h
 go_enter Tryd.func19,Tryd.ntmps19
 go_wp2_with fail
 obtain ⟨a,ha⟩:∃ a,a=w.heap.size:=⟨_,rfl⟩
 obtain ⟨wB,hwB⟩:∃ wB,wB=w.alloc (.cells #[.pointer (some ⟨g,0,none⟩)] 45 (0,0)):=⟨_,rfl⟩
 have hb:Below w.heap.size w wB:=by rw [hwB];exact below_alloc (Below.refl _ _) _
 have hkb:wB.heap[a]?=some (.cells #[.pointer (some ⟨g,0,none⟩)] 45 (0,0)):=by rw [hwB,ha];exact blk_new _ _
 rw [← hwB]
 (try rw [← ha])
 have HIB:=Aside0.mk (HI.out.below hb)
 have HFb:=Aside0.mk (HI.out.far_new (w1:=wB) (k:=a) (by omega) (blk_lt hkb))
 have HKb:=Aside0.mk hkb
 have HS0:Aside0 (WrStep B w wB g v v):=⟨⟨hb.mono HI.out.base_le,KeepBut.of_below hb _ _,.inl rfl⟩⟩
 clear hwB hb hkb ha
 refine (wr_U (n:=4) HIB.out (by decide) (by decide) HU.out).mono ?_
 rintro e w3 ⟨rfl,v3,hI3,hS3⟩
 have HI3:=Aside0.mk hI3
 have HS3:=Aside0.mk (HS0.out.trans hS3)
 have HKb3:=Aside0.mk (hS3.blk HFb.out HKb.out)
 have hc3:w3.cell? ⟨a,0,none⟩=some (.pointer (some ⟨g,0,none⟩)):=(blk_cell HKb3.out 0).trans rfl
 clear hI3 hS3 HKb HFb HIB HS0
 go_wp2_with fail
 refine (wr_B HI3.out (HY.out _ _ HS3.out) HB.out).mono ?_
 rintro e w4 ⟨rfl,v4,hI4,hS4⟩
 have HI4:=Aside0.mk hI4
 have HS4:=Aside0.mk (HS3.out.trans hS4)
 clear hI4 hS4
 go_wp2
 go_end0
 exact ⟨rfl,v4,HI4.out,HS4.out⟩
end Go.Proofs.YtbgniepcoaiinaaDoor.Px
namespace Go.Proofs.YtbgniepcoaiinaaDoor.Px
open Go.RowKit Go.Proofs.YtbgniepcoaiinaaDoorW.PrintWords Go.Proofs.YtbgniepcoaiinaaDoorW.PrintLast Go.Proofs.YtbgniepcoaiinaaDoorW.PrintMore
attribute [local go_sem] max2_int min2_int max_two min_two max_three min_three max_four min_four
set_option linter.unusedVariables false
set_option linter.unusedSimpArgs false
def pool_Text.f (l0:List (S67)) (a1:Int):Option (ByteArray × Bool):=(pool_is.f l0 a1 1).bind fun t126 => (if t126=true then (if 0≤a1 then (if a1 < (l0.length:Int) then (some ((rd_T67 l0 a1).f1,true)) else (none)) else (none)) else (some ((⟨#[]⟩:ByteArray),false)))
set_option maxHeartbeats 80000000 in
set_option maxRecDepth 100000 in
theorem pool_Text.calls (A0:Option Addr) (c0:Nat) (l0:List (S67)) (a1:Int) (r1:ByteArray) (r2:Bool) (w:World) (hr0:Kd.C k67 w A0 l0.length l0) (hc0:l0.length≤c0) (h:pool_Text.f l0 a1=some (r1,r2)) :
  Calls Tryd.prog 42 #[.slice A0 l0.length c0,.int .i64 a1] w fun e w' => e=.returned (.tuple #[.string r1,.bool r2])∧Drawn0 w w':=by
 have HR0:=Aside0.mk hr0
 have HC0:=Aside0.mk hc0
 clear hr0 hc0
 have H:((pool_is.f l0 a1 1).bind fun t126 => (if t126=true then (if 0≤a1 then (if a1 < (l0.length:Int) then (some ((rd_T67 l0 a1).f1,true)) else (none)) else (none)) else (some ((⟨#[]⟩:ByteArray),false))))=some (r1,r2):=h
 clear h
 replace H:=Option.bind_eq_some_iff.mp H
 obtain ⟨t126,A30,H⟩:=H
 replace H:(if t126=true then (if 0≤a1 then (if a1 < (l0.length:Int) then (some ((rd_T67 l0 a1).f1,true)) else (none)) else (none)) else (some ((⟨#[]⟩:ByteArray),false)))=some (r1,r2):=H
 have A3:=Aside0.mk A30
 clear A30
 by_cases c4:t126=true
 ·subst c4
  have H1:(if 0≤a1 then (if a1 < (l0.length:Int) then (some ((rd_T67 l0 a1).f1,true)) else (none)) else (none))=some (r1,r2):=by rw [if_pos rfl] at H;exact H
  clear H
  have H:=H1
  clear H1
  by_cases c5:0≤a1
  ·rw [if_pos c5] at H
   have c5b0:decide (0≤a1)=true:=decide_eq_true c5
   clear c5
   by_cases c6:a1 < (l0.length:Int)
   ·rw [if_pos c6] at H
    have c6b0:decide (a1 < (l0.length:Int))=true:=decide_eq_true c6
    clear c6
    simp only [Option.some.injEq,Prod.mk.injEq] at H
    obtain ⟨rfl,rfl⟩:=H
    go_enter Tryd.func42,Tryd.ntmps42
    go_wp2_with (first|((with_reducible refine gate_callee (f:=66) rfl ?_);refine goesL_ (some 8) rfl rfl Tryd.func66 (by kernel_rfl) rfl #[.slice A0 l0.length c0,.int .i64 a1,.int .i64 1] rfl (by (try simp only [List.map_toArray,List.map_cons,List.map_nil]);first|done|rfl|(simp only [List.length_drop,List.length_take];rfl)) ?_;(with_reducible refine (pool_is.calls _ _ l0 a1 1 true _ ?side1 ?side2 A3.out).mono ?_);(case side1 => repeat (first|exact HR0.out|(with_reducible refine Kd.C_alloc ?_ _)|(with_reducible refine Kd.C_drewN ?_ _)|(with_reducible refine Kd.C_drew ?_)));(case side2 => exact HC0.out);rintro e w' ⟨rfl,⟨nd,rfl⟩⟩;refine ⟨_,rfl,?_⟩;have p127:0≤(a1:Int):=of_decide_eq_true (by first|(with_reducible assumption)|assumption);have q127:a1 < (l0.length:Int):=of_decide_eq_true (by first|(with_reducible assumption)|assumption);obtain ⟨ad127,e127,hx127_0,hx127_1,hx127_2,hx127_3,hx127_4⟩:=at_T67 HR0.out a1 p127 q127;cases e127;replace p127:=eq_true p127;replace q127:=eq_true q127))
    go_ret2
    exact ⟨by first|rfl|(simp;done)|(simp [*];done),by repeat (first|exact Drawn0.refl _|apply Drawn0.step)⟩
   ·rw [if_neg c6] at H
    exact absurd H (by simp)
  ·rw [if_neg c5] at H
   exact absurd H (by simp)
 ·replace c4:=Bool.eq_false_iff.mpr c4
  subst c4
  have H1:(some ((⟨#[]⟩:ByteArray),false))=some (r1,r2):=by rw [if_neg (show ¬ (false=true) by decide)] at H;exact H
  clear H
  have H:=H1
  clear H1
  simp only [Option.some.injEq,Prod.mk.injEq] at H
  obtain ⟨rfl,rfl⟩:=H
  go_enter Tryd.func42,Tryd.ntmps42
  go_wp2_with (first|((with_reducible refine gate_callee (f:=66) rfl ?_);refine goesL_ (some 8) rfl rfl Tryd.func66 (by kernel_rfl) rfl #[.slice A0 l0.length c0,.int .i64 a1,.int .i64 1] rfl (by (try simp only [List.map_toArray,List.map_cons,List.map_nil]);first|done|rfl|(simp only [List.length_drop,List.length_take];rfl)) ?_;(with_reducible refine (pool_is.calls _ _ l0 a1 1 false _ ?side1 ?side2 A3.out).mono ?_);(case side1 => repeat (first|exact HR0.out|(with_reducible refine Kd.C_alloc ?_ _)|(with_reducible refine Kd.C_drewN ?_ _)|(with_reducible refine Kd.C_drew ?_)));(case side2 => exact HC0.out);rintro e w' ⟨rfl,⟨nd,rfl⟩⟩;refine ⟨_,rfl,?_⟩))
  go_ret2
  exact ⟨by first|rfl|(simp;done)|(simp [*];done),by repeat (first|exact Drawn0.refl _|apply Drawn0.step)⟩
def pool_Class.f (l0:List (S67)) (a1:Int):Option (ByteArray × Bool):=(pool_is.f l0 a1 7).bind fun t128 => (if t128=true then (if 0≤a1 then (if a1 < (l0.length:Int) then ((pool_Text.f l0 ((rd_T67 l0 a1).f3)).bind fun bt130 => (some (bt130.1,bt130.2))) else (none)) else (none)) else (some ((⟨#[]⟩:ByteArray),false)))
set_option maxHeartbeats 80000000 in
set_option maxRecDepth 100000 in
theorem pool_Class.calls (A0:Option Addr) (c0:Nat) (l0:List (S67)) (a1:Int) (r1:ByteArray) (r2:Bool) (w:World) (hr0:Kd.C k67 w A0 l0.length l0) (hc0:l0.length≤c0) (h:pool_Class.f l0 a1=some (r1,r2)) :
  Calls Tryd.prog 49 #[.slice A0 l0.length c0,.int .i64 a1] w fun e w' => e=.returned (.tuple #[.string r1,.bool r2])∧Drawn0 w w':=by
 have HR0:=Aside0.mk hr0
 have HC0:=Aside0.mk hc0
 clear hr0 hc0
 have H:((pool_is.f l0 a1 7).bind fun t128 => (if t128=true then (if 0≤a1 then (if a1 < (l0.length:Int) then ((pool_Text.f l0 ((rd_T67 l0 a1).f3)).bind fun bt130 => (some (bt130.1,bt130.2))) else (none)) else (none)) else (some ((⟨#[]⟩:ByteArray),false))))=some (r1,r2):=h
 clear h
 replace H:=Option.bind_eq_some_iff.mp H
 obtain ⟨t128,A30,H⟩:=H
 replace H:(if t128=true then (if 0≤a1 then (if a1 < (l0.length:Int) then ((pool_Text.f l0 ((rd_T67 l0 a1).f3)).bind fun bt130 => (some (bt130.1,bt130.2))) else (none)) else (none)) else (some ((⟨#[]⟩:ByteArray),false)))=some (r1,r2):=H
 have A3:=Aside0.mk A30
 clear A30
 by_cases c4:t128=true
 ·subst c4
  have H1:(if 0≤a1 then (if a1 < (l0.length:Int) then ((pool_Text.f l0 ((rd_T67 l0 a1).f3)).bind fun bt130 => (some (bt130.1,bt130.2))) else (none)) else (none))=some (r1,r2):=by rw [if_pos rfl] at H;exact H
  clear H
  have H:=H1
  clear H1
  by_cases c5:0≤a1
  ·rw [if_pos c5] at H
   have c5b0:decide (0≤a1)=true:=decide_eq_true c5
   clear c5
   by_cases c6:a1 < (l0.length:Int)
   ·rw [if_pos c6] at H
    have c6b0:decide (a1 < (l0.length:Int))=true:=decide_eq_true c6
    clear c6
    replace H:=Option.bind_eq_some_iff.mp H
    obtain ⟨⟨t130,t131⟩,A70,H⟩:=H
    replace H:(some (t130,t131))=some (r1,r2):=H
    have A7:=Aside0.mk A70
    clear A70
    simp only [Option.some.injEq,Prod.mk.injEq] at H
    obtain ⟨rfl,rfl⟩:=H
    go_enter Tryd.func49,Tryd.ntmps49
    go_wp2_with (first|((with_reducible refine gate_callee (f:=66) rfl ?_);refine goesL_ (some 8) rfl rfl Tryd.func66 (by kernel_rfl) rfl #[.slice A0 l0.length c0,.int .i64 a1,.int .i64 7] rfl (by (try simp only [List.map_toArray,List.map_cons,List.map_nil]);first|done|rfl|(simp only [List.length_drop,List.length_take];rfl)) ?_;(with_reducible refine (pool_is.calls _ _ l0 a1 7 true _ ?side1 ?side2 A3.out).mono ?_);(case side1 => repeat (first|exact HR0.out|(with_reducible refine Kd.C_alloc ?_ _)|(with_reducible refine Kd.C_drewN ?_ _)|(with_reducible refine Kd.C_drew ?_)));(case side2 => exact HC0.out);rintro e w' ⟨rfl,⟨nd,rfl⟩⟩;refine ⟨_,rfl,?_⟩;have p129:0≤(a1:Int):=of_decide_eq_true (by first|(with_reducible assumption)|assumption);have q129:a1 < (l0.length:Int):=of_decide_eq_true (by first|(with_reducible assumption)|assumption);obtain ⟨ad129,e129,hx129_0,hx129_1,hx129_2,hx129_3,hx129_4⟩:=at_T67 HR0.out a1 p129 q129;cases e129;replace p129:=eq_true p129;replace q129:=eq_true q129)|((with_reducible refine gate_callee (f:=42) rfl ?_);refine goesL_ (some 16) rfl rfl Tryd.func42 (by kernel_rfl) rfl #[.slice (some ad129) l0.length c0,.int .i64 ((rd_T67 l0 a1).f3)] rfl (by (try simp only [List.map_toArray,List.map_cons,List.map_nil]);first|done|rfl|(simp only [List.length_drop,List.length_take];rfl)) ?_;(with_reducible refine (pool_Text.calls _ _ l0 ((rd_T67 l0 a1).f3) t130 t131 _ ?side1 ?side2 A7.out).mono ?_);(case side1 => repeat (first|exact HR0.out|(with_reducible refine Kd.C_alloc ?_ _)|(with_reducible refine Kd.C_drewN ?_ _)|(with_reducible refine Kd.C_drew ?_)));(case side2 => exact HC0.out);rintro e w' ⟨rfl,⟨nd,rfl⟩⟩;refine ⟨_,rfl,?_⟩))
    go_ret2
    exact ⟨by first|rfl|(simp;done)|(simp [*];done),by repeat (first|exact Drawn0.refl _|apply Drawn0.step)⟩
   ·rw [if_neg c6] at H
    exact absurd H (by simp)
  ·rw [if_neg c5] at H
   exact absurd H (by simp)
 ·replace c4:=Bool.eq_false_iff.mpr c4
  subst c4
  have H1:(some ((⟨#[]⟩:ByteArray),false))=some (r1,r2):=by rw [if_neg (show ¬ (false=true) by decide)] at H;exact H
  clear H
  have H:=H1
  clear H1
  simp only [Option.some.injEq,Prod.mk.injEq] at H
  obtain ⟨rfl,rfl⟩:=H
  go_enter Tryd.func49,Tryd.ntmps49
  go_wp2_with (first|((with_reducible refine gate_callee (f:=66) rfl ?_);refine goesL_ (some 8) rfl rfl Tryd.func66 (by kernel_rfl) rfl #[.slice A0 l0.length c0,.int .i64 a1,.int .i64 7] rfl (by (try simp only [List.map_toArray,List.map_cons,List.map_nil]);first|done|rfl|(simp only [List.length_drop,List.length_take];rfl)) ?_;(with_reducible refine (pool_is.calls _ _ l0 a1 7 false _ ?side1 ?side2 A3.out).mono ?_);(case side1 => repeat (first|exact HR0.out|(with_reducible refine Kd.C_alloc ?_ _)|(with_reducible refine Kd.C_drewN ?_ _)|(with_reducible refine Kd.C_drew ?_)));(case side2 => exact HC0.out);rintro e w' ⟨rfl,⟨nd,rfl⟩⟩;refine ⟨_,rfl,?_⟩))
  go_ret2
  exact ⟨by first|rfl|(simp;done)|(simp [*];done),by repeat (first|exact Drawn0.refl _|apply Drawn0.step)⟩
def class_rules_class.l0:Nat→List Int→Int→Int→List (S67)→Option (Bool)
 | 0,_,_,_,_ => none
 | k + 1,x9,x10,x11,x133000 => if x11 < x10 then (if 0≤x11 then (if x11 < (x9.length:Int) then ((pool_Class.f x133000 (rd x9 x11)).bind fun bt134 => (if bt134.2=true then (class_rules_class.l0 k x9 x10 (wrap64 (x11 + 1)) x133000) else (some false))) else (none)) else (none)) else (some true)
def class_rules_class.f (k:Nat) (l0_0:List (S67)) (l1:List Int):Option (Bool):=class_rules_class.l0 k l1 (l1.length:Int) 0 l0_0
theorem class_rules_class.mono_l:∀ k,(∀ y0 y1 y2 y3,LeO (class_rules_class.l0 k y0 y1 y2 y3) (class_rules_class.l0 (k + 1) y0 y1 y2 y3))
 | 0 => fun _ _ _ _ r h => by simp [class_rules_class.l0] at h
 | k + 1 => by
  have ih0:=class_rules_class.mono_l k
  ·intro y0 y1 y2 y3
   unfold class_rules_class.l0
   repeat' first
   | (with_reducible exact ih0 _ _ _ _)
   | (with_reducible exact LeO.refl _)
   | (with_reducible exact LeO.none _)
   | (with_reducible refine LeO.ite ?_ ?_)
   | (with_reducible refine LeO.bind ?_ (fun _ => ?_))
   | exact ih0 _ _ _ _
   | exact LeO.none _
   | refine LeO.ite ?_ ?_
   | refine LeO.bind ?_ (fun _ => ?_)
theorem class_rules_class.mono:∀ a0 a1 k,LeO (class_rules_class.f k a0 a1) (class_rules_class.f (k + 1) a0 a1):=by
 intro a0 a1 k
 have ih0:=class_rules_class.mono_l k
 unfold class_rules_class.f
 repeat' first
   | (with_reducible exact ih0 _ _ _ _)
   | (with_reducible exact LeO.refl _)
   | (with_reducible exact LeO.none _)
   | (with_reducible refine LeO.ite ?_ ?_)
   | (with_reducible refine LeO.bind ?_ (fun _ => ?_))
   | exact ih0 _ _ _ _
   | exact LeO.none _
   | refine LeO.ite ?_ ?_
   | refine LeO.bind ?_ (fun _ => ?_)
set_option maxHeartbeats 80000000 in
set_option maxRecDepth 100000 in
theorem class_rules_class.calls (k:Nat) (A0_0:Option Addr) (c0_0:Nat) (l0_0:List (S67)) (A1:Option Addr) (c1:Nat) (l1:List Int) (r:Bool) (w:World) (hr0_0:Kd.C k67 w A0_0 l0_0.length l0_0) (hc0_0:l0_0.length≤c0_0) (hr1:Kd.C (Kd.int .i64) w A1 l1.length l1) (hc1:l1.length≤c1) (h:class_rules_class.f k l0_0 l1=some r) :
  Calls Tryd.prog 30 #[.agg #[.slice A0_0 l0_0.length c0_0],.slice A1 l1.length c1] w fun e w' => e=.returned (.bool r)∧Below w.heap.size w w':=by
 have hu71:=Tryd.underlying71
 have HR0_0:=Aside0.mk hr0_0
 have HC0_0:=Aside0.mk hc0_0
 clear hr0_0 hc0_0
 have HR1:=Aside0.mk hr1
 have HC1:=Aside0.mk hc1
 clear hr1 hc1
 have HB:=Aside0.mk (Below.refl w.heap.size w)
 have H:(class_rules_class.l0 k l1 (l1.length:Int) 0 l0_0)=some r:=h
 clear h
 have H':=Aside0.mk H
 clear H
 go_enter Tryd.func30,Tryd.ntmps30
 go_wp2_with (first|((with_reducible refine gate_dst (N:=2) rfl ?_);refine box_event ?hg (N:=2) ?hd (cs:=#[.slice A0_0 l0_0.length c0_0]) (t:=71) ?hr ?_;(case hd => rfl);(case hg => rfl);(case hr => first|(go_simp;done)|(go_simp;rfl));intro gb132 hg w3 hbox hb;have n0_:=Aside0.mk (below_step (by repeat (first|(with_reducible first|exact HB.out|apply below_alloc|apply pw_below_drewN|apply below_drew1)|exact HB.out)) hb);have n1_:=Aside0.mk (hbox);have n2_:=Aside0.mk ((by rw [hg];exact (below_size (by repeat (first|(with_reducible first|exact HB.out|apply below_alloc|apply pw_below_drewN|apply below_drew1)|exact HB.out))):w.heap.size≤gb132));have n3_:=Aside0.mk ((by rw [hg];exact (below_size (by repeat (first|(with_reducible first|exact HB.out|apply below_alloc|apply pw_below_drewN|apply below_drew1)|exact HB.out))):w.heap.size≤gb132));clear HB;have HB:=n0_;have BK132:=n1_;have GW132:=n2_;have GE132:=n3_;clear n0_ n1_ n2_ n3_;clear hb hbox hg))
 go_loopg [11] k (fun kq v11 w' => ∃ (x11_1:Int),v11=.int .i64 x11_1∧Aside0 (class_rules_class.l0 kq l1 (l1.length:Int) x11_1 l0_0=some r)∧Aside0 (kq≤k)∧Aside0 (w'.heap[gb132]?=some (.cells #[(.slice A0_0 l0_0.length c0_0)] 71 (0,0)))∧Aside0 (Below w.heap.size w w'))
 case atStart => exact ⟨(0),(by first|rfl|(simp;done)|(simp [*];done)),H',⟨Nat.le_refl _⟩,⟨by (with_reducible repeat (first|refine blk_drewN ?_ _|refine blk_drew ?_|refine blk_alloc ?_ _));exact BK132.out⟩,⟨by repeat (first|(with_reducible first|exact HB.out|apply below_alloc|apply pw_below_drewN|apply below_drew1|refine below_set ?_ GE132.out)|exact HB.out)⟩⟩
 case round =>
  clear H'
  try clear c1;try clear p2;try clear c3
  obtain ⟨x11_1,rfl,HA,HK1,BK132,HB⟩:=hrel
  cases gk with
  | zero => exact absurd HA.out (by simp [class_rules_class.l0])
  | succ k1 =>
   have H:=HA.out
   clear HA
   simp only [class_rules_class.l0] at H
   by_cases c4:x11_1 < (l1.length:Int)
   ·rw [if_pos c4] at H
    have c4b0:decide (x11_1 < (l1.length:Int))=true:=decide_eq_true c4
    clear c4
    by_cases c5:0≤x11_1
    ·rw [if_pos c5] at H
     have c5b0:decide (0≤x11_1)=true:=decide_eq_true c5
     clear c5
     by_cases c6:x11_1 < (l1.length:Int)
     ·rw [if_pos c6] at H
      have c6b0:decide (x11_1 < (l1.length:Int))=true:=decide_eq_true c6
      clear c6
      replace H:=Option.bind_eq_some_iff.mp H
      obtain ⟨⟨t134,t135⟩,A70,H⟩:=H
      replace H:(if t135=true then (class_rules_class.l0 k1 l1 (l1.length:Int) (wrap64 (x11_1 + 1)) l0_0) else (some false))=some r:=H
      have A7:=Aside0.mk A70
      clear A70
      by_cases c8:t135=true
      ·subst c8
       have H1:(class_rules_class.l0 k1 l1 (l1.length:Int) (wrap64 (x11_1 + 1)) l0_0)=some r:=by rw [if_pos rfl] at H;exact H
       clear H
       have H:=H1
       clear H1
       have H':=Aside0.mk H
       clear H
       have p133:0≤(x11_1:Int):=of_decide_eq_true (by first|(with_reducible assumption)|assumption)
       have q133:x11_1 < (l1.length:Int):=of_decide_eq_true (by first|(with_reducible assumption)|assumption)
       obtain ⟨ad133,e133,hx133_0⟩:=Kd.at_int HR1.out x11_1 p133 q133
       cases e133
       replace hx133_0:=(HB.out.cell (World.block_lt_of_cell? w _ hx133_0)).trans hx133_0
       replace p133:=eq_true p133
       replace q133:=eq_true q133
       have hcz9_0:wr.cell? ⟨gb132,0,none⟩=some (.slice A0_0 l0_0.length c0_0):=(blk_cell BK132.out 0).trans rfl
       have hfz9_0:=blk_frozen BK132.out 0
       go_wp2_with (first|((with_reducible refine gate_callee (f:=49) rfl ?_);refine goesL_ (some 19) rfl rfl Tryd.func49 (by kernel_rfl) rfl #[.slice A0_0 l0_0.length c0_0,.int .i64 (rd l1 x11_1)] rfl (by (try simp only [List.map_toArray,List.map_cons,List.map_nil]);first|done|rfl|(simp only [List.length_drop,List.length_take];rfl)) ?_;(with_reducible refine (pool_Class.calls _ _ l0_0 (rd l1 x11_1) t134 true _ ?side1 ?side2 A7.out).mono ?_);(case side1 => repeat (first|exact (Kd.C_below HR0_0.out HB.out)|(with_reducible refine Kd.C_alloc ?_ _)|(with_reducible refine Kd.C_drewN ?_ _)|(with_reducible refine Kd.C_drew ?_)));(case side2 => exact HC0_0.out);rintro e w' ⟨rfl,⟨nd,rfl⟩⟩;refine ⟨_,rfl,?_⟩))
       go_roundg k1
       case measure => have:=HK1.out;omega
       case rel => exact ⟨(wrap64 (x11_1 + 1)),(by first|rfl|(simp;done)|(simp [*];done)),H',⟨by have:=HK1.out;omega⟩,⟨by (with_reducible repeat (first|refine blk_drewN ?_ _|refine blk_drew ?_|refine blk_alloc ?_ _));exact BK132.out⟩,⟨by repeat (first|(with_reducible first|exact HB.out|apply below_alloc|apply pw_below_drewN|apply below_drew1|refine below_set ?_ GE132.out)|exact HB.out)⟩⟩
      ·replace c8:=Bool.eq_false_iff.mpr c8
       subst c8
       have H1:(some false)=some r:=by rw [if_neg (show ¬ (false=true) by decide)] at H;exact H
       clear H
       have H:=H1
       clear H1
       obtain rfl:=Option.some.inj H
       have p133:0≤(x11_1:Int):=of_decide_eq_true (by first|(with_reducible assumption)|assumption)
       have q133:x11_1 < (l1.length:Int):=of_decide_eq_true (by first|(with_reducible assumption)|assumption)
       obtain ⟨ad133,e133,hx133_0⟩:=Kd.at_int HR1.out x11_1 p133 q133
       cases e133
       replace hx133_0:=(HB.out.cell (World.block_lt_of_cell? w _ hx133_0)).trans hx133_0
       replace p133:=eq_true p133
       replace q133:=eq_true q133
       have hcz10_0:wr.cell? ⟨gb132,0,none⟩=some (.slice A0_0 l0_0.length c0_0):=(blk_cell BK132.out 0).trans rfl
       have hfz10_0:=blk_frozen BK132.out 0
       go_wp2_with (first|((with_reducible refine gate_callee (f:=49) rfl ?_);refine goesL_ (some 19) rfl rfl Tryd.func49 (by kernel_rfl) rfl #[.slice A0_0 l0_0.length c0_0,.int .i64 (rd l1 x11_1)] rfl (by (try simp only [List.map_toArray,List.map_cons,List.map_nil]);first|done|rfl|(simp only [List.length_drop,List.length_take];rfl)) ?_;(with_reducible refine (pool_Class.calls _ _ l0_0 (rd l1 x11_1) t134 false _ ?side1 ?side2 A7.out).mono ?_);(case side1 => repeat (first|exact (Kd.C_below HR0_0.out HB.out)|(with_reducible refine Kd.C_alloc ?_ _)|(with_reducible refine Kd.C_drewN ?_ _)|(with_reducible refine Kd.C_drew ?_)));(case side2 => exact HC0_0.out);rintro e w' ⟨rfl,⟨nd,rfl⟩⟩;refine ⟨_,rfl,?_⟩))
       go_ret
       exact ⟨by first|rfl|(simp [errW_none,errW_some] <;> rfl)|(simp [*,errW_none,errW_some] <;> rfl),by repeat (first|(with_reducible first|exact HB.out|apply below_alloc|apply pw_below_drewN|apply below_drew1|refine below_set ?_ GE132.out)|exact HB.out)⟩
     ·rw [if_neg c6] at H
      exact absurd H (by simp)
    ·rw [if_neg c5] at H
     exact absurd H (by simp)
   ·rw [if_neg c4] at H
    have c4b0:decide (x11_1 < (l1.length:Int))=false:=decide_eq_false c4
    clear c4
    obtain rfl:=Option.some.inj H
    go_wp2
    go_ret
    exact ⟨by first|rfl|(simp [errW_none,errW_some] <;> rfl)|(simp [*,errW_none,errW_some] <;> rfl),by repeat (first|(with_reducible first|exact HB.out|apply below_alloc|apply pw_below_drewN|apply below_drew1|refine below_set ?_ GE132.out)|exact HB.out)⟩
def class_flags.f (a0:Int):Option (Bool):=some ((Go.bits .andNot .i64 a0 8)==0)
set_option maxHeartbeats 80000000 in
set_option maxRecDepth 100000 in
theorem class_flags.calls (a0:Int) (r:Bool) (w:World) (h:class_flags.f a0=some r) :
  Calls Tryd.prog 31 #[.int .i64 a0] w fun e w' => e=.returned (.bool r)∧Drawn0 w w':=by
 have H:(some ((Go.bits .andNot .i64 a0 8)==0))=some r:=h
 clear h
 obtain rfl:=Option.some.inj H
 go_enter Tryd.func31,Tryd.ntmps31
 go_wp2
 go_ret
 exact ⟨by first|rfl|(simp;done)|(simp [*];done),by repeat (first|exact Drawn0.refl _|apply Drawn0.step)⟩
def class_rules_text.l0:Nat→List Int→Int→Int→List (S67)→Option (Bool)
 | 0,_,_,_,_ => none
 | k + 1,x9,x10,x11,x137000 => if x11 < x10 then (if 0≤x11 then (if x11 < (x9.length:Int) then ((pool_Text.f x137000 (rd x9 x11)).bind fun bt138 => (if bt138.2=true then (class_rules_text.l0 k x9 x10 (wrap64 (x11 + 1)) x137000) else (some false))) else (none)) else (none)) else (some true)
def class_rules_text.f (k:Nat) (l0_0:List (S67)) (l1:List Int):Option (Bool):=class_rules_text.l0 k l1 (l1.length:Int) 0 l0_0
theorem class_rules_text.mono_l:∀ k,(∀ y0 y1 y2 y3,LeO (class_rules_text.l0 k y0 y1 y2 y3) (class_rules_text.l0 (k + 1) y0 y1 y2 y3))
 | 0 => fun _ _ _ _ r h => by simp [class_rules_text.l0] at h
 | k + 1 => by
  have ih0:=class_rules_text.mono_l k
  ·intro y0 y1 y2 y3
   unfold class_rules_text.l0
   repeat' first
   | (with_reducible exact ih0 _ _ _ _)
   | (with_reducible exact LeO.refl _)
   | (with_reducible exact LeO.none _)
   | (with_reducible refine LeO.ite ?_ ?_)
   | (with_reducible refine LeO.bind ?_ (fun _ => ?_))
   | exact ih0 _ _ _ _
   | exact LeO.none _
   | refine LeO.ite ?_ ?_
   | refine LeO.bind ?_ (fun _ => ?_)
theorem class_rules_text.mono:∀ a0 a1 k,LeO (class_rules_text.f k a0 a1) (class_rules_text.f (k + 1) a0 a1):=by
 intro a0 a1 k
 have ih0:=class_rules_text.mono_l k
 unfold class_rules_text.f
 repeat' first
   | (with_reducible exact ih0 _ _ _ _)
   | (with_reducible exact LeO.refl _)
   | (with_reducible exact LeO.none _)
   | (with_reducible refine LeO.ite ?_ ?_)
   | (with_reducible refine LeO.bind ?_ (fun _ => ?_))
   | exact ih0 _ _ _ _
   | exact LeO.none _
   | refine LeO.ite ?_ ?_
   | refine LeO.bind ?_ (fun _ => ?_)
set_option maxHeartbeats 80000000 in
set_option maxRecDepth 100000 in
theorem class_rules_text.calls (k:Nat) (A0_0:Option Addr) (c0_0:Nat) (l0_0:List (S67)) (A1:Option Addr) (c1:Nat) (l1:List Int) (r:Bool) (w:World) (hr0_0:Kd.C k67 w A0_0 l0_0.length l0_0) (hc0_0:l0_0.length≤c0_0) (hr1:Kd.C (Kd.int .i64) w A1 l1.length l1) (hc1:l1.length≤c1) (h:class_rules_text.f k l0_0 l1=some r) :
  Calls Tryd.prog 32 #[.agg #[.slice A0_0 l0_0.length c0_0],.slice A1 l1.length c1] w fun e w' => e=.returned (.bool r)∧Below w.heap.size w w':=by
 have hu71:=Tryd.underlying71
 have HR0_0:=Aside0.mk hr0_0
 have HC0_0:=Aside0.mk hc0_0
 clear hr0_0 hc0_0
 have HR1:=Aside0.mk hr1
 have HC1:=Aside0.mk hc1
 clear hr1 hc1
 have HB:=Aside0.mk (Below.refl w.heap.size w)
 have H:(class_rules_text.l0 k l1 (l1.length:Int) 0 l0_0)=some r:=h
 clear h
 have H':=Aside0.mk H
 clear H
 go_enter Tryd.func32,Tryd.ntmps32
 go_wp2_with (first|((with_reducible refine gate_dst (N:=2) rfl ?_);refine box_event ?hg (N:=2) ?hd (cs:=#[.slice A0_0 l0_0.length c0_0]) (t:=71) ?hr ?_;(case hd => rfl);(case hg => rfl);(case hr => first|(go_simp;done)|(go_simp;rfl));intro gb136 hg w3 hbox hb;have n0_:=Aside0.mk (below_step (by repeat (first|(with_reducible first|exact HB.out|apply below_alloc|apply pw_below_drewN|apply below_drew1)|exact HB.out)) hb);have n1_:=Aside0.mk (hbox);have n2_:=Aside0.mk ((by rw [hg];exact (below_size (by repeat (first|(with_reducible first|exact HB.out|apply below_alloc|apply pw_below_drewN|apply below_drew1)|exact HB.out))):w.heap.size≤gb136));have n3_:=Aside0.mk ((by rw [hg];exact (below_size (by repeat (first|(with_reducible first|exact HB.out|apply below_alloc|apply pw_below_drewN|apply below_drew1)|exact HB.out))):w.heap.size≤gb136));clear HB;have HB:=n0_;have BK136:=n1_;have GW136:=n2_;have GE136:=n3_;clear n0_ n1_ n2_ n3_;clear hb hbox hg))
 go_loopg [11] k (fun kq v11 w' => ∃ (x11_1:Int),v11=.int .i64 x11_1∧Aside0 (class_rules_text.l0 kq l1 (l1.length:Int) x11_1 l0_0=some r)∧Aside0 (kq≤k)∧Aside0 (w'.heap[gb136]?=some (.cells #[(.slice A0_0 l0_0.length c0_0)] 71 (0,0)))∧Aside0 (Below w.heap.size w w'))
 case atStart => exact ⟨(0),(by first|rfl|(simp;done)|(simp [*];done)),H',⟨Nat.le_refl _⟩,⟨by (with_reducible repeat (first|refine blk_drewN ?_ _|refine blk_drew ?_|refine blk_alloc ?_ _));exact BK136.out⟩,⟨by repeat (first|(with_reducible first|exact HB.out|apply below_alloc|apply pw_below_drewN|apply below_drew1|refine below_set ?_ GE136.out)|exact HB.out)⟩⟩
 case round =>
  clear H'
  try clear c1;try clear p2;try clear c3
  obtain ⟨x11_1,rfl,HA,HK1,BK136,HB⟩:=hrel
  cases gk with
  | zero => exact absurd HA.out (by simp [class_rules_text.l0])
  | succ k1 =>
   have H:=HA.out
   clear HA
   simp only [class_rules_text.l0] at H
   by_cases c4:x11_1 < (l1.length:Int)
   ·rw [if_pos c4] at H
    have c4b0:decide (x11_1 < (l1.length:Int))=true:=decide_eq_true c4
    clear c4
    by_cases c5:0≤x11_1
    ·rw [if_pos c5] at H
     have c5b0:decide (0≤x11_1)=true:=decide_eq_true c5
     clear c5
     by_cases c6:x11_1 < (l1.length:Int)
     ·rw [if_pos c6] at H
      have c6b0:decide (x11_1 < (l1.length:Int))=true:=decide_eq_true c6
      clear c6
      replace H:=Option.bind_eq_some_iff.mp H
      obtain ⟨⟨t138,t139⟩,A70,H⟩:=H
      replace H:(if t139=true then (class_rules_text.l0 k1 l1 (l1.length:Int) (wrap64 (x11_1 + 1)) l0_0) else (some false))=some r:=H
      have A7:=Aside0.mk A70
      clear A70
      by_cases c8:t139=true
      ·subst c8
       have H1:(class_rules_text.l0 k1 l1 (l1.length:Int) (wrap64 (x11_1 + 1)) l0_0)=some r:=by rw [if_pos rfl] at H;exact H
       clear H
       have H:=H1
       clear H1
       have H':=Aside0.mk H
       clear H
       have p137:0≤(x11_1:Int):=of_decide_eq_true (by first|(with_reducible assumption)|assumption)
       have q137:x11_1 < (l1.length:Int):=of_decide_eq_true (by first|(with_reducible assumption)|assumption)
       obtain ⟨ad137,e137,hx137_0⟩:=Kd.at_int HR1.out x11_1 p137 q137
       cases e137
       replace hx137_0:=(HB.out.cell (World.block_lt_of_cell? w _ hx137_0)).trans hx137_0
       replace p137:=eq_true p137
       replace q137:=eq_true q137
       have hcz9_0:wr.cell? ⟨gb136,0,none⟩=some (.slice A0_0 l0_0.length c0_0):=(blk_cell BK136.out 0).trans rfl
       have hfz9_0:=blk_frozen BK136.out 0
       go_wp2_with (first|((with_reducible refine gate_callee (f:=42) rfl ?_);refine goesL_ (some 19) rfl rfl Tryd.func42 (by kernel_rfl) rfl #[.slice A0_0 l0_0.length c0_0,.int .i64 (rd l1 x11_1)] rfl (by (try simp only [List.map_toArray,List.map_cons,List.map_nil]);first|done|rfl|(simp only [List.length_drop,List.length_take];rfl)) ?_;(with_reducible refine (pool_Text.calls _ _ l0_0 (rd l1 x11_1) t138 true _ ?side1 ?side2 A7.out).mono ?_);(case side1 => repeat (first|exact (Kd.C_below HR0_0.out HB.out)|(with_reducible refine Kd.C_alloc ?_ _)|(with_reducible refine Kd.C_drewN ?_ _)|(with_reducible refine Kd.C_drew ?_)));(case side2 => exact HC0_0.out);rintro e w' ⟨rfl,⟨nd,rfl⟩⟩;refine ⟨_,rfl,?_⟩))
       go_roundg k1
       case measure => have:=HK1.out;omega
       case rel => exact ⟨(wrap64 (x11_1 + 1)),(by first|rfl|(simp;done)|(simp [*];done)),H',⟨by have:=HK1.out;omega⟩,⟨by (with_reducible repeat (first|refine blk_drewN ?_ _|refine blk_drew ?_|refine blk_alloc ?_ _));exact BK136.out⟩,⟨by repeat (first|(with_reducible first|exact HB.out|apply below_alloc|apply pw_below_drewN|apply below_drew1|refine below_set ?_ GE136.out)|exact HB.out)⟩⟩
      ·replace c8:=Bool.eq_false_iff.mpr c8
       subst c8
       have H1:(some false)=some r:=by rw [if_neg (show ¬ (false=true) by decide)] at H;exact H
       clear H
       have H:=H1
       clear H1
       obtain rfl:=Option.some.inj H
       have p137:0≤(x11_1:Int):=of_decide_eq_true (by first|(with_reducible assumption)|assumption)
       have q137:x11_1 < (l1.length:Int):=of_decide_eq_true (by first|(with_reducible assumption)|assumption)
       obtain ⟨ad137,e137,hx137_0⟩:=Kd.at_int HR1.out x11_1 p137 q137
       cases e137
       replace hx137_0:=(HB.out.cell (World.block_lt_of_cell? w _ hx137_0)).trans hx137_0
       replace p137:=eq_true p137
       replace q137:=eq_true q137
       have hcz10_0:wr.cell? ⟨gb136,0,none⟩=some (.slice A0_0 l0_0.length c0_0):=(blk_cell BK136.out 0).trans rfl
       have hfz10_0:=blk_frozen BK136.out 0
       go_wp2_with (first|((with_reducible refine gate_callee (f:=42) rfl ?_);refine goesL_ (some 19) rfl rfl Tryd.func42 (by kernel_rfl) rfl #[.slice A0_0 l0_0.length c0_0,.int .i64 (rd l1 x11_1)] rfl (by (try simp only [List.map_toArray,List.map_cons,List.map_nil]);first|done|rfl|(simp only [List.length_drop,List.length_take];rfl)) ?_;(with_reducible refine (pool_Text.calls _ _ l0_0 (rd l1 x11_1) t138 false _ ?side1 ?side2 A7.out).mono ?_);(case side1 => repeat (first|exact (Kd.C_below HR0_0.out HB.out)|(with_reducible refine Kd.C_alloc ?_ _)|(with_reducible refine Kd.C_drewN ?_ _)|(with_reducible refine Kd.C_drew ?_)));(case side2 => exact HC0_0.out);rintro e w' ⟨rfl,⟨nd,rfl⟩⟩;refine ⟨_,rfl,?_⟩))
       go_ret
       exact ⟨by first|rfl|(simp [errW_none,errW_some] <;> rfl)|(simp [*,errW_none,errW_some] <;> rfl),by repeat (first|(with_reducible first|exact HB.out|apply below_alloc|apply pw_below_drewN|apply below_drew1|refine below_set ?_ GE136.out)|exact HB.out)⟩
     ·rw [if_neg c6] at H
      exact absurd H (by simp)
    ·rw [if_neg c5] at H
     exact absurd H (by simp)
   ·rw [if_neg c4] at H
    have c4b0:decide (x11_1 < (l1.length:Int))=false:=decide_eq_false c4
    clear c4
    obtain rfl:=Option.some.inj H
    go_wp2
    go_ret
    exact ⟨by first|rfl|(simp [errW_none,errW_some] <;> rfl)|(simp [*,errW_none,errW_some] <;> rfl),by repeat (first|(with_reducible first|exact HB.out|apply below_alloc|apply pw_below_drewN|apply below_drew1|refine below_set ?_ GE136.out)|exact HB.out)⟩
def class_place.l0:Nat→List (S67)→ByteArray→Int→Int→Option (Int)
 | 0,_,_,_,_ => none
 | k + 1,x0,x1,x9,x10 => if x10 < x9 then ((pool_Text.f x0 x10).bind fun bt140 => (if bt140.2=true then (if bt140.1.toList=x1.toList then (some x10) else (class_place.l0 k x0 x1 x9 (wrap64 (x10 + 1)))) else (class_place.l0 k x0 x1 x9 (wrap64 (x10 + 1))))) else (some 0)
def class_place.f (k:Nat) (l0:List (S67)) (a1:ByteArray):Option (Int):=class_place.l0 k l0 a1 (l0.length:Int) 0
theorem class_place.mono_l:∀ k,(∀ y0 y1 y2 y3,LeO (class_place.l0 k y0 y1 y2 y3) (class_place.l0 (k + 1) y0 y1 y2 y3))
 | 0 => fun _ _ _ _ r h => by simp [class_place.l0] at h
 | k + 1 => by
  have ih0:=class_place.mono_l k
  ·intro y0 y1 y2 y3
   unfold class_place.l0
   repeat' first
   | (with_reducible exact ih0 _ _ _ _)
   | (with_reducible exact LeO.refl _)
   | (with_reducible exact LeO.none _)
   | (with_reducible refine LeO.ite ?_ ?_)
   | (with_reducible refine LeO.bind ?_ (fun _ => ?_))
   | exact ih0 _ _ _ _
   | exact LeO.none _
   | refine LeO.ite ?_ ?_
   | refine LeO.bind ?_ (fun _ => ?_)
theorem class_place.mono:∀ a0 a1 k,LeO (class_place.f k a0 a1) (class_place.f (k + 1) a0 a1):=by
 intro a0 a1 k
 have ih0:=class_place.mono_l k
 unfold class_place.f
 repeat' first
   | (with_reducible exact ih0 _ _ _ _)
   | (with_reducible exact LeO.refl _)
   | (with_reducible exact LeO.none _)
   | (with_reducible refine LeO.ite ?_ ?_)
   | (with_reducible refine LeO.bind ?_ (fun _ => ?_))
   | exact ih0 _ _ _ _
   | exact LeO.none _
   | refine LeO.ite ?_ ?_
   | refine LeO.bind ?_ (fun _ => ?_)
set_option maxHeartbeats 80000000 in
set_option maxRecDepth 100000 in
theorem class_place.calls (k:Nat) (A0:Option Addr) (c0:Nat) (l0:List (S67)) (a1:ByteArray) (r:Int) (w:World) (hr0:Kd.C k67 w A0 l0.length l0) (hc0:l0.length≤c0) (h:class_place.f k l0 a1=some r) :
  Calls Tryd.prog 18 #[.slice A0 l0.length c0,.string a1] w fun e w' => e=.returned (.int .i64 r)∧Drawn0 w w':=by
 have HR0:=Aside0.mk hr0
 have HC0:=Aside0.mk hc0
 clear hr0 hc0
 have H:(class_place.l0 k l0 a1 (l0.length:Int) 0)=some r:=h
 clear h
 have H':=Aside0.mk H
 clear H
 go_enter Tryd.func18,Tryd.ntmps18
 go_wp2
 go_loopg [10] k (fun kq v10 w' => ∃ (x10_1:Int),v10=.int .i64 x10_1∧Aside0 (class_place.l0 kq l0 a1 (l0.length:Int) x10_1=some r)∧Aside0 (kq≤k)∧Drawn0 w w')
 case atStart => exact ⟨(0),(by first|rfl|(simp;done)|(simp [*];done)),H',⟨Nat.le_refl _⟩,by repeat (first|exact Drawn0.refl _|apply Drawn0.step)⟩
 case round =>
  clear H'
  try clear c1;try clear p2
  obtain ⟨x10_1,rfl,HA,HK1,⟨m1,rfl⟩⟩:=hrel
  cases gk with
  | zero => exact absurd HA.out (by simp [class_place.l0])
  | succ k1 =>
   have H:=HA.out
   clear HA
   simp only [class_place.l0] at H
   by_cases c3:x10_1 < (l0.length:Int)
   ·rw [if_pos c3] at H
    have c3b0:decide (x10_1 < (l0.length:Int))=true:=decide_eq_true c3
    clear c3
    replace H:=Option.bind_eq_some_iff.mp H
    obtain ⟨⟨t140,t141⟩,A40,H⟩:=H
    replace H:(if t141=true then (if t140.toList=a1.toList then (some x10_1) else (class_place.l0 k1 l0 a1 (l0.length:Int) (wrap64 (x10_1 + 1)))) else (class_place.l0 k1 l0 a1 (l0.length:Int) (wrap64 (x10_1 + 1))))=some r:=H
    have A4:=Aside0.mk A40
    clear A40
    by_cases c5:t141=true
    ·subst c5
     have H1:(if t140.toList=a1.toList then (some x10_1) else (class_place.l0 k1 l0 a1 (l0.length:Int) (wrap64 (x10_1 + 1))))=some r:=by rw [if_pos rfl] at H;exact H
     clear H
     have H:=H1
     clear H1
     by_cases c6:t140.toList=a1.toList
     ·rw [if_pos c6] at H
      have c6b0:(t140.toList==a1.toList)=true:=beq_iff_eq.mpr c6
      have c6b1:(t140.toList != a1.toList)=false:=bne_eq_false_iff_eq.mpr c6
      clear c6
      obtain rfl:=Option.some.inj H
      go_wp2_with (first|((with_reducible refine gate_callee (f:=42) rfl ?_);refine goesL_ (some 16) rfl rfl Tryd.func42 (by kernel_rfl) rfl #[.slice A0 l0.length c0,.int .i64 x10_1] rfl (by (try simp only [List.map_toArray,List.map_cons,List.map_nil]);first|done|rfl|(simp only [List.length_drop,List.length_take];rfl)) ?_;(with_reducible refine (pool_Text.calls _ _ l0 x10_1 t140 true _ ?side1 ?side2 A4.out).mono ?_);(case side1 => repeat (first|exact HR0.out|(with_reducible refine Kd.C_alloc ?_ _)|(with_reducible refine Kd.C_drewN ?_ _)|(with_reducible refine Kd.C_drew ?_)));(case side2 => exact HC0.out);rintro e w' ⟨rfl,⟨nd,rfl⟩⟩;refine ⟨_,rfl,?_⟩))
      go_ret
      exact ⟨by first|rfl|(simp;done)|(simp [*];done),by repeat (first|exact Drawn0.refl _|apply Drawn0.step)⟩
     ·rw [if_neg c6] at H
      have c6b0:(t140.toList==a1.toList)=false:=beq_eq_false_iff_ne.mpr c6
      have c6b1:(t140.toList != a1.toList)=true:=bne_iff_ne.mpr c6
      have H':=Aside0.mk H
      clear H
      go_wp2_with (first|((with_reducible refine gate_callee (f:=42) rfl ?_);refine goesL_ (some 16) rfl rfl Tryd.func42 (by kernel_rfl) rfl #[.slice A0 l0.length c0,.int .i64 x10_1] rfl (by (try simp only [List.map_toArray,List.map_cons,List.map_nil]);first|done|rfl|(simp only [List.length_drop,List.length_take];rfl)) ?_;(with_reducible refine (pool_Text.calls _ _ l0 x10_1 t140 true _ ?side1 ?side2 A4.out).mono ?_);(case side1 => repeat (first|exact HR0.out|(with_reducible refine Kd.C_alloc ?_ _)|(with_reducible refine Kd.C_drewN ?_ _)|(with_reducible refine Kd.C_drew ?_)));(case side2 => exact HC0.out);rintro e w' ⟨rfl,⟨nd,rfl⟩⟩;refine ⟨_,rfl,?_⟩))
      go_roundg k1
      case measure => have:=HK1.out;omega
      case rel => exact ⟨(wrap64 (x10_1 + 1)),(by first|rfl|(simp;done)|(simp [*];done)),H',⟨by have:=HK1.out;omega⟩,by repeat (first|exact Drawn0.refl _|apply Drawn0.step)⟩
    ·replace c5:=Bool.eq_false_iff.mpr c5
     subst c5
     have H1:(class_place.l0 k1 l0 a1 (l0.length:Int) (wrap64 (x10_1 + 1)))=some r:=by rw [if_neg (show ¬ (false=true) by decide)] at H;exact H
     clear H
     have H:=H1
     clear H1
     have H':=Aside0.mk H
     clear H
     go_wp2_with (first|((with_reducible refine gate_callee (f:=42) rfl ?_);refine goesL_ (some 16) rfl rfl Tryd.func42 (by kernel_rfl) rfl #[.slice A0 l0.length c0,.int .i64 x10_1] rfl (by (try simp only [List.map_toArray,List.map_cons,List.map_nil]);first|done|rfl|(simp only [List.length_drop,List.length_take];rfl)) ?_;(with_reducible refine (pool_Text.calls _ _ l0 x10_1 t140 false _ ?side1 ?side2 A4.out).mono ?_);(case side1 => repeat (first|exact HR0.out|(with_reducible refine Kd.C_alloc ?_ _)|(with_reducible refine Kd.C_drewN ?_ _)|(with_reducible refine Kd.C_drew ?_)));(case side2 => exact HC0.out);rintro e w' ⟨rfl,⟨nd,rfl⟩⟩;refine ⟨_,rfl,?_⟩))
     go_roundg k1
     case measure => have:=HK1.out;omega
     case rel => exact ⟨(wrap64 (x10_1 + 1)),(by first|rfl|(simp;done)|(simp [*];done)),H',⟨by have:=HK1.out;omega⟩,by repeat (first|exact Drawn0.refl _|apply Drawn0.step)⟩
   ·rw [if_neg c3] at H
    have c3b0:decide (x10_1 < (l0.length:Int))=false:=decide_eq_false c3
    clear c3
    obtain rfl:=Option.some.inj H
    go_wp2
    go_ret
    exact ⟨by first|rfl|(simp;done)|(simp [*];done),by repeat (first|exact Drawn0.refl _|apply Drawn0.step)⟩
def class_within.f (a0:Int) (a1:Int):Option (Bool):=if a0 ≥ 0 then (some (decide (a0≤a1))) else (some false)
set_option maxHeartbeats 80000000 in
set_option maxRecDepth 100000 in
theorem class_within.calls (a0:Int) (a1:Int) (r:Bool) (w:World) (h:class_within.f a0 a1=some r) :
  Calls Tryd.prog 52 #[.int .i64 a0,.int .i64 a1] w fun e w' => e=.returned (.bool r)∧Drawn0 w w':=by
 have H:(if a0 ≥ 0 then (some (decide (a0≤a1))) else (some false))=some r:=h
 clear h
 by_cases c3:a0 ≥ 0
 ·rw [if_pos c3] at H
  have c3b0:decide (0≤a0)=true:=decide_eq_true c3
  clear c3
  obtain rfl:=Option.some.inj H
  go_enter Tryd.func52,Tryd.ntmps52
  go_wp2
  go_ret
  exact ⟨by first|rfl|(simp;done)|(simp [*];done),by repeat (first|exact Drawn0.refl _|apply Drawn0.step)⟩
 ·rw [if_neg c3] at H
  have c3b0:decide (0≤a0)=false:=decide_eq_false c3
  clear c3
  obtain rfl:=Option.some.inj H
  go_enter Tryd.func52,Tryd.ntmps52
  go_wp2
  go_ret
  exact ⟨by first|rfl|(simp;done)|(simp [*];done),by repeat (first|exact Drawn0.refl _|apply Drawn0.step)⟩
end Go.Proofs.YtbgniepcoaiinaaDoor.Px
namespace Go.Proofs.YtbgniepcoaiinaaDoor.Px
open Go.RowKit Go.Proofs.YtbgniepcoaiinaaDoorW.PrintWords Go.Proofs.YtbgniepcoaiinaaDoorW.PrintLast Go.Proofs.YtbgniepcoaiinaaDoorW.PrintMore
set_option linter.unusedVariables false
set_option linter.unusedSimpArgs false
abbrev Mth:=S56
abbrev Trp:=S82
def wTraps:List Trp→List Int→Option (List Int)
 | [],bs => some bs
 | t :: l,bs => (wTwos [t.f0,t.f1,t.f2,t.f3] bs).bind (wTraps l)
def sMaps:ByteArray:={ data:=#[83,116,97,99,107,77,97,112,84,97,98,108,101] }
def class_body.f (k:Nat) (p:List Cst) (s l:Int) (code:List Int) (traps:List Trp) (maps:List Int):Option (List Int) :=
 (wTwos [s,l] []).bind fun b1 => (wLong code b1).bind fun b2 => if traps.length≤1048576 then (wTwos [(traps.length:Int)] b2).bind fun b3 => (wTraps traps b3).bind fun b4 =>
  (if maps.length=0 then wTwos [0] b4 else (class_place.f k p sMaps).bind fun x => (wTwos [1,x] b4).bind (wLong maps)).bind fun b => if b.length≤1048576 then some b else none else none
structure BodyAt (w W:World) (bm bf g B:Nat) (M:Obj) (v:Value) (cur:List Int):Prop where
 bl:Below w.heap.size w W
 I:IsWr B W g v cur 1048576
 km:W.heap[bm]?=some M
 kf:W.heap[bf]?=some (.cells #[.pointer (some ⟨g,0,none⟩)] 45 (0,0))
 fm:WrFar W g v bm
 ff:WrFar W g v bf
 ge:w.heap.size≤B
theorem BodyAt.step {w W W':World} {bm bf g B:Nat} {M:Obj} {v v':Value} {cur cur':List Int} (h:BodyAt w W bm bf g B M v cur) (hI:IsWr B W' g v' cur' 1048576) (hS:WrStep B W W' g v v'):BodyAt w W' bm bf g B M v' cur' :=
 ⟨h.bl.trans (hS.below.mono h.ge),hI,hS.blk h.fm h.km,hS.blk h.ff h.kf,hS.far h.fm,hS.far h.ff,h.ge⟩
theorem BodyAt.new {w W W':World} {bm bf g B:Nat} {M:Obj} {v:Value} {cur:List Int} (h:BodyAt w W bm bf g B M v cur) (hb:Below W.heap.size W W'):BodyAt w W' bm bf g B M v cur :=
 ⟨h.bl.trans (hb.mono h.bl.size),h.I.below hb,(hb.block _ (blk_lt h.km)).trans h.km,(hb.block _ (blk_lt h.kf)).trans h.kf,h.fm.below hb.size,h.ff.below hb.size,h.ge⟩
theorem BodyAt.cf {w W:World} {bm bf g B:Nat} {M:Obj} {v:Value} {cur:List Int} (h:BodyAt w W bm bf g B M v cur):W.cell? ⟨bf,0,none⟩=some (.pointer (some ⟨g,0,none⟩)):=(blk_cell h.kf 0).trans rfl
abbrev MthRow (a0 a1 a2 a3 a4:Int) (v5 v6 v7:Value):Obj:=.cells #[.int .i64 a0,.int .i64 a1,.int .i64 a2,.int .i64 a3,.int .i64 a4,v5,v6,v7] 56 (0,0)
theorem two_at {B g a n:Nat} {v:Value} {bs r l:List Int} {xs:Array Value} {w:World} (hI:IsWr B w g v bs 1048576) (h:wTwos l bs=some r) (ha:a=w.heap.size) (hl:l.length≤64) (hn:l.length=n) (hx:(l.map (Value.int .i64)).toArray=xs) :
  Calls Tryd.prog 17 #[.agg #[.pointer (some ⟨g,0,none⟩)],.slice (some ⟨a,0,none⟩) n n] (w.alloc (.cells xs 3 (0,0))) fun e w' => e=.returned (.tuple #[])∧WrPost B w g v r 1048576 w':=by
 subst ha
 subst hn
 subst hx
 exact file_two.calls B g v bs r l w hI hl h
theorem BodyAt.cm {w W:World} {bm bf g B:Nat} {M:Obj} {v:Value} {cur:List Int} {a0 a1 a2 a3 a4:Int} {v5 v6 v7:Value} (h:BodyAt w W bm bf g B M v cur) (hM:M=MthRow a0 a1 a2 a3 a4 v5 v6 v7):W.cell? ⟨bm,5,none⟩=some v5∧W.cell? ⟨bm,6,none⟩=some v6∧W.cell? ⟨bm,7,none⟩=some v7:=by
 have hk:=h.km
 rw [hM] at hk
 exact ⟨(blk_cell hk 5).trans rfl,(blk_cell hk 6).trans rfl,(blk_cell hk 7).trans rfl⟩
set_option maxHeartbeats 80000000 in
set_option maxRecDepth 100000 in
theorem class_body.calls (k:Nat) (A0:Option Addr) (c0:Nat) (p:List Cst) (a0 a1 a2 a3 a4:Int) (A5:Option Addr) (c5:Nat) (l5:List Int) (A6:Option Addr) (c6:Nat) (l6:List Trp) (A7:Option Addr) (c7:Nat) (l7:List Int) (r:List Int) (w:World) (hr0:Kd.C k67 w A0 p.length p) (hc0:p.length≤c0) (hr5:Kd.C (Kd.int .u8) w A5 l5.length l5) (hc5:l5.length≤c5) (hr6:Kd.C k82 w A6 l6.length l6) (hc6:l6.length≤c6) (hr7:Kd.C (Kd.int .u8) w A7 l7.length l7) (hc7:l7.length≤c7) (h:class_body.f k p a3 a4 l5 l6 l7=some r) :
  Calls Tryd.prog 20 #[.slice A0 p.length c0,.agg #[.int .i64 a0,.int .i64 a1,.int .i64 a2,.int .i64 a3,.int .i64 a4,.slice A5 l5.length c5,.slice A6 l6.length c6,.slice A7 l7.length c7]] w fun e w' => ∃ v0_:Value,e=.returned v0_∧Kd.R (Kd.int .u8) 5 w' w.heap.size (fun _ => True) v0_ r∧Below w.heap.size w w':=by
 unfold class_body.f at h
 obtain ⟨b1,h1,h⟩:=Option.bind_eq_some_iff.mp h
 obtain ⟨b2,h2,h⟩:=Option.bind_eq_some_iff.mp h
 by_cases hl6:l6.length≤1048576
 case neg => rw [if_neg hl6] at h;cases h
 rw [if_pos hl6] at h
 obtain ⟨b3,h3,h⟩:=Option.bind_eq_some_iff.mp h
 obtain ⟨b4,h4,h⟩:=Option.bind_eq_some_iff.mp h
 obtain ⟨b5,h5,h⟩:=Option.bind_eq_some_iff.mp h
 by_cases hl:b5.length≤1048576
 case neg => rw [if_neg hl] at h;cases h
 rw [if_pos hl] at h
 obtain rfl:=Option.some.inj h
 have H1:=Aside0.mk h1
 have H2:=Aside0.mk h2
 have H3:=Aside0.mk h3
 have H4:=Aside0.mk h4
 have H5:=Aside0.mk h5
 have HL:=Aside0.mk hl
 have HL6:=Aside0.mk hl6
 have HR0:=Aside0.mk hr0
 have HC0:=Aside0.mk hc0
 have HR5:=Aside0.mk hr5
 have HR6:=Aside0.mk hr6
 have HR7:=Aside0.mk hr7
 have hu:=Tryd.underlying56
 have hu2:=Tryd.underlying82
 clear h1 h2 h3 h4 h5 h hl hl6 hr0 hc0 hr5 hr6 hr7 hc5 hc6 hc7
 obtain ⟨M,hM⟩:∃ M,M=MthRow a0 a1 a2 a3 a4 (.slice A5 l5.length c5) (.slice A6 l6.length c6) (.slice A7 l7.length c7):=⟨_,rfl⟩
 have HM:=Aside0.mk hM
 clear hM
 go_enter Tryd.func20,Tryd.ntmps20
 go_wp2_with fail
 obtain ⟨bm,hbm⟩:∃ bm,bm=w.heap.size:=⟨_,rfl⟩
 obtain ⟨W1,hW1⟩:∃ W1,W1=w.alloc M:=⟨_,rfl⟩
 have hW1':=hW1
 rw [HM.out] at hW1'
 rw [← hW1',← hbm]
 have HB1:=Aside0.mk (show Below w.heap.size w W1 from by rw [hW1];exact below_alloc (Below.refl _ _) _)
 have HK1:=Aside0.mk (show W1.heap[bm]?=some M from by rw [hW1,hbm];exact blk_new _ _)
 clear hW1 hW1' hbm
 refine (class_fresh.calls W1).mono ?_
 rintro e W2 ⟨g,rfl,hg,hI2,hb2⟩
 have HI2:=Aside0.mk hI2
 have HG2:=Aside0.mk hg
 have HB2:=Aside0.mk hb2
 have HM2:=Aside0.mk ((hb2.block _ (blk_lt HK1.out)).trans HK1.out)
 have hltm:=blk_lt HM2.out
 have hk:=HM2.out
 rw [HM.out] at hk
 have q0:W2.cell? ⟨bm,0,none⟩=some (.int .i64 a0):=(blk_cell hk 0).trans rfl
 have q3:W2.cell? ⟨bm,3,none⟩=some (.int .i64 a3):=(blk_cell hk 3).trans rfl
 have q4:W2.cell? ⟨bm,4,none⟩=some (.int .i64 a4):=(blk_cell hk 4).trans rfl
 clear hk hI2 hg hb2
 go_wp2_with fail
 obtain ⟨bf,hbf⟩:∃ bf,bf=W2.heap.size:=⟨_,rfl⟩
 obtain ⟨W3,hW3⟩:∃ W3,W3=W2.alloc (.cells #[.pointer (some ⟨g,0,none⟩)] 45 (0,0)):=⟨_,rfl⟩
 rw [← hW3,← hbf]
 have hb3:Below W2.heap.size W2 W3:=by rw [hW3];exact below_alloc (Below.refl _ _) _
 have hk3:W3.heap[bf]?=some (.cells #[.pointer (some ⟨g,0,none⟩)] 45 (0,0)):=by rw [hW3,hbf];exact blk_new _ _
 obtain ⟨B,hB⟩:∃ B,B=W1.heap.size:=⟨_,rfl⟩
 rw [← hB] at HI2 HG2
 have hm2:=HM2.out
 have hlt:=blk_lt HK1.out
 have HS3:Aside0 (bf + 1=W3.heap.size):=⟨by rw [hW3,hbf];simp⟩
 have HA3:Aside0 (BodyAt w W3 bm bf g B M (.slice none 0 0) []):=⟨⟨HB1.out.trans ((HB2.out.mono HB1.out.size).trans (hb3.mono (Nat.le_trans HB1.out.size HB2.out.size))),HI2.out.below hb3,(hb3.block _ (blk_lt hm2)).trans hm2,hk3,⟨Nat.lt_of_lt_of_le (blk_lt hm2) hb3.size,by have:=HG2.out;omega,by rintro ⟨⟩⟩,HI2.out.far_new (by omega) (blk_lt hk3),by rw [hB];exact HB1.out.size⟩⟩
 clear hW3 hbf hb3 hk3 hB hm2 hlt HI2 HG2 HB2 HK1 HB1 HM2 hltm q0 q3 q4
 refine (two_at (l:=[a3,a4]) HA3.out.I H1.out HS3.out (by simp) rfl rfl).mono ?_
 rintro e W4 ⟨rfl,v4,hI4,hS4⟩
 have HA4:=Aside0.mk (HA3.out.step hI4 hS4)
 clear hI4 hS4 HA3 HS3 H1
 have cf4:=HA4.out.cf
 obtain ⟨p5,_,_⟩:=HA4.out.cm HM.out
 go_wp2_with fail
 refine (file_long.calls B g v4 b1 b2 l5 A5 c5 W4 HA4.out.I (fun w' v' hS => Kd.C_below HR5.out (HA4.out.bl.trans (hS.below.mono HA4.out.ge))) H2.out).mono ?_
 rintro e W5 ⟨rfl,v5,hI5,hS5⟩
 have HA5:=Aside0.mk (HA4.out.step hI5 hS5)
 clear hI5 hS5 HA4 cf4 p5 H2
 have cf5:=HA5.out.cf
 obtain ⟨_,p6,_⟩:=HA5.out.cm HM.out
 go_wp2_with fail
 refine (two_at (l:=[(l6.length:Int)]) HA5.out.I H3.out rfl (by simp) rfl rfl).mono ?_
 rintro e W6 ⟨rfl,v6,hI6,hS6⟩
 have HA6:=Aside0.mk (HA5.out.step hI6 hS6)
 clear hI6 hS6 HA5 cf5 p6 H3
 obtain ⟨_,p6,_⟩:=HA6.out.cm HM.out
 go_wp2
 clear p6
 go_loopw [29] (fun vi wr => ∃ (i:Nat) (cur:List Int) (vr:Value),vi=.int .i64 (i:Int)∧Aside0 (i≤l6.length)∧Aside0 (wTraps (l6.drop i) cur=some b4)∧Aside0 (BodyAt w wr bm bf g B M vr cur)) (fun vi _ => (l6.length - (intOf vi).toNat))
 case atStart => exact ⟨0,b3,v6,rfl,⟨Nat.zero_le _⟩,H4,HA6⟩
 case round =>
  obtain ⟨i,cur,vr,rfl,HLI,HT,HAr⟩:=hrel
  clear HA6 H4
  by_cases hlt:i < l6.length
  ·have hpi:decide ((i:Int) < (l6.length:Int))=true:=decide_eq_true (by omega)
   have hpn:decide (i < l6.length)=true:=decide_eq_true hlt
   have hpt:(i < l6.length)=True:=eq_true hlt
   have hge:(0≤(i:Int))=True:=eq_true (by omega)
   obtain ⟨ad,ea,hx0,hx1,hx2,hx3⟩:=at_T82 (Kd.C_below HR6.out HAr.out.bl) (i:Int) (by omega) (by omega)
   subst ea
   simp only [Int.toNat_natCast] at hx0 hx1 hx2 hx3
   have hT:=HT.out
   have hdr:l6.drop i=rd_T82 l6 (i:Int) :: l6.drop (i + 1):=by
    rw [List.drop_eq_getElem_cons hlt]
    congr 1
    simp [rd_T82,List.getD_eq_getElem?_getD,List.getElem?_eq_getElem hlt]
   rw [hdr] at hT
   obtain ⟨bn,hU,hN⟩:=Option.bind_eq_some_iff.mp hT
   obtain ⟨tt,htt⟩:∃ tt,tt=rd_T82 l6 (i:Int):=⟨_,rfl⟩
   rw [← htt] at hU hx0 hx1 hx2 hx3
   have HU:=Aside0.mk hU
   have HN:=Aside0.mk hN
   have hwi:wrap64 ((i:Int) + 1)=(i:Int) + 1:=by have:=HL6.out;unfold wrap64;omega
   have hw4:i * 4=i * 4:=rfl
   have cfr:=HAr.out.cf
   have hltf:=blk_lt HAr.out.kf
   clear hT hdr hU hN HT hlt htt
   go_wp2_with fail
   have HAs:=Aside0.mk (HAr.out.new (below_alloc (Below.refl wr.heap.size wr) (.cells #[.int .i64 tt.f0,.int .i64 tt.f1,.int .i64 tt.f2,.int .i64 tt.f3] 82 (0,0))))
   refine (two_at (l:=[tt.f0,tt.f1,tt.f2,tt.f3]) HAs.out.I HU.out (by simp) (by simp) rfl rfl).mono ?_
   rintro e w3 ⟨rfl,v3,hI3,hS3⟩
   have HA3:=Aside0.mk (HAs.out.step hI3 hS3)
   clear hI3 hS3 hx0 hx1 hx2 hx3 cfr hltf HAs HAr
   go_wp2
   go_roundw
   case measure => exact fewer (of_decide_eq_true hpn) hwi
   case rel =>
    rw [hwi]
    exact ⟨i + 1,bn,v3,rfl,⟨of_decide_eq_true hpn⟩,HN,HA3⟩
  ·have hpi:decide ((i:Int) < (l6.length:Int))=false:=decide_eq_false (by omega)
   have hpn:decide (i < l6.length)=false:=decide_eq_false hlt
   have hT:=HT.out
   rw [List.drop_eq_nil_of_le (by omega)] at hT
   have e:=Option.some.inj hT
   subst e
   clear hT HT hlt HLI
   have HA7:=HAr
   obtain ⟨W7,hW7⟩:∃ W7,W7=wr:=⟨_,rfl⟩
   rw [← hW7] at HA7
   rw [← hW7]
   clear hW7 HAr
   obtain ⟨_,_,p7⟩:=HA7.out.cm HM.out
   have cf7:=HA7.out.cf
   have h5:=H5.out
   by_cases hz:l7.length=0
   ·rw [if_pos hz] at h5
    have HT:=Aside0.mk h5
    have hzb:((l7.length:Int)==0)=true:=beq_iff_eq.mpr (by omega)
    clear h5 hz H5
    go_wp2_with fail
    refine (two_at (l:=[0]) HA7.out.I HT.out rfl (by simp) rfl rfl).mono ?_
    rintro e W8 ⟨rfl,v8,hI8,hS8⟩
    have HA8:=Aside0.mk (HA7.out.step hI8 hS8)
    clear hI8 hS8 HA7 HT p7 cf7
    have cf8:=HA8.out.cf
    go_wp2_with fail
    refine (wr_Out.calls B g v8 b5 1048576 _ HA8.out.I HL.out).mono ?_
    rintro e wo ⟨vo,rfl,hRo,hbo⟩
    have HRo:=Aside0.mk hRo
    have HBo:=Aside0.mk (below_step HA8.out.bl hbo)
    clear hRo hbo
    go_wp2
    go_ret
    exact ⟨_,rfl,Kd.R_lower HRo.out HA8.out.bl.size,HBo.out⟩
   ·rw [if_neg hz] at h5
    have hzb:((l7.length:Int)==0)=false:=beq_eq_false_iff_ne.mpr (by omega)
    obtain ⟨x,hx,h5⟩:=Option.bind_eq_some_iff.mp h5
    obtain ⟨b6,ht,h5⟩:=Option.bind_eq_some_iff.mp h5
    have HPL:=Aside0.mk hx
    have HT:=Aside0.mk ht
    have HLo:=Aside0.mk h5
    clear h5 hz H5 hx ht
    go_wp2
    refine start_ (n:=5) (S:=fun w' => w'.cell? ⟨bf,0,none⟩=some (.pointer (some ⟨g,0,none⟩))) (ds:=[]) #[false,false,false,false,false] (by kernel_rfl) rfl rfl (cf7) (fun hHeld => ?_)
    refine pure_ (i:=1) (N:=some 53) (v:=?_) (a':=?_) #[false,true,false,false,false] rfl rfl (by kernel_rfl) (fun _ _ _ h => h) (Or.inl ⟨by rfl,?_⟩) ?_ ?_
    rotate_left
    ·intro w'
     go_simp
     with_reducible rfl
    rotate_left
    ·simp only [Act.put,List.setIfInBounds_toArray,List.set_cons_zero,List.set_cons_succ,i64_w,i32_w]
     rfl
    refine take_ (i:=0) (N:=some 52) (v:=?_) (a':=?_) #[true,true,false,false,false] rfl rfl (by kernel_rfl) (fun _ _ _ h => h) (Or.inl ⟨by rfl,?_⟩) hHeld ?_ ?_
    rotate_left
    ·intro w' s0
     go_simp
     with_reducible rfl
    rotate_left
    ·simp only [Act.put,List.setIfInBounds_toArray,List.set_cons_zero,List.set_cons_succ,i64_w,i32_w]
     rfl
    refine one_ (i:=2) (N:=some 54) #[true,true,true,false,false] rfl rfl (by kernel_rfl) (by decide) (fun K hK => ?_)
    refine goes_ Tryd.func18 (by kernel_rfl) rfl #[.slice A0 p.length c0,.string sMaps] (by rfl) rfl rfl (by simp only [List.map_toArray,List.map_cons,List.map_nil];rfl) ?_
    with_reducible refine (class_place.calls k A0 c0 p sMaps x _ (Kd.C_below HR0.out (below_drew HA7.out.bl)) HC0.out HPL.out).mono ?_
    rintro e w8 ⟨rfl,⟨⟨nd,rfl⟩⟩⟩
    refine ⟨_,rfl,?_⟩
    refine hK.out _ _ ((by exact hHeld)) (fun hHeld => ?_)
    clear hK K
    refine norm_ (a':=?_) ?_ ?_
    rotate_left
    ·show Act.put _ (some 54) _=_
     simp only [Act.put,List.setIfInBounds_toArray,List.set_cons_zero,List.set_cons_succ,i64_w,i32_w]
     rfl
    refine one_ (i:=3) (N:=some 55) #[true,true,true,true,false] rfl rfl (by kernel_rfl) (by decide) (fun K hK => ?_)
    refine value_ (w1:=?_) (v:=?_) (by rfl) rfl ?_ ?_
    rotate_left 2
    ·go_simp
     constructor
     ·rfl
     ·rfl
    refine hK.out _ _ ((by exact pw_cell_below ((Below.refl _ _).alloc (Nat.le_refl _) _) hHeld)) (fun hHeld => ?_)
    clear hK K
    refine norm_ (a':=?_) ?_ ?_
    rotate_left
    ·show Act.put _ (some 55) _=_
     simp only [Act.put,List.setIfInBounds_toArray,List.set_cons_zero,List.set_cons_succ,i64_w,i32_w]
     rfl
    refine one_ (i:=4) (N:=some 56) #[true,true,true,true,true] rfl rfl (by kernel_rfl) (by decide) (fun K hK => ?_)
    have HA9:=Aside0.mk (HA7.out.new (pw_below_drewN (Below.refl W7.heap.size W7) (1 + nd)))
    refine goes_ Tryd.func17 (by kernel_rfl) rfl #[.agg #[.pointer (some ⟨g,0,none⟩)],.slice (some ⟨W7.heap.size,0,none⟩) 2 2] (by rfl) rfl rfl (by simp only [List.map_toArray,List.map_cons,List.map_nil];rfl) ?_
    refine (two_at (l:=[1,x]) HA9.out.I HT.out rfl (by simp) rfl rfl).mono ?_
    rintro e w9 ⟨rfl,v9,hI9,hS9⟩
    refine ⟨_,rfl,?_⟩
    have HA10:=Aside0.mk (HA9.out.step hI9 hS9)
    have cf10:=HA10.out.cf
    clear hI9 hS9
    refine hK.out _ _ (cf10) (fun hHeld => ?_)
    clear hK K
    refine norm_ (a':=?_) ?_ ?_
    rotate_left
    ·show Act.put _ (some 56) _=_
     simp only [Act.put,List.setIfInBounds_toArray,List.set_cons_zero,List.set_cons_succ,i64_w,i32_w]
     rfl
    refine done_ (by kernel_rfl) ?_
    clear hHeld cf7 p7 HA9 HA7 HT HPL
    obtain ⟨_,_,p7⟩:=HA10.out.cm HM.out
    go_wp2_with fail
    refine (file_long.calls B g v9 b6 b5 l7 A7 c7 w9 HA10.out.I (fun w' v' hS => Kd.C_below HR7.out (HA10.out.bl.trans (hS.below.mono HA10.out.ge))) HLo.out).mono ?_
    rintro e W8 ⟨rfl,v8,hI8,hS8⟩
    have HA8:=Aside0.mk (HA10.out.step hI8 hS8)
    clear hI8 hS8 HA10 p7 cf10
    have cf8:=HA8.out.cf
    go_wp2_with fail
    refine (wr_Out.calls B g v8 b5 1048576 _ HA8.out.I HL.out).mono ?_
    rintro e wo ⟨vo,rfl,hRo,hbo⟩
    have HRo:=Aside0.mk hRo
    have HBo:=Aside0.mk (below_step HA8.out.bl hbo)
    clear hRo hbo
    go_wp2
    go_ret
    exact ⟨_,rfl,Kd.R_lower HRo.out HA8.out.bl.size,HBo.out⟩
end Go.Proofs.YtbgniepcoaiinaaDoor.Px
namespace Go.Proofs.YtbgniepcoaiinaaDoor.Px
open Go.RowKit Go.Proofs.YtbgniepcoaiinaaDoorW.PrintWords Go.Proofs.YtbgniepcoaiinaaDoorW.PrintLast Go.Proofs.YtbgniepcoaiinaaDoorW.PrintMore
attribute [local go_sem] max2_int min2_int max_two min_two max_three min_three max_four min_four
set_option linter.unusedVariables false
set_option linter.unusedSimpArgs false
mutual
def class_rules_method.l0:Nat→Int→List (S82)→Int→Int→List (S67)→Int→Int→Int→Int→Int→List Int→List (S82)→List Int→Option (Bool)
 | 0,_,_,_,_,_,_,_,_,_,_,_,_,_ => none
 | k + 1,x5,x12,x13,x14,x143000,x144000,x144001,x144002,x144003,x144004,x144005,x144006,x144007 => if x14 < x13 then (if 0≤x14 then (if x14 < (x12.length:Int) then (if ((rd_T82 x12 x14).f0) < 0 then (class_rules_method.j1 k x5 x12 x13 x14 true x143000 x144000 x144001 x144002 x144003 x144004 x144005 x144006 x144007) else (if ((rd_T82 x12 x14).f0) ≥ ((rd_T82 x12 x14).f1) then (class_rules_method.j1 k x5 x12 x13 x14 true x143000 x144000 x144001 x144002 x144003 x144004 x144005 x144006 x144007) else (if ((rd_T82 x12 x14).f1) > x5 then (class_rules_method.j1 k x5 x12 x13 x14 true x143000 x144000 x144001 x144002 x144003 x144004 x144005 x144006 x144007) else ((class_within.f ((rd_T82 x12 x14).f2) (wrap64 (x5 - 1))).bind fun t146 => (if t146=true then (if ((rd_T82 x12 x14).f3)=0 then (class_rules_method.j1 k x5 x12 x13 x14 false x143000 x144000 x144001 x144002 x144003 x144004 x144005 x144006 x144007) else ((class_rules_class.f k x143000 (([(rd_T82 x12 x14).f3]:List Int))).bind fun t150 => (class_rules_method.j1 k x5 x12 x13 x14 (!t150) x143000 x144000 x144001 x144002 x144003 x144004 x144005 x144006 x144007))) else (class_rules_method.j1 k x5 x12 x13 x14 true x143000 x144000 x144001 x144002 x144003 x144004 x144005 x144006 x144007)))))) else (none)) else (none)) else ((class_flags.f x144000).bind fun t151 => (if t151=true then ((class_rules_text.f k x143000 (([x144001,x144002]:List Int))).bind fun t155 => (if t155=true then ((class_within.f x144003 64).bind fun t156 => (if t156=true then ((class_within.f x144004 64).bind fun t157 => (if t157=true then ((class_within.f (wrap64 (x5 - 1)) 4095).bind fun t158 => (if t158=true then (if (x144007.length:Int)≤4096 then ((class_place.f k x143000 (⟨#[67,111,100,101]⟩:ByteArray)).bind fun t159 => (if t159 > 0 then (if (x144007.length:Int)=0 then (some true) else ((class_place.f k x143000 (⟨#[83,116,97,99,107,77,97,112,84,97,98,108,101]⟩:ByteArray)).bind fun t160 => (some (decide (t160 > 0))))) else (some false))) else (some false)) else (some false))) else (some false))) else (some false))) else (some false))) else (some false)))
def class_rules_method.j1:Nat→Int→List (S82)→Int→Int→Bool→List (S67)→Int→Int→Int→Int→Int→List Int→List (S82)→List Int→Option (Bool)
 | 0,_,_,_,_,_,_,_,_,_,_,_,_,_,_ => none
 | k + 1,x5,x12,x13,x14,x54,x143000,x144000,x144001,x144002,x144003,x144004,x144005,x144006,x144007 => if x54=true then (some false) else (class_rules_method.l0 k x5 x12 x13 (wrap64 (x14 + 1)) x143000 x144000 x144001 x144002 x144003 x144004 x144005 x144006 x144007)
end
def class_rules_method.f (k:Nat) (l0_0:List (S67)) (a1_0:Int) (a1_1:Int) (a1_2:Int) (a1_3:Int) (a1_4:Int) (l1_5:List Int) (l1_6:List (S82)) (l1_7:List Int):Option (Bool):=class_rules_method.l0 k (l1_5.length:Int) l1_6 (l1_6.length:Int) 0 l0_0 a1_0 a1_1 a1_2 a1_3 a1_4 l1_5 l1_6 l1_7
theorem class_rules_method.mono_l:∀ k,(∀ y0 y1 y2 y3 y4 y5 y6 y7 y8 y9 y10 y11 y12,LeO (class_rules_method.l0 k y0 y1 y2 y3 y4 y5 y6 y7 y8 y9 y10 y11 y12) (class_rules_method.l0 (k + 1) y0 y1 y2 y3 y4 y5 y6 y7 y8 y9 y10 y11 y12))∧(∀ y0 y1 y2 y3 y4 y5 y6 y7 y8 y9 y10 y11 y12 y13,LeO (class_rules_method.j1 k y0 y1 y2 y3 y4 y5 y6 y7 y8 y9 y10 y11 y12 y13) (class_rules_method.j1 (k + 1) y0 y1 y2 y3 y4 y5 y6 y7 y8 y9 y10 y11 y12 y13))
 | 0 => ⟨fun _ _ _ _ _ _ _ _ _ _ _ _ _ r h => by simp [class_rules_method.l0] at h,fun _ _ _ _ _ _ _ _ _ _ _ _ _ _ r h => by simp [class_rules_method.j1] at h⟩
 | k + 1 => by
  obtain ⟨ih0,ih1⟩:=class_rules_method.mono_l k
  refine ⟨?_,?_⟩
  ·intro y0 y1 y2 y3 y4 y5 y6 y7 y8 y9 y10 y11 y12
   unfold class_rules_method.l0
   repeat' first
   | (with_reducible exact ih0 _ _ _ _ _ _ _ _ _ _ _ _ _)
   | (with_reducible exact ih1 _ _ _ _ _ _ _ _ _ _ _ _ _ _)
   | (with_reducible exact class_place.mono _ _ _)
   | (with_reducible exact class_rules_class.mono _ _ _)
   | (with_reducible exact class_rules_text.mono _ _ _)
   | (with_reducible exact LeO.refl _)
   | (with_reducible exact LeO.none _)
   | (with_reducible refine LeO.ite ?_ ?_)
   | (with_reducible refine LeO.bind ?_ (fun _ => ?_))
   | exact ih0 _ _ _ _ _ _ _ _ _ _ _ _ _
   | exact ih1 _ _ _ _ _ _ _ _ _ _ _ _ _ _
   | exact class_place.mono _ _ _
   | exact class_rules_class.mono _ _ _
   | exact class_rules_text.mono _ _ _
   | exact LeO.none _
   | refine LeO.ite ?_ ?_
   | refine LeO.bind ?_ (fun _ => ?_)
  ·intro y0 y1 y2 y3 y4 y5 y6 y7 y8 y9 y10 y11 y12 y13
   unfold class_rules_method.j1
   repeat' first
   | (with_reducible exact ih0 _ _ _ _ _ _ _ _ _ _ _ _ _)
   | (with_reducible exact ih1 _ _ _ _ _ _ _ _ _ _ _ _ _ _)
   | (with_reducible exact class_place.mono _ _ _)
   | (with_reducible exact class_rules_class.mono _ _ _)
   | (with_reducible exact class_rules_text.mono _ _ _)
   | (with_reducible exact LeO.refl _)
   | (with_reducible exact LeO.none _)
   | (with_reducible refine LeO.ite ?_ ?_)
   | (with_reducible refine LeO.bind ?_ (fun _ => ?_))
   | exact ih0 _ _ _ _ _ _ _ _ _ _ _ _ _
   | exact ih1 _ _ _ _ _ _ _ _ _ _ _ _ _ _
   | exact class_place.mono _ _ _
   | exact class_rules_class.mono _ _ _
   | exact class_rules_text.mono _ _ _
   | exact LeO.none _
   | refine LeO.ite ?_ ?_
   | refine LeO.bind ?_ (fun _ => ?_)
theorem class_rules_method.mono:∀ a0 a1 a2 a3 a4 a5 a6 a7 a8 k,LeO (class_rules_method.f k a0 a1 a2 a3 a4 a5 a6 a7 a8) (class_rules_method.f (k + 1) a0 a1 a2 a3 a4 a5 a6 a7 a8):=by
 intro a0 a1 a2 a3 a4 a5 a6 a7 a8 k
 obtain ⟨ih0,ih1⟩:=class_rules_method.mono_l k
 unfold class_rules_method.f
 repeat' first
   | (with_reducible exact ih0 _ _ _ _ _ _ _ _ _ _ _ _ _)
   | (with_reducible exact ih1 _ _ _ _ _ _ _ _ _ _ _ _ _ _)
   | (with_reducible exact class_place.mono _ _ _)
   | (with_reducible exact class_rules_class.mono _ _ _)
   | (with_reducible exact class_rules_text.mono _ _ _)
   | (with_reducible exact LeO.refl _)
   | (with_reducible exact LeO.none _)
   | (with_reducible refine LeO.ite ?_ ?_)
   | (with_reducible refine LeO.bind ?_ (fun _ => ?_))
   | exact ih0 _ _ _ _ _ _ _ _ _ _ _ _ _
   | exact ih1 _ _ _ _ _ _ _ _ _ _ _ _ _ _
   | exact class_place.mono _ _ _
   | exact class_rules_class.mono _ _ _
   | exact class_rules_text.mono _ _ _
   | exact LeO.none _
   | refine LeO.ite ?_ ?_
   | refine LeO.bind ?_ (fun _ => ?_)
set_option maxHeartbeats 80000000 in
set_option maxRecDepth 100000 in
theorem class_rules_method.calls (k:Nat) (A0_0:Option Addr) (c0_0:Nat) (l0_0:List (S67)) (a1_0:Int) (a1_1:Int) (a1_2:Int) (a1_3:Int) (a1_4:Int) (A1_5:Option Addr) (c1_5:Nat) (l1_5:List Int) (A1_6:Option Addr) (c1_6:Nat) (l1_6:List (S82)) (A1_7:Option Addr) (c1_7:Nat) (l1_7:List Int) (r:Bool) (w:World) (hr0_0:Kd.C k67 w A0_0 l0_0.length l0_0) (hc0_0:l0_0.length≤c0_0) (hr1_5:Kd.C (Kd.int .u8) w A1_5 l1_5.length l1_5) (hc1_5:l1_5.length≤c1_5) (hr1_6:Kd.C k82 w A1_6 l1_6.length l1_6) (hc1_6:l1_6.length≤c1_6) (hr1_7:Kd.C (Kd.int .u8) w A1_7 l1_7.length l1_7) (hc1_7:l1_7.length≤c1_7) (h:class_rules_method.f k l0_0 a1_0 a1_1 a1_2 a1_3 a1_4 l1_5 l1_6 l1_7=some r) :
  Calls Tryd.prog 33 #[.agg #[.slice A0_0 l0_0.length c0_0],.agg #[.int .i64 a1_0,.int .i64 a1_1,.int .i64 a1_2,.int .i64 a1_3,.int .i64 a1_4,.slice A1_5 l1_5.length c1_5,.slice A1_6 l1_6.length c1_6,.slice A1_7 l1_7.length c1_7]] w fun e w' => e=.returned (.bool r)∧Below w.heap.size w w':=by
 have hu71:=Tryd.underlying71
 have hu56:=Tryd.underlying56
 have hu82:=Tryd.underlying82
 have HR0_0:=Aside0.mk hr0_0
 have HC0_0:=Aside0.mk hc0_0
 clear hr0_0 hc0_0
 have HR1_5:=Aside0.mk hr1_5
 have HC1_5:=Aside0.mk hc1_5
 clear hr1_5 hc1_5
 have HR1_6:=Aside0.mk hr1_6
 have HC1_6:=Aside0.mk hc1_6
 clear hr1_6 hc1_6
 have HR1_7:=Aside0.mk hr1_7
 have HC1_7:=Aside0.mk hc1_7
 clear hr1_7 hc1_7
 have HB:=Aside0.mk (Below.refl w.heap.size w)
 have H:(class_rules_method.l0 k (l1_5.length:Int) l1_6 (l1_6.length:Int) 0 l0_0 a1_0 a1_1 a1_2 a1_3 a1_4 l1_5 l1_6 l1_7)=some r:=h
 clear h
 have H':=Aside0.mk H
 clear H
 go_enter Tryd.func33,Tryd.ntmps33
 go_wp2_with (first|((with_reducible refine gate_dst (N:=2) rfl ?_);(try (refine gate_guard (by rfl) ?_;dsimp only));refine box_event ?hg (N:=2) ?hd (cs:=#[.slice A0_0 l0_0.length c0_0]) (t:=71) ?hr ?_;(case hd => rfl);(case hg => rfl);(case hr => first|(go_simp;done)|(go_simp;rfl));intro gb142 hg w3 hbox hb;have n0_:=Aside0.mk (below_step (by repeat (first|(with_reducible first|exact HB.out|apply below_alloc|apply pw_below_drewN|apply below_drew1)|exact HB.out)) hb);have n1_:=Aside0.mk (hbox);have n2_:=Aside0.mk ((by rw [hg];exact (below_size (by repeat (first|(with_reducible first|exact HB.out|apply below_alloc|apply pw_below_drewN|apply below_drew1)|exact HB.out))):w.heap.size≤gb142));have n3_:=Aside0.mk ((by rw [hg];exact (below_size (by repeat (first|(with_reducible first|exact HB.out|apply below_alloc|apply pw_below_drewN|apply below_drew1)|exact HB.out))):w.heap.size≤gb142));clear HB;have HB:=n0_;have BK142:=n1_;have GW142:=n2_;have GE142:=n3_;clear n0_ n1_ n2_ n3_;clear hb hbox hg)|((with_reducible refine gate_dst (N:=3) rfl ?_);(try (refine gate_guard (by rfl) ?_;dsimp only));refine box_event ?hg (N:=3) ?hd (cs:=#[.int .i64 a1_0,.int .i64 a1_1,.int .i64 a1_2,.int .i64 a1_3,.int .i64 a1_4,.slice A1_5 l1_5.length c1_5,.slice A1_6 l1_6.length c1_6,.slice A1_7 l1_7.length c1_7]) (t:=56) ?hr ?_;(case hd => rfl);(case hg => rfl);(case hr => first|(go_simp;done)|(go_simp;rfl));intro gb143 hg w4 hbox hb;have n0_:=Aside0.mk (blk_below (g:=gb142) (o:=.cells #[.slice A0_0 l0_0.length c0_0] 71 (0,0)) (by (with_reducible repeat (first|refine blk_drewN ?_ _|refine blk_drew ?_|refine blk_alloc ?_ _));exact BK142.out) hb);have n1_:=Aside0.mk (below_step (by repeat (first|(with_reducible first|exact HB.out|apply below_alloc|apply pw_below_drewN|apply below_drew1|refine below_set ?_ GE142.out)|exact HB.out)) hb);have n2_:=Aside0.mk (hbox);have n3_:=Aside0.mk ((by rw [hg];exact (below_size (by repeat (first|(with_reducible first|exact HB.out|apply below_alloc|apply pw_below_drewN|apply below_drew1|refine below_set ?_ GE142.out)|exact HB.out))):w.heap.size≤gb143));have n4_:=Aside0.mk ((by rw [hg];exact (below_size (by repeat (first|(with_reducible first|exact HB.out|apply below_alloc|apply pw_below_drewN|apply below_drew1|refine below_set ?_ GE142.out)|exact HB.out))):w.heap.size≤gb143));have n5_:=Aside0.mk ((by rw [hg];exact Nat.ne_of_lt (blk_lt (g:=gb142) (o:=.cells #[.slice A0_0 l0_0.length c0_0] 71 (0,0)) (by (with_reducible repeat (first|refine blk_drewN ?_ _|refine blk_drew ?_|refine blk_alloc ?_ _));exact BK142.out)):gb142 ≠ gb143));have n6_:=Aside0.mk ((by rw [hg];exact Nat.ne_of_gt (blk_lt (g:=gb142) (o:=.cells #[.slice A0_0 l0_0.length c0_0] 71 (0,0)) (by (with_reducible repeat (first|refine blk_drewN ?_ _|refine blk_drew ?_|refine blk_alloc ?_ _));exact BK142.out)):gb143 ≠ gb142));clear BK142;clear HB;have BK142:=n0_;have HB:=n1_;have BK143:=n2_;have GW143:=n3_;have GE143:=n4_;have NB142_143:=n5_;have NB143_142:=n6_;clear n0_ n1_ n2_ n3_ n4_ n5_ n6_;clear hb hbox hg;have hnb5:=NB143_142.out;have hnc5:=NB142_143.out;have hcz6_0:w4.cell? ⟨gb143,0,none⟩=some (.int .i64 a1_0):=(blk_cell BK143.out 0).trans rfl;have hcz6_1:w4.cell? ⟨gb143,1,none⟩=some (.int .i64 a1_1):=(blk_cell BK143.out 1).trans rfl;have hcz6_2:w4.cell? ⟨gb143,2,none⟩=some (.int .i64 a1_2):=(blk_cell BK143.out 2).trans rfl;have hcz6_3:w4.cell? ⟨gb143,3,none⟩=some (.int .i64 a1_3):=(blk_cell BK143.out 3).trans rfl;have hcz6_4:w4.cell? ⟨gb143,4,none⟩=some (.int .i64 a1_4):=(blk_cell BK143.out 4).trans rfl;have hcz6_5:w4.cell? ⟨gb143,5,none⟩=some (.slice A1_5 l1_5.length c1_5):=(blk_cell BK143.out 5).trans rfl;have hcz6_6:w4.cell? ⟨gb143,6,none⟩=some (.slice A1_6 l1_6.length c1_6):=(blk_cell BK143.out 6).trans rfl;have hcz6_7:w4.cell? ⟨gb143,7,none⟩=some (.slice A1_7 l1_7.length c1_7):=(blk_cell BK143.out 7).trans rfl;have hfz6_0:=blk_frozen BK143.out 0;have hfz6_1:=blk_frozen BK143.out 1;have hfz6_2:=blk_frozen BK143.out 2;have hfz6_3:=blk_frozen BK143.out 3;have hfz6_4:=blk_frozen BK143.out 4;have hfz6_5:=blk_frozen BK143.out 5;have hfz6_6:=blk_frozen BK143.out 6;have hfz6_7:=blk_frozen BK143.out 7))
 go_loopg [14] k (fun kq v14 w' => ∃ (x14_1:Int),v14=.int .i64 x14_1∧Aside0 (class_rules_method.l0 kq (l1_5.length:Int) l1_6 (l1_6.length:Int) x14_1 l0_0 a1_0 a1_1 a1_2 a1_3 a1_4 l1_5 l1_6 l1_7=some r)∧Aside0 (kq≤k)∧Aside0 (w'.heap[gb142]?=some (.cells #[(.slice A0_0 l0_0.length c0_0)] 71 (0,0)))∧Aside0 (w'.heap[gb143]?=some (.cells #[.int .i64 a1_0,.int .i64 a1_1,.int .i64 a1_2,.int .i64 a1_3,.int .i64 a1_4,(.slice A1_5 l1_5.length c1_5),(.slice A1_6 l1_6.length c1_6),(.slice A1_7 l1_7.length c1_7)] 56 (0,0)))∧Aside0 (Below w.heap.size w w'))
 case atStart => exact ⟨(0),(by first|rfl|(simp;done)|(simp [*];done)),H',⟨Nat.le_refl _⟩,⟨by (with_reducible repeat (first|refine blk_drewN ?_ _|refine blk_drew ?_|refine blk_alloc ?_ _));exact BK142.out⟩,⟨by (with_reducible repeat (first|refine blk_drewN ?_ _|refine blk_drew ?_|refine blk_alloc ?_ _));exact BK143.out⟩,⟨by repeat (first|(with_reducible first|exact HB.out|apply below_alloc|apply pw_below_drewN|apply below_drew1|refine below_set ?_ GE142.out|refine below_set ?_ GE143.out)|exact HB.out)⟩⟩
 case round =>
  clear H'
  try clear c1;try clear p2;try clear c3;try clear c5;try clear hcz6_0;try clear hcz6_1;try clear hcz6_2;try clear hcz6_3;try clear hcz6_4;try clear hcz6_5;try clear hcz6_6;try clear hcz6_7;try clear hfz6_0;try clear hfz6_1;try clear hfz6_2;try clear hfz6_3;try clear hfz6_4;try clear hfz6_5;try clear hfz6_6;try clear hfz6_7
  obtain ⟨x14_1,rfl,HA,HK1,BK142,BK143,HB⟩:=hrel
  cases gk with
  | zero => exact absurd HA.out (by simp [class_rules_method.l0])
  | succ k1 =>
   have H:=HA.out
   clear HA
   simp only [class_rules_method.l0] at H
   by_cases c7:x14_1 < (l1_6.length:Int)
   ·rw [if_pos c7] at H
    have c7b0:decide (x14_1 < (l1_6.length:Int))=true:=decide_eq_true c7
    clear c7
    by_cases c8:0≤x14_1
    ·rw [if_pos c8] at H
     have c8b0:decide (0≤x14_1)=true:=decide_eq_true c8
     clear c8
     by_cases c9:x14_1 < (l1_6.length:Int)
     ·rw [if_pos c9] at H
      have c9b0:decide (x14_1 < (l1_6.length:Int))=true:=decide_eq_true c9
      clear c9
      have HC10:=Aside0.mk H
      clear H
      have p144:0≤(x14_1:Int):=of_decide_eq_true (by first|(with_reducible assumption)|assumption)
      have q144:x14_1 < (l1_6.length:Int):=of_decide_eq_true (by first|(with_reducible assumption)|assumption)
      obtain ⟨ad144,e144,hx144_0,hx144_1,hx144_2,hx144_3⟩:=at_T82 HR1_6.out x14_1 p144 q144
      cases e144
      replace hx144_0:=(HB.out.cell (World.block_lt_of_cell? w _ hx144_0)).trans hx144_0
      replace hx144_1:=(HB.out.cell (World.block_lt_of_cell? w _ hx144_1)).trans hx144_1
      replace hx144_2:=(HB.out.cell (World.block_lt_of_cell? w _ hx144_2)).trans hx144_2
      replace hx144_3:=(HB.out.cell (World.block_lt_of_cell? w _ hx144_3)).trans hx144_3
      replace p144:=eq_true p144
      replace q144:=eq_true q144
      go_upto_region 5 with (first|((with_reducible refine gate_dst (N:=7) rfl ?_);(try (refine gate_guard (by rfl) ?_;dsimp only));refine box_event ?hg (N:=7) ?hd (cs:=#[.int .i64 0,.int .i64 0,.int .i64 0,.int .i64 0]) (t:=82) ?hr ?_;(case hd => rfl);(case hg => rfl);(case hr => first|(go_simp;done)|(go_simp;rfl));intro gb145 hg w11 hbox hb;have n0_:=Aside0.mk (blk_below (g:=gb142) (o:=.cells #[.slice A0_0 l0_0.length c0_0] 71 (0,0)) (by (with_reducible repeat (first|refine blk_drewN ?_ _|refine blk_drew ?_|refine blk_alloc ?_ _));exact BK142.out) hb);have n1_:=Aside0.mk (blk_below (g:=gb143) (o:=.cells #[.int .i64 a1_0,.int .i64 a1_1,.int .i64 a1_2,.int .i64 a1_3,.int .i64 a1_4,.slice A1_5 l1_5.length c1_5,.slice (some ad144) l1_6.length c1_6,.slice A1_7 l1_7.length c1_7] 56 (0,0)) (by (with_reducible repeat (first|refine blk_drewN ?_ _|refine blk_drew ?_|refine blk_alloc ?_ _));exact BK143.out) hb);have n2_:=Aside0.mk (below_step (by repeat (first|(with_reducible first|exact HB.out|apply below_alloc|apply pw_below_drewN|apply below_drew1|refine below_set ?_ GE142.out|refine below_set ?_ GE143.out)|exact HB.out)) hb);have n3_:=Aside0.mk (hbox);have n4_:=Aside0.mk ((by rw [hg];exact (below_size (by repeat (first|(with_reducible first|exact HB.out|apply below_alloc|apply pw_below_drewN|apply below_drew1|refine below_set ?_ GE142.out|refine below_set ?_ GE143.out)|exact HB.out))):w.heap.size≤gb145));have n5_:=Aside0.mk ((by rw [hg];exact (below_size (by repeat (first|(with_reducible first|exact HB.out|apply below_alloc|apply pw_below_drewN|apply below_drew1|refine below_set ?_ GE142.out|refine below_set ?_ GE143.out)|exact HB.out))):w.heap.size≤gb145));have n6_:=Aside0.mk ((by rw [hg];exact Nat.ne_of_lt (blk_lt (g:=gb142) (o:=.cells #[.slice A0_0 l0_0.length c0_0] 71 (0,0)) (by (with_reducible repeat (first|refine blk_drewN ?_ _|refine blk_drew ?_|refine blk_alloc ?_ _));exact BK142.out)):gb142 ≠ gb145));have n7_:=Aside0.mk ((by rw [hg];exact Nat.ne_of_gt (blk_lt (g:=gb142) (o:=.cells #[.slice A0_0 l0_0.length c0_0] 71 (0,0)) (by (with_reducible repeat (first|refine blk_drewN ?_ _|refine blk_drew ?_|refine blk_alloc ?_ _));exact BK142.out)):gb145 ≠ gb142));have n8_:=Aside0.mk ((by rw [hg];exact Nat.ne_of_lt (blk_lt (g:=gb143) (o:=.cells #[.int .i64 a1_0,.int .i64 a1_1,.int .i64 a1_2,.int .i64 a1_3,.int .i64 a1_4,.slice A1_5 l1_5.length c1_5,.slice (some ad144) l1_6.length c1_6,.slice A1_7 l1_7.length c1_7] 56 (0,0)) (by (with_reducible repeat (first|refine blk_drewN ?_ _|refine blk_drew ?_|refine blk_alloc ?_ _));exact BK143.out)):gb143 ≠ gb145));have n9_:=Aside0.mk ((by rw [hg];exact Nat.ne_of_gt (blk_lt (g:=gb143) (o:=.cells #[.int .i64 a1_0,.int .i64 a1_1,.int .i64 a1_2,.int .i64 a1_3,.int .i64 a1_4,.slice A1_5 l1_5.length c1_5,.slice (some ad144) l1_6.length c1_6,.slice A1_7 l1_7.length c1_7] 56 (0,0)) (by (with_reducible repeat (first|refine blk_drewN ?_ _|refine blk_drew ?_|refine blk_alloc ?_ _));exact BK143.out)):gb145 ≠ gb143));clear BK142;clear BK143;clear HB;have BK142:=n0_;have BK143:=n1_;have HB:=n2_;have BK145:=n3_;have GW145:=n4_;have GE145:=n5_;have NB142_145:=n6_;have NB145_142:=n7_;have NB143_145:=n8_;have NB145_143:=n9_;clear n0_ n1_ n2_ n3_ n4_ n5_ n6_ n7_ n8_ n9_;clear hb hbox hg;have hnb12:=NB145_142.out;have hnc12:=NB142_145.out;have hnb13:=NB145_143.out;have hnc13:=NB143_145.out;have hcz14_0:w11.cell? ⟨gb145,0,none⟩=some (.int .i64 0):=(blk_cell BK145.out 0).trans rfl;have hcz14_1:w11.cell? ⟨gb145,1,none⟩=some (.int .i64 0):=(blk_cell BK145.out 1).trans rfl;have hcz14_2:w11.cell? ⟨gb145,2,none⟩=some (.int .i64 0):=(blk_cell BK145.out 2).trans rfl;have hcz14_3:w11.cell? ⟨gb145,3,none⟩=some (.int .i64 0):=(blk_cell BK145.out 3).trans rfl;have hfz14_0:=blk_frozen BK145.out 0;have hfz14_1:=blk_frozen BK145.out 1;have hfz14_2:=blk_frozen BK145.out 2;have hfz14_3:=blk_frozen BK145.out 3))
      (try simp only [Act.put,List.setIfInBounds_toArray,List.set_cons_zero,List.set_cons_succ])
      go_cut [54] (fun v54 wc => ∃ (kq:Nat) (x54_9:Bool),v54=.bool x54_9∧Aside0 (class_rules_method.j1 kq (l1_5.length:Int) l1_6 (l1_6.length:Int) x14_1 x54_9 l0_0 a1_0 a1_1 a1_2 a1_3 a1_4 l1_5 l1_6 l1_7=some r)∧Aside0 (kq≤k1)∧Aside0 (wc.heap[gb142]?=some (.cells #[(.slice A0_0 l0_0.length c0_0)] 71 (0,0)))∧Aside0 (wc.heap[gb143]?=some (.cells #[.int .i64 a1_0,.int .i64 a1_1,.int .i64 a1_2,.int .i64 a1_3,.int .i64 a1_4,(.slice A1_5 l1_5.length c1_5),(.slice (some ad144) l1_6.length c1_6),(.slice A1_7 l1_7.length c1_7)] 56 (0,0)))∧Aside0 (wc.heap[gb145]?=some (.cells #[.int .i64 ((rd_T82 l1_6 x14_1).f0),.int .i64 ((rd_T82 l1_6 x14_1).f1),.int .i64 ((rd_T82 l1_6 x14_1).f2),.int .i64 ((rd_T82 l1_6 x14_1).f3)] 82 (0,0)))∧Aside0 (Below w.heap.size w wc))
      case first =>
       have H:=HC10.out
       clear HC10
       by_cases c15:((rd_T82 l1_6 x14_1).f0) < 0
       ·rw [if_pos c15] at H
        have c15b0:decide (((rd_T82 l1_6 x14_1).f0) < 0)=true:=decide_eq_true c15
        clear c15
        (first|rw [c15b0]|(simp only [i64_w,i32_w];rw [c15b0])|skip)
        have H':=Aside0.mk H
        clear H
        have hnb16:=NB145_142.out
        have hnc16:=NB142_145.out
        have hnb17:=NB145_143.out
        have hnc17:=NB143_145.out
        have hcz18_0:w11.cell? ⟨gb145,0,none⟩=some (.int .i64 0):=(blk_cell BK145.out 0).trans rfl
        have hcz18_1:w11.cell? ⟨gb145,1,none⟩=some (.int .i64 0):=(blk_cell BK145.out 1).trans rfl
        have hcz18_2:w11.cell? ⟨gb145,2,none⟩=some (.int .i64 0):=(blk_cell BK145.out 2).trans rfl
        have hcz18_3:w11.cell? ⟨gb145,3,none⟩=some (.int .i64 0):=(blk_cell BK145.out 3).trans rfl
        have hfz18_0:=blk_frozen BK145.out 0
        have hfz18_1:=blk_frozen BK145.out 1
        have hfz18_2:=blk_frozen BK145.out 2
        have hfz18_3:=blk_frozen BK145.out 3
        go_wp2
        go_meet
        case rel => exact ⟨_,(true),(by first|rfl|(simp;done)|(simp [*];done)),H',⟨by have:=HK1.out;first|omega|exact Nat.le_refl _⟩,⟨by (with_reducible repeat (first|refine blk_drewN ?_ _|refine blk_drew ?_|refine blk_alloc ?_ _));refine blk_far ?_ NB142_145.out _;(with_reducible repeat (first|refine blk_drewN ?_ _|refine blk_drew ?_|refine blk_alloc ?_ _));refine blk_far ?_ NB142_145.out _;(with_reducible repeat (first|refine blk_drewN ?_ _|refine blk_drew ?_|refine blk_alloc ?_ _));refine blk_far ?_ NB142_145.out _;(with_reducible repeat (first|refine blk_drewN ?_ _|refine blk_drew ?_|refine blk_alloc ?_ _));refine blk_far ?_ NB142_145.out _;(with_reducible repeat (first|refine blk_drewN ?_ _|refine blk_drew ?_|refine blk_alloc ?_ _));exact BK142.out⟩,⟨by (with_reducible repeat (first|refine blk_drewN ?_ _|refine blk_drew ?_|refine blk_alloc ?_ _));refine blk_far ?_ NB143_145.out _;(with_reducible repeat (first|refine blk_drewN ?_ _|refine blk_drew ?_|refine blk_alloc ?_ _));refine blk_far ?_ NB143_145.out _;(with_reducible repeat (first|refine blk_drewN ?_ _|refine blk_drew ?_|refine blk_alloc ?_ _));refine blk_far ?_ NB143_145.out _;(with_reducible repeat (first|refine blk_drewN ?_ _|refine blk_drew ?_|refine blk_alloc ?_ _));refine blk_far ?_ NB143_145.out _;(with_reducible repeat (first|refine blk_drewN ?_ _|refine blk_drew ?_|refine blk_alloc ?_ _));exact BK143.out⟩,⟨by (with_reducible repeat (first|refine blk_drewN ?_ _|refine blk_drew ?_|refine blk_alloc ?_ _));refine blk_put (cs:=#[.int .i64 ((rd_T82 l1_6 x14_1).f0),.int .i64 ((rd_T82 l1_6 x14_1).f1),.int .i64 ((rd_T82 l1_6 x14_1).f2),.int .i64 0]) ?_ 3 _ rfl;(with_reducible repeat (first|refine blk_drewN ?_ _|refine blk_drew ?_|refine blk_alloc ?_ _));refine blk_put (cs:=#[.int .i64 ((rd_T82 l1_6 x14_1).f0),.int .i64 ((rd_T82 l1_6 x14_1).f1),.int .i64 0,.int .i64 0]) ?_ 2 _ rfl;(with_reducible repeat (first|refine blk_drewN ?_ _|refine blk_drew ?_|refine blk_alloc ?_ _));refine blk_put (cs:=#[.int .i64 ((rd_T82 l1_6 x14_1).f0),.int .i64 0,.int .i64 0,.int .i64 0]) ?_ 1 _ rfl;(with_reducible repeat (first|refine blk_drewN ?_ _|refine blk_drew ?_|refine blk_alloc ?_ _));refine blk_put (cs:=#[.int .i64 0,.int .i64 0,.int .i64 0,.int .i64 0]) ?_ 0 _ rfl;(with_reducible repeat (first|refine blk_drewN ?_ _|refine blk_drew ?_|refine blk_alloc ?_ _));exact BK145.out⟩,⟨by repeat (first|(with_reducible first|exact HB.out|apply below_alloc|apply pw_below_drewN|apply below_drew1|refine below_set ?_ GE142.out|refine below_set ?_ GE143.out|refine below_set ?_ GE145.out)|exact HB.out)⟩⟩
       ·rw [if_neg c15] at H
        have c15b0:decide (((rd_T82 l1_6 x14_1).f0) < 0)=false:=decide_eq_false c15
        clear c15
        (first|rw [c15b0]|(simp only [i64_w,i32_w];rw [c15b0])|skip)
        by_cases c19:((rd_T82 l1_6 x14_1).f0) ≥ ((rd_T82 l1_6 x14_1).f1)
        ·rw [if_pos c19] at H
         have c19b0:decide (((rd_T82 l1_6 x14_1).f1)≤((rd_T82 l1_6 x14_1).f0))=true:=decide_eq_true c19
         clear c19
         have H':=Aside0.mk H
         clear H
         have hnb20:=NB145_142.out
         have hnc20:=NB142_145.out
         have hnb21:=NB145_143.out
         have hnc21:=NB143_145.out
         have hcz22_0:w11.cell? ⟨gb145,0,none⟩=some (.int .i64 0):=(blk_cell BK145.out 0).trans rfl
         have hcz22_1:w11.cell? ⟨gb145,1,none⟩=some (.int .i64 0):=(blk_cell BK145.out 1).trans rfl
         have hcz22_2:w11.cell? ⟨gb145,2,none⟩=some (.int .i64 0):=(blk_cell BK145.out 2).trans rfl
         have hcz22_3:w11.cell? ⟨gb145,3,none⟩=some (.int .i64 0):=(blk_cell BK145.out 3).trans rfl
         have hfz22_0:=blk_frozen BK145.out 0
         have hfz22_1:=blk_frozen BK145.out 1
         have hfz22_2:=blk_frozen BK145.out 2
         have hfz22_3:=blk_frozen BK145.out 3
         go_wp2
         go_meet
         case rel => exact ⟨_,(true),(by first|rfl|(simp;done)|(simp [*];done)),H',⟨by have:=HK1.out;first|omega|exact Nat.le_refl _⟩,⟨by (with_reducible repeat (first|refine blk_drewN ?_ _|refine blk_drew ?_|refine blk_alloc ?_ _));refine blk_far ?_ NB142_145.out _;(with_reducible repeat (first|refine blk_drewN ?_ _|refine blk_drew ?_|refine blk_alloc ?_ _));refine blk_far ?_ NB142_145.out _;(with_reducible repeat (first|refine blk_drewN ?_ _|refine blk_drew ?_|refine blk_alloc ?_ _));refine blk_far ?_ NB142_145.out _;(with_reducible repeat (first|refine blk_drewN ?_ _|refine blk_drew ?_|refine blk_alloc ?_ _));refine blk_far ?_ NB142_145.out _;(with_reducible repeat (first|refine blk_drewN ?_ _|refine blk_drew ?_|refine blk_alloc ?_ _));exact BK142.out⟩,⟨by (with_reducible repeat (first|refine blk_drewN ?_ _|refine blk_drew ?_|refine blk_alloc ?_ _));refine blk_far ?_ NB143_145.out _;(with_reducible repeat (first|refine blk_drewN ?_ _|refine blk_drew ?_|refine blk_alloc ?_ _));refine blk_far ?_ NB143_145.out _;(with_reducible repeat (first|refine blk_drewN ?_ _|refine blk_drew ?_|refine blk_alloc ?_ _));refine blk_far ?_ NB143_145.out _;(with_reducible repeat (first|refine blk_drewN ?_ _|refine blk_drew ?_|refine blk_alloc ?_ _));refine blk_far ?_ NB143_145.out _;(with_reducible repeat (first|refine blk_drewN ?_ _|refine blk_drew ?_|refine blk_alloc ?_ _));exact BK143.out⟩,⟨by (with_reducible repeat (first|refine blk_drewN ?_ _|refine blk_drew ?_|refine blk_alloc ?_ _));refine blk_put (cs:=#[.int .i64 ((rd_T82 l1_6 x14_1).f0),.int .i64 ((rd_T82 l1_6 x14_1).f1),.int .i64 ((rd_T82 l1_6 x14_1).f2),.int .i64 0]) ?_ 3 _ rfl;(with_reducible repeat (first|refine blk_drewN ?_ _|refine blk_drew ?_|refine blk_alloc ?_ _));refine blk_put (cs:=#[.int .i64 ((rd_T82 l1_6 x14_1).f0),.int .i64 ((rd_T82 l1_6 x14_1).f1),.int .i64 0,.int .i64 0]) ?_ 2 _ rfl;(with_reducible repeat (first|refine blk_drewN ?_ _|refine blk_drew ?_|refine blk_alloc ?_ _));refine blk_put (cs:=#[.int .i64 ((rd_T82 l1_6 x14_1).f0),.int .i64 0,.int .i64 0,.int .i64 0]) ?_ 1 _ rfl;(with_reducible repeat (first|refine blk_drewN ?_ _|refine blk_drew ?_|refine blk_alloc ?_ _));refine blk_put (cs:=#[.int .i64 0,.int .i64 0,.int .i64 0,.int .i64 0]) ?_ 0 _ rfl;(with_reducible repeat (first|refine blk_drewN ?_ _|refine blk_drew ?_|refine blk_alloc ?_ _));exact BK145.out⟩,⟨by repeat (first|(with_reducible first|exact HB.out|apply below_alloc|apply pw_below_drewN|apply below_drew1|refine below_set ?_ GE142.out|refine below_set ?_ GE143.out|refine below_set ?_ GE145.out)|exact HB.out)⟩⟩
        ·rw [if_neg c19] at H
         have c19b0:decide (((rd_T82 l1_6 x14_1).f1)≤((rd_T82 l1_6 x14_1).f0))=false:=decide_eq_false c19
         clear c19
         by_cases c23:((rd_T82 l1_6 x14_1).f1) > (l1_5.length:Int)
         ·rw [if_pos c23] at H
          have c23b0:decide ((l1_5.length:Int) < ((rd_T82 l1_6 x14_1).f1))=true:=decide_eq_true c23
          clear c23
          have H':=Aside0.mk H
          clear H
          have hnb24:=NB145_142.out
          have hnc24:=NB142_145.out
          have hnb25:=NB145_143.out
          have hnc25:=NB143_145.out
          have hcz26_0:w11.cell? ⟨gb145,0,none⟩=some (.int .i64 0):=(blk_cell BK145.out 0).trans rfl
          have hcz26_1:w11.cell? ⟨gb145,1,none⟩=some (.int .i64 0):=(blk_cell BK145.out 1).trans rfl
          have hcz26_2:w11.cell? ⟨gb145,2,none⟩=some (.int .i64 0):=(blk_cell BK145.out 2).trans rfl
          have hcz26_3:w11.cell? ⟨gb145,3,none⟩=some (.int .i64 0):=(blk_cell BK145.out 3).trans rfl
          have hfz26_0:=blk_frozen BK145.out 0
          have hfz26_1:=blk_frozen BK145.out 1
          have hfz26_2:=blk_frozen BK145.out 2
          have hfz26_3:=blk_frozen BK145.out 3
          go_wp2
          go_meet
          case rel => exact ⟨_,(true),(by first|rfl|(simp;done)|(simp [*];done)),H',⟨by have:=HK1.out;first|omega|exact Nat.le_refl _⟩,⟨by (with_reducible repeat (first|refine blk_drewN ?_ _|refine blk_drew ?_|refine blk_alloc ?_ _));refine blk_far ?_ NB142_145.out _;(with_reducible repeat (first|refine blk_drewN ?_ _|refine blk_drew ?_|refine blk_alloc ?_ _));refine blk_far ?_ NB142_145.out _;(with_reducible repeat (first|refine blk_drewN ?_ _|refine blk_drew ?_|refine blk_alloc ?_ _));refine blk_far ?_ NB142_145.out _;(with_reducible repeat (first|refine blk_drewN ?_ _|refine blk_drew ?_|refine blk_alloc ?_ _));refine blk_far ?_ NB142_145.out _;(with_reducible repeat (first|refine blk_drewN ?_ _|refine blk_drew ?_|refine blk_alloc ?_ _));exact BK142.out⟩,⟨by (with_reducible repeat (first|refine blk_drewN ?_ _|refine blk_drew ?_|refine blk_alloc ?_ _));refine blk_far ?_ NB143_145.out _;(with_reducible repeat (first|refine blk_drewN ?_ _|refine blk_drew ?_|refine blk_alloc ?_ _));refine blk_far ?_ NB143_145.out _;(with_reducible repeat (first|refine blk_drewN ?_ _|refine blk_drew ?_|refine blk_alloc ?_ _));refine blk_far ?_ NB143_145.out _;(with_reducible repeat (first|refine blk_drewN ?_ _|refine blk_drew ?_|refine blk_alloc ?_ _));refine blk_far ?_ NB143_145.out _;(with_reducible repeat (first|refine blk_drewN ?_ _|refine blk_drew ?_|refine blk_alloc ?_ _));exact BK143.out⟩,⟨by (with_reducible repeat (first|refine blk_drewN ?_ _|refine blk_drew ?_|refine blk_alloc ?_ _));refine blk_put (cs:=#[.int .i64 ((rd_T82 l1_6 x14_1).f0),.int .i64 ((rd_T82 l1_6 x14_1).f1),.int .i64 ((rd_T82 l1_6 x14_1).f2),.int .i64 0]) ?_ 3 _ rfl;(with_reducible repeat (first|refine blk_drewN ?_ _|refine blk_drew ?_|refine blk_alloc ?_ _));refine blk_put (cs:=#[.int .i64 ((rd_T82 l1_6 x14_1).f0),.int .i64 ((rd_T82 l1_6 x14_1).f1),.int .i64 0,.int .i64 0]) ?_ 2 _ rfl;(with_reducible repeat (first|refine blk_drewN ?_ _|refine blk_drew ?_|refine blk_alloc ?_ _));refine blk_put (cs:=#[.int .i64 ((rd_T82 l1_6 x14_1).f0),.int .i64 0,.int .i64 0,.int .i64 0]) ?_ 1 _ rfl;(with_reducible repeat (first|refine blk_drewN ?_ _|refine blk_drew ?_|refine blk_alloc ?_ _));refine blk_put (cs:=#[.int .i64 0,.int .i64 0,.int .i64 0,.int .i64 0]) ?_ 0 _ rfl;(with_reducible repeat (first|refine blk_drewN ?_ _|refine blk_drew ?_|refine blk_alloc ?_ _));exact BK145.out⟩,⟨by repeat (first|(with_reducible first|exact HB.out|apply below_alloc|apply pw_below_drewN|apply below_drew1|refine below_set ?_ GE142.out|refine below_set ?_ GE143.out|refine below_set ?_ GE145.out)|exact HB.out)⟩⟩
         ·rw [if_neg c23] at H
          have c23b0:decide ((l1_5.length:Int) < ((rd_T82 l1_6 x14_1).f1))=false:=decide_eq_false c23
          clear c23
          replace H:=Option.bind_eq_some_iff.mp H
          obtain ⟨t146,A270,H⟩:=H
          replace H:(if t146=true then (if ((rd_T82 l1_6 x14_1).f3)=0 then (class_rules_method.j1 k1 (l1_5.length:Int) l1_6 (l1_6.length:Int) x14_1 false l0_0 a1_0 a1_1 a1_2 a1_3 a1_4 l1_5 l1_6 l1_7) else ((class_rules_class.f k1 l0_0 (([(rd_T82 l1_6 x14_1).f3]:List Int))).bind fun t150 => (class_rules_method.j1 k1 (l1_5.length:Int) l1_6 (l1_6.length:Int) x14_1 (!t150) l0_0 a1_0 a1_1 a1_2 a1_3 a1_4 l1_5 l1_6 l1_7))) else (class_rules_method.j1 k1 (l1_5.length:Int) l1_6 (l1_6.length:Int) x14_1 true l0_0 a1_0 a1_1 a1_2 a1_3 a1_4 l1_5 l1_6 l1_7))=some r:=H
          have A27:=Aside0.mk A270
          clear A270
          by_cases c28:t146=true
          ·subst c28
           have H1:(if ((rd_T82 l1_6 x14_1).f3)=0 then (class_rules_method.j1 k1 (l1_5.length:Int) l1_6 (l1_6.length:Int) x14_1 false l0_0 a1_0 a1_1 a1_2 a1_3 a1_4 l1_5 l1_6 l1_7) else ((class_rules_class.f k1 l0_0 (([(rd_T82 l1_6 x14_1).f3]:List Int))).bind fun t150 => (class_rules_method.j1 k1 (l1_5.length:Int) l1_6 (l1_6.length:Int) x14_1 (!t150) l0_0 a1_0 a1_1 a1_2 a1_3 a1_4 l1_5 l1_6 l1_7)))=some r:=by rw [if_pos rfl] at H;exact H
           clear H
           have H:=H1
           clear H1
           by_cases c29:((rd_T82 l1_6 x14_1).f3)=0
           ·rw [if_pos c29] at H
            have c29b0:(((rd_T82 l1_6 x14_1).f3)==0)=true:=beq_iff_eq.mpr c29
            have c29b1:(((rd_T82 l1_6 x14_1).f3) != 0)=false:=bne_eq_false_iff_eq.mpr c29
            clear c29
            have H':=Aside0.mk H
            clear H
            have hnb30:=NB145_142.out
            have hnc30:=NB142_145.out
            have hnb31:=NB145_143.out
            have hnc31:=NB143_145.out
            have hcz32_0:w11.cell? ⟨gb145,0,none⟩=some (.int .i64 0):=(blk_cell BK145.out 0).trans rfl
            have hcz32_1:w11.cell? ⟨gb145,1,none⟩=some (.int .i64 0):=(blk_cell BK145.out 1).trans rfl
            have hcz32_2:w11.cell? ⟨gb145,2,none⟩=some (.int .i64 0):=(blk_cell BK145.out 2).trans rfl
            have hcz32_3:w11.cell? ⟨gb145,3,none⟩=some (.int .i64 0):=(blk_cell BK145.out 3).trans rfl
            have hfz32_0:=blk_frozen BK145.out 0
            have hfz32_1:=blk_frozen BK145.out 1
            have hfz32_2:=blk_frozen BK145.out 2
            have hfz32_3:=blk_frozen BK145.out 3
            go_wp2_with (first|(go_at_call 52;(with_reducible refine (class_within.calls ((rd_T82 l1_6 x14_1).f2) (wrap64 ((l1_5.length:Int) - 1)) true _ A27.out).mono ?_);rintro e w' ⟨rfl,⟨nd,rfl⟩⟩))
            go_meet
            case rel => exact ⟨_,(false),(by first|rfl|(simp;done)|(simp [*];done)),H',⟨by have:=HK1.out;first|omega|exact Nat.le_refl _⟩,⟨by (with_reducible repeat (first|refine blk_drewN ?_ _|refine blk_drew ?_|refine blk_alloc ?_ _));refine blk_far ?_ NB142_145.out _;(with_reducible repeat (first|refine blk_drewN ?_ _|refine blk_drew ?_|refine blk_alloc ?_ _));refine blk_far ?_ NB142_145.out _;(with_reducible repeat (first|refine blk_drewN ?_ _|refine blk_drew ?_|refine blk_alloc ?_ _));refine blk_far ?_ NB142_145.out _;(with_reducible repeat (first|refine blk_drewN ?_ _|refine blk_drew ?_|refine blk_alloc ?_ _));refine blk_far ?_ NB142_145.out _;(with_reducible repeat (first|refine blk_drewN ?_ _|refine blk_drew ?_|refine blk_alloc ?_ _));exact BK142.out⟩,⟨by (with_reducible repeat (first|refine blk_drewN ?_ _|refine blk_drew ?_|refine blk_alloc ?_ _));refine blk_far ?_ NB143_145.out _;(with_reducible repeat (first|refine blk_drewN ?_ _|refine blk_drew ?_|refine blk_alloc ?_ _));refine blk_far ?_ NB143_145.out _;(with_reducible repeat (first|refine blk_drewN ?_ _|refine blk_drew ?_|refine blk_alloc ?_ _));refine blk_far ?_ NB143_145.out _;(with_reducible repeat (first|refine blk_drewN ?_ _|refine blk_drew ?_|refine blk_alloc ?_ _));refine blk_far ?_ NB143_145.out _;(with_reducible repeat (first|refine blk_drewN ?_ _|refine blk_drew ?_|refine blk_alloc ?_ _));exact BK143.out⟩,⟨by (with_reducible repeat (first|refine blk_drewN ?_ _|refine blk_drew ?_|refine blk_alloc ?_ _));refine blk_put (cs:=#[.int .i64 ((rd_T82 l1_6 x14_1).f0),.int .i64 ((rd_T82 l1_6 x14_1).f1),.int .i64 ((rd_T82 l1_6 x14_1).f2),.int .i64 0]) ?_ 3 _ rfl;(with_reducible repeat (first|refine blk_drewN ?_ _|refine blk_drew ?_|refine blk_alloc ?_ _));refine blk_put (cs:=#[.int .i64 ((rd_T82 l1_6 x14_1).f0),.int .i64 ((rd_T82 l1_6 x14_1).f1),.int .i64 0,.int .i64 0]) ?_ 2 _ rfl;(with_reducible repeat (first|refine blk_drewN ?_ _|refine blk_drew ?_|refine blk_alloc ?_ _));refine blk_put (cs:=#[.int .i64 ((rd_T82 l1_6 x14_1).f0),.int .i64 0,.int .i64 0,.int .i64 0]) ?_ 1 _ rfl;(with_reducible repeat (first|refine blk_drewN ?_ _|refine blk_drew ?_|refine blk_alloc ?_ _));refine blk_put (cs:=#[.int .i64 0,.int .i64 0,.int .i64 0,.int .i64 0]) ?_ 0 _ rfl;(with_reducible repeat (first|refine blk_drewN ?_ _|refine blk_drew ?_|refine blk_alloc ?_ _));exact BK145.out⟩,⟨by repeat (first|(with_reducible first|exact HB.out|apply below_alloc|apply pw_below_drewN|apply below_drew1|refine below_set ?_ GE142.out|refine below_set ?_ GE143.out|refine below_set ?_ GE145.out)|exact HB.out)⟩⟩
           ·rw [if_neg c29] at H
            have c29b0:(((rd_T82 l1_6 x14_1).f3)==0)=false:=beq_eq_false_iff_ne.mpr c29
            have c29b1:(((rd_T82 l1_6 x14_1).f3) != 0)=true:=bne_iff_ne.mpr c29
            obtain ⟨y147,hy147⟩:∃ y_:List Int,y_=(([(rd_T82 l1_6 x14_1).f3]:List Int)):=⟨_,rfl⟩
            replace H:((class_rules_class.f k1 l0_0 y147).bind fun t150 => (class_rules_method.j1 k1 (l1_5.length:Int) l1_6 (l1_6.length:Int) x14_1 (!t150) l0_0 a1_0 a1_1 a1_2 a1_3 a1_4 l1_5 l1_6 l1_7))=some r:=by first|(rw [hy147];with_reducible exact H)|(have H2_:=(Option.bind_some _ _).symm.trans H;rw [hy147];with_reducible exact H2_)|(have H2_:=(Option.bind_some _ _).symm.trans H;with_reducible exact H2_)|with_reducible exact H|(rw [hy147];exact H)|exact H
            have Ny147:=Aside0.mk hy147
            clear hy147
            replace H:=Option.bind_eq_some_iff.mp H
            obtain ⟨t150,A330,H⟩:=H
            replace H:(class_rules_method.j1 k1 (l1_5.length:Int) l1_6 (l1_6.length:Int) x14_1 (!t150) l0_0 a1_0 a1_1 a1_2 a1_3 a1_4 l1_5 l1_6 l1_7)=some r:=H
            have A33:=Aside0.mk A330
            clear A330
            have H':=Aside0.mk H
            clear H
            have hnb34:=NB145_142.out
            have hnc34:=NB142_145.out
            have hnb35:=NB145_143.out
            have hnc35:=NB143_145.out
            have hcz36_0:w11.cell? ⟨gb145,0,none⟩=some (.int .i64 0):=(blk_cell BK145.out 0).trans rfl
            have hcz36_1:w11.cell? ⟨gb145,1,none⟩=some (.int .i64 0):=(blk_cell BK145.out 1).trans rfl
            have hcz36_2:w11.cell? ⟨gb145,2,none⟩=some (.int .i64 0):=(blk_cell BK145.out 2).trans rfl
            have hcz36_3:w11.cell? ⟨gb145,3,none⟩=some (.int .i64 0):=(blk_cell BK145.out 3).trans rfl
            have hfz36_0:=blk_frozen BK145.out 0
            have hfz36_1:=blk_frozen BK145.out 1
            have hfz36_2:=blk_frozen BK145.out 2
            have hfz36_3:=blk_frozen BK145.out 3
            go_wp2_with (first|(go_at_call 52;(with_reducible refine (class_within.calls ((rd_T82 l1_6 x14_1).f2) (wrap64 ((l1_5.length:Int) - 1)) true _ A27.out).mono ?_);rintro e w' ⟨rfl,⟨nd,rfl⟩⟩;have hnb37:=NB142_143.out;have hnc37:=NB143_142.out;have hcz38_0:w11.cell? ⟨gb142,0,none⟩=some (.slice A0_0 l0_0.length c0_0):=(blk_cell BK142.out 0).trans rfl;have hfz38_0:=blk_frozen BK142.out 0)|((with_reducible refine gate_dst (N:=50) rfl ?_);(try (refine gate_guard (by rfl) ?_;dsimp only));refine Kd.R_lit (Kd.int .i64) _ 3 ?hg (N:=50) ?hd (xs:=([(rd_T82 l1_6 x14_1).f3]:List Int)) (inner:=[.int .i64 ((rd_T82 l1_6 x14_1).f3)]) (ok:=fun _ => True) (okp:=fun _ => True) ?hr ?hp (fun _ hk => hk) trivial (Below.refl _ _) (Nat.le_refl _) (by simp) ?_;(case hd => rfl);(case hg => rfl);(case hr => first|(go_simp;done)|(go_simp;rfl));(case hp => exact (Reps.one (show Kd.M (Kd.int .i64) _ _ _ ((rd_T82 l1_6 x14_1).f3) [.int .i64 ((rd_T82 l1_6 x14_1).f3)] from rfl) (Reps.none _ _)));intro v148 w39 ho40 hb hg_ hnew_;clear hg_ hnew_;(first|rw [← Ny147.out] at ho40|(simp only [Int.reduceToNat] at ho40;rw [← Ny147.out] at ho40));have n0_:=Aside0.mk (Kd.R_lower ho40 (below_size (by repeat (first|(with_reducible first|exact HB.out|apply below_alloc|apply pw_below_drewN|apply below_drew1|refine below_set ?_ GE142.out|refine below_set ?_ GE143.out|refine below_set ?_ GE145.out)|exact HB.out))));have n1_:=Aside0.mk (blk_below (g:=gb142) (o:=.cells #[.slice A0_0 l0_0.length c0_0] 71 (0,0)) (by (with_reducible repeat (first|refine blk_drewN ?_ _|refine blk_drew ?_|refine blk_alloc ?_ _));refine blk_far ?_ NB142_145.out _;(with_reducible repeat (first|refine blk_drewN ?_ _|refine blk_drew ?_|refine blk_alloc ?_ _));refine blk_far ?_ NB142_145.out _;(with_reducible repeat (first|refine blk_drewN ?_ _|refine blk_drew ?_|refine blk_alloc ?_ _));refine blk_far ?_ NB142_145.out _;(with_reducible repeat (first|refine blk_drewN ?_ _|refine blk_drew ?_|refine blk_alloc ?_ _));refine blk_far ?_ NB142_145.out _;(with_reducible repeat (first|refine blk_drewN ?_ _|refine blk_drew ?_|refine blk_alloc ?_ _));exact BK142.out) hb);have n2_:=Aside0.mk (blk_below (g:=gb143) (o:=.cells #[.int .i64 a1_0,.int .i64 a1_1,.int .i64 a1_2,.int .i64 a1_3,.int .i64 a1_4,.slice A1_5 l1_5.length c1_5,.slice (some ad144) l1_6.length c1_6,.slice A1_7 l1_7.length c1_7] 56 (0,0)) (by (with_reducible repeat (first|refine blk_drewN ?_ _|refine blk_drew ?_|refine blk_alloc ?_ _));refine blk_far ?_ NB143_145.out _;(with_reducible repeat (first|refine blk_drewN ?_ _|refine blk_drew ?_|refine blk_alloc ?_ _));refine blk_far ?_ NB143_145.out _;(with_reducible repeat (first|refine blk_drewN ?_ _|refine blk_drew ?_|refine blk_alloc ?_ _));refine blk_far ?_ NB143_145.out _;(with_reducible repeat (first|refine blk_drewN ?_ _|refine blk_drew ?_|refine blk_alloc ?_ _));refine blk_far ?_ NB143_145.out _;(with_reducible repeat (first|refine blk_drewN ?_ _|refine blk_drew ?_|refine blk_alloc ?_ _));exact BK143.out) hb);have n3_:=Aside0.mk (blk_below (g:=gb145) (o:=.cells #[.int .i64 ((rd_T82 l1_6 x14_1).f0),.int .i64 ((rd_T82 l1_6 x14_1).f1),.int .i64 ((rd_T82 l1_6 x14_1).f2),.int .i64 ((rd_T82 l1_6 x14_1).f3)] 82 (0,0)) (by (with_reducible repeat (first|refine blk_drewN ?_ _|refine blk_drew ?_|refine blk_alloc ?_ _));refine blk_put (cs:=#[.int .i64 ((rd_T82 l1_6 x14_1).f0),.int .i64 ((rd_T82 l1_6 x14_1).f1),.int .i64 ((rd_T82 l1_6 x14_1).f2),.int .i64 0]) ?_ 3 _ rfl;(with_reducible repeat (first|refine blk_drewN ?_ _|refine blk_drew ?_|refine blk_alloc ?_ _));refine blk_put (cs:=#[.int .i64 ((rd_T82 l1_6 x14_1).f0),.int .i64 ((rd_T82 l1_6 x14_1).f1),.int .i64 0,.int .i64 0]) ?_ 2 _ rfl;(with_reducible repeat (first|refine blk_drewN ?_ _|refine blk_drew ?_|refine blk_alloc ?_ _));refine blk_put (cs:=#[.int .i64 ((rd_T82 l1_6 x14_1).f0),.int .i64 0,.int .i64 0,.int .i64 0]) ?_ 1 _ rfl;(with_reducible repeat (first|refine blk_drewN ?_ _|refine blk_drew ?_|refine blk_alloc ?_ _));refine blk_put (cs:=#[.int .i64 0,.int .i64 0,.int .i64 0,.int .i64 0]) ?_ 0 _ rfl;(with_reducible repeat (first|refine blk_drewN ?_ _|refine blk_drew ?_|refine blk_alloc ?_ _));exact BK145.out) hb);have n4_:=Aside0.mk (below_step (by repeat (first|(with_reducible first|exact HB.out|apply below_alloc|apply pw_below_drewN|apply below_drew1|refine below_set ?_ GE142.out|refine below_set ?_ GE143.out|refine below_set ?_ GE145.out)|exact HB.out)) hb);clear BK142;clear BK143;clear BK145;clear HB;have HO149:=n0_;have BK142:=n1_;have BK143:=n2_;have BK145:=n3_;have HB:=n4_;clear n0_ n1_ n2_ n3_ n4_;clear hb ho40;obtain ⟨Ao41,co41,eo41⟩:=Kd.R_slice HO149.out;subst eo41)|(go_at_call 30;(with_reducible refine (class_rules_class.calls k1 _ _ l0_0 _ _ y147 t150 _ ?side1 ?side2 ?side3 ?side4 A33.out).mono ?_);(case side1 => repeat (first|exact (Kd.C_below HR0_0.out HB.out)|(with_reducible refine Kd.C_alloc ?_ _)|(with_reducible refine Kd.C_drewN ?_ _)|(with_reducible refine Kd.C_drew ?_)));(case side2 => exact HC0_0.out);(case side3 => repeat (first|exact (Kd.R_reads' HO149.out).2.2|(with_reducible refine Kd.C_alloc ?_ _)|(with_reducible refine Kd.C_drewN ?_ _)|(with_reducible refine Kd.C_drew ?_)));(case side4 => exact (Kd.R_reads' HO149.out).2.1);rintro e w42 ⟨rfl,hb⟩;have n0_:=Aside0.mk (Kd.R_below (by (with_reducible repeat (first|apply Kd.R_alloc|apply Kd.R_drewN|apply Kd.R_drew));exact HO149.out) hb);have n1_:=Aside0.mk (blk_below (g:=gb142) (o:=.cells #[.slice A0_0 l0_0.length c0_0] 71 (0,0)) (by (with_reducible repeat (first|refine blk_drewN ?_ _|refine blk_drew ?_|refine blk_alloc ?_ _));exact BK142.out) hb);have n2_:=Aside0.mk (blk_below (g:=gb143) (o:=.cells #[.int .i64 a1_0,.int .i64 a1_1,.int .i64 a1_2,.int .i64 a1_3,.int .i64 a1_4,.slice A1_5 l1_5.length c1_5,.slice (some ad144) l1_6.length c1_6,.slice A1_7 l1_7.length c1_7] 56 (0,0)) (by (with_reducible repeat (first|refine blk_drewN ?_ _|refine blk_drew ?_|refine blk_alloc ?_ _));exact BK143.out) hb);have n3_:=Aside0.mk (blk_below (g:=gb145) (o:=.cells #[.int .i64 ((rd_T82 l1_6 x14_1).f0),.int .i64 ((rd_T82 l1_6 x14_1).f1),.int .i64 ((rd_T82 l1_6 x14_1).f2),.int .i64 ((rd_T82 l1_6 x14_1).f3)] 82 (0,0)) (by (with_reducible repeat (first|refine blk_drewN ?_ _|refine blk_drew ?_|refine blk_alloc ?_ _));exact BK145.out) hb);have n4_:=Aside0.mk (below_step (by repeat (first|(with_reducible first|exact HB.out|apply below_alloc|apply pw_below_drewN|apply below_drew1|refine below_set ?_ GE142.out|refine below_set ?_ GE143.out|refine below_set ?_ GE145.out)|exact HB.out)) hb);clear HO149;clear BK142;clear BK143;clear BK145;clear HB;have HO149:=n0_;have BK142:=n1_;have BK143:=n2_;have BK145:=n3_;have HB:=n4_;clear n0_ n1_ n2_ n3_ n4_;(try clear hb);(try clear hb2);(try clear hk);(try clear hi)))
            go_meet
            case rel => exact ⟨_,(!t150),(by first|rfl|(simp;done)|(simp [*];done)),H',⟨by have:=HK1.out;first|omega|exact Nat.le_refl _⟩,⟨by (with_reducible repeat (first|refine blk_drewN ?_ _|refine blk_drew ?_|refine blk_alloc ?_ _));exact BK142.out⟩,⟨by (with_reducible repeat (first|refine blk_drewN ?_ _|refine blk_drew ?_|refine blk_alloc ?_ _));exact BK143.out⟩,⟨by (with_reducible repeat (first|refine blk_drewN ?_ _|refine blk_drew ?_|refine blk_alloc ?_ _));exact BK145.out⟩,⟨by repeat (first|(with_reducible first|exact HB.out|apply below_alloc|apply pw_below_drewN|apply below_drew1|refine below_set ?_ GE142.out|refine below_set ?_ GE143.out|refine below_set ?_ GE145.out)|exact HB.out)⟩⟩
          ·replace c28:=Bool.eq_false_iff.mpr c28
           subst c28
           have H1:(class_rules_method.j1 k1 (l1_5.length:Int) l1_6 (l1_6.length:Int) x14_1 true l0_0 a1_0 a1_1 a1_2 a1_3 a1_4 l1_5 l1_6 l1_7)=some r:=by rw [if_neg (show ¬ (false=true) by decide)] at H;exact H
           clear H
           have H:=H1
           clear H1
           have H':=Aside0.mk H
           clear H
           have hnb43:=NB145_142.out
           have hnc43:=NB142_145.out
           have hnb44:=NB145_143.out
           have hnc44:=NB143_145.out
           have hcz45_0:w11.cell? ⟨gb145,0,none⟩=some (.int .i64 0):=(blk_cell BK145.out 0).trans rfl
           have hcz45_1:w11.cell? ⟨gb145,1,none⟩=some (.int .i64 0):=(blk_cell BK145.out 1).trans rfl
           have hcz45_2:w11.cell? ⟨gb145,2,none⟩=some (.int .i64 0):=(blk_cell BK145.out 2).trans rfl
           have hcz45_3:w11.cell? ⟨gb145,3,none⟩=some (.int .i64 0):=(blk_cell BK145.out 3).trans rfl
           have hfz45_0:=blk_frozen BK145.out 0
           have hfz45_1:=blk_frozen BK145.out 1
           have hfz45_2:=blk_frozen BK145.out 2
           have hfz45_3:=blk_frozen BK145.out 3
           go_wp2_with (first|(go_at_call 52;(with_reducible refine (class_within.calls ((rd_T82 l1_6 x14_1).f2) (wrap64 ((l1_5.length:Int) - 1)) false _ A27.out).mono ?_);rintro e w' ⟨rfl,⟨nd,rfl⟩⟩))
           go_meet
           case rel => exact ⟨_,(true),(by first|rfl|(simp;done)|(simp [*];done)),H',⟨by have:=HK1.out;first|omega|exact Nat.le_refl _⟩,⟨by (with_reducible repeat (first|refine blk_drewN ?_ _|refine blk_drew ?_|refine blk_alloc ?_ _));refine blk_far ?_ NB142_145.out _;(with_reducible repeat (first|refine blk_drewN ?_ _|refine blk_drew ?_|refine blk_alloc ?_ _));refine blk_far ?_ NB142_145.out _;(with_reducible repeat (first|refine blk_drewN ?_ _|refine blk_drew ?_|refine blk_alloc ?_ _));refine blk_far ?_ NB142_145.out _;(with_reducible repeat (first|refine blk_drewN ?_ _|refine blk_drew ?_|refine blk_alloc ?_ _));refine blk_far ?_ NB142_145.out _;(with_reducible repeat (first|refine blk_drewN ?_ _|refine blk_drew ?_|refine blk_alloc ?_ _));exact BK142.out⟩,⟨by (with_reducible repeat (first|refine blk_drewN ?_ _|refine blk_drew ?_|refine blk_alloc ?_ _));refine blk_far ?_ NB143_145.out _;(with_reducible repeat (first|refine blk_drewN ?_ _|refine blk_drew ?_|refine blk_alloc ?_ _));refine blk_far ?_ NB143_145.out _;(with_reducible repeat (first|refine blk_drewN ?_ _|refine blk_drew ?_|refine blk_alloc ?_ _));refine blk_far ?_ NB143_145.out _;(with_reducible repeat (first|refine blk_drewN ?_ _|refine blk_drew ?_|refine blk_alloc ?_ _));refine blk_far ?_ NB143_145.out _;(with_reducible repeat (first|refine blk_drewN ?_ _|refine blk_drew ?_|refine blk_alloc ?_ _));exact BK143.out⟩,⟨by (with_reducible repeat (first|refine blk_drewN ?_ _|refine blk_drew ?_|refine blk_alloc ?_ _));refine blk_put (cs:=#[.int .i64 ((rd_T82 l1_6 x14_1).f0),.int .i64 ((rd_T82 l1_6 x14_1).f1),.int .i64 ((rd_T82 l1_6 x14_1).f2),.int .i64 0]) ?_ 3 _ rfl;(with_reducible repeat (first|refine blk_drewN ?_ _|refine blk_drew ?_|refine blk_alloc ?_ _));refine blk_put (cs:=#[.int .i64 ((rd_T82 l1_6 x14_1).f0),.int .i64 ((rd_T82 l1_6 x14_1).f1),.int .i64 0,.int .i64 0]) ?_ 2 _ rfl;(with_reducible repeat (first|refine blk_drewN ?_ _|refine blk_drew ?_|refine blk_alloc ?_ _));refine blk_put (cs:=#[.int .i64 ((rd_T82 l1_6 x14_1).f0),.int .i64 0,.int .i64 0,.int .i64 0]) ?_ 1 _ rfl;(with_reducible repeat (first|refine blk_drewN ?_ _|refine blk_drew ?_|refine blk_alloc ?_ _));refine blk_put (cs:=#[.int .i64 0,.int .i64 0,.int .i64 0,.int .i64 0]) ?_ 0 _ rfl;(with_reducible repeat (first|refine blk_drewN ?_ _|refine blk_drew ?_|refine blk_alloc ?_ _));exact BK145.out⟩,⟨by repeat (first|(with_reducible first|exact HB.out|apply below_alloc|apply pw_below_drewN|apply below_drew1|refine below_set ?_ GE142.out|refine below_set ?_ GE143.out|refine below_set ?_ GE145.out)|exact HB.out)⟩⟩
      case rest =>
       clear HC10
       try clear c1;try clear p1;try clear q1;try clear hx1;try clear c2;try clear p2;try clear c3;try clear c4;try clear c5;try clear p6;try clear c7;try clear c7b0;try clear c8;try clear c8b0;try clear c9;try clear c9b0;try clear c12;try clear c13;try clear p14;try clear q14;try clear hx14;try clear c15;try clear c15b0;try clear c16;try clear c17;try clear c19;try clear c19b0;try clear c20;try clear c21;try clear c23;try clear c23b0;try clear c24;try clear c25;try clear c28;try clear c29;try clear c29b0;try clear c29b1;try clear c30;try clear c31;try clear c33;try clear c34;try clear c35;try clear c37;try clear c43;try clear c44;try clear hcz14_0;try clear hcz14_1;try clear hcz14_2;try clear hcz14_3;try clear hcz18_0;try clear hcz18_1;try clear hcz18_2;try clear hcz18_3;try clear hcz22_0;try clear hcz22_1;try clear hcz22_2;try clear hcz22_3;try clear hcz26_0;try clear hcz26_1;try clear hcz26_2;try clear hcz26_3;try clear hcz32_0;try clear hcz32_1;try clear hcz32_2;try clear hcz32_3;try clear hcz36_0;try clear hcz36_1;try clear hcz36_2;try clear hcz36_3;try clear hcz38_0;try clear hcz45_0;try clear hcz45_1;try clear hcz45_2;try clear hcz45_3;try clear hcz6_0;try clear hcz6_1;try clear hcz6_2;try clear hcz6_3;try clear hcz6_4;try clear hcz6_5;try clear hcz6_6;try clear hcz6_7;try clear hfz14_0;try clear hfz14_1;try clear hfz14_2;try clear hfz14_3;try clear hfz18_0;try clear hfz18_1;try clear hfz18_2;try clear hfz18_3;try clear hfz22_0;try clear hfz22_1;try clear hfz22_2;try clear hfz22_3;try clear hfz26_0;try clear hfz26_1;try clear hfz26_2;try clear hfz26_3;try clear hfz32_0;try clear hfz32_1;try clear hfz32_2;try clear hfz32_3;try clear hfz36_0;try clear hfz36_1;try clear hfz36_2;try clear hfz36_3;try clear hfz38_0;try clear hfz45_0;try clear hfz45_1;try clear hfz45_2;try clear hfz45_3;try clear hfz6_0;try clear hfz6_1;try clear hfz6_2;try clear hfz6_3;try clear hfz6_4;try clear hfz6_5;try clear hfz6_6;try clear hfz6_7;try clear hx144_0;try clear hx144_1;try clear hx144_2;try clear hx144_3;try clear p144;try clear p2;try clear q144
       obtain ⟨kq,x54_9,rfl,HA,HJ9,BK142,BK143,BK145,HB⟩:=hcut
       cases kq with
       | zero => exact absurd HA.out (by simp [class_rules_method.j1])
       | succ kj9 =>
        have H:=HA.out
        clear HA
        simp only [class_rules_method.j1] at H
        by_cases c46:x54_9=true
        ·subst c46
         have H1:(some false)=some r:=by rw [if_pos rfl] at H;exact H
         clear H
         have H:=H1
         clear H1
         obtain rfl:=Option.some.inj H
         go_wp2
         go_ret
         exact ⟨by first|rfl|(simp [errW_none,errW_some] <;> rfl)|(simp [*,errW_none,errW_some] <;> rfl),by repeat (first|(with_reducible first|exact HB.out|apply below_alloc|apply pw_below_drewN|apply below_drew1|refine below_set ?_ GE142.out|refine below_set ?_ GE143.out|refine below_set ?_ GE145.out)|exact HB.out)⟩
        ·replace c46:=Bool.eq_false_iff.mpr c46
         subst c46
         have H1:(class_rules_method.l0 kj9 (l1_5.length:Int) l1_6 (l1_6.length:Int) (wrap64 (x14_1 + 1)) l0_0 a1_0 a1_1 a1_2 a1_3 a1_4 l1_5 l1_6 l1_7)=some r:=by rw [if_neg (show ¬ (false=true) by decide)] at H;exact H
         clear H
         have H:=H1
         clear H1
         have H':=Aside0.mk H
         clear H
         go_wp2
         go_roundg kj9
         case measure => have:=HK1.out;have:=HJ9.out;omega
         case rel => exact ⟨(wrap64 (x14_1 + 1)),(by first|rfl|(simp;done)|(simp [*];done)),H',⟨by have:=HK1.out;have:=HJ9.out;omega⟩,⟨by (with_reducible repeat (first|refine blk_drewN ?_ _|refine blk_drew ?_|refine blk_alloc ?_ _));exact BK142.out⟩,⟨by (with_reducible repeat (first|refine blk_drewN ?_ _|refine blk_drew ?_|refine blk_alloc ?_ _));exact BK143.out⟩,⟨by repeat (first|(with_reducible first|exact HB.out|apply below_alloc|apply pw_below_drewN|apply below_drew1|refine below_set ?_ GE142.out|refine below_set ?_ GE143.out|refine below_set ?_ GE145.out)|exact HB.out)⟩⟩
     ·rw [if_neg c9] at H
      exact absurd H (by simp)
    ·rw [if_neg c8] at H
     exact absurd H (by simp)
   ·rw [if_neg c7] at H
    have c7b0:decide (x14_1 < (l1_6.length:Int))=false:=decide_eq_false c7
    clear c7
    replace H:=Option.bind_eq_some_iff.mp H
    obtain ⟨t151,A470,H⟩:=H
    replace H:(if t151=true then ((class_rules_text.f k1 l0_0 (([a1_1,a1_2]:List Int))).bind fun t155 => (if t155=true then ((class_within.f a1_3 64).bind fun t156 => (if t156=true then ((class_within.f a1_4 64).bind fun t157 => (if t157=true then ((class_within.f (wrap64 ((l1_5.length:Int) - 1)) 4095).bind fun t158 => (if t158=true then (if (l1_7.length:Int)≤4096 then ((class_place.f k1 l0_0 (⟨#[67,111,100,101]⟩:ByteArray)).bind fun t159 => (if t159 > 0 then (if (l1_7.length:Int)=0 then (some true) else ((class_place.f k1 l0_0 (⟨#[83,116,97,99,107,77,97,112,84,97,98,108,101]⟩:ByteArray)).bind fun t160 => (some (decide (t160 > 0))))) else (some false))) else (some false)) else (some false))) else (some false))) else (some false))) else (some false))) else (some false))=some r:=H
    have A47:=Aside0.mk A470
    clear A470
    by_cases c48:t151=true
    ·subst c48
     have H1:((class_rules_text.f k1 l0_0 (([a1_1,a1_2]:List Int))).bind fun t155 => (if t155=true then ((class_within.f a1_3 64).bind fun t156 => (if t156=true then ((class_within.f a1_4 64).bind fun t157 => (if t157=true then ((class_within.f (wrap64 ((l1_5.length:Int) - 1)) 4095).bind fun t158 => (if t158=true then (if (l1_7.length:Int)≤4096 then ((class_place.f k1 l0_0 (⟨#[67,111,100,101]⟩:ByteArray)).bind fun t159 => (if t159 > 0 then (if (l1_7.length:Int)=0 then (some true) else ((class_place.f k1 l0_0 (⟨#[83,116,97,99,107,77,97,112,84,97,98,108,101]⟩:ByteArray)).bind fun t160 => (some (decide (t160 > 0))))) else (some false))) else (some false)) else (some false))) else (some false))) else (some false))) else (some false)))=some r:=by rw [if_pos rfl] at H;exact H
     clear H
     have H:=H1
     clear H1
     obtain ⟨y152,hy152⟩:∃ y_:List Int,y_=(([a1_1,a1_2]:List Int)):=⟨_,rfl⟩
     replace H:((class_rules_text.f k1 l0_0 y152).bind fun t155 => (if t155=true then ((class_within.f a1_3 64).bind fun t156 => (if t156=true then ((class_within.f a1_4 64).bind fun t157 => (if t157=true then ((class_within.f (wrap64 ((l1_5.length:Int) - 1)) 4095).bind fun t158 => (if t158=true then (if (l1_7.length:Int)≤4096 then ((class_place.f k1 l0_0 (⟨#[67,111,100,101]⟩:ByteArray)).bind fun t159 => (if t159 > 0 then (if (l1_7.length:Int)=0 then (some true) else ((class_place.f k1 l0_0 (⟨#[83,116,97,99,107,77,97,112,84,97,98,108,101]⟩:ByteArray)).bind fun t160 => (some (decide (t160 > 0))))) else (some false))) else (some false)) else (some false))) else (some false))) else (some false))) else (some false)))=some r:=by first|(rw [hy152];with_reducible exact H)|(have H2_:=(Option.bind_some _ _).symm.trans H;rw [hy152];with_reducible exact H2_)|(have H2_:=(Option.bind_some _ _).symm.trans H;with_reducible exact H2_)|with_reducible exact H|(rw [hy152];exact H)|exact H
     have Ny152:=Aside0.mk hy152
     clear hy152
     replace H:=Option.bind_eq_some_iff.mp H
     obtain ⟨t155,A490,H⟩:=H
     replace H:(if t155=true then ((class_within.f a1_3 64).bind fun t156 => (if t156=true then ((class_within.f a1_4 64).bind fun t157 => (if t157=true then ((class_within.f (wrap64 ((l1_5.length:Int) - 1)) 4095).bind fun t158 => (if t158=true then (if (l1_7.length:Int)≤4096 then ((class_place.f k1 l0_0 (⟨#[67,111,100,101]⟩:ByteArray)).bind fun t159 => (if t159 > 0 then (if (l1_7.length:Int)=0 then (some true) else ((class_place.f k1 l0_0 (⟨#[83,116,97,99,107,77,97,112,84,97,98,108,101]⟩:ByteArray)).bind fun t160 => (some (decide (t160 > 0))))) else (some false))) else (some false)) else (some false))) else (some false))) else (some false))) else (some false))=some r:=H
     have A49:=Aside0.mk A490
     clear A490
     by_cases c50:t155=true
     ·subst c50
      have H1:((class_within.f a1_3 64).bind fun t156 => (if t156=true then ((class_within.f a1_4 64).bind fun t157 => (if t157=true then ((class_within.f (wrap64 ((l1_5.length:Int) - 1)) 4095).bind fun t158 => (if t158=true then (if (l1_7.length:Int)≤4096 then ((class_place.f k1 l0_0 (⟨#[67,111,100,101]⟩:ByteArray)).bind fun t159 => (if t159 > 0 then (if (l1_7.length:Int)=0 then (some true) else ((class_place.f k1 l0_0 (⟨#[83,116,97,99,107,77,97,112,84,97,98,108,101]⟩:ByteArray)).bind fun t160 => (some (decide (t160 > 0))))) else (some false))) else (some false)) else (some false))) else (some false))) else (some false)))=some r:=by rw [if_pos rfl] at H;exact H
      clear H
      have H:=H1
      clear H1
      replace H:=Option.bind_eq_some_iff.mp H
      obtain ⟨t156,A510,H⟩:=H
      replace H:(if t156=true then ((class_within.f a1_4 64).bind fun t157 => (if t157=true then ((class_within.f (wrap64 ((l1_5.length:Int) - 1)) 4095).bind fun t158 => (if t158=true then (if (l1_7.length:Int)≤4096 then ((class_place.f k1 l0_0 (⟨#[67,111,100,101]⟩:ByteArray)).bind fun t159 => (if t159 > 0 then (if (l1_7.length:Int)=0 then (some true) else ((class_place.f k1 l0_0 (⟨#[83,116,97,99,107,77,97,112,84,97,98,108,101]⟩:ByteArray)).bind fun t160 => (some (decide (t160 > 0))))) else (some false))) else (some false)) else (some false))) else (some false))) else (some false))=some r:=H
      have A51:=Aside0.mk A510
      clear A510
      by_cases c52:t156=true
      ·subst c52
       have H1:((class_within.f a1_4 64).bind fun t157 => (if t157=true then ((class_within.f (wrap64 ((l1_5.length:Int) - 1)) 4095).bind fun t158 => (if t158=true then (if (l1_7.length:Int)≤4096 then ((class_place.f k1 l0_0 (⟨#[67,111,100,101]⟩:ByteArray)).bind fun t159 => (if t159 > 0 then (if (l1_7.length:Int)=0 then (some true) else ((class_place.f k1 l0_0 (⟨#[83,116,97,99,107,77,97,112,84,97,98,108,101]⟩:ByteArray)).bind fun t160 => (some (decide (t160 > 0))))) else (some false))) else (some false)) else (some false))) else (some false)))=some r:=by rw [if_pos rfl] at H;exact H
       clear H
       have H:=H1
       clear H1
       replace H:=Option.bind_eq_some_iff.mp H
       obtain ⟨t157,A530,H⟩:=H
       replace H:(if t157=true then ((class_within.f (wrap64 ((l1_5.length:Int) - 1)) 4095).bind fun t158 => (if t158=true then (if (l1_7.length:Int)≤4096 then ((class_place.f k1 l0_0 (⟨#[67,111,100,101]⟩:ByteArray)).bind fun t159 => (if t159 > 0 then (if (l1_7.length:Int)=0 then (some true) else ((class_place.f k1 l0_0 (⟨#[83,116,97,99,107,77,97,112,84,97,98,108,101]⟩:ByteArray)).bind fun t160 => (some (decide (t160 > 0))))) else (some false))) else (some false)) else (some false))) else (some false))=some r:=H
       have A53:=Aside0.mk A530
       clear A530
       by_cases c54:t157=true
       ·subst c54
        have H1:((class_within.f (wrap64 ((l1_5.length:Int) - 1)) 4095).bind fun t158 => (if t158=true then (if (l1_7.length:Int)≤4096 then ((class_place.f k1 l0_0 (⟨#[67,111,100,101]⟩:ByteArray)).bind fun t159 => (if t159 > 0 then (if (l1_7.length:Int)=0 then (some true) else ((class_place.f k1 l0_0 (⟨#[83,116,97,99,107,77,97,112,84,97,98,108,101]⟩:ByteArray)).bind fun t160 => (some (decide (t160 > 0))))) else (some false))) else (some false)) else (some false)))=some r:=by rw [if_pos rfl] at H;exact H
        clear H
        have H:=H1
        clear H1
        replace H:=Option.bind_eq_some_iff.mp H
        obtain ⟨t158,A550,H⟩:=H
        replace H:(if t158=true then (if (l1_7.length:Int)≤4096 then ((class_place.f k1 l0_0 (⟨#[67,111,100,101]⟩:ByteArray)).bind fun t159 => (if t159 > 0 then (if (l1_7.length:Int)=0 then (some true) else ((class_place.f k1 l0_0 (⟨#[83,116,97,99,107,77,97,112,84,97,98,108,101]⟩:ByteArray)).bind fun t160 => (some (decide (t160 > 0))))) else (some false))) else (some false)) else (some false))=some r:=H
        have A55:=Aside0.mk A550
        clear A550
        by_cases c56:t158=true
        ·subst c56
         have H1:(if (l1_7.length:Int)≤4096 then ((class_place.f k1 l0_0 (⟨#[67,111,100,101]⟩:ByteArray)).bind fun t159 => (if t159 > 0 then (if (l1_7.length:Int)=0 then (some true) else ((class_place.f k1 l0_0 (⟨#[83,116,97,99,107,77,97,112,84,97,98,108,101]⟩:ByteArray)).bind fun t160 => (some (decide (t160 > 0))))) else (some false))) else (some false))=some r:=by rw [if_pos rfl] at H;exact H
         clear H
         have H:=H1
         clear H1
         by_cases c57:(l1_7.length:Int)≤4096
         ·rw [if_pos c57] at H
          have c57b0:decide ((l1_7.length:Int)≤4096)=true:=decide_eq_true c57
          have c57b1:decide (l1_7.length≤4096)=true:=decide_eq_true (by omega)
          clear c57
          replace H:=Option.bind_eq_some_iff.mp H
          obtain ⟨t159,A580,H⟩:=H
          replace H:(if t159 > 0 then (if (l1_7.length:Int)=0 then (some true) else ((class_place.f k1 l0_0 (⟨#[83,116,97,99,107,77,97,112,84,97,98,108,101]⟩:ByteArray)).bind fun t160 => (some (decide (t160 > 0))))) else (some false))=some r:=H
          have A58:=Aside0.mk A580
          clear A580
          by_cases c59:t159 > 0
          ·rw [if_pos c59] at H
           have c59b0:decide (0 < t159)=true:=decide_eq_true c59
           clear c59
           by_cases c60:(l1_7.length:Int)=0
           ·rw [if_pos c60] at H
            have c60b0:((l1_7.length:Int)==0)=true:=beq_iff_eq.mpr c60
            have c60b1:((l1_7.length:Int) != 0)=false:=bne_eq_false_iff_eq.mpr c60
            clear c60
            obtain rfl:=Option.some.inj H
            have hnb61:=NB143_142.out
            have hnc61:=NB142_143.out
            have hcz62_0:wr.cell? ⟨gb143,0,none⟩=some (.int .i64 a1_0):=(blk_cell BK143.out 0).trans rfl
            have hcz62_1:wr.cell? ⟨gb143,1,none⟩=some (.int .i64 a1_1):=(blk_cell BK143.out 1).trans rfl
            have hcz62_2:wr.cell? ⟨gb143,2,none⟩=some (.int .i64 a1_2):=(blk_cell BK143.out 2).trans rfl
            have hcz62_3:wr.cell? ⟨gb143,3,none⟩=some (.int .i64 a1_3):=(blk_cell BK143.out 3).trans rfl
            have hcz62_4:wr.cell? ⟨gb143,4,none⟩=some (.int .i64 a1_4):=(blk_cell BK143.out 4).trans rfl
            have hcz62_5:wr.cell? ⟨gb143,5,none⟩=some (.slice A1_5 l1_5.length c1_5):=(blk_cell BK143.out 5).trans rfl
            have hcz62_6:wr.cell? ⟨gb143,6,none⟩=some (.slice A1_6 l1_6.length c1_6):=(blk_cell BK143.out 6).trans rfl
            have hcz62_7:wr.cell? ⟨gb143,7,none⟩=some (.slice A1_7 l1_7.length c1_7):=(blk_cell BK143.out 7).trans rfl
            have hfz62_0:=blk_frozen BK143.out 0
            have hfz62_1:=blk_frozen BK143.out 1
            have hfz62_2:=blk_frozen BK143.out 2
            have hfz62_3:=blk_frozen BK143.out 3
            have hfz62_4:=blk_frozen BK143.out 4
            have hfz62_5:=blk_frozen BK143.out 5
            have hfz62_6:=blk_frozen BK143.out 6
            have hfz62_7:=blk_frozen BK143.out 7
            go_wp2_with (first|((with_reducible refine gate_callee (f:=31) rfl ?_);refine goesL_ (some 58) rfl rfl Tryd.func31 (by kernel_rfl) rfl #[.int .i64 a1_0] rfl (by (try simp only [List.map_toArray,List.map_cons,List.map_nil]);first|done|rfl|(simp only [List.length_drop,List.length_take];rfl)) ?_;(with_reducible refine (class_flags.calls a1_0 true _ A47.out).mono ?_);rintro e w' ⟨rfl,⟨nd,rfl⟩⟩;refine ⟨_,rfl,?_⟩;have hcz63_0:wr.cell? ⟨gb142,0,none⟩=some (.slice A0_0 l0_0.length c0_0):=(blk_cell BK142.out 0).trans rfl;have hfz63_0:=blk_frozen BK142.out 0)|((with_reducible refine gate_dst (N:=65) rfl ?_);(try (refine gate_guard (by rfl) ?_;dsimp only));refine Kd.R_lit (Kd.int .i64) _ 3 ?hg (N:=65) ?hd (xs:=([a1_1,a1_2]:List Int)) (inner:=[.int .i64 a1_1,.int .i64 a1_2]) (ok:=fun _ => True) (okp:=fun _ => True) ?hr ?hp (fun _ hk => hk) trivial (Below.refl _ _) (Nat.le_refl _) (by simp) ?_;(case hd => rfl);(case hg => rfl);(case hr => first|(go_simp;done)|(go_simp;rfl));(case hp => exact (Reps.one (show Kd.M (Kd.int .i64) _ _ _ a1_1 [.int .i64 a1_1] from rfl) (Reps.one (show Kd.M (Kd.int .i64) _ _ _ a1_2 [.int .i64 a1_2] from rfl) (Reps.none _ _))));intro v153 w64 ho65 hb hg_ hnew_;clear hg_ hnew_;(first|rw [← Ny152.out] at ho65|(simp only [Int.reduceToNat] at ho65;rw [← Ny152.out] at ho65));have n0_:=Aside0.mk (Kd.R_lower ho65 (below_size (by repeat (first|(with_reducible first|exact HB.out|apply below_alloc|apply pw_below_drewN|apply below_drew1|refine below_set ?_ GE142.out|refine below_set ?_ GE143.out)|exact HB.out))));have n1_:=Aside0.mk (blk_below (g:=gb142) (o:=.cells #[.slice A0_0 l0_0.length c0_0] 71 (0,0)) (by (with_reducible repeat (first|refine blk_drewN ?_ _|refine blk_drew ?_|refine blk_alloc ?_ _));exact BK142.out) hb);have n2_:=Aside0.mk (blk_below (g:=gb143) (o:=.cells #[.int .i64 a1_0,.int .i64 a1_1,.int .i64 a1_2,.int .i64 a1_3,.int .i64 a1_4,.slice A1_5 l1_5.length c1_5,.slice A1_6 l1_6.length c1_6,.slice A1_7 l1_7.length c1_7] 56 (0,0)) (by (with_reducible repeat (first|refine blk_drewN ?_ _|refine blk_drew ?_|refine blk_alloc ?_ _));exact BK143.out) hb);have n3_:=Aside0.mk (below_step (by repeat (first|(with_reducible first|exact HB.out|apply below_alloc|apply pw_below_drewN|apply below_drew1|refine below_set ?_ GE142.out|refine below_set ?_ GE143.out)|exact HB.out)) hb);clear BK142;clear BK143;clear HB;have HO154:=n0_;have BK142:=n1_;have BK143:=n2_;have HB:=n3_;clear n0_ n1_ n2_ n3_;clear hb ho65;obtain ⟨Ao66,co66,eo66⟩:=Kd.R_slice HO154.out;subst eo66)|(go_at_call 32;(with_reducible refine (class_rules_text.calls k1 _ _ l0_0 _ _ y152 true _ ?side1 ?side2 ?side3 ?side4 A49.out).mono ?_);(case side1 => repeat (first|exact (Kd.C_below HR0_0.out HB.out)|(with_reducible refine Kd.C_alloc ?_ _)|(with_reducible refine Kd.C_drewN ?_ _)|(with_reducible refine Kd.C_drew ?_)));(case side2 => exact HC0_0.out);(case side3 => repeat (first|exact (Kd.R_reads' HO154.out).2.2|(with_reducible refine Kd.C_alloc ?_ _)|(with_reducible refine Kd.C_drewN ?_ _)|(with_reducible refine Kd.C_drew ?_)));(case side4 => exact (Kd.R_reads' HO154.out).2.1);rintro e w67 ⟨rfl,hb⟩;have n0_:=Aside0.mk (Kd.R_below (by (with_reducible repeat (first|apply Kd.R_alloc|apply Kd.R_drewN|apply Kd.R_drew));exact HO154.out) hb);have n1_:=Aside0.mk (blk_below (g:=gb142) (o:=.cells #[.slice A0_0 l0_0.length c0_0] 71 (0,0)) (by (with_reducible repeat (first|refine blk_drewN ?_ _|refine blk_drew ?_|refine blk_alloc ?_ _));exact BK142.out) hb);have n2_:=Aside0.mk (blk_below (g:=gb143) (o:=.cells #[.int .i64 a1_0,.int .i64 a1_1,.int .i64 a1_2,.int .i64 a1_3,.int .i64 a1_4,.slice A1_5 l1_5.length c1_5,.slice A1_6 l1_6.length c1_6,.slice A1_7 l1_7.length c1_7] 56 (0,0)) (by (with_reducible repeat (first|refine blk_drewN ?_ _|refine blk_drew ?_|refine blk_alloc ?_ _));exact BK143.out) hb);have n3_:=Aside0.mk (below_step (by repeat (first|(with_reducible first|exact HB.out|apply below_alloc|apply pw_below_drewN|apply below_drew1|refine below_set ?_ GE142.out|refine below_set ?_ GE143.out)|exact HB.out)) hb);clear HO154;clear BK142;clear BK143;clear HB;have HO154:=n0_;have BK142:=n1_;have BK143:=n2_;have HB:=n3_;clear n0_ n1_ n2_ n3_;(try clear hb);(try clear hb2);(try clear hk);(try clear hi);have hcz68_0:w67.cell? ⟨gb143,0,none⟩=some (.int .i64 a1_0):=(blk_cell BK143.out 0).trans rfl;have hcz68_1:w67.cell? ⟨gb143,1,none⟩=some (.int .i64 a1_1):=(blk_cell BK143.out 1).trans rfl;have hcz68_2:w67.cell? ⟨gb143,2,none⟩=some (.int .i64 a1_2):=(blk_cell BK143.out 2).trans rfl;have hcz68_3:w67.cell? ⟨gb143,3,none⟩=some (.int .i64 a1_3):=(blk_cell BK143.out 3).trans rfl;have hcz68_4:w67.cell? ⟨gb143,4,none⟩=some (.int .i64 a1_4):=(blk_cell BK143.out 4).trans rfl;have hcz68_5:w67.cell? ⟨gb143,5,none⟩=some (.slice A1_5 l1_5.length c1_5):=(blk_cell BK143.out 5).trans rfl;have hcz68_6:w67.cell? ⟨gb143,6,none⟩=some (.slice A1_6 l1_6.length c1_6):=(blk_cell BK143.out 6).trans rfl;have hcz68_7:w67.cell? ⟨gb143,7,none⟩=some (.slice A1_7 l1_7.length c1_7):=(blk_cell BK143.out 7).trans rfl;have hfz68_0:=blk_frozen BK143.out 0;have hfz68_1:=blk_frozen BK143.out 1;have hfz68_2:=blk_frozen BK143.out 2;have hfz68_3:=blk_frozen BK143.out 3;have hfz68_4:=blk_frozen BK143.out 4;have hfz68_5:=blk_frozen BK143.out 5;have hfz68_6:=blk_frozen BK143.out 6;have hfz68_7:=blk_frozen BK143.out 7)|(go_at_call 52;(with_reducible refine (class_within.calls a1_3 64 true _ A51.out).mono ?_);rintro e w' ⟨rfl,⟨nd,rfl⟩⟩)|(go_at_call 52;(with_reducible refine (class_within.calls a1_4 64 true _ A53.out).mono ?_);rintro e w' ⟨rfl,⟨nd,rfl⟩⟩)|(go_at_call 52;(with_reducible refine (class_within.calls (wrap64 ((l1_5.length:Int) - 1)) 4095 true _ A55.out).mono ?_);rintro e w' ⟨rfl,⟨nd,rfl⟩⟩;have hcz69_0:w67.cell? ⟨gb142,0,none⟩=some (.slice A0_0 l0_0.length c0_0):=(blk_cell BK142.out 0).trans rfl;have hfz69_0:=blk_frozen BK142.out 0)|(go_at_call 18;(with_reducible refine (class_place.calls k1 _ _ l0_0 (⟨#[67,111,100,101]⟩:ByteArray) t159 _ ?side1 ?side2 A58.out).mono ?_);(case side1 => repeat (first|exact (Kd.C_below HR0_0.out (by repeat (first|(with_reducible first|exact HB.out|apply below_alloc|apply pw_below_drewN|apply below_drew1|refine below_set ?_ GE142.out|refine below_set ?_ GE143.out)|exact HB.out)))|(with_reducible refine Kd.C_alloc ?_ _)|(with_reducible refine Kd.C_drewN ?_ _)|(with_reducible refine Kd.C_drew ?_)));(case side2 => exact HC0_0.out);rintro e w' ⟨rfl,⟨nd,rfl⟩⟩))
            go_ret
            exact ⟨by first|rfl|(simp [errW_none,errW_some] <;> rfl)|(simp [*,errW_none,errW_some] <;> rfl),by repeat (first|(with_reducible first|exact HB.out|apply below_alloc|apply pw_below_drewN|apply below_drew1|refine below_set ?_ GE142.out|refine below_set ?_ GE143.out)|exact HB.out)⟩
           ·rw [if_neg c60] at H
            have c60b0:((l1_7.length:Int)==0)=false:=beq_eq_false_iff_ne.mpr c60
            have c60b1:((l1_7.length:Int) != 0)=true:=bne_iff_ne.mpr c60
            have c60b2:¬ (l1_7=[]):=fun h_ => c60 (by rw [h_];rfl)
            replace H:=Option.bind_eq_some_iff.mp H
            obtain ⟨t160,A700,H⟩:=H
            replace H:(some (decide (t160 > 0)))=some r:=H
            have A70:=Aside0.mk A700
            clear A700
            obtain rfl:=Option.some.inj H
            have hnb71:=NB143_142.out
            have hnc71:=NB142_143.out
            have hcz72_0:wr.cell? ⟨gb143,0,none⟩=some (.int .i64 a1_0):=(blk_cell BK143.out 0).trans rfl
            have hcz72_1:wr.cell? ⟨gb143,1,none⟩=some (.int .i64 a1_1):=(blk_cell BK143.out 1).trans rfl
            have hcz72_2:wr.cell? ⟨gb143,2,none⟩=some (.int .i64 a1_2):=(blk_cell BK143.out 2).trans rfl
            have hcz72_3:wr.cell? ⟨gb143,3,none⟩=some (.int .i64 a1_3):=(blk_cell BK143.out 3).trans rfl
            have hcz72_4:wr.cell? ⟨gb143,4,none⟩=some (.int .i64 a1_4):=(blk_cell BK143.out 4).trans rfl
            have hcz72_5:wr.cell? ⟨gb143,5,none⟩=some (.slice A1_5 l1_5.length c1_5):=(blk_cell BK143.out 5).trans rfl
            have hcz72_6:wr.cell? ⟨gb143,6,none⟩=some (.slice A1_6 l1_6.length c1_6):=(blk_cell BK143.out 6).trans rfl
            have hcz72_7:wr.cell? ⟨gb143,7,none⟩=some (.slice A1_7 l1_7.length c1_7):=(blk_cell BK143.out 7).trans rfl
            have hfz72_0:=blk_frozen BK143.out 0
            have hfz72_1:=blk_frozen BK143.out 1
            have hfz72_2:=blk_frozen BK143.out 2
            have hfz72_3:=blk_frozen BK143.out 3
            have hfz72_4:=blk_frozen BK143.out 4
            have hfz72_5:=blk_frozen BK143.out 5
            have hfz72_6:=blk_frozen BK143.out 6
            have hfz72_7:=blk_frozen BK143.out 7
            go_wp2_with (first|((with_reducible refine gate_callee (f:=31) rfl ?_);refine goesL_ (some 58) rfl rfl Tryd.func31 (by kernel_rfl) rfl #[.int .i64 a1_0] rfl (by (try simp only [List.map_toArray,List.map_cons,List.map_nil]);first|done|rfl|(simp only [List.length_drop,List.length_take];rfl)) ?_;(with_reducible refine (class_flags.calls a1_0 true _ A47.out).mono ?_);rintro e w' ⟨rfl,⟨nd,rfl⟩⟩;refine ⟨_,rfl,?_⟩;have hcz73_0:wr.cell? ⟨gb142,0,none⟩=some (.slice A0_0 l0_0.length c0_0):=(blk_cell BK142.out 0).trans rfl;have hfz73_0:=blk_frozen BK142.out 0)|((with_reducible refine gate_dst (N:=65) rfl ?_);(try (refine gate_guard (by rfl) ?_;dsimp only));refine Kd.R_lit (Kd.int .i64) _ 3 ?hg (N:=65) ?hd (xs:=([a1_1,a1_2]:List Int)) (inner:=[.int .i64 a1_1,.int .i64 a1_2]) (ok:=fun _ => True) (okp:=fun _ => True) ?hr ?hp (fun _ hk => hk) trivial (Below.refl _ _) (Nat.le_refl _) (by simp) ?_;(case hd => rfl);(case hg => rfl);(case hr => first|(go_simp;done)|(go_simp;rfl));(case hp => exact (Reps.one (show Kd.M (Kd.int .i64) _ _ _ a1_1 [.int .i64 a1_1] from rfl) (Reps.one (show Kd.M (Kd.int .i64) _ _ _ a1_2 [.int .i64 a1_2] from rfl) (Reps.none _ _))));intro v153 w74 ho75 hb hg_ hnew_;clear hg_ hnew_;(first|rw [← Ny152.out] at ho75|(simp only [Int.reduceToNat] at ho75;rw [← Ny152.out] at ho75));have n0_:=Aside0.mk (Kd.R_lower ho75 (below_size (by repeat (first|(with_reducible first|exact HB.out|apply below_alloc|apply pw_below_drewN|apply below_drew1|refine below_set ?_ GE142.out|refine below_set ?_ GE143.out)|exact HB.out))));have n1_:=Aside0.mk (blk_below (g:=gb142) (o:=.cells #[.slice A0_0 l0_0.length c0_0] 71 (0,0)) (by (with_reducible repeat (first|refine blk_drewN ?_ _|refine blk_drew ?_|refine blk_alloc ?_ _));exact BK142.out) hb);have n2_:=Aside0.mk (blk_below (g:=gb143) (o:=.cells #[.int .i64 a1_0,.int .i64 a1_1,.int .i64 a1_2,.int .i64 a1_3,.int .i64 a1_4,.slice A1_5 l1_5.length c1_5,.slice A1_6 l1_6.length c1_6,.slice A1_7 l1_7.length c1_7] 56 (0,0)) (by (with_reducible repeat (first|refine blk_drewN ?_ _|refine blk_drew ?_|refine blk_alloc ?_ _));exact BK143.out) hb);have n3_:=Aside0.mk (below_step (by repeat (first|(with_reducible first|exact HB.out|apply below_alloc|apply pw_below_drewN|apply below_drew1|refine below_set ?_ GE142.out|refine below_set ?_ GE143.out)|exact HB.out)) hb);clear BK142;clear BK143;clear HB;have HO154:=n0_;have BK142:=n1_;have BK143:=n2_;have HB:=n3_;clear n0_ n1_ n2_ n3_;clear hb ho75;obtain ⟨Ao76,co76,eo76⟩:=Kd.R_slice HO154.out;subst eo76)|(go_at_call 32;(with_reducible refine (class_rules_text.calls k1 _ _ l0_0 _ _ y152 true _ ?side1 ?side2 ?side3 ?side4 A49.out).mono ?_);(case side1 => repeat (first|exact (Kd.C_below HR0_0.out HB.out)|(with_reducible refine Kd.C_alloc ?_ _)|(with_reducible refine Kd.C_drewN ?_ _)|(with_reducible refine Kd.C_drew ?_)));(case side2 => exact HC0_0.out);(case side3 => repeat (first|exact (Kd.R_reads' HO154.out).2.2|(with_reducible refine Kd.C_alloc ?_ _)|(with_reducible refine Kd.C_drewN ?_ _)|(with_reducible refine Kd.C_drew ?_)));(case side4 => exact (Kd.R_reads' HO154.out).2.1);rintro e w77 ⟨rfl,hb⟩;have n0_:=Aside0.mk (Kd.R_below (by (with_reducible repeat (first|apply Kd.R_alloc|apply Kd.R_drewN|apply Kd.R_drew));exact HO154.out) hb);have n1_:=Aside0.mk (blk_below (g:=gb142) (o:=.cells #[.slice A0_0 l0_0.length c0_0] 71 (0,0)) (by (with_reducible repeat (first|refine blk_drewN ?_ _|refine blk_drew ?_|refine blk_alloc ?_ _));exact BK142.out) hb);have n2_:=Aside0.mk (blk_below (g:=gb143) (o:=.cells #[.int .i64 a1_0,.int .i64 a1_1,.int .i64 a1_2,.int .i64 a1_3,.int .i64 a1_4,.slice A1_5 l1_5.length c1_5,.slice A1_6 l1_6.length c1_6,.slice A1_7 l1_7.length c1_7] 56 (0,0)) (by (with_reducible repeat (first|refine blk_drewN ?_ _|refine blk_drew ?_|refine blk_alloc ?_ _));exact BK143.out) hb);have n3_:=Aside0.mk (below_step (by repeat (first|(with_reducible first|exact HB.out|apply below_alloc|apply pw_below_drewN|apply below_drew1|refine below_set ?_ GE142.out|refine below_set ?_ GE143.out)|exact HB.out)) hb);clear HO154;clear BK142;clear BK143;clear HB;have HO154:=n0_;have BK142:=n1_;have BK143:=n2_;have HB:=n3_;clear n0_ n1_ n2_ n3_;(try clear hb);(try clear hb2);(try clear hk);(try clear hi);have hcz78_0:w77.cell? ⟨gb143,0,none⟩=some (.int .i64 a1_0):=(blk_cell BK143.out 0).trans rfl;have hcz78_1:w77.cell? ⟨gb143,1,none⟩=some (.int .i64 a1_1):=(blk_cell BK143.out 1).trans rfl;have hcz78_2:w77.cell? ⟨gb143,2,none⟩=some (.int .i64 a1_2):=(blk_cell BK143.out 2).trans rfl;have hcz78_3:w77.cell? ⟨gb143,3,none⟩=some (.int .i64 a1_3):=(blk_cell BK143.out 3).trans rfl;have hcz78_4:w77.cell? ⟨gb143,4,none⟩=some (.int .i64 a1_4):=(blk_cell BK143.out 4).trans rfl;have hcz78_5:w77.cell? ⟨gb143,5,none⟩=some (.slice A1_5 l1_5.length c1_5):=(blk_cell BK143.out 5).trans rfl;have hcz78_6:w77.cell? ⟨gb143,6,none⟩=some (.slice A1_6 l1_6.length c1_6):=(blk_cell BK143.out 6).trans rfl;have hcz78_7:w77.cell? ⟨gb143,7,none⟩=some (.slice A1_7 l1_7.length c1_7):=(blk_cell BK143.out 7).trans rfl;have hfz78_0:=blk_frozen BK143.out 0;have hfz78_1:=blk_frozen BK143.out 1;have hfz78_2:=blk_frozen BK143.out 2;have hfz78_3:=blk_frozen BK143.out 3;have hfz78_4:=blk_frozen BK143.out 4;have hfz78_5:=blk_frozen BK143.out 5;have hfz78_6:=blk_frozen BK143.out 6;have hfz78_7:=blk_frozen BK143.out 7)|(go_at_call 52;(with_reducible refine (class_within.calls a1_3 64 true _ A51.out).mono ?_);rintro e w' ⟨rfl,⟨nd,rfl⟩⟩)|(go_at_call 52;(with_reducible refine (class_within.calls a1_4 64 true _ A53.out).mono ?_);rintro e w' ⟨rfl,⟨nd,rfl⟩⟩)|(go_at_call 52;(with_reducible refine (class_within.calls (wrap64 ((l1_5.length:Int) - 1)) 4095 true _ A55.out).mono ?_);rintro e w' ⟨rfl,⟨nd,rfl⟩⟩;have hcz79_0:w77.cell? ⟨gb142,0,none⟩=some (.slice A0_0 l0_0.length c0_0):=(blk_cell BK142.out 0).trans rfl;have hfz79_0:=blk_frozen BK142.out 0)|(go_at_call 18;(with_reducible refine (class_place.calls k1 _ _ l0_0 (⟨#[67,111,100,101]⟩:ByteArray) t159 _ ?side1 ?side2 A58.out).mono ?_);(case side1 => repeat (first|exact (Kd.C_below HR0_0.out (by repeat (first|(with_reducible first|exact HB.out|apply below_alloc|apply pw_below_drewN|apply below_drew1|refine below_set ?_ GE142.out|refine below_set ?_ GE143.out)|exact HB.out)))|(with_reducible refine Kd.C_alloc ?_ _)|(with_reducible refine Kd.C_drewN ?_ _)|(with_reducible refine Kd.C_drew ?_)));(case side2 => exact HC0_0.out);rintro e w' ⟨rfl,⟨nd,rfl⟩⟩)|(go_at_call 18;(with_reducible refine (class_place.calls k1 _ _ l0_0 (⟨#[83,116,97,99,107,77,97,112,84,97,98,108,101]⟩:ByteArray) t160 _ ?side1 ?side2 A70.out).mono ?_);(case side1 => repeat (first|exact (Kd.C_below HR0_0.out (by repeat (first|(with_reducible first|exact HB.out|apply below_alloc|apply pw_below_drewN|apply below_drew1|refine below_set ?_ GE142.out|refine below_set ?_ GE143.out)|exact HB.out)))|(with_reducible refine Kd.C_alloc ?_ _)|(with_reducible refine Kd.C_drewN ?_ _)|(with_reducible refine Kd.C_drew ?_)));(case side2 => exact HC0_0.out);rintro e w' ⟨rfl,⟨nd,rfl⟩⟩))
            go_ret
            exact ⟨by first|rfl|(simp [errW_none,errW_some] <;> rfl)|(simp [*,errW_none,errW_some] <;> rfl),by repeat (first|(with_reducible first|exact HB.out|apply below_alloc|apply pw_below_drewN|apply below_drew1|refine below_set ?_ GE142.out|refine below_set ?_ GE143.out)|exact HB.out)⟩
          ·rw [if_neg c59] at H
           have c59b0:decide (0 < t159)=false:=decide_eq_false c59
           clear c59
           obtain rfl:=Option.some.inj H
           have hnb80:=NB143_142.out
           have hnc80:=NB142_143.out
           have hcz81_0:wr.cell? ⟨gb143,0,none⟩=some (.int .i64 a1_0):=(blk_cell BK143.out 0).trans rfl
           have hcz81_1:wr.cell? ⟨gb143,1,none⟩=some (.int .i64 a1_1):=(blk_cell BK143.out 1).trans rfl
           have hcz81_2:wr.cell? ⟨gb143,2,none⟩=some (.int .i64 a1_2):=(blk_cell BK143.out 2).trans rfl
           have hcz81_3:wr.cell? ⟨gb143,3,none⟩=some (.int .i64 a1_3):=(blk_cell BK143.out 3).trans rfl
           have hcz81_4:wr.cell? ⟨gb143,4,none⟩=some (.int .i64 a1_4):=(blk_cell BK143.out 4).trans rfl
           have hcz81_5:wr.cell? ⟨gb143,5,none⟩=some (.slice A1_5 l1_5.length c1_5):=(blk_cell BK143.out 5).trans rfl
           have hcz81_6:wr.cell? ⟨gb143,6,none⟩=some (.slice A1_6 l1_6.length c1_6):=(blk_cell BK143.out 6).trans rfl
           have hcz81_7:wr.cell? ⟨gb143,7,none⟩=some (.slice A1_7 l1_7.length c1_7):=(blk_cell BK143.out 7).trans rfl
           have hfz81_0:=blk_frozen BK143.out 0
           have hfz81_1:=blk_frozen BK143.out 1
           have hfz81_2:=blk_frozen BK143.out 2
           have hfz81_3:=blk_frozen BK143.out 3
           have hfz81_4:=blk_frozen BK143.out 4
           have hfz81_5:=blk_frozen BK143.out 5
           have hfz81_6:=blk_frozen BK143.out 6
           have hfz81_7:=blk_frozen BK143.out 7
           go_wp2_with (first|((with_reducible refine gate_callee (f:=31) rfl ?_);refine goesL_ (some 58) rfl rfl Tryd.func31 (by kernel_rfl) rfl #[.int .i64 a1_0] rfl (by (try simp only [List.map_toArray,List.map_cons,List.map_nil]);first|done|rfl|(simp only [List.length_drop,List.length_take];rfl)) ?_;(with_reducible refine (class_flags.calls a1_0 true _ A47.out).mono ?_);rintro e w' ⟨rfl,⟨nd,rfl⟩⟩;refine ⟨_,rfl,?_⟩;have hcz82_0:wr.cell? ⟨gb142,0,none⟩=some (.slice A0_0 l0_0.length c0_0):=(blk_cell BK142.out 0).trans rfl;have hfz82_0:=blk_frozen BK142.out 0)|((with_reducible refine gate_dst (N:=65) rfl ?_);(try (refine gate_guard (by rfl) ?_;dsimp only));refine Kd.R_lit (Kd.int .i64) _ 3 ?hg (N:=65) ?hd (xs:=([a1_1,a1_2]:List Int)) (inner:=[.int .i64 a1_1,.int .i64 a1_2]) (ok:=fun _ => True) (okp:=fun _ => True) ?hr ?hp (fun _ hk => hk) trivial (Below.refl _ _) (Nat.le_refl _) (by simp) ?_;(case hd => rfl);(case hg => rfl);(case hr => first|(go_simp;done)|(go_simp;rfl));(case hp => exact (Reps.one (show Kd.M (Kd.int .i64) _ _ _ a1_1 [.int .i64 a1_1] from rfl) (Reps.one (show Kd.M (Kd.int .i64) _ _ _ a1_2 [.int .i64 a1_2] from rfl) (Reps.none _ _))));intro v153 w83 ho84 hb hg_ hnew_;clear hg_ hnew_;(first|rw [← Ny152.out] at ho84|(simp only [Int.reduceToNat] at ho84;rw [← Ny152.out] at ho84));have n0_:=Aside0.mk (Kd.R_lower ho84 (below_size (by repeat (first|(with_reducible first|exact HB.out|apply below_alloc|apply pw_below_drewN|apply below_drew1|refine below_set ?_ GE142.out|refine below_set ?_ GE143.out)|exact HB.out))));have n1_:=Aside0.mk (blk_below (g:=gb142) (o:=.cells #[.slice A0_0 l0_0.length c0_0] 71 (0,0)) (by (with_reducible repeat (first|refine blk_drewN ?_ _|refine blk_drew ?_|refine blk_alloc ?_ _));exact BK142.out) hb);have n2_:=Aside0.mk (blk_below (g:=gb143) (o:=.cells #[.int .i64 a1_0,.int .i64 a1_1,.int .i64 a1_2,.int .i64 a1_3,.int .i64 a1_4,.slice A1_5 l1_5.length c1_5,.slice A1_6 l1_6.length c1_6,.slice A1_7 l1_7.length c1_7] 56 (0,0)) (by (with_reducible repeat (first|refine blk_drewN ?_ _|refine blk_drew ?_|refine blk_alloc ?_ _));exact BK143.out) hb);have n3_:=Aside0.mk (below_step (by repeat (first|(with_reducible first|exact HB.out|apply below_alloc|apply pw_below_drewN|apply below_drew1|refine below_set ?_ GE142.out|refine below_set ?_ GE143.out)|exact HB.out)) hb);clear BK142;clear BK143;clear HB;have HO154:=n0_;have BK142:=n1_;have BK143:=n2_;have HB:=n3_;clear n0_ n1_ n2_ n3_;clear hb ho84;obtain ⟨Ao85,co85,eo85⟩:=Kd.R_slice HO154.out;subst eo85)|(go_at_call 32;(with_reducible refine (class_rules_text.calls k1 _ _ l0_0 _ _ y152 true _ ?side1 ?side2 ?side3 ?side4 A49.out).mono ?_);(case side1 => repeat (first|exact (Kd.C_below HR0_0.out HB.out)|(with_reducible refine Kd.C_alloc ?_ _)|(with_reducible refine Kd.C_drewN ?_ _)|(with_reducible refine Kd.C_drew ?_)));(case side2 => exact HC0_0.out);(case side3 => repeat (first|exact (Kd.R_reads' HO154.out).2.2|(with_reducible refine Kd.C_alloc ?_ _)|(with_reducible refine Kd.C_drewN ?_ _)|(with_reducible refine Kd.C_drew ?_)));(case side4 => exact (Kd.R_reads' HO154.out).2.1);rintro e w86 ⟨rfl,hb⟩;have n0_:=Aside0.mk (Kd.R_below (by (with_reducible repeat (first|apply Kd.R_alloc|apply Kd.R_drewN|apply Kd.R_drew));exact HO154.out) hb);have n1_:=Aside0.mk (blk_below (g:=gb142) (o:=.cells #[.slice A0_0 l0_0.length c0_0] 71 (0,0)) (by (with_reducible repeat (first|refine blk_drewN ?_ _|refine blk_drew ?_|refine blk_alloc ?_ _));exact BK142.out) hb);have n2_:=Aside0.mk (blk_below (g:=gb143) (o:=.cells #[.int .i64 a1_0,.int .i64 a1_1,.int .i64 a1_2,.int .i64 a1_3,.int .i64 a1_4,.slice A1_5 l1_5.length c1_5,.slice A1_6 l1_6.length c1_6,.slice A1_7 l1_7.length c1_7] 56 (0,0)) (by (with_reducible repeat (first|refine blk_drewN ?_ _|refine blk_drew ?_|refine blk_alloc ?_ _));exact BK143.out) hb);have n3_:=Aside0.mk (below_step (by repeat (first|(with_reducible first|exact HB.out|apply below_alloc|apply pw_below_drewN|apply below_drew1|refine below_set ?_ GE142.out|refine below_set ?_ GE143.out)|exact HB.out)) hb);clear HO154;clear BK142;clear BK143;clear HB;have HO154:=n0_;have BK142:=n1_;have BK143:=n2_;have HB:=n3_;clear n0_ n1_ n2_ n3_;(try clear hb);(try clear hb2);(try clear hk);(try clear hi);have hcz87_0:w86.cell? ⟨gb143,0,none⟩=some (.int .i64 a1_0):=(blk_cell BK143.out 0).trans rfl;have hcz87_1:w86.cell? ⟨gb143,1,none⟩=some (.int .i64 a1_1):=(blk_cell BK143.out 1).trans rfl;have hcz87_2:w86.cell? ⟨gb143,2,none⟩=some (.int .i64 a1_2):=(blk_cell BK143.out 2).trans rfl;have hcz87_3:w86.cell? ⟨gb143,3,none⟩=some (.int .i64 a1_3):=(blk_cell BK143.out 3).trans rfl;have hcz87_4:w86.cell? ⟨gb143,4,none⟩=some (.int .i64 a1_4):=(blk_cell BK143.out 4).trans rfl;have hcz87_5:w86.cell? ⟨gb143,5,none⟩=some (.slice A1_5 l1_5.length c1_5):=(blk_cell BK143.out 5).trans rfl;have hcz87_6:w86.cell? ⟨gb143,6,none⟩=some (.slice A1_6 l1_6.length c1_6):=(blk_cell BK143.out 6).trans rfl;have hcz87_7:w86.cell? ⟨gb143,7,none⟩=some (.slice A1_7 l1_7.length c1_7):=(blk_cell BK143.out 7).trans rfl;have hfz87_0:=blk_frozen BK143.out 0;have hfz87_1:=blk_frozen BK143.out 1;have hfz87_2:=blk_frozen BK143.out 2;have hfz87_3:=blk_frozen BK143.out 3;have hfz87_4:=blk_frozen BK143.out 4;have hfz87_5:=blk_frozen BK143.out 5;have hfz87_6:=blk_frozen BK143.out 6;have hfz87_7:=blk_frozen BK143.out 7)|(go_at_call 52;(with_reducible refine (class_within.calls a1_3 64 true _ A51.out).mono ?_);rintro e w' ⟨rfl,⟨nd,rfl⟩⟩)|(go_at_call 52;(with_reducible refine (class_within.calls a1_4 64 true _ A53.out).mono ?_);rintro e w' ⟨rfl,⟨nd,rfl⟩⟩)|(go_at_call 52;(with_reducible refine (class_within.calls (wrap64 ((l1_5.length:Int) - 1)) 4095 true _ A55.out).mono ?_);rintro e w' ⟨rfl,⟨nd,rfl⟩⟩;have hcz88_0:w86.cell? ⟨gb142,0,none⟩=some (.slice A0_0 l0_0.length c0_0):=(blk_cell BK142.out 0).trans rfl;have hfz88_0:=blk_frozen BK142.out 0)|(go_at_call 18;(with_reducible refine (class_place.calls k1 _ _ l0_0 (⟨#[67,111,100,101]⟩:ByteArray) t159 _ ?side1 ?side2 A58.out).mono ?_);(case side1 => repeat (first|exact (Kd.C_below HR0_0.out (by repeat (first|(with_reducible first|exact HB.out|apply below_alloc|apply pw_below_drewN|apply below_drew1|refine below_set ?_ GE142.out|refine below_set ?_ GE143.out)|exact HB.out)))|(with_reducible refine Kd.C_alloc ?_ _)|(with_reducible refine Kd.C_drewN ?_ _)|(with_reducible refine Kd.C_drew ?_)));(case side2 => exact HC0_0.out);rintro e w' ⟨rfl,⟨nd,rfl⟩⟩))
           go_ret
           exact ⟨by first|rfl|(simp [errW_none,errW_some] <;> rfl)|(simp [*,errW_none,errW_some] <;> rfl),by repeat (first|(with_reducible first|exact HB.out|apply below_alloc|apply pw_below_drewN|apply below_drew1|refine below_set ?_ GE142.out|refine below_set ?_ GE143.out)|exact HB.out)⟩
         ·rw [if_neg c57] at H
          have c57b0:decide ((l1_7.length:Int)≤4096)=false:=decide_eq_false c57
          have c57b1:decide (l1_7.length≤4096)=false:=decide_eq_false (by omega)
          clear c57
          obtain rfl:=Option.some.inj H
          have hnb89:=NB143_142.out
          have hnc89:=NB142_143.out
          have hcz90_0:wr.cell? ⟨gb143,0,none⟩=some (.int .i64 a1_0):=(blk_cell BK143.out 0).trans rfl
          have hcz90_1:wr.cell? ⟨gb143,1,none⟩=some (.int .i64 a1_1):=(blk_cell BK143.out 1).trans rfl
          have hcz90_2:wr.cell? ⟨gb143,2,none⟩=some (.int .i64 a1_2):=(blk_cell BK143.out 2).trans rfl
          have hcz90_3:wr.cell? ⟨gb143,3,none⟩=some (.int .i64 a1_3):=(blk_cell BK143.out 3).trans rfl
          have hcz90_4:wr.cell? ⟨gb143,4,none⟩=some (.int .i64 a1_4):=(blk_cell BK143.out 4).trans rfl
          have hcz90_5:wr.cell? ⟨gb143,5,none⟩=some (.slice A1_5 l1_5.length c1_5):=(blk_cell BK143.out 5).trans rfl
          have hcz90_6:wr.cell? ⟨gb143,6,none⟩=some (.slice A1_6 l1_6.length c1_6):=(blk_cell BK143.out 6).trans rfl
          have hcz90_7:wr.cell? ⟨gb143,7,none⟩=some (.slice A1_7 l1_7.length c1_7):=(blk_cell BK143.out 7).trans rfl
          have hfz90_0:=blk_frozen BK143.out 0
          have hfz90_1:=blk_frozen BK143.out 1
          have hfz90_2:=blk_frozen BK143.out 2
          have hfz90_3:=blk_frozen BK143.out 3
          have hfz90_4:=blk_frozen BK143.out 4
          have hfz90_5:=blk_frozen BK143.out 5
          have hfz90_6:=blk_frozen BK143.out 6
          have hfz90_7:=blk_frozen BK143.out 7
          go_wp2_with (first|((with_reducible refine gate_callee (f:=31) rfl ?_);refine goesL_ (some 58) rfl rfl Tryd.func31 (by kernel_rfl) rfl #[.int .i64 a1_0] rfl (by (try simp only [List.map_toArray,List.map_cons,List.map_nil]);first|done|rfl|(simp only [List.length_drop,List.length_take];rfl)) ?_;(with_reducible refine (class_flags.calls a1_0 true _ A47.out).mono ?_);rintro e w' ⟨rfl,⟨nd,rfl⟩⟩;refine ⟨_,rfl,?_⟩;have hcz91_0:wr.cell? ⟨gb142,0,none⟩=some (.slice A0_0 l0_0.length c0_0):=(blk_cell BK142.out 0).trans rfl;have hfz91_0:=blk_frozen BK142.out 0)|((with_reducible refine gate_dst (N:=65) rfl ?_);(try (refine gate_guard (by rfl) ?_;dsimp only));refine Kd.R_lit (Kd.int .i64) _ 3 ?hg (N:=65) ?hd (xs:=([a1_1,a1_2]:List Int)) (inner:=[.int .i64 a1_1,.int .i64 a1_2]) (ok:=fun _ => True) (okp:=fun _ => True) ?hr ?hp (fun _ hk => hk) trivial (Below.refl _ _) (Nat.le_refl _) (by simp) ?_;(case hd => rfl);(case hg => rfl);(case hr => first|(go_simp;done)|(go_simp;rfl));(case hp => exact (Reps.one (show Kd.M (Kd.int .i64) _ _ _ a1_1 [.int .i64 a1_1] from rfl) (Reps.one (show Kd.M (Kd.int .i64) _ _ _ a1_2 [.int .i64 a1_2] from rfl) (Reps.none _ _))));intro v153 w92 ho93 hb hg_ hnew_;clear hg_ hnew_;(first|rw [← Ny152.out] at ho93|(simp only [Int.reduceToNat] at ho93;rw [← Ny152.out] at ho93));have n0_:=Aside0.mk (Kd.R_lower ho93 (below_size (by repeat (first|(with_reducible first|exact HB.out|apply below_alloc|apply pw_below_drewN|apply below_drew1|refine below_set ?_ GE142.out|refine below_set ?_ GE143.out)|exact HB.out))));have n1_:=Aside0.mk (blk_below (g:=gb142) (o:=.cells #[.slice A0_0 l0_0.length c0_0] 71 (0,0)) (by (with_reducible repeat (first|refine blk_drewN ?_ _|refine blk_drew ?_|refine blk_alloc ?_ _));exact BK142.out) hb);have n2_:=Aside0.mk (blk_below (g:=gb143) (o:=.cells #[.int .i64 a1_0,.int .i64 a1_1,.int .i64 a1_2,.int .i64 a1_3,.int .i64 a1_4,.slice A1_5 l1_5.length c1_5,.slice A1_6 l1_6.length c1_6,.slice A1_7 l1_7.length c1_7] 56 (0,0)) (by (with_reducible repeat (first|refine blk_drewN ?_ _|refine blk_drew ?_|refine blk_alloc ?_ _));exact BK143.out) hb);have n3_:=Aside0.mk (below_step (by repeat (first|(with_reducible first|exact HB.out|apply below_alloc|apply pw_below_drewN|apply below_drew1|refine below_set ?_ GE142.out|refine below_set ?_ GE143.out)|exact HB.out)) hb);clear BK142;clear BK143;clear HB;have HO154:=n0_;have BK142:=n1_;have BK143:=n2_;have HB:=n3_;clear n0_ n1_ n2_ n3_;clear hb ho93;obtain ⟨Ao94,co94,eo94⟩:=Kd.R_slice HO154.out;subst eo94)|(go_at_call 32;(with_reducible refine (class_rules_text.calls k1 _ _ l0_0 _ _ y152 true _ ?side1 ?side2 ?side3 ?side4 A49.out).mono ?_);(case side1 => repeat (first|exact (Kd.C_below HR0_0.out HB.out)|(with_reducible refine Kd.C_alloc ?_ _)|(with_reducible refine Kd.C_drewN ?_ _)|(with_reducible refine Kd.C_drew ?_)));(case side2 => exact HC0_0.out);(case side3 => repeat (first|exact (Kd.R_reads' HO154.out).2.2|(with_reducible refine Kd.C_alloc ?_ _)|(with_reducible refine Kd.C_drewN ?_ _)|(with_reducible refine Kd.C_drew ?_)));(case side4 => exact (Kd.R_reads' HO154.out).2.1);rintro e w95 ⟨rfl,hb⟩;have n0_:=Aside0.mk (Kd.R_below (by (with_reducible repeat (first|apply Kd.R_alloc|apply Kd.R_drewN|apply Kd.R_drew));exact HO154.out) hb);have n1_:=Aside0.mk (blk_below (g:=gb142) (o:=.cells #[.slice A0_0 l0_0.length c0_0] 71 (0,0)) (by (with_reducible repeat (first|refine blk_drewN ?_ _|refine blk_drew ?_|refine blk_alloc ?_ _));exact BK142.out) hb);have n2_:=Aside0.mk (blk_below (g:=gb143) (o:=.cells #[.int .i64 a1_0,.int .i64 a1_1,.int .i64 a1_2,.int .i64 a1_3,.int .i64 a1_4,.slice A1_5 l1_5.length c1_5,.slice A1_6 l1_6.length c1_6,.slice A1_7 l1_7.length c1_7] 56 (0,0)) (by (with_reducible repeat (first|refine blk_drewN ?_ _|refine blk_drew ?_|refine blk_alloc ?_ _));exact BK143.out) hb);have n3_:=Aside0.mk (below_step (by repeat (first|(with_reducible first|exact HB.out|apply below_alloc|apply pw_below_drewN|apply below_drew1|refine below_set ?_ GE142.out|refine below_set ?_ GE143.out)|exact HB.out)) hb);clear HO154;clear BK142;clear BK143;clear HB;have HO154:=n0_;have BK142:=n1_;have BK143:=n2_;have HB:=n3_;clear n0_ n1_ n2_ n3_;(try clear hb);(try clear hb2);(try clear hk);(try clear hi);have hcz96_0:w95.cell? ⟨gb143,0,none⟩=some (.int .i64 a1_0):=(blk_cell BK143.out 0).trans rfl;have hcz96_1:w95.cell? ⟨gb143,1,none⟩=some (.int .i64 a1_1):=(blk_cell BK143.out 1).trans rfl;have hcz96_2:w95.cell? ⟨gb143,2,none⟩=some (.int .i64 a1_2):=(blk_cell BK143.out 2).trans rfl;have hcz96_3:w95.cell? ⟨gb143,3,none⟩=some (.int .i64 a1_3):=(blk_cell BK143.out 3).trans rfl;have hcz96_4:w95.cell? ⟨gb143,4,none⟩=some (.int .i64 a1_4):=(blk_cell BK143.out 4).trans rfl;have hcz96_5:w95.cell? ⟨gb143,5,none⟩=some (.slice A1_5 l1_5.length c1_5):=(blk_cell BK143.out 5).trans rfl;have hcz96_6:w95.cell? ⟨gb143,6,none⟩=some (.slice A1_6 l1_6.length c1_6):=(blk_cell BK143.out 6).trans rfl;have hcz96_7:w95.cell? ⟨gb143,7,none⟩=some (.slice A1_7 l1_7.length c1_7):=(blk_cell BK143.out 7).trans rfl;have hfz96_0:=blk_frozen BK143.out 0;have hfz96_1:=blk_frozen BK143.out 1;have hfz96_2:=blk_frozen BK143.out 2;have hfz96_3:=blk_frozen BK143.out 3;have hfz96_4:=blk_frozen BK143.out 4;have hfz96_5:=blk_frozen BK143.out 5;have hfz96_6:=blk_frozen BK143.out 6;have hfz96_7:=blk_frozen BK143.out 7)|(go_at_call 52;(with_reducible refine (class_within.calls a1_3 64 true _ A51.out).mono ?_);rintro e w' ⟨rfl,⟨nd,rfl⟩⟩)|(go_at_call 52;(with_reducible refine (class_within.calls a1_4 64 true _ A53.out).mono ?_);rintro e w' ⟨rfl,⟨nd,rfl⟩⟩)|(go_at_call 52;(with_reducible refine (class_within.calls (wrap64 ((l1_5.length:Int) - 1)) 4095 true _ A55.out).mono ?_);rintro e w' ⟨rfl,⟨nd,rfl⟩⟩))
          go_ret
          exact ⟨by first|rfl|(simp [errW_none,errW_some] <;> rfl)|(simp [*,errW_none,errW_some] <;> rfl),by repeat (first|(with_reducible first|exact HB.out|apply below_alloc|apply pw_below_drewN|apply below_drew1|refine below_set ?_ GE142.out|refine below_set ?_ GE143.out)|exact HB.out)⟩
        ·replace c56:=Bool.eq_false_iff.mpr c56
         subst c56
         have H1:(some false)=some r:=by rw [if_neg (show ¬ (false=true) by decide)] at H;exact H
         clear H
         have H:=H1
         clear H1
         obtain rfl:=Option.some.inj H
         have hnb97:=NB143_142.out
         have hnc97:=NB142_143.out
         have hcz98_0:wr.cell? ⟨gb143,0,none⟩=some (.int .i64 a1_0):=(blk_cell BK143.out 0).trans rfl
         have hcz98_1:wr.cell? ⟨gb143,1,none⟩=some (.int .i64 a1_1):=(blk_cell BK143.out 1).trans rfl
         have hcz98_2:wr.cell? ⟨gb143,2,none⟩=some (.int .i64 a1_2):=(blk_cell BK143.out 2).trans rfl
         have hcz98_3:wr.cell? ⟨gb143,3,none⟩=some (.int .i64 a1_3):=(blk_cell BK143.out 3).trans rfl
         have hcz98_4:wr.cell? ⟨gb143,4,none⟩=some (.int .i64 a1_4):=(blk_cell BK143.out 4).trans rfl
         have hcz98_5:wr.cell? ⟨gb143,5,none⟩=some (.slice A1_5 l1_5.length c1_5):=(blk_cell BK143.out 5).trans rfl
         have hcz98_6:wr.cell? ⟨gb143,6,none⟩=some (.slice A1_6 l1_6.length c1_6):=(blk_cell BK143.out 6).trans rfl
         have hcz98_7:wr.cell? ⟨gb143,7,none⟩=some (.slice A1_7 l1_7.length c1_7):=(blk_cell BK143.out 7).trans rfl
         have hfz98_0:=blk_frozen BK143.out 0
         have hfz98_1:=blk_frozen BK143.out 1
         have hfz98_2:=blk_frozen BK143.out 2
         have hfz98_3:=blk_frozen BK143.out 3
         have hfz98_4:=blk_frozen BK143.out 4
         have hfz98_5:=blk_frozen BK143.out 5
         have hfz98_6:=blk_frozen BK143.out 6
         have hfz98_7:=blk_frozen BK143.out 7
         go_wp2_with (first|((with_reducible refine gate_callee (f:=31) rfl ?_);refine goesL_ (some 58) rfl rfl Tryd.func31 (by kernel_rfl) rfl #[.int .i64 a1_0] rfl (by (try simp only [List.map_toArray,List.map_cons,List.map_nil]);first|done|rfl|(simp only [List.length_drop,List.length_take];rfl)) ?_;(with_reducible refine (class_flags.calls a1_0 true _ A47.out).mono ?_);rintro e w' ⟨rfl,⟨nd,rfl⟩⟩;refine ⟨_,rfl,?_⟩;have hcz99_0:wr.cell? ⟨gb142,0,none⟩=some (.slice A0_0 l0_0.length c0_0):=(blk_cell BK142.out 0).trans rfl;have hfz99_0:=blk_frozen BK142.out 0)|((with_reducible refine gate_dst (N:=65) rfl ?_);(try (refine gate_guard (by rfl) ?_;dsimp only));refine Kd.R_lit (Kd.int .i64) _ 3 ?hg (N:=65) ?hd (xs:=([a1_1,a1_2]:List Int)) (inner:=[.int .i64 a1_1,.int .i64 a1_2]) (ok:=fun _ => True) (okp:=fun _ => True) ?hr ?hp (fun _ hk => hk) trivial (Below.refl _ _) (Nat.le_refl _) (by simp) ?_;(case hd => rfl);(case hg => rfl);(case hr => first|(go_simp;done)|(go_simp;rfl));(case hp => exact (Reps.one (show Kd.M (Kd.int .i64) _ _ _ a1_1 [.int .i64 a1_1] from rfl) (Reps.one (show Kd.M (Kd.int .i64) _ _ _ a1_2 [.int .i64 a1_2] from rfl) (Reps.none _ _))));intro v153 w100 ho101 hb hg_ hnew_;clear hg_ hnew_;(first|rw [← Ny152.out] at ho101|(simp only [Int.reduceToNat] at ho101;rw [← Ny152.out] at ho101));have n0_:=Aside0.mk (Kd.R_lower ho101 (below_size (by repeat (first|(with_reducible first|exact HB.out|apply below_alloc|apply pw_below_drewN|apply below_drew1|refine below_set ?_ GE142.out|refine below_set ?_ GE143.out)|exact HB.out))));have n1_:=Aside0.mk (blk_below (g:=gb142) (o:=.cells #[.slice A0_0 l0_0.length c0_0] 71 (0,0)) (by (with_reducible repeat (first|refine blk_drewN ?_ _|refine blk_drew ?_|refine blk_alloc ?_ _));exact BK142.out) hb);have n2_:=Aside0.mk (blk_below (g:=gb143) (o:=.cells #[.int .i64 a1_0,.int .i64 a1_1,.int .i64 a1_2,.int .i64 a1_3,.int .i64 a1_4,.slice A1_5 l1_5.length c1_5,.slice A1_6 l1_6.length c1_6,.slice A1_7 l1_7.length c1_7] 56 (0,0)) (by (with_reducible repeat (first|refine blk_drewN ?_ _|refine blk_drew ?_|refine blk_alloc ?_ _));exact BK143.out) hb);have n3_:=Aside0.mk (below_step (by repeat (first|(with_reducible first|exact HB.out|apply below_alloc|apply pw_below_drewN|apply below_drew1|refine below_set ?_ GE142.out|refine below_set ?_ GE143.out)|exact HB.out)) hb);clear BK142;clear BK143;clear HB;have HO154:=n0_;have BK142:=n1_;have BK143:=n2_;have HB:=n3_;clear n0_ n1_ n2_ n3_;clear hb ho101;obtain ⟨Ao102,co102,eo102⟩:=Kd.R_slice HO154.out;subst eo102)|(go_at_call 32;(with_reducible refine (class_rules_text.calls k1 _ _ l0_0 _ _ y152 true _ ?side1 ?side2 ?side3 ?side4 A49.out).mono ?_);(case side1 => repeat (first|exact (Kd.C_below HR0_0.out HB.out)|(with_reducible refine Kd.C_alloc ?_ _)|(with_reducible refine Kd.C_drewN ?_ _)|(with_reducible refine Kd.C_drew ?_)));(case side2 => exact HC0_0.out);(case side3 => repeat (first|exact (Kd.R_reads' HO154.out).2.2|(with_reducible refine Kd.C_alloc ?_ _)|(with_reducible refine Kd.C_drewN ?_ _)|(with_reducible refine Kd.C_drew ?_)));(case side4 => exact (Kd.R_reads' HO154.out).2.1);rintro e w103 ⟨rfl,hb⟩;have n0_:=Aside0.mk (Kd.R_below (by (with_reducible repeat (first|apply Kd.R_alloc|apply Kd.R_drewN|apply Kd.R_drew));exact HO154.out) hb);have n1_:=Aside0.mk (blk_below (g:=gb142) (o:=.cells #[.slice A0_0 l0_0.length c0_0] 71 (0,0)) (by (with_reducible repeat (first|refine blk_drewN ?_ _|refine blk_drew ?_|refine blk_alloc ?_ _));exact BK142.out) hb);have n2_:=Aside0.mk (blk_below (g:=gb143) (o:=.cells #[.int .i64 a1_0,.int .i64 a1_1,.int .i64 a1_2,.int .i64 a1_3,.int .i64 a1_4,.slice A1_5 l1_5.length c1_5,.slice A1_6 l1_6.length c1_6,.slice A1_7 l1_7.length c1_7] 56 (0,0)) (by (with_reducible repeat (first|refine blk_drewN ?_ _|refine blk_drew ?_|refine blk_alloc ?_ _));exact BK143.out) hb);have n3_:=Aside0.mk (below_step (by repeat (first|(with_reducible first|exact HB.out|apply below_alloc|apply pw_below_drewN|apply below_drew1|refine below_set ?_ GE142.out|refine below_set ?_ GE143.out)|exact HB.out)) hb);clear HO154;clear BK142;clear BK143;clear HB;have HO154:=n0_;have BK142:=n1_;have BK143:=n2_;have HB:=n3_;clear n0_ n1_ n2_ n3_;(try clear hb);(try clear hb2);(try clear hk);(try clear hi);have hcz104_0:w103.cell? ⟨gb143,0,none⟩=some (.int .i64 a1_0):=(blk_cell BK143.out 0).trans rfl;have hcz104_1:w103.cell? ⟨gb143,1,none⟩=some (.int .i64 a1_1):=(blk_cell BK143.out 1).trans rfl;have hcz104_2:w103.cell? ⟨gb143,2,none⟩=some (.int .i64 a1_2):=(blk_cell BK143.out 2).trans rfl;have hcz104_3:w103.cell? ⟨gb143,3,none⟩=some (.int .i64 a1_3):=(blk_cell BK143.out 3).trans rfl;have hcz104_4:w103.cell? ⟨gb143,4,none⟩=some (.int .i64 a1_4):=(blk_cell BK143.out 4).trans rfl;have hcz104_5:w103.cell? ⟨gb143,5,none⟩=some (.slice A1_5 l1_5.length c1_5):=(blk_cell BK143.out 5).trans rfl;have hcz104_6:w103.cell? ⟨gb143,6,none⟩=some (.slice A1_6 l1_6.length c1_6):=(blk_cell BK143.out 6).trans rfl;have hcz104_7:w103.cell? ⟨gb143,7,none⟩=some (.slice A1_7 l1_7.length c1_7):=(blk_cell BK143.out 7).trans rfl;have hfz104_0:=blk_frozen BK143.out 0;have hfz104_1:=blk_frozen BK143.out 1;have hfz104_2:=blk_frozen BK143.out 2;have hfz104_3:=blk_frozen BK143.out 3;have hfz104_4:=blk_frozen BK143.out 4;have hfz104_5:=blk_frozen BK143.out 5;have hfz104_6:=blk_frozen BK143.out 6;have hfz104_7:=blk_frozen BK143.out 7)|(go_at_call 52;(with_reducible refine (class_within.calls a1_3 64 true _ A51.out).mono ?_);rintro e w' ⟨rfl,⟨nd,rfl⟩⟩)|(go_at_call 52;(with_reducible refine (class_within.calls a1_4 64 true _ A53.out).mono ?_);rintro e w' ⟨rfl,⟨nd,rfl⟩⟩)|(go_at_call 52;(with_reducible refine (class_within.calls (wrap64 ((l1_5.length:Int) - 1)) 4095 false _ A55.out).mono ?_);rintro e w' ⟨rfl,⟨nd,rfl⟩⟩))
         go_ret
         exact ⟨by first|rfl|(simp [errW_none,errW_some] <;> rfl)|(simp [*,errW_none,errW_some] <;> rfl),by repeat (first|(with_reducible first|exact HB.out|apply below_alloc|apply pw_below_drewN|apply below_drew1|refine below_set ?_ GE142.out|refine below_set ?_ GE143.out)|exact HB.out)⟩
       ·replace c54:=Bool.eq_false_iff.mpr c54
        subst c54
        have H1:(some false)=some r:=by rw [if_neg (show ¬ (false=true) by decide)] at H;exact H
        clear H
        have H:=H1
        clear H1
        obtain rfl:=Option.some.inj H
        have hnb105:=NB143_142.out
        have hnc105:=NB142_143.out
        have hcz106_0:wr.cell? ⟨gb143,0,none⟩=some (.int .i64 a1_0):=(blk_cell BK143.out 0).trans rfl
        have hcz106_1:wr.cell? ⟨gb143,1,none⟩=some (.int .i64 a1_1):=(blk_cell BK143.out 1).trans rfl
        have hcz106_2:wr.cell? ⟨gb143,2,none⟩=some (.int .i64 a1_2):=(blk_cell BK143.out 2).trans rfl
        have hcz106_3:wr.cell? ⟨gb143,3,none⟩=some (.int .i64 a1_3):=(blk_cell BK143.out 3).trans rfl
        have hcz106_4:wr.cell? ⟨gb143,4,none⟩=some (.int .i64 a1_4):=(blk_cell BK143.out 4).trans rfl
        have hcz106_5:wr.cell? ⟨gb143,5,none⟩=some (.slice A1_5 l1_5.length c1_5):=(blk_cell BK143.out 5).trans rfl
        have hcz106_6:wr.cell? ⟨gb143,6,none⟩=some (.slice A1_6 l1_6.length c1_6):=(blk_cell BK143.out 6).trans rfl
        have hcz106_7:wr.cell? ⟨gb143,7,none⟩=some (.slice A1_7 l1_7.length c1_7):=(blk_cell BK143.out 7).trans rfl
        have hfz106_0:=blk_frozen BK143.out 0
        have hfz106_1:=blk_frozen BK143.out 1
        have hfz106_2:=blk_frozen BK143.out 2
        have hfz106_3:=blk_frozen BK143.out 3
        have hfz106_4:=blk_frozen BK143.out 4
        have hfz106_5:=blk_frozen BK143.out 5
        have hfz106_6:=blk_frozen BK143.out 6
        have hfz106_7:=blk_frozen BK143.out 7
        go_wp2_with (first|((with_reducible refine gate_callee (f:=31) rfl ?_);refine goesL_ (some 58) rfl rfl Tryd.func31 (by kernel_rfl) rfl #[.int .i64 a1_0] rfl (by (try simp only [List.map_toArray,List.map_cons,List.map_nil]);first|done|rfl|(simp only [List.length_drop,List.length_take];rfl)) ?_;(with_reducible refine (class_flags.calls a1_0 true _ A47.out).mono ?_);rintro e w' ⟨rfl,⟨nd,rfl⟩⟩;refine ⟨_,rfl,?_⟩;have hcz107_0:wr.cell? ⟨gb142,0,none⟩=some (.slice A0_0 l0_0.length c0_0):=(blk_cell BK142.out 0).trans rfl;have hfz107_0:=blk_frozen BK142.out 0)|((with_reducible refine gate_dst (N:=65) rfl ?_);(try (refine gate_guard (by rfl) ?_;dsimp only));refine Kd.R_lit (Kd.int .i64) _ 3 ?hg (N:=65) ?hd (xs:=([a1_1,a1_2]:List Int)) (inner:=[.int .i64 a1_1,.int .i64 a1_2]) (ok:=fun _ => True) (okp:=fun _ => True) ?hr ?hp (fun _ hk => hk) trivial (Below.refl _ _) (Nat.le_refl _) (by simp) ?_;(case hd => rfl);(case hg => rfl);(case hr => first|(go_simp;done)|(go_simp;rfl));(case hp => exact (Reps.one (show Kd.M (Kd.int .i64) _ _ _ a1_1 [.int .i64 a1_1] from rfl) (Reps.one (show Kd.M (Kd.int .i64) _ _ _ a1_2 [.int .i64 a1_2] from rfl) (Reps.none _ _))));intro v153 w108 ho109 hb hg_ hnew_;clear hg_ hnew_;(first|rw [← Ny152.out] at ho109|(simp only [Int.reduceToNat] at ho109;rw [← Ny152.out] at ho109));have n0_:=Aside0.mk (Kd.R_lower ho109 (below_size (by repeat (first|(with_reducible first|exact HB.out|apply below_alloc|apply pw_below_drewN|apply below_drew1|refine below_set ?_ GE142.out|refine below_set ?_ GE143.out)|exact HB.out))));have n1_:=Aside0.mk (blk_below (g:=gb142) (o:=.cells #[.slice A0_0 l0_0.length c0_0] 71 (0,0)) (by (with_reducible repeat (first|refine blk_drewN ?_ _|refine blk_drew ?_|refine blk_alloc ?_ _));exact BK142.out) hb);have n2_:=Aside0.mk (blk_below (g:=gb143) (o:=.cells #[.int .i64 a1_0,.int .i64 a1_1,.int .i64 a1_2,.int .i64 a1_3,.int .i64 a1_4,.slice A1_5 l1_5.length c1_5,.slice A1_6 l1_6.length c1_6,.slice A1_7 l1_7.length c1_7] 56 (0,0)) (by (with_reducible repeat (first|refine blk_drewN ?_ _|refine blk_drew ?_|refine blk_alloc ?_ _));exact BK143.out) hb);have n3_:=Aside0.mk (below_step (by repeat (first|(with_reducible first|exact HB.out|apply below_alloc|apply pw_below_drewN|apply below_drew1|refine below_set ?_ GE142.out|refine below_set ?_ GE143.out)|exact HB.out)) hb);clear BK142;clear BK143;clear HB;have HO154:=n0_;have BK142:=n1_;have BK143:=n2_;have HB:=n3_;clear n0_ n1_ n2_ n3_;clear hb ho109;obtain ⟨Ao110,co110,eo110⟩:=Kd.R_slice HO154.out;subst eo110)|(go_at_call 32;(with_reducible refine (class_rules_text.calls k1 _ _ l0_0 _ _ y152 true _ ?side1 ?side2 ?side3 ?side4 A49.out).mono ?_);(case side1 => repeat (first|exact (Kd.C_below HR0_0.out HB.out)|(with_reducible refine Kd.C_alloc ?_ _)|(with_reducible refine Kd.C_drewN ?_ _)|(with_reducible refine Kd.C_drew ?_)));(case side2 => exact HC0_0.out);(case side3 => repeat (first|exact (Kd.R_reads' HO154.out).2.2|(with_reducible refine Kd.C_alloc ?_ _)|(with_reducible refine Kd.C_drewN ?_ _)|(with_reducible refine Kd.C_drew ?_)));(case side4 => exact (Kd.R_reads' HO154.out).2.1);rintro e w111 ⟨rfl,hb⟩;have n0_:=Aside0.mk (Kd.R_below (by (with_reducible repeat (first|apply Kd.R_alloc|apply Kd.R_drewN|apply Kd.R_drew));exact HO154.out) hb);have n1_:=Aside0.mk (blk_below (g:=gb142) (o:=.cells #[.slice A0_0 l0_0.length c0_0] 71 (0,0)) (by (with_reducible repeat (first|refine blk_drewN ?_ _|refine blk_drew ?_|refine blk_alloc ?_ _));exact BK142.out) hb);have n2_:=Aside0.mk (blk_below (g:=gb143) (o:=.cells #[.int .i64 a1_0,.int .i64 a1_1,.int .i64 a1_2,.int .i64 a1_3,.int .i64 a1_4,.slice A1_5 l1_5.length c1_5,.slice A1_6 l1_6.length c1_6,.slice A1_7 l1_7.length c1_7] 56 (0,0)) (by (with_reducible repeat (first|refine blk_drewN ?_ _|refine blk_drew ?_|refine blk_alloc ?_ _));exact BK143.out) hb);have n3_:=Aside0.mk (below_step (by repeat (first|(with_reducible first|exact HB.out|apply below_alloc|apply pw_below_drewN|apply below_drew1|refine below_set ?_ GE142.out|refine below_set ?_ GE143.out)|exact HB.out)) hb);clear HO154;clear BK142;clear BK143;clear HB;have HO154:=n0_;have BK142:=n1_;have BK143:=n2_;have HB:=n3_;clear n0_ n1_ n2_ n3_;(try clear hb);(try clear hb2);(try clear hk);(try clear hi);have hcz112_0:w111.cell? ⟨gb143,0,none⟩=some (.int .i64 a1_0):=(blk_cell BK143.out 0).trans rfl;have hcz112_1:w111.cell? ⟨gb143,1,none⟩=some (.int .i64 a1_1):=(blk_cell BK143.out 1).trans rfl;have hcz112_2:w111.cell? ⟨gb143,2,none⟩=some (.int .i64 a1_2):=(blk_cell BK143.out 2).trans rfl;have hcz112_3:w111.cell? ⟨gb143,3,none⟩=some (.int .i64 a1_3):=(blk_cell BK143.out 3).trans rfl;have hcz112_4:w111.cell? ⟨gb143,4,none⟩=some (.int .i64 a1_4):=(blk_cell BK143.out 4).trans rfl;have hcz112_5:w111.cell? ⟨gb143,5,none⟩=some (.slice A1_5 l1_5.length c1_5):=(blk_cell BK143.out 5).trans rfl;have hcz112_6:w111.cell? ⟨gb143,6,none⟩=some (.slice A1_6 l1_6.length c1_6):=(blk_cell BK143.out 6).trans rfl;have hcz112_7:w111.cell? ⟨gb143,7,none⟩=some (.slice A1_7 l1_7.length c1_7):=(blk_cell BK143.out 7).trans rfl;have hfz112_0:=blk_frozen BK143.out 0;have hfz112_1:=blk_frozen BK143.out 1;have hfz112_2:=blk_frozen BK143.out 2;have hfz112_3:=blk_frozen BK143.out 3;have hfz112_4:=blk_frozen BK143.out 4;have hfz112_5:=blk_frozen BK143.out 5;have hfz112_6:=blk_frozen BK143.out 6;have hfz112_7:=blk_frozen BK143.out 7)|(go_at_call 52;(with_reducible refine (class_within.calls a1_3 64 true _ A51.out).mono ?_);rintro e w' ⟨rfl,⟨nd,rfl⟩⟩)|(go_at_call 52;(with_reducible refine (class_within.calls a1_4 64 false _ A53.out).mono ?_);rintro e w' ⟨rfl,⟨nd,rfl⟩⟩))
        go_ret
        exact ⟨by first|rfl|(simp [errW_none,errW_some] <;> rfl)|(simp [*,errW_none,errW_some] <;> rfl),by repeat (first|(with_reducible first|exact HB.out|apply below_alloc|apply pw_below_drewN|apply below_drew1|refine below_set ?_ GE142.out|refine below_set ?_ GE143.out)|exact HB.out)⟩
      ·replace c52:=Bool.eq_false_iff.mpr c52
       subst c52
       have H1:(some false)=some r:=by rw [if_neg (show ¬ (false=true) by decide)] at H;exact H
       clear H
       have H:=H1
       clear H1
       obtain rfl:=Option.some.inj H
       have hnb113:=NB143_142.out
       have hnc113:=NB142_143.out
       have hcz114_0:wr.cell? ⟨gb143,0,none⟩=some (.int .i64 a1_0):=(blk_cell BK143.out 0).trans rfl
       have hcz114_1:wr.cell? ⟨gb143,1,none⟩=some (.int .i64 a1_1):=(blk_cell BK143.out 1).trans rfl
       have hcz114_2:wr.cell? ⟨gb143,2,none⟩=some (.int .i64 a1_2):=(blk_cell BK143.out 2).trans rfl
       have hcz114_3:wr.cell? ⟨gb143,3,none⟩=some (.int .i64 a1_3):=(blk_cell BK143.out 3).trans rfl
       have hcz114_4:wr.cell? ⟨gb143,4,none⟩=some (.int .i64 a1_4):=(blk_cell BK143.out 4).trans rfl
       have hcz114_5:wr.cell? ⟨gb143,5,none⟩=some (.slice A1_5 l1_5.length c1_5):=(blk_cell BK143.out 5).trans rfl
       have hcz114_6:wr.cell? ⟨gb143,6,none⟩=some (.slice A1_6 l1_6.length c1_6):=(blk_cell BK143.out 6).trans rfl
       have hcz114_7:wr.cell? ⟨gb143,7,none⟩=some (.slice A1_7 l1_7.length c1_7):=(blk_cell BK143.out 7).trans rfl
       have hfz114_0:=blk_frozen BK143.out 0
       have hfz114_1:=blk_frozen BK143.out 1
       have hfz114_2:=blk_frozen BK143.out 2
       have hfz114_3:=blk_frozen BK143.out 3
       have hfz114_4:=blk_frozen BK143.out 4
       have hfz114_5:=blk_frozen BK143.out 5
       have hfz114_6:=blk_frozen BK143.out 6
       have hfz114_7:=blk_frozen BK143.out 7
       go_wp2_with (first|((with_reducible refine gate_callee (f:=31) rfl ?_);refine goesL_ (some 58) rfl rfl Tryd.func31 (by kernel_rfl) rfl #[.int .i64 a1_0] rfl (by (try simp only [List.map_toArray,List.map_cons,List.map_nil]);first|done|rfl|(simp only [List.length_drop,List.length_take];rfl)) ?_;(with_reducible refine (class_flags.calls a1_0 true _ A47.out).mono ?_);rintro e w' ⟨rfl,⟨nd,rfl⟩⟩;refine ⟨_,rfl,?_⟩;have hcz115_0:wr.cell? ⟨gb142,0,none⟩=some (.slice A0_0 l0_0.length c0_0):=(blk_cell BK142.out 0).trans rfl;have hfz115_0:=blk_frozen BK142.out 0)|((with_reducible refine gate_dst (N:=65) rfl ?_);(try (refine gate_guard (by rfl) ?_;dsimp only));refine Kd.R_lit (Kd.int .i64) _ 3 ?hg (N:=65) ?hd (xs:=([a1_1,a1_2]:List Int)) (inner:=[.int .i64 a1_1,.int .i64 a1_2]) (ok:=fun _ => True) (okp:=fun _ => True) ?hr ?hp (fun _ hk => hk) trivial (Below.refl _ _) (Nat.le_refl _) (by simp) ?_;(case hd => rfl);(case hg => rfl);(case hr => first|(go_simp;done)|(go_simp;rfl));(case hp => exact (Reps.one (show Kd.M (Kd.int .i64) _ _ _ a1_1 [.int .i64 a1_1] from rfl) (Reps.one (show Kd.M (Kd.int .i64) _ _ _ a1_2 [.int .i64 a1_2] from rfl) (Reps.none _ _))));intro v153 w116 ho117 hb hg_ hnew_;clear hg_ hnew_;(first|rw [← Ny152.out] at ho117|(simp only [Int.reduceToNat] at ho117;rw [← Ny152.out] at ho117));have n0_:=Aside0.mk (Kd.R_lower ho117 (below_size (by repeat (first|(with_reducible first|exact HB.out|apply below_alloc|apply pw_below_drewN|apply below_drew1|refine below_set ?_ GE142.out|refine below_set ?_ GE143.out)|exact HB.out))));have n1_:=Aside0.mk (blk_below (g:=gb142) (o:=.cells #[.slice A0_0 l0_0.length c0_0] 71 (0,0)) (by (with_reducible repeat (first|refine blk_drewN ?_ _|refine blk_drew ?_|refine blk_alloc ?_ _));exact BK142.out) hb);have n2_:=Aside0.mk (blk_below (g:=gb143) (o:=.cells #[.int .i64 a1_0,.int .i64 a1_1,.int .i64 a1_2,.int .i64 a1_3,.int .i64 a1_4,.slice A1_5 l1_5.length c1_5,.slice A1_6 l1_6.length c1_6,.slice A1_7 l1_7.length c1_7] 56 (0,0)) (by (with_reducible repeat (first|refine blk_drewN ?_ _|refine blk_drew ?_|refine blk_alloc ?_ _));exact BK143.out) hb);have n3_:=Aside0.mk (below_step (by repeat (first|(with_reducible first|exact HB.out|apply below_alloc|apply pw_below_drewN|apply below_drew1|refine below_set ?_ GE142.out|refine below_set ?_ GE143.out)|exact HB.out)) hb);clear BK142;clear BK143;clear HB;have HO154:=n0_;have BK142:=n1_;have BK143:=n2_;have HB:=n3_;clear n0_ n1_ n2_ n3_;clear hb ho117;obtain ⟨Ao118,co118,eo118⟩:=Kd.R_slice HO154.out;subst eo118)|(go_at_call 32;(with_reducible refine (class_rules_text.calls k1 _ _ l0_0 _ _ y152 true _ ?side1 ?side2 ?side3 ?side4 A49.out).mono ?_);(case side1 => repeat (first|exact (Kd.C_below HR0_0.out HB.out)|(with_reducible refine Kd.C_alloc ?_ _)|(with_reducible refine Kd.C_drewN ?_ _)|(with_reducible refine Kd.C_drew ?_)));(case side2 => exact HC0_0.out);(case side3 => repeat (first|exact (Kd.R_reads' HO154.out).2.2|(with_reducible refine Kd.C_alloc ?_ _)|(with_reducible refine Kd.C_drewN ?_ _)|(with_reducible refine Kd.C_drew ?_)));(case side4 => exact (Kd.R_reads' HO154.out).2.1);rintro e w119 ⟨rfl,hb⟩;have n0_:=Aside0.mk (Kd.R_below (by (with_reducible repeat (first|apply Kd.R_alloc|apply Kd.R_drewN|apply Kd.R_drew));exact HO154.out) hb);have n1_:=Aside0.mk (blk_below (g:=gb142) (o:=.cells #[.slice A0_0 l0_0.length c0_0] 71 (0,0)) (by (with_reducible repeat (first|refine blk_drewN ?_ _|refine blk_drew ?_|refine blk_alloc ?_ _));exact BK142.out) hb);have n2_:=Aside0.mk (blk_below (g:=gb143) (o:=.cells #[.int .i64 a1_0,.int .i64 a1_1,.int .i64 a1_2,.int .i64 a1_3,.int .i64 a1_4,.slice A1_5 l1_5.length c1_5,.slice A1_6 l1_6.length c1_6,.slice A1_7 l1_7.length c1_7] 56 (0,0)) (by (with_reducible repeat (first|refine blk_drewN ?_ _|refine blk_drew ?_|refine blk_alloc ?_ _));exact BK143.out) hb);have n3_:=Aside0.mk (below_step (by repeat (first|(with_reducible first|exact HB.out|apply below_alloc|apply pw_below_drewN|apply below_drew1|refine below_set ?_ GE142.out|refine below_set ?_ GE143.out)|exact HB.out)) hb);clear HO154;clear BK142;clear BK143;clear HB;have HO154:=n0_;have BK142:=n1_;have BK143:=n2_;have HB:=n3_;clear n0_ n1_ n2_ n3_;(try clear hb);(try clear hb2);(try clear hk);(try clear hi);have hcz120_0:w119.cell? ⟨gb143,0,none⟩=some (.int .i64 a1_0):=(blk_cell BK143.out 0).trans rfl;have hcz120_1:w119.cell? ⟨gb143,1,none⟩=some (.int .i64 a1_1):=(blk_cell BK143.out 1).trans rfl;have hcz120_2:w119.cell? ⟨gb143,2,none⟩=some (.int .i64 a1_2):=(blk_cell BK143.out 2).trans rfl;have hcz120_3:w119.cell? ⟨gb143,3,none⟩=some (.int .i64 a1_3):=(blk_cell BK143.out 3).trans rfl;have hcz120_4:w119.cell? ⟨gb143,4,none⟩=some (.int .i64 a1_4):=(blk_cell BK143.out 4).trans rfl;have hcz120_5:w119.cell? ⟨gb143,5,none⟩=some (.slice A1_5 l1_5.length c1_5):=(blk_cell BK143.out 5).trans rfl;have hcz120_6:w119.cell? ⟨gb143,6,none⟩=some (.slice A1_6 l1_6.length c1_6):=(blk_cell BK143.out 6).trans rfl;have hcz120_7:w119.cell? ⟨gb143,7,none⟩=some (.slice A1_7 l1_7.length c1_7):=(blk_cell BK143.out 7).trans rfl;have hfz120_0:=blk_frozen BK143.out 0;have hfz120_1:=blk_frozen BK143.out 1;have hfz120_2:=blk_frozen BK143.out 2;have hfz120_3:=blk_frozen BK143.out 3;have hfz120_4:=blk_frozen BK143.out 4;have hfz120_5:=blk_frozen BK143.out 5;have hfz120_6:=blk_frozen BK143.out 6;have hfz120_7:=blk_frozen BK143.out 7)|(go_at_call 52;(with_reducible refine (class_within.calls a1_3 64 false _ A51.out).mono ?_);rintro e w' ⟨rfl,⟨nd,rfl⟩⟩))
       go_ret
       exact ⟨by first|rfl|(simp [errW_none,errW_some] <;> rfl)|(simp [*,errW_none,errW_some] <;> rfl),by repeat (first|(with_reducible first|exact HB.out|apply below_alloc|apply pw_below_drewN|apply below_drew1|refine below_set ?_ GE142.out|refine below_set ?_ GE143.out)|exact HB.out)⟩
     ·replace c50:=Bool.eq_false_iff.mpr c50
      subst c50
      have H1:(some false)=some r:=by rw [if_neg (show ¬ (false=true) by decide)] at H;exact H
      clear H
      have H:=H1
      clear H1
      obtain rfl:=Option.some.inj H
      have hnb121:=NB143_142.out
      have hnc121:=NB142_143.out
      have hcz122_0:wr.cell? ⟨gb143,0,none⟩=some (.int .i64 a1_0):=(blk_cell BK143.out 0).trans rfl
      have hcz122_1:wr.cell? ⟨gb143,1,none⟩=some (.int .i64 a1_1):=(blk_cell BK143.out 1).trans rfl
      have hcz122_2:wr.cell? ⟨gb143,2,none⟩=some (.int .i64 a1_2):=(blk_cell BK143.out 2).trans rfl
      have hcz122_3:wr.cell? ⟨gb143,3,none⟩=some (.int .i64 a1_3):=(blk_cell BK143.out 3).trans rfl
      have hcz122_4:wr.cell? ⟨gb143,4,none⟩=some (.int .i64 a1_4):=(blk_cell BK143.out 4).trans rfl
      have hcz122_5:wr.cell? ⟨gb143,5,none⟩=some (.slice A1_5 l1_5.length c1_5):=(blk_cell BK143.out 5).trans rfl
      have hcz122_6:wr.cell? ⟨gb143,6,none⟩=some (.slice A1_6 l1_6.length c1_6):=(blk_cell BK143.out 6).trans rfl
      have hcz122_7:wr.cell? ⟨gb143,7,none⟩=some (.slice A1_7 l1_7.length c1_7):=(blk_cell BK143.out 7).trans rfl
      have hfz122_0:=blk_frozen BK143.out 0
      have hfz122_1:=blk_frozen BK143.out 1
      have hfz122_2:=blk_frozen BK143.out 2
      have hfz122_3:=blk_frozen BK143.out 3
      have hfz122_4:=blk_frozen BK143.out 4
      have hfz122_5:=blk_frozen BK143.out 5
      have hfz122_6:=blk_frozen BK143.out 6
      have hfz122_7:=blk_frozen BK143.out 7
      go_wp2_with (first|((with_reducible refine gate_callee (f:=31) rfl ?_);refine goesL_ (some 58) rfl rfl Tryd.func31 (by kernel_rfl) rfl #[.int .i64 a1_0] rfl (by (try simp only [List.map_toArray,List.map_cons,List.map_nil]);first|done|rfl|(simp only [List.length_drop,List.length_take];rfl)) ?_;(with_reducible refine (class_flags.calls a1_0 true _ A47.out).mono ?_);rintro e w' ⟨rfl,⟨nd,rfl⟩⟩;refine ⟨_,rfl,?_⟩;have hcz123_0:wr.cell? ⟨gb142,0,none⟩=some (.slice A0_0 l0_0.length c0_0):=(blk_cell BK142.out 0).trans rfl;have hfz123_0:=blk_frozen BK142.out 0)|((with_reducible refine gate_dst (N:=65) rfl ?_);(try (refine gate_guard (by rfl) ?_;dsimp only));refine Kd.R_lit (Kd.int .i64) _ 3 ?hg (N:=65) ?hd (xs:=([a1_1,a1_2]:List Int)) (inner:=[.int .i64 a1_1,.int .i64 a1_2]) (ok:=fun _ => True) (okp:=fun _ => True) ?hr ?hp (fun _ hk => hk) trivial (Below.refl _ _) (Nat.le_refl _) (by simp) ?_;(case hd => rfl);(case hg => rfl);(case hr => first|(go_simp;done)|(go_simp;rfl));(case hp => exact (Reps.one (show Kd.M (Kd.int .i64) _ _ _ a1_1 [.int .i64 a1_1] from rfl) (Reps.one (show Kd.M (Kd.int .i64) _ _ _ a1_2 [.int .i64 a1_2] from rfl) (Reps.none _ _))));intro v153 w124 ho125 hb hg_ hnew_;clear hg_ hnew_;(first|rw [← Ny152.out] at ho125|(simp only [Int.reduceToNat] at ho125;rw [← Ny152.out] at ho125));have n0_:=Aside0.mk (Kd.R_lower ho125 (below_size (by repeat (first|(with_reducible first|exact HB.out|apply below_alloc|apply pw_below_drewN|apply below_drew1|refine below_set ?_ GE142.out|refine below_set ?_ GE143.out)|exact HB.out))));have n1_:=Aside0.mk (blk_below (g:=gb142) (o:=.cells #[.slice A0_0 l0_0.length c0_0] 71 (0,0)) (by (with_reducible repeat (first|refine blk_drewN ?_ _|refine blk_drew ?_|refine blk_alloc ?_ _));exact BK142.out) hb);have n2_:=Aside0.mk (blk_below (g:=gb143) (o:=.cells #[.int .i64 a1_0,.int .i64 a1_1,.int .i64 a1_2,.int .i64 a1_3,.int .i64 a1_4,.slice A1_5 l1_5.length c1_5,.slice A1_6 l1_6.length c1_6,.slice A1_7 l1_7.length c1_7] 56 (0,0)) (by (with_reducible repeat (first|refine blk_drewN ?_ _|refine blk_drew ?_|refine blk_alloc ?_ _));exact BK143.out) hb);have n3_:=Aside0.mk (below_step (by repeat (first|(with_reducible first|exact HB.out|apply below_alloc|apply pw_below_drewN|apply below_drew1|refine below_set ?_ GE142.out|refine below_set ?_ GE143.out)|exact HB.out)) hb);clear BK142;clear BK143;clear HB;have HO154:=n0_;have BK142:=n1_;have BK143:=n2_;have HB:=n3_;clear n0_ n1_ n2_ n3_;clear hb ho125;obtain ⟨Ao126,co126,eo126⟩:=Kd.R_slice HO154.out;subst eo126)|(go_at_call 32;(with_reducible refine (class_rules_text.calls k1 _ _ l0_0 _ _ y152 false _ ?side1 ?side2 ?side3 ?side4 A49.out).mono ?_);(case side1 => repeat (first|exact (Kd.C_below HR0_0.out HB.out)|(with_reducible refine Kd.C_alloc ?_ _)|(with_reducible refine Kd.C_drewN ?_ _)|(with_reducible refine Kd.C_drew ?_)));(case side2 => exact HC0_0.out);(case side3 => repeat (first|exact (Kd.R_reads' HO154.out).2.2|(with_reducible refine Kd.C_alloc ?_ _)|(with_reducible refine Kd.C_drewN ?_ _)|(with_reducible refine Kd.C_drew ?_)));(case side4 => exact (Kd.R_reads' HO154.out).2.1);rintro e w127 ⟨rfl,hb⟩;have n0_:=Aside0.mk (Kd.R_below (by (with_reducible repeat (first|apply Kd.R_alloc|apply Kd.R_drewN|apply Kd.R_drew));exact HO154.out) hb);have n1_:=Aside0.mk (blk_below (g:=gb142) (o:=.cells #[.slice A0_0 l0_0.length c0_0] 71 (0,0)) (by (with_reducible repeat (first|refine blk_drewN ?_ _|refine blk_drew ?_|refine blk_alloc ?_ _));exact BK142.out) hb);have n2_:=Aside0.mk (blk_below (g:=gb143) (o:=.cells #[.int .i64 a1_0,.int .i64 a1_1,.int .i64 a1_2,.int .i64 a1_3,.int .i64 a1_4,.slice A1_5 l1_5.length c1_5,.slice A1_6 l1_6.length c1_6,.slice A1_7 l1_7.length c1_7] 56 (0,0)) (by (with_reducible repeat (first|refine blk_drewN ?_ _|refine blk_drew ?_|refine blk_alloc ?_ _));exact BK143.out) hb);have n3_:=Aside0.mk (below_step (by repeat (first|(with_reducible first|exact HB.out|apply below_alloc|apply pw_below_drewN|apply below_drew1|refine below_set ?_ GE142.out|refine below_set ?_ GE143.out)|exact HB.out)) hb);clear HO154;clear BK142;clear BK143;clear HB;have HO154:=n0_;have BK142:=n1_;have BK143:=n2_;have HB:=n3_;clear n0_ n1_ n2_ n3_;(try clear hb);(try clear hb2);(try clear hk);(try clear hi)))
      go_ret
      exact ⟨by first|rfl|(simp [errW_none,errW_some] <;> rfl)|(simp [*,errW_none,errW_some] <;> rfl),by repeat (first|(with_reducible first|exact HB.out|apply below_alloc|apply pw_below_drewN|apply below_drew1|refine below_set ?_ GE142.out|refine below_set ?_ GE143.out)|exact HB.out)⟩
    ·replace c48:=Bool.eq_false_iff.mpr c48
     subst c48
     have H1:(some false)=some r:=by rw [if_neg (show ¬ (false=true) by decide)] at H;exact H
     clear H
     have H:=H1
     clear H1
     obtain rfl:=Option.some.inj H
     have hnb128:=NB143_142.out
     have hnc128:=NB142_143.out
     have hcz129_0:wr.cell? ⟨gb143,0,none⟩=some (.int .i64 a1_0):=(blk_cell BK143.out 0).trans rfl
     have hcz129_1:wr.cell? ⟨gb143,1,none⟩=some (.int .i64 a1_1):=(blk_cell BK143.out 1).trans rfl
     have hcz129_2:wr.cell? ⟨gb143,2,none⟩=some (.int .i64 a1_2):=(blk_cell BK143.out 2).trans rfl
     have hcz129_3:wr.cell? ⟨gb143,3,none⟩=some (.int .i64 a1_3):=(blk_cell BK143.out 3).trans rfl
     have hcz129_4:wr.cell? ⟨gb143,4,none⟩=some (.int .i64 a1_4):=(blk_cell BK143.out 4).trans rfl
     have hcz129_5:wr.cell? ⟨gb143,5,none⟩=some (.slice A1_5 l1_5.length c1_5):=(blk_cell BK143.out 5).trans rfl
     have hcz129_6:wr.cell? ⟨gb143,6,none⟩=some (.slice A1_6 l1_6.length c1_6):=(blk_cell BK143.out 6).trans rfl
     have hcz129_7:wr.cell? ⟨gb143,7,none⟩=some (.slice A1_7 l1_7.length c1_7):=(blk_cell BK143.out 7).trans rfl
     have hfz129_0:=blk_frozen BK143.out 0
     have hfz129_1:=blk_frozen BK143.out 1
     have hfz129_2:=blk_frozen BK143.out 2
     have hfz129_3:=blk_frozen BK143.out 3
     have hfz129_4:=blk_frozen BK143.out 4
     have hfz129_5:=blk_frozen BK143.out 5
     have hfz129_6:=blk_frozen BK143.out 6
     have hfz129_7:=blk_frozen BK143.out 7
     go_wp2_with (first|((with_reducible refine gate_callee (f:=31) rfl ?_);refine goesL_ (some 58) rfl rfl Tryd.func31 (by kernel_rfl) rfl #[.int .i64 a1_0] rfl (by (try simp only [List.map_toArray,List.map_cons,List.map_nil]);first|done|rfl|(simp only [List.length_drop,List.length_take];rfl)) ?_;(with_reducible refine (class_flags.calls a1_0 false _ A47.out).mono ?_);rintro e w' ⟨rfl,⟨nd,rfl⟩⟩;refine ⟨_,rfl,?_⟩))
     go_ret
     exact ⟨by first|rfl|(simp [errW_none,errW_some] <;> rfl)|(simp [*,errW_none,errW_some] <;> rfl),by repeat (first|(with_reducible first|exact HB.out|apply below_alloc|apply pw_below_drewN|apply below_drew1|refine below_set ?_ GE142.out|refine below_set ?_ GE143.out)|exact HB.out)⟩
end Go.Proofs.YtbgniepcoaiinaaDoor.Px
