/- understudyref10.Decode: the maps of any bytes by the document, walked by hand. -/
/- understudylaw10.MapsDecodes: the walk of the law. -/
/- Plain law of wire.Reader: the numbers that bytes make. -/
/- Byte arrays as lists: small laws for the plain laws. -/
/- Plain law of descriptors: what a descriptor's beginning is ('fieldV'), and that the program's and the reference's Field both come to it. -/
/- Plain law of descriptors, the reference's side: its Field comes to 'FieldV', too. -/
/- The reference's Field of a whole text. -/
/- A class's name or an array's descriptor, as a type: the program's Type and the reference's. -/
/- Plain law of maps.Decode: what the bytes of a method's frames come to. -/
/- Plain law of understudyref10.Decode (a reader whose first error stays) against allV (a reader that leaves at the first error). -/
/- The pure statement of MapsDecodes: the frames of any bytes are what the document says. -/
import Derived.Test.YtnihihcopcoabaaM2
import Derived.Deep.DeepCutAuto
import Derived.Deep.CutBlock
import Derived.Test.YtnihihcopcoabaaM1
import Derived.Laws.BitsLemmas
import Derived.Lib.IndexBytes
import Derived.Lib.IndexMore
import Derived.Lib.Strings
namespace Go.Proofs.Ytnihihcopcoabaa.Px
open Go.RowKit Go.Proofs.YtnihihcopcoabaaW.PrintWords Go.Proofs.YtnihihcopcoabaaW.PrintLast Go.Proofs.YtnihihcopcoabaaW.PrintMore
set_option linter.unusedVariables false
set_option linter.unusedSimpArgs false
def xr_head.f (k:Nat) (bs:List Int) (i:Nat) (a p e:Int):Option (Int × Int × Int) :=
 (xr_num.f k bs p e 1).bind fun t => (xr_num.f k bs t.2.1 (badE t.2.2 (t.1 != 255)) 2).bind fun s => some (wrap64 (a + if (0:Int) < i then wrap64 (s.1 + 1) else s.1),s.2.1,s.2.2)
def xr_map.f (k:Nat) (pl:List Cst) (bs:List Int) (a p e:Int):Option (Mp × Int × Int) :=
 (xr_kinds.f k pl bs p e).bind fun l1 => (xr_kinds.f k pl bs l1.2.1 l1.2.2).bind fun l2 => (understudyref10_fresh.f k l1.1).bind fun fr => some (⟨a,⟨l1.1,l2.1,fr⟩⟩,l2.2.1,l2.2.2)
def xr_maps.f (k:Nat) (pl:List Cst) (bs:List Int):Nat→Int→List Mp→Int→Int→Option (List Mp × Int × Int)
 | 0,_,l,p,e => some (l,p,e)
 | m + 1,a,l,p,e => if e=0 then (if l.length≤65536 then (xr_head.f k bs l.length a p e).bind fun h => (xr_map.f k pl bs h.1 h.2.1 (badE h.2.2 (decide (h.1 > 4096)))).bind fun y => xr_maps.f k pl bs m h.1 (l++[y.1]) y.2.1 y.2.2 else none) else some (l,p,e)
def xr_end (bs:List Int) (r:List Mp × Int × Int):List Mp × Int:=if badE r.2.2 (r.2.1 != (bs.length:Int))=0 then (r.1,0) else ([],badE r.2.2 (r.2.1 != (bs.length:Int)))
def understudyref10_Decode.f (k:Nat) (pl:List Cst) (bs:List Int):Option (List Mp × Int) :=
 if bs.length=0 then some ([],0) else (xr_num.f k bs 0 0 2).bind fun n => (xr_maps.f k pl bs n.1.toNat 0 [] n.2.1 n.2.2).bind fun r => some (xr_end bs r)
section
variable {w0 w W W':World} {fb g gr:Nat} {vp:Value} {bs:List Int} {p e p' e':Int}
theorem XlSt.join (h:XlSt w0 w W fb g vp bs p e) (h2:XlSt w0 W W' fb g vp bs p' e'):XlSt w0 w W' fb g vp bs p' e':=h.step h2.C
theorem XlSt.here (h:XlSt w0 w W fb g vp bs p e):XlSt w0 W W fb g vp bs p e:=⟨⟨h.C.1,KeepBut.refl _ _ _⟩,h.C.1.R.lt,h.C.1.lt,h.C.1.bel.size⟩
theorem XlSt.set (h:XlSt w0 w W fb g vp bs p e) {b:Nat} (hb:w.heap.size≤b) (j:Nat) (u:Value):XlSt w0 w (W.setCell ⟨b,j,none⟩ u) fb g vp bs p e:=⟨XkSt.one h.C hb h.lg h.lf h.hw j u,h.lg,h.lf,h.hw⟩
theorem XlSt.blk (h:XlSt w0 w W fb g vp bs p e) (hR:XrPost w0 W fb g vp bs p' e' W') {b:Nat} {o:Obj} (hb:w.heap.size≤b) (hk:W.heap[b]?=some o):W'.heap[b]?=some o:=KeepBut.blkR hR.2 hk (by have:=h.lg;omega) (by have:=h.lf;omega)
theorem xd_start {w Wb:World} {A1:Option Addr} {c1 fb g:Nat} {bs:List Int} {vp:Value} (hWb:Wb=(w.alloc (.cells #[.slice A1 bs.length c1,.int .i64 0] 58 (0,0))).alloc (.cells #[.pointer (some ⟨w.heap.size,0,none⟩),vp,.int .i64 0] 60 (0,0))) (hg:g=w.heap.size) (hfb:fb=w.heap.size + 1) (hC:(Kd.int .u8).C w A1 bs.length bs) (hc:bs.length≤c1):XlSt w Wb Wb fb g vp bs 0 0:=by
 obtain ⟨W1,h1⟩:∃ W1,W1=w.alloc (.cells #[.slice A1 bs.length c1,.int .i64 0] 58 (0,0)):=⟨_,rfl⟩
 rw [← h1,← hg] at hWb
 have s1:W1.heap.size=w.heap.size + 1:=by rw [h1];simp
 have s2:Wb.heap.size=w.heap.size + 1 + 1:=by rw [hWb];simp [s1]
 have b1:Below w.heap.size w W1:=by rw [h1];exact below_alloc (Below.refl _ _) _
 have b2:Below W1.heap.size W1 Wb:=by rw [hWb];exact below_alloc (Below.refl _ _) _
 have k1:W1.heap[g]?=some (.cells #[.slice A1 bs.length c1,.int .i64 0] 58 (0,0)):=by rw [h1,hg];exact blk_new _ _
 have k2:Wb.heap[fb]?=some (.cells #[.pointer (some ⟨g,0,none⟩),vp,.int .i64 0] 60 (0,0)):=by rw [hWb,hfb,← s1];exact blk_new _ _
 have B:=b1.trans (b2.mono b1.size)
 exact ⟨⟨⟨⟨A1,c1,(b2.block _ (by omega)).trans k1,by omega,hC,hc⟩,k2,B,by omega⟩,KeepBut.refl _ _ _⟩,by omega,by omega,B.size⟩
theorem IsXr.cp (h:IsXr w0 w fb g vp bs p e):w.cell? ⟨g,1,none⟩=some (.int .i64 p):=by
 obtain ⟨A0,c0,hb,_⟩:=h.R
 exact (blk_cell hb 1).trans rfl
end
theorem fewer3 {i:Nat} {n:Int} (h:(i:Int) < n) (hn:i≤65536):(n - wrap64 ((i:Int) + 1)).toNat < (n - (i:Int)).toNat:=by
 have e:wrap64 ((i:Int) + 1)=(i:Int) + 1:=by unfold wrap64;omega
 rw [e]
 omega
set_option maxHeartbeats 16000000 in
set_option maxRecDepth 100000 in
theorem understudyref10_Decode.calls (k:Nat) (A0:Option Addr) (c0:Nat) (pl:List Cst) (A1:Option Addr) (c1:Nat) (bs:List Int) (r:List Mp × Int) (w:World) (hP:Kd.C k70 w A0 pl.length pl) (hpc:pl.length≤c0) (hC:(Kd.int .u8).C w A1 bs.length bs) (hc:bs.length≤c1) (h:understudyref10_Decode.f k pl bs=some r) :
  Calls Try.prog 5 #[.slice A0 pl.length c0,.slice A1 bs.length c1] w fun e w' => MdPost w r e w':=by
 have hu:=Try.underlying50
 have hu2:=Try.underlying53
 unfold understudyref10_Decode.f at h
 have HP:=Aside0.mk hP
 have HPC:=Aside0.mk hpc
 have HC:=Aside0.mk hC
 have HCC:=Aside0.mk hc
 clear hP hpc hC hc
 by_cases h0:bs.length=0
 ·rw [if_pos h0] at h
  obtain rfl:=Option.some.inj h
  have hb:((bs.length:Int)==0)=true:=beq_iff_eq.mpr (by omega)
  have hb2:(bs.length==0)=true:=beq_iff_eq.mpr h0
  clear h h0
  go_enter Try.func5,Try.ntmps5
  go_wp2
  go_ret2
  exact ⟨_,rfl,Kd.R_nil _ _ _ _ _,Below.refl _ _⟩
 rw [if_neg h0] at h
 obtain ⟨⟨n,q,en⟩,hn,h⟩:=Option.bind_eq_some_iff.mp h
 dsimp only at h
 obtain ⟨⟨x,px,ex⟩,hx,h⟩:=Option.bind_eq_some_iff.mp h
 have HRR:=Aside0.mk (Option.some.inj h)
 have HN:=Aside0.mk hn
 have HX:=Aside0.mk hx
 have hb:((bs.length:Int)==0)=false:=beq_eq_false_iff_ne.mpr (by omega)
 have hb2:(bs.length==0)=false:=beq_eq_false_iff_ne.mpr h0
 clear h h0 hn hx
 go_enter Try.func5,Try.ntmps5
 go_upto_region 4 with fail
 obtain ⟨Wb,hWb⟩:∃ Wb,Wb=(w.alloc (.cells #[.slice A1 bs.length c1,.int .i64 0] 58 (0,0))).alloc (.cells #[.pointer (some ⟨w.heap.size,0,none⟩),.slice A0 pl.length c0,.int .i64 0] 60 (0,0)):=⟨_,rfl⟩
 obtain ⟨g,hg⟩:∃ g,g=w.heap.size:=⟨_,rfl⟩
 obtain ⟨fb,hfb⟩:∃ fb,fb=w.heap.size + 1:=⟨_,rfl⟩
 rw [← hWb,← hfb]
 have HS:Aside0 (XlSt w Wb Wb fb g (.slice A0 pl.length c0) bs 0 0):=⟨xd_start hWb hg hfb HC.out HCC.out⟩
 clear hWb hg hfb hb hb2
 go_wp2_with fail
 refine (xr_num.calls HS.out.C.1 HN.out).mono ?_
 clear HN
 rintro _ W1 ⟨rfl,hR⟩
 have HS1:=Aside0.mk (HS.out.step hR)
 clear hR HS
 go_upto_block 0 with (fail)
 go_cut [9] (fun v9 wc => Aside0 (∃ A c,v9=.slice A x.length c∧XlSt w Wb wc fb g (.slice A0 pl.length c0) bs px ex∧Kd.R k53 53 wc Wb.heap.size (fun _ => True) (.slice A x.length c) x))
 case first =>
  go_wp2_with fail
  go_loopw [8,9,10] (fun v8 v9 v10 wr => ∃ (a:Int) (A:Option Addr) (l:List Mp) (c:Nat) (q f:Int),v8=.int .i64 a∧v9=.slice A l.length c∧v10=.int .i64 (l.length:Int)∧Aside0 (xr_maps.f k pl bs (n - l.length).toNat a l q f=some (x,px,ex))∧Aside0 (XlSt w Wb wr fb g (.slice A0 pl.length c0) bs q f)∧Aside0 (Kd.R k53 53 wr Wb.heap.size (fun _ => True) (.slice A l.length c) l)) (fun _ _ v10 _ => (n - intOf v10).toNat)
  case atStart => exact ⟨0,none,[],0,q,en,rfl,rfl,rfl,⟨by have:=HX.out;simpa using this⟩,HS1,⟨Kd.R_nil _ _ _ _ _⟩⟩
  case round =>
   obtain ⟨a,A,l,c,q,f,rfl,rfl,rfl,HT,HS,HR⟩:=hrel
   clear HS1 HX
   have cf:=HS.out.C.1.c2
   by_cases hx:(l.length:Int) < n
   ·have hpx:decide ((l.length:Int) < n)=true:=decide_eq_true hx
    obtain ⟨m,hm⟩:∃ m,(n - (l.length:Int)).toNat=m + 1:=⟨(n - (l.length:Int)).toNat - 1,by omega⟩
    have hT:=HT.out
    rw [hm] at hT
    simp only [xr_maps.f] at hT
    by_cases hf:f=0
    ·rw [if_pos hf] at hT
     have hfb:(f==0)=true:=beq_iff_eq.mpr hf
     by_cases hll:l.length≤65536
     case neg => rw [if_neg hll] at hT;cases hT
     rw [if_pos hll] at hT
     obtain ⟨⟨a',q1,f1⟩,hh,hT⟩:=Option.bind_eq_some_iff.mp hT
     dsimp only at hT
     obtain ⟨⟨y,q4,f4⟩,hy,hT⟩:=Option.bind_eq_some_iff.mp hT
     dsimp only at hT
     unfold xr_head.f at hh
     obtain ⟨⟨t,p2,e2⟩,ht,hh⟩:=Option.bind_eq_some_iff.mp hh
     dsimp only at hh
     obtain ⟨⟨s,p3,e3⟩,hs,hh⟩:=Option.bind_eq_some_iff.mp hh
     simp only [Option.some.injEq,Prod.mk.injEq] at hh
     obtain ⟨ha,rfl,rfl⟩:=hh
     obtain ⟨B1,hB1⟩:∃ B,(t != 255)=B:=⟨_,rfl⟩
     rw [hB1] at hs
     obtain ⟨B2,hB2⟩:∃ B,decide (a' > 4096)=B:=⟨_,rfl⟩
     rw [hB2] at hy
     unfold xr_map.f at hy
     obtain ⟨⟨l1,p5,e5⟩,h1,hy⟩:=Option.bind_eq_some_iff.mp hy
     dsimp only at hy
     obtain ⟨⟨l2,p6,e6⟩,h2,hy⟩:=Option.bind_eq_some_iff.mp hy
     dsimp only at hy
     obtain ⟨fr,h3,hy⟩:=Option.bind_eq_some_iff.mp hy
     simp only [Option.some.injEq,Prod.mk.injEq] at hy
     obtain ⟨rfl,rfl,rfl⟩:=hy
     have HA:=Aside0.mk ha
     have HB2:=Aside0.mk hB2
     have HX1:=Aside0.mk ht
     have HX2:=Aside0.mk hs
     have HX3:=Aside0.mk h1
     have HX4:=Aside0.mk h2
     have HX5:=Aside0.mk h3
     have HT2:=Aside0.mk hT
     have HM:=Aside0.mk hm
     have HLT:=Aside0.mk hx
     have HLN:=Aside0.mk hll
     have XN:=Aside0.mk HS.out.here
     clear hT HT hm hx ht hs h1 h2 h3 hf hll ha hB2
     go_wp2_with fail
     clear cf hfb hpx
     refine (xr_num.calls XN.out.C.1 HX1.out).mono ?_
     clear HX1
     rintro _ W2 ⟨rfl,hR⟩
     have X2:=Aside0.mk (XN.out.step hR)
     clear hR XN
     go_wp2_with fail
     clear hB1
     refine (xr_bad.calls _ X2.out.C.1).mono ?_
     rintro _ W3 ⟨rfl,hR⟩
     have X3:=Aside0.mk (X2.out.step hR)
     clear hR X2
     go_wp2_with fail
     refine (xr_num.calls X3.out.C.1 HX2.out).mono ?_
     clear HX2
     rintro _ W4 ⟨rfl,hR⟩
     have X4:=Aside0.mk (X3.out.step hR)
     clear hR X3
     obtain ⟨st,hst⟩:∃ st,(if (0:Int) < l.length then wrap64 (s + 1) else s)=st:=⟨_,rfl⟩
     have HST:=Aside0.mk hst
     have HA2:Aside0 (wrap64 (a + st)=a'):=⟨by rw [HST.out.symm];exact HA.out⟩
     clear HA hst
     obtain ⟨B3,hB3n⟩:∃ B,decide (0 < l.length)=B:=⟨_,rfl⟩
     have hB3:decide ((l.length:Int) > 0)=B3:=by rw [← hB3n];exact decide_eq_decide.mpr (by omega)
     have hB3':decide ((0:Int) < l.length)=B3:=hB3
     go_upto_if 44 with (fail)
     have HB3:=Aside0.mk hB3'
     clear hB3 hB3' hB3n
     go_cut [11] (fun v11 wc => Aside0 (v11=.int .i64 st∧wc=W4))
     case first =>
      cases B3 with
      | true =>
       have hs:=HST.out
       rw [if_pos (of_decide_eq_true HB3.out)] at hs
       subst hs
       go_wp2_with fail
       go_meet
       exact ⟨rfl,rfl⟩
      | false =>
       have hs:=HST.out
       rw [if_neg (of_decide_eq_false HB3.out)] at hs
       subst hs
       go_wp2_with fail
       go_meet
       exact ⟨rfl,rfl⟩
     case rest =>
     obtain ⟨rfl,rfl⟩:=hcut.out
     have ha2:=HA2.out
     have hB2:=HB2.out
     clear hcut HST
     go_wp2_with fail
     clear ha2 hB2
     refine (xr_bad.calls B2 X4.out.C.1).mono ?_
     rintro _ W5 ⟨rfl,hR⟩
     have X5:=Aside0.mk (X4.out.step hR)
     clear hR X4
     go_upto_region 17 with fail
     rw [HA2.out]
     obtain ⟨W6,hW6⟩:∃ W6,W6=W5.alloc (.cells #[.int .i64 a',.slice none 0 0,.slice none 0 0,.bool false] 53 (0,0)):=⟨_,rfl⟩
     obtain ⟨bm,hbm⟩:∃ bm,bm=W5.heap.size:=⟨_,rfl⟩
     rw [← hW6,← hbm]
     have hb6:Below W5.heap.size W5 W6:=by rw [hW6];exact below_alloc (Below.refl _ _) _
     have HK6:=Aside0.mk (show W6.heap[bm]?=some (.cells #[.int .i64 a',.slice none 0 0,.slice none 0 0,.bool false] 53 (0,0)) from by rw [hW6,hbm];exact blk_new _ _)
     have HBM:=Aside0.mk (Nat.le_trans X5.out.C.2.1 (Nat.le_of_eq hbm.symm))
     have X6:=Aside0.mk (X5.out.new hb6)
     clear hW6 hbm hb6 X5
     go_wp2_with fail
     refine (xr_kinds.calls X6.out.C.1 HP.out HPC.out HX3.out).mono ?_
     clear HX3
     rintro _ W7 ⟨v1,rfl,hR1,hR⟩
     have X7:=Aside0.mk (X6.out.step hR)
     have HK7:=Aside0.mk (X6.out.blk hR HBM.out HK6.out)
     have Y1:=Aside0.mk (Kd.R_lower hR1 (Nat.le_trans HS.out.C.2.1 X6.out.C.2.1))
     clear hR1 hR X6 HK6
     obtain ⟨A7,c7,hv7⟩:=Kd.R_slice Y1.out
     subst hv7
     have d1:=(blk_cell HK7.out 1).trans rfl
     have f1:=blk_frozen HK7.out 1
     go_upto_region 18 with fail
     obtain ⟨W8,hW8⟩:∃ W8,W8=W7.setCell ⟨bm,1,none⟩ (.slice A7 l1.length c7):=⟨_,rfl⟩
     have X8:=Aside0.mk (X7.out.set HBM.out 1 (.slice A7 l1.length c7))
     have HK8:=Aside0.mk (blk_put (cs':=#[.int .i64 a',.slice A7 l1.length c7,.slice none 0 0,.bool false]) HK7.out 1 (.slice A7 l1.length c7) rfl)
     have Y8:=Aside0.mk (Kd.R_set Y1.out HK7.out (by decide) 1 (.slice A7 l1.length c7))
     rw [← hW8] at X8 HK8 Y8
     rw [← hW8]
     clear hW8 X7 HK7 Y1 d1 f1
     go_wp2_with fail
     refine (xr_kinds.calls X8.out.C.1 HP.out HPC.out HX4.out).mono ?_
     clear HX4
     rintro _ W9 ⟨v2,rfl,hR2,hR⟩
     have X9:=Aside0.mk (X8.out.step hR)
     have HK9:=Aside0.mk (X8.out.blk hR HBM.out HK8.out)
     have Y9:=Aside0.mk (kb_R2 hR.2 Y8.out HS.out.lg HS.out.lf)
     have Z9:=Aside0.mk (Kd.R_lower hR2 (Nat.le_trans HS.out.C.2.1 X8.out.C.2.1))
     clear hR2 hR X8 HK8 Y8
     obtain ⟨A9,c9,hv9⟩:=Kd.R_slice Z9.out
     subst hv9
     have d2:=(blk_cell HK9.out 2).trans rfl
     have f2:=blk_frozen HK9.out 2
     go_upto_region 19 with fail
     obtain ⟨Wx,hWx⟩:∃ Wx,Wx=W9.setCell ⟨bm,2,none⟩ (.slice A9 l2.length c9):=⟨_,rfl⟩
     have X10:=Aside0.mk (X9.out.set HBM.out 2 (.slice A9 l2.length c9))
     have HK10:=Aside0.mk (blk_put (cs':=#[.int .i64 a',.slice A7 l1.length c7,.slice A9 l2.length c9,.bool false]) HK9.out 2 (.slice A9 l2.length c9) rfl)
     have Y10:=Aside0.mk (Kd.R_set Y9.out HK9.out (by decide) 2 (.slice A9 l2.length c9))
     have Z10:=Aside0.mk (Kd.R_set Z9.out HK9.out (by decide) 2 (.slice A9 l2.length c9))
     rw [← hWx] at X10 HK10 Y10 Z10
     rw [← hWx]
     clear hWx X9 HK9 Y9 Z9 d2 f2
     have d1:=(blk_cell HK10.out 1).trans rfl
     go_wp2_with fail
     obtain ⟨_,z5,hz5,hl5,hC5⟩:=Kd.R_reads Y10.out
     injection hz5 with hz5 _ hy5
     subst hz5 hy5
     refine (understudyref10_fresh.calls k _ _ l1 fr Wx hC5 hl5 HX5.out).mono ?_
     rintro _ Wy ⟨rfl,⟨⟨nd,rfl⟩⟩⟩
     have hb11:Below Wx.heap.size Wx (Wx.drewN nd):=pw_below_drewN (Below.refl _ _) nd
     have X11:=Aside0.mk (X10.out.new hb11)
     have HK11:=Aside0.mk ((hb11.block _ (blk_lt HK10.out)).trans HK10.out)
     have Y11:=Aside0.mk (Kd.R_below Y10.out hb11)
     have Z11:=Aside0.mk (Kd.R_below Z10.out hb11)
     obtain ⟨Wy,hWy⟩:∃ Wy,Wy=Wx.drewN nd:=⟨_,rfl⟩
     rw [← hWy] at X11 HK11 Y11 Z11
     rw [← hWy]
     clear hWy hb11 hC5 hl5 HX5 X10 HK10 Y10 Z10 d1
     have d3:=(blk_cell HK11.out 3).trans rfl
     have f3:=blk_frozen HK11.out 3
     go_upto_region 20 with fail
     obtain ⟨Wz,hWz⟩:∃ Wz,Wz=Wy.setCell ⟨bm,3,none⟩ (.bool fr):=⟨_,rfl⟩
     have X12:=Aside0.mk (X11.out.set HBM.out 3 (.bool fr))
     have HK12:=Aside0.mk (blk_put (cs':=#[.int .i64 a',.slice A7 l1.length c7,.slice A9 l2.length c9,.bool fr]) HK11.out 3 (.bool fr) rfl)
     have Y12:=Aside0.mk (Kd.R_set Y11.out HK11.out (by decide) 3 (.bool fr))
     have Z12:=Aside0.mk (Kd.R_set Z11.out HK11.out (by decide) 3 (.bool fr))
     rw [← hWz] at X12 HK12 Y12 Z12
     rw [← hWz]
     clear hWz X11 HK11 Y11 Z11 d3 f3
     have Q12:=Aside0.mk (kb_R2 X12.out.C.2 HR.out HS.out.lg HS.out.lf)
     have HN:=Aside0.mk (Nat.le_trans HS.out.C.2.1 X12.out.C.2.1)
     have d0:=(blk_cell HK12.out 0).trans rfl
     have d1:=(blk_cell HK12.out 1).trans rfl
     have d2:=(blk_cell HK12.out 2).trans rfl
     have d3:=(blk_cell HK12.out 3).trans rfl
     go_wp2_with (at_builtin;refine Kd.R_append k53 (w0:=Wz) Wb.heap.size rfl (.tmp 70) (.tmp 72) 24 53 (.agg #[(.int .i64 0),(.slice none 0 0),(.slice none 0 0),(.bool false)]) 64 rfl Try.underlying24 info53 rfl (by decide) (by omega) (.slice A l.length c) l (⟨a',⟨l1,l2,fr⟩⟩:Mp) [.int .i64 a',.slice _ l1.length _,.slice _ l2.length _,.bool fr] (fun _ => True) (fun k_ => True∧some k_ ≠ (Value.slice A l.length c).ownBlock) rfl rfl (k53_mkM _ _ _ (⟨a',⟨l1,l2,fr⟩⟩:Mp) (Kd.R_apartR Y12.out Q12.out (by decide)) (Kd.R_apartR Z12.out Q12.out (by decide))) (fun _ hk => hk) (fun _ _ => trivial) Q12.out (Below.refl _ _) HN.out ?aL ?_)
     case aL => have:=HLN.out;omega
     intro v1 w5 hR5 hB5 hg5 ho5
     obtain ⟨A5,c5,hv5⟩:=Kd.R_slice hR5
     simp only [List.length_append,List.length_singleton] at hv5
     subst hv5
     have HSe:=Aside0.mk ((HS.out.join X12.out).grown Q12.out (by decide) (Nat.le_refl _) hB5 hg5)
     have HQe:=Aside0.mk hR5
     clear hR5 hB5 hg5 ho5 d0 d1 d2 d3 Y12 Z12 Q12 X12 HK12 HBM
     go_wp2
     go_roundw
     case measure => rw [intOf_int,intOf_int];exact fewer3 HLT.out HLN.out
     case rel =>
      have hx:=HLT.out
      have hn:=HLN.out
      have hm:=HM.out
      refine ⟨a',A5,l++[⟨a',⟨l1,l2,fr⟩⟩],c5,_,_,rfl,?_,congrArg (Value.int .i64) (by rw [List.length_append,List.length_singleton];unfold wrap64;omega),⟨?_⟩,HSe,?_⟩
      ·rw [List.length_append,List.length_singleton]
      ·rw [List.length_append,List.length_singleton,show (n - ((l.length + 1:Nat):Int)).toNat=m from by omega]
       exact HT2.out
      ·rw [List.length_append,List.length_singleton];exact HQe
    ·rw [if_neg hf] at hT
     have hfb:(f==0)=false:=beq_eq_false_iff_ne.mpr hf
     simp only [Option.some.injEq,Prod.mk.injEq] at hT
     obtain ⟨rfl,rfl,rfl⟩:=hT
     clear HT hx hf hm
     go_wp2_with fail
     go_meet
     exact ⟨_,_,rfl,HS.out,HR.out⟩
   ·have hpx:decide ((l.length:Int) < n)=false:=decide_eq_false hx
    have hT:=HT.out
    rw [show (n - (l.length:Int)).toNat=0 from by omega] at hT
    simp only [xr_maps.f,Option.some.injEq,Prod.mk.injEq] at hT
    obtain ⟨rfl,rfl,rfl⟩:=hT
    clear HT hx
    go_wp2_with fail
    go_meet
    exact ⟨_,_,rfl,HS.out,HR.out⟩
 case rest =>
 clear HS1 HX
 obtain ⟨A,c,rfl,hs,hr⟩:=hcut.out
 have HS:=Aside0.mk hs
 have HR:=Aside0.mk hr
 clear hcut hs hr
 have c0:=HS.out.C.1.c0
 have cp:=HS.out.C.1.cp
 obtain ⟨B,hB⟩:∃ B,(px != (bs.length:Int))=B:=⟨_,rfl⟩
 have hrr:=HRR.out
 unfold xr_end at hrr
 dsimp only at hrr
 rw [hB] at hrr
 have HR2:=Aside0.mk hrr
 clear hrr HRR
 go_wp2_with fail
 clear c0 cp hB
 refine (xr_bad.calls B HS.out.C.1).mono ?_
 rintro _ W6 ⟨rfl,hR⟩
 have HS6:=Aside0.mk (HS.out.step hR)
 have HR6:=Aside0.mk (kb_R2 hR.2 HR.out HS.out.lg HS.out.lf)
 have HN:=Aside0.mk HS.out.hw
 clear hR HS HR
 have hrr:=HR2.out
 clear HR2
 generalize badE ex B=e6 at HS6 hrr
 have c2:=HS6.out.C.1.c2
 by_cases he:e6=0
 ·rw [if_pos he] at hrr
  subst hrr
  subst he
  have hb:((0:Int) != 0)=false:=rfl
  go_wp2
  go_ret2
  exact ⟨_,rfl,Kd.R_lower HR6.out HN.out,HS6.out.C.1.bel⟩
 ·rw [if_neg he] at hrr
  subst hrr
  have hb:(e6 != 0)=true:=bne_iff_ne.mpr he
  clear he
  go_wp2
  clear c2 hb
  have HW:=Aside0.mk (HS6.out.new (below_drew (Below.refl _ _)))
  have cw:=HW.out.C.1.c2
  refine start_ (n:=6) (S:=fun w' => w'.cell? ⟨fb,2,none⟩=some (.int .i64 e6)) (ds:=[]) #[false,false,false,false,false,false] (by kernel_rfl) rfl rfl (cw) (fun hHeld => ?_)
  refine pure_ (i:=0) (N:=some 91) (v:=?_) (a':=?_) #[true,false,false,false,false,false] rfl rfl (by kernel_rfl) (fun _ _ _ h => h) (Or.inl ⟨by rfl,?_⟩) ?_ ?_
  rotate_left
  ·intro w'
   go_simp
   with_reducible rfl
  rotate_left
  ·simp only [Act.put,List.setIfInBounds_toArray,List.set_cons_zero,List.set_cons_succ,i64_w,i32_w]
   rfl
  refine pure_ (i:=1) (N:=some 92) (v:=?_) (a':=?_) #[true,true,false,false,false,false] rfl rfl (by kernel_rfl) (fun _ _ _ h => h) (Or.inl ⟨by rfl,?_⟩) ?_ ?_
  rotate_left
  ·intro w'
   go_simp
   with_reducible rfl
  rotate_left
  ·simp only [Act.put,List.setIfInBounds_toArray,List.set_cons_zero,List.set_cons_succ,i64_w,i32_w]
   rfl
  refine pure_ (i:=2) (N:=some 93) (v:=?_) (a':=?_) #[true,true,true,false,false,false] rfl rfl (by kernel_rfl) (fun _ _ _ h => h) (Or.inl ⟨by rfl,?_⟩) ?_ ?_
  rotate_left
  ·intro w'
   go_simp
   with_reducible rfl
  rotate_left
  ·simp only [Act.put,List.setIfInBounds_toArray,List.set_cons_zero,List.set_cons_succ,i64_w,i32_w]
   rfl
  refine pure_ (i:=4) (N:=some 4) (v:=?_) (a':=?_) #[true,true,true,false,true,false] rfl rfl (by kernel_rfl) (fun _ _ _ h => h) (Or.inl ⟨by rfl,?_⟩) ?_ ?_
  rotate_left
  ·intro w'
   go_simp
   with_reducible rfl
  rotate_left
  ·simp only [Act.put,List.setIfInBounds_toArray,List.set_cons_zero,List.set_cons_succ,i64_w,i32_w]
   rfl
  refine take_ (i:=3) (N:=some 94) (v:=?_) (a':=?_) #[true,true,true,true,true,false] rfl rfl (by kernel_rfl) (fun _ _ _ h => h) (Or.inl ⟨by rfl,?_⟩) hHeld ?_ ?_
  rotate_left
  ·intro w' s0
   go_simp
   with_reducible rfl
  rotate_left
  ·simp only [Act.put,List.setIfInBounds_toArray,List.set_cons_zero,List.set_cons_succ,i64_w,i32_w]
   rfl
  refine pure_ (i:=5) (N:=some 5) (v:=?_) (a':=?_) #[true,true,true,true,true,true] rfl rfl (by kernel_rfl) (fun _ _ _ h => h) (Or.inl ⟨by rfl,?_⟩) ?_ ?_
  rotate_left
  ·intro w'
   go_simp
   with_reducible rfl
  rotate_left
  ·simp only [Act.put,List.setIfInBounds_toArray,List.set_cons_zero,List.set_cons_succ,i64_w,i32_w]
   rfl
  refine done_ (by kernel_rfl) ?_
  clear hHeld cw
  go_wp2
  go_ret2
  exact ⟨_,rfl,Kd.R_nil _ _ _ _ _,HW.out.C.1.bel⟩
end Go.Proofs.Ytnihihcopcoabaa.Px
namespace Go.Proofs.Ytnihihcopcoabaa.Px
open Go.RowKit Go.Proofs.YtnihihcopcoabaaW.PrintWords Go.Proofs.YtnihihcopcoabaaW.PrintLast Go.Proofs.YtnihihcopcoabaaW.PrintMore
attribute [local go_sem] max2_int min2_int max_two min_two max_three min_three max_four min_four
set_option linter.unusedVariables false
set_option linter.unusedSimpArgs false
def understudylaw10_awake.f (k:Nat) :Option (Bool):=(maps_Type.f k (⟨#[65]⟩:ByteArray)).bind fun bt200 => (if bt200.2.2.2.2.2=true then (if bt200.1=4 then (some (bt200.2.1.toList==([65]:List UInt8))) else (some false)) else (some false))
set_option maxHeartbeats 80000000 in
set_option maxRecDepth 100000 in
theorem understudylaw10_awake.calls (k:Nat)  (r:Bool) (w:World) (hG:Aside0 (GG w)) (h:understudylaw10_awake.f k =some r) :
  Calls Try.prog 7 #[] w fun e w' => e=.returned (.bool r)∧Below w.heap.size w w':=by
 have hu41:=Try.underlying41
 have HB:=Aside0.mk (Below.refl w.heap.size w)
 have H:((maps_Type.f k (⟨#[65]⟩:ByteArray)).bind fun bt200 => (if bt200.2.2.2.2.2=true then (if bt200.1=4 then (some (bt200.2.1.toList==([65]:List UInt8))) else (some false)) else (some false)))=some r:=h
 clear h
 replace H:=Option.bind_eq_some_iff.mp H
 obtain ⟨⟨t200,t201,t202,t203,t204,t205⟩,A10,H⟩:=H
 try dsimp only at H
 have A1:=Aside0.mk A10
 clear A10
 by_cases c2:t205=true
 ·subst c2
  rw [if_pos rfl] at H
  by_cases c3:t200=4
  ·rw [if_pos c3] at H
   have c3b0:(t200==4)=true:=beq_iff_eq.mpr c3
   have c3b1:(t200 != 4)=false:=bne_eq_false_iff_eq.mpr c3
   clear c3
   obtain rfl:=Option.some.inj H
   go_enter Try.func7,Try.ntmps7
   go_wp2_with (first|(refine callA_ (f:=15) (some 4) Try.func15 #[.string (⟨#[65]⟩:ByteArray)] ?_;(with_reducible refine (maps_Type.calls k (⟨#[65]⟩:ByteArray) t200 t201 t202 t203 t204 true _ ?side1 A1.out).mono ?_);(case side1 => exact ⟨GG.below hG.out bl_⟩);rintro e w4 ⟨rfl,hb⟩;refine ⟨_,rfl,?_⟩;have n0_:=Aside0.mk (below_step bl_ hb);clear HB;have HB:=n0_;clear n0_;(try clear hb);(try clear hb2);(try clear hk);(try clear hi))|((with_reducible refine gate_dst (N:=1) rfl ?_);refine box_event ?hg (N:=1) ?hd (cs:=#[.int .i64 0,.string (⟨#[]⟩:ByteArray),.int .i64 0,.int .i64 0,.int .i64 0]) (t:=41) ?hr ?_;(case hd => rfl);(case hg => rfl);(case hr => first|(go_simp;done)|(go_simp;rfl));intro gb206 hg w5 hbox hb;have n0_:=Aside0.mk (below_step bl_ hb);have n1_:=Aside0.mk (hbox);have n2_:=Aside0.mk ((by rw [hg];exact (below_size bl_):w.heap.size≤gb206));have n3_:=Aside0.mk ((by rw [hg];exact (below_size bl_):w.heap.size≤gb206));clear HB;have HB:=n0_;have BK206:=n1_;have GW206:=n2_;have GE206:=n3_;clear n0_ n1_ n2_ n3_;clear hb hbox hg;obtain ⟨hcz6_0,hcz6_1,hcz6_2,hcz6_3,hcz6_4,hfz6_0,hfz6_1,hfz6_2,hfz6_3,hfz6_4⟩:=blk5_ BK206.out)|((with_reducible refine gate_store (t:=41) (p:=1) rfl ?_);refine store_event (t:=41) (p:=1) (v:=?vo_w7) (w1:=(((((w5.setCell ⟨gb206,0,none⟩ (.int .i64 t200)).setCell ⟨gb206,1,none⟩ (.string t201)).setCell ⟨gb206,2,none⟩ (.int .i64 t202)).setCell ⟨gb206,3,none⟩ (.int .i64 t203)).setCell ⟨gb206,4,none⟩ (.int .i64 t204))) ?hg ?ho ?hn ?hr ?_;(case ho => rfl);(case hg => rfl);(case hn => rfl);(case hr => first|(go_simp;done)|(go_simp;rfl));intro w7 hw;have n0_:Aside0 (w7.heap[gb206]?=some (.cells #[.int .i64 t200,.string t201,.int .i64 t202,.int .i64 t203,.int .i64 t204] 41 (0,0))):=⟨(by rw [hw];exact (st5_ BK206.out))⟩;have n1_:Aside0 (Below w.heap.size w w7):=⟨(by rw [hw];exact bl_)⟩;clear hw;clear BK206;clear HB;have BK206:=n0_;have HB:=n1_;clear n0_ n1_;obtain ⟨hcz8_0,hcz8_1,hcz8_2,hcz8_3,hcz8_4,hfz8_0,hfz8_1,hfz8_2,hfz8_3,hfz8_4⟩:=blk5_ BK206.out))
   go_ret
   exact ⟨ew_,bl_⟩
  ·rw [if_neg c3] at H
   have c3b0:(t200==4)=false:=beq_eq_false_iff_ne.mpr c3
   have c3b1:(t200 != 4)=true:=bne_iff_ne.mpr c3
   obtain rfl:=Option.some.inj H
   go_enter Try.func7,Try.ntmps7
   go_wp2_with (first|(refine callA_ (f:=15) (some 4) Try.func15 #[.string (⟨#[65]⟩:ByteArray)] ?_;(with_reducible refine (maps_Type.calls k (⟨#[65]⟩:ByteArray) t200 t201 t202 t203 t204 true _ ?side1 A1.out).mono ?_);(case side1 => exact ⟨GG.below hG.out bl_⟩);rintro e w9 ⟨rfl,hb⟩;refine ⟨_,rfl,?_⟩;have n0_:=Aside0.mk (below_step bl_ hb);clear HB;have HB:=n0_;clear n0_;(try clear hb);(try clear hb2);(try clear hk);(try clear hi))|((with_reducible refine gate_dst (N:=1) rfl ?_);refine box_event ?hg (N:=1) ?hd (cs:=#[.int .i64 0,.string (⟨#[]⟩:ByteArray),.int .i64 0,.int .i64 0,.int .i64 0]) (t:=41) ?hr ?_;(case hd => rfl);(case hg => rfl);(case hr => first|(go_simp;done)|(go_simp;rfl));intro gb206 hg w10 hbox hb;have n0_:=Aside0.mk (below_step bl_ hb);have n1_:=Aside0.mk (hbox);have n2_:=Aside0.mk ((by rw [hg];exact (below_size bl_):w.heap.size≤gb206));have n3_:=Aside0.mk ((by rw [hg];exact (below_size bl_):w.heap.size≤gb206));clear HB;have HB:=n0_;have BK206:=n1_;have GW206:=n2_;have GE206:=n3_;clear n0_ n1_ n2_ n3_;clear hb hbox hg;obtain ⟨hcz11_0,hcz11_1,hcz11_2,hcz11_3,hcz11_4,hfz11_0,hfz11_1,hfz11_2,hfz11_3,hfz11_4⟩:=blk5_ BK206.out)|((with_reducible refine gate_store (t:=41) (p:=1) rfl ?_);refine store_event (t:=41) (p:=1) (v:=?vo_w12) (w1:=(((((w10.setCell ⟨gb206,0,none⟩ (.int .i64 t200)).setCell ⟨gb206,1,none⟩ (.string t201)).setCell ⟨gb206,2,none⟩ (.int .i64 t202)).setCell ⟨gb206,3,none⟩ (.int .i64 t203)).setCell ⟨gb206,4,none⟩ (.int .i64 t204))) ?hg ?ho ?hn ?hr ?_;(case ho => rfl);(case hg => rfl);(case hn => rfl);(case hr => first|(go_simp;done)|(go_simp;rfl));intro w12 hw;have n0_:Aside0 (w12.heap[gb206]?=some (.cells #[.int .i64 t200,.string t201,.int .i64 t202,.int .i64 t203,.int .i64 t204] 41 (0,0))):=⟨(by rw [hw];exact (st5_ BK206.out))⟩;have n1_:Aside0 (Below w.heap.size w w12):=⟨(by rw [hw];exact bl_)⟩;clear hw;clear BK206;clear HB;have BK206:=n0_;have HB:=n1_;clear n0_ n1_;obtain ⟨hcz13_0,hcz13_1,hcz13_2,hcz13_3,hcz13_4,hfz13_0,hfz13_1,hfz13_2,hfz13_3,hfz13_4⟩:=blk5_ BK206.out))
   go_ret
   exact ⟨ew_,bl_⟩
 ·replace c2:=Bool.eq_false_iff.mpr c2
  subst c2
  rw [if_neg (show ¬ (false=true) by decide)] at H
  obtain rfl:=Option.some.inj H
  go_enter Try.func7,Try.ntmps7
  go_wp2_with (first|(refine callA_ (f:=15) (some 4) Try.func15 #[.string (⟨#[65]⟩:ByteArray)] ?_;(with_reducible refine (maps_Type.calls k (⟨#[65]⟩:ByteArray) t200 t201 t202 t203 t204 false _ ?side1 A1.out).mono ?_);(case side1 => exact ⟨GG.below hG.out bl_⟩);rintro e w14 ⟨rfl,hb⟩;refine ⟨_,rfl,?_⟩;have n0_:=Aside0.mk (below_step bl_ hb);clear HB;have HB:=n0_;clear n0_;(try clear hb);(try clear hb2);(try clear hk);(try clear hi))|((with_reducible refine gate_dst (N:=1) rfl ?_);refine box_event ?hg (N:=1) ?hd (cs:=#[.int .i64 0,.string (⟨#[]⟩:ByteArray),.int .i64 0,.int .i64 0,.int .i64 0]) (t:=41) ?hr ?_;(case hd => rfl);(case hg => rfl);(case hr => first|(go_simp;done)|(go_simp;rfl));intro gb206 hg w15 hbox hb;have n0_:=Aside0.mk (below_step bl_ hb);have n1_:=Aside0.mk (hbox);have n2_:=Aside0.mk ((by rw [hg];exact (below_size bl_):w.heap.size≤gb206));have n3_:=Aside0.mk ((by rw [hg];exact (below_size bl_):w.heap.size≤gb206));clear HB;have HB:=n0_;have BK206:=n1_;have GW206:=n2_;have GE206:=n3_;clear n0_ n1_ n2_ n3_;clear hb hbox hg;obtain ⟨hcz16_0,hcz16_1,hcz16_2,hcz16_3,hcz16_4,hfz16_0,hfz16_1,hfz16_2,hfz16_3,hfz16_4⟩:=blk5_ BK206.out)|((with_reducible refine gate_store (t:=41) (p:=1) rfl ?_);refine store_event (t:=41) (p:=1) (v:=?vo_w17) (w1:=(((((w15.setCell ⟨gb206,0,none⟩ (.int .i64 t200)).setCell ⟨gb206,1,none⟩ (.string t201)).setCell ⟨gb206,2,none⟩ (.int .i64 t202)).setCell ⟨gb206,3,none⟩ (.int .i64 t203)).setCell ⟨gb206,4,none⟩ (.int .i64 t204))) ?hg ?ho ?hn ?hr ?_;(case ho => rfl);(case hg => rfl);(case hn => rfl);(case hr => first|(go_simp;done)|(go_simp;rfl));intro w17 hw;have n0_:Aside0 (w17.heap[gb206]?=some (.cells #[.int .i64 t200,.string t201,.int .i64 t202,.int .i64 t203,.int .i64 t204] 41 (0,0))):=⟨(by rw [hw];exact (st5_ BK206.out))⟩;have n1_:Aside0 (Below w.heap.size w w17):=⟨(by rw [hw];exact bl_)⟩;clear hw;clear BK206;clear HB;have BK206:=n0_;have HB:=n1_;clear n0_ n1_))
  go_ret
  exact ⟨ew_,bl_⟩
end Go.Proofs.Ytnihihcopcoabaa.Px
namespace Go.Proofs.Ytnihihcopcoabaa.Px
open Go.RowKit Go.Proofs.YtnihihcopcoabaaW.PrintWords Go.Proofs.YtnihihcopcoabaaW.PrintLast Go.Proofs.YtnihihcopcoabaaW.PrintMore
set_option linter.unusedVariables false
set_option linter.unusedSimpArgs false
def MapsDecodesOk (k:Nat) (pl:List Cst) (bs:List Int):Prop :=
 ∃ (l:List Mp) (e:Int),maps_Decode.f k pl bs=some (l,e)∧understudyref10_Decode.f k pl bs=some (l,e)∧bs.length≤1048576∧l.length≤1048576∧(∀ m ∈ l,m.f1.f0.length≤1048576∧m.f1.f1.length≤1048576)∧understudylaw10_awake.f k=some true
open Classical in
noncomputable def understudylaw10_MapsDecodes.f (k:Nat) (pl:List Cst) (bs:List Int):Option Bool:=if MapsDecodesOk k pl bs then some true else none
set_option maxHeartbeats 80000000 in
set_option maxRecDepth 100000 in
theorem maps_decodes.ok {k:Nat} {A0 A1:Option Addr} {c0 c1:Nat} {pl:List Cst} {bs:List Int} {w:World} (hG:Aside0 (GG w)) (hP:Kd.C k70 w A0 pl.length pl) (hpc:pl.length≤c0) (hr0:(Kd.int .u8).C w A1 bs.length bs) (hc0:bs.length≤c1) (h:MapsDecodesOk k pl bs) :
  Calls Try.prog 3 #[.slice A0 pl.length c0,.slice A1 bs.length c1] w fun e w' => e=.returned (.bool true)∧Below w.heap.size w w':=by
 obtain ⟨l,e,hD,hF,hl,h1,h2,hA⟩:=h
 have HP:=Aside0.mk hP
 have HPC:=Aside0.mk hpc
 have HR0:=Aside0.mk hr0
 have HC0:=Aside0.mk hc0
 have HD:=Aside0.mk hD
 have HF:=Aside0.mk hF
 have HAW:=Aside0.mk hA
 have HL:=Aside0.mk hl
 have HL1:=Aside0.mk h1
 have HL2:=Aside0.mk h2
 clear hP hpc hr0 hc0 hD hF hA hl h1 h2
 go_enter Try.func3,Try.ntmps3
 go_wp2_with (first
  | ((with_reducible refine gate_dst (N:=11) rfl ?_);refine Kd.R_lit (w0:=w) (Kd.int .u8) w.heap.size 5 ?hg (N:=11) ?hd (xs:=([]:List Int)) (inner:=[]) (ok:=fun _ => True) (okp:=fun _ => True) ?hr ?hp (fun _ hk => hk) trivial (Below.refl _ _) (Nat.le_refl _) (by simp) ?_;(case hd => rfl);(case hg => rfl);(case hr => first|(go_simp;done)|(go_simp;rfl));(case hp => exact (Reps.none _ _));intro v26 w26 ho26 hb26 _ _;have HO26:=Aside0.mk ho26;have HB26:=Aside0.mk hb26;clear ho26 hb26)
  | ((with_reducible refine gate_builtin (b:=.append) (xs:=#[.tmp 11,.tmp 12]) rfl ?_);at_builtin;refine Kd.R_append_rows (Kd.int .u8) (w0:=w) w.heap.size rfl (.tmp 11) (.tmp 12) 23 5 (.int .u8 0) 1 rfl Try.underlying23 info5 rfl (by decide) (by omega) v26 [] bs _ _ _ (fun _ => True) (fun _ => False) rfl rfl HO26.out (Kd.C_below HR0.out HB26.out) (fun _ _ h => h) (fun _ h => h.elim) (fun _ _ => trivial) HB26.out HB26.out.size ?aL ?_;(case aL => have:=HL.out;simp only [List.length_nil];omega);intro v28 w28 ho28 hb28 _ _;obtain ⟨Am,cm,hv29,hcm,hCm⟩:=Kd.R_reads ho28;subst hv29;have HO29:=Aside0.mk hCm;have HC29:=Aside0.mk hcm;have HB29:=Aside0.mk hb28;clear ho28 hb28 hcm hCm)
  | fail)
 have e9:([]++bs)=bs:=rfl
 (try rw [e9] at HO29)
 (try rw [e9] at HC29)
 refine (maps_Decode.calls k A0 c0 pl Am cm bs _ w28 ⟨GG.below hG.out HB29.out⟩ (Kd.C_below HP.out HB29.out) HPC.out HO29.out HC29.out HD.out).mono ?_
 rintro e1 W1 ⟨v0,rfl,r0,hb1⟩
 obtain ⟨X0,x0,rfl,hx0,hX0⟩:=Kd.R_reads r0
 have HB1:=Aside0.mk (HB29.out.trans (hb1.mono HB29.out.size))
 have HX0:=Aside0.mk hX0
 clear r0 hb1 hx0 hX0 HB29 HB26 HO26 HO29 HC29 HD e9
 go_wp2_with fail
 refine (understudyref10_Decode.calls k A0 c0 pl A1 c1 bs _ W1 (Kd.C_below HP.out HB1.out) HPC.out (Kd.C_below HR0.out HB1.out) HC0.out HF.out).mono ?_
 rintro e1 W4 ⟨v0,rfl,r0,hb4⟩
 obtain ⟨Y0,y0,rfl,hx0,hY0⟩:=Kd.R_reads r0
 have HB4:=Aside0.mk (HB1.out.trans (hb4.mono HB1.out.size))
 have HX4:=Aside0.mk (Kd.C_below HX0.out hb4)
 have HY4:=Aside0.mk hY0
 clear r0 hb4 hx0 hY0 HB1 HX0 HF
 have hee:(e==e)=true:=beq_iff_eq.mpr rfl
 go_wp2_with fail
 refine (msame_eq.calls HX4.out HY4.out HL1.out HL2.out).mono ?_
 rintro e1 W7 ⟨rfl,hb7⟩
 have HB7:=Aside0.mk (HB4.out.trans (hb7.mono HB4.out.size))
 clear hb7 HB4 HX4 HY4
 go_wp2_with fail
 refine (understudylaw10_awake.calls k true W7 ⟨GG.below hG.out HB7.out⟩ HAW.out).mono ?_
 rintro e1 W8 ⟨rfl,hb8⟩
 have HB8:=Aside0.mk (HB7.out.trans (hb8.mono HB7.out.size))
 clear hb8
 go_wp2
 go_ret
 exact ⟨rfl,HB8.out⟩
theorem understudylaw10_MapsDecodes.calls (k:Nat) (A0:Option Addr) (c0:Nat) (l0:List Cst) (A1:Option Addr) (c1:Nat) (l1:List Int) (r:Bool) (w:World) (hG:Aside0 (GG w)) (hr0:Kd.C k70 w A0 l0.length l0) (hc0:l0.length≤c0) (hr1:(Kd.int .u8).C w A1 l1.length l1) (hc1:l1.length≤c1) (h:understudylaw10_MapsDecodes.f k l0 l1=some r) :
  Calls Try.prog 3 #[.slice A0 l0.length c0,.slice A1 l1.length c1] w fun e w' => e=.returned (.bool r)∧Below w.heap.size w w':=by
 unfold understudylaw10_MapsDecodes.f at h
 split at h
 ·rename_i hk
  obtain rfl:=Option.some.inj h
  exact maps_decodes.ok hG hr0 hc0 hr1 hc1 hk
 ·cases h
end Go.Proofs.Ytnihihcopcoabaa.Px
namespace Go.Proofs.Ytnihihcopcoabaa.Px
open Go.RowKit Go.Proofs.YtnihihcopcoabaaW.PrintWords Go.Proofs.YtnihihcopcoabaaW.PrintLast Go.Proofs.YtnihihcopcoabaaW.PrintMore
set_option linter.unusedVariables false
set_option linter.unusedSimpArgs false
def IsBytes (l:List Int):Prop:=∀ x ∈ l,0≤x∧x < 256
theorem IsBytes.nil:IsBytes []:=fun x hx => by cases hx
theorem rd_byte {L:List Int} (h:IsBytes L) (i:Int):0≤rd L i∧rd L i < 256:=by
 unfold rd
 rw [List.getD_eq_getElem?_getD]
 cases e:L[i.toNat]? with
 | none => simp
 | some x => simpa using h x (List.mem_of_getElem? e)
theorem IsBytes.take {L:List Int} (h:IsBytes L) (n:Nat):IsBytes (L.take n):=fun x hx => h x (List.mem_of_mem_take hx)
theorem IsBytes.drop {L:List Int} (h:IsBytes L) (n:Nat):IsBytes (L.drop n):=fun x hx => h x (List.mem_of_mem_drop hx)
theorem bytes_of_wf {l:List Int} (h:∀ x ∈ l,(Lit.int .u8 x).wf=true):IsBytes l:=by
 intro x hx
 have h1:=h x hx
 simp [Lit.wf,IntKind.min,IntKind.max,IntKind.bits,IntKind.signed] at h1
 omega
def beV (l:List Int):Int:=l.foldl (fun x c => x * 256 + c) 0
theorem beV_snoc (l:List Int) (c:Int):beV (l++[c])=beV l * 256 + c:=by simp [beV]
theorem beV_range (l:List Int) (h:IsBytes l):0≤beV l∧beV l < 256 ^ l.length:=by
 have key:∀ n (l:List Int),l.length=n→IsBytes l→0≤beV l∧beV l < 256 ^ l.length:=by
  intro n
  induction n with
  | zero => intro l hl _;obtain rfl:=List.eq_nil_of_length_eq_zero hl;exact ⟨by decide,by decide⟩
  | succ n ih =>
   intro l hl hb
   obtain ⟨l',c,rfl⟩:∃ l' c,l=l'++[c]:=⟨l.dropLast,l.getLast (by intro e;rw [e] at hl;simp at hl),(List.dropLast_concat_getLast _).symm⟩
   have hc:=hb c (by simp)
   have h1:=ih l' (by simp at hl;exact hl) (fun x hx => hb x (by simp [hx]))
   rw [beV_snoc,List.length_append,List.length_singleton,Int.pow_succ]
   omega
 exact key _ l rfl h
theorem pow256 {i:Nat} (h:i≤7):(256:Int) ^ i≤72057594037927936:=by
 obtain rfl|rfl|rfl|rfl|rfl|rfl|rfl|rfl:i=0 ∨ i=1 ∨ i=2 ∨ i=3 ∨ i=4 ∨ i=5 ∨ i=6 ∨ i=7:=by omega
 all_goals decide
theorem wraps_u64 (n:Int) (h0:0≤n) (h1:n < 2 ^ 64):IntKind.u64.wrap n=n:=by
 simp [IntKind.wrap,IntKind.bits,IntKind.signed]
 omega
theorem or_u64 {y c:Int} (h0:0≤y) (h1:y < 18446744073709551616) (hm:y % 256=0) (c0:0≤c) (c1:c < 256):bits .or .u64 y c=y + c :=
 bits_join .u64 64 (by decide) wraps_u64 8 y c h0 hm h1 c0 c1 (by omega)
theorem rd_take {l:List Int} {i:Nat} (h:i < l.length):l.take (i + 1)=l.take i++[rd l (i:Int)]:=by
 rw [List.take_succ_eq_append_getElem h]
 congr 1
 unfold rd
 rw [Int.toNat_natCast,List.getD_eq_getElem?_getD,List.getElem?_eq_getElem h]
 rfl
theorem gather_u64.ev_l (l:List Int) (hb:IsBytes l) (h8:l.length≤8):∀ n (i:Nat),l.length≤i + n→i≤l.length→Ev (fun k => wire_gather_uint64.l0 k (beV (l.take i)) l (l.length:Int) (i:Int)) (beV l):=by
 have stop:∀ i:Nat,i=l.length→Ev (fun k => wire_gather_uint64.l0 k (beV (l.take i)) l (l.length:Int) (i:Int)) (beV l):=by
  intro i hi
  refine Ev.step (f:=fun _ => some (beV (l.take i))) (fun k => by simp only [wire_gather_uint64.l0];rw [if_neg (by omega)]) ?_
  rw [hi,List.take_length]
  exact Ev.now _
 intro n
 induction n with
 | zero => intro i h hi;exact stop i (by omega)
 | succ n ih =>
  intro i h hi
  by_cases hlt:i < l.length
  ·have hA:l.length≤i + 1 + n:=by omega
   have hB:i + 1≤l.length:=by omega
   have hC:(i:Int) < (l.length:Int):=by omega
   have hD:(0:Int)≤(i:Int):=by omega
   have hr:=beV_range (l.take i) (hb.take i)
   rw [List.length_take,Nat.min_eq_left (by omega)] at hr
   have hp:=pow256 (i:=i) (by omega)
   have hc:=rd_byte hb (i:Int)
   have e1:IntKind.u64.wrap (beV (l.take i) * 256)=beV (l.take i) * 256:=wraps_u64 _ (by omega) (by omega)
   have e2:IntKind.u64.wrap (rd l (i:Int))=rd l (i:Int):=wraps_u64 _ hc.1 (by omega)
   have e3:bits .or .u64 (beV (l.take i) * 256) (rd l (i:Int))=beV (l.take (i + 1)):=by
    rw [or_u64 (by omega) (by omega) (by omega) hc.1 hc.2,rd_take hlt,beV_snoc]
   have e4:wrap64 ((i:Int) + 1)=((i + 1:Nat):Int):=by unfold wrap64;omega
   refine Ev.step (f:=fun k => wire_gather_uint64.l0 k (beV (l.take (i + 1))) l (l.length:Int) ((i + 1:Nat):Int)) (fun k => ?_) (ih (i + 1) hA hB)
   simp only [wire_gather_uint64.l0]
   rw [if_pos hC,if_pos hD,if_pos hC,e1,e2,e3,e4]
  ·exact stop i (by omega)
theorem gather_u64.ev (l:List Int) (hb:IsBytes l) (h8:l.length≤8):Ev (fun k => wire_gather_uint64.f k l 0) (beV l):=gather_u64.ev_l l hb h8 l.length 0 (by omega) (by omega)
theorem rdL_bytes {bs:List Int} (h:IsBytes bs) (p n:Nat):IsBytes (rdL bs p n):=by
 unfold rdL
 split
 ·exact (h.take _).drop _
 ·intro x hx;cases hx
theorem rdL_le (bs:List Int) (p n:Nat):(rdL bs p n).length≤n:=by
 unfold rdL
 split
 ·rw [List.length_drop,List.length_take];omega
 ·exact Nat.zero_le _
theorem uint.ev (bs:List Int) (hb:IsBytes bs) (p n:Nat) (h8:n≤8):Ev (fun k => rd_Uint.f k bs p n) (beV (rdL bs p n),rdE bs p n,rdP bs p n):=by
 have:=rdL_le bs p n
 exact Ev.bind (gather_u64.ev _ (rdL_bytes hb p n) (by omega)) (Ev.now _)
end Go.Proofs.Ytnihihcopcoabaa.Px
namespace Go.Proofs.Ytnihihcopcoabaa.Px
open Go.RowKit Go.Proofs.YtnihihcopcoabaaW.PrintWords Go.Proofs.YtnihihcopcoabaaW.PrintLast Go.Proofs.YtnihihcopcoabaaW.PrintMore
set_option linter.unusedVariables false
abbrev BA (l:List UInt8):ByteArray:=⟨l.toArray⟩
theorem BA_eta (s:ByteArray):BA s.data.toList=s:=by obtain ⟨⟨l⟩⟩:=s;rfl
theorem BA_data (l:List UInt8):(BA l).data.toList=l:=rfl
theorem BA_list (l:List UInt8):(BA l).toList=l:=by rw [Lib.toList_data]
theorem BA_size (l:List UInt8):(BA l).size=l.length:=by rw [Lib.size_eq]
theorem BA_ext (l:List UInt8) (a b:Nat):(BA l).extract a b=BA ((l.drop a).take (b - a)):=Lib.extract_eq _ _ _
theorem BA_drop (l:List UInt8) (a:Nat):(BA l).extract a (BA l).size=BA (l.drop a):=by
 rw [BA_ext,BA_size,List.take_of_length_le (by rw [List.length_drop];exact Nat.le_refl _)]
theorem BA_append (a b:List UInt8):BA a++BA b=BA (a++b):=by
 have h:(BA a++BA b).data.toList=a++b:=by simp [BA]
 rw [← BA_eta (BA a++BA b),h]
theorem bt_BA (l:List UInt8) (i:Nat) (h:i < l.length):bt (BA l) (i:Int)=((l[i]).toNat:Int):=by
 have h1:(i:Int).toNat < (BA l).size:=by rw [BA_size];omega
 rw [← bt_at _ _ h1]
 rfl
theorem bt_BA0 (c:UInt8) (t:List UInt8):bt (BA (c :: t)) 0=(c.toNat:Int):=bt_BA (c :: t) 0 (by simp)
theorem w64n (n m:Nat) (h:n + m≤9223372036854775807):wrap64 ((n:Int) + (m:Int))=((n + m:Nat):Int):=by unfold wrap64;omega
theorem w64s (n:Nat) (h:n < 9223372036854775807):wrap64 ((n:Int) + 1)=((n + 1:Nat):Int):=by unfold wrap64;omega
theorem u8_int (c:UInt8) (n:Nat) (h:n < 256):((c.toNat:Int)=(n:Int)) ↔ c=n.toUInt8:=by
 constructor
 ·intro e
  have e':c.toNat=n:=by omega
  exact UInt8.toNat.inj (by rw [e'];simp;omega)
 ·intro e
  subst e
  simp
  omega
theorem take_until (p:UInt8→Bool):∀ l:List UInt8,l.take (l.takeWhile p).length=l.takeWhile p
 | [] => rfl
 | c :: t => by
  rw [List.takeWhile_cons]
  split
  ·rw [List.length_cons,List.take_succ_cons,take_until p t]
  ·rfl
theorem drop_until (p:UInt8→Bool):∀ l:List UInt8,l.drop (l.takeWhile p).length=l.dropWhile p
 | [] => rfl
 | c :: t => by
  rw [List.takeWhile_cons,List.dropWhile_cons]
  split
  ·rw [List.length_cons,List.drop_succ_cons,drop_until p t]
  ·rfl
theorem index_until (b:UInt8):∀ l:List UInt8,Lib.indexByte l b=if b ∈ l then ((l.takeWhile (· != b)).length:Int) else -1
 | [] => rfl
 | c :: t => by
  unfold Lib.indexByte
  rw [index_until b t,List.takeWhile_cons]
  by_cases h:c=b
  ·subst h;simp
  ·have h1:(c==b)=false:=by simpa using h
   have h2:(c != b)=true:=by simpa using h
   have h3:b ∈ c :: t ↔ b ∈ t:=by
    rw [List.mem_cons]
    exact ⟨fun e => e.resolve_left (fun e => h e.symm),.inr⟩
   rw [h1,h2]
   by_cases hm:b ∈ t
   ·simp only [hm,h3,if_true,if_false,Bool.false_eq_true]
    rw [if_neg (by simp)]
    simp
   ·simp [hm,h3]
theorem cut_until (b:UInt8) (l:List UInt8):Lib.cut l [b]=if b ∈ l then (l.takeWhile (· != b),(l.dropWhile (· != b)).drop 1,true) else (l,[],false):=by
 unfold Lib.cut
 rw [Lib.index_one,index_until]
 by_cases h:b ∈ l
 ·rw [if_pos h,if_pos h,if_pos (by omega)]
  simp only [Int.toNat_natCast,List.length_singleton]
  rw [take_until,← List.drop_drop,drop_until]
 ·rw [if_neg h,if_neg h,if_neg (by omega)]
end Go.Proofs.Ytnihihcopcoabaa.Px
namespace Go.Proofs.Ytnihihcopcoabaa.Px
open Go.RowKit Go.Proofs.YtnihihcopcoabaaW.PrintWords Go.Proofs.YtnihihcopcoabaaW.PrintLast Go.Proofs.YtnihihcopcoabaaW.PrintMore
set_option linter.unusedVariables false
set_option linter.unusedSimpArgs false
def badC (c:UInt8):Bool:=c==46 || c==59 || c==91 || c==47 || c==60 || c==62
def plainV (l:List UInt8):Bool:=!l.any badC && !l.isEmpty && decide (l.length≤256)
theorem badC_iff (c:UInt8):badC c=true ↔ ((c.toNat:Int)=46 ∨ (c.toNat:Int)=59 ∨ (c.toNat:Int)=91 ∨ (c.toNat:Int)=47 ∨ (c.toNat:Int)=60 ∨ (c.toNat:Int)=62):=by
 unfold badC
 simp only [Bool.or_eq_true,beq_iff_eq,← UInt8.toNat_inj,UInt8.reduceToNat]
 omega
theorem badC_if {α:Type} (c:UInt8) (x y:Option α):(if (c.toNat:Int)=46 then x else if (c.toNat:Int)=59 then x else if (c.toNat:Int)=91 then x else if (c.toNat:Int)=47 then x else if (c.toNat:Int)=60 then x else if (c.toNat:Int)=62 then x else y)=if badC c=true then x else y:=by
 by_cases h:badC c=true
 ·rw [if_pos h]
  rw [badC_iff] at h
  by_cases h1:(c.toNat:Int)=46
  ·rw [if_pos h1]
  rw [if_neg h1]
  by_cases h2:(c.toNat:Int)=59
  ·rw [if_pos h2]
  rw [if_neg h2]
  by_cases h3:(c.toNat:Int)=91
  ·rw [if_pos h3]
  rw [if_neg h3]
  by_cases h4:(c.toNat:Int)=47
  ·rw [if_pos h4]
  rw [if_neg h4]
  by_cases h5:(c.toNat:Int)=60
  ·rw [if_pos h5]
  rw [if_neg h5]
  by_cases h6:(c.toNat:Int)=62
  ·rw [if_pos h6]
  omega
 ·rw [if_neg h]
  rw [badC_iff] at h
  rw [if_neg (by omega),if_neg (by omega),if_neg (by omega),if_neg (by omega),if_neg (by omega),if_neg (by omega)]
theorem kind_plain.ev_l (l:List UInt8) (hl:l.length≤4294967280):∀ n i,l.length - i≤n→i≤l.length→Ev (fun k => kind_plain.l0 k (BA l) (l.length:Int) (i:Int)) (!(l.drop i).any badC && !l.isEmpty && decide (l.length≤256)):=by
 intro n
 induction n with
 | zero =>
  intro i h1 h2
  have e:i=l.length:=by omega
  subst e
  refine Ev.step (f:=fun _ => some (!l.isEmpty && decide (l.length≤256))) (fun k => ?_) (by rw [List.drop_length];exact Ev.now _)
  simp only [kind_plain.l0]
  rw [if_neg (by omega),BA_list,BA_size]
  cases l with
  | nil => rfl
  | cons c t =>
   rw [if_neg (by simp)]
   simp only [List.isEmpty_cons,Bool.not_false,Bool.true_and]
   exact congrArg some (decide_eq_decide.2 (by omega))
 | succ n ih =>
  intro i h1 h2
  by_cases hi:i < l.length
  ·have hd:l.drop i=l[i] :: l.drop (i + 1):=List.drop_eq_getElem_cons hi
   refine Ev.step (f:=fun k => if badC l[i]=true then some false else kind_plain.l0 k (BA l) (l.length:Int) ((i + 1:Nat):Int)) (fun k => ?_) ?_
   ·simp only [kind_plain.l0]
    rw [if_pos (by omega),if_pos (by omega),if_pos (by rw [BA_size];omega),bt_BA l i hi,badC_if,w64s i (by omega)]
   ·rw [hd,List.any_cons]
    by_cases hb:badC l[i]=true
    ·simp only [hb,if_true,Bool.true_or,Bool.not_true,Bool.false_and];exact Ev.now _
    ·simp only [hb,if_false,Bool.false_or,Bool.false_eq_true];exact ih (i + 1) (by omega) (by omega)
  ·exact ih i (by omega) (by omega)
theorem kind_plain.ev (l:List UInt8) (hl:l.length≤4294967280):Ev (fun k => kind_plain.f k (BA l)) (plainV l):=by
 have h:=kind_plain.ev_l l hl l.length 0 (by omega) (by omega)
 unfold kind_plain.f plainV
 rw [BA_size]
 exact h
abbrev Ty:Type:=Int × ByteArray × Int × Int × Int
def tyV (d:Nat) (K:Int) (nm:ByteArray):Ty:=if d > 0 then (5,nm,d,K,0) else (K,nm,0,0,0)
def restV (d:Nat):List UInt8→Option (Ty × List UInt8)
 | [] => none
 | c :: t =>
  if d > 4 then none
  else if c=73 then some (tyV d 1 (BA []),t)
  else if c=74 then some (tyV d 2 (BA []),t)
  else if c=76 then (if (59:UInt8) ∈ t∧plainV (t.takeWhile (· != 59))=true then some (tyV d 4 (BA (t.takeWhile (· != 59))),(t.dropWhile (· != 59)).drop 1) else none)
  else none
def nb (l:List UInt8):Nat:=(l.takeWhile (·==91)).length
def fieldV (l:List UInt8):Option (Ty × List UInt8):=restV (nb l) (l.drop (nb l))
def FieldV (l:List UInt8):Ty × Int:=match fieldV l with|some (t,[]) => (t,0)|_ => ((0,BA [],0,0,0),80)
theorem nb_cons (c:UInt8) (t:List UInt8):nb (c :: t)=if c=91 then nb t + 1 else 0:=by
 unfold nb
 rw [List.takeWhile_cons]
 by_cases h:c=91
 ·simp [h]
 ·simp [h]
theorem nb_le (l:List UInt8):nb l≤l.length:=by
 unfold nb
 exact (List.takeWhile_prefix _).length_le
theorem kind_left.eq (l:List UInt8) (a:Nat) (h:a≤l.length):kind_scan_left.f (BA l) (a:Int)=some (BA (l.drop a),BA l,(a:Int)):=by
 unfold kind_scan_left.f
 rw [if_pos (by omega),if_pos (by rw [BA_size];omega),Int.toNat_natCast,BA_drop]
theorem hasPrefix1.eq (l:List UInt8) (b:UInt8):strings_HasPrefix.f (BA l) (BA [b])=some (l.head?==some b):=by
 unfold strings_HasPrefix.f stringslite_HasPrefix.f
 rw [BA_size,BA_size]
 cases l with
 | nil => rfl
 | cons c t =>
  rw [if_pos (by simp only [List.length_cons,List.length_nil];omega),if_pos (by simp only [List.length_cons,List.length_nil];omega),if_pos (by simp only [List.length_cons,List.length_nil];omega)]
  simp only [Option.bind_some,List.length_singleton]
  congr 1
  rw [show ((((1:Nat):Int):Int).toNat)=1 from rfl,BA_ext,BA_list,BA_list]
  simp
def kAns (l:List UInt8) (a:Nat):Option (Ty × List UInt8)→Int × ByteArray × Int × Int × Int × Bool × ByteArray × Int
 | none => (0,BA [],0,0,0,false,BA l,(a:Int))
 | some (t,u) => (t.1,t.2.1,t.2.2.1,t.2.2.2.1,t.2.2.2.2,true,BA l,((l.length - u.length:Nat):Int))
theorem tyV_if {α:Type} (d:Nat) (K:Int) (nm:ByteArray) (f:Ty→α):(if (d:Int) > 0 then f (5,nm,(d:Int),K,0) else f (K,nm,0,0,0))=f (tyV d K nm):=by
 unfold tyV
 by_cases h:d > 0
 ·rw [if_pos h,if_pos (by omega)]
 ·rw [if_neg h,if_neg (by omega)]
theorem takeWhile_len (p:UInt8→Bool) (l:List UInt8):(l.takeWhile p).length≤l.length:=(List.takeWhile_prefix _).length_le
theorem until_ne:∀ t:List UInt8,(59:UInt8) ∈ t→(t.dropWhile (· != 59)).length ≠ 0
 | [],h => by cases h
 | c :: t,h => by
  rw [List.dropWhile_cons]
  by_cases hc:c=59
  ·subst hc;simp
  ·have h1:(c != 59)=true:=by simpa using hc
   rw [if_pos h1]
   exact until_ne t ((List.mem_cons.1 h).resolve_left (fun e => hc e.symm))
theorem until_len (t:List UInt8) (h:(59:UInt8) ∈ t):(t.takeWhile (· != 59)).length + 1 + ((t.dropWhile (· != 59)).drop 1).length=t.length:=by
 have h1:(t.takeWhile (· != 59)).length + (t.dropWhile (· != 59)).length=t.length:=by
  rw [← List.length_append,List.takeWhile_append_dropWhile]
 have h2:=until_ne t h
 rw [List.length_drop]
 omega
theorem kind_j2.ev (l:List UInt8) (hl:l.length≤4294967280) (a:Nat) (ha:a≤l.length) (d:Nat) (h:l.drop a ≠ []) (hd:d≤4) :
  Ev (fun k => kind_scan_field.j2 k (d:Int) false (BA l) (a:Int)) (kAns l a (restV d (l.drop a))):=by
 obtain ⟨c,t,e⟩:∃ c t,l.drop a=c :: t:=by
  cases hh:l.drop a with
  | nil => exact absurd hh h
  | cons c t => exact ⟨c,t,rfl⟩
 have hlen:l.length - a=t.length + 1:=by have:=congrArg List.length e;rw [List.length_drop] at this;simpa using this
 have hj:∀ k,kind_scan_field.j2 (k + 1) (d:Int) false (BA l) (a:Int)=(if (c.toNat:Int)=73 then some (kAns l a (some (tyV d 1 (BA []),t))) else if (c.toNat:Int)=74 then some (kAns l a (some (tyV d 2 (BA []),t))) else if (c.toNat:Int)=76 then (strings_Cut.f (BA t) (BA [59])).bind fun q => (if q.2.2=true then ((kind_plain.f k q.1).bind fun t182 => (kind_scan_field.j3 k d q.1 (!t182) (BA l) a 0 (BA []) 0 0 0)) else (kind_scan_field.j3 k d q.1 true (BA l) a 0 (BA []) 0 0 0)) else some (kAns l a none)):=by
  intro k
  simp only [kind_scan_field.j2]
  rw [if_neg (by simp),kind_left.eq l a ha,Option.bind_some,e]
  dsimp only
  rw [if_pos (by rw [BA_size,List.length_cons];omega),bt_BA0]
  have ea:((l.length - t.length:Nat):Int)=wrap64 ((a:Int) + 1):=by rw [w64s a (by omega)];omega
  have e1:=tyV_if d 1 (BA []) (fun T => some (kAns l a (some (T,t))))
  have e2:=tyV_if d 2 (BA []) (fun T => some (kAns l a (some (T,t))))
  rw [← e1,← e2]
  simp only [kAns,ea]
  rw [kind_left.eq l a ha,Option.bind_some,e]
  dsimp only
  rw [if_pos (c:=1≤_) (by rw [BA_size,List.length_cons];omega),BA_drop]
  rfl
 have hcut:strings_Cut.f (BA t) (BA [59])=some (if (59:UInt8) ∈ t then (BA (t.takeWhile (· != 59)),BA ((t.dropWhile (· != 59)).drop 1),true) else (BA t,BA [],false)):=by
  unfold strings_Cut.f
  rw [if_pos (by rw [BA_size];omega)]
  simp only [BA_data]
  rw [cut_until]
  by_cases hm:(59:UInt8) ∈ t
  ·rw [if_pos hm,if_pos hm]
  ·rw [if_neg hm,if_neg hm]
 refine Ev.step (f:=fun k => if (c.toNat:Int)=73 then some (kAns l a (some (tyV d 1 (BA []),t))) else if (c.toNat:Int)=74 then some (kAns l a (some (tyV d 2 (BA []),t))) else if (c.toNat:Int)=76 then (strings_Cut.f (BA t) (BA [59])).bind fun q => (if q.2.2=true then ((kind_plain.f k q.1).bind fun t182 => (kind_scan_field.j3 k d q.1 (!t182) (BA l) a 0 (BA []) 0 0 0)) else (kind_scan_field.j3 k d q.1 true (BA l) a 0 (BA []) 0 0 0)) else some (kAns l a none)) hj ?_
 rw [e]
 unfold restV
 simp only [if_neg (show ¬ d > 4 by omega)]
 by_cases c1:c=73
 ·subst c1
  simp only [if_true,show (((73:UInt8).toNat:Int)=73) from rfl]
  exact Ev.now _
 have c1':¬ (c.toNat:Int)=73:=fun h => c1 ((u8_int c 73 (by decide)).1 h)
 simp only [if_neg c1,if_neg c1']
 by_cases c2:c=74
 ·subst c2
  simp only [if_true,show (((74:UInt8).toNat:Int)=74) from rfl]
  exact Ev.now _
 have c2':¬ (c.toNat:Int)=74:=fun h => c2 ((u8_int c 74 (by decide)).1 h)
 simp only [if_neg c2,if_neg c2']
 by_cases c3:c=76
 ·subst c3
  simp only [if_true,show (((76:UInt8).toNat:Int)=76) from rfl,hcut,Option.bind_some]
  by_cases hm:(59:UInt8) ∈ t
  ·simp only [if_pos hm,hm,true_and,if_true]
   have hu:=until_len t hm
   have ht:=takeWhile_len (· != 59) t
   refine Ev.bind (kind_plain.ev _ (by omega)) ?_
   by_cases hp:plainV (t.takeWhile (· != 59))=true
   ·simp only [hp,Bool.not_true,if_true]
    have e4:=tyV_if d 4 (BA (t.takeWhile (· != 59))) (fun T => some (kAns l a (some (T,(t.dropWhile (· != 59)).drop 1))))
    have ea:((l.length - ((t.dropWhile (· != 59)).drop 1).length:Nat):Int)=wrap64 ((wrap64 ((a:Int) + (wrap64 (((BA (t.takeWhile (· != 59))).size:Int) + 1)))) + 1):=by
     rw [BA_size,w64s _ (by omega),w64n _ _ (by omega),w64s _ (by omega)]
     omega
    refine Ev.step (f:=fun _ => some (kAns l a (some (tyV d 4 (BA (t.takeWhile (· != 59))),(t.dropWhile (· != 59)).drop 1)))) (fun k => ?_) (Ev.now _)
    rw [← e4]
    simp only [kind_scan_field.j3,kAns,ea]
    simp
   ·simp only [hp,if_false,Bool.false_eq_true]
    refine Ev.step (f:=fun _ => some (kAns l a none)) (fun k => ?_) (Ev.now _)
    simp [kind_scan_field.j3,kAns]
  ·simp only [if_neg hm,hm,false_and,if_false,Bool.false_eq_true]
   refine Ev.step (f:=fun _ => some (kAns l a none)) (fun k => ?_) (Ev.now _)
   simp [kind_scan_field.j3,kAns]
 have c3':¬ (c.toNat:Int)=76:=fun h => c3 ((u8_int c 76 (by decide)).1 h)
 simp only [if_neg c3,if_neg c3']
 exact Ev.now _
theorem kind_j1.ev (l:List UInt8) (hl:l.length≤4294967280) (a:Nat) (ha:a≤l.length) (d:Nat) :
  Ev (fun k => kind_scan_field.j1 k (d:Int) (BA l) (a:Int)) (kAns l a (restV d (l.drop a))):=by
 refine Ev.step (f:=fun k => if l.drop a=[] then kind_scan_field.j2 k (d:Int) true (BA l) (a:Int) else kind_scan_field.j2 k (d:Int) (decide ((d:Int) > 4)) (BA l) (a:Int)) (fun k => ?_) ?_
 ·simp only [kind_scan_field.j1]
  rw [kind_left.eq l a ha,Option.bind_some]
  simp only [BA_list]
 ·have hbad:Ev (fun k => kind_scan_field.j2 k (d:Int) true (BA l) (a:Int)) (kAns l a none):=by
   refine Ev.step (f:=fun _ => some (kAns l a none)) (fun k => ?_) (Ev.now _)
   simp [kind_scan_field.j2,kAns]
  by_cases h:l.drop a=[]
  ·simp only [h,if_true,restV];exact hbad
  ·simp only [if_neg h]
   by_cases hd:d≤4
   ·rw [show decide ((d:Int) > 4)=false from decide_eq_false (by omega)]
    exact kind_j2.ev l hl a ha d h hd
   ·rw [show decide ((d:Int) > 4)=true from decide_eq_true (by omega)]
    rw [show restV d (l.drop a)=none by cases l.drop a with|nil => rfl|cons c t => exact if_pos (by omega)]
    exact hbad
theorem kind_l0.ev (l:List UInt8) (hl:l.length≤4294967280):∀ n a i d,nb (l.drop a)=n→i≤a→a≤l.length→d≤a →
  Ev (fun k => kind_scan_field.l0 k (d:Int) (l.length:Int) (i:Int) (BA l) (a:Int)) (kAns l (a + n) (restV (d + n) (l.drop (a + n)))):=by
 intro n
 induction n with
 | zero =>
  intro a i d hn hi ha hd
  by_cases h:(i:Int) < (l.length:Int)
  ·refine Ev.step (f:=fun k => kind_scan_field.j1 k (d:Int) (BA l) (a:Int)) (fun k => ?_) (kind_j1.ev l hl a ha d)
   simp only [kind_scan_field.l0]
   rw [if_pos h,kind_left.eq l a ha,Option.bind_some,hasPrefix1.eq,Option.bind_some,if_neg]
   intro hh
   cases e:l.drop a with
   | nil => rw [e] at hh;simp at hh
   | cons c t =>
    rw [e,nb_cons] at hn
    rw [e] at hh
    simp at hh
    rw [if_pos hh] at hn
    omega
  ·refine Ev.step (f:=fun k => kind_scan_field.j1 k (d:Int) (BA l) (a:Int)) (fun k => ?_) (kind_j1.ev l hl a ha d)
   simp only [kind_scan_field.l0]
   rw [if_neg h]
 | succ n ih =>
  intro a i d hn hi ha hd
  cases e:l.drop a with
  | nil => rw [e] at hn;cases hn
  | cons c t =>
   rw [e,nb_cons] at hn
   by_cases hc:c=91
   ·rw [if_pos hc] at hn
    have hlen:l.length - a=t.length + 1:=by have:=congrArg List.length e;rw [List.length_drop] at this;simpa using this
    have et:l.drop (a + 1)=t:=by rw [← List.drop_drop,e];rfl
    have h:=ih (a + 1) (i + 1) (d + 1) (by rw [et];omega) (by omega) (by omega) (by omega)
    rw [show a + 1 + n=a + (n + 1) by omega,show d + 1 + n=d + (n + 1) by omega] at h
    refine Ev.step (f:=fun k => kind_scan_field.l0 k ((d + 1:Nat):Int) (l.length:Int) ((i + 1:Nat):Int) (BA l) ((a + 1:Nat):Int)) (fun k => ?_) h
    simp only [kind_scan_field.l0]
    rw [if_pos (by omega),kind_left.eq l a ha,Option.bind_some,hasPrefix1.eq,Option.bind_some,e,if_pos (by simp [hc])]
    simp only []
    rw [w64s d (by omega),w64s i (by omega),w64s a (by omega)]
   ·rw [if_neg hc] at hn
    cases hn
theorem kind_field.ev (l:List UInt8) (hl:l.length≤4294967280) (a:Nat) (ha:a≤l.length) :
  Ev (fun k => kind_scan_field.f k (BA l) (a:Int)) (kAns l (a + nb (l.drop a)) (fieldV (l.drop a))):=by
 have h:=kind_l0.ev l hl _ a 0 0 rfl (by omega) ha (by omega)
 unfold kind_scan_field.f fieldV
 rw [BA_size,List.drop_drop]
 simpa using h
theorem restV_len:∀ (d:Nat) (l:List UInt8) (t:Ty) (u:List UInt8),restV d l=some (t,u)→u.length < l.length∧∃ p,l=p++u:=by
 intro d l t u h
 cases l with
 | nil => cases h
 | cons c l =>
  simp only [restV] at h
  split at h
  ·cases h
  split at h
  ·cases h;exact ⟨by simp,⟨[c],rfl⟩⟩
  split at h
  ·cases h;exact ⟨by simp,⟨[c],rfl⟩⟩
  split at h
  ·split at h
   ·rename_i hm
    cases h
    have:=until_len l hm.1
    refine ⟨by rw [List.length_cons];omega,⟨c :: l.take ((l.takeWhile (· != 59)).length + 1),?_⟩⟩
    rw [← drop_until,List.drop_drop,List.cons_append,List.take_append_drop]
   ·cases h
  ·cases h
theorem fieldV_len (l:List UInt8) (t:Ty) (u:List UInt8) (h:fieldV l=some (t,u)):u.length < l.length∧l.drop (l.length - u.length)=u:=by
 obtain ⟨h1,p,hp⟩:=restV_len _ _ _ _ h
 rw [List.length_drop] at h1
 have hn:=nb_le l
 refine ⟨by omega,?_⟩
 obtain ⟨A,hA⟩:∃ A,l=A++u:=⟨l.take (nb l)++p,by rw [List.append_assoc,← hp,List.take_append_drop]⟩
 rw [hA,List.length_append,Nat.add_sub_cancel]
 exact List.drop_left
def fAns (q:Ty × Int):Int × ByteArray × Int × Int × Int × Int:=(q.1.1,q.1.2.1,q.1.2.2.1,q.1.2.2.2.1,q.1.2.2.2.2,q.2)
theorem kind_Field.ev (l:List UInt8) (hl:l.length≤4294967280):Ev (fun k => kind_Field.f k (BA l)) (fAns (FieldV l)):=by
 unfold kind_Field.f
 have h:=kind_field.ev l hl 0 (by omega)
 rw [List.drop_zero] at h
 refine Ev.bind h ?_
 unfold FieldV
 cases e:fieldV l with
 | none => simp only [kAns,Bool.false_eq_true,if_false];exact Ev.now _
 | some q =>
  obtain ⟨t,u⟩:=q
  obtain ⟨h1,h2⟩:=fieldV_len l t u e
  simp only [kAns,if_true]
  rw [kind_left.eq l _ (by omega),Option.bind_some,h2]
  simp only [BA_list]
  cases u with
  | nil => simp only [if_true];exact Ev.now _
  | cons c u => simp only [if_neg (List.cons_ne_nil c u)];exact Ev.now _
end Go.Proofs.Ytnihihcopcoabaa.Px
namespace Go.Proofs.Ytnihihcopcoabaa.Px
open Go.RowKit Go.Proofs.YtnihihcopcoabaaW.PrintWords Go.Proofs.YtnihihcopcoabaaW.PrintLast Go.Proofs.YtnihihcopcoabaaW.PrintMore
set_option linter.unusedVariables false
set_option linter.unusedSimpArgs false
theorem ref_Plain.ev_l (l:List UInt8) (hl:l.length≤4294967280):∀ n i,l.length - i≤n→i≤l.length→Ev (fun k => understudyref08_Plain.l0 k (BA l) (i:Int)) (!(l.drop i).any badC):=by
 intro n
 induction n with
 | zero =>
  intro i h1 h2
  have e:i=l.length:=by omega
  subst e
  refine Ev.step (f:=fun _ => some true) (fun k => ?_) (by rw [List.drop_length];exact Ev.now _)
  simp only [understudyref08_Plain.l0]
  rw [if_neg (by rw [BA_size];omega)]
 | succ n ih =>
  intro i h1 h2
  by_cases hi:i < l.length
  ·have hd:l.drop i=l[i] :: l.drop (i + 1):=List.drop_eq_getElem_cons hi
   refine Ev.step (f:=fun k => if badC l[i]=true then some false else understudyref08_Plain.l0 k (BA l) ((i + 1:Nat):Int)) (fun k => ?_) ?_
   ·simp only [understudyref08_Plain.l0]
    rw [if_pos (by rw [BA_size];omega),if_pos (by omega),bt_BA l i hi,badC_if,w64s i (by omega)]
   ·rw [hd,List.any_cons]
    by_cases hb:badC l[i]=true
    ·simp only [hb,if_true,Bool.true_or,Bool.not_true];exact Ev.now _
    ·simp only [hb,if_false,Bool.false_or,Bool.false_eq_true];exact ih (i + 1) (by omega) (by omega)
  ·exact ih i (by omega) (by omega)
theorem ref_Plain.ev (l:List UInt8) (hl:l.length≤4294967280):Ev (fun k => understudyref08_Plain.f k (BA l)) (plainV l):=by
 unfold understudyref08_Plain.f
 cases l with
 | nil =>
  refine Ev.step (f:=fun _ => some false) (fun k => ?_) (Ev.now _)
  rw [if_pos (by decide)]
  rfl
 | cons c t =>
  simp only [BA_size]
  rw [show plainV (c :: t)=(!(c :: t).any badC && decide ((c :: t).length≤256)) by unfold plainV;simp]
  refine Ev.step (f:=fun k => if decide (((c :: t).length:Int) > 256)=true then some false else understudyref08_Plain.l0 k (BA (c :: t)) 0) (fun k => ?_) ?_
  ·rw [if_neg (by rw [List.length_cons];omega)]
   rfl
  ·by_cases h:(c :: t).length≤256
   ·rw [decide_eq_false (by omega),decide_eq_true h,Bool.and_true]
    simp only [Bool.false_eq_true,if_false]
    exact ref_Plain.ev_l _ hl _ 0 (Nat.le_refl _) (by omega)
   ·rw [decide_eq_true (by omega),decide_eq_false h,Bool.and_false]
    simp only [if_true]
    exact Ev.now _
theorem until_all:∀ t:List UInt8,¬ (59:UInt8) ∈ t→t.takeWhile (· != 59)=t
 | [],_ => rfl
 | c :: t,h => by
  have h1:(c != 59)=true:=by simpa using fun e => h (by rw [e];exact List.mem_cons_self)
  rw [List.takeWhile_cons,if_pos h1,until_all t (fun e => h (List.mem_cons_of_mem _ e))]
theorem until_mem:∀ (t:List UInt8) (c:UInt8),c ∈ t.takeWhile (· != 59)→c ≠ 59
 | [],_,h => by cases h
 | x :: t,c,h => by
  rw [List.takeWhile_cons] at h
  by_cases hx:(x != 59)=true
  ·rw [if_pos hx] at h
   rcases List.mem_cons.1 h with rfl|h
   ·simpa using hx
   ·exact until_mem t c h
  ·rw [if_neg hx] at h
   cases h
def rAns:Option (Ty × List UInt8)→Int × ByteArray × Int × Int × Int × ByteArray × Bool
 | none => (0,BA [],0,0,0,BA [],false)
 | some (t,u) => (t.1,t.2.1,t.2.2.1,t.2.2.2.1,t.2.2.2.2,BA u,true)
theorem ref_j4.ev (t:List UInt8) (hl:t.length≤4294967280) (d n:Nat) (hn:n=(t.takeWhile (· != 59)).length) :
  Ev (fun k => understudyref08_field.j4 k (BA (76 :: t)) (d:Int) ((n + 1:Nat):Int) 0 (BA []) 0 0 0) (rAns (if (59:UInt8) ∈ t∧plainV (t.takeWhile (· != 59))=true then some (tyV d 4 (BA (t.takeWhile (· != 59))),(t.dropWhile (· != 59)).drop 1) else none)):=by
 have hle:=takeWhile_len (· != 59) t
 have hbad:∀ m:Int,Ev (fun k => understudyref08_field.j5 k (BA (76 :: t)) (d:Int) m true 0 (BA []) 0 0 0) (rAns none):=by
  intro m
  refine Ev.step (f:=fun _ => some (rAns none)) (fun k => ?_) (Ev.now _)
  simp [understudyref08_field.j5,rAns]
 by_cases hm:(59:UInt8) ∈ t
 ·have hu:=until_len t hm
  have e1:(BA (76 :: t)).extract 1 (((n + 1:Nat):Int)).toNat=BA (t.takeWhile (· != 59)):=by
   rw [BA_ext,Int.toNat_natCast]
   simp only [List.drop_succ_cons,List.drop_zero,Nat.add_sub_cancel]
   rw [hn,take_until]
  refine Ev.step (f:=fun k => (understudyref08_Plain.f k (BA (t.takeWhile (· != 59)))).bind fun t199 => understudyref08_field.j5 k (BA (76 :: t)) (d:Int) ((n + 1:Nat):Int) (!t199) 0 (BA []) 0 0 0) (fun k => ?_) ?_
  ·simp only [understudyref08_field.j4]
   rw [if_neg (by rw [BA_size,List.length_cons];omega),if_pos (by omega),if_pos (by rw [BA_size,List.length_cons];omega),e1]
  ·refine Ev.bind (ref_Plain.ev _ (by omega)) ?_
   by_cases hp:plainV (t.takeWhile (· != 59))=true
   ·simp only [hp,Bool.not_true,hm,true_and,if_true]
    have e2:(BA (76 :: t)).extract ((wrap64 (((n + 1:Nat):Int) + 1)):Int).toNat (BA (76 :: t)).size=BA ((t.dropWhile (· != 59)).drop 1):=by
     rw [w64s _ (by omega),Int.toNat_natCast,BA_drop]
     simp only [List.drop_succ_cons]
     rw [hn,← drop_until,List.drop_drop]
    have e4:=tyV_if d 4 (BA (t.takeWhile (· != 59))) (fun T => some (rAns (some (T,(t.dropWhile (· != 59)).drop 1))))
    refine Ev.step (f:=fun _ => some (rAns (some (tyV d 4 (BA (t.takeWhile (· != 59))),(t.dropWhile (· != 59)).drop 1)))) (fun k => ?_) (Ev.now _)
    rw [← e4]
    simp only [understudyref08_field.j5]
    rw [if_neg (by simp),if_pos (by omega),if_pos (by rw [BA_size,List.length_cons];omega),if_pos (by rw [w64s _ (by omega)];omega),if_pos (by rw [w64s _ (by omega),BA_size,List.length_cons];omega),e1,e2]
    rfl
   ·simp only [hp,hm,true_and,if_false,Bool.false_eq_true,Bool.not_false]
    exact hbad _
 ·rw [if_neg (fun h => hm h.1)]
  have hall:(t.takeWhile (· != 59))=t:=by
   exact until_all t hm
  rw [hall] at hn
  refine Ev.step (f:=fun k => understudyref08_field.j5 k (BA (76 :: t)) (d:Int) ((n + 1:Nat):Int) true 0 (BA []) 0 0 0) (fun k => ?_) (hbad _)
  simp only [understudyref08_field.j4]
  rw [if_pos (by rw [BA_size,List.length_cons];omega)]
theorem ref_l1.ev (t:List UInt8) (hl:t.length≤4294967280) (d:Nat):∀ n i,n + i=(t.takeWhile (· != 59)).length →
  Ev (fun k => understudyref08_field.l1 k (BA (76 :: t)) (d:Int) ((i + 1:Nat):Int) 0 (BA []) 0 0 0) (rAns (if (59:UInt8) ∈ t∧plainV (t.takeWhile (· != 59))=true then some (tyV d 4 (BA (t.takeWhile (· != 59))),(t.dropWhile (· != 59)).drop 1) else none)):=by
 have hle:=takeWhile_len (· != 59) t
 intro n
 induction n with
 | zero =>
  intro i hi
  have h4:=ref_j4.ev t hl d i (by omega)
  refine Ev.step (f:=fun k => understudyref08_field.j4 k (BA (76 :: t)) (d:Int) ((i + 1:Nat):Int) 0 (BA []) 0 0 0) (fun k => ?_) h4
  simp only [understudyref08_field.l1]
  by_cases h:i < t.length
  ·rw [if_pos (by rw [BA_size,List.length_cons];omega),if_pos (by omega),if_pos]
   have hlt:i + 1 < (76 :: t).length:=by rw [List.length_cons];omega
   rw [bt_BA _ _ hlt]
   have h1:t.drop i=t.dropWhile (· != 59):=by rw [show i=(t.takeWhile (· != 59)).length by omega,drop_until]
   have h2:t.dropWhile (· != 59) ≠ []:=by rw [← h1];intro e;have:=congrArg List.length e;rw [List.length_drop] at this;simp at this;omega
   have h3:t.drop i=t[i] :: t.drop (i + 1):=List.drop_eq_getElem_cons h
   have h5:=List.head_dropWhile_not (p:=(· != (59:UInt8))) (l:=t) h2
   have h6:(t.dropWhile (· != 59)).head h2=t[i]:=by simp only [← h1,h3,List.head_cons]
   rw [h6] at h5
   have h7:t[i]=59:=by simpa using h5
   simp only [List.getElem_cons_succ,h7]
   rfl
  ·rw [if_neg (by rw [BA_size,List.length_cons];omega)]
 | succ n ih =>
  intro i hi
  have h4:=ih (i + 1) (by omega)
  refine Ev.step (f:=fun k => understudyref08_field.l1 k (BA (76 :: t)) (d:Int) ((i + 1 + 1:Nat):Int) 0 (BA []) 0 0 0) (fun k => ?_) h4
  simp only [understudyref08_field.l1]
  have hlt:i + 1 < (76 :: t).length:=by rw [List.length_cons];omega
  rw [if_pos (by rw [BA_size,List.length_cons];omega),if_pos (by omega),if_neg,w64s _ (by omega)]
  rw [bt_BA _ _ hlt]
  simp only [List.getElem_cons_succ]
  intro e
  have e:=(u8_int _ 59 (by decide)).1 e
  have hm:t[i]'(by omega) ∈ t.takeWhile (· != 59):=by
   have:t[i]'(by omega)=(t.takeWhile (· != 59))[i]'(by omega):=(List.IsPrefix.getElem (List.takeWhile_prefix _) (by omega)).symm
   rw [this]
   exact List.getElem_mem _
  have:=until_mem t _ hm
  rw [e] at this
  exact this rfl
theorem ref_j1.ev (l:List UInt8) (hl:l.length≤4294967280) (d:Nat):Ev (fun k => understudyref08_field.j1 k (BA l) (d:Int)) (rAns (restV d l)):=by
 have hbad:Ev (fun k => understudyref08_field.j2 k (BA l) (d:Int) true) (rAns none):=by
  refine Ev.step (f:=fun _ => some (rAns none)) (fun k => ?_) (Ev.now _)
  simp [understudyref08_field.j2,rAns]
 cases l with
 | nil =>
  refine Ev.step (f:=fun k => understudyref08_field.j2 k (BA []) (d:Int) true) (fun k => ?_) hbad
  simp only [understudyref08_field.j1]
  rw [BA_list,if_pos rfl]
 | cons c t =>
  rw [List.length_cons] at hl
  by_cases hd:d > 4
  ·refine Ev.step (f:=fun k => understudyref08_field.j2 k (BA (c :: t)) (d:Int) true) (fun k => ?_) (by rw [show restV d (c :: t)=none from if_pos hd];exact hbad)
   simp only [understudyref08_field.j1]
   rw [BA_list,if_neg (by simp),decide_eq_true (by omega)]
  ·refine Ev.step (f:=fun k => understudyref08_field.j2 k (BA (c :: t)) (d:Int) false) (fun k => ?_) ?_
   ·simp only [understudyref08_field.j1]
    rw [BA_list,if_neg (by simp),decide_eq_false (by omega)]
   simp only [restV,if_neg hd]
   have hex:(BA (c :: t)).extract 1 (BA (c :: t)).size=BA t:=by rw [BA_drop];rfl
   refine Ev.step (f:=fun k => if (c.toNat:Int)=73 then some (rAns (some (tyV d 1 (BA []),t))) else if (c.toNat:Int)=74 then some (rAns (some (tyV d 2 (BA []),t))) else if (c.toNat:Int)=76 then understudyref08_field.l1 k (BA (c :: t)) d 1 0 (BA []) 0 0 0 else some (rAns none)) (fun k => ?_) ?_
   ·simp only [understudyref08_field.j2]
    rw [if_neg (by simp),if_pos (by rw [BA_size,List.length_cons];omega),bt_BA0]
    have e1:=tyV_if d 1 (BA []) (fun T => some (rAns (some (T,t))))
    have e2:=tyV_if d 2 (BA []) (fun T => some (rAns (some (T,t))))
    rw [← e1,← e2,hex]
    simp only [if_pos (show (1:Int)≤((BA (c :: t)).size:Int) by rw [BA_size,List.length_cons];omega)]
    rfl
   by_cases c1:c=73
   ·subst c1
    simp only [if_true,show (((73:UInt8).toNat:Int)=73) from rfl]
    exact Ev.now _
   have c1':¬ (c.toNat:Int)=73:=fun h => c1 ((u8_int c 73 (by decide)).1 h)
   simp only [if_neg c1,if_neg c1']
   by_cases c2:c=74
   ·subst c2
    simp only [if_true,show (((74:UInt8).toNat:Int)=74) from rfl]
    exact Ev.now _
   have c2':¬ (c.toNat:Int)=74:=fun h => c2 ((u8_int c 74 (by decide)).1 h)
   simp only [if_neg c2,if_neg c2']
   by_cases c3:c=76
   ·subst c3
    simp only [if_true,show (((76:UInt8).toNat:Int)=76) from rfl]
    exact ref_l1.ev t (by omega) d _ 0 rfl
   have c3':¬ (c.toNat:Int)=76:=fun h => c3 ((u8_int c 76 (by decide)).1 h)
   simp only [if_neg c3,if_neg c3']
   exact Ev.now _
theorem ref_l0.ev:∀ (l:List UInt8) (d:Nat) (hl:d + l.length≤4294967280),Ev (fun k => understudyref08_field.l0 k (BA l) (d:Int)) (rAns (restV (d + nb l) (l.drop (nb l))))
 | [],d,hl => by
  refine Ev.step (f:=fun k => understudyref08_field.j1 k (BA []) (d:Int)) (fun k => ?_) (ref_j1.ev [] (by omega) d)
  simp only [understudyref08_field.l0]
  rw [if_neg (by decide)]
 | c :: t,d,hl => by
  rw [List.length_cons] at hl
  rw [nb_cons]
  by_cases hc:c=91
  ·rw [if_pos hc,List.drop_succ_cons]
   have h:=ref_l0.ev t (d + 1) (by omega)
   rw [show d + 1 + nb t=d + (nb t + 1) by omega] at h
   refine Ev.step (f:=fun k => understudyref08_field.l0 k (BA t) ((d + 1:Nat):Int)) (fun k => ?_) h
   simp only [understudyref08_field.l0]
   rw [if_pos (by rw [BA_size,List.length_cons];omega),if_pos (by rw [BA_size,List.length_cons];omega),if_pos (by rw [bt_BA0,hc];rfl),if_pos (by rw [BA_size,List.length_cons];omega),BA_drop,w64s d (by omega)]
   rfl
  ·rw [if_neg hc]
   refine Ev.step (f:=fun k => understudyref08_field.j1 k (BA (c :: t)) (d:Int)) (fun k => ?_) (ref_j1.ev (c :: t) (by rw [List.length_cons];omega) d)
   simp only [understudyref08_field.l0]
   rw [if_pos (by rw [BA_size,List.length_cons];omega),if_pos (by rw [BA_size,List.length_cons];omega),if_neg (by rw [bt_BA0];intro e;exact hc ((u8_int c 91 (by decide)).1 e))]
theorem ref_field.ev (l:List UInt8) (hl:l.length≤4294967280):Ev (fun k => understudyref08_field.f k (BA l)) (rAns (fieldV l)):=by
 have h:=ref_l0.ev l 0 (by omega)
 unfold understudyref08_field.f fieldV
 simpa using h
end Go.Proofs.Ytnihihcopcoabaa.Px
namespace Go.Proofs.Ytnihihcopcoabaa.Px
open Go.RowKit Go.Proofs.YtnihihcopcoabaaW.PrintWords Go.Proofs.YtnihihcopcoabaaW.PrintLast Go.Proofs.YtnihihcopcoabaaW.PrintMore
set_option linter.unusedVariables false
set_option linter.unusedSimpArgs false
theorem ref_Field.ev (l:List UInt8) (hl:l.length≤4294967280):Ev (fun k => understudyref08_Field.f k (BA l)) (fAns (FieldV l)):=by
 unfold understudyref08_Field.f
 refine Ev.bind (ref_field.ev l hl) ?_
 unfold FieldV
 cases e:fieldV l with
 | none => simp only [rAns,Bool.false_eq_true,if_false];exact Ev.now _
 | some q =>
  obtain ⟨t,u⟩:=q
  simp only [rAns,if_true]
  simp only [BA_list]
  cases u with
  | nil => simp only [if_true];exact Ev.now _
  | cons c u => simp only [if_neg (List.cons_ne_nil c u)];exact Ev.now _
end Go.Proofs.Ytnihihcopcoabaa.Px
namespace Go.Proofs.Ytnihihcopcoabaa.Px
open Go.RowKit Go.Proofs.YtnihihcopcoabaaW.PrintWords Go.Proofs.YtnihihcopcoabaaW.PrintLast Go.Proofs.YtnihihcopcoabaaW.PrintMore
set_option linter.unusedVariables false
set_option linter.unusedSimpArgs false
abbrev TyA:Type:=Int × ByteArray × Int × Int × Int × Bool
def tAns (q:Ty × Int):TyA:=(q.1.1,q.1.2.1,q.1.2.2.1,q.1.2.2.2.1,q.1.2.2.2.2,q.2==0)
def typeV (l:List UInt8):TyA:=if l.head?=some 91 then tAns (FieldV l) else if plainV l=true then (4,BA l,0,0,0,true) else (0,BA [],0,0,0,false)
theorem fAns_t (q:Ty × Int):((fAns q).1,(fAns q).2.1,(fAns q).2.2.1,(fAns q).2.2.2.1,(fAns q).2.2.2.2.1,((fAns q).2.2.2.2.2==0))=tAns q:=rfl
theorem plain_59 {l:List UInt8} (h:(59:UInt8) ∈ l):plainV l=false:=by
 have:l.any badC=true:=List.any_eq_true.mpr ⟨59,h,by decide⟩
 unfold plainV
 rw [this]
 rfl
theorem until_app (l:List UInt8):(l++[59]).takeWhile (· != 59)=l.takeWhile (· != 59)∧(l++[59]).dropWhile (· != 59)=l.dropWhile (· != 59)++[59]:=by
 induction l with
 | nil => exact ⟨by simp,by simp⟩
 | cons c t ih =>
  by_cases hc:(c != 59)=true
  ·simp only [List.cons_append,List.takeWhile_cons,List.dropWhile_cons,if_pos hc,ih.1,ih.2,and_self]
  ·simp only [List.cons_append,List.takeWhile_cons,List.dropWhile_cons,if_neg hc,and_self]
theorem until_none:∀ t:List UInt8,¬ (59:UInt8) ∈ t→t.dropWhile (· != 59)=[]
 | [],_ => rfl
 | c :: t,h => by
  have h1:(c != 59)=true:=by simpa using fun e => h (by rw [e];exact List.mem_cons_self)
  rw [List.dropWhile_cons,if_pos h1,until_none t (fun e => h (List.mem_cons_of_mem _ e))]
theorem rest_76 (t:List UInt8):restV 0 (76 :: t)=if (59:UInt8) ∈ t∧plainV (t.takeWhile (· != 59))=true then some (tyV 0 4 (BA (t.takeWhile (· != 59))),(t.dropWhile (· != 59)).drop 1) else none:=by
 simp only [restV]
 rw [if_neg (by decide:¬ 0 > 4),if_neg (by decide:¬ (76:UInt8)=73),if_neg (by decide:¬ (76:UInt8)=74),if_pos trivial]
theorem Ev.posC {α:Type} {c:Prop} [Decidable c] {F G:Nat→Option α} {r:α} (hc:c) (h:Ev F r):Ev (fun k => if c then F k else G k) r:=Ev.congr (fun k => if_pos hc) h
theorem Ev.negC {α:Type} {c:Prop} [Decidable c] {F G:Nat→Option α} {r:α} (hc:¬ c) (h:Ev G r):Ev (fun k => if c then F k else G k) r:=Ev.congr (fun k => if_neg hc) h
theorem field_name (l:List UInt8):tAns (FieldV (76 :: (l++[59])))=if plainV l=true then (4,BA l,0,0,0,true) else (0,BA [],0,0,0,false):=by
 have hn:nb (76 :: (l++[59]))=0:=by rw [nb_cons];rfl
 have hm:(59:UInt8) ∈ l++[59]:=List.mem_append_right _ List.mem_cons_self
 unfold FieldV fieldV
 rw [hn,List.drop_zero,rest_76,(until_app l).1,(until_app l).2]
 by_cases h:(59:UInt8) ∈ l
 ·have hp:=plain_59 h
  rw [hp]
  by_cases hq:plainV (l.takeWhile (· != 59))=true
  ·rw [if_pos ⟨hm,hq⟩]
   have h2:=until_ne l h
   cases hd:l.dropWhile (· != 59) with
   | nil => rw [hd] at h2;exact absurd rfl h2
   | cons c u =>
    simp only [List.cons_append,List.drop_succ_cons,List.drop_zero]
    cases u <;> rfl
  ·rw [if_neg (fun e => hq e.2)]
   rfl
 ·rw [until_all l h,until_none l h]
  by_cases hq:plainV l=true
  ·rw [if_pos ⟨hm,hq⟩,if_pos hq]
   rfl
  ·rw [if_neg (fun e => hq e.2),if_neg hq]
   rfl
theorem name_BA (l:List UInt8):((⟨#[76]⟩:ByteArray)++BA l)++(⟨#[59]⟩:ByteArray)=BA (76 :: (l++[59])):=by
 show (BA [76]++BA l)++BA [59]=_
 rw [BA_append,BA_append]
 rfl
theorem maps_Name.ev (l:List UInt8) (hl:l.length≤4294967278) (hh:l.head? ≠ some 91):Ev (fun k => (if 1 + (BA l).size≤9223372036854775807 then (if ((⟨#[76]⟩:ByteArray)++BA l).size + 1≤9223372036854775807 then ((kind_Field.f k (((⟨#[76]⟩:ByteArray)++BA l)++(⟨#[59]⟩:ByteArray))).bind fun b => (some (b.1,b.2.1,b.2.2.1,b.2.2.2.1,b.2.2.2.2.1,(b.2.2.2.2.2==0)))) else (none)) else (none))) (typeV l):=by
 have e0:(BA l).size=l.length:=BA_size l
 have e1:((⟨#[76]⟩:ByteArray)++BA l).size=l.length + 1:=by
  rw [show ((⟨#[76]⟩:ByteArray)++BA l)=BA ([76]++l) from BA_append [76] l,BA_size];simp
 unfold typeV
 rw [if_neg hh,← field_name l]
 refine Ev.posC (by omega) (Ev.posC (by omega) ?_)
 rw [name_BA]
 exact Ev.bind (f:=fun _ b => some (b.1,b.2.1,b.2.2.1,b.2.2.2.1,b.2.2.2.2.1,(b.2.2.2.2.2==0))) (kind_Field.ev (76 :: (l++[59])) (by rw [List.length_cons,List.length_append,List.length_singleton];omega)) (by rw [fAns_t];exact Ev.now _)
theorem maps_Type.ev (l:List UInt8) (hl:l.length≤4294967278):Ev (fun k => maps_Type.f k (BA l)) (typeV l):=by
 unfold maps_Type.f
 rw [BA_list]
 cases l with
 | nil =>
  exact Ev.posC rfl (maps_Name.ev [] hl (by decide))
 | cons c t =>
  refine Ev.negC (List.cons_ne_nil c t) (Ev.posC (by rw [BA_size];simp) ?_)
  rw [bt_BA0]
  by_cases hc:c=91
  ·subst hc
   refine Ev.posC (by decide) ?_
   have e:typeV (91 :: t)=tAns (FieldV (91 :: t)):=by unfold typeV;rw [if_pos (show (91 :: t).head?=some 91 from rfl)]
   rw [e]
   exact Ev.bind (f:=fun _ b => some (b.1,b.2.1,b.2.2.1,b.2.2.2.1,b.2.2.2.2.1,(b.2.2.2.2.2==0))) (kind_Field.ev (91 :: t) (by omega)) (by rw [fAns_t];exact Ev.now _)
  ·exact Ev.negC (fun e => hc ((u8_int c 91 (by decide)).mp e)) (maps_Name.ev (c :: t) hl (by simpa using hc))
theorem ref_Type_j0.ev (l:List UInt8) (hl:l.length≤4294967278) (b:Bool) (hb:b=true ↔ l.head?=some 91):Ev (fun k => understudyref10_Type.j0 k (BA l) b) (typeV l):=by
 cases b with
 | true =>
  refine Ev.step (fun k => by rw [understudyref10_Type.j0]) (Ev.posC rfl ?_)
  have e:typeV l=tAns (FieldV l):=by unfold typeV;rw [if_pos (hb.mp rfl)]
  rw [e]
  exact Ev.bind (f:=fun _ b => some (b.1,b.2.1,b.2.2.1,b.2.2.2.1,b.2.2.2.2.1,(b.2.2.2.2.2==0))) (ref_Field.ev l (by omega)) (by rw [fAns_t];exact Ev.now _)
 | false =>
  refine Ev.step (fun k => by rw [understudyref10_Type.j0]) (Ev.negC Bool.false_ne_true ?_)
  have e:typeV l=if plainV l=true then (4,BA l,0,0,0,true) else (0,BA [],0,0,0,false):=by unfold typeV;rw [if_neg (fun x => absurd (hb.mpr x) (by decide))]
  rw [e]
  refine Ev.bind (ref_Plain.ev l (by omega)) ?_
  by_cases hp:plainV l=true
  ·rw [if_pos hp,if_pos hp];exact Ev.now _
  ·rw [if_neg hp,if_neg hp];exact Ev.now _
theorem ref_Type.ev (l:List UInt8) (hl:l.length≤4294967278):Ev (fun k => understudyref10_Type.f k (BA l)) (typeV l):=by
 unfold understudyref10_Type.f
 rw [BA_list]
 cases l with
 | nil =>
  exact Ev.posC rfl (ref_Type_j0.ev [] hl false (by decide))
 | cons c t =>
  refine Ev.negC (List.cons_ne_nil c t) (Ev.posC (by rw [BA_size];simp) (ref_Type_j0.ev (c :: t) hl _ ?_))
  rw [bt_BA0,beq_iff_eq]
  exact (u8_int c 91 (by decide)).trans (by simp)
theorem maps_awake.ev:Ev (fun k => understudylaw10_awake.f k) true:=by
 refine Ev.bind (maps_Type.ev [65] (by decide)) ?_
 have e:typeV [65]=(4,BA [65],0,0,0,true):=by unfold typeV;rw [if_neg (by decide),if_pos (by decide)]
 rw [e]
 simp only [if_true,BA_list]
 exact Ev.now _
end Go.Proofs.Ytnihihcopcoabaa.Px
namespace Go.Proofs.Ytnihihcopcoabaa.Px
open Go.RowKit Go.Proofs.YtnihihcopcoabaaW.PrintWords Go.Proofs.YtnihihcopcoabaaW.PrintLast Go.Proofs.YtnihihcopcoabaaW.PrintMore
set_option linter.unusedVariables false
set_option linter.unusedSimpArgs false
def Rdo.bindV {α β:Type} (o:Rdo α) (f:α→Nat→Rdo β):Rdo β:=match o with
 | .ok x p => f x p
 | .er e => .er e
theorem Ev.rdo {α β:Type} {F:Nat→Option (Rdo α)} {G:Nat→α→Nat→Option (Rdo β)} {o:Rdo α} {g:α→Nat→Rdo β} (h:Ev F o) (hg:∀ x q,o=.ok x q→Ev (fun k => G k x q) (g x q)):Ev (fun k => (F k).bind fun o => o.bind (G k)) (o.bindV g):=by
 refine Ev.bind h ?_
 cases o with
 | ok x q => exact hg x q rfl
 | er e => exact Ev.now _
def Gives {α:Type} (o:Rdo α) (Q:α→Nat→Prop):Prop:=∀ x q,o=.ok x q→Q x q
theorem Gives.ok {α:Type} {x:α} {q:Nat} {Q:α→Nat→Prop} (h:Q x q):Gives (.ok x q) Q:=fun x' q' e => by injection e with e1 e2;subst e1;subst e2;exact h
theorem Gives.er {α:Type} {e:Int} {Q:α→Nat→Prop}:Gives (.er e) Q:=fun x q h => by cases h
theorem Gives.bind {α β:Type} {o:Rdo α} {f:α→Nat→Rdo β} {Q:α→Nat→Prop} {R:β→Nat→Prop} (h:Gives o Q) (k:∀ x q,Q x q→Gives (f x q) R):Gives (o.bindV f) R:=by
 cases o with
 | ok x q => exact k x q (h x q rfl)
 | er e => exact Gives.er
theorem Gives.mono {α:Type} {o:Rdo α} {Q R:α→Nat→Prop} (h:Gives o Q) (k:∀ x q,Q x q→R x q):Gives o R:=fun x q e => k x q (h x q e)
def isV (pl:List Cst) (i t:Int):Bool:=decide (0 < i) && decide (i < (pl.length:Int)) && ((rd_T70 pl i).f0==t)
def textV (pl:List Cst) (i:Int):ByteArray × Bool:=if isV pl i 1=true then ((rd_T70 pl i).f1,true) else (⟨#[]⟩,false)
def classV (pl:List Cst) (i:Int):ByteArray × Bool:=if isV pl i 7=true then textV pl (rd_T70 pl i).f3 else (⟨#[]⟩,false)
theorem isV_in {pl:List Cst} {i t:Int} (h:isV pl i t=true):0≤i∧i < (pl.length:Int):=by
 simp only [isV,Bool.and_eq_true,decide_eq_true_eq] at h
 omega
theorem pool_is.eq (pl:List Cst) (i t:Int):pool_is.f pl i t=some (isV pl i t):=by
 unfold pool_is.f isV
 by_cases h:i > 0
 ·by_cases h2:i < (pl.length:Int)
  ·rw [if_pos h,if_pos h2,if_pos (by omega),decide_eq_true (by omega),decide_eq_true h2];rfl
  ·rw [if_pos h,if_neg h2,decide_eq_false h2,Bool.and_false];rfl
 ·rw [if_neg h,decide_eq_false (by omega)];rfl
theorem pool_Text.eq (pl:List Cst) (i:Int):pool_Text.f pl i=some (textV pl i):=by
 unfold pool_Text.f textV
 rw [pool_is.eq]
 simp only [Option.bind_some]
 by_cases h:isV pl i 1=true
 ·have:=isV_in h
  rw [if_pos h,if_pos this.1,if_pos this.2,if_pos h]
 ·rw [if_neg h,if_neg h]
theorem pool_Class.eq (pl:List Cst) (i:Int):pool_Class.f pl i=some (classV pl i):=by
 unfold pool_Class.f classV
 rw [pool_is.eq]
 simp only [Option.bind_some]
 by_cases h:isV pl i 7=true
 ·have:=isV_in h
  rw [if_pos h,if_pos this.1,if_pos this.2,if_pos h,pool_Text.eq]
  rfl
 ·rw [if_neg h,if_neg h]
def Small (pl:List Cst):Prop:=∀ c ∈ pl,c.f1.size≤1048576
theorem textV_small {pl:List Cst} (h:Small pl) (i:Int):(textV pl i).1.size≤1048576:=by
 unfold textV
 split
 ·rename_i hi
  have:=isV_in hi
  refine h _ ?_
  unfold rd_T70
  rw [List.getD_eq_getElem?_getD,List.getElem?_eq_getElem (show i.toNat < pl.length by omega)]
  exact List.getElem_mem _
 ·exact Nat.zero_le _
theorem classV_small {pl:List Cst} (h:Small pl) (i:Int):(classV pl i).1.size≤1048576:=by
 unfold classV
 split
 ·exact textV_small h _
 ·exact Nat.zero_le _
def nameV (s:ByteArray):TyA:=typeV s.data.toList
theorem name_len {s:ByteArray} (h:s.size≤1048576):s.data.toList.length≤4294967278:=by
 have:=BA_size s.data.toList
 rw [BA_eta] at this
 omega
theorem maps_Type.evS {s:ByteArray} (h:s.size≤1048576):Ev (fun k => maps_Type.f k s) (nameV s):=by
 have:=maps_Type.ev s.data.toList (name_len h)
 rw [BA_eta] at this
 exact this
def numV (bs:List Int) (p n:Nat):Rdo Int:=if p + n≤bs.length then .ok (beV (rdL bs p n)) (p + n) else .er 3
theorem num.gives {bs:List Int} (hb:IsBytes bs) (p n:Nat):Gives (numV bs p n) (fun x q => 0≤x∧x < 256 ^ n∧q≤bs.length):=by
 unfold numV
 by_cases h:p + n≤bs.length
 ·rw [if_pos h]
  have:=beV_range _ (rdL_bytes hb p n)
  rw [rdL_len h] at this
  exact Gives.ok ⟨this.1,this.2,h⟩
 ·rw [if_neg h];exact Gives.er
theorem num2.gives {bs:List Int} (hb:IsBytes bs) (p:Nat):Gives (numV bs p 2) (fun x q => 0≤x∧x < 65536∧q≤bs.length):=num.gives hb p 2
theorem ms_num.ev {bs:List Int} (hb:IsBytes bs) (p n:Nat) (h7:n≤7):Ev (fun k => ms_num.f k bs p n) (numV bs p n):=by
 refine Ev.bind (uint.ev bs hb p n (by omega)) ?_
 unfold numV
 by_cases h:p + n≤bs.length
 ·have hE:rdE bs p n=0:=if_pos h
  have hP:rdP bs p n=p + n:=if_pos h
  have hr:=beV_range _ (rdL_bytes hb p n)
  rw [rdL_len h] at hr
  have hp:=pow256 h7
  have e1:wrap64 (beV (rdL bs p n))=beV (rdL bs p n):=by unfold wrap64;omega
  simp only [hE,hP,e1,if_true,if_pos h]
  exact Ev.now _
 ·have hE:rdE bs p n=3:=if_neg h
  simp only [hE,if_neg h]
  rw [if_neg (by decide)]
  exact Ev.now _
def kindV (pl:List Cst) (bs:List Int) (t:Int) (p:Nat):Rdo Typ :=
 if t=0 then .ok z41 p else if t=1 then .ok ⟨1,⟨#[]⟩,0,0,0⟩ p else if t=4 then .ok ⟨2,⟨#[]⟩,0,0,0⟩ p else if t=5 then .ok ⟨3,⟨#[]⟩,0,0,0⟩ p else if t=6 then .ok ⟨7,⟨#[]⟩,0,0,0⟩ p
 else if t=7 then (numV bs p 2).bindV fun i q => if (classV pl i).2=true∧(nameV (classV pl i).1).2.2.2.2.2=true then .ok ⟨(nameV (classV pl i).1).1,(nameV (classV pl i).1).2.1,(nameV (classV pl i).1).2.2.1,(nameV (classV pl i).1).2.2.2.1,(nameV (classV pl i).1).2.2.2.2.1⟩ q else .er 100
 else if t=8 then (numV bs p 2).bindV fun i q => if i≤4096 then .ok ⟨6,⟨#[]⟩,0,0,i⟩ q else .er 100
 else .er 100
def oneV (pl:List Cst) (bs:List Int) (p:Nat):Rdo Typ:=(numV bs p 1).bindV fun t q => kindV pl bs t q
def listV (pl:List Cst) (bs:List Int):Nat→Nat→List Typ→Rdo (List Typ)
 | 0,p,l => .ok l p
 | n + 1,p,l => (oneV pl bs p).bindV fun t q => listV pl bs n q (l++[t])
def someV (pl:List Cst) (bs:List Int) (p:Nat):Rdo (List Typ):=(numV bs p 2).bindV fun n q => if n≤64 then listV pl bs n.toNat q [] else .er 100
def freshV (l:List Typ):Bool:=l.any (fun t => decide (t.f0=7))
def mapsV (pl:List Cst) (bs:List Int):Nat→Int→Nat→List Mp→Rdo (List Mp)
 | 0,_,p,l => .ok l p
 | n + 1,a,p,l => (numV bs p 1).bindV fun t p1 => if t=255 then (numV bs p1 2).bindV fun s p2 => if a + (s + 1)≤4096 then (someV pl bs p2).bindV fun l1 p3 => (someV pl bs p3).bindV fun l2 p4 => mapsV pl bs n (a + (s + 1)) p4 (l++[⟨a + (s + 1),⟨l1,l2,freshV l1⟩⟩]) else .er 100 else .er 100
def allV (pl:List Cst) (bs:List Int):Rdo (List Mp):=(numV bs 0 2).bindV fun n p => (mapsV pl bs n.toNat (-1) p []).bindV fun l q => if q=bs.length then .ok l q else .er 100
def decV (pl:List Cst) (bs:List Int):List Mp × Int:=if bs.length=0 then ([],0) else decM (allV pl bs)
theorem kind.gives {bs:List Int} (hb:IsBytes bs) (pl:List Cst) (t:Int) {p:Nat} (hp:p≤bs.length):Gives (kindV pl bs t p) (fun _ q => q≤bs.length):=by
 unfold kindV
 repeat' split
 all_goals first|exact Gives.ok hp|exact Gives.er|skip
 ·exact Gives.bind (num.gives hb p 2) fun x q h => by split;exact Gives.ok h.2.2;exact Gives.er
 ·exact Gives.bind (num.gives hb p 2) fun x q h => by split;exact Gives.ok h.2.2;exact Gives.er
theorem one.gives {bs:List Int} (hb:IsBytes bs) (pl:List Cst) (p:Nat):Gives (oneV pl bs p) (fun _ q => q≤bs.length) :=
 Gives.bind (num.gives hb p 1) fun x q h => kind.gives hb pl x h.2.2
theorem list.gives {bs:List Int} (hb:IsBytes bs) (pl:List Cst):∀ (n p:Nat) (l:List Typ),p≤bs.length→Gives (listV pl bs n p l) (fun r q => r.length=l.length + n∧q≤bs.length)
 | 0,p,l,hp => Gives.ok ⟨rfl,hp⟩
 | n + 1,p,l,hp => Gives.bind (one.gives hb pl p) fun t q h => (list.gives hb pl n q (l++[t]) h).mono fun r s g => ⟨by rw [g.1,List.length_append,List.length_singleton];omega,g.2⟩
theorem some.gives {bs:List Int} (hb:IsBytes bs) (pl:List Cst) (p:Nat):Gives (someV pl bs p) (fun r q => r.length≤64∧q≤bs.length) :=
 Gives.bind (num.gives hb p 2) fun n q h => by
  split
  ·exact (list.gives hb pl n.toNat q [] h.2.2).mono fun r s g => ⟨by rw [g.1,List.length_nil];omega,g.2⟩
  ·exact Gives.er
def MpR (m:Mp):Prop:=m.f1.f0.length≤64∧m.f1.f1.length≤64
theorem maps.gives {bs:List Int} (hb:IsBytes bs) (pl:List Cst):∀ (n:Nat) (a:Int) (p:Nat) (l:List Mp),p≤bs.length→(∀ m ∈ l,MpR m)→Gives (mapsV pl bs n a p l) (fun r q => r.length=l.length + n∧(∀ m ∈ r,MpR m)∧q≤bs.length)
 | 0,a,p,l,hp,hm => Gives.ok ⟨rfl,hm,hp⟩
 | n + 1,a,p,l,hp,hm => Gives.bind (num.gives hb p 1) fun t p1 h1 => by
   split
   ·refine Gives.bind (num.gives hb p1 2) fun s p2 h2 => ?_
    split
    ·refine Gives.bind (some.gives hb pl p2) fun l1 p3 h3 => Gives.bind (some.gives hb pl p3) fun l2 p4 h4 => (maps.gives hb pl n _ p4 _ h4.2 ?_).mono fun r q g => ⟨by rw [g.1,List.length_append,List.length_singleton];omega,g.2⟩
     intro m h
     rcases List.mem_append.1 h with h|h
     ·exact hm m h
     ·obtain rfl:=List.mem_singleton.1 h
      exact ⟨h3.1,h4.1⟩
    ·exact Gives.er
   ·exact Gives.er
theorem all.gives {bs:List Int} (hb:IsBytes bs) (pl:List Cst):Gives (allV pl bs) (fun r _ => r.length < 65536∧∀ m ∈ r,MpR m) :=
 Gives.bind (num2.gives hb 0) fun n p h => Gives.bind (maps.gives hb pl n.toNat (-1) p [] h.2.2 (fun m hm => by cases hm)) fun l q g => by
  split
  ·exact Gives.ok ⟨by rw [g.1,List.length_nil];omega,g.2.1⟩
  ·exact Gives.er
theorem ms_kind.ev {bs:List Int} (hb:IsBytes bs) {pl:List Cst} (hs:Small pl) (t:Int) (p:Nat):Ev (fun k => ms_kind.f k pl bs t p) (kindV pl bs t p):=by
 unfold ms_kind.f kindV
 by_cases h0:t=0
 ·rw [if_pos h0];exact Ev.posC h0 (Ev.now _)
 rw [if_neg h0];refine Ev.negC h0 ?_
 by_cases h1:t=1
 ·rw [if_pos h1];exact Ev.posC h1 (Ev.now _)
 rw [if_neg h1];refine Ev.negC h1 ?_
 by_cases h4:t=4
 ·rw [if_pos h4];exact Ev.posC h4 (Ev.now _)
 rw [if_neg h4];refine Ev.negC h4 ?_
 by_cases h5:t=5
 ·rw [if_pos h5];exact Ev.posC h5 (Ev.now _)
 rw [if_neg h5];refine Ev.negC h5 ?_
 by_cases h6:t=6
 ·rw [if_pos h6];exact Ev.posC h6 (Ev.now _)
 rw [if_neg h6];refine Ev.negC h6 ?_
 by_cases h7:t=7
 ·rw [if_pos h7];refine Ev.posC h7 ?_
  refine Ev.rdo (ms_num.ev hb p 2 (by decide)) fun i q _ => ?_
  refine Ev.bind (a:=classV pl i) ⟨0,fun k _ => pool_Class.eq pl i⟩ ?_
  exact Ev.bind (maps_Type.evS (classV_small hs i)) (Ev.now _)
 rw [if_neg h7];refine Ev.negC h7 ?_
 by_cases h8:t=8
 ·rw [if_pos h8];refine Ev.posC h8 ?_
  exact Ev.rdo (ms_num.ev hb p 2 (by decide)) fun i q _ => Ev.now _
 rw [if_neg h8];exact Ev.negC h8 (Ev.now _)
theorem ms_one.ev {bs:List Int} (hb:IsBytes bs) {pl:List Cst} (hs:Small pl) (p:Nat):Ev (fun k => ms_one.f k pl bs p) (oneV pl bs p) :=
 Ev.rdo (ms_num.ev hb p 1 (by decide)) fun t q _ => ms_kind.ev hb hs t q
theorem ms_list.ev {bs:List Int} (hb:IsBytes bs) {pl:List Cst} (hs:Small pl):∀ (n p:Nat) (l:List Typ),Ev (fun k => ms_list.f k pl bs n p l) (listV pl bs n p l)
 | 0,p,l => Ev.now _
 | n + 1,p,l => Ev.rdo (ms_one.ev hb hs p) fun t q _ => ms_list.ev hb hs n q (l++[t])
theorem ms_some.ev {bs:List Int} (hb:IsBytes bs) {pl:List Cst} (hs:Small pl) (p:Nat):Ev (fun k => ms_some.f k pl bs p) (someV pl bs p) :=
 Ev.rdo (ms_num.ev hb p 2 (by decide)) fun n q _ => by
  by_cases h:n≤64
  ·rw [if_pos h];exact Ev.posC h (ms_list.ev hb hs n.toNat q [])
  ·rw [if_neg h];exact Ev.negC h (Ev.now _)
theorem rd_typ (l:List Typ) (i:Nat) (h:i < l.length):rd_T41 l (i:Int)=l[i]:=by
 unfold rd_T41
 rw [Int.toNat_natCast,List.getD_eq_getElem?_getD,List.getElem?_eq_getElem h]
 rfl
theorem maps_fresh.ev_l (l:List Typ) (hl:l.length≤64):∀ n (i:Nat),l.length≤i + n→i≤l.length→Ev (fun k => maps_fresh.l0 k l (l.length:Int) (i:Int)) (freshV (l.drop i)):=by
 have stop:∀ i:Nat,i=l.length→Ev (fun k => maps_fresh.l0 k l (l.length:Int) (i:Int)) (freshV (l.drop i)):=by
  intro i hi
  refine Ev.step (f:=fun _ => some false) (fun k => by simp only [maps_fresh.l0];rw [if_neg (by omega)]) ?_
  rw [hi,List.drop_length]
  exact Ev.now _
 intro n
 induction n with
 | zero => intro i h hi;exact stop i (by omega)
 | succ n ih =>
  intro i h hi
  by_cases hlt:i < l.length
  ·have hC:(i:Int) < (l.length:Int):=by omega
   have hD:(0:Int)≤(i:Int):=by omega
   have e4:wrap64 ((i:Int) + 1)=((i + 1:Nat):Int):=by unfold wrap64;omega
   refine Ev.step (f:=fun k => if (l[i]).f0=7 then some true else maps_fresh.l0 k l (l.length:Int) ((i + 1:Nat):Int)) (fun k => ?_) ?_
   ·simp only [maps_fresh.l0]
    rw [if_pos hC,if_pos hD,if_pos hC,rd_typ l i hlt,e4]
   ·rw [List.drop_eq_getElem_cons hlt]
    by_cases h7:(l[i]).f0=7
    ·have e:freshV (l[i] :: l.drop (i + 1))=true:=by unfold freshV;rw [List.any_cons,decide_eq_true h7];rfl
     rw [e]
     exact Ev.posC h7 (Ev.now _)
    ·have e:freshV (l[i] :: l.drop (i + 1))=freshV (l.drop (i + 1)):=by unfold freshV;rw [List.any_cons,decide_eq_false h7];rfl
     rw [e]
     exact Ev.negC h7 (ih (i + 1) (by omega) (by omega))
  ·exact stop i (by omega)
theorem maps_fresh.ev (l l2:List Typ) (b:Bool) (hl:l.length≤64):Ev (fun k => maps_fresh.f k l l2 b) (freshV l):=maps_fresh.ev_l l hl l.length 0 (by omega) (by omega)
theorem md_maps.ev {bs:List Int} (hb:IsBytes bs) {pl:List Cst} (hs:Small pl):∀ (n:Nat) (a:Int) (p:Nat) (l:List Mp),-1≤a→a≤4096→Ev (fun k => md_maps.f k pl bs n a p l) (mapsV pl bs n a p l)
 | 0,a,p,l,_,_ => Ev.now _
 | n + 1,a,p,l,ha,hA => Ev.rdo (ms_num.ev hb p 1 (by decide)) fun t p1 _ => by
   by_cases ht:t=255
   ·rw [if_pos ht]
    refine Ev.posC ht (Ev.rdo (ms_num.ev hb p1 2 (by decide)) fun s p2 h2 => ?_)
    have hr:=num2.gives hb p1 s p2 h2
    have e:wrap64 (a + wrap64 (s + 1))=a + (s + 1):=by unfold wrap64;omega
    rw [e]
    by_cases hc:a + (s + 1)≤4096
    ·rw [if_pos hc]
     refine Ev.posC hc (Ev.rdo (ms_some.ev hb hs p2) fun l1 p3 h3 => Ev.rdo (ms_some.ev hb hs p3) fun l2 p4 _ => ?_)
     exact Ev.bind (maps_fresh.ev l1 l2 false (some.gives hb pl p2 l1 p3 h3).1) (md_maps.ev hb hs n _ p4 _ (by omega) hc)
    ·rw [if_neg hc];exact Ev.negC hc (Ev.now _)
   ·rw [if_neg ht];exact Ev.negC ht (Ev.now _)
theorem md_all.ev {bs:List Int} (hb:IsBytes bs) {pl:List Cst} (hs:Small pl):Ev (fun k => md_all.f k pl bs) (allV pl bs) :=
 Ev.rdo (ms_num.ev hb 0 2 (by decide)) fun n p h => by
  have hr:=num2.gives hb 0 n p h
  refine Ev.posC (by omega) (Ev.rdo (md_maps.ev hb hs n.toNat (-1) p [] (by decide) (by decide)) fun l q _ => Ev.now _)
theorem maps_Decode.ev {bs:List Int} (hb:IsBytes bs) (hl:bs.length≤1048576) {pl:List Cst} (hs:Small pl):Ev (fun k => maps_Decode.f k pl bs) (decV pl bs):=by
 unfold maps_Decode.f decV
 by_cases h:bs.length=0
 ·rw [if_pos h];exact Ev.posC h (Ev.now _)
 ·rw [if_neg h];exact Ev.negC h (Ev.posC (by omega) (Ev.bind (md_all.ev hb hs) (Ev.now _)))
end Go.Proofs.Ytnihihcopcoabaa.Px
namespace Go.Proofs.Ytnihihcopcoabaa.Px
open Go.RowKit Go.Proofs.YtnihihcopcoabaaW.PrintWords Go.Proofs.YtnihihcopcoabaaW.PrintLast Go.Proofs.YtnihihcopcoabaaW.PrintMore
set_option linter.unusedVariables false
set_option linter.unusedSimpArgs false
theorem ref_is.eq (pl:List Cst) (i t:Int):understudyref04_is.f pl i t=some (isV pl i t):=by
 unfold understudyref04_is.f isV
 by_cases h:i ≥ 1
 ·by_cases h2:i < (pl.length:Int)
  ·rw [if_pos h,if_pos h2,if_pos (by omega),decide_eq_true (by omega),decide_eq_true h2];rfl
  ·rw [if_pos h,if_neg h2,decide_eq_false h2,Bool.and_false];rfl
 ·rw [if_neg h,decide_eq_false (by omega)];rfl
theorem ref_Text.eq (pl:List Cst) (i:Int):understudyref04_Text.f pl i=some (textV pl i):=by
 unfold understudyref04_Text.f textV
 rw [ref_is.eq]
 simp only [Option.bind_some]
 by_cases h:isV pl i 1=true
 ·have:=isV_in h
  rw [if_pos h,if_pos this.1,if_pos this.2,if_pos h]
 ·rw [if_neg h,if_neg h]
theorem ref_Class.eq (pl:List Cst) (i:Int):understudyref04_Class.f pl i=some (classV pl i):=by
 unfold understudyref04_Class.f classV
 rw [ref_is.eq]
 simp only [Option.bind_some]
 by_cases h:isV pl i 7=true
 ·have:=isV_in h
  rw [if_pos h,if_pos this.1,if_pos this.2,if_pos h,ref_Text.eq]
  rfl
 ·rw [if_neg h,if_neg h]
theorem ref_Type.evS {s:ByteArray} (h:s.size≤1048576):Ev (fun k => understudyref10_Type.f k s) (nameV s):=by
 have:=ref_Type.ev s.data.toList (name_len h)
 rw [BA_eta] at this
 exact this
theorem rd_rdL {bs:List Int} {p n i:Nat} (h:p + n≤bs.length) (hi:i < n):rd (rdL bs p n) (i:Int)=rd bs ((p:Int) + (i:Int)):=by
 unfold rdL
 rw [if_pos h]
 unfold rd
 rw [Int.toNat_natCast,show ((p:Int) + (i:Int)).toNat=p + i by omega,List.getD_eq_getElem?_getD,List.getD_eq_getElem?_getD,List.getElem?_drop,List.getElem?_take,if_pos (by omega)]
theorem refU.ev_l {bs:List Int} (hb:IsBytes bs) (hl:bs.length≤140737488351232) (p n:Nat) (h8:n≤8) (h:p + n≤bs.length):∀ m (i:Nat),n≤i + m→i≤n→Ev (fun k => understudyref01_Reader_Uint.l0 k (n:Int) (beV ((rdL bs p n).take i)) (i:Int) bs (p:Int)) (beV (rdL bs p n),0,((p + n:Nat):Int)):=by
 have hlen:=rdL_len h
 have hbl:=rdL_bytes hb p n
 have stop:∀ i:Nat,i=n→Ev (fun k => understudyref01_Reader_Uint.l0 k (n:Int) (beV ((rdL bs p n).take i)) (i:Int) bs (p:Int)) (beV (rdL bs p n),0,((p + n:Nat):Int)):=by
  intro i hi
  have e:wrap64 ((p:Int) + (n:Int))=((p + n:Nat):Int):=by unfold wrap64;omega
  refine Ev.step (f:=fun _ => some (beV ((rdL bs p n).take i),0,((p + n:Nat):Int))) (fun k => by simp only [understudyref01_Reader_Uint.l0];rw [if_neg (by omega),e]) ?_
  rw [List.take_of_length_le (by omega)]
  exact Ev.now _
 intro m
 induction m with
 | zero => intro i h1 hi;exact stop i (by omega)
 | succ m ih =>
  intro i h1 hi
  by_cases hlt:i < n
  ·have hA:n≤i + 1 + m:=by omega
   have hB:i + 1≤n:=by omega
   have hC:(i:Int) < (n:Int):=by omega
   have hD:wrap64 ((p:Int) + (i:Int))=(p:Int) + (i:Int):=by unfold wrap64;omega
   have hE:0≤(p:Int) + (i:Int):=by omega
   have hF:(p:Int) + (i:Int) < (bs.length:Int):=by omega
   have hG:=rd_rdL h hlt
   have hli:i < (rdL bs p n).length:=by omega
   generalize hll:rdL bs p n=l at *
   have hr:=beV_range (l.take i) (hbl.take i)
   rw [List.length_take,Nat.min_eq_left (by omega)] at hr
   have hp:=pow256 (i:=i) (by omega)
   have hc:=rd_byte hbl (i:Int)
   have e1:IntKind.u64.wrap (beV (l.take i) * 256)=beV (l.take i) * 256:=wraps_u64 _ (by omega) (by omega)
   have e2:IntKind.u64.wrap (rd l (i:Int))=rd l (i:Int):=wraps_u64 _ hc.1 (by omega)
   have e3:bits .or .u64 (beV (l.take i) * 256) (rd l (i:Int))=beV (l.take (i + 1)):=by
    rw [or_u64 (by omega) (by omega) (by omega) hc.1 hc.2,rd_take hli,beV_snoc]
   have e4:wrap64 ((i:Int) + 1)=((i + 1:Nat):Int):=by unfold wrap64;omega
   refine Ev.step (f:=fun k => understudyref01_Reader_Uint.l0 k (n:Int) (beV (l.take (i + 1))) ((i + 1:Nat):Int) bs (p:Int)) (fun k => ?_) (ih (i + 1) hA hB)
   simp only [understudyref01_Reader_Uint.l0]
   rw [if_pos hC,hD,if_pos hE,if_pos hF,← hG,e1,e2,e3,e4]
  ·exact stop i (by omega)
theorem refU.ok {bs:List Int} (hb:IsBytes bs) (hl:bs.length≤140737488351232) (p n:Nat) (h1:1≤n) (h8:n≤8) (h:p + n≤bs.length):Ev (fun k => understudyref01_Reader_Uint.f k bs (p:Int) (n:Int)) (beV (rdL bs p n),0,((p + n:Nat):Int)):=by
 unfold understudyref01_Reader_Uint.f
 refine Ev.congr (f:=fun k => understudyref01_Reader_Uint.j0 k (n:Int) false bs (p:Int)) (fun k => by rw [if_neg (by omega),decide_eq_false (by omega)]) ?_
 have e:wrap64 ((bs.length:Int) - (p:Int))=(bs.length:Int) - (p:Int):=by unfold wrap64;omega
 refine Ev.step (f:=fun k => understudyref01_Reader_Uint.l0 k (n:Int) 0 0 bs (p:Int)) (fun k => by simp only [understudyref01_Reader_Uint.j0];rw [if_neg (by simp),e,if_neg (by omega)]) ?_
 exact refU.ev_l hb hl p n h8 h n 0 (by omega) (by omega)
theorem refU.er {bs:List Int} (hl:bs.length≤140737488351232) (p n:Nat) (h1:1≤n) (h8:n≤8) (hp:p≤bs.length) (h:¬ p + n≤bs.length):Ev (fun k => understudyref01_Reader_Uint.f k bs (p:Int) (n:Int)) (0,3,(p:Int)):=by
 unfold understudyref01_Reader_Uint.f
 refine Ev.congr (f:=fun k => understudyref01_Reader_Uint.j0 k (n:Int) false bs (p:Int)) (fun k => by rw [if_neg (by omega),decide_eq_false (by omega)]) ?_
 have e:wrap64 ((bs.length:Int) - (p:Int))=(bs.length:Int) - (p:Int):=by unfold wrap64;omega
 exact Ev.step (f:=fun k => some (0,3,(p:Int))) (fun k => by simp only [understudyref01_Reader_Uint.j0];rw [if_neg (by simp),e,if_pos (by omega)]) (Ev.now _)
def CnA {α:Type} (A:α→Prop) (bs:List Int) (F:Nat→Option (α × Int × Int)) (s:Rdo α):Prop:=match s with
 | .ok x q => Ev F (x,(q:Int),0)∧q≤bs.length
 | .er n => n ≠ 0∧∃ x p,A x∧Ev F (x,p,n)
abbrev Cn {α:Type} (bs:List Int) (F:Nat→Option (α × Int × Int)) (s:Rdo α):Prop:=CnA (fun _ => True) bs F s
theorem xr_num.cn {bs:List Int} (hb:IsBytes bs) (hl:bs.length≤140737488351232) (p n:Nat) (h1:1≤n) (h7:n≤7) (hp:p≤bs.length):Cn bs (fun k => xr_num.f k bs (p:Int) 0 (n:Int)) (numV bs p n):=by
 unfold numV
 by_cases h:p + n≤bs.length
 ·rw [if_pos h]
  have hr:=beV_range _ (rdL_bytes hb p n)
  rw [rdL_len h] at hr
  have hp:=pow256 h7
  have e1:wrap64 (beV (rdL bs p n))=beV (rdL bs p n):=by unfold wrap64;omega
  refine ⟨Ev.posC rfl (Ev.bind (refU.ok hb hl p n h1 (by omega) h) ?_),h⟩
  simp only [e1,if_true]
  exact Ev.now _
 ·rw [if_neg h]
  refine ⟨by decide,0,(p:Int),trivial,Ev.posC rfl (Ev.bind (refU.er hl p n h1 (by omega) hp h) ?_)⟩
  simp only []
  rw [if_neg (by decide)]
  exact Ev.now _
theorem xr_num.cn1 {bs:List Int} (hb:IsBytes bs) (hl:bs.length≤140737488351232) (p:Nat) (hp:p≤bs.length):Cn bs (fun k => xr_num.f k bs (p:Int) 0 1) (numV bs p 1):=xr_num.cn hb hl p 1 (by decide) (by decide) hp
theorem xr_num.cn2 {bs:List Int} (hb:IsBytes bs) (hl:bs.length≤140737488351232) (p:Nat) (hp:p≤bs.length):Cn bs (fun k => xr_num.f k bs (p:Int) 0 2) (numV bs p 2):=xr_num.cn hb hl p 2 (by decide) (by decide) hp
theorem xr_num.dead {bs:List Int} {p e n:Int} (he:e ≠ 0) (k:Nat):xr_num.f k bs p e n=some (0,p,e):=if_neg he
theorem badE_no (e:Int):badE e false=e:=by unfold badE;rw [if_neg (by simp)]
theorem badE_dead {e:Int} (h:e ≠ 0) (b:Bool):badE e b=e:=by unfold badE;rw [if_neg (fun x => h x.2)]
theorem badE_0:badE 0 true=100:=by unfold badE;rw [if_pos ⟨rfl,rfl⟩]
theorem Cn.step {α β:Type} {A:α→Prop} {A':β→Prop} {bs:List Int} {F:Nat→Option (α × Int × Int)} {G:Nat→α × Int × Int→Option (β × Int × Int)} {V:Rdo α} {W:α→Nat→Rdo β} (hF:CnA A bs F V) (hok:∀ x q,V=.ok x q→q≤bs.length→CnA A' bs (fun k => G k (x,(q:Int),0)) (W x q)) (her:∀ x p e,e ≠ 0→A x→∃ x' p',A' x'∧Ev (fun k => G k (x,p,e)) (x',p',e)):CnA A' bs (fun k => (F k).bind (G k)) (V.bindV W):=by
 cases V with
 | ok x q =>
  obtain ⟨h1,h2⟩:=hF
  have h:=hok x q rfl h2
  show CnA A' bs _ (W x q)
  cases hW:W x q with
  | ok y r => rw [hW] at h;exact ⟨Ev.bind h1 h.1,h.2⟩
  | er n =>
   rw [hW] at h
   obtain ⟨hn,x',p',hA,hx⟩:=h
   exact ⟨hn,x',p',hA,Ev.bind h1 hx⟩
 | er n =>
  obtain ⟨hn,x,p,hA,hx⟩:=hF
  obtain ⟨x',p',hA',hy⟩:=her x p n hn hA
  exact ⟨hn,x',p',hA',Ev.bind hx hy⟩
theorem Cn.congr {α:Type} {A:α→Prop} {bs:List Int} {F F':Nat→Option (α × Int × Int)} {s:Rdo α} (h:∀ k,F k=F' k) (k:CnA A bs F' s):CnA A bs F s:=by
 cases s with
 | ok x q => exact ⟨Ev.congr h k.1,k.2⟩
 | er n => obtain ⟨hn,x,p,hA,hx⟩:=k;exact ⟨hn,x,p,hA,Ev.congr h hx⟩
theorem Cn.ok {α:Type} {A:α→Prop} {bs:List Int} {x:α} {q:Nat} (h:q≤bs.length):CnA A bs (fun _ => some (x,(q:Int),0)) (.ok x q):=⟨Ev.now _,h⟩
theorem Cn.er {α:Type} {A:α→Prop} {bs:List Int} {x:α} {p n:Int} (h:n ≠ 0) (hA:A x):CnA A bs (fun _ => some (x,p,n)) (.er n):=⟨h,x,p,hA,Ev.now _⟩
theorem xr_tag.cn {bs:List Int} (hb:IsBytes bs) (hl:bs.length≤140737488351232) {pl:List Cst} (hs:Small pl) (t:Int) (p:Nat) (hp:p≤bs.length):Cn bs (fun k => xr_tag.f k pl bs t (p:Int)) (kindV pl bs t p):=by
 unfold xr_tag.f kindV
 by_cases h0:t=0
 ·rw [if_pos h0];exact Cn.congr (fun k => if_pos h0) (Cn.ok hp)
 rw [if_neg h0];refine Cn.congr (fun k => if_neg h0) ?_
 by_cases h1:t=1
 ·rw [if_pos h1];exact Cn.congr (fun k => if_pos h1) (Cn.ok hp)
 rw [if_neg h1];refine Cn.congr (fun k => if_neg h1) ?_
 by_cases h4:t=4
 ·rw [if_pos h4];exact Cn.congr (fun k => if_pos h4) (Cn.ok hp)
 rw [if_neg h4];refine Cn.congr (fun k => if_neg h4) ?_
 by_cases h5:t=5
 ·rw [if_pos h5];exact Cn.congr (fun k => if_pos h5) (Cn.ok hp)
 rw [if_neg h5];refine Cn.congr (fun k => if_neg h5) ?_
 by_cases h6:t=6
 ·rw [if_pos h6];exact Cn.congr (fun k => if_pos h6) (Cn.ok hp)
 rw [if_neg h6];refine Cn.congr (fun k => if_neg h6) ?_
 by_cases h7:t=7
 ·rw [if_pos h7];refine Cn.congr (fun k => if_pos h7) ?_
  have hB:∀ i q e:Int,Ev (fun k => (understudyref04_Class.f pl i).bind fun c => (understudyref10_Type.f k c.1).bind fun y => some ((⟨y.1,y.2.1,y.2.2.1,y.2.2.2.1,y.2.2.2.2.1⟩:Typ),q,badE e (!c.2 || !y.2.2.2.2.2))) (⟨(nameV (classV pl i).1).1,(nameV (classV pl i).1).2.1,(nameV (classV pl i).1).2.2.1,(nameV (classV pl i).1).2.2.2.1,(nameV (classV pl i).1).2.2.2.2.1⟩,q,badE e (!(classV pl i).2 || !(nameV (classV pl i).1).2.2.2.2.2)):=fun i q e =>
   Ev.bind (a:=classV pl i) ⟨0,fun k _ => ref_Class.eq pl i⟩ (Ev.bind (ref_Type.evS (classV_small hs i)) (Ev.now _))
  refine Cn.step (xr_num.cn2 hb hl p hp) (fun i q _ hq => ?_) (fun x p' e he hA => ?_)
  ·have hB:=hB i q 0
   by_cases hc:(classV pl i).2=true∧(nameV (classV pl i).1).2.2.2.2.2=true
   ·rw [if_pos hc]
    rw [show badE 0 (!(classV pl i).2 || !(nameV (classV pl i).1).2.2.2.2.2)=0 by rw [hc.1,hc.2];exact badE_no 0] at hB
    exact ⟨hB,hq⟩
   ·rw [if_neg hc]
    have e:(!(classV pl i).2 || !(nameV (classV pl i).1).2.2.2.2.2)=true:=by
     cases h1:(classV pl i).2
     ·rfl
     ·cases h2:(nameV (classV pl i).1).2.2.2.2.2
      ·rfl
      ·exact absurd ⟨h1,h2⟩ hc
    rw [e,badE_0] at hB
    exact ⟨by decide,_,_,trivial,hB⟩
  ·have hB:=hB x p' e
   rw [badE_dead he (!(classV pl x).2 || !(nameV (classV pl x).1).2.2.2.2.2)] at hB
   exact ⟨_,_,trivial,hB⟩
 rw [if_neg h7];refine Cn.congr (fun k => if_neg h7) ?_
 by_cases h8:t=8
 ·rw [if_pos h8];refine Cn.congr (fun k => if_pos h8) ?_
  refine Cn.step (xr_num.cn2 hb hl p hp) (fun i q _ hq => ?_) (fun x p' e he hA => ?_)
  ·by_cases hc:i≤4096
   ·rw [if_pos hc]
    have e:decide (i > 4096)=false:=decide_eq_false (by omega)
    simp only [e,badE_no]
    exact Cn.ok hq
   ·rw [if_neg hc]
    have e:decide (i > 4096)=true:=decide_eq_true (by omega)
    simp only [e,badE_0]
    exact Cn.er (by decide) trivial
  ·simp only [badE_dead he]
   exact ⟨_,_,trivial,Ev.now _⟩
 rw [if_neg h8];refine Cn.congr (fun k => if_neg h8) (Cn.er (by decide) (by trivial))
theorem xr_kind.cn {bs:List Int} (hb:IsBytes bs) (hl:bs.length≤140737488351232) {pl:List Cst} (hs:Small pl) (p:Nat) (hp:p≤bs.length):Cn bs (fun k => xr_kind.f k pl bs (p:Int) 0) (oneV pl bs p):=by
 refine Cn.step (xr_num.cn1 hb hl p hp) (fun t q _ hq => ?_) (fun x p' e he hA => ?_)
 ·exact Cn.congr (fun k => if_pos rfl) (xr_tag.cn hb hl hs t q hq)
 ·exact ⟨_,_,trivial,Ev.negC he (Ev.now _)⟩
theorem xr_list.dead {pl:List Cst} {bs:List Int} {l:List Typ} {p e:Int} (he:e ≠ 0) (m k:Nat):xr_list.f k pl bs m l p e=some (l,p,e):=by
 cases m with
 | zero => rfl
 | succ m => exact if_neg he
theorem xr_list.cn {bs:List Int} (hb:IsBytes bs) (hl:bs.length≤140737488351232) {pl:List Cst} (hs:Small pl):∀ (m p:Nat) (l:List Typ),l.length + m≤64→p≤bs.length→CnA (fun r => r.length≤64) bs (fun k => xr_list.f k pl bs m l (p:Int) 0) (listV pl bs m p l)
 | 0,p,l,_,hp => Cn.ok hp
 | m + 1,p,l,hm,hp => by
  refine Cn.congr (fun k => (if_pos rfl).trans (if_pos (by omega))) (Cn.step (xr_kind.cn hb hl hs p hp) (fun t q _ hq => ?_) (fun x p' e he hA => ?_))
  ·exact xr_list.cn hb hl hs m q (l++[t]) (by rw [List.length_append,List.length_singleton];omega) hq
  ·exact ⟨_,_,by rw [List.length_append,List.length_singleton];omega,Ev.congr (fun k => xr_list.dead he m k) (Ev.now _)⟩
theorem xr_kinds.cn {bs:List Int} (hb:IsBytes bs) (hl:bs.length≤140737488351232) {pl:List Cst} (hs:Small pl) (p:Nat) (hp:p≤bs.length):CnA (fun r => r.length≤64) bs (fun k => xr_kinds.f k pl bs (p:Int) 0) (someV pl bs p):=by
 refine Cn.step (xr_num.cn2 hb hl p hp) (fun n q hn hq => ?_) (fun x p' e he hA => ?_)
 ·by_cases hc:n≤64
  ·rw [if_pos hc]
   have e:decide (n > 64)=false:=decide_eq_false (by omega)
   simp only [e,badE_no]
   exact xr_list.cn hb hl hs n.toNat q [] (by rw [List.length_nil];omega) hq
  ·rw [if_neg hc]
   have e:decide (n > 64)=true:=decide_eq_true (by omega)
   simp only [e,badE_0]
   exact Cn.congr (fun k => xr_list.dead (by decide) _ k) (Cn.er (by decide) (by trivial))
 ·exact ⟨[],p',by decide,Ev.congr (fun k => by simp only [badE_dead he];exact xr_list.dead he _ k) (Ev.now _)⟩
theorem xr_kinds.dead {pl:List Cst} {bs:List Int} {p e:Int} (he:e ≠ 0) (k:Nat):xr_kinds.f k pl bs p e=some ([],p,e):=by
 unfold xr_kinds.f
 rw [xr_num.dead he]
 simp only [Option.bind_some,badE_dead he]
 exact xr_list.dead he _ k
theorem ref_fresh.ev_l (l:List Typ) (hl:l.length≤64):∀ n (i:Nat),l.length≤i + n→i≤l.length→Ev (fun k => understudyref10_fresh.l0 k l (i:Int)) (freshV (l.drop i)):=by
 have stop:∀ i:Nat,i=l.length→Ev (fun k => understudyref10_fresh.l0 k l (i:Int)) (freshV (l.drop i)):=by
  intro i hi
  refine Ev.step (f:=fun _ => some false) (fun k => by simp only [understudyref10_fresh.l0];rw [if_neg (by omega)]) ?_
  rw [hi,List.drop_length]
  exact Ev.now _
 intro n
 induction n with
 | zero => intro i h hi;exact stop i (by omega)
 | succ n ih =>
  intro i h hi
  by_cases hlt:i < l.length
  ·have hC:(i:Int) < (l.length:Int):=by omega
   have hD:(0:Int)≤(i:Int):=by omega
   have e4:wrap64 ((i:Int) + 1)=((i + 1:Nat):Int):=by unfold wrap64;omega
   refine Ev.step (f:=fun k => if (l[i]).f0=7 then some true else understudyref10_fresh.l0 k l ((i + 1:Nat):Int)) (fun k => ?_) ?_
   ·simp only [understudyref10_fresh.l0]
    rw [if_pos hC,if_pos hD,rd_typ l i hlt,e4]
   ·rw [List.drop_eq_getElem_cons hlt]
    by_cases h7:(l[i]).f0=7
    ·have e:freshV (l[i] :: l.drop (i + 1))=true:=by unfold freshV;rw [List.any_cons,decide_eq_true h7];rfl
     rw [e]
     exact Ev.posC h7 (Ev.now _)
    ·have e:freshV (l[i] :: l.drop (i + 1))=freshV (l.drop (i + 1)):=by unfold freshV;rw [List.any_cons,decide_eq_false h7];rfl
     rw [e]
     exact Ev.negC h7 (ih (i + 1) (by omega) (by omega))
  ·exact stop i (by omega)
theorem ref_fresh.ev (l:List Typ) (hl:l.length≤64):Ev (fun k => understudyref10_fresh.f k l) (freshV l):=ref_fresh.ev_l l hl l.length 0 (by omega) (by omega)
theorem xr_map.cn {bs:List Int} (hb:IsBytes bs) (hl:bs.length≤140737488351232) {pl:List Cst} (hs:Small pl) (a:Int) (p:Nat) (hp:p≤bs.length):Cn bs (fun k => xr_map.f k pl bs a (p:Int) 0) ((someV pl bs p).bindV fun l1 p3 => (someV pl bs p3).bindV fun l2 p4 => .ok ⟨a,⟨l1,l2,freshV l1⟩⟩ p4):=by
 refine Cn.step (xr_kinds.cn hb hl hs p hp) (fun l1 p3 h1 hp3 => ?_) (fun x p' e he hA => ?_)
 ·have hl1:=(some.gives hb pl p l1 p3 h1).1
  refine Cn.step (xr_kinds.cn hb hl hs p3 hp3) (fun l2 p4 _ hp4 => ?_) (fun x p' e he hA => ?_)
  ·exact ⟨Ev.bind (ref_fresh.ev l1 hl1) (Ev.now _),hp4⟩
  ·exact ⟨_,_,trivial,Ev.bind (ref_fresh.ev l1 hl1) (Ev.now _)⟩
 ·refine ⟨⟨a,⟨x,[],freshV x⟩⟩,p',trivial,Ev.congr (f:=fun k => (understudyref10_fresh.f k x).bind fun fr => some (⟨a,⟨x,[],fr⟩⟩,p',e)) (fun k => ?_) (Ev.bind (ref_fresh.ev x hA) (Ev.now _))⟩
  simp only []
  rw [xr_kinds.dead he]
  rfl
theorem xr_map.dead {pl:List Cst} {bs:List Int} {a p e:Int} (he:e ≠ 0):Ev (fun k => xr_map.f k pl bs a p e) (⟨a,⟨[],[],freshV []⟩⟩,p,e):=by
 unfold xr_map.f
 refine Ev.congr (f:=fun k => (understudyref10_fresh.f k []).bind fun fr => some (⟨a,⟨[],[],fr⟩⟩,p,e)) (fun k => ?_) (Ev.bind (ref_fresh.ev [] (by decide)) (Ev.now _))
 rw [xr_kinds.dead he]
 simp only [Option.bind_some]
 rw [xr_kinds.dead he]
 rfl
theorem xr_maps.dead {pl:List Cst} {bs:List Int} {a p e:Int} {l:List Mp} (he:e ≠ 0) (m k:Nat):xr_maps.f k pl bs m a l p e=some (l,p,e):=by
 cases m with
 | zero => rfl
 | succ m => exact if_neg he
theorem bindV_assoc {α β γ:Type} (o:Rdo α) (f:α→Nat→Rdo β) (g:β→Nat→Rdo γ):(o.bindV f).bindV g=o.bindV fun x p => (f x p).bindV g:=by cases o <;> rfl
def AtA (l:List Mp) (a aP:Int):Prop:=(l=[]∧a=0∧aP=-1) ∨ (l ≠ []∧a=aP∧0≤a∧a≤4096)
def headV (bs:List Int) (aP:Int) (p:Nat):Rdo Int:=(numV bs p 1).bindV fun t p1 => if t=255 then (numV bs p1 2).bindV fun s p2 => if aP + (s + 1)≤4096 then .ok (aP + (s + 1)) p2 else .er 100 else .er 100
theorem mapsV_head (pl:List Cst) (bs:List Int) (n:Nat) (a:Int) (p:Nat) (l:List Mp):mapsV pl bs (n + 1) a p l=(headV bs a p).bindV fun b p2 => ((someV pl bs p2).bindV fun l1 p3 => (someV pl bs p3).bindV fun l2 p4 => .ok ⟨b,⟨l1,l2,freshV l1⟩⟩ p4).bindV fun m p4 => mapsV pl bs n b p4 (l++[m]):=by
 have e:∀ (b:Int) (p2:Nat),(((someV pl bs p2).bindV fun l1 p3 => (someV pl bs p3).bindV fun l2 p4 => Rdo.ok (⟨b,⟨l1,l2,freshV l1⟩⟩:Mp) p4).bindV fun m p4 => mapsV pl bs n b p4 (l++[m]))=(someV pl bs p2).bindV fun l1 p3 => (someV pl bs p3).bindV fun l2 p4 => mapsV pl bs n b p4 (l++[⟨b,⟨l1,l2,freshV l1⟩⟩]):=by
  intro b p2
  rw [bindV_assoc]
  congr 1
  funext l1 p3
  rw [bindV_assoc]
  rfl
 simp only [e]
 unfold headV
 rw [bindV_assoc]
 show (numV bs p 1).bindV _=_
 congr 1
 funext t p1
 by_cases ht:t=255
 ·rw [if_pos ht,if_pos ht,bindV_assoc]
  congr 1
  funext s p2
  by_cases hc:a + (s + 1)≤4096
  ·rw [if_pos hc,if_pos hc];rfl
  ·rw [if_neg hc,if_neg hc];rfl
 ·rw [if_neg ht,if_neg ht];rfl
def xr_head2 (k:Nat) (bs:List Int) (i:Nat) (a p e:Int):Option (Int × Int × Int):=(xr_head.f k bs i a p e).bind fun h => some (h.1,h.2.1,badE h.2.2 (decide (h.1 > 4096)))
theorem xr_head.cn {bs:List Int} (hb:IsBytes bs) (hl:bs.length≤140737488351232) {l:List Mp} {a aP:Int} (hA:AtA l a aP) (p:Nat) (hp:p≤bs.length):Cn bs (fun k => xr_head2 k bs l.length a (p:Int) 0) (headV bs aP p):=by
 refine Cn.congr (F':=fun k => (xr_num.f k bs p 0 1).bind fun t => (xr_num.f k bs t.2.1 (badE t.2.2 (t.1 != 255)) 2).bind fun s => some (wrap64 (a + if (0:Int) < l.length then wrap64 (s.1 + 1) else s.1),s.2.1,badE s.2.2 (decide (wrap64 (a + if (0:Int) < l.length then wrap64 (s.1 + 1) else s.1) > 4096)))) (fun k => ?_) ?_
 ·unfold xr_head2 xr_head.f
  cases xr_num.f k bs p 0 1 with
  | none => rfl
  | some t =>
   simp only [Option.bind_some]
   cases xr_num.f k bs t.2.1 (badE t.2.2 (t.1 != 255)) 2 with
   | none => rfl
   | some s => rfl
 refine Cn.step (xr_num.cn1 hb hl p hp) (fun t p1 ht hp1 => ?_) (fun x p' e he hA => ?_)
 ·by_cases h255:t=255
  ·rw [if_pos h255]
   have e:(t != 255)=false:=by rw [h255];rfl
   simp only [e,badE_no]
   refine Cn.step (xr_num.cn2 hb hl p1 hp1) (fun s p2 hs hp2 => ?_) (fun x p' e he hA => ?_)
   ·have hr:=num2.gives hb p1 s p2 hs
    have hw:wrap64 (a + if (0:Int) < l.length then wrap64 (s + 1) else s)=aP + (s + 1):=by
     rcases hA with ⟨h1,h2,h3⟩|⟨h1,h2,h3,h4⟩
     ·subst h1
      rw [if_neg (by simp),h2,h3]
      unfold wrap64;omega
     ·have:0 < l.length:=List.length_pos_iff.mpr h1
      rw [if_pos (by omega),← h2]
      unfold wrap64;omega
    simp only [hw]
    by_cases hc:aP + (s + 1)≤4096
    ·rw [if_pos hc,decide_eq_false (by omega),badE_no]
     exact Cn.ok hp2
    ·rw [if_neg hc,decide_eq_true (by omega),badE_0]
     exact Cn.er (by decide) trivial
   ·simp only [badE_dead he]
    exact ⟨_,_,trivial,Ev.now _⟩
  ·rw [if_neg h255]
   have e:(t != 255)=true:=bne_iff_ne.mpr h255
   simp only [e,badE_0]
   refine Cn.congr (F':=fun k => some (wrap64 (a + if (0:Int) < l.length then wrap64 (0 + 1) else 0),(p1:Int),100)) (fun k => ?_) (Cn.er (by decide) trivial)
   rw [xr_num.dead (by decide)]
   simp only [Option.bind_some,badE_dead (show (100:Int) ≠ 0 by decide)]
 ·refine ⟨wrap64 (a + if (0:Int) < l.length then wrap64 (0 + 1) else 0),p',trivial,Ev.congr (fun k => ?_) (Ev.now _)⟩
  simp only [badE_dead he]
  rw [xr_num.dead he]
  simp only [Option.bind_some,badE_dead he]
theorem xr_maps.cn {bs:List Int} (hb:IsBytes bs) (hl:bs.length≤140737488351232) {pl:List Cst} (hs:Small pl):∀ (m p:Nat) (l:List Mp) (a aP:Int),AtA l a aP→l.length + m≤65536→p≤bs.length→Cn bs (fun k => xr_maps.f k pl bs m a l (p:Int) 0) (mapsV pl bs m aP p l)
 | 0,p,l,a,aP,_,_,hp => Cn.ok hp
 | m + 1,p,l,a,aP,hA,hm,hp => by
  rw [mapsV_head]
  refine Cn.congr (F':=fun k => (xr_head2 k bs l.length a (p:Int) 0).bind fun h => (xr_map.f k pl bs h.1 h.2.1 h.2.2).bind fun y => xr_maps.f k pl bs m h.1 (l++[y.1]) y.2.1 y.2.2) (fun k => ?_) ?_
  ·refine ((if_pos rfl).trans (if_pos (by omega))).trans ?_
   unfold xr_head2
   rw [Option.bind_assoc]
   rfl
  refine Cn.step (xr_head.cn hb hl hA p hp) (fun b p2 hh hp2 => ?_) (fun x p' e he _ => ?_)
  ·have hb2:0≤b∧b≤4096:=by
    have hg:Gives (headV bs aP p) (fun b _ => 0≤b∧b≤4096):=Gives.bind (num.gives hb p 1) fun t p1 h1 => by
     split
     ·refine Gives.bind (num2.gives hb p1) fun s p2 h2 => ?_
      split
      ·refine Gives.ok ⟨?_,by assumption⟩
       rcases hA with ⟨_,_,h3⟩|⟨_,h2,h3,_⟩ <;> omega
      ·exact Gives.er
     ·exact Gives.er
    exact hg b p2 hh
   refine Cn.step (xr_map.cn hb hl hs b p2 hp2) (fun y p4 _ hp4 => ?_) (fun x p' e he _ => ?_)
   ·exact xr_maps.cn hb hl hs m p4 (l++[y]) b b (.inr ⟨by simp,rfl,hb2.1,hb2.2⟩) (by rw [List.length_append,List.length_singleton];omega) hp4
   ·exact ⟨_,_,trivial,Ev.congr (fun k => xr_maps.dead he m k) (Ev.now _)⟩
  ·exact ⟨_,_,trivial,Ev.bind (xr_map.dead he) (Ev.congr (fun k => xr_maps.dead he m k) (Ev.now _))⟩
theorem ref_Decode.ev {bs:List Int} (hb:IsBytes bs) (hl:bs.length≤1048576) {pl:List Cst} (hs:Small pl):Ev (fun k => understudyref10_Decode.f k pl bs) (decV pl bs):=by
 unfold understudyref10_Decode.f decV
 by_cases h:bs.length=0
 ·rw [if_pos h];exact Ev.posC h (Ev.now _)
 rw [if_neg h];refine Ev.negC h ?_
 have hl':bs.length≤140737488351232:=by omega
 have hN:=xr_num.cn2 hb hl' 0 (Nat.zero_le _)
 have hC:Cn bs (fun k => (xr_num.f k bs 0 0 2).bind fun n => xr_maps.f k pl bs n.1.toNat 0 [] n.2.1 n.2.2) ((numV bs 0 2).bindV fun n p => mapsV pl bs n.toNat (-1) p []):=by
  refine Cn.step hN (fun n p hn hp => ?_) (fun x p' e he _ => ?_)
  ·have hr:=num2.gives hb 0 n p hn
   exact xr_maps.cn hb hl' hs n.toNat p [] 0 (-1) (.inl ⟨rfl,rfl,rfl⟩) (by rw [List.length_nil];omega) hp
  ·exact ⟨_,_,trivial,Ev.congr (fun k => xr_maps.dead he _ k) (Ev.now _)⟩
 have hE:∀ r:List Mp × Int × Int,Ev (fun k => (xr_num.f k bs 0 0 2).bind fun n => xr_maps.f k pl bs n.1.toNat 0 [] n.2.1 n.2.2) r→Ev (fun k => (xr_num.f k bs 0 0 2).bind fun n => (xr_maps.f k pl bs n.1.toNat 0 [] n.2.1 n.2.2).bind fun r => some (xr_end bs r)) (xr_end bs r):=by
  intro r hr
  refine Ev.congr (fun k => ?_) (Ev.bind (f:=fun _ r => some (xr_end bs r)) hr (Ev.now _))
  rw [Option.bind_assoc]
 have e:allV pl bs=((numV bs 0 2).bindV fun n p => mapsV pl bs n.toNat (-1) p []).bindV fun l q => if q=bs.length then .ok l q else .er 100:=by
  rw [bindV_assoc];rfl
 rw [e]
 cases hV:((numV bs 0 2).bindV fun n p => mapsV pl bs n.toNat (-1) p []) with
 | ok l q =>
  rw [hV] at hC
  have h1:=hE _ hC.1
  show Ev _ (decM (if q=bs.length then .ok l q else .er 100))
  by_cases hq:q=bs.length
  ·rw [if_pos hq]
   have e2:xr_end bs (l,(q:Int),0)=(l,0):=by
    unfold xr_end
    rw [show (((l,(q:Int),(0:Int)):List Mp × Int × Int).2.1 != (bs.length:Int))=false by rw [hq];simp,badE_no,if_pos rfl]
   rw [e2] at h1
   exact h1
  ·rw [if_neg hq]
   have e2:xr_end bs (l,(q:Int),0)=([],100):=by
    unfold xr_end
    rw [show (((l,(q:Int),(0:Int)):List Mp × Int × Int).2.1 != (bs.length:Int))=true by rw [bne_iff_ne];intro x;exact hq (by have y:(q:Int)=(bs.length:Int):=x;omega),badE_0,if_neg (by decide)]
   rw [e2] at h1
   exact h1
 | er n =>
  rw [hV] at hC
  obtain ⟨hn,x,p,_,hx⟩:=hC
  have h1:=hE _ hx
  have e2:xr_end bs (x,p,n)=([],n):=by
   unfold xr_end
   rw [badE_dead hn,if_neg hn]
  rw [e2] at h1
  exact h1
end Go.Proofs.Ytnihihcopcoabaa.Px
namespace Go.Proofs.Ytnihihcopcoabaa.Px
open Go.RowKit Go.Proofs.YtnihihcopcoabaaW.PrintWords Go.Proofs.YtnihihcopcoabaaW.PrintLast Go.Proofs.YtnihihcopcoabaaW.PrintMore
set_option linter.unusedVariables false
set_option linter.unusedSimpArgs false
theorem decV_small {bs:List Int} (hb:IsBytes bs) (pl:List Cst):(decV pl bs).1.length≤1048576∧∀ m ∈ (decV pl bs).1,m.f1.f0.length≤1048576∧m.f1.f1.length≤1048576:=by
 unfold decV
 split
 ·exact ⟨by decide,fun m hm => by cases hm⟩
 ·have hg:=all.gives hb pl
  cases h:allV pl bs with
  | ok l q =>
   obtain ⟨h1,h2⟩:=hg l q h
   exact ⟨by show l.length≤_;omega,fun m hm => by have:=h2 m hm;unfold MpR at this;omega⟩
  | er e => exact ⟨Nat.zero_le _,fun m hm => by cases hm⟩
theorem MapsDecodes_pure (pl:List Cst) (bs:List Int) (hs:Small pl) (h1:bs.length≤1048576) (hw:∀ x ∈ bs,(Lit.int .u8 x).wf=true):∃ k,understudylaw10_MapsDecodes.f k pl bs=some true:=by
 have hb:=bytes_of_wf hw
 obtain ⟨K1,g1⟩:=maps_Decode.ev hb h1 hs
 obtain ⟨K2,g2⟩:=maps_awake.ev
 obtain ⟨K3,g3⟩:=ref_Decode.ev hb h1 hs
 have h:=decV_small hb pl
 exact ⟨K1 + K2 + K3,if_pos ⟨(decV pl bs).1,(decV pl bs).2,g1 _ (by omega),g3 _ (by omega),h1,h.1,h.2,g2 _ (by omega)⟩⟩
end Go.Proofs.Ytnihihcopcoabaa.Px
