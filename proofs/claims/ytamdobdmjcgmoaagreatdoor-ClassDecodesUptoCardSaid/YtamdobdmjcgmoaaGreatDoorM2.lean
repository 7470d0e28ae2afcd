/- understudyref05.file: fail, num, must, count, bytes, named: walked by hand. -/
/- understudyref05.file.method: a method of bytes, walked by hand. -/
/- understudyref04.read: a constant's bytes behind its tag, walked by hand. -/
/- understudyref04.one, walked by hand. -/
/- understudyref04.Decode, walked by hand. -/
/- wire.Reader: NewReader, next, Uint, Int, Bytes, At: what they read and where they stand then, as contracts over a reader's block and row. -/
/- class.reader's small methods: must, num, two, same, count, named, long: what they do when all is well, how they die. -/
/- class.reader's named and long. -/
import Derived.Test.YtamdobdmjcgmoaaGreatDoorM1
import Derived.Deep.DeepCutAuto
import Derived.Deep.CutBlock
import Derived.BigCall
import Derived.Deep.RegionHeld3
import Derived.WalkLawsBesides
namespace Go.Proofs.YtamdobdmjcgmoaaGreatDoor.Px
open Go.RowKit Go.Proofs.YtamdobdmjcgmoaaGreatDoorW.PrintWords Go.Proofs.YtamdobdmjcgmoaaGreatDoorW.PrintLast Go.Proofs.YtamdobdmjcgmoaaGreatDoorW.PrintMore
set_option linter.unusedVariables false
set_option linter.unusedSimpArgs false
structure IsFl (w0 w:World) (fb g:Nat) (bs:List Int) (p e:Int):Prop where
 R:IsS45 w0 w g bs p
 blk:w.heap[fb]?=some (.cells #[.pointer (some ⟨g,0,none⟩),.int .i64 e] 47 (0,0))
 bel:Below w0.heap.size w0 w
 ge:w0.heap.size≤fb
section
variable {w0 w w1 w2:World} {fb g:Nat} {bs:List Int} {p e q f:Int}
theorem IsFl.ne (h:IsFl w0 w fb g bs p e):fb ≠ g:=by
 rintro rfl
 obtain ⟨A0,c0,hb,_⟩:=h.R
 have:=hb.symm.trans h.blk
 injection this with e
 injection e with _ e
 exact absurd e (by decide)
theorem IsFl.c0 (h:IsFl w0 w fb g bs p e):w.cell? ⟨fb,0,none⟩=some (.pointer (some ⟨g,0,none⟩)):=(blk_cell h.blk 0).trans rfl
theorem IsFl.c1 (h:IsFl w0 w fb g bs p e):w.cell? ⟨fb,1,none⟩=some (.int .i64 e):=(blk_cell h.blk 1).trans rfl
theorem IsFl.f1 (h:IsFl w0 w fb g bs p e):w.frozen? ⟨fb,1,none⟩=false:=blk_frozen h.blk 1
theorem IsFl.drewN (h:IsFl w0 w fb g bs p e) (n:Nat):IsFl w0 (w.drewN n) fb g bs p e:=⟨h.R.drewN n,h.blk,pw_below_drewN h.bel n,h.ge⟩
theorem IsFl.lt (h:IsFl w0 w fb g bs p e):fb < w.heap.size:=blk_lt h.blk
theorem IsFl.setE (h:IsFl w0 w fb g bs p e) (x:Int):IsFl w0 (w.setCell ⟨fb,1,none⟩ (.int .i64 x)) fb g bs p x:=⟨h.R.far h.ne.symm _,blk_put h.blk 1 _ rfl,below_set h.bel h.ge,h.ge⟩
theorem kb_setRow {row:Nat} (h:KeepBut w w1 g (some row)) (j:Nat) (u:Value):KeepBut w (w1.setCell ⟨row,j,none⟩ u) g (some row) :=
 ⟨by simpa [World.setCell] using h.1,fun i hi hg hr => (Below.heap_setCell w1 ⟨row,j,none⟩ u i (fun e => hr (by rw [e]))).trans (h.2 i hi hg hr)⟩
theorem kb_wide (h:KeepBut w w1 g none) (row:Option Nat):KeepBut w w1 g row:=⟨h.1,fun i hi hg _ => h.2 i hi hg (by simp)⟩
theorem kb_R2 {α:Type} {d:Kd α} {t base:Nat} {u:Value} {ok:Nat→Prop} {xs:List α} {row:Nat} (h:KeepBut w w1 g (some row)) (hr:d.R t w base ok u xs) (hg:g < base) (hf:row < base):d.R t w1 base ok u xs :=
 Kd.R_mono (Kd.R_step (Kd.R_bound hr) (fun k hk hl => h.2 k hl (by have:=hk.2.1;omega) (fun e => by injection e with e;have:=hk.2.1;omega))) (fun k hk => hk.1)
end
def FlPost (w0 w:World) (fb g:Nat) (bs:List Int) (p e:Int) (w':World):Prop:=IsFl w0 w' fb g bs p e∧KeepBut w w' g (some fb)
section
variable {w0 w w1 w2:World} {fb g:Nat} {bs:List Int} {p e q f:Int}
theorem FlPost.from (h:KeepBut w w1 g (some fb)) (k:FlPost w0 w1 fb g bs p e w2):FlPost w0 w fb g bs p e w2:=⟨k.1,h.trans k.2 (.inl rfl)⟩
theorem FlPost.drewN (h:FlPost w0 w fb g bs p e w1) (n:Nat):FlPost w0 w fb g bs p e (w1.drewN n):=⟨h.1.drewN n,h.2.trans ⟨Nat.le_refl _,fun _ _ _ _ => rfl⟩ (.inl rfl)⟩
end
def failE (e x:Int):Int:=if e=0 then x else e
theorem fl_fail.calls {w0 w:World} {fb g:Nat} {bs:List Int} {p e:Int} (x:Int) (hI:IsFl w0 w fb g bs p e) :
  Calls Tryz.prog 12 #[.pointer (some ⟨fb,0,none⟩),.int .i64 x] w fun r w' => r=.returned (.tuple #[])∧FlPost w0 w fb g bs p (failE e x) w':=by
 have c1:=hI.c1
 have f1:=hI.f1
 have HI:=am_ hI
 clear hI
 unfold failE
 by_cases he:e=0
 ·rw [if_pos he]
  have hb:(e==0)=true:=beq_iff_eq.mpr he
  clear he
  go_enter Tryz.func12,Tryz.ntmps12
  go_wp2
  go_end0
  exact ⟨rfl,HI.out.setE _,kb_setRow (KeepBut.refl _ _ _) 1 _⟩
 rw [if_neg he]
 have hb:(e==0)=false:=beq_eq_false_iff_ne.mpr he
 clear he
 go_enter Tryz.func12,Tryz.ntmps12
 go_wp2
 go_end0
 exact ⟨rfl,HI.out,KeepBut.refl _ _ _⟩
def fl_num.f (k:Nat) (bs:List Int) (p e n:Int):Option (Int × Int × Int):=if e=0 then (understudyref01_Reader_Uint.f k bs p n).bind fun x => some (if x.2.1=0 then wrap64 x.1 else 0,x.2.2,x.2.1) else some (0,p,e)
set_option maxHeartbeats 8000000 in
set_option maxRecDepth 100000 in
theorem fl_num.calls {k:Nat} {w0 w:World} {fb g:Nat} {bs:List Int} {p e n x p' e':Int} (hI:IsFl w0 w fb g bs p e) (h:fl_num.f k bs p e n=some (x,p',e')) :
  Calls Tryz.prog 11 #[.pointer (some ⟨fb,0,none⟩),.int .i64 n] w fun r w' => r=.returned (.int .i64 x)∧FlPost w0 w fb g bs p' e' w':=by
 have c0:=hI.c0
 have c1:=hI.c1
 unfold fl_num.f at h
 by_cases he:e=0
 rotate_left
 ·rw [if_neg he] at h
  simp only [Option.some.injEq,Prod.mk.injEq] at h
  obtain ⟨rfl,rfl,rfl⟩:=h
  have hb:(e != 0)=true:=bne_iff_ne.mpr he
  have HI:=am_ hI
  clear hI he c0
  go_enter Tryz.func11,Tryz.ntmps11
  go_wp2
  go_ret
  exact ⟨rfl,HI.out,KeepBut.refl _ _ _⟩
 rw [if_pos he] at h
 have hb:(e != 0)=false:=bne_eq_false_iff_eq.mpr he
 obtain ⟨⟨y,er,q⟩,hx,h⟩:=Option.bind_eq_some_iff.mp h
 have HC:=am_ (understudyref01_Reader_Uint.calls k g bs p n y er q w0 w hI.R hI.bel hx)
 have HI:=am_ hI
 clear hI hx
 subst he
 simp only [Option.some.injEq,Prod.mk.injEq] at h
 obtain ⟨hv,rfl,rfl⟩:=h
 go_enter Tryz.func11,Tryz.ntmps11
 go_wp2_with fail
 refine HC.out.mono ?_
 rintro r w2 ⟨rfl,hS,hB,hK⟩
 have HF:Aside0 (FlPost w0 w fb g bs q 0 w2):=⟨⟨⟨hS,hK.blk HI.out.blk HI.out.ne (by simp),hB,HI.out.ge⟩,kb_wide hK _⟩⟩
 clear hS hB hK HC HI c0 c1
 by_cases her:er=0
 ·have heb:(er != 0)=false:=bne_eq_false_iff_eq.mpr her
  rw [if_pos her] at hv
  subst hv
  subst her
  go_wp2
  go_ret
  exact ⟨rfl,HF.out⟩
 have heb:(er != 0)=true:=bne_iff_ne.mpr her
 rw [if_neg her] at hv
 subst hv
 clear her
 go_wp2_with fail
 refine (fl_fail.calls er HF.out.1).mono ?_
 rintro r w3 ⟨rfl,hP⟩
 have HP:=am_ (FlPost.from HF.out.2 hP)
 clear hP HF
 go_wp2
 go_ret
 exact ⟨rfl,HP.out⟩
def fl_must.f (k:Nat) (bs:List Int) (p e want:Int):Option (Int × Int):=(fl_num.f k bs p e 2).bind fun x => some (x.2.1,if x.1=want then x.2.2 else failE x.2.2 50)
set_option maxHeartbeats 8000000 in
theorem fl_must.calls {k:Nat} {w0 w:World} {fb g:Nat} {bs:List Int} {p e want p' e':Int} (hI:IsFl w0 w fb g bs p e) (h:fl_must.f k bs p e want=some (p',e')) :
  Calls Tryz.prog 14 #[.pointer (some ⟨fb,0,none⟩),.int .i64 want] w fun r w' => r=.returned (.tuple #[])∧FlPost w0 w fb g bs p' e' w':=by
 obtain ⟨⟨x,q,f⟩,hx,h⟩:=Option.bind_eq_some_iff.mp h
 have HC:=am_ (fl_num.calls hI hx)
 clear hI hx
 simp only [Option.some.injEq,Prod.mk.injEq] at h
 obtain ⟨rfl,hv⟩:=h
 go_enter Tryz.func14,Tryz.ntmps14
 go_wp2_with fail
 refine HC.out.mono ?_
 rintro r w2 ⟨rfl,hF⟩
 have HF:=am_ hF
 clear hF HC
 by_cases hw:x=want
 ·have hb:(x != want)=false:=bne_eq_false_iff_eq.mpr hw
  rw [if_pos hw] at hv
  clear hw
  subst hv
  go_wp2
  go_end0
  exact ⟨rfl,HF.out⟩
 have hb:(x != want)=true:=bne_iff_ne.mpr hw
 rw [if_neg hw] at hv
 clear hw
 subst hv
 go_wp2_with fail
 refine (fl_fail.calls 50 HF.out.1).mono ?_
 rintro r w3 ⟨rfl,hP⟩
 have HP:=am_ (FlPost.from HF.out.2 hP)
 clear hP HF
 go_wp2
 go_end0
 exact ⟨rfl,HP.out⟩
def fl_count.f (k:Nat) (bs:List Int) (p e n most:Int):Option (Int × Int × Int):=(fl_num.f k bs p e n).bind fun x => some (if most < x.1 then (0,x.2.1,failE x.2.2 2) else x)
set_option maxHeartbeats 8000000 in
theorem fl_count.calls {k:Nat} {w0 w:World} {fb g:Nat} {bs:List Int} {p e n most x p' e':Int} (hI:IsFl w0 w fb g bs p e) (h:fl_count.f k bs p e n most=some (x,p',e')) :
  Calls Tryz.prog 15 #[.pointer (some ⟨fb,0,none⟩),.int .i64 n,.int .i64 most] w fun r w' => r=.returned (.int .i64 x)∧FlPost w0 w fb g bs p' e' w':=by
 obtain ⟨⟨y,q,f⟩,hx,h⟩:=Option.bind_eq_some_iff.mp h
 have HC:=am_ (fl_num.calls hI hx)
 clear hI hx
 have hv:=Option.some.inj h
 clear h
 go_enter Tryz.func15,Tryz.ntmps15
 go_wp2_with fail
 refine HC.out.mono ?_
 rintro r w2 ⟨rfl,hF⟩
 have HF:=am_ hF
 clear hF HC
 by_cases hw:most < y
 ·have hb:decide (y > most)=true:=decide_eq_true hw
  rw [if_pos hw] at hv
  clear hw
  simp only [Prod.mk.injEq] at hv
  obtain ⟨rfl,rfl,rfl⟩:=hv
  go_wp2_with fail
  refine (fl_fail.calls 2 HF.out.1).mono ?_
  rintro r w3 ⟨rfl,hP⟩
  have HP:=am_ (FlPost.from HF.out.2 hP)
  clear hP HF
  go_wp2
  go_ret
  exact ⟨rfl,HP.out⟩
 have hb:decide (y > most)=false:=decide_eq_false hw
 rw [if_neg hw] at hv
 clear hw
 simp only [Prod.mk.injEq] at hv
 obtain ⟨rfl,rfl,rfl⟩:=hv
 go_wp2
 go_ret
 exact ⟨rfl,HF.out⟩
def fl_bytes.f (bs:List Int) (p e n:Int):Option (List Int × Int × Int):=if e=0 then (understudyref01_Reader_Bytes.f bs p n).bind fun x => some (x.1,x.2.2,x.2.1) else some ([],p,e)
set_option maxHeartbeats 8000000 in
set_option maxRecDepth 100000 in
theorem fl_bytes.calls {w0 w:World} {fb g:Nat} {bs l:List Int} {p e n p' e':Int} (hI:IsFl w0 w fb g bs p e) (h:fl_bytes.f bs p e n=some (l,p',e')) :
  Calls Tryz.prog 33 #[.pointer (some ⟨fb,0,none⟩),.int .i64 n] w fun r w' => ∃ v:Value,r=.returned v∧Kd.R (Kd.int .u8) 5 w' w.heap.size (fun _ => True) v l∧FlPost w0 w fb g bs p' e' w':=by
 have c0:=hI.c0
 have c1:=hI.c1
 unfold fl_bytes.f at h
 by_cases he:e=0
 rotate_left
 ·rw [if_neg he] at h
  simp only [Option.some.injEq,Prod.mk.injEq] at h
  obtain ⟨rfl,rfl,rfl⟩:=h
  have hb:(e != 0)=true:=bne_iff_ne.mpr he
  have HI:=am_ hI
  clear hI he c0
  go_enter Tryz.func33,Tryz.ntmps33
  go_wp2
  go_ret
  exact ⟨_,rfl,Kd.R_nil _ _ _ _ _,HI.out,KeepBut.refl _ _ _⟩
 rw [if_pos he] at h
 have hb:(e != 0)=false:=bne_eq_false_iff_eq.mpr he
 obtain ⟨⟨y,er,q⟩,hx,h⟩:=Option.bind_eq_some_iff.mp h
 have HC:=am_ (understudyref01_Reader_Bytes.calls g bs p n y er q w0 w hI.R hI.bel hx)
 have HI:=am_ hI
 clear hI hx
 subst he
 simp only [Option.some.injEq,Prod.mk.injEq] at h
 obtain ⟨rfl,rfl,rfl⟩:=h
 go_enter Tryz.func33,Tryz.ntmps33
 go_wp2_with fail
 refine HC.out.mono ?_
 rintro r w2 ⟨v,rfl,hR,hS,hB,hK⟩
 have HF:Aside0 (FlPost w0 w fb g bs q 0 w2):=⟨⟨⟨hS,hK.blk HI.out.blk HI.out.ne (by simp),hB,HI.out.ge⟩,kb_wide hK _⟩⟩
 have HR:=am_ hR
 have HL1:=am_ HI.out.R.lt
 have HL2:=am_ HI.out.lt
 clear hR hS hB hK HC HI c0 c1
 obtain ⟨Av,cv,hv⟩:=Kd.R_slice HR.out
 subst hv
 by_cases her:er=0
 ·have heb:(er != 0)=false:=bne_eq_false_iff_eq.mpr her
  subst her
  go_wp2
  go_ret
  exact ⟨_,rfl,HR.out,HF.out⟩
 have heb:(er != 0)=true:=bne_iff_ne.mpr her
 clear her
 go_wp2_with fail
 refine (fl_fail.calls er HF.out.1).mono ?_
 rintro r w3 ⟨rfl,hP⟩
 have HP:=am_ (FlPost.from HF.out.2 hP)
 have HR2:=am_ (kb_R2 hP.2 HR.out HL1.out HL2.out)
 clear hP HF HR
 go_wp2
 go_ret
 exact ⟨_,rfl,HR2.out,HP.out⟩
def fl_named.f (k:Nat) (l0:List S61) (bs:List Int) (p e:Int) (s:ByteArray):Option (Int × Int):=(fl_num.f k bs p e 2).bind fun x => (understudyref04_Text.f l0 x.1).bind fun t => some (x.2.1,if t.2=true∧t.1.toList=s.toList then x.2.2 else failE x.2.2 50)
set_option maxHeartbeats 8000000 in
set_option maxRecDepth 100000 in
theorem fl_named.calls {k:Nat} {w0 w:World} {fb g:Nat} {bs:List Int} {A0:Option Addr} {c0:Nat} {l0:List S61} {p e p' e':Int} {s:ByteArray} (hI:IsFl w0 w fb g bs p e) (hP:∀ w',KeepBut w w' g (some fb)→Kd.C k61 w' A0 l0.length l0) (hPC:l0.length≤c0) (h:fl_named.f k l0 bs p e s=some (p',e')) :
  Calls Tryz.prog 32 #[.pointer (some ⟨fb,0,none⟩),.slice A0 l0.length c0,.string s] w fun r w' => r=.returned (.tuple #[])∧FlPost w0 w fb g bs p' e' w':=by
 obtain ⟨⟨x,q,f⟩,hx,h⟩:=Option.bind_eq_some_iff.mp h
 obtain ⟨⟨t1,t2⟩,hT,h⟩:=Option.bind_eq_some_iff.mp h
 have HC:=am_ (fl_num.calls hI hx)
 have HT:=am_ hT
 have HP:=am_ hP
 have HPC:=am_ hPC
 clear hI hx hT hP hPC
 simp only [Option.some.injEq,Prod.mk.injEq] at h
 obtain ⟨rfl,hv⟩:=h
 go_enter Tryz.func32,Tryz.ntmps32
 go_wp2_with fail
 refine HC.out.mono ?_
 rintro r w2 ⟨rfl,hF⟩
 have HF:=am_ hF
 clear hF HC
 have c1:=HF.out.1.c1
 go_wp2_with fail
 refine (understudyref04_Text.calls A0 c0 l0 x t1 t2 w2 (HP.out _ HF.out.2) HPC.out HT.out).mono ?_
 rintro r w3 ⟨rfl,m,rfl⟩
 have HG:=am_ (HF.out.drewN m)
 have cx:(w2.drewN m).cell? ⟨fb,1,none⟩=some (.int .i64 f):=c1
 clear HF HP HPC HT c1
 have hd:failE f 50=if f=0 then 50 else f:=rfl
 by_cases hf:f=0
 rotate_left
 ·rw [hd,if_neg hf,ite_self] at hv
  have hfb:(f==0)=false:=beq_eq_false_iff_ne.mpr hf
  subst hv
  clear hd hf
  go_wp2
  go_end0
  exact ⟨rfl,HG.out⟩
 have hfb:(f==0)=true:=beq_iff_eq.mpr hf
 subst hf
 cases t2 with
 | false =>
  rw [if_neg (by simp)] at hv
  subst hv
  clear hd
  go_wp2_with fail
  refine (fl_fail.calls 50 HG.out.1).mono ?_
  rintro r w4 ⟨rfl,hP⟩
  have HP:=am_ (FlPost.from HG.out.2 hP)
  clear hP HG
  go_wp2
  go_end0
  exact ⟨rfl,HP.out⟩
 | true =>
  by_cases ht:t1.toList=s.toList
  ·rw [if_pos ⟨rfl,ht⟩] at hv
   subst hv
   have htb:(t1.toList==s.toList)=true:=beq_iff_eq.mpr ht
   clear ht hd
   go_wp2
   go_end0
   exact ⟨rfl,HG.out⟩
  rw [if_neg (by simp [ht])] at hv
  subst hv
  have htb:(t1.toList==s.toList)=false:=beq_eq_false_iff_ne.mpr ht
  clear ht hd
  go_wp2_with fail
  refine (fl_fail.calls 50 HG.out.1).mono ?_
  rintro r w4 ⟨rfl,hP⟩
  have HP:=am_ (FlPost.from HG.out.2 hP)
  clear hP HG
  go_wp2
  go_end0
  exact ⟨rfl,HP.out⟩
end Go.Proofs.YtamdobdmjcgmoaaGreatDoor.Px
namespace Go.Proofs.YtamdobdmjcgmoaaGreatDoor.Px
open Go.RowKit Go.Proofs.YtamdobdmjcgmoaaGreatDoorW.PrintWords Go.Proofs.YtamdobdmjcgmoaaGreatDoorW.PrintLast Go.Proofs.YtamdobdmjcgmoaaGreatDoorW.PrintMore
set_option linter.unusedVariables false
set_option linter.unusedSimpArgs false
abbrev CstF:=S61
def fl_trap.f (k:Nat) (bs:List Int) (p e:Int):Option (Trp × Int × Int) :=
 (fl_num.f k bs p e 2).bind fun a => (fl_num.f k bs a.2.1 a.2.2 2).bind fun b => (fl_num.f k bs b.2.1 b.2.2 2).bind fun c => (fl_num.f k bs c.2.1 c.2.2 2).bind fun d => some (⟨a.1,b.1,c.1,d.1⟩,d.2.1,d.2.2)
def fl_traps.f:Nat→List Int→Int→List Trp→Int→Int→Option (List Trp × Int × Int)
 | 0,_,_,_,_,_ => none
 | k + 1,bs,n,l,p,e => if (l.length:Int) < n∧e=0 then (fl_trap.f k bs p e).bind fun t => if l.length≤65536 then fl_traps.f k bs n (l++[t.1]) t.2.1 t.2.2 else none else some (l,p,e)
def fl_maps.f (k:Nat) (l0:List CstF) (bs:List Int) (x p e:Int):Option (List Int × Int × Int) :=
 if x > 1 then some ([],p,failE e 50) else if x=1 then (fl_named.f k l0 bs p e sMaps).bind fun y => (fl_count.f k bs y.1 y.2 4 4096).bind fun n => if n.1=0 then fl_bytes.f bs n.2.1 (failE n.2.2 50) n.1 else fl_bytes.f bs n.2.1 n.2.2 n.1 else some ([],p,e)
def fl_method.f (k:Nat) (l0:List CstF) (bs:List Int) (p e:Int):Option (Mth × Int × Int) :=
 (fl_num.f k bs p e 2).bind fun a => (fl_num.f k bs a.2.1 a.2.2 2).bind fun b => (fl_num.f k bs b.2.1 b.2.2 2).bind fun c => (fl_must.f k bs c.2.1 c.2.2 1).bind fun d => (fl_named.f k l0 bs d.1 d.2 sCode).bind fun f => (fl_num.f k bs f.1 f.2 4).bind fun m =>
 (fl_num.f k bs m.2.1 m.2.2 2).bind fun s => (fl_num.f k bs s.2.1 s.2.2 2).bind fun t => (fl_count.f k bs t.2.1 t.2.2 4 4096).bind fun u => (fl_bytes.f bs u.2.1 u.2.2 u.1).bind fun y => (fl_count.f k bs y.2.1 y.2.2 2 64).bind fun n => (fl_traps.f k bs n.1 [] n.2.1 n.2.2).bind fun z => (fl_num.f k bs z.2.1 z.2.2 2).bind fun x => (fl_maps.f k l0 bs x.1 x.2.1 x.2.2).bind fun q =>
 some (⟨a.1,b.1,c.1,s.1,t.1,y.1,z.1,q.1⟩,q.2.1,if wrap64 (q.2.1 - m.2.1)=m.1 then q.2.2 else failE q.2.2 50)
abbrev M0f:Array Value:=#[.int .i64 0,.int .i64 0,.int .i64 0,.int .i64 0,.int .i64 0,.slice none 0 0,.slice none 0 0,.slice none 0 0]
theorem infoTrf:(Tryz.prog.info? 63).map (fun i => (i.zero,i.size,i.bytes))=some (some (.agg #[.int .i64 0,.int .i64 0,.int .i64 0,.int .i64 0]),4,32):=by kernel_rfl
structure FmSt (w0 w W:World) (fb g:Nat) (bs:List Int) (p e:Int) (bm0 bm:Nat) (cs:Array Value):Prop where
 C:FlPost w0 w fb g bs p e W
 k0:W.heap[bm0]?=some (.cells M0f 57 (0,0))
 km:W.heap[bm]?=some (.cells cs 57 (0,0))
 h0:w.heap.size≤bm0
 hm:w.heap.size≤bm
 lt:g < w.heap.size
 lf:fb < w.heap.size
 ne:bm0 ≠ bm
section
variable {w0 w W W':World} {fb g:Nat} {bs:List Int} {p e p' e':Int} {bm0 bm:Nat} {cs:Array Value}
theorem KeepBut.blkR {row:Nat} {o:Obj} {i:Nat} (h:KeepBut W W' g (some row)) (hb:W.heap[i]?=some o) (hg:i ≠ g) (hr:i ≠ row):W'.heap[i]?=some o:=(h.2 i (blk_lt hb) hg (fun x => hr (Option.some.inj x))).trans hb
theorem FmSt.step (h:FmSt w0 w W fb g bs p e bm0 bm cs) (hR:FlPost w0 W fb g bs p' e' W'):FmSt w0 w W' fb g bs p' e' bm0 bm cs :=
 ⟨FlPost.from h.C.2 hR,KeepBut.blkR hR.2 h.k0 (by have:=h.h0;have:=h.lt;omega) (by have:=h.h0;have:=h.lf;omega),KeepBut.blkR hR.2 h.km (by have:=h.hm;have:=h.lt;omega) (by have:=h.hm;have:=h.lf;omega),h.h0,h.hm,h.lt,h.lf,h.ne⟩
theorem IsFl.below (h:IsFl w0 W fb g bs p e) (hb:Below W.heap.size W W'):IsFl w0 W' fb g bs p e:=⟨h.R.below hb,(hb.block _ (blk_lt h.blk)).trans h.blk,h.bel.trans (hb.mono h.bel.size),h.ge⟩
theorem FlPost.below (h:IsFl w0 W fb g bs p e) (hb:Below W.heap.size W W'):FlPost w0 W fb g bs p e W':=⟨h.below hb,KeepBut.of_below hb _ _⟩
theorem FmSt.new (h:FmSt w0 w W fb g bs p e bm0 bm cs) (hb:Below W.heap.size W W'):FmSt w0 w W' fb g bs p e bm0 bm cs:=h.step (FlPost.below h.C.1 hb)
theorem FmSt.set (h:FmSt w0 w W fb g bs p e bm0 bm cs) (j:Nat) (v:Value) {cs':Array Value} (q:cs.setIfInBounds j v=cs'):FmSt w0 w (W.setCell ⟨bm,j,none⟩ v) fb g bs p e bm0 bm cs' :=
 have hs:w0.heap.size≤bm:=by have:=h.hm;have:=h.lf;have:=h.C.1.ge;omega
 ⟨⟨⟨h.C.1.R.far (by have:=h.hm;have:=h.lt;show g ≠ bm;omega) _,blk_far h.C.1.blk (by have:=h.hm;have:=h.lf;show fb ≠ bm;omega) v,below_set h.C.1.bel hs,h.C.1.ge⟩,keep_far h.C.2 h.hm _⟩,blk_far h.k0 h.ne v,blk_put h.km j v q,h.h0,h.hm,h.lt,h.lf,h.ne⟩
theorem FmSt.grown {α:Type} {d:Kd α} {t:Nat} {u:Value} {ok:Nat→Prop} {l:List α} (h:FmSt w0 w W fb g bs p e bm0 bm cs) (hR:d.R t W w.heap.size ok u l) (ht:t ≠ 45∧t ≠ 47∧t ≠ 57) (hB:Below w.heap.size W W') (hg:W.grownBy W' u.ownBlock):FmSt w0 w W' fb g bs p e bm0 bm cs:=by
 have hw:w0.heap.size≤w.heap.size:=by have:=h.lf;have:=h.C.1.ge;omega
 obtain ⟨A0,c0,hb,_⟩:=id h.C.1.R
 exact ⟨⟨⟨h.C.1.R.grown hg (h.C.1.R.own_ne hR ht.1),(hg.block _ (blk_lt h.C.1.blk) (Kd.R_ne hR h.C.1.blk ht.2.1)).trans h.C.1.blk,h.C.1.bel.trans (hB.mono hw),h.C.1.ge⟩,⟨Nat.le_trans h.C.2.1 hB.size,fun i hi hg1 hr1 => (hB.block i hi).trans (h.C.2.2 i hi hg1 hr1)⟩⟩,(hg.block _ (blk_lt h.k0) (Kd.R_ne hR h.k0 ht.2.2)).trans h.k0,(hg.block _ (blk_lt h.km) (Kd.R_ne hR h.km ht.2.2)).trans h.km,h.h0,h.hm,h.lt,h.lf,h.ne⟩
theorem fm_sets {v5 v6 v7:Value} {l5 l7:List Int} {l6:List Trp} (h0:w.heap.size≤bm0) (lt:g < w.heap.size) (lf:fb < w.heap.size):∀ (L:List (Nat × Value)) (W:World) (cs:Array Value),W.heap[bm0]?=some (.cells cs 57 (0,0))→FlPost w0 w fb g bs p e W→Kd.R (Kd.int .u8) 5 W w.heap.size (fun _ => True) v5 l5→Kd.R k63 63 W w.heap.size (fun _ => True) v6 l6→Kd.R (Kd.int .u8) 5 W w.heap.size (fun _ => True) v7 l7 →
  Kd.R (Kd.int .u8) 5 (L.foldl (fun W x => W.setCell ⟨bm0,x.1,none⟩ x.2) W) w.heap.size (fun _ => True) v5 l5∧Kd.R k63 63 (L.foldl (fun W x => W.setCell ⟨bm0,x.1,none⟩ x.2) W) w.heap.size (fun _ => True) v6 l6∧Kd.R (Kd.int .u8) 5 (L.foldl (fun W x => W.setCell ⟨bm0,x.1,none⟩ x.2) W) w.heap.size (fun _ => True) v7 l7∧FlPost w0 w fb g bs p e (L.foldl (fun W x => W.setCell ⟨bm0,x.1,none⟩ x.2) W)
 | [],_,_,_,hC,h5,h6,h7 => ⟨h5,h6,h7,hC⟩
 | (j,v) :: L,W,cs,hb,hC,h5,h6,h7 => by
  refine fm_sets h0 lt lf L (W.setCell ⟨bm0,j,none⟩ v) _ (blk_set hb j v) ⟨⟨hC.1.R.far (by show g ≠ bm0;omega) _,blk_far hC.1.blk (by show fb ≠ bm0;omega) v,below_set hC.1.bel (by have:=hC.1.ge;omega),hC.1.ge⟩,keep_far hC.2 h0 _⟩ (Kd.R_set h5 hb (by decide) j v) (Kd.R_set h6 hb (by decide) j v) (Kd.R_set h7 hb (by decide) j v)
end
theorem st8f {w:World} {g t:Nat} {v0 v1 v2 v3 v4 v5 v6 v7 u0 u1 u2 u3 u4 u5 u6 u7:Value} (h0:w.heap[g]?=some (.cells #[v0,v1,v2,v3,v4,v5,v6,v7] t (0,0))):((((((((w.setCell ⟨g,0,none⟩ u0).setCell ⟨g,1,none⟩ u1).setCell ⟨g,2,none⟩ u2).setCell ⟨g,3,none⟩ u3).setCell ⟨g,4,none⟩ u4).setCell ⟨g,5,none⟩ u5).setCell ⟨g,6,none⟩ u6).setCell ⟨g,7,none⟩ u7).heap[g]?=some (.cells #[u0,u1,u2,u3,u4,u5,u6,u7] t (0,0)):=by
 have h1:(w.setCell ⟨g,0,none⟩ u0).heap[g]?=some (.cells #[u0,v1,v2,v3,v4,v5,v6,v7] t (0,0)):=blk_put h0 0 u0 rfl
 have h2:((w.setCell ⟨g,0,none⟩ u0).setCell ⟨g,1,none⟩ u1).heap[g]?=some (.cells #[u0,u1,v2,v3,v4,v5,v6,v7] t (0,0)):=blk_put h1 1 u1 rfl
 have h3:(((w.setCell ⟨g,0,none⟩ u0).setCell ⟨g,1,none⟩ u1).setCell ⟨g,2,none⟩ u2).heap[g]?=some (.cells #[u0,u1,u2,v3,v4,v5,v6,v7] t (0,0)):=blk_put h2 2 u2 rfl
 have h4:((((w.setCell ⟨g,0,none⟩ u0).setCell ⟨g,1,none⟩ u1).setCell ⟨g,2,none⟩ u2).setCell ⟨g,3,none⟩ u3).heap[g]?=some (.cells #[u0,u1,u2,u3,v4,v5,v6,v7] t (0,0)):=blk_put h3 3 u3 rfl
 have h5:(((((w.setCell ⟨g,0,none⟩ u0).setCell ⟨g,1,none⟩ u1).setCell ⟨g,2,none⟩ u2).setCell ⟨g,3,none⟩ u3).setCell ⟨g,4,none⟩ u4).heap[g]?=some (.cells #[u0,u1,u2,u3,u4,v5,v6,v7] t (0,0)):=blk_put h4 4 u4 rfl
 have h6:((((((w.setCell ⟨g,0,none⟩ u0).setCell ⟨g,1,none⟩ u1).setCell ⟨g,2,none⟩ u2).setCell ⟨g,3,none⟩ u3).setCell ⟨g,4,none⟩ u4).setCell ⟨g,5,none⟩ u5).heap[g]?=some (.cells #[u0,u1,u2,u3,u4,u5,v6,v7] t (0,0)):=blk_put h5 5 u5 rfl
 have h7:(((((((w.setCell ⟨g,0,none⟩ u0).setCell ⟨g,1,none⟩ u1).setCell ⟨g,2,none⟩ u2).setCell ⟨g,3,none⟩ u3).setCell ⟨g,4,none⟩ u4).setCell ⟨g,5,none⟩ u5).setCell ⟨g,6,none⟩ u6).heap[g]?=some (.cells #[u0,u1,u2,u3,u4,u5,u6,v7] t (0,0)):=blk_put h6 6 u6 rfl
 have h8:((((((((w.setCell ⟨g,0,none⟩ u0).setCell ⟨g,1,none⟩ u1).setCell ⟨g,2,none⟩ u2).setCell ⟨g,3,none⟩ u3).setCell ⟨g,4,none⟩ u4).setCell ⟨g,5,none⟩ u5).setCell ⟨g,6,none⟩ u6).setCell ⟨g,7,none⟩ u7).heap[g]?=some (.cells #[u0,u1,u2,u3,u4,u5,u6,u7] t (0,0)):=blk_put h7 7 u7 rfl
 exact h8
theorem fm_fin {w0 w W:World} {fb g:Nat} {bs:List Int} {p e:Int} {bm0 bm:Nat} {cs:Array Value} {v5 v6 v7:Value} {l5 l7:List Int} {l6:List Trp} (h:FmSt w0 w W fb g bs p e bm0 bm cs) (h5:Kd.R (Kd.int .u8) 5 W w.heap.size (fun _ => True) v5 l5) (h6:Kd.R k63 63 W w.heap.size (fun _ => True) v6 l6) (h7:Kd.R (Kd.int .u8) 5 W w.heap.size (fun _ => True) v7 l7) (u0 u1 u2 u3 u4 u5 u6 u7:Value) :
  Kd.R (Kd.int .u8) 5 ((((((((W.setCell ⟨bm0,0,none⟩ u0).setCell ⟨bm0,1,none⟩ u1).setCell ⟨bm0,2,none⟩ u2).setCell ⟨bm0,3,none⟩ u3).setCell ⟨bm0,4,none⟩ u4).setCell ⟨bm0,5,none⟩ u5).setCell ⟨bm0,6,none⟩ u6).setCell ⟨bm0,7,none⟩ u7) w.heap.size (fun _ => True) v5 l5∧Kd.R k63 63 ((((((((W.setCell ⟨bm0,0,none⟩ u0).setCell ⟨bm0,1,none⟩ u1).setCell ⟨bm0,2,none⟩ u2).setCell ⟨bm0,3,none⟩ u3).setCell ⟨bm0,4,none⟩ u4).setCell ⟨bm0,5,none⟩ u5).setCell ⟨bm0,6,none⟩ u6).setCell ⟨bm0,7,none⟩ u7) w.heap.size (fun _ => True) v6 l6∧Kd.R (Kd.int .u8) 5 ((((((((W.setCell ⟨bm0,0,none⟩ u0).setCell ⟨bm0,1,none⟩ u1).setCell ⟨bm0,2,none⟩ u2).setCell ⟨bm0,3,none⟩ u3).setCell ⟨bm0,4,none⟩ u4).setCell ⟨bm0,5,none⟩ u5).setCell ⟨bm0,6,none⟩ u6).setCell ⟨bm0,7,none⟩ u7) w.heap.size (fun _ => True) v7 l7∧FlPost w0 w fb g bs p e ((((((((W.setCell ⟨bm0,0,none⟩ u0).setCell ⟨bm0,1,none⟩ u1).setCell ⟨bm0,2,none⟩ u2).setCell ⟨bm0,3,none⟩ u3).setCell ⟨bm0,4,none⟩ u4).setCell ⟨bm0,5,none⟩ u5).setCell ⟨bm0,6,none⟩ u6).setCell ⟨bm0,7,none⟩ u7) :=
 fm_sets h.h0 h.lt h.lf [(0,u0),(1,u1),(2,u2),(3,u3),(4,u4),(5,u5),(6,u6),(7,u7)] W _ h.k0 h.C h5 h6 h7
def FmPost (w0 w:World) (fb g:Nat) (bs:List Int) (r:Mth × Int × Int) (e:Ending) (w':World):Prop :=
 ∃ v5 v6 v7:Value,e=.returned (.agg #[.int .i64 r.1.f0,.int .i64 r.1.f1,.int .i64 r.1.f2,.int .i64 r.1.f3,.int .i64 r.1.f4,v5,v6,v7])∧Kd.R (Kd.int .u8) 5 w' w.heap.size (fun _ => True) v5 r.1.f5∧Kd.R k63 63 w' w.heap.size (fun _ => True) v6 r.1.f6∧Kd.R (Kd.int .u8) 5 w' w.heap.size (fun _ => True) v7 r.1.f7∧FlPost w0 w fb g bs r.2.1 r.2.2 w'
set_option maxHeartbeats 80000000 in
set_option maxRecDepth 100000 in
theorem fl_method.calls {k:Nat} {w0 w:World} {fb g:Nat} {bs:List Int} {A0:Option Addr} {c0:Nat} {l0:List CstF} {p e:Int} {r:Mth × Int × Int} (hI:IsFl w0 w fb g bs p e) (hP:∀ w',KeepBut w w' g (some fb)→Kd.C k61 w' A0 l0.length l0) (hPC:l0.length≤c0) (h:fl_method.f k l0 bs p e=some r) :
  Calls Tryz.prog 16 #[.pointer (some ⟨fb,0,none⟩),.slice A0 l0.length c0] w fun e' w' => FmPost w0 w fb g bs r e' w':=by
 have hu:=Tryz.underlying57
 have hu2:=Tryz.underlying63
 have HI:=am_ hI
 have HP:=am_ hP
 have HPC:=am_ hPC
 have HH:=am_ h
 clear hI hP hPC h
 go_enter Tryz.func16,Tryz.ntmps16
 go_wp2_with fail
 obtain ⟨W0,hW0⟩:∃ W0,W0=w.alloc (.cells M0f 57 (0,0)):=⟨_,rfl⟩
 obtain ⟨bm0,hm0⟩:∃ bm0,bm0=w.heap.size:=⟨_,rfl⟩
 rw [← hW0,← hm0]
 have hb0:Below w.heap.size w W0:=by rw [hW0];exact below_alloc (Below.refl _ _) _
 have HC:Aside0 (FlPost w0 w fb g bs p e W0):=⟨FlPost.below HI.out hb0⟩
 have HK:Aside0 (W0.heap[bm0]?=some (.cells M0f 57 (0,0))):=⟨by rw [hW0,hm0];exact blk_new _ _⟩
 have HM0:=am_ hm0
 have HLT:=am_ HI.out.R.lt
 have HLF:=am_ HI.out.lt
 clear hW0 hm0 hb0 HI
 obtain ⟨⟨a,pa,ea⟩,hx,h⟩:=Option.bind_eq_some_iff.mp HH.out
 have HX:=am_ (fl_num.calls HC.out.1 hx)
 clear HH hx
 have HH:=am_ h
 clear h
 refine HX.out.mono ?_
 rintro _ W1 ⟨rfl,hR⟩
 replace HC:=am_ (FlPost.from HC.out.2 hR)
 replace HK:=am_ (KeepBut.blkR hR.2 HK.out (by have:=HM0.out;have:=HLT.out;omega) (by have:=HM0.out;have:=HLF.out;omega))
 clear hR HX
 go_wp2_with fail
 obtain ⟨⟨b,pb,eb⟩,hx,h⟩:=Option.bind_eq_some_iff.mp HH.out
 have HX:=am_ (fl_num.calls HC.out.1 hx)
 clear HH hx
 have HH:=am_ h
 clear h
 refine HX.out.mono ?_
 rintro _ W2 ⟨rfl,hR⟩
 replace HC:=am_ (FlPost.from HC.out.2 hR)
 replace HK:=am_ (KeepBut.blkR hR.2 HK.out (by have:=HM0.out;have:=HLT.out;omega) (by have:=HM0.out;have:=HLF.out;omega))
 clear hR HX
 go_wp2_with fail
 obtain ⟨⟨c,pc,ec⟩,hx,h⟩:=Option.bind_eq_some_iff.mp HH.out
 have HX:=am_ (fl_num.calls HC.out.1 hx)
 clear HH hx
 have HH:=am_ h
 clear h
 refine HX.out.mono ?_
 rintro _ W3 ⟨rfl,hR⟩
 replace HC:=am_ (FlPost.from HC.out.2 hR)
 replace HK:=am_ (KeepBut.blkR hR.2 HK.out (by have:=HM0.out;have:=HLT.out;omega) (by have:=HM0.out;have:=HLF.out;omega))
 clear hR HX
 go_wp2_with fail
 obtain ⟨bm,hbm⟩:∃ bm,bm=W3.heap.size:=⟨_,rfl⟩
 obtain ⟨Wm,hWm⟩:∃ Wm,Wm=W3.alloc (.cells #[.int .i64 a,.int .i64 b,.int .i64 c,.int .i64 0,.int .i64 0,.slice none 0 0,.slice none 0 0,.slice none 0 0] 57 (0,0)):=⟨_,rfl⟩
 rw [← hWm,← hbm]
 have hbm2:Below W3.heap.size W3 Wm:=by rw [hWm];exact below_alloc (Below.refl _ _) _
 have hltk:=blk_lt HK.out
 have HM:Aside0 (FmSt w0 w Wm fb g bs pc ec bm0 bm #[.int .i64 a,.int .i64 b,.int .i64 c,.int .i64 0,.int .i64 0,.slice none 0 0,.slice none 0 0,.slice none 0 0]):=⟨⟨FlPost.from HC.out.2 (FlPost.below HC.out.1 hbm2),(hbm2.block _ hltk).trans HK.out,by rw [hWm,hbm];exact blk_new _ _,by rw [HM0.out];exact Nat.le_refl _,by rw [hbm];exact HC.out.2.1,HLT.out,HLF.out,by omega⟩⟩
 clear hWm hbm hbm2 hltk HC HK HM0
 replace HH:=bnd_ HH
 obtain ⟨⟨pd,ed⟩,HX,HH⟩:=HH
 dsimp only at HX HH
 replace HX:=am_ (fl_must.calls HM.out.C.1 HX.out)
 refine HX.out.mono ?_
 rintro _ W4 ⟨rfl,hR⟩
 replace HM:=am_ (HM.out.step hR)
 clear hR HX
 go_wp2_with fail
 replace HH:=bnd_ HH
 obtain ⟨⟨pf,ef⟩,HX,HH⟩:=HH
 dsimp only at HX HH
 replace HX:=am_ (fl_named.calls HM.out.C.1 (fun w' hS => HP.out w' (HM.out.C.2.trans hS (.inl rfl))) HPC.out HX.out)
 refine HX.out.mono ?_
 rintro _ W5 ⟨rfl,hR⟩
 replace HM:=am_ (HM.out.step hR)
 clear hR HX
 go_wp2_with fail
 replace HH:=bnd_ HH
 obtain ⟨⟨many,pm,em⟩,HX,HH⟩:=HH
 dsimp only at HX HH
 replace HX:=am_ (fl_num.calls HM.out.C.1 HX.out)
 refine HX.out.mono ?_
 rintro _ W6 ⟨rfl,hR⟩
 replace HM:=am_ (HM.out.step hR)
 clear hR HX
 obtain ⟨A9,c9,hb9,_⟩:=id HM.out.C.1.R
 have q1:W6.cell? ⟨g,1,none⟩=some (.int .i64 pm):=(blk_cell hb9 1).trans rfl
 have q0:=HM.out.C.1.c0
 clear hb9
 go_wp2_with fail
 clear q0 q1
 replace HH:=bnd_ HH
 obtain ⟨⟨s,ps,es⟩,HX,HH⟩:=HH
 dsimp only at HX HH
 replace HX:=am_ (fl_num.calls HM.out.C.1 HX.out)
 refine HX.out.mono ?_
 rintro _ W7 ⟨rfl,hR⟩
 replace HM:=am_ (HM.out.step hR)
 clear hR HX
 have z0:=blk_frozen HM.out.km 3
 have z1:=(blk_cell HM.out.km 3).trans rfl
 go_wp2_with fail
 replace HM:=am_ (HM.out.set (cs':=#[.int .i64 a,.int .i64 b,.int .i64 c,.int .i64 s,.int .i64 0,.slice none 0 0,.slice none 0 0,.slice none 0 0]) 3 (.int .i64 s) rfl)
 clear z0 z1
 replace HH:=bnd_ HH
 obtain ⟨⟨t,pt,et⟩,HX,HH⟩:=HH
 dsimp only at HX HH
 replace HX:=am_ (fl_num.calls HM.out.C.1 HX.out)
 refine HX.out.mono ?_
 rintro _ W8 ⟨rfl,hR⟩
 replace HM:=am_ (HM.out.step hR)
 clear hR HX
 have z0:=blk_frozen HM.out.km 4
 have z1:=(blk_cell HM.out.km 4).trans rfl
 go_wp2_with fail
 replace HM:=am_ (HM.out.set (cs':=#[.int .i64 a,.int .i64 b,.int .i64 c,.int .i64 s,.int .i64 t,.slice none 0 0,.slice none 0 0,.slice none 0 0]) 4 (.int .i64 t) rfl)
 clear z0 z1
 replace HH:=bnd_ HH
 obtain ⟨⟨u,pu,eu⟩,HX,HH⟩:=HH
 dsimp only at HX HH
 replace HX:=am_ (fl_count.calls HM.out.C.1 HX.out)
 refine HX.out.mono ?_
 rintro _ W9 ⟨rfl,hR⟩
 replace HM:=am_ (HM.out.step hR)
 clear hR HX
 go_wp2_with fail
 replace HH:=bnd_ HH
 obtain ⟨⟨code,py,ey⟩,HX,HH⟩:=HH
 dsimp only at HX HH
 have HX1:=am_ (fl_bytes.calls HM.out.C.1 HX.out)
 have HS:=am_ HM.out.C.2.1
 clear HX
 have HX:=HX1
 clear HX1
 refine HX.out.mono ?_
 rintro _ W10 ⟨v5,rfl,hR5,hR⟩
 replace HM:=am_ (HM.out.step hR)
 clear hR HX
 have HR5:=am_ (Kd.R_lower hR5 HS.out)
 clear hR5 HS
 obtain ⟨A5,c5,hv5⟩:=Kd.R_slice HR5.out
 subst hv5
 have z0:=blk_frozen HM.out.km 5
 have z1:=(blk_cell HM.out.km 5).trans rfl
 go_wp2_with fail
 replace HR5:=am_ (Kd.R_set HR5.out HM.out.km (by decide) 5 (.slice A5 code.length c5))
 replace HM:=am_ (HM.out.set (cs':=#[.int .i64 a,.int .i64 b,.int .i64 c,.int .i64 s,.int .i64 t,.slice A5 code.length c5,.slice none 0 0,.slice none 0 0]) 5 (.slice A5 code.length c5) rfl)
 clear z0 z1
 replace HH:=bnd_ HH
 obtain ⟨⟨n,pn,en⟩,HX,HH⟩:=HH
 dsimp only at HX HH
 replace HX:=am_ (fl_count.calls HM.out.C.1 HX.out)
 refine HX.out.mono ?_
 rintro _ W11 ⟨rfl,hR⟩
 replace HR5:=am_ (kb_R2 hR.2 HR5.out HLT.out HLF.out)
 replace HM:=am_ (HM.out.step hR)
 clear hR HX
 go_upto_block 0 with (fail)
 replace HH:=bnd_ HH
 obtain ⟨⟨tr,pz,ez⟩,HX,HH⟩:=HH
 dsimp only at HX HH
 have H11:=HX
 clear HX
 go_cut [] (fun wc => Aside0 (∃ v6:Value,FmSt w0 w wc fb g bs pz ez bm0 bm #[.int .i64 a,.int .i64 b,.int .i64 c,.int .i64 s,.int .i64 t,.slice A5 code.length c5,v6,.slice none 0 0]∧Kd.R (Kd.int .u8) 5 wc w.heap.size (fun _ => True) (.slice A5 code.length c5) code∧Kd.R k63 63 wc w.heap.size (fun _ => True) v6 tr))
 case first =>
  go_wp2_with fail
  go_loopg [9] k (fun kq v9 wr => ∃ (l:List Trp) (v6:Value) (q f:Int),v9=.int .i64 (l.length:Int)∧Aside0 (fl_traps.f kq bs n l q f=some (tr,pz,ez))∧Aside0 (kq≤k)∧Aside0 (FmSt w0 w wr fb g bs q f bm0 bm #[.int .i64 a,.int .i64 b,.int .i64 c,.int .i64 s,.int .i64 t,.slice A5 code.length c5,v6,.slice none 0 0])∧Aside0 (Kd.R (Kd.int .u8) 5 wr w.heap.size (fun _ => True) (.slice A5 code.length c5) code)∧Aside0 (Kd.R k63 63 wr w.heap.size (fun _ => True) v6 l))
  case atStart => exact ⟨[],.slice none 0 0,pn,en,rfl,H11,⟨Nat.le_refl _⟩,HM,HR5,⟨Kd.R_nil _ _ _ _ _⟩⟩
  obtain ⟨l,v6,q,f,rfl,HT,HKQ,HMr,HP5,HQ6⟩:=hrel
  clear HM HR5 H11
  cases gk with
  | zero => exact absurd HT.out (by simp [fl_traps.f])
  | succ k1 =>
  have hT:=HT.out
  simp only [fl_traps.f] at hT
  have cf:=HMr.out.C.1.c1
  clear HT
  by_cases hc:(l.length:Int) < n∧f=0
  rotate_left
  ·rw [if_neg hc] at hT
   simp only [Option.some.injEq,Prod.mk.injEq] at hT
   obtain ⟨rfl,rfl,rfl⟩:=hT
   by_cases hlt:(l.length:Int) < n
   ·have hpi:decide ((l.length:Int) < n)=true:=decide_eq_true hlt
    have hfb:(f==0)=false:=beq_eq_false_iff_ne.mpr (fun x => hc ⟨hlt,x⟩)
    clear hc hlt
    go_wp2_with fail
    go_meet
    exact ⟨⟨v6,HMr.out,HP5.out,HQ6.out⟩⟩
   have hpi:decide ((l.length:Int) < n)=false:=decide_eq_false hlt
   clear hc hlt
   go_wp2_with fail
   go_meet
   exact ⟨⟨v6,HMr.out,HP5.out,HQ6.out⟩⟩
  rw [if_pos hc] at hT
  obtain ⟨⟨tp,q4,f4⟩,ht,hT⟩:=Option.bind_eq_some_iff.mp hT
  dsimp only at hT
  by_cases hll:l.length≤65536
  case neg => rw [if_neg hll] at hT;cases hT
  rw [if_pos hll] at hT
  have HTN:=am_ hT
  have HLN:=am_ hll
  have hpi:decide ((l.length:Int) < n)=true:=decide_eq_true hc.1
  have hfb:(f==0)=true:=beq_iff_eq.mpr hc.2
  clear hT hll hc
  go_wp2
  clear cf hpi hfb
  have G0:=am_ (HMr.out.new (below_drew (Below.refl _ _)))
  have P0:=am_ (Kd.R_below HP5.out (below_drew (Below.refl _ _)))
  have Q0:=am_ (Kd.R_below HQ6.out (below_drew (Below.refl _ _)))
  have cg0:=(blk_cell G0.out.km 6).trans rfl
  clear HMr HP5 HQ6
  unfold fl_trap.f at ht
  obtain ⟨⟨y0,p0,e0⟩,hj,ht⟩:=Option.bind_eq_some_iff.mp ht
  dsimp only at hj ht
  have T0:=am_ hj
  clear hj
  obtain ⟨⟨y1,p1,e1⟩,hj,ht⟩:=Option.bind_eq_some_iff.mp ht
  dsimp only at hj ht
  have T1:=am_ hj
  clear hj
  obtain ⟨⟨y2,p2,e2⟩,hj,ht⟩:=Option.bind_eq_some_iff.mp ht
  dsimp only at hj ht
  have T2:=am_ hj
  clear hj
  obtain ⟨⟨y3,p3,e3⟩,hj,ht⟩:=Option.bind_eq_some_iff.mp ht
  dsimp only at hj ht
  have T3:=am_ hj
  clear hj
  simp only [Option.some.injEq,Prod.mk.injEq] at ht
  obtain ⟨rfl,rfl,rfl⟩:=ht
  refine start_ (n:=15) (S:=fun w' => w'.cell? ⟨bm,6,none⟩=some v6) (ds:=[14]) #[false,false,false,false,false,false,false,false,false,false,false,false,false,false,false] (by kernel_rfl) rfl rfl (cg0) (fun hHeld => ?_)
  refine pr_ 0 (some 57) ?_
  refine pr_ 2 (some 59) ?_
  refine pr_ 4 (some 61) ?_
  refine pr_ 6 (some 63) ?_
  refine pr_ 8 (some 65) ?_
  refine tk_ 1 (some 58) hHeld ?_ (hy:=by intro w' s0;go_simp;with_reducible rfl)
  refine one_ (i:=3) (N:=some 60) #[true,true,true,true,true,false,true,false,true,false,false,false,false,false,false] rfl rfl (by kernel_rfl) (by decide) (fun K hK => ?_)
  refine goes_ Tryz.func11 (by kernel_rfl) rfl #[.pointer (some ⟨fb,0,none⟩),.int .i64 2] (by rfl) rfl rfl (by simp only [List.map_toArray,List.map_cons,List.map_nil];rfl) ?_
  refine (fl_num.calls G0.out.C.1 T0.out).mono ?_
  rintro _ w1' ⟨rfl,hR⟩
  refine ⟨_,rfl,?_⟩
  have G1:=am_ (G0.out.step hR)
  have P1:=am_ (kb_R2 hR.2 P0.out HLT.out HLF.out)
  have Q1:=am_ (kb_R2 hR.2 Q0.out HLT.out HLF.out)
  have cg1:=(blk_cell G1.out.km 6).trans rfl
  clear hR
  refine hK.out _ _ (cg1) (fun hHeld => ?_)
  clear hK K
  refine norm_ (a':=?_) ?_ ?_
  rotate_left
  ·show Act.put _ (some 60) _=_
   simp only [Act.put,List.setIfInBounds_toArray,List.set_cons_zero,List.set_cons_succ,i64_w,i32_w]
   rfl
  refine one_ (i:=5) (N:=some 62) #[true,true,true,true,true,true,true,false,true,false,false,false,false,false,false] rfl rfl (by kernel_rfl) (by decide) (fun K hK => ?_)
  refine goes_ Tryz.func11 (by kernel_rfl) rfl #[.pointer (some ⟨fb,0,none⟩),.int .i64 2] (by rfl) rfl rfl (by simp only [List.map_toArray,List.map_cons,List.map_nil];rfl) ?_
  refine (fl_num.calls G1.out.C.1 T1.out).mono ?_
  rintro _ w2' ⟨rfl,hR⟩
  refine ⟨_,rfl,?_⟩
  have G2:=am_ (G1.out.step hR)
  have P2:=am_ (kb_R2 hR.2 P1.out HLT.out HLF.out)
  have Q2:=am_ (kb_R2 hR.2 Q1.out HLT.out HLF.out)
  have cg2:=(blk_cell G2.out.km 6).trans rfl
  clear hR
  refine hK.out _ _ (cg2) (fun hHeld => ?_)
  clear hK K
  refine norm_ (a':=?_) ?_ ?_
  rotate_left
  ·show Act.put _ (some 62) _=_
   simp only [Act.put,List.setIfInBounds_toArray,List.set_cons_zero,List.set_cons_succ,i64_w,i32_w]
   rfl
  refine one_ (i:=7) (N:=some 64) #[true,true,true,true,true,true,true,true,true,false,false,false,false,false,false] rfl rfl (by kernel_rfl) (by decide) (fun K hK => ?_)
  refine goes_ Tryz.func11 (by kernel_rfl) rfl #[.pointer (some ⟨fb,0,none⟩),.int .i64 2] (by rfl) rfl rfl (by simp only [List.map_toArray,List.map_cons,List.map_nil];rfl) ?_
  refine (fl_num.calls G2.out.C.1 T2.out).mono ?_
  rintro _ w3' ⟨rfl,hR⟩
  refine ⟨_,rfl,?_⟩
  have G3:=am_ (G2.out.step hR)
  have P3:=am_ (kb_R2 hR.2 P2.out HLT.out HLF.out)
  have Q3:=am_ (kb_R2 hR.2 Q2.out HLT.out HLF.out)
  have cg3:=(blk_cell G3.out.km 6).trans rfl
  clear hR
  refine hK.out _ _ (cg3) (fun hHeld => ?_)
  clear hK K
  refine norm_ (a':=?_) ?_ ?_
  rotate_left
  ·show Act.put _ (some 64) _=_
   simp only [Act.put,List.setIfInBounds_toArray,List.set_cons_zero,List.set_cons_succ,i64_w,i32_w]
   rfl
  refine one_ (i:=9) (N:=some 66) #[true,true,true,true,true,true,true,true,true,true,false,false,false,false,false] rfl rfl (by kernel_rfl) (by decide) (fun K hK => ?_)
  refine goes_ Tryz.func11 (by kernel_rfl) rfl #[.pointer (some ⟨fb,0,none⟩),.int .i64 2] (by rfl) rfl rfl (by simp only [List.map_toArray,List.map_cons,List.map_nil];rfl) ?_
  refine (fl_num.calls G3.out.C.1 T3.out).mono ?_
  rintro _ w4' ⟨rfl,hR⟩
  refine ⟨_,rfl,?_⟩
  have G4:=am_ (G3.out.step hR)
  have P4:=am_ (kb_R2 hR.2 P3.out HLT.out HLF.out)
  have Q4:=am_ (kb_R2 hR.2 Q3.out HLT.out HLF.out)
  have cg4:=(blk_cell G4.out.km 6).trans rfl
  clear hR
  refine hK.out _ _ (cg4) (fun hHeld => ?_)
  clear hK K
  refine norm_ (a':=?_) ?_ ?_
  rotate_left
  ·show Act.put _ (some 66) _=_
   simp only [Act.put,List.setIfInBounds_toArray,List.set_cons_zero,List.set_cons_succ,i64_w,i32_w]
   rfl
  refine pr_ 10 (some 67) ?_
  refine one_ (i:=11) (N:=some 68) #[true,true,true,true,true,true,true,true,true,true,true,true,false,false,false] rfl rfl (by kernel_rfl) (by decide) (fun K hK => ?_)
  refine value_ (w1:=?_) (v:=?_) (by rfl) rfl ?_ ?_
  rotate_left 2
  ·go_simp
   constructor
   ·rfl
   rfl
  refine hK.out _ _ ((by exact pw_cell_below ((Below.refl _ _).alloc (Nat.le_refl _) _) hHeld)) (fun hHeld => ?_)
  clear hK K
  refine norm_ (a':=?_) ?_ ?_
  rotate_left
  ·show Act.put _ (some 68) _=_
   simp only [Act.put,List.setIfInBounds_toArray,List.set_cons_zero,List.set_cons_succ,i64_w,i32_w]
   rfl
  refine one_ (i:=12) (N:=some 69) #[true,true,true,true,true,true,true,true,true,true,true,true,true,false,false] rfl rfl (by kernel_rfl) (by decide) (fun K hK => ?_)
  refine Kd.R_append_step k63 (w0:=w4') w.heap.size (by rfl) (.tmp 58) (.tmp 68) 55 63 (.agg #[.int .i64 0,.int .i64 0,.int .i64 0,.int .i64 0]) 32 (by rfl) Tryz.underlying55 infoTrf rfl (by decide) (by decide) v6 l ⟨y0,y1,y2,y3⟩ [.int .i64 y0,.int .i64 y1,.int .i64 y2,.int .i64 y3] (fun _ => True) (fun _ => False) (by rfl) (by rfl) (k63_mkM _ _ _ ⟨y0,y1,y2,y3⟩) (fun _ hk => hk.elim) (fun _ _ => trivial) Q4.out (Below.refl _ _) G4.out.C.2.1 (by have:=HLN.out;omega) ?_
  intro v1 w5' hR6 hB5 hg5 ho5
  obtain ⟨A6,c6,hv1⟩:=Kd.R_slice hR6
  simp only [List.length_append,List.length_singleton] at hv1
  subst hv1
  have G5:=am_ (G4.out.grown Q4.out (by decide) hB5 hg5)
  have P5:=am_ (Kd.R_drop (Kd.R_grown (Kd.R_apartR P4.out Q4.out (by decide)) hg5 (fun _ hk => hk.2)))
  have Q5:=am_ hR6
  have cg5:=(blk_cell G5.out.km 6).trans rfl
  have fg5:=blk_frozen G5.out.km 6
  clear hR6 hB5 hg5 ho5
  refine hK.out _ _ (cg5) (fun hHeld => ?_)
  clear hK K
  refine norm_ (a':=?_) ?_ ?_
  rotate_left
  ·show Act.put _ (some 69) _=_
   simp only [Act.put,List.setIfInBounds_toArray,List.set_cons_zero,List.set_cons_succ,i64_w,i32_w]
   rfl
  refine pr_ 13 (some 70) ?_
  refine last_ (i:=14) (N:=none) #[true,true,true,true,true,true,true,true,true,true,true,true,true,true,true] rfl rfl (by kernel_rfl) (by decide) (fun K hK => ?_)
  refine skip_ (w1:=?_) (by rfl) rfl ?_ ?_
  rotate_left
  ·go_simp
   rfl
  refine hK.out _ _ ?_
  clear hK K
  refine done_ (by kernel_rfl) ?_
  have HMe:=am_ (G5.out.set (cs':=#[.int .i64 a,.int .i64 b,.int .i64 c,.int .i64 s,.int .i64 t,.slice A5 code.length c5,.slice A6 (l.length + 1) c6,.slice none 0 0]) 6 (.slice A6 (l.length + 1) c6) rfl)
  have HPe:=am_ (Kd.R_set P5.out G5.out.km (by decide) 6 (.slice A6 (l.length + 1) c6))
  have HQe:=am_ (Kd.R_set Q5.out G5.out.km (by decide) 6 (.slice A6 (l.length + 1) c6))
  clear hHeld G0 G1 G2 G3 G4 G5 P0 P1 P2 P3 P4 P5 Q0 Q1 Q2 Q3 Q4 Q5 cg0 cg1 cg2 cg3 cg4 cg5 fg5 T0 T1 T2 T3
  go_wp2
  go_roundg k1
  case measure => have:=HKQ.out;omega
  case rel => exact ⟨l++[⟨y0,y1,y2,y3⟩],_,_,_,congrArg (Value.int .i64) (by rw [List.length_append,List.length_singleton];unfold wrap64;have:=HLN.out;omega),HTN,⟨by have:=HKQ.out;omega⟩,HMe,HPe,HQe⟩
 clear HM HR5 H11
 obtain ⟨v6,hm,h5,h6⟩:=hcut.out
 have HM:=am_ hm
 have HR5:=am_ h5
 have HR6:=am_ h6
 clear hcut hm h5 h6
 obtain ⟨A6,c6,hv6⟩:=Kd.R_slice HR6.out
 subst hv6
 go_wp2_with fail
 replace HH:=bnd_ HH
 obtain ⟨⟨x,px,ex⟩,HX,HH⟩:=HH
 dsimp only at HX HH
 replace HX:=am_ (fl_num.calls HM.out.C.1 HX.out)
 refine HX.out.mono ?_
 rintro _ W12 ⟨rfl,hR⟩
 replace HR5:=am_ (kb_R2 hR.2 HR5.out HLT.out HLF.out)
 replace HR6:=am_ (kb_R2 hR.2 HR6.out HLT.out HLF.out)
 replace HM:=am_ (HM.out.step hR)
 clear hR HX
 replace HH:=bnd_ HH
 obtain ⟨⟨maps,pq,eq⟩,HX,HH⟩:=HH
 dsimp only at HX HH
 have HX0:=HX
 clear HX
 obtain ⟨B1,hB1⟩:∃ B1,decide (x > 1)=B1:=⟨_,rfl⟩
 have hB1':decide (1 < x)=B1:=hB1
 go_upto_if 74 with (fail)
 have HB1:=am_ hB1
 clear hB1 hB1'
 go_cut [] (fun wc => Aside0 (FmSt w0 w wc fb g bs px (if x > 1 then failE ex 50 else ex) bm0 bm #[.int .i64 a,.int .i64 b,.int .i64 c,.int .i64 s,.int .i64 t,.slice A5 code.length c5,.slice A6 tr.length c6,.slice none 0 0]∧Kd.R (Kd.int .u8) 5 wc w.heap.size (fun _ => True) (.slice A5 code.length c5) code∧Kd.R k63 63 wc w.heap.size (fun _ => True) (.slice A6 tr.length c6) tr))
 case first =>
  cases B1 with
  | true =>
   go_wp2_with fail
   have HX:=am_ (fl_fail.calls 50 HM.out.C.1)
   refine HX.out.mono ?_
   rintro _ W13 ⟨rfl,hR⟩
   replace HR5:=am_ (kb_R2 hR.2 HR5.out HLT.out HLF.out)
   replace HR6:=am_ (kb_R2 hR.2 HR6.out HLT.out HLF.out)
   replace HM:=am_ (HM.out.step hR)
   clear hR HX
   go_wp2_with fail
   go_meet
   rw [if_pos (of_decide_eq_true HB1.out)]
   exact ⟨⟨HM.out,HR5.out,HR6.out⟩⟩
  | false =>
   go_wp2_with fail
   go_meet
   rw [if_neg (of_decide_eq_false HB1.out)]
   exact ⟨⟨HM.out,HR5.out,HR6.out⟩⟩
 clear HM HR5 HR6
 obtain ⟨hm,h5,h6⟩:=hcut.out
 have HM:=am_ hm
 have HR5:=am_ h5
 have HR6:=am_ h6
 clear hcut hm h5 h6
 clear HB1
 obtain ⟨B2,hB2⟩:∃ B2,(x==1)=B2:=⟨_,rfl⟩
 go_upto_if 78 with (fail)
 have HB2:=am_ hB2
 clear hB2
 go_cut [] (fun wc => Aside0 (∃ v7:Value,FmSt w0 w wc fb g bs pq eq bm0 bm #[.int .i64 a,.int .i64 b,.int .i64 c,.int .i64 s,.int .i64 t,.slice A5 code.length c5,.slice A6 tr.length c6,v7]∧Kd.R (Kd.int .u8) 5 wc w.heap.size (fun _ => True) (.slice A5 code.length c5) code∧Kd.R k63 63 wc w.heap.size (fun _ => True) (.slice A6 tr.length c6) tr∧Kd.R (Kd.int .u8) 5 wc w.heap.size (fun _ => True) v7 maps))
 case first =>
  have hX:=HX0.out
  clear HX0
  unfold fl_maps.f at hX
  cases B2 with
  | false =>
   have h2:¬ x=1:=beq_eq_false_iff_ne.mp HB2.out
   have hm:FmSt w0 w wc fb g bs pq eq bm0 bm #[.int .i64 a,.int .i64 b,.int .i64 c,.int .i64 s,.int .i64 t,.slice A5 code.length c5,.slice A6 tr.length c6,.slice none 0 0]:=by
    have hq:=HM.out
    by_cases h1:x > 1
    ·rw [if_pos h1] at hX hq
     simp only [Option.some.injEq,Prod.mk.injEq] at hX
     rw [← hX.2.1,← hX.2.2];exact hq
    rw [if_neg h1,if_neg h2] at hX
    rw [if_neg h1] at hq
    simp only [Option.some.injEq,Prod.mk.injEq] at hX
    rw [← hX.2.1,← hX.2.2];exact hq
   have hn:([]:List Int)=maps:=by
    by_cases h1:x > 1
    ·rw [if_pos h1] at hX
     simp only [Option.some.injEq,Prod.mk.injEq] at hX
     exact hX.1
    rw [if_neg h1,if_neg h2] at hX
    simp only [Option.some.injEq,Prod.mk.injEq] at hX
    exact hX.1
   have HMM:=am_ hm
   have HN:=am_ hn
   clear h2 hX hm hn
   go_wp2_with fail
   go_meet
   exact ⟨⟨.slice none 0 0,HMM.out,HR5.out,HR6.out,by rw [← HN.out];exact Kd.R_nil _ _ _ _ _⟩⟩
  | true =>
  have h2:x=1:=beq_iff_eq.mp HB2.out
  have h1:¬ x > 1:=by omega
  rw [if_neg h1,if_pos h2] at hX
  rw [if_neg h1] at HM
  clear h1 h2
  obtain ⟨⟨py,ey⟩,hx,hX⟩:=Option.bind_eq_some_iff.mp hX
  dsimp only at hx hX
  have HX:=am_ hx
  have HY:=am_ hX
  clear hx hX
  go_wp2_with fail
  replace HX:=am_ (fl_named.calls HM.out.C.1 (fun w' hS => HP.out w' (HM.out.C.2.trans hS (.inl rfl))) HPC.out HX.out)
  refine HX.out.mono ?_
  rintro _ W13 ⟨rfl,hR⟩
  replace HR5:=am_ (kb_R2 hR.2 HR5.out HLT.out HLF.out)
  replace HR6:=am_ (kb_R2 hR.2 HR6.out HLT.out HLF.out)
  replace HM:=am_ (HM.out.step hR)
  clear hR HX
  replace HY:=bnd_ HY
  obtain ⟨⟨nn,pn,en⟩,HX,HY⟩:=HY
  dsimp only at HX HY
  go_wp2_with fail
  replace HX:=am_ (fl_count.calls HM.out.C.1 HX.out)
  refine HX.out.mono ?_
  rintro _ W14 ⟨rfl,hR⟩
  replace HR5:=am_ (kb_R2 hR.2 HR5.out HLT.out HLF.out)
  replace HR6:=am_ (kb_R2 hR.2 HR6.out HLT.out HLF.out)
  replace HM:=am_ (HM.out.step hR)
  clear hR HX
  obtain ⟨B3,hB3⟩:∃ B3,(nn==0)=B3:=⟨_,rfl⟩
  go_upto_if 85 with (fail)
  have HB3:=am_ hB3
  clear hB3
  go_cut [] (fun wc => Aside0 (FmSt w0 w wc fb g bs pn (if nn=0 then failE en 50 else en) bm0 bm #[.int .i64 a,.int .i64 b,.int .i64 c,.int .i64 s,.int .i64 t,.slice A5 code.length c5,.slice A6 tr.length c6,.slice none 0 0]∧Kd.R (Kd.int .u8) 5 wc w.heap.size (fun _ => True) (.slice A5 code.length c5) code∧Kd.R k63 63 wc w.heap.size (fun _ => True) (.slice A6 tr.length c6) tr))
  case first =>
   cases B3 with
   | true =>
    go_wp2_with fail
    have HX:=am_ (fl_fail.calls 50 HM.out.C.1)
    refine HX.out.mono ?_
    rintro _ W15 ⟨rfl,hR⟩
    replace HR5:=am_ (kb_R2 hR.2 HR5.out HLT.out HLF.out)
    replace HR6:=am_ (kb_R2 hR.2 HR6.out HLT.out HLF.out)
    replace HM:=am_ (HM.out.step hR)
    clear hR HX
    go_wp2_with fail
    go_meet
    rw [if_pos (beq_iff_eq.mp HB3.out)]
    exact ⟨⟨HM.out,HR5.out,HR6.out⟩⟩
   | false =>
    go_wp2_with fail
    go_meet
    rw [if_neg (beq_eq_false_iff_ne.mp HB3.out)]
    exact ⟨⟨HM.out,HR5.out,HR6.out⟩⟩
  clear HM HR5 HR6
  obtain ⟨hm,h5,h6⟩:=hcut.out
  have HM:=am_ hm
  have HR5:=am_ h5
  have HR6:=am_ h6
  clear hcut hm h5 h6
  have hY:=HY.out
  clear HY
  have hY:fl_bytes.f bs pn (if nn=0 then failE en 50 else en) nn=some (maps,pq,eq):=by
   by_cases h3:nn=0
   ·rw [if_pos h3] at hY ⊢;exact hY
   rw [if_neg h3] at hY ⊢;exact hY
  have HX:=am_ (fl_bytes.calls HM.out.C.1 hY)
  have HS:=am_ HM.out.C.2.1
  clear hY
  go_wp2_with fail
  refine HX.out.mono ?_
  rintro _ W16 ⟨v7,rfl,hR7,hR⟩
  replace HR5:=am_ (kb_R2 hR.2 HR5.out HLT.out HLF.out)
  replace HR6:=am_ (kb_R2 hR.2 HR6.out HLT.out HLF.out)
  replace HM:=am_ (HM.out.step hR)
  clear hR HX
  have HR7:=am_ (Kd.R_lower hR7 HS.out)
  clear hR7 HS
  obtain ⟨A7,c7,hv7⟩:=Kd.R_slice HR7.out
  subst hv7
  have z0:=blk_frozen HM.out.km 7
  have z1:=(blk_cell HM.out.km 7).trans rfl
  go_wp2_with fail
  replace HR5:=am_ (Kd.R_set HR5.out HM.out.km (by decide) 7 (.slice A7 maps.length c7))
  replace HR6:=am_ (Kd.R_set HR6.out HM.out.km (by decide) 7 (.slice A7 maps.length c7))
  replace HR7:=am_ (Kd.R_set HR7.out HM.out.km (by decide) 7 (.slice A7 maps.length c7))
  replace HM:=am_ (HM.out.set (cs':=#[.int .i64 a,.int .i64 b,.int .i64 c,.int .i64 s,.int .i64 t,.slice A5 code.length c5,.slice A6 tr.length c6,.slice A7 maps.length c7]) 7 (.slice A7 maps.length c7) rfl)
  clear z0 z1
  go_meet
  exact ⟨⟨_,HM.out,HR5.out,HR6.out,HR7.out⟩⟩
 clear HM HR5 HR6 HX0
 obtain ⟨v7,hm,h5,h6,h7⟩:=hcut.out
 have HM:=am_ hm
 have HR5:=am_ h5
 have HR6:=am_ h6
 have HR7:=am_ h7
 clear hcut hm h5 h6 h7
 obtain ⟨A7,c7,hv7⟩:=Kd.R_slice HR7.out
 subst hv7
 obtain ⟨A9,c9,hb9,_⟩:=id HM.out.C.1.R
 have q1:=(blk_cell hb9 1).trans rfl
 have q0:=HM.out.C.1.c0
 clear hb9
 have hr:=Option.some.inj HH.out
 clear HH
 try dsimp only at hr
 by_cases hw:wrap64 (pq - pm)=many
 case' pos =>
  rw [if_pos hw] at hr
  have hwb:(wrap64 (pq - pm) != many)=false:=bne_eq_false_iff_eq.mpr hw
  clear hw
  subst hr
  go_upto_region 25 with fail
  clear q0 q1 hwb
 case' neg =>
  rw [if_neg hw] at hr
  have hwb:(wrap64 (pq - pm) != many)=true:=bne_iff_ne.mpr hw
  clear hw
  subst hr
  go_wp2_with fail
  clear q0 q1 hwb
  have HX:=am_ (fl_fail.calls 50 HM.out.C.1)
  refine HX.out.mono ?_
  rintro _ W18 ⟨rfl,hR⟩
  replace HR5:=am_ (kb_R2 hR.2 HR5.out HLT.out HLF.out)
  replace HR6:=am_ (kb_R2 hR.2 HR6.out HLT.out HLF.out)
  replace HR7:=am_ (kb_R2 hR.2 HR7.out HLT.out HLF.out)
  replace HM:=am_ (HM.out.step hR)
  clear hR HX
  go_upto_region 25 with fail
 all_goals
  obtain ⟨e0,e1,e2,e3,e4,e5,e6,e7,_⟩:=blk8_ HM.out.km
  obtain ⟨g0,g1,g2,g3,g4,g5,g6,g7,f0,f1,f2,f3,f4,f5,f6,f7⟩:=blk8_ HM.out.k0
  go_wp2
  refine bodyPost_ret (results_cell_row rfl _ _ bm0 57 _ (0,0) _ rfl (st8f HM.out.k0) hu rfl (by kernel_rfl)) rfl ?_
  exact ⟨_,_,_,rfl,fm_fin HM.out HR5.out HR6.out HR7.out _ _ _ _ _ _ _ _⟩
end Go.Proofs.YtamdobdmjcgmoaaGreatDoor.Px
namespace Go.Proofs.YtamdobdmjcgmoaaGreatDoor.Px
open Go.RowKit Go.Proofs.YtamdobdmjcgmoaaGreatDoorW.PrintWords Go.Proofs.YtamdobdmjcgmoaaGreatDoorW.PrintLast Go.Proofs.YtamdobdmjcgmoaaGreatDoorW.PrintMore
attribute [local go_sem] max2_int min2_int max_two min_two max_three min_three max_four min_four
set_option linter.unusedVariables false
set_option linter.unusedSimpArgs false
mutual
def understudyref02_take.j0:Nat→List Int→Int→Bool→Option (Int × Int)
 | 0,_,_,_ => none
 | k + 1,x0,x4,x11 => if x11=true then (some (x4,1)) else (if x4 ≥ 192 then (if x4≤223 then (if (x0.length:Int) ≥ 2 then (if 1 < (x0.length:Int) then (if (rd x0 1) ≥ 128 then (understudyref02_take.j1 k x0 x4 (decide ((rd x0 1)≤191))) else (understudyref02_take.j1 k x0 x4 false)) else (none)) else (understudyref02_take.j1 k x0 x4 false)) else (understudyref02_take.j1 k x0 x4 false)) else (understudyref02_take.j1 k x0 x4 false))
def understudyref02_take.j1:Nat→List Int→Int→Bool→Option (Int × Int)
 | 0,_,_,_ => none
 | k + 1,x0,x4,x19 => if x19=true then (if 1 < (x0.length:Int) then (if (wrap64 ((wrap64 ((wrap64 ((wrap64 (x4 - 192)) * 64)) + (wrap64 (rd x0 1)))) - 128))=0 then (some (wrap64 ((wrap64 ((wrap64 ((wrap64 (x4 - 192)) * 64)) + (wrap64 (rd x0 1)))) - 128),2)) else (if (wrap64 ((wrap64 ((wrap64 ((wrap64 (x4 - 192)) * 64)) + (wrap64 (rd x0 1)))) - 128)) ≥ 128 then (some (wrap64 ((wrap64 ((wrap64 ((wrap64 (x4 - 192)) * 64)) + (wrap64 (rd x0 1)))) - 128),2)) else (some (0,0)))) else (none)) else (if x4 ≥ 224 then (if x4≤239 then (if (x0.length:Int) ≥ 3 then (if 1 < (x0.length:Int) then (if (rd x0 1) ≥ 128 then (if (rd x0 1)≤191 then (if 2 < (x0.length:Int) then (if (rd x0 2) ≥ 128 then (understudyref02_take.j2 k x0 x4 (decide ((rd x0 2)≤191))) else (understudyref02_take.j2 k x0 x4 false)) else (none)) else (understudyref02_take.j2 k x0 x4 false)) else (understudyref02_take.j2 k x0 x4 false)) else (none)) else (understudyref02_take.j2 k x0 x4 false)) else (understudyref02_take.j2 k x0 x4 false)) else (understudyref02_take.j2 k x0 x4 false))
def understudyref02_take.j2:Nat→List Int→Int→Bool→Option (Int × Int)
 | 0,_,_,_ => none
 | k + 1,x0,x4,x59 => if x59=true then (if 1 < (x0.length:Int) then (if 2 < (x0.length:Int) then (if (wrap64 ((wrap64 ((wrap64 ((wrap64 ((wrap64 (x4 - 224)) * 4096)) + (wrap64 ((wrap64 ((wrap64 (rd x0 1)) - 128)) * 64)))) + (wrap64 (rd x0 2)))) - 128)) ≥ 2048 then (some (wrap64 ((wrap64 ((wrap64 ((wrap64 ((wrap64 (x4 - 224)) * 4096)) + (wrap64 ((wrap64 ((wrap64 (rd x0 1)) - 128)) * 64)))) + (wrap64 (rd x0 2)))) - 128),3)) else (some (0,0))) else (none)) else (none)) else (some (0,0))
end
def understudyref02_take.f (k:Nat) (l0:List Int):Option (Int × Int):=if 0 < (l0.length:Int) then (if (wrap64 (rd l0 0)) ≥ 1 then (understudyref02_take.j0 k l0 (wrap64 (rd l0 0)) (decide ((wrap64 (rd l0 0))≤127))) else (understudyref02_take.j0 k l0 (wrap64 (rd l0 0)) false)) else (none)
set_option maxHeartbeats 80000000 in
set_option maxRecDepth 100000 in
theorem understudyref02_take.calls (k:Nat) (A0:Option Addr) (c0:Nat) (l0:List Int) (r1:Int) (r2:Int) (w:World) (hr0:Kd.C (Kd.int .u8) w A0 l0.length l0) (hc0:l0.length≤c0) (h:understudyref02_take.f k l0=some (r1,r2)) :
  Calls Tryz.prog 67 #[.slice A0 l0.length c0] w fun e w' => e=.returned (.tuple #[.int .i64 r1,.int .i64 r2])∧Drawn0 w w':=by
 have HR0:=am_ hr0
 have HC0:=am_ hc0
 clear hr0 hc0
 have H:(if 0 < (l0.length:Int) then (if (wrap64 (rd l0 0)) ≥ 1 then (understudyref02_take.j0 k l0 (wrap64 (rd l0 0)) (decide ((wrap64 (rd l0 0))≤127))) else (understudyref02_take.j0 k l0 (wrap64 (rd l0 0)) false)) else (none))=some (r1,r2):=h
 clear h
 by_cases c2:0 < (l0.length:Int)
 rotate_left
 ·rw [if_neg c2] at H
  exact absurd H (by simp)
 rw [if_pos c2] at H
 have c2b0:decide (0 < (l0.length:Int))=true:=decide_eq_true c2
 have c2b1:decide (0 < l0.length)=true:=decide_eq_true (by omega)
 clear c2
 have HC3:=am_ H
 clear H
 have p264:0≤(0:Int):=(by omega)
 have q264:0 < (l0.length:Int):=od_
 obtain ⟨ad264,e264,hx264_0⟩:=Kd.at_int HR0.out 0 p264 q264
 cases e264
 have qi264:(0 < l0.length)=True:=eq_true (by omega)
 (try rw [show ((0:Int)).toNat=0 from rfl] at hx264_0)
 (try rw [Addr.add_zero'] at hx264_0)
 replace p264:=eq_true p264
 replace q264:=eq_true q264
 go_enter Tryz.func67,Tryz.ntmps67
 go_upto_region 2 with (fail)
 repeat (go_quiet (fail);go_upto_region 2 with (fail))
 go_cut [11] (fun v11 wc => ∃ (kq:Nat) (x11_2:Bool),v11=.bool x11_2∧Aside0 (understudyref02_take.j0 kq l0 (wrap64 (rd l0 0)) x11_2=some (r1,r2))∧Aside0 (kq≤k)∧Drawn0 w wc)
 case first =>
  have H:=HC3.out
  clear HC3
  by_cases c4:(wrap64 (rd l0 0)) ≥ 1
  ·rw [if_pos c4] at H
   have c4b0:decide (1≤(wrap64 (rd l0 0)))=true:=decide_eq_true c4
   clear c4
   (first|rw [c4b0]|(simp only [i64_w,i32_w];rw [c4b0])|skip)
   have H':=am_ H
   clear H
   go_wp2
   repeat (go_quiet (fail);try go_wp2)
   go_meet
   case rel => exact ⟨_,(decide ((wrap64 (rd l0 0))≤127)),r3_,H',⟨by first|omega|exact Nat.le_refl _⟩,by repeat (first|exact Drawn0.refl _|apply Drawn0.step)⟩
  rw [if_neg c4] at H
  have c4b0:decide (1≤(wrap64 (rd l0 0)))=false:=decide_eq_false c4
  clear c4
  (first|rw [c4b0]|(simp only [i64_w,i32_w];rw [c4b0])|skip)
  have H':=am_ H
  clear H
  go_wp2
  repeat (go_quiet (fail);try go_wp2)
  go_meet
  case rel => exact ⟨_,(false),r3_,H',⟨by first|omega|exact Nat.le_refl _⟩,by repeat (first|exact Drawn0.refl _|apply Drawn0.step)⟩
 clear HC3
 try clear c2;try clear c2b0;try clear c2b1;try clear hx264_0;try clear p264;try clear q264
 obtain ⟨kq,x11_2,rfl,HA,HJ2,⟨mc2,rfl⟩⟩:=hcut
 cases kq with
 | zero => exact absurd HA.out (by simp [understudyref02_take.j0])
 | succ kj2 =>
  have H:=HA.out
  clear HA
  simp only [understudyref02_take.j0] at H
  by_cases c5:x11_2=true
  ·subst c5
   rw [if_pos rfl] at H
   simp only [Option.some.injEq,Prod.mk.injEq] at H
   obtain ⟨rfl,rfl⟩:=H
   go_wp2
   repeat (go_quiet (fail);try go_wp2)
   go_ret2
   exact ⟨by first|rfl|(simp;done)|(simp [*];done),by repeat (first|exact Drawn0.refl _|apply Drawn0.step)⟩
  replace c5:=Bool.eq_false_iff.mpr c5
  subst c5
  rw [if_neg (show ¬ (false=true) by decide)] at H
  have HC6:=am_ H
  clear H
  go_upto_region 4 with (fail)
  repeat (go_quiet (fail);go_upto_region 4 with (fail))
  go_cut [19] (fun v19 wc => ∃ (kq:Nat) (x19_5:Bool),v19=.bool x19_5∧Aside0 (understudyref02_take.j1 kq l0 (wrap64 (rd l0 0)) x19_5=some (r1,r2))∧Aside0 (kq≤kj2)∧Drawn0 w wc)
  case first =>
   have H:=HC6.out
   clear HC6
   by_cases c7:(wrap64 (rd l0 0)) ≥ 192
   rotate_left
   ·rw [if_neg c7] at H
    have c7b0:decide (192≤(wrap64 (rd l0 0)))=false:=decide_eq_false c7
    clear c7
    (first|rw [c7b0]|(simp only [i64_w,i32_w];rw [c7b0])|skip)
    have H':=am_ H
    clear H
    go_wp2
    repeat (go_quiet (fail);try go_wp2)
    go_meet
    case rel => exact ⟨_,(false),r3_,H',⟨by have:=HJ2.out;first|omega|exact Nat.le_refl _⟩,by repeat (first|exact Drawn0.refl _|apply Drawn0.step)⟩
   rw [if_pos c7] at H
   have c7b0:decide (192≤(wrap64 (rd l0 0)))=true:=decide_eq_true c7
   clear c7
   (first|rw [c7b0]|(simp only [i64_w,i32_w];rw [c7b0])|skip)
   by_cases c8:(wrap64 (rd l0 0))≤223
   rotate_left
   ·rw [if_neg c8] at H
    have c8b0:decide ((wrap64 (rd l0 0))≤223)=false:=decide_eq_false c8
    clear c8
    have H':=am_ H
    clear H
    go_wp2
    repeat (go_quiet (fail);try go_wp2)
    go_meet
    case rel => exact ⟨_,(false),r3_,H',⟨by have:=HJ2.out;first|omega|exact Nat.le_refl _⟩,by repeat (first|exact Drawn0.refl _|apply Drawn0.step)⟩
   rw [if_pos c8] at H
   have c8b0:decide ((wrap64 (rd l0 0))≤223)=true:=decide_eq_true c8
   clear c8
   by_cases c9:(l0.length:Int) ≥ 2
   rotate_left
   ·rw [if_neg c9] at H
    have c9b0:decide (2≤(l0.length:Int))=false:=decide_eq_false c9
    have c9b1:decide (2≤l0.length)=false:=decide_eq_false (by omega)
    clear c9
    have H':=am_ H
    clear H
    go_wp2
    repeat (go_quiet (fail);try go_wp2)
    go_meet
    case rel => exact ⟨_,(false),r3_,H',⟨by have:=HJ2.out;first|omega|exact Nat.le_refl _⟩,by repeat (first|exact Drawn0.refl _|apply Drawn0.step)⟩
   rw [if_pos c9] at H
   have c9b0:decide (2≤(l0.length:Int))=true:=decide_eq_true c9
   have c9b1:decide (2≤l0.length)=true:=decide_eq_true (by omega)
   clear c9
   by_cases c10:1 < (l0.length:Int)
   rotate_left
   ·rw [if_neg c10] at H
    exact absurd H (by simp)
   rw [if_pos c10] at H
   have c10b0:decide (1 < (l0.length:Int))=true:=decide_eq_true c10
   have c10b1:decide (1 < l0.length)=true:=decide_eq_true (by omega)
   clear c10
   by_cases c11:(rd l0 1) ≥ 128
   ·rw [if_pos c11] at H
    have c11b0:decide (128≤(rd l0 1))=true:=decide_eq_true c11
    clear c11
    have H':=am_ H
    clear H
    have p265:0≤(1:Int):=(by omega)
    have q265:1 < (l0.length:Int):=od_
    obtain ⟨ad265,e265,hx265_0⟩:=Kd.at_int HR0.out 1 p265 q265
    obtain rfl:ad264=ad265:=(by injection e265)
    (try simp only [show (1:Int).toNat=1 from rfl,Nat.reduceMul,Nat.reduceEqDiff,Go.Addr.add,↓reduceIte] at hx265_0)
    have qi265:(1 < l0.length)=True:=eq_true (by omega)
    (try rw [show ((1:Int)).toNat=1 from rfl] at hx265_0)
    replace p265:=eq_true p265
    replace q265:=eq_true q265
    have p266:0≤(1:Int):=(by omega)
    have q266:1 < (l0.length:Int):=od_
    obtain ⟨ad266,e266,hx266_0⟩:=Kd.at_int HR0.out 1 p266 q266
    obtain rfl:ad264=ad266:=(by injection e266)
    (try simp only [show (1:Int).toNat=1 from rfl,Nat.reduceMul,Nat.reduceEqDiff,Go.Addr.add,↓reduceIte] at hx266_0)
    have qi266:(1 < l0.length)=True:=eq_true (by omega)
    (try rw [show ((1:Int)).toNat=1 from rfl] at hx266_0)
    replace p266:=eq_true p266
    replace q266:=eq_true q266
    go_wp2
    repeat (go_quiet (fail);try go_wp2)
    go_meet
    case rel => exact ⟨_,(decide ((rd l0 1)≤191)),r3_,H',⟨by have:=HJ2.out;first|omega|exact Nat.le_refl _⟩,by repeat (first|exact Drawn0.refl _|apply Drawn0.step)⟩
   rw [if_neg c11] at H
   have c11b0:decide (128≤(rd l0 1))=false:=decide_eq_false c11
   clear c11
   have H':=am_ H
   clear H
   have p265:0≤(1:Int):=(by omega)
   have q265:1 < (l0.length:Int):=od_
   obtain ⟨ad265,e265,hx265_0⟩:=Kd.at_int HR0.out 1 p265 q265
   obtain rfl:ad264=ad265:=(by injection e265)
   (try simp only [show (1:Int).toNat=1 from rfl,Nat.reduceMul,Nat.reduceEqDiff,Go.Addr.add,↓reduceIte] at hx265_0)
   have qi265:(1 < l0.length)=True:=eq_true (by omega)
   (try rw [show ((1:Int)).toNat=1 from rfl] at hx265_0)
   replace p265:=eq_true p265
   replace q265:=eq_true q265
   go_wp2
   repeat (go_quiet (fail);try go_wp2)
   go_meet
   case rel => exact ⟨_,(false),r3_,H',⟨by have:=HJ2.out;first|omega|exact Nat.le_refl _⟩,by repeat (first|exact Drawn0.refl _|apply Drawn0.step)⟩
  clear HC6
  try clear c5
  obtain ⟨kq,x19_5,rfl,HA,HJ5,⟨mc5,rfl⟩⟩:=hcut
  cases kq with
  | zero => exact absurd HA.out (by simp [understudyref02_take.j1])
  | succ kj5 =>
   have H:=HA.out
   clear HA
   simp only [understudyref02_take.j1] at H
   by_cases c12:x19_5=true
   ·subst c12
    rw [if_pos rfl] at H
    by_cases c13:1 < (l0.length:Int)
    rotate_left
    ·rw [if_neg c13] at H
     exact absurd H (by simp)
    rw [if_pos c13] at H
    have c13b0:decide (1 < (l0.length:Int))=true:=decide_eq_true c13
    have c13b1:decide (1 < l0.length)=true:=decide_eq_true (by omega)
    clear c13
    by_cases c14:(wrap64 ((wrap64 ((wrap64 ((wrap64 ((wrap64 (rd l0 0)) - 192)) * 64)) + (wrap64 (rd l0 1)))) - 128))=0
    ·rw [if_pos c14] at H
     have c14b0:((wrap64 ((wrap64 ((wrap64 ((wrap64 ((wrap64 (rd l0 0)) - 192)) * 64)) + (wrap64 (rd l0 1)))) - 128))==0)=true:=beq_iff_eq.mpr c14
     have c14b1:((wrap64 ((wrap64 ((wrap64 ((wrap64 ((wrap64 (rd l0 0)) - 192)) * 64)) + (wrap64 (rd l0 1)))) - 128)) != 0)=false:=bne_eq_false_iff_eq.mpr c14
     clear c14
     simp only [Option.some.injEq,Prod.mk.injEq] at H
     obtain ⟨rfl,rfl⟩:=H
     have p267:0≤(1:Int):=(by omega)
     have q267:1 < (l0.length:Int):=od_
     obtain ⟨ad267,e267,hx267_0⟩:=Kd.at_int HR0.out 1 p267 q267
     obtain rfl:ad264=ad267:=(by injection e267)
     (try simp only [show (1:Int).toNat=1 from rfl,Nat.reduceMul,Nat.reduceEqDiff,Go.Addr.add,↓reduceIte] at hx267_0)
     have qi267:(1 < l0.length)=True:=eq_true (by omega)
     (try rw [show ((1:Int)).toNat=1 from rfl] at hx267_0)
     replace p267:=eq_true p267
     replace q267:=eq_true q267
     go_wp2
     repeat (go_quiet (fail);try go_wp2)
     go_ret2
     exact ⟨by first|rfl|(simp;done)|(simp [*];done),by repeat (first|exact Drawn0.refl _|apply Drawn0.step)⟩
    rw [if_neg c14] at H
    have c14b0:((wrap64 ((wrap64 ((wrap64 ((wrap64 ((wrap64 (rd l0 0)) - 192)) * 64)) + (wrap64 (rd l0 1)))) - 128))==0)=false:=beq_eq_false_iff_ne.mpr c14
    have c14b1:((wrap64 ((wrap64 ((wrap64 ((wrap64 ((wrap64 (rd l0 0)) - 192)) * 64)) + (wrap64 (rd l0 1)))) - 128)) != 0)=true:=bne_iff_ne.mpr c14
    by_cases c15:(wrap64 ((wrap64 ((wrap64 ((wrap64 ((wrap64 (rd l0 0)) - 192)) * 64)) + (wrap64 (rd l0 1)))) - 128)) ≥ 128
    ·rw [if_pos c15] at H
     have c15b0:decide (128≤(wrap64 ((wrap64 ((wrap64 ((wrap64 ((wrap64 (rd l0 0)) - 192)) * 64)) + (wrap64 (rd l0 1)))) - 128)))=true:=decide_eq_true c15
     clear c15
     simp only [Option.some.injEq,Prod.mk.injEq] at H
     obtain ⟨rfl,rfl⟩:=H
     have p267:0≤(1:Int):=(by omega)
     have q267:1 < (l0.length:Int):=od_
     obtain ⟨ad267,e267,hx267_0⟩:=Kd.at_int HR0.out 1 p267 q267
     obtain rfl:ad264=ad267:=(by injection e267)
     (try simp only [show (1:Int).toNat=1 from rfl,Nat.reduceMul,Nat.reduceEqDiff,Go.Addr.add,↓reduceIte] at hx267_0)
     have qi267:(1 < l0.length)=True:=eq_true (by omega)
     (try rw [show ((1:Int)).toNat=1 from rfl] at hx267_0)
     replace p267:=eq_true p267
     replace q267:=eq_true q267
     go_wp2
     repeat (go_quiet (fail);try go_wp2)
     go_ret2
     exact ⟨by first|rfl|(simp;done)|(simp [*];done),by repeat (first|exact Drawn0.refl _|apply Drawn0.step)⟩
    rw [if_neg c15] at H
    have c15b0:decide (128≤(wrap64 ((wrap64 ((wrap64 ((wrap64 ((wrap64 (rd l0 0)) - 192)) * 64)) + (wrap64 (rd l0 1)))) - 128)))=false:=decide_eq_false c15
    clear c15
    simp only [Option.some.injEq,Prod.mk.injEq] at H
    obtain ⟨rfl,rfl⟩:=H
    have p267:0≤(1:Int):=(by omega)
    have q267:1 < (l0.length:Int):=od_
    obtain ⟨ad267,e267,hx267_0⟩:=Kd.at_int HR0.out 1 p267 q267
    obtain rfl:ad264=ad267:=(by injection e267)
    (try simp only [show (1:Int).toNat=1 from rfl,Nat.reduceMul,Nat.reduceEqDiff,Go.Addr.add,↓reduceIte] at hx267_0)
    have qi267:(1 < l0.length)=True:=eq_true (by omega)
    (try rw [show ((1:Int)).toNat=1 from rfl] at hx267_0)
    replace p267:=eq_true p267
    replace q267:=eq_true q267
    go_wp2
    repeat (go_quiet (fail);try go_wp2)
    go_ret2
    exact ⟨by first|rfl|(simp;done)|(simp [*];done),by repeat (first|exact Drawn0.refl _|apply Drawn0.step)⟩
   replace c12:=Bool.eq_false_iff.mpr c12
   subst c12
   rw [if_neg (show ¬ (false=true) by decide)] at H
   have HC16:=am_ H
   clear H
   go_upto_region 8 with (fail)
   repeat (go_quiet (fail);go_upto_region 8 with (fail))
   go_cut [59] (fun v59 wc => ∃ (kq:Nat) (x59_15:Bool),v59=.bool x59_15∧Aside0 (understudyref02_take.j2 kq l0 (wrap64 (rd l0 0)) x59_15=some (r1,r2))∧Aside0 (kq≤kj5)∧Drawn0 w wc)
   case first =>
    have H:=HC16.out
    clear HC16
    by_cases c17:(wrap64 (rd l0 0)) ≥ 224
    rotate_left
    ·rw [if_neg c17] at H
     have c17b0:decide (224≤(wrap64 (rd l0 0)))=false:=decide_eq_false c17
     clear c17
     (first|rw [c17b0]|(simp only [i64_w,i32_w];rw [c17b0])|skip)
     have H':=am_ H
     clear H
     go_wp2
     repeat (go_quiet (fail);try go_wp2)
     go_meet
     case rel => exact ⟨_,(false),r3_,H',⟨by have:=HJ2.out;have:=HJ5.out;first|omega|exact Nat.le_refl _⟩,by repeat (first|exact Drawn0.refl _|apply Drawn0.step)⟩
    rw [if_pos c17] at H
    have c17b0:decide (224≤(wrap64 (rd l0 0)))=true:=decide_eq_true c17
    clear c17
    (first|rw [c17b0]|(simp only [i64_w,i32_w];rw [c17b0])|skip)
    by_cases c18:(wrap64 (rd l0 0))≤239
    rotate_left
    ·rw [if_neg c18] at H
     have c18b0:decide ((wrap64 (rd l0 0))≤239)=false:=decide_eq_false c18
     clear c18
     have H':=am_ H
     clear H
     go_wp2
     repeat (go_quiet (fail);try go_wp2)
     go_meet
     case rel => exact ⟨_,(false),r3_,H',⟨by have:=HJ2.out;have:=HJ5.out;first|omega|exact Nat.le_refl _⟩,by repeat (first|exact Drawn0.refl _|apply Drawn0.step)⟩
    rw [if_pos c18] at H
    have c18b0:decide ((wrap64 (rd l0 0))≤239)=true:=decide_eq_true c18
    clear c18
    by_cases c19:(l0.length:Int) ≥ 3
    rotate_left
    ·rw [if_neg c19] at H
     have c19b0:decide (3≤(l0.length:Int))=false:=decide_eq_false c19
     have c19b1:decide (3≤l0.length)=false:=decide_eq_false (by omega)
     clear c19
     have H':=am_ H
     clear H
     go_wp2
     repeat (go_quiet (fail);try go_wp2)
     go_meet
     case rel => exact ⟨_,(false),r3_,H',⟨by have:=HJ2.out;have:=HJ5.out;first|omega|exact Nat.le_refl _⟩,by repeat (first|exact Drawn0.refl _|apply Drawn0.step)⟩
    rw [if_pos c19] at H
    have c19b0:decide (3≤(l0.length:Int))=true:=decide_eq_true c19
    have c19b1:decide (3≤l0.length)=true:=decide_eq_true (by omega)
    clear c19
    by_cases c20:1 < (l0.length:Int)
    rotate_left
    ·rw [if_neg c20] at H
     exact absurd H (by simp)
    rw [if_pos c20] at H
    have c20b0:decide (1 < (l0.length:Int))=true:=decide_eq_true c20
    have c20b1:decide (1 < l0.length)=true:=decide_eq_true (by omega)
    clear c20
    by_cases c21:(rd l0 1) ≥ 128
    rotate_left
    ·rw [if_neg c21] at H
     have c21b0:decide (128≤(rd l0 1))=false:=decide_eq_false c21
     clear c21
     have H':=am_ H
     clear H
     have p268:0≤(1:Int):=(by omega)
     have q268:1 < (l0.length:Int):=od_
     obtain ⟨ad268,e268,hx268_0⟩:=Kd.at_int HR0.out 1 p268 q268
     obtain rfl:ad264=ad268:=(by injection e268)
     (try simp only [show (1:Int).toNat=1 from rfl,Nat.reduceMul,Nat.reduceEqDiff,Go.Addr.add,↓reduceIte] at hx268_0)
     have qi268:(1 < l0.length)=True:=eq_true (by omega)
     (try rw [show ((1:Int)).toNat=1 from rfl] at hx268_0)
     replace p268:=eq_true p268
     replace q268:=eq_true q268
     go_wp2
     repeat (go_quiet (fail);try go_wp2)
     go_meet
     case rel => exact ⟨_,(false),r3_,H',⟨by have:=HJ2.out;have:=HJ5.out;first|omega|exact Nat.le_refl _⟩,by repeat (first|exact Drawn0.refl _|apply Drawn0.step)⟩
    rw [if_pos c21] at H
    have c21b0:decide (128≤(rd l0 1))=true:=decide_eq_true c21
    clear c21
    by_cases c22:(rd l0 1)≤191
    rotate_left
    ·rw [if_neg c22] at H
     have c22b0:decide ((rd l0 1)≤191)=false:=decide_eq_false c22
     clear c22
     have H':=am_ H
     clear H
     have p268:0≤(1:Int):=(by omega)
     have q268:1 < (l0.length:Int):=od_
     obtain ⟨ad268,e268,hx268_0⟩:=Kd.at_int HR0.out 1 p268 q268
     obtain rfl:ad264=ad268:=(by injection e268)
     (try simp only [show (1:Int).toNat=1 from rfl,Nat.reduceMul,Nat.reduceEqDiff,Go.Addr.add,↓reduceIte] at hx268_0)
     have qi268:(1 < l0.length)=True:=eq_true (by omega)
     (try rw [show ((1:Int)).toNat=1 from rfl] at hx268_0)
     replace p268:=eq_true p268
     replace q268:=eq_true q268
     have p269:0≤(1:Int):=(by omega)
     have q269:1 < (l0.length:Int):=od_
     obtain ⟨ad269,e269,hx269_0⟩:=Kd.at_int HR0.out 1 p269 q269
     obtain rfl:ad264=ad269:=(by injection e269)
     (try simp only [show (1:Int).toNat=1 from rfl,Nat.reduceMul,Nat.reduceEqDiff,Go.Addr.add,↓reduceIte] at hx269_0)
     have qi269:(1 < l0.length)=True:=eq_true (by omega)
     (try rw [show ((1:Int)).toNat=1 from rfl] at hx269_0)
     replace p269:=eq_true p269
     replace q269:=eq_true q269
     go_wp2
     repeat (go_quiet (fail);try go_wp2)
     go_meet
     case rel => exact ⟨_,(false),r3_,H',⟨by have:=HJ2.out;have:=HJ5.out;first|omega|exact Nat.le_refl _⟩,by repeat (first|exact Drawn0.refl _|apply Drawn0.step)⟩
    rw [if_pos c22] at H
    have c22b0:decide ((rd l0 1)≤191)=true:=decide_eq_true c22
    clear c22
    by_cases c23:2 < (l0.length:Int)
    rotate_left
    ·rw [if_neg c23] at H
     exact absurd H (by simp)
    rw [if_pos c23] at H
    have c23b0:decide (2 < (l0.length:Int))=true:=decide_eq_true c23
    have c23b1:decide (2 < l0.length)=true:=decide_eq_true (by omega)
    clear c23
    by_cases c24:(rd l0 2) ≥ 128
    ·rw [if_pos c24] at H
     have c24b0:decide (128≤(rd l0 2))=true:=decide_eq_true c24
     clear c24
     have H':=am_ H
     clear H
     have p268:0≤(1:Int):=(by omega)
     have q268:1 < (l0.length:Int):=od_
     obtain ⟨ad268,e268,hx268_0⟩:=Kd.at_int HR0.out 1 p268 q268
     obtain rfl:ad264=ad268:=(by injection e268)
     (try simp only [show (1:Int).toNat=1 from rfl,Nat.reduceMul,Nat.reduceEqDiff,Go.Addr.add,↓reduceIte] at hx268_0)
     have qi268:(1 < l0.length)=True:=eq_true (by omega)
     (try rw [show ((1:Int)).toNat=1 from rfl] at hx268_0)
     replace p268:=eq_true p268
     replace q268:=eq_true q268
     have p269:0≤(1:Int):=(by omega)
     have q269:1 < (l0.length:Int):=od_
     obtain ⟨ad269,e269,hx269_0⟩:=Kd.at_int HR0.out 1 p269 q269
     obtain rfl:ad264=ad269:=(by injection e269)
     (try simp only [show (1:Int).toNat=1 from rfl,Nat.reduceMul,Nat.reduceEqDiff,Go.Addr.add,↓reduceIte] at hx269_0)
     have qi269:(1 < l0.length)=True:=eq_true (by omega)
     (try rw [show ((1:Int)).toNat=1 from rfl] at hx269_0)
     replace p269:=eq_true p269
     replace q269:=eq_true q269
     have p270:0≤(2:Int):=(by omega)
     have q270:2 < (l0.length:Int):=od_
     obtain ⟨ad270,e270,hx270_0⟩:=Kd.at_int HR0.out 2 p270 q270
     obtain rfl:ad264=ad270:=(by injection e270)
     (try simp only [show (2:Int).toNat=2 from rfl,Nat.reduceMul,Nat.reduceEqDiff,Go.Addr.add,↓reduceIte] at hx270_0)
     have qi270:(2 < l0.length)=True:=eq_true (by omega)
     (try rw [show ((2:Int)).toNat=2 from rfl] at hx270_0)
     replace p270:=eq_true p270
     replace q270:=eq_true q270
     have p271:0≤(2:Int):=(by omega)
     have q271:2 < (l0.length:Int):=od_
     obtain ⟨ad271,e271,hx271_0⟩:=Kd.at_int HR0.out 2 p271 q271
     obtain rfl:ad264=ad271:=(by injection e271)
     (try simp only [show (2:Int).toNat=2 from rfl,Nat.reduceMul,Nat.reduceEqDiff,Go.Addr.add,↓reduceIte] at hx271_0)
     have qi271:(2 < l0.length)=True:=eq_true (by omega)
     (try rw [show ((2:Int)).toNat=2 from rfl] at hx271_0)
     replace p271:=eq_true p271
     replace q271:=eq_true q271
     go_wp2
     repeat (go_quiet (fail);try go_wp2)
     go_meet
     case rel => exact ⟨_,(decide ((rd l0 2)≤191)),r3_,H',⟨by have:=HJ2.out;have:=HJ5.out;first|omega|exact Nat.le_refl _⟩,by repeat (first|exact Drawn0.refl _|apply Drawn0.step)⟩
    rw [if_neg c24] at H
    have c24b0:decide (128≤(rd l0 2))=false:=decide_eq_false c24
    clear c24
    have H':=am_ H
    clear H
    have p268:0≤(1:Int):=(by omega)
    have q268:1 < (l0.length:Int):=od_
    obtain ⟨ad268,e268,hx268_0⟩:=Kd.at_int HR0.out 1 p268 q268
    obtain rfl:ad264=ad268:=(by injection e268)
    (try simp only [show (1:Int).toNat=1 from rfl,Nat.reduceMul,Nat.reduceEqDiff,Go.Addr.add,↓reduceIte] at hx268_0)
    have qi268:(1 < l0.length)=True:=eq_true (by omega)
    (try rw [show ((1:Int)).toNat=1 from rfl] at hx268_0)
    replace p268:=eq_true p268
    replace q268:=eq_true q268
    have p269:0≤(1:Int):=(by omega)
    have q269:1 < (l0.length:Int):=od_
    obtain ⟨ad269,e269,hx269_0⟩:=Kd.at_int HR0.out 1 p269 q269
    obtain rfl:ad264=ad269:=(by injection e269)
    (try simp only [show (1:Int).toNat=1 from rfl,Nat.reduceMul,Nat.reduceEqDiff,Go.Addr.add,↓reduceIte] at hx269_0)
    have qi269:(1 < l0.length)=True:=eq_true (by omega)
    (try rw [show ((1:Int)).toNat=1 from rfl] at hx269_0)
    replace p269:=eq_true p269
    replace q269:=eq_true q269
    have p270:0≤(2:Int):=(by omega)
    have q270:2 < (l0.length:Int):=od_
    obtain ⟨ad270,e270,hx270_0⟩:=Kd.at_int HR0.out 2 p270 q270
    obtain rfl:ad264=ad270:=(by injection e270)
    (try simp only [show (2:Int).toNat=2 from rfl,Nat.reduceMul,Nat.reduceEqDiff,Go.Addr.add,↓reduceIte] at hx270_0)
    have qi270:(2 < l0.length)=True:=eq_true (by omega)
    (try rw [show ((2:Int)).toNat=2 from rfl] at hx270_0)
    replace p270:=eq_true p270
    replace q270:=eq_true q270
    go_wp2
    repeat (go_quiet (fail);try go_wp2)
    go_meet
    case rel => exact ⟨_,(false),r3_,H',⟨by have:=HJ2.out;have:=HJ5.out;first|omega|exact Nat.le_refl _⟩,by repeat (first|exact Drawn0.refl _|apply Drawn0.step)⟩
   clear HC16
   try clear c12
   obtain ⟨kq,x59_15,rfl,HA,HJ15,⟨mc15,rfl⟩⟩:=hcut
   cases kq with
   | zero => exact absurd HA.out (by simp [understudyref02_take.j2])
   | succ kj15 =>
    have H:=HA.out
    clear HA
    simp only [understudyref02_take.j2] at H
    by_cases c25:x59_15=true
    rotate_left
    ·replace c25:=Bool.eq_false_iff.mpr c25
     subst c25
     rw [if_neg (show ¬ (false=true) by decide)] at H
     simp only [Option.some.injEq,Prod.mk.injEq] at H
     obtain ⟨rfl,rfl⟩:=H
     go_wp2
     repeat (go_quiet (fail);try go_wp2)
     go_ret2
     exact ⟨by first|rfl|(simp;done)|(simp [*];done),by repeat (first|exact Drawn0.refl _|apply Drawn0.step)⟩
    subst c25
    rw [if_pos rfl] at H
    by_cases c26:1 < (l0.length:Int)
    rotate_left
    ·rw [if_neg c26] at H
     exact absurd H (by simp)
    rw [if_pos c26] at H
    have c26b0:decide (1 < (l0.length:Int))=true:=decide_eq_true c26
    have c26b1:decide (1 < l0.length)=true:=decide_eq_true (by omega)
    clear c26
    by_cases c27:2 < (l0.length:Int)
    rotate_left
    ·rw [if_neg c27] at H
     exact absurd H (by simp)
    rw [if_pos c27] at H
    have c27b0:decide (2 < (l0.length:Int))=true:=decide_eq_true c27
    have c27b1:decide (2 < l0.length)=true:=decide_eq_true (by omega)
    clear c27
    by_cases c28:(wrap64 ((wrap64 ((wrap64 ((wrap64 ((wrap64 ((wrap64 (rd l0 0)) - 224)) * 4096)) + (wrap64 ((wrap64 ((wrap64 (rd l0 1)) - 128)) * 64)))) + (wrap64 (rd l0 2)))) - 128)) ≥ 2048
    ·rw [if_pos c28] at H
     have c28b0:decide (2048≤(wrap64 ((wrap64 ((wrap64 ((wrap64 ((wrap64 ((wrap64 (rd l0 0)) - 224)) * 4096)) + (wrap64 ((wrap64 ((wrap64 (rd l0 1)) - 128)) * 64)))) + (wrap64 (rd l0 2)))) - 128)))=true:=decide_eq_true c28
     clear c28
     simp only [Option.some.injEq,Prod.mk.injEq] at H
     obtain ⟨rfl,rfl⟩:=H
     have p272:0≤(1:Int):=(by omega)
     have q272:1 < (l0.length:Int):=od_
     obtain ⟨ad272,e272,hx272_0⟩:=Kd.at_int HR0.out 1 p272 q272
     obtain rfl:ad264=ad272:=(by injection e272)
     (try simp only [show (1:Int).toNat=1 from rfl,Nat.reduceMul,Nat.reduceEqDiff,Go.Addr.add,↓reduceIte] at hx272_0)
     have qi272:(1 < l0.length)=True:=eq_true (by omega)
     (try rw [show ((1:Int)).toNat=1 from rfl] at hx272_0)
     replace p272:=eq_true p272
     replace q272:=eq_true q272
     have p273:0≤(2:Int):=(by omega)
     have q273:2 < (l0.length:Int):=od_
     obtain ⟨ad273,e273,hx273_0⟩:=Kd.at_int HR0.out 2 p273 q273
     obtain rfl:ad264=ad273:=(by injection e273)
     (try simp only [show (2:Int).toNat=2 from rfl,Nat.reduceMul,Nat.reduceEqDiff,Go.Addr.add,↓reduceIte] at hx273_0)
     have qi273:(2 < l0.length)=True:=eq_true (by omega)
     (try rw [show ((2:Int)).toNat=2 from rfl] at hx273_0)
     replace p273:=eq_true p273
     replace q273:=eq_true q273
     go_wp2
     repeat (go_quiet (fail);try go_wp2)
     go_ret2
     exact ⟨by first|rfl|(simp;done)|(simp [*];done),by repeat (first|exact Drawn0.refl _|apply Drawn0.step)⟩
    rw [if_neg c28] at H
    have c28b0:decide (2048≤(wrap64 ((wrap64 ((wrap64 ((wrap64 ((wrap64 ((wrap64 (rd l0 0)) - 224)) * 4096)) + (wrap64 ((wrap64 ((wrap64 (rd l0 1)) - 128)) * 64)))) + (wrap64 (rd l0 2)))) - 128)))=false:=decide_eq_false c28
    clear c28
    simp only [Option.some.injEq,Prod.mk.injEq] at H
    obtain ⟨rfl,rfl⟩:=H
    have p272:0≤(1:Int):=(by omega)
    have q272:1 < (l0.length:Int):=od_
    obtain ⟨ad272,e272,hx272_0⟩:=Kd.at_int HR0.out 1 p272 q272
    obtain rfl:ad264=ad272:=(by injection e272)
    (try simp only [show (1:Int).toNat=1 from rfl,Nat.reduceMul,Nat.reduceEqDiff,Go.Addr.add,↓reduceIte] at hx272_0)
    have qi272:(1 < l0.length)=True:=eq_true (by omega)
    (try rw [show ((1:Int)).toNat=1 from rfl] at hx272_0)
    replace p272:=eq_true p272
    replace q272:=eq_true q272
    have p273:0≤(2:Int):=(by omega)
    have q273:2 < (l0.length:Int):=od_
    obtain ⟨ad273,e273,hx273_0⟩:=Kd.at_int HR0.out 2 p273 q273
    obtain rfl:ad264=ad273:=(by injection e273)
    (try simp only [show (2:Int).toNat=2 from rfl,Nat.reduceMul,Nat.reduceEqDiff,Go.Addr.add,↓reduceIte] at hx273_0)
    have qi273:(2 < l0.length)=True:=eq_true (by omega)
    (try rw [show ((2:Int)).toNat=2 from rfl] at hx273_0)
    replace p273:=eq_true p273
    replace q273:=eq_true q273
    go_wp2
    repeat (go_quiet (fail);try go_wp2)
    go_ret2
    exact ⟨by first|rfl|(simp;done)|(simp [*];done),by repeat (first|exact Drawn0.refl _|apply Drawn0.step)⟩
def understudyref02_utf8.f (a0:Int):Option (List Int):=if a0 < 128 then (some (([(a0) % 256]:List Int))) else (if a0 < 2048 then (some (([(wrap64 (192 + (wrap64 (Int.tdiv a0 64)))) % 256,(wrap64 (128 + (Int.tmod a0 64))) % 256]:List Int))) else (if a0 < 65536 then (some (([(wrap64 (224 + (wrap64 (Int.tdiv a0 4096)))) % 256,(wrap64 (128 + (Int.tmod (wrap64 (Int.tdiv a0 64)) 64))) % 256,(wrap64 (128 + (Int.tmod a0 64))) % 256]:List Int))) else (some (([(wrap64 (240 + (wrap64 (Int.tdiv a0 262144)))) % 256,(wrap64 (128 + (Int.tmod (wrap64 (Int.tdiv a0 4096)) 64))) % 256,(wrap64 (128 + (Int.tmod (wrap64 (Int.tdiv a0 64)) 64))) % 256,(wrap64 (128 + (Int.tmod a0 64))) % 256]:List Int)))))
set_option maxHeartbeats 80000000 in
set_option maxRecDepth 100000 in
theorem understudyref02_utf8.calls (a0:Int) (r:List Int) (w:World) (h:understudyref02_utf8.f a0=some r) :
  Calls Tryz.prog 68 #[.int .i64 a0] w fun e w' => ∃ v0_:Value,e=.returned (v0_)∧Kd.R (Kd.int .u8) 5 w' w.heap.size (fun _ => True) v0_ r∧Below w.heap.size w w':=by
 have HB:=am_ (Below.refl w.heap.size w)
 have H:(if a0 < 128 then (some (([(a0) % 256]:List Int))) else (if a0 < 2048 then (some (([(wrap64 (192 + (wrap64 (Int.tdiv a0 64)))) % 256,(wrap64 (128 + (Int.tmod a0 64))) % 256]:List Int))) else (if a0 < 65536 then (some (([(wrap64 (224 + (wrap64 (Int.tdiv a0 4096)))) % 256,(wrap64 (128 + (Int.tmod (wrap64 (Int.tdiv a0 64)) 64))) % 256,(wrap64 (128 + (Int.tmod a0 64))) % 256]:List Int))) else (some (([(wrap64 (240 + (wrap64 (Int.tdiv a0 262144)))) % 256,(wrap64 (128 + (Int.tmod (wrap64 (Int.tdiv a0 4096)) 64))) % 256,(wrap64 (128 + (Int.tmod (wrap64 (Int.tdiv a0 64)) 64))) % 256,(wrap64 (128 + (Int.tmod a0 64))) % 256]:List Int))))))=some r:=h
 clear h
 by_cases c2:a0 < 128
 ·rw [if_pos c2] at H
  have c2b0:decide (a0 < 128)=true:=decide_eq_true c2
  clear c2
  obtain ⟨y274,hy274⟩:∃ y_:List Int,y_=(([(a0) % 256]:List Int)):=⟨_,rfl⟩
  replace H:(some y274)=some r:=by first|(rw [hy274];with_reducible exact H)|(have H2_:=(Option.bind_some _ _).symm.trans H;rw [hy274];with_reducible exact H2_)|(have H2_:=(Option.bind_some _ _).symm.trans H;with_reducible exact H2_)|with_reducible exact H|(rw [hy274];exact H)|exact H
  have Ny274:=am_ hy274
  clear hy274
  obtain rfl:=Option.some.inj H
  go_enter Tryz.func68,Tryz.ntmps68
  go_wp2_with (first|((with_reducible refine gate_dst (N:=8) rfl ?_);refine Kd.R_lit (Kd.int .u8) _ 5 ?hg (N:=8) ?hd (xs:=([(a0) % 256]:List Int)) (inner:=[.int .u8 ((a0) % 256)]) (ok:=fun _ => True) (okp:=fun _ => True) ?hr ?hp (fun _ hk => hk) trivial (Below.refl _ _) (Nat.le_refl _) (by simp) ?_;(case hd => rfl);(case hg => rfl);(case hr => first|(go_simp;done)|(go_simp;rfl));(case hp => exact (Reps.one (show Kd.M (Kd.int .u8) _ _ _ ((a0) % 256) [.int .u8 ((a0) % 256)] from rfl) (Reps.none _ _)));intro v275 w3 ho4 hb hg_ hnew_;clear hg_ hnew_;(first|rw [← Ny274.out] at ho4|(simp only [Int.reduceToNat] at ho4;rw [← Ny274.out] at ho4));have n0_:=am_ (Kd.R_lower ho4 (below_size bl_));have n1_:=am_ (below_step bl_ hb);clear HB;have HO276:=n0_;have HB:=n1_;clear n0_ n1_;clear hb ho4))
  go_ret
  exact ⟨_,ew_,kr_ HO276.out,bl_⟩
 rw [if_neg c2] at H
 have c2b0:decide (a0 < 128)=false:=decide_eq_false c2
 clear c2
 by_cases c5:a0 < 2048
 ·rw [if_pos c5] at H
  have c5b0:decide (a0 < 2048)=true:=decide_eq_true c5
  clear c5
  obtain ⟨y277,hy277⟩:∃ y_:List Int,y_=(([(wrap64 (192 + (wrap64 (Int.tdiv a0 64)))) % 256,(wrap64 (128 + (Int.tmod a0 64))) % 256]:List Int)):=⟨_,rfl⟩
  replace H:(some y277)=some r:=by first|(rw [hy277];with_reducible exact H)|(have H2_:=(Option.bind_some _ _).symm.trans H;rw [hy277];with_reducible exact H2_)|(have H2_:=(Option.bind_some _ _).symm.trans H;with_reducible exact H2_)|with_reducible exact H|(rw [hy277];exact H)|exact H
  have Ny277:=am_ hy277
  clear hy277
  obtain rfl:=Option.some.inj H
  go_enter Tryz.func68,Tryz.ntmps68
  go_wp2_with (first|((with_reducible refine gate_dst (N:=20) rfl ?_);refine Kd.R_lit (Kd.int .u8) _ 5 ?hg (N:=20) ?hd (xs:=([(wrap64 (192 + (wrap64 (Int.tdiv a0 64)))) % 256,(wrap64 (128 + (Int.tmod a0 64))) % 256]:List Int)) (inner:=[.int .u8 ((wrap64 (192 + (wrap64 (Int.tdiv a0 64)))) % 256),.int .u8 ((wrap64 (128 + (Int.tmod a0 64))) % 256)]) (ok:=fun _ => True) (okp:=fun _ => True) ?hr ?hp (fun _ hk => hk) trivial (Below.refl _ _) (Nat.le_refl _) (by simp) ?_;(case hd => rfl);(case hg => rfl);(case hr => first|(go_simp;done)|(go_simp;rfl));(case hp => exact (Reps.one (show Kd.M (Kd.int .u8) _ _ _ ((wrap64 (192 + (wrap64 (Int.tdiv a0 64)))) % 256) [.int .u8 ((wrap64 (192 + (wrap64 (Int.tdiv a0 64)))) % 256)] from rfl) (Reps.one (show Kd.M (Kd.int .u8) _ _ _ ((wrap64 (128 + (Int.tmod a0 64))) % 256) [.int .u8 ((wrap64 (128 + (Int.tmod a0 64))) % 256)] from rfl) (Reps.none _ _))));intro v278 w6 ho7 hb hg_ hnew_;clear hg_ hnew_;(first|rw [← Ny277.out] at ho7|(simp only [Int.reduceToNat] at ho7;rw [← Ny277.out] at ho7));have n0_:=am_ (Kd.R_lower ho7 (below_size bl_));have n1_:=am_ (below_step bl_ hb);clear HB;have HO279:=n0_;have HB:=n1_;clear n0_ n1_;clear hb ho7))
  go_ret
  exact ⟨_,ew_,kr_ HO279.out,bl_⟩
 rw [if_neg c5] at H
 have c5b0:decide (a0 < 2048)=false:=decide_eq_false c5
 clear c5
 by_cases c8:a0 < 65536
 ·rw [if_pos c8] at H
  have c8b0:decide (a0 < 65536)=true:=decide_eq_true c8
  clear c8
  obtain ⟨y280,hy280⟩:∃ y_:List Int,y_=(([(wrap64 (224 + (wrap64 (Int.tdiv a0 4096)))) % 256,(wrap64 (128 + (Int.tmod (wrap64 (Int.tdiv a0 64)) 64))) % 256,(wrap64 (128 + (Int.tmod a0 64))) % 256]:List Int)):=⟨_,rfl⟩
  replace H:(some y280)=some r:=by first|(rw [hy280];with_reducible exact H)|(have H2_:=(Option.bind_some _ _).symm.trans H;rw [hy280];with_reducible exact H2_)|(have H2_:=(Option.bind_some _ _).symm.trans H;with_reducible exact H2_)|with_reducible exact H|(rw [hy280];exact H)|exact H
  have Ny280:=am_ hy280
  clear hy280
  obtain rfl:=Option.some.inj H
  go_enter Tryz.func68,Tryz.ntmps68
  go_wp2_with (first|((with_reducible refine gate_dst (N:=37) rfl ?_);refine Kd.R_lit (Kd.int .u8) _ 5 ?hg (N:=37) ?hd (xs:=([(wrap64 (224 + (wrap64 (Int.tdiv a0 4096)))) % 256,(wrap64 (128 + (Int.tmod (wrap64 (Int.tdiv a0 64)) 64))) % 256,(wrap64 (128 + (Int.tmod a0 64))) % 256]:List Int)) (inner:=[.int .u8 ((wrap64 (224 + (wrap64 (Int.tdiv a0 4096)))) % 256),.int .u8 ((wrap64 (128 + (Int.tmod (wrap64 (Int.tdiv a0 64)) 64))) % 256),.int .u8 ((wrap64 (128 + (Int.tmod a0 64))) % 256)]) (ok:=fun _ => True) (okp:=fun _ => True) ?hr ?hp (fun _ hk => hk) trivial (Below.refl _ _) (Nat.le_refl _) (by simp) ?_;(case hd => rfl);(case hg => rfl);(case hr => first|(go_simp;done)|(go_simp;rfl));(case hp => exact (Reps.one (show Kd.M (Kd.int .u8) _ _ _ ((wrap64 (224 + (wrap64 (Int.tdiv a0 4096)))) % 256) [.int .u8 ((wrap64 (224 + (wrap64 (Int.tdiv a0 4096)))) % 256)] from rfl) (Reps.one (show Kd.M (Kd.int .u8) _ _ _ ((wrap64 (128 + (Int.tmod (wrap64 (Int.tdiv a0 64)) 64))) % 256) [.int .u8 ((wrap64 (128 + (Int.tmod (wrap64 (Int.tdiv a0 64)) 64))) % 256)] from rfl) (Reps.one (show Kd.M (Kd.int .u8) _ _ _ ((wrap64 (128 + (Int.tmod a0 64))) % 256) [.int .u8 ((wrap64 (128 + (Int.tmod a0 64))) % 256)] from rfl) (Reps.none _ _)))));intro v281 w9 ho10 hb hg_ hnew_;clear hg_ hnew_;(first|rw [← Ny280.out] at ho10|(simp only [Int.reduceToNat] at ho10;rw [← Ny280.out] at ho10));have n0_:=am_ (Kd.R_lower ho10 (below_size bl_));have n1_:=am_ (below_step bl_ hb);clear HB;have HO282:=n0_;have HB:=n1_;clear n0_ n1_;clear hb ho10))
  go_ret
  exact ⟨_,ew_,kr_ HO282.out,bl_⟩
 rw [if_neg c8] at H
 have c8b0:decide (a0 < 65536)=false:=decide_eq_false c8
 clear c8
 obtain ⟨y283,hy283⟩:∃ y_:List Int,y_=(([(wrap64 (240 + (wrap64 (Int.tdiv a0 262144)))) % 256,(wrap64 (128 + (Int.tmod (wrap64 (Int.tdiv a0 4096)) 64))) % 256,(wrap64 (128 + (Int.tmod (wrap64 (Int.tdiv a0 64)) 64))) % 256,(wrap64 (128 + (Int.tmod a0 64))) % 256]:List Int)):=⟨_,rfl⟩
 replace H:(some y283)=some r:=by first|(rw [hy283];with_reducible exact H)|(have H2_:=(Option.bind_some _ _).symm.trans H;rw [hy283];with_reducible exact H2_)|(have H2_:=(Option.bind_some _ _).symm.trans H;with_reducible exact H2_)|with_reducible exact H|(rw [hy283];exact H)|exact H
 have Ny283:=am_ hy283
 clear hy283
 obtain rfl:=Option.some.inj H
 go_enter Tryz.func68,Tryz.ntmps68
 go_wp2_with (first|((with_reducible refine gate_dst (N:=56) rfl ?_);refine Kd.R_lit (Kd.int .u8) _ 5 ?hg (N:=56) ?hd (xs:=([(wrap64 (240 + (wrap64 (Int.tdiv a0 262144)))) % 256,(wrap64 (128 + (Int.tmod (wrap64 (Int.tdiv a0 4096)) 64))) % 256,(wrap64 (128 + (Int.tmod (wrap64 (Int.tdiv a0 64)) 64))) % 256,(wrap64 (128 + (Int.tmod a0 64))) % 256]:List Int)) (inner:=[.int .u8 ((wrap64 (240 + (wrap64 (Int.tdiv a0 262144)))) % 256),.int .u8 ((wrap64 (128 + (Int.tmod (wrap64 (Int.tdiv a0 4096)) 64))) % 256),.int .u8 ((wrap64 (128 + (Int.tmod (wrap64 (Int.tdiv a0 64)) 64))) % 256),.int .u8 ((wrap64 (128 + (Int.tmod a0 64))) % 256)]) (ok:=fun _ => True) (okp:=fun _ => True) ?hr ?hp (fun _ hk => hk) trivial (Below.refl _ _) (Nat.le_refl _) (by simp) ?_;(case hd => rfl);(case hg => rfl);(case hr => first|(go_simp;done)|(go_simp;rfl));(case hp => exact (Reps.one (show Kd.M (Kd.int .u8) _ _ _ ((wrap64 (240 + (wrap64 (Int.tdiv a0 262144)))) % 256) [.int .u8 ((wrap64 (240 + (wrap64 (Int.tdiv a0 262144)))) % 256)] from rfl) (Reps.one (show Kd.M (Kd.int .u8) _ _ _ ((wrap64 (128 + (Int.tmod (wrap64 (Int.tdiv a0 4096)) 64))) % 256) [.int .u8 ((wrap64 (128 + (Int.tmod (wrap64 (Int.tdiv a0 4096)) 64))) % 256)] from rfl) (Reps.one (show Kd.M (Kd.int .u8) _ _ _ ((wrap64 (128 + (Int.tmod (wrap64 (Int.tdiv a0 64)) 64))) % 256) [.int .u8 ((wrap64 (128 + (Int.tmod (wrap64 (Int.tdiv a0 64)) 64))) % 256)] from rfl) (Reps.one (show Kd.M (Kd.int .u8) _ _ _ ((wrap64 (128 + (Int.tmod a0 64))) % 256) [.int .u8 ((wrap64 (128 + (Int.tmod a0 64))) % 256)] from rfl) (Reps.none _ _))))));intro v284 w11 ho12 hb hg_ hnew_;clear hg_ hnew_;(first|rw [← Ny283.out] at ho12|(simp only [Int.reduceToNat] at ho12;rw [← Ny283.out] at ho12));have n0_:=am_ (Kd.R_lower ho12 (below_size bl_));have n1_:=am_ (below_step bl_ hb);clear HB;have HO285:=n0_;have HB:=n1_;clear n0_ n1_;clear hb ho12))
 go_ret
 exact ⟨_,ew_,kr_ HO285.out,bl_⟩
end Go.Proofs.YtamdobdmjcgmoaaGreatDoor.Px
namespace Go.Proofs.YtamdobdmjcgmoaaGreatDoor.Px
open Go.RowKit Go.Proofs.YtamdobdmjcgmoaaGreatDoorW.PrintWords Go.Proofs.YtamdobdmjcgmoaaGreatDoorW.PrintLast Go.Proofs.YtamdobdmjcgmoaaGreatDoorW.PrintMore
attribute [local go_sem] max2_int min2_int max_two min_two max_three min_three max_four min_four
set_option linter.unusedVariables false
set_option linter.unusedSimpArgs false
mutual
def understudyref02_Decode.l0:Nat→List Int→List Int→Option (ByteArray × Int)
 | 0,_,_ => none
 | k + 1,x0,x4 => if (x0.length:Int) > 0 then ((understudyref02_take.f k x0).bind fun bt286 => (if bt286.2=0 then (understudyref02_Decode.j1 k x0 x4 bt286.1 bt286.2 true) else (if bt286.1 ≥ 56320 then (understudyref02_Decode.j1 k x0 x4 bt286.1 bt286.2 (decide (bt286.1≤57343))) else (understudyref02_Decode.j1 k x0 x4 bt286.1 bt286.2 false)))) else (some (strOfNums x4,0))
def understudyref02_Decode.j1:Nat→List Int→List Int→Int→Int→Bool→Option (ByteArray × Int)
 | 0,_,_,_,_,_ => none
 | k + 1,x0,x4,x5,x6,x26 => if x26=true then (some ((⟨#[]⟩:ByteArray),20)) else (if 0≤x6 then (if x6≤(x0.length:Int) then ((some (x0.drop (x6:Int).toNat:List Int)).bind fun y288 => (if x5 < 55296 then (understudyref02_Decode.j2 k y288 x4 x5 true) else (understudyref02_Decode.j2 k y288 x4 x5 (decide (x5 > 56319))))) else (none)) else (none))
def understudyref02_Decode.j2:Nat→List Int→List Int→Int→Bool→Option (ByteArray × Int)
 | 0,_,_,_,_ => none
 | k + 1,x0,x4,x5,x35 => if x35=true then ((understudyref02_utf8.f x5).bind fun t293 => (if x4.length + t293.length < 140737488355328 then (understudyref02_Decode.l0 k x0 (x4++t293)) else (none))) else (if (x0.length:Int)=0 then (some ((⟨#[]⟩:ByteArray),20)) else ((understudyref02_take.f k x0).bind fun bt299 => (if bt299.2=0 then (some ((⟨#[]⟩:ByteArray),20)) else (if bt299.1 < 56320 then (some ((⟨#[]⟩:ByteArray),20)) else (if bt299.1 > 57343 then (some ((⟨#[]⟩:ByteArray),20)) else (if 0≤bt299.2 then (if bt299.2≤(x0.length:Int) then ((understudyref02_utf8.f (wrap64 ((wrap64 ((wrap64 (65536 + (wrap64 ((wrap64 (x5 - 55296)) * 1024)))) + bt299.1)) - 56320))).bind fun t306 => (if x4.length + t306.length < 140737488355328 then (understudyref02_Decode.l0 k (x0.drop (bt299.2:Int).toNat) (x4++t306)) else (none))) else (none)) else (none)))))))
end
def understudyref02_Decode.f (k:Nat) (l0:List Int):Option (ByteArray × Int):=understudyref02_Decode.l0 k l0 ([]:List Int)
set_option maxHeartbeats 80000000 in
set_option maxRecDepth 100000 in
theorem understudyref02_Decode.calls (k:Nat) (P0_:Nat→Prop) (A0:Option Addr) (c0:Nat) (l0:List Int) (r1:ByteArray) (r2:Int) (w:World) (hs0:Kd.V (Kd.int .u8) 5 w w.heap.size (fun k_ => P0_ k_) (.slice A0 l0.length c0) l0) (h:understudyref02_Decode.f k l0=some (r1,r2)) :
  Calls Tryz.prog 51 #[.slice A0 l0.length c0] w fun e w' => e=.returned (.tuple #[.string r1,.int .i64 r2])∧Below w.heap.size w w':=by
 have HO0:=am_ (show Kd.V (Kd.int .u8) 5 w w.heap.size (fun k_ => (P0_ k_ ∨ w.heap.size≤k_)) (.slice A0 l0.length c0) l0 from Kd.V_mono hs0 (fun k_ hk => .inl hk))
 have HB:=am_ (Below.refl w.heap.size w)
 have H:(understudyref02_Decode.l0 k l0 ([]:List Int))=some (r1,r2):=h
 clear h
 have H':=am_ H
 clear H
 go_enter Tryz.func51,Tryz.ntmps51
 go_wp2
 go_loopg [0,4] k (fun kq v0 v4 w' => ∃ (x0_1:List Int) (x4_1:List Int),Aside0 (understudyref02_Decode.l0 kq x0_1 x4_1=some (r1,r2))∧Aside0 (kq≤k)∧Aside0 (Kd.V (Kd.int .u8) 5 w' w.heap.size (fun k_ => (P0_ k_ ∨ w.heap.size≤k_)∧some k_ ≠ (v4:Value).ownBlock) v0 x0_1)∧Aside0 (Kd.R (Kd.int .u8) 5 w' w.heap.size (fun k_ => (w.heap.size≤k_)) v4 x4_1)∧Aside0 (Below w.heap.size w w'))
 case atStart => exact ⟨(l0),(([]:List Int)),H',⟨Nat.le_refl _⟩,⟨by (with_reducible repeat (first|apply Kd.V_alloc|apply Kd.V_drewN|apply Kd.V_drew));exact Kd.V_mono HO0.out (fun _ hk => ⟨hk,(by simp [Value.ownBlock])⟩)⟩,⟨by first|exact Kd.R_nil _ _ _ _ _|exact Kd.N_nil _ _ _ _ _|exact Kd.V_nil _ _ _ _ _|exact Kd.Q_nil _ _ _ _ _|exact Kd.S_nil _ _ _ _ _⟩,⟨bl_⟩⟩
 clear H'
 obtain ⟨x0_1,x4_1,HA,HK1,HO_0,HO_4,HB⟩:=hrel
 cases gk with
 | zero => exact absurd HA.out (by simp [understudyref02_Decode.l0])
 | succ k1 =>
  have H:=HA.out
  clear HA
  simp only [understudyref02_Decode.l0] at H
  by_cases c2:(x0_1.length:Int) > 0
  rotate_left
  ·rw [if_neg c2] at H
   have c2b0:decide (0 < (x0_1.length:Int))=false:=decide_eq_false c2
   have c2b1:decide (0 < x0_1.length)=false:=decide_eq_false (by omega)
   clear c2
   simp only [Option.some.injEq,Prod.mk.injEq] at H
   obtain ⟨rfl,rfl⟩:=H
   obtain ⟨Ao33,co33,eo33⟩:=Kd.V_slice HO_0.out
   subst eo33
   have hcv34:=own_string (P:=Tryz.prog) Tryz.underlying22 Tryz.underlying5 Tryz.underlying9 (Kd.own_of_R HO_4.out)
   go_wp2
   go_ret2
   exact ⟨ew_,bl_⟩
  rw [if_pos c2] at H
  have c2b0:decide (0 < (x0_1.length:Int))=true:=decide_eq_true c2
  have c2b1:decide (0 < x0_1.length)=true:=decide_eq_true (by omega)
  clear c2
  replace H:=Option.bind_eq_some_iff.mp H
  obtain ⟨⟨t286,t287⟩,A30,H⟩:=H
  try dsimp only at H
  have A3:=am_ A30
  clear A30
  have HC4:=am_ H
  clear H
  obtain ⟨Ao5,co5,eo5⟩:=Kd.V_slice HO_0.out
  subst eo5
  go_upto_region 4 with (first|(refine callA_ (f:=67) (some 14) Tryz.func67 #[.slice Ao5 x0_1.length co5] ?_;(with_reducible refine (understudyref02_take.calls k1 _ _ x0_1 t286 t287 _ ?side1 ?side2 A3.out).mono ?_);(case side1 => exact kc_ (Kd.V_reads' HO_0.out).2.2);(case side2 => exact (Kd.V_reads' HO_0.out).2.1);rintro e w' ⟨rfl,⟨nd,rfl⟩⟩;refine ⟨_,rfl,?_⟩))
  (try simp only [Act.put,List.setIfInBounds_toArray,List.set_cons_zero,List.set_cons_succ])
  go_cut [26] (fun v26 wc => ∃ (kq:Nat) (x26_3:Bool),v26=.bool x26_3∧Aside0 (understudyref02_Decode.j1 kq x0_1 x4_1 t286 t287 x26_3=some (r1,r2))∧Aside0 (kq≤k1)∧Aside0 (Kd.V (Kd.int .u8) 5 wc w.heap.size (fun k_ => (P0_ k_ ∨ w.heap.size≤k_)∧some k_ ≠ (u4:Value).ownBlock) (.slice Ao5 x0_1.length co5) x0_1)∧Aside0 (Kd.R (Kd.int .u8) 5 wc w.heap.size (fun k_ => (w.heap.size≤k_)) u4 x4_1)∧Aside0 (Below w.heap.size w wc))
  case first =>
   have H:=HC4.out
   clear HC4
   by_cases c6:t287=0
   ·rw [if_pos c6] at H
    have c6b0:(t287==0)=true:=beq_iff_eq.mpr c6
    have c6b1:(t287 != 0)=false:=bne_eq_false_iff_eq.mpr c6
    clear c6
    (first|rw [c6b0]|(simp only [i64_w,i32_w];rw [c6b0])|skip)
    have H':=am_ H
    clear H
    go_wp2
    go_meet
    case rel => exact ⟨_,(true),r3_,H',⟨by have:=HK1.out;first|omega|exact Nat.le_refl _⟩,⟨by (with_reducible repeat (first|apply Kd.V_alloc|apply Kd.V_drewN|apply Kd.V_drew));exact HO_0.out⟩,⟨kr_ HO_4.out⟩,⟨bl_⟩⟩
   rw [if_neg c6] at H
   have c6b0:(t287==0)=false:=beq_eq_false_iff_ne.mpr c6
   have c6b1:(t287 != 0)=true:=bne_iff_ne.mpr c6
   (first|rw [c6b0]|(simp only [i64_w,i32_w];rw [c6b0])|skip)
   by_cases c7:t286 ≥ 56320
   ·rw [if_pos c7] at H
    have c7b0:decide (56320≤t286)=true:=decide_eq_true c7
    clear c7
    have H':=am_ H
    clear H
    go_wp2
    go_meet
    case rel => exact ⟨_,(decide (t286≤57343)),r3_,H',⟨by have:=HK1.out;first|omega|exact Nat.le_refl _⟩,⟨by (with_reducible repeat (first|apply Kd.V_alloc|apply Kd.V_drewN|apply Kd.V_drew));exact HO_0.out⟩,⟨kr_ HO_4.out⟩,⟨bl_⟩⟩
   rw [if_neg c7] at H
   have c7b0:decide (56320≤t286)=false:=decide_eq_false c7
   clear c7
   have H':=am_ H
   clear H
   go_wp2
   go_meet
   case rel => exact ⟨_,(false),r3_,H',⟨by have:=HK1.out;first|omega|exact Nat.le_refl _⟩,⟨by (with_reducible repeat (first|apply Kd.V_alloc|apply Kd.V_drewN|apply Kd.V_drew));exact HO_0.out⟩,⟨kr_ HO_4.out⟩,⟨bl_⟩⟩
  clear HC4
  try clear c2;try clear c2b0;try clear c2b1
  obtain ⟨kq,x26_3,rfl,HA,HJ3,HO_0,HO_4,HB⟩:=hcut
  cases kq with
  | zero => exact absurd HA.out (by simp [understudyref02_Decode.j1])
  | succ kj3 =>
   have H:=HA.out
   clear HA
   simp only [understudyref02_Decode.j1] at H
   by_cases c8:x26_3=true
   ·subst c8
    rw [if_pos rfl] at H
    simp only [Option.some.injEq,Prod.mk.injEq] at H
    obtain ⟨rfl,rfl⟩:=H
    go_wp2
    go_ret2
    exact ⟨ew_,bl_⟩
   replace c8:=Bool.eq_false_iff.mpr c8
   subst c8
   rw [if_neg (show ¬ (false=true) by decide)] at H
   by_cases c9:0≤t287
   rotate_left
   ·rw [if_neg c9] at H
    exact absurd H (by simp)
   rw [if_pos c9] at H
   have c9b0:=eq_true c9
   have c9b1:decide (0≤t287)=true:=decide_eq_true c9
   clear c9
   by_cases c10:t287≤(x0_1.length:Int)
   rotate_left
   ·rw [if_neg c10] at H
    exact absurd H (by simp)
   rw [if_pos c10] at H
   have c10b0:=eq_true c10
   have c10b1:decide (t287≤(x0_1.length:Int))=true:=decide_eq_true c10
   clear c10
   obtain ⟨y288,hy288⟩:∃ y_:List Int,y_=(x0_1.drop (t287:Int).toNat):=⟨_,rfl⟩
   replace H:(if t286 < 55296 then (understudyref02_Decode.j2 kj3 y288 x4_1 t286 true) else (understudyref02_Decode.j2 kj3 y288 x4_1 t286 (decide (t286 > 56319))))=some (r1,r2):=by first|(rw [hy288];with_reducible exact H)|(have H2_:=(Option.bind_some _ _).symm.trans H;rw [hy288];with_reducible exact H2_)|(have H2_:=(Option.bind_some _ _).symm.trans H;with_reducible exact H2_)|with_reducible exact H|(rw [hy288];exact H)|exact H
   have Ny288:=am_ hy288
   clear hy288
   have HC11:=am_ H
   clear H
   have q12:(t287:Int)≤((x0_1.length:Int):Int):=od_
   obtain ⟨i012,hi012,_,hsz12,_⟩:=info_parts info5
   have hroom12:x0_1.length≤co5:=(Kd.V_reads' HO_0.out).2.1
   have hC12:Kd.F (Kd.int .u8) _ _ Ao5 x0_1.length x0_1:=(Kd.V_at (base:=w.heap.size) HO_0.out).2.2
   have q012:(0:Int)≤(t287:Int):=od_
   have hcut12:=cut_from (P:=Tryz.prog) 22 5 .i64 Tryz.underlying22 hi012 1 hsz12 Ao5 x0_1.length co5 t287 q012 q12
   have hr12:=Kd.F_cut (m:=(t287:Int).toNat) (c:=co5) hC12 (by omega) hroom12
   obtain ⟨A12,hA12⟩:∃ A1,A1=(if co5=(t287:Int).toNat then Ao5 else (Ao5:Option Addr).map (·.add ((t287:Int).toNat * 1))):=⟨_,rfl⟩
   obtain ⟨c12,hc12⟩:∃ c1,c1=co5 - (t287:Int).toNat:=⟨_,rfl⟩
   have hy12:y288.length=x0_1.length - (t287:Int).toNat:=(by rw [Ny288.out,List.length_drop] <;> omega)
   rw [show (x0_1).drop (t287:Int).toNat=y288 from Ny288.out.symm] at hr12
   replace hr12:Kd.F (Kd.int .u8) _ _ A12 y288.length y288:=(by rw [hA12];exact hr12)
   rw [← hy12,← hA12,← hc12] at hcut12
   have HO292:=am_ (show Kd.V (Kd.int .u8) 5 _ w.heap.size _ (.slice A12 y288.length c12) y288 from Kd.V_mk (by rw [hy12,hc12];exact Nat.sub_le_sub_right hroom12 _) hr12)
   have HC292:=am_ (show y288.length≤c12 from by rw [hy12,hc12];exact Nat.sub_le_sub_right hroom12 _)
   clear hr12 hC12 hroom12 hi012 hsz12 hc12
   have KY12:=am_ hy12
   have KA12:=am_ hA12
   clear hy12 hA12
   replace q12:=eq_true q12
   go_upto_region 7 with (fail)
   go_cut [35] (fun v35 wc => ∃ (kq:Nat) (x35_10:Bool),v35=.bool x35_10∧Aside0 (understudyref02_Decode.j2 kq y288 x4_1 t286 x35_10=some (r1,r2))∧Aside0 (kq≤kj3)∧Aside0 (Kd.V (Kd.int .u8) 5 wc w.heap.size (fun k_ => (P0_ k_ ∨ w.heap.size≤k_)∧some k_ ≠ (u4:Value).ownBlock) (.slice A12 y288.length c12) y288)∧Aside0 (Kd.R (Kd.int .u8) 5 wc w.heap.size (fun k_ => (w.heap.size≤k_)) u4 x4_1)∧Aside0 (Below w.heap.size w wc))
   case first =>
    have H:=HC11.out
    clear HC11
    by_cases c13:t286 < 55296
    ·rw [if_pos c13] at H
     have c13b0:decide (t286 < 55296)=true:=decide_eq_true c13
     clear c13
     (first|rw [c13b0]|(simp only [i64_w,i32_w];rw [c13b0])|skip)
     have H':=am_ H
     clear H
     go_wp2
     go_meet
     case rel => exact ⟨_,(true),r3_,H',⟨by have:=HK1.out;have:=HJ3.out;first|omega|exact Nat.le_refl _⟩,⟨by (with_reducible repeat (first|apply Kd.V_alloc|apply Kd.V_drewN|apply Kd.V_drew));exact HO292.out⟩,⟨kr_ HO_4.out⟩,⟨bl_⟩⟩
    rw [if_neg c13] at H
    have c13b0:decide (t286 < 55296)=false:=decide_eq_false c13
    clear c13
    (first|rw [c13b0]|(simp only [i64_w,i32_w];rw [c13b0])|skip)
    have H':=am_ H
    clear H
    go_wp2
    go_meet
    case rel => exact ⟨_,(decide (t286 > 56319)),r3_,H',⟨by have:=HK1.out;have:=HJ3.out;first|omega|exact Nat.le_refl _⟩,⟨by (with_reducible repeat (first|apply Kd.V_alloc|apply Kd.V_drewN|apply Kd.V_drew));exact HO292.out⟩,⟨kr_ HO_4.out⟩,⟨bl_⟩⟩
   clear HC11
   try clear c1;try clear c8;try clear c9;try clear c9b0;try clear c9b1;try clear c10;try clear c10b0;try clear c10b1;try clear c12;try clear q12;try clear q012
   obtain ⟨kq,x35_10,rfl,HA,HJ10,HO_0,HO_4,HB⟩:=hcut
   cases kq with
   | zero => exact absurd HA.out (by simp [understudyref02_Decode.j2])
   | succ kj10 =>
    have H:=HA.out
    clear HA
    simp only [understudyref02_Decode.j2] at H
    by_cases c14:x35_10=true
    ·subst c14
     rw [if_pos rfl] at H
     replace H:=Option.bind_eq_some_iff.mp H
     obtain ⟨t293,A150,H⟩:=H
     try dsimp only at H
     have A15:=am_ A150
     clear A150
     by_cases c16:x4_1.length + t293.length < 140737488355328
     ·rw [if_pos c16] at H
      have LMc16:=am_ c16
      clear c16
      obtain ⟨y296,hy296⟩:∃ y_:List Int,y_=(x4_1++t293):=⟨_,rfl⟩
      replace H:(understudyref02_Decode.l0 kj10 y288 y296)=some (r1,r2):=by first|(rw [hy296];with_reducible exact H)|(have H2_:=(Option.bind_some _ _).symm.trans H;rw [hy296];with_reducible exact H2_)|(have H2_:=(Option.bind_some _ _).symm.trans H;with_reducible exact H2_)|with_reducible exact H|(rw [hy296];exact H)|exact H
      have Ny296:=am_ hy296
      clear hy296
      have H':=am_ H
      clear H
      go_wp2_with (first|(refine callA_ (f:=68) (some 38) Tryz.func68 #[.int .i64 t286] ?_;(with_reducible refine (understudyref02_utf8.calls t286 t293 _ A15.out).mono ?_);rintro e w17 ⟨v294,rfl,ho0,hb⟩;refine ⟨_,rfl,?_⟩;have n0_:=am_ (Kd.V_elder' (by (with_reducible repeat (first|apply Kd.V_alloc|apply Kd.V_drewN|apply Kd.V_drew));exact HO_0.out) (Kd.R_base ho0) hb);have n1_:=am_ (Kd.R_elder' (kr_ HO_4.out) (Kd.R_base ho0) hb);have n2_:=am_ (Kd.R_lower (Kd.R_new' (Kd.R_newM (M:=fun k_ => (w.heap.size≤k_)) ho0 (below_size bl_) (fun k_ h_ => h_)) (Kd.R_lt (kr_ HO_4.out))) (below_size bl_));have n3_:=am_ (below_step bl_ hb);clear HO_0;clear HO_4;clear HB;have HO_0:=n0_;have HO_4:=n1_;have HO295:=n2_;have HB:=n3_;clear n0_ n1_ n2_ n3_;(try clear hb);(try clear hb2);(try clear hk);(try clear hi);(try clear ho0);obtain ⟨Ao19,co19,eo19⟩:=Kd.R_slice HO295.out;subst eo19)|((with_reducible refine gate_builtin (b:=.append) (xs:=#[.tmp 36,.tmp 38]) rfl ?_);at_builtin;refine Kd.R_append_rows (Kd.int .u8) (w0:=w) w.heap.size rfl (.tmp 36) (.tmp 38) 22 5 (.int .u8 0) 1 rfl Tryz.underlying22 info5 rfl (by decide) (by omega) u4 x4_1 t293 _ _ _ (fun k_ => (w.heap.size≤k_)∧some k_ ≠ (.slice Ao19 t293.length co19:Value).ownBlock) (fun _ => False) rfl rfl ?aO ?aR (fun _ _ h => h) (fun _ h => h.elim) ?aF ?aB ?aS ?aL ?_;(case aR => exact kc_ (Kd.R_reads' HO295.out).2.2);(case aB => exact bl_);(case aF => exact (fun k_ hk => ⟨(Nat.le_trans (below_size bl_) hk),Kd.fresh' (Kd.R_lt (kr_ HO295.out)) k_ hk⟩));(case aO => exact (kr_ HO_4.out));(case aS => exact (below_size bl_));(case aL => have:=LMc16.out;omega);intro v297 w18 ho hb hg hat;rw [← Ny296.out] at ho;have n0_:=am_ (Kd.V_afterv (ok:=(fun k_ => (P0_ k_ ∨ w.heap.size≤k_)∧some k_ ≠ (.slice Ao19 t293.length co19:Value).ownBlock)) (by (with_reducible repeat (first|apply Kd.V_alloc|apply Kd.V_drewN|apply Kd.V_drew));exact Kd.V_mono HO_0.out (fun _ hk => ⟨⟨hk.1.1,hk.2⟩,hk.1.2⟩)) hg hat);have n1_:=am_ (Kd.R_after (ok:=(fun k_ => (w.heap.size≤k_))) (by (with_reducible repeat (first|apply Kd.R_alloc|apply Kd.R_drewN|apply Kd.R_drew));exact Kd.R_mono HO295.out (fun _ hk => ⟨hk.1.1,hk.2⟩)) hg hat);have n2_:=am_ (hb);have n3_:=am_ (ho);clear HO_0;clear HO295;clear HB;clear HO_4;have HO_0:=n0_;have HO295:=n1_;have HB:=n2_;have HO298:=n3_;clear n0_ n1_ n2_ n3_;clear ho hb hg hat))
      go_roundg kj10
      case measure => have:=HK1.out;have:=HJ3.out;have:=HJ10.out;omega
      case rel => exact ⟨(y288),(y296),H',⟨by have:=HK1.out;have:=HJ3.out;have:=HJ10.out;omega⟩,⟨by (with_reducible repeat (first|apply Kd.V_alloc|apply Kd.V_drewN|apply Kd.V_drew));exact Kd.V_mono HO_0.out (fun _ hk => ⟨hk.1.1,hk.2⟩)⟩,⟨by (with_reducible repeat (first|apply Kd.R_alloc|apply Kd.R_drewN|apply Kd.R_drew));exact Kd.R_mono HO298.out (fun _ hk => hk.1)⟩,⟨bl_⟩⟩
     rw [if_neg c16] at H
     exact absurd H (by simp)
    replace c14:=Bool.eq_false_iff.mpr c14
    subst c14
    rw [if_neg (show ¬ (false=true) by decide)] at H
    by_cases c20:(y288.length:Int)=0
    ·rw [if_pos c20] at H
     have c20b0:((y288.length:Int)==0)=true:=beq_iff_eq.mpr c20
     have c20b1:((y288.length:Int) != 0)=false:=bne_eq_false_iff_eq.mpr c20
     clear c20
     simp only [Option.some.injEq,Prod.mk.injEq] at H
     obtain ⟨rfl,rfl⟩:=H
     go_wp2
     go_ret2
     exact ⟨ew_,bl_⟩
    rw [if_neg c20] at H
    have c20b0:((y288.length:Int)==0)=false:=beq_eq_false_iff_ne.mpr c20
    have c20b1:((y288.length:Int) != 0)=true:=bne_iff_ne.mpr c20
    have c20b2:¬ (y288=[]):=fun h_ => c20 (by rw [h_];rfl)
    replace H:=Option.bind_eq_some_iff.mp H
    obtain ⟨⟨t299,t300⟩,A210,H⟩:=H
    try dsimp only at H
    have A21:=am_ A210
    clear A210
    by_cases c22:t300=0
    ·rw [if_pos c22] at H
     have c22b0:(t300==0)=true:=beq_iff_eq.mpr c22
     have c22b1:(t300 != 0)=false:=bne_eq_false_iff_eq.mpr c22
     clear c22
     simp only [Option.some.injEq,Prod.mk.injEq] at H
     obtain ⟨rfl,rfl⟩:=H
     go_wp2_with (first|(refine callA_ (f:=67) (some 45) Tryz.func67 #[.slice A12 y288.length c12] ?_;(with_reducible refine (understudyref02_take.calls kj10 _ _ y288 t299 t300 _ ?side1 ?side2 A21.out).mono ?_);(case side1 => exact kc_ (Kd.V_reads' HO_0.out).2.2);(case side2 => exact (Kd.V_reads' HO_0.out).2.1);rintro e w' ⟨rfl,⟨nd,rfl⟩⟩;refine ⟨_,rfl,?_⟩))
     go_ret2
     exact ⟨ew_,bl_⟩
    rw [if_neg c22] at H
    have c22b0:(t300==0)=false:=beq_eq_false_iff_ne.mpr c22
    have c22b1:(t300 != 0)=true:=bne_iff_ne.mpr c22
    by_cases c23:t299 < 56320
    ·rw [if_pos c23] at H
     have c23b0:decide (t299 < 56320)=true:=decide_eq_true c23
     clear c23
     simp only [Option.some.injEq,Prod.mk.injEq] at H
     obtain ⟨rfl,rfl⟩:=H
     go_wp2_with (first|(refine callA_ (f:=67) (some 45) Tryz.func67 #[.slice A12 y288.length c12] ?_;(with_reducible refine (understudyref02_take.calls kj10 _ _ y288 t299 t300 _ ?side1 ?side2 A21.out).mono ?_);(case side1 => exact kc_ (Kd.V_reads' HO_0.out).2.2);(case side2 => exact (Kd.V_reads' HO_0.out).2.1);rintro e w' ⟨rfl,⟨nd,rfl⟩⟩;refine ⟨_,rfl,?_⟩))
     go_ret2
     exact ⟨ew_,bl_⟩
    rw [if_neg c23] at H
    have c23b0:decide (t299 < 56320)=false:=decide_eq_false c23
    clear c23
    by_cases c24:t299 > 57343
    ·rw [if_pos c24] at H
     have c24b0:decide (57343 < t299)=true:=decide_eq_true c24
     clear c24
     simp only [Option.some.injEq,Prod.mk.injEq] at H
     obtain ⟨rfl,rfl⟩:=H
     go_wp2_with (first|(refine callA_ (f:=67) (some 45) Tryz.func67 #[.slice A12 y288.length c12] ?_;(with_reducible refine (understudyref02_take.calls kj10 _ _ y288 t299 t300 _ ?side1 ?side2 A21.out).mono ?_);(case side1 => exact kc_ (Kd.V_reads' HO_0.out).2.2);(case side2 => exact (Kd.V_reads' HO_0.out).2.1);rintro e w' ⟨rfl,⟨nd,rfl⟩⟩;refine ⟨_,rfl,?_⟩))
     go_ret2
     exact ⟨ew_,bl_⟩
    rw [if_neg c24] at H
    have c24b0:decide (57343 < t299)=false:=decide_eq_false c24
    clear c24
    by_cases c25:0≤t300
    rotate_left
    ·rw [if_neg c25] at H
     exact absurd H (by simp)
    rw [if_pos c25] at H
    have c25b0:=eq_true c25
    have c25b1:decide (0≤t300)=true:=decide_eq_true c25
    clear c25
    by_cases c26:t300≤(y288.length:Int)
    rotate_left
    ·rw [if_neg c26] at H
     exact absurd H (by simp)
    rw [if_pos c26] at H
    have c26b0:=eq_true c26
    have c26b1:decide (t300≤(y288.length:Int))=true:=decide_eq_true c26
    clear c26
    obtain ⟨y301,hy301⟩:∃ y_:List Int,y_=(y288.drop (t300:Int).toNat):=⟨_,rfl⟩
    replace H:((understudyref02_utf8.f (wrap64 ((wrap64 ((wrap64 (65536 + (wrap64 ((wrap64 (t286 - 55296)) * 1024)))) + t299)) - 56320))).bind fun t306 => (if x4_1.length + t306.length < 140737488355328 then (understudyref02_Decode.l0 kj10 y301 (x4_1++t306)) else (none)))=some (r1,r2):=by first|(rw [hy301];with_reducible exact H)|(have H2_:=(Option.bind_some _ _).symm.trans H;rw [hy301];with_reducible exact H2_)|(have H2_:=(Option.bind_some _ _).symm.trans H;with_reducible exact H2_)|with_reducible exact H|(rw [hy301];exact H)|exact H
    have Ny301:=am_ hy301
    clear hy301
    replace H:=Option.bind_eq_some_iff.mp H
    obtain ⟨t306,A270,H⟩:=H
    try dsimp only at H
    have A27:=am_ A270
    clear A270
    by_cases c28:x4_1.length + t306.length < 140737488355328
    ·rw [if_pos c28] at H
     have LMc28:=am_ c28
     clear c28
     obtain ⟨y309,hy309⟩:∃ y_:List Int,y_=(x4_1++t306):=⟨_,rfl⟩
     replace H:(understudyref02_Decode.l0 kj10 y301 y309)=some (r1,r2):=by first|(rw [hy309];with_reducible exact H)|(have H2_:=(Option.bind_some _ _).symm.trans H;rw [hy309];with_reducible exact H2_)|(have H2_:=(Option.bind_some _ _).symm.trans H;with_reducible exact H2_)|with_reducible exact H|(rw [hy309];exact H)|exact H
     have Ny309:=am_ hy309
     clear hy309
     have H':=am_ H
     clear H
     go_wp2_with (first|(refine callA_ (f:=67) (some 45) Tryz.func67 #[.slice A12 y288.length c12] ?_;(with_reducible refine (understudyref02_take.calls kj10 _ _ y288 t299 t300 _ ?side1 ?side2 A21.out).mono ?_);(case side1 => exact kc_ (Kd.V_reads' HO_0.out).2.2);(case side2 => exact (Kd.V_reads' HO_0.out).2.1);rintro e w' ⟨rfl,⟨nd,rfl⟩⟩;refine ⟨_,rfl,?_⟩;have q29:(t300:Int)≤((y288.length:Int):Int):=od_;obtain ⟨i029,hi029,_,hsz29,_⟩:=info_parts info5;have hroom29:y288.length≤c12:=(Kd.V_reads' HO_0.out).2.1;have hC29:Kd.F (Kd.int .u8) _ _ A12 y288.length y288:=(Kd.V_at (base:=w.heap.size) HO_0.out).2.2;have q029:(0:Int)≤(t300:Int):=od_;have hcut29:=cut_from (P:=Tryz.prog) 22 5 .i64 Tryz.underlying22 hi029 1 hsz29 A12 y288.length c12 t300 q029 q29;have hr29:=Kd.F_cut (m:=(t300:Int).toNat) (c:=c12) hC29 (by omega) hroom29;obtain ⟨A29,hA29⟩:∃ A1,A1=(if c12=(t300:Int).toNat then A12 else (A12:Option Addr).map (·.add ((t300:Int).toNat * 1))):=⟨_,rfl⟩;obtain ⟨c29,hc29⟩:∃ c1,c1=c12 - (t300:Int).toNat:=⟨_,rfl⟩;have hy29:y301.length=y288.length - (t300:Int).toNat:=(by rw [Ny301.out,List.length_drop] <;> omega);rw [show (y288).drop (t300:Int).toNat=y301 from Ny301.out.symm] at hr29;replace hr29:Kd.F (Kd.int .u8) _ _ A29 y301.length y301:=(by rw [hA29];exact hr29);rw [← hy29,← hA29,← hc29] at hcut29;have HO305:=am_ (show Kd.V (Kd.int .u8) 5 _ w.heap.size _ (.slice A29 y301.length c29) y301 from Kd.V_mk (by rw [hy29,hc29];exact Nat.sub_le_sub_right hroom29 _) hr29);have HC305:=am_ (show y301.length≤c29 from by rw [hy29,hc29];exact Nat.sub_le_sub_right hroom29 _);clear hr29 hC29 hroom29 hi029 hsz29 hc29;have KY29:=am_ hy29;have KA29:=am_ hA29;clear hy29 hA29;replace q29:=eq_true q29)|(refine callA_ (f:=68) (some 69) Tryz.func68 #[.int .i64 (wrap64 ((wrap64 ((wrap64 (65536 + (wrap64 ((wrap64 (t286 - 55296)) * 1024)))) + t299)) - 56320))] ?_;(with_reducible refine (understudyref02_utf8.calls (wrap64 ((wrap64 ((wrap64 (65536 + (wrap64 ((wrap64 (t286 - 55296)) * 1024)))) + t299)) - 56320)) t306 _ A27.out).mono ?_);rintro e w30 ⟨v307,rfl,ho0,hb⟩;refine ⟨_,rfl,?_⟩;have n0_:=am_ (Kd.V_elder' (by (with_reducible repeat (first|apply Kd.V_alloc|apply Kd.V_drewN|apply Kd.V_drew));exact HO_0.out) (Kd.R_base ho0) hb);have n1_:=am_ (Kd.R_elder' (kr_ HO_4.out) (Kd.R_base ho0) hb);have n2_:=am_ (Kd.V_elder' (by (with_reducible repeat (first|apply Kd.V_alloc|apply Kd.V_drewN|apply Kd.V_drew));exact HO305.out) (Kd.R_base ho0) hb);have n3_:=am_ (Kd.R_lower (Kd.R_new' (Kd.R_newM (M:=fun k_ => (w.heap.size≤k_)) ho0 (below_size bl_) (fun k_ h_ => h_)) (Kd.R_lt (kr_ HO_4.out))) (below_size bl_));have n4_:=am_ (below_step bl_ hb);clear HO_0;clear HO_4;clear HO305;clear HB;have HO_0:=n0_;have HO_4:=n1_;have HO305:=n2_;have HO308:=n3_;have HB:=n4_;clear n0_ n1_ n2_ n3_ n4_;(try clear hb);(try clear hb2);(try clear hk);(try clear hi);(try clear ho0);obtain ⟨Ao32,co32,eo32⟩:=Kd.R_slice HO308.out;subst eo32)|((with_reducible refine gate_builtin (b:=.append) (xs:=#[.tmp 61,.tmp 69]) rfl ?_);at_builtin;refine Kd.R_append_rows (Kd.int .u8) (w0:=w) w.heap.size rfl (.tmp 61) (.tmp 69) 22 5 (.int .u8 0) 1 rfl Tryz.underlying22 info5 rfl (by decide) (by omega) u4 x4_1 t306 _ _ _ (fun k_ => (w.heap.size≤k_)∧some k_ ≠ (.slice Ao32 t306.length co32:Value).ownBlock) (fun _ => False) rfl rfl ?aO ?aR (fun _ _ h => h) (fun _ h => h.elim) ?aF ?aB ?aS ?aL ?_;(case aR => exact kc_ (Kd.R_reads' HO308.out).2.2);(case aB => exact bl_);(case aF => exact (fun k_ hk => ⟨(Nat.le_trans (below_size bl_) hk),Kd.fresh' (Kd.R_lt (kr_ HO308.out)) k_ hk⟩));(case aO => exact (kr_ HO_4.out));(case aS => exact (below_size bl_));(case aL => have:=LMc28.out;omega);intro v310 w31 ho hb hg hat;rw [← Ny309.out] at ho;have n0_:=am_ (Kd.V_afterv (ok:=(fun k_ => (P0_ k_ ∨ w.heap.size≤k_)∧some k_ ≠ (.slice Ao32 t306.length co32:Value).ownBlock)) (by (with_reducible repeat (first|apply Kd.V_alloc|apply Kd.V_drewN|apply Kd.V_drew));exact Kd.V_mono HO_0.out (fun _ hk => ⟨⟨hk.1.1,hk.2⟩,hk.1.2⟩)) hg hat);have n1_:=am_ (Kd.V_afterv (ok:=(fun k_ => (P0_ k_ ∨ w.heap.size≤k_)∧some k_ ≠ (.slice Ao32 t306.length co32:Value).ownBlock)) (by (with_reducible repeat (first|apply Kd.V_alloc|apply Kd.V_drewN|apply Kd.V_drew));exact Kd.V_mono HO305.out (fun _ hk => ⟨⟨hk.1.1,hk.2⟩,hk.1.2⟩)) hg hat);have n2_:=am_ (Kd.R_after (ok:=(fun k_ => (w.heap.size≤k_))) (by (with_reducible repeat (first|apply Kd.R_alloc|apply Kd.R_drewN|apply Kd.R_drew));exact Kd.R_mono HO308.out (fun _ hk => ⟨hk.1.1,hk.2⟩)) hg hat);have n3_:=am_ (hb);have n4_:=am_ (ho);clear HO_0;clear HO305;clear HO308;clear HB;clear HO_4;have HO_0:=n0_;have HO305:=n1_;have HO308:=n2_;have HB:=n3_;have HO311:=n4_;clear n0_ n1_ n2_ n3_ n4_;clear ho hb hg hat))
     go_roundg kj10
     case measure => have:=HK1.out;have:=HJ3.out;have:=HJ10.out;omega
     case rel => exact ⟨(y301),(y309),H',⟨by have:=HK1.out;have:=HJ3.out;have:=HJ10.out;omega⟩,⟨by (with_reducible repeat (first|apply Kd.V_alloc|apply Kd.V_drewN|apply Kd.V_drew));exact Kd.V_mono HO305.out (fun _ hk => ⟨hk.1.1,hk.2⟩)⟩,⟨by (with_reducible repeat (first|apply Kd.R_alloc|apply Kd.R_drewN|apply Kd.R_drew));exact Kd.R_mono HO311.out (fun _ hk => hk.1)⟩,⟨bl_⟩⟩
    rw [if_neg c28] at H
    exact absurd H (by simp)
end Go.Proofs.YtamdobdmjcgmoaaGreatDoor.Px
namespace Go.Proofs.YtamdobdmjcgmoaaGreatDoor.Px
open Go.RowKit Go.Proofs.YtamdobdmjcgmoaaGreatDoorW.PrintWords Go.Proofs.YtamdobdmjcgmoaaGreatDoorW.PrintLast Go.Proofs.YtamdobdmjcgmoaaGreatDoorW.PrintMore
set_option linter.unusedVariables false
set_option linter.unusedSimpArgs false
abbrev E0:ByteArray:=⟨#[]⟩
def understudyref04_read.f (k:Nat) (bs:List Int) (p t:Int):Option (Int × ByteArray × Int × Int × Int × Int × Int) :=
 if t=1 then (understudyref01_Reader_Uint.f k bs p 2).bind fun x => if x.2.1=0 then (if x.1 > 256 then some (t,E0,0,0,0,20,x.2.2) else (understudyref01_Reader_Bytes.f bs x.2.2 (wrap64 x.1)).bind fun y => if y.2.1=0 then (understudyref02_Decode.f k y.1).bind fun z => some (t,z.1,0,0,0,z.2,y.2.2) else some (t,E0,0,0,0,y.2.1,y.2.2)) else some (t,E0,0,0,0,x.2.1,x.2.2)
 else if t=3 then (understudyref01_Reader_Int.f k bs p 4).bind fun x => some (t,E0,x.1,0,0,x.2.1,x.2.2)
 else if t=5 then (understudyref01_Reader_Int.f k bs p 8).bind fun x => some (t,E0,x.1,0,0,x.2.1,x.2.2)
 else if t=7 then (understudyref01_Reader_Uint.f k bs p 2).bind fun x => some (t,E0,0,wrap64 x.1,0,x.2.1,x.2.2)
 else if t=9 ∨ t=10 ∨ t=12 then (understudyref01_Reader_Uint.f k bs p 2).bind fun x => if x.2.1=0 then (understudyref01_Reader_Uint.f k bs x.2.2 2).bind fun y => some (t,E0,0,wrap64 x.1,wrap64 y.1,y.2.1,y.2.2) else some (t,E0,0,0,0,x.2.1,x.2.2)
 else some (t,E0,0,0,0,40,p)
abbrev Z5:Array Value:=#[.int .i64 0,.string E0,.int .i64 0,.int .i64 0,.int .i64 0]
structure RcSt (w0 w W:World) (g:Nat) (bs:List Int) (p:Int) (gr gc:Nat) (cs:Array Value):Prop where
 R:IsS45 w0 W g bs p
 bel:Below w0.heap.size w0 W
 keep:KeepBut w W g none
 kr:W.heap[gr]?=some (.cells Z5 61 (0,0))
 kc:W.heap[gc]?=some (.cells cs 61 (0,0))
 hr:w.heap.size≤gr
 hc:w.heap.size≤gc
 ne:gr ≠ gc
 lt:g < w.heap.size
 sz:w0.heap.size≤w.heap.size
section
variable {w0 w W W':World} {g:Nat} {bs:List Int} {p p':Int} {gr gc:Nat} {cs:Array Value}
theorem RcSt.step (h:RcSt w0 w W g bs p gr gc cs) (hS:IsS45 w0 W' g bs p') (hB:Below w0.heap.size w0 W') (hK:KeepBut W W' g none):RcSt w0 w W' g bs p' gr gc cs :=
 ⟨hS,hB,h.keep.trans hK (.inl rfl),hK.blk h.kr (by have:=h.hr;have:=h.lt;omega) (by simp),hK.blk h.kc (by have:=h.hc;have:=h.lt;omega) (by simp),h.hr,h.hc,h.ne,h.lt,h.sz⟩
theorem RcSt.new (h:RcSt w0 w W g bs p gr gc cs) (hb:Below W.heap.size W W'):RcSt w0 w W' g bs p gr gc cs :=
 h.step (h.R.below hb) (h.bel.trans (hb.mono h.bel.size)) (KeepBut.of_below hb _ _)
theorem RcSt.setc (h:RcSt w0 w W g bs p gr gc cs) (j:Nat) (v:Value) {cs':Array Value} (e:cs.setIfInBounds j v=cs'):RcSt w0 w (W.setCell ⟨gc,j,none⟩ v) g bs p gr gc cs' :=
 ⟨h.R.far (by have:=h.hc;have:=h.lt;show g ≠ gc;omega) _,below_set h.bel (by have:=h.hc;have:=h.sz;omega),keep_far h.keep h.hc _,blk_far h.kr h.ne _,blk_put h.kc j v e,h.hr,h.hc,h.ne,h.lt,h.sz⟩
theorem RcSt.fin (h:RcSt w0 w W g bs p gr gc cs) (v0 v1 v2 v3 v4:Value):IsS45 w0 (((((W.setCell ⟨gr,0,none⟩ v0).setCell ⟨gr,1,none⟩ v1).setCell ⟨gr,2,none⟩ v2).setCell ⟨gr,3,none⟩ v3).setCell ⟨gr,4,none⟩ v4) g bs p∧Below w0.heap.size w0 (((((W.setCell ⟨gr,0,none⟩ v0).setCell ⟨gr,1,none⟩ v1).setCell ⟨gr,2,none⟩ v2).setCell ⟨gr,3,none⟩ v3).setCell ⟨gr,4,none⟩ v4)∧KeepBut w (((((W.setCell ⟨gr,0,none⟩ v0).setCell ⟨gr,1,none⟩ v1).setCell ⟨gr,2,none⟩ v2).setCell ⟨gr,3,none⟩ v3).setCell ⟨gr,4,none⟩ v4) g none:=by
 have n:g ≠ gr:=by have:=h.hr;have:=h.lt;omega
 have q:w0.heap.size≤gr:=by have:=h.hr;have:=h.sz;omega
 have a:=h.hr
 exact ⟨((((h.R.far n v0).far n v1).far n v2).far n v3).far n v4,below_set (below_set (below_set (below_set (below_set h.bel q) q) q) q) q,keep_far (keep_far (keep_far (keep_far (keep_far h.keep a _) a _) a _) a _) a _⟩
theorem rc_start (hI:IsS45 w0 w g bs p) (hB:Below w0.heap.size w0 w) (cs:Array Value):RcSt w0 w ((w.alloc (.cells Z5 61 (0,0))).alloc (.cells cs 61 (0,0))) g bs p w.heap.size (w.heap.size + 1) cs:=by
 have b1:Below w.heap.size w (w.alloc (.cells Z5 61 (0,0))):=below_alloc (Below.refl _ _) _
 have b2:=below_alloc (Below.refl (w.alloc (.cells Z5 61 (0,0))).heap.size (w.alloc (.cells Z5 61 (0,0)))) (.cells cs 61 (0,0))
 have hb:=b1.trans (b2.mono b1.size)
 have hs:(w.alloc (.cells Z5 61 (0,0))).heap.size=w.heap.size + 1:=by simp
 have k2:=blk_new (w.alloc (.cells Z5 61 (0,0))) (.cells cs 61 (0,0))
 rw [hs] at k2
 have k1:=blk_new w (.cells Z5 61 (0,0))
 exact ⟨hI.below hb,hB.trans (hb.mono hB.size),KeepBut.of_below hb _ _,(b2.block _ (blk_lt k1)).trans k1,k2,Nat.le_refl _,Nat.le_succ _,by omega,hI.lt,hB.size⟩
end
set_option maxHeartbeats 8000000 in
set_option maxRecDepth 100000 in
theorem understudyref04_read.calls (k:Nat) (g:Nat) (bs:List Int) (p t:Int) (r1:Int) (r2:ByteArray) (r3 r4 r5 r6 r7:Int) (w0 w:World) (hI:IsS45 w0 w g bs p) (hB:Below w0.heap.size w0 w) (h:understudyref04_read.f k bs p t=some (r1,r2,r3,r4,r5,r6,r7)) :
  Calls Tryz.prog 30 #[.pointer (some ⟨g,0,none⟩),.int .i64 t] w fun e w' => e=.returned (.tuple #[.agg #[.int .i64 r1,.string r2,.int .i64 r3,.int .i64 r4,.int .i64 r5],.int .i64 r6])∧IsS45 w0 w' g bs r7∧Below w0.heap.size w0 w'∧KeepBut w w' g none:=by
 have hu:=Tryz.underlying61
 have HST:=am_ (rc_start hI hB #[.int .i64 t,.string E0,.int .i64 0,.int .i64 0,.int .i64 0])
 clear hI hB
 obtain ⟨W,hW⟩:∃ W,W=((w.alloc (.cells Z5 61 (0,0))).alloc (.cells #[.int .i64 t,.string E0,.int .i64 0,.int .i64 0,.int .i64 0] 61 (0,0))):=⟨_,rfl⟩
 obtain ⟨gc,hgc⟩:∃ gc,gc=w.heap.size + 1:=⟨_,rfl⟩
 obtain ⟨gr,hgr⟩:∃ gr,gr=w.heap.size:=⟨_,rfl⟩
 rw [← hW,← hgc,← hgr] at HST
 have HW:=am_ hW
 have HGC:=am_ hgc
 have HGR:=am_ hgr
 clear hW hgc hgr
 unfold understudyref04_read.f at h
 by_cases h1:t=1
 ·rw [if_pos h1] at h
  obtain ⟨⟨x,e,q⟩,hx,h⟩:=Option.bind_eq_some_iff.mp h
  dsimp only at h
  have HX:=am_ hx
  have b1:(t==1)=true:=beq_iff_eq.mpr h1
  clear hx h1
  have HH:=am_ h
  clear h
  go_enter Tryz.func30,Tryz.ntmps30
  go_wp2_with fail
  rw [← HW.out,← HGC.out,← HGR.out]
  clear HW HGC HGR
  refine (understudyref01_Reader_Uint.calls k g bs p 2 x e q w0 _ HST.out.R HST.out.bel HX.out).mono ?_
  rintro r W1 ⟨rfl,hS,hB,hK⟩
  have HC:=am_ (HST.out.step hS hB hK)
  clear hS hB hK HST HX
  have h:=HH.out
  clear HH
  by_cases he:e=0
  rotate_left
  ·rw [if_neg he] at h
   have eb:(e != 0)=true:=bne_iff_ne.mpr he
   clear he
   simp only [Option.some.injEq,Prod.mk.injEq] at h
   obtain ⟨rfl,rfl,rfl,rfl,rfl,rfl,rfl⟩:=h
   obtain ⟨e0,e1,e2,e3,e4,_⟩:=blk5_ HC.out.kc
   obtain ⟨g0,g1,g2,g3,g4,f0,f1,f2,f3,f4⟩:=blk5_ HC.out.kr
   go_wp2
   refine bodyPost_ret (results_ct rfl _ _ gr 61 _ (0,0) _ rfl (st5_ HC.out.kr) hu rfl (by kernel_rfl)) rfl ?_
   exact ⟨rfl,HC.out.fin _ _ _ _ _⟩
  rw [if_pos he] at h
  have eb:(e != 0)=false:=bne_eq_false_iff_eq.mpr he
  clear he
  by_cases hx:x > 256
  ·rw [if_pos hx] at h
   have xb:decide (x > 256)=true:=decide_eq_true hx
   clear hx
   simp only [Option.some.injEq,Prod.mk.injEq] at h
   obtain ⟨rfl,rfl,rfl,rfl,rfl,rfl,rfl⟩:=h
   obtain ⟨e0,e1,e2,e3,e4,_⟩:=blk5_ HC.out.kc
   obtain ⟨g0,g1,g2,g3,g4,f0,f1,f2,f3,f4⟩:=blk5_ HC.out.kr
   go_wp2
   refine bodyPost_ret (results_ct rfl _ _ gr 61 _ (0,0) _ rfl (st5_ HC.out.kr) hu rfl (by kernel_rfl)) rfl ?_
   exact ⟨rfl,HC.out.fin _ _ _ _ _⟩
  rw [if_neg hx] at h
  have xb:decide (x > 256)=false:=decide_eq_false hx
  clear hx
  obtain ⟨⟨y,e1,q1⟩,hy,h⟩:=Option.bind_eq_some_iff.mp h
  dsimp only at h
  have HY:=am_ hy
  have HH:=am_ h
  clear hy h
  go_wp2_with fail
  have HLT:=am_ HC.out
  refine (understudyref01_Reader_Bytes.calls g bs q (wrap64 x) y e1 q1 w0 _ HC.out.R HC.out.bel HY.out).mono ?_
  rintro r W2 ⟨v,rfl,hR,hS,hB,hK⟩
  have HR:=am_ hR
  clear hR
  replace HC:=am_ (HC.out.step hS hB hK)
  clear hS hB hK HY
  clear HLT
  have h:=HH.out
  clear HH
  obtain ⟨Av,cv,hv⟩:=Kd.R_slice HR.out
  subst hv
  by_cases he1:e1=0
  ·rw [if_pos he1] at h
   have eb1:(e1 != 0)=false:=bne_eq_false_iff_eq.mpr he1
   clear he1
   obtain ⟨⟨z,e2⟩,hz,h⟩:=Option.bind_eq_some_iff.mp h
   dsimp only at h
   have HZ:=am_ hz
   have HH:=am_ h
   clear hz h
   go_wp2_with fail
   refine (understudyref02_Decode.calls k (fun _ => True) Av cv y z e2 _ (Kd.R_V HR.out) HZ.out).mono ?_
   rintro r W3 ⟨rfl,hb⟩
   replace HC:=am_ (HC.out.new hb)
   clear hb HR HZ
   have h:=HH.out
   clear HH
   have q0:=HC.out.kc
   have s1:=(blk_cell q0 1).trans rfl
   have z1:=blk_frozen q0 1
   clear q0
   go_upto_region 14 with fail
   replace HC:=am_ (HC.out.setc 1 (.string z) rfl)
   clear s1 z1
   simp only [Option.some.injEq,Prod.mk.injEq] at h
   obtain ⟨rfl,rfl,rfl,rfl,rfl,rfl,rfl⟩:=h
   obtain ⟨e0,e1,e2,e3,e4,_⟩:=blk5_ HC.out.kc
   obtain ⟨g0,g1,g2,g3,g4,f0,f1,f2,f3,f4⟩:=blk5_ HC.out.kr
   go_wp2
   refine bodyPost_ret (results_ct rfl _ _ gr 61 _ (0,0) _ rfl (st5_ HC.out.kr) hu rfl (by kernel_rfl)) rfl ?_
   exact ⟨rfl,HC.out.fin _ _ _ _ _⟩
  rw [if_neg he1] at h
  have eb1:(e1 != 0)=true:=bne_iff_ne.mpr he1
  clear he1 HR
  simp only [Option.some.injEq,Prod.mk.injEq] at h
  obtain ⟨rfl,rfl,rfl,rfl,rfl,rfl,rfl⟩:=h
  obtain ⟨e0,e1,e2,e3,e4,_⟩:=blk5_ HC.out.kc
  obtain ⟨g0,g1,g2,g3,g4,f0,f1,f2,f3,f4⟩:=blk5_ HC.out.kr
  go_wp2
  refine bodyPost_ret (results_ct rfl _ _ gr 61 _ (0,0) _ rfl (st5_ HC.out.kr) hu rfl (by kernel_rfl)) rfl ?_
  exact ⟨rfl,HC.out.fin _ _ _ _ _⟩
 rw [if_neg h1] at h
 have b1:(t==1)=false:=beq_eq_false_iff_ne.mpr h1
 clear h1
 by_cases h3:t=3
 ·rw [if_pos h3] at h
  obtain ⟨⟨x,e,q⟩,hx,h⟩:=Option.bind_eq_some_iff.mp h
  dsimp only at h
  have HX:=am_ hx
  have HH:=am_ h
  have b3:(t==3)=true:=beq_iff_eq.mpr h3
  clear hx h h3
  go_enter Tryz.func30,Tryz.ntmps30
  go_wp2_with fail
  rw [← HW.out,← HGC.out,← HGR.out]
  clear HW HGC HGR
  refine (understudyref01_Reader_Int.calls k g bs p 4 x e q w0 _ HST.out.R HST.out.bel HX.out).mono ?_
  rintro r W1 ⟨rfl,hS,hB,hK⟩
  have HC:=am_ (HST.out.step hS hB hK)
  clear hS hB hK HST HX
  have h:=HH.out
  clear HH
  have q0:=HC.out.kc
  have s2:=(blk_cell q0 2).trans rfl
  have z2:=blk_frozen q0 2
  clear q0
  go_upto_region 18 with fail
  replace HC:=am_ (HC.out.setc 2 (.int .i64 x) rfl)
  clear s2 z2
  simp only [Option.some.injEq,Prod.mk.injEq] at h
  obtain ⟨rfl,rfl,rfl,rfl,rfl,rfl,rfl⟩:=h
  obtain ⟨e0,e1,e2,e3,e4,_⟩:=blk5_ HC.out.kc
  obtain ⟨g0,g1,g2,g3,g4,f0,f1,f2,f3,f4⟩:=blk5_ HC.out.kr
  go_wp2
  refine bodyPost_ret (results_ct rfl _ _ gr 61 _ (0,0) _ rfl (st5_ HC.out.kr) hu rfl (by kernel_rfl)) rfl ?_
  exact ⟨rfl,HC.out.fin _ _ _ _ _⟩
 rw [if_neg h3] at h
 have b3:(t==3)=false:=beq_eq_false_iff_ne.mpr h3
 clear h3
 by_cases h5:t=5
 ·rw [if_pos h5] at h
  obtain ⟨⟨x,e,q⟩,hx,h⟩:=Option.bind_eq_some_iff.mp h
  dsimp only at h
  have HX:=am_ hx
  have HH:=am_ h
  have b5:(t==5)=true:=beq_iff_eq.mpr h5
  clear hx h h5
  go_enter Tryz.func30,Tryz.ntmps30
  go_wp2_with fail
  rw [← HW.out,← HGC.out,← HGR.out]
  clear HW HGC HGR
  refine (understudyref01_Reader_Int.calls k g bs p 8 x e q w0 _ HST.out.R HST.out.bel HX.out).mono ?_
  rintro r W1 ⟨rfl,hS,hB,hK⟩
  have HC:=am_ (HST.out.step hS hB hK)
  clear hS hB hK HST HX
  have h:=HH.out
  clear HH
  have q0:=HC.out.kc
  have s2:=(blk_cell q0 2).trans rfl
  have z2:=blk_frozen q0 2
  clear q0
  go_upto_region 22 with fail
  replace HC:=am_ (HC.out.setc 2 (.int .i64 x) rfl)
  clear s2 z2
  simp only [Option.some.injEq,Prod.mk.injEq] at h
  obtain ⟨rfl,rfl,rfl,rfl,rfl,rfl,rfl⟩:=h
  obtain ⟨e0,e1,e2,e3,e4,_⟩:=blk5_ HC.out.kc
  obtain ⟨g0,g1,g2,g3,g4,f0,f1,f2,f3,f4⟩:=blk5_ HC.out.kr
  go_wp2
  refine bodyPost_ret (results_ct rfl _ _ gr 61 _ (0,0) _ rfl (st5_ HC.out.kr) hu rfl (by kernel_rfl)) rfl ?_
  exact ⟨rfl,HC.out.fin _ _ _ _ _⟩
 rw [if_neg h5] at h
 have b5:(t==5)=false:=beq_eq_false_iff_ne.mpr h5
 clear h5
 by_cases h7:t=7
 ·rw [if_pos h7] at h
  obtain ⟨⟨x,e,q⟩,hx,h⟩:=Option.bind_eq_some_iff.mp h
  dsimp only at h
  have HX:=am_ hx
  have HH:=am_ h
  have b7:(t==7)=true:=beq_iff_eq.mpr h7
  clear hx h h7
  go_enter Tryz.func30,Tryz.ntmps30
  go_wp2_with fail
  rw [← HW.out,← HGC.out,← HGR.out]
  clear HW HGC HGR
  refine (understudyref01_Reader_Uint.calls k g bs p 2 x e q w0 _ HST.out.R HST.out.bel HX.out).mono ?_
  rintro r W1 ⟨rfl,hS,hB,hK⟩
  have HC:=am_ (HST.out.step hS hB hK)
  clear hS hB hK HST HX
  have h:=HH.out
  clear HH
  have q0:=HC.out.kc
  have s3:=(blk_cell q0 3).trans rfl
  have z3:=blk_frozen q0 3
  clear q0
  go_upto_region 26 with fail
  replace HC:=am_ (HC.out.setc 3 (.int .i64 (wrap64 x)) rfl)
  clear s3 z3
  simp only [Option.some.injEq,Prod.mk.injEq] at h
  obtain ⟨rfl,rfl,rfl,rfl,rfl,rfl,rfl⟩:=h
  obtain ⟨e0,e1,e2,e3,e4,_⟩:=blk5_ HC.out.kc
  obtain ⟨g0,g1,g2,g3,g4,f0,f1,f2,f3,f4⟩:=blk5_ HC.out.kr
  go_wp2
  refine bodyPost_ret (results_ct rfl _ _ gr 61 _ (0,0) _ rfl (st5_ HC.out.kr) hu rfl (by kernel_rfl)) rfl ?_
  exact ⟨rfl,HC.out.fin _ _ _ _ _⟩
 rw [if_neg h7] at h
 have b7:(t==7)=false:=beq_eq_false_iff_ne.mpr h7
 clear h7
 by_cases h9:t=9 ∨ t=10 ∨ t=12
 rotate_left
 ·rw [if_neg h9] at h
  have b9:(t==9)=false:=beq_eq_false_iff_ne.mpr (fun x => h9 (.inl x))
  have b10:(t==10)=false:=beq_eq_false_iff_ne.mpr (fun x => h9 (.inr (.inl x)))
  have b12:(t==12)=false:=beq_eq_false_iff_ne.mpr (fun x => h9 (.inr (.inr x)))
  clear h9
  go_enter Tryz.func30,Tryz.ntmps30
  go_upto_region 37 with fail
  rw [← HW.out,← HGC.out,← HGR.out]
  clear HW HGC HGR
  have HC:=HST
  clear HST
  simp only [Option.some.injEq,Prod.mk.injEq] at h
  obtain ⟨rfl,rfl,rfl,rfl,rfl,rfl,rfl⟩:=h
  obtain ⟨e0,e1,e2,e3,e4,_⟩:=blk5_ HC.out.kc
  obtain ⟨g0,g1,g2,g3,g4,f0,f1,f2,f3,f4⟩:=blk5_ HC.out.kr
  go_wp2
  refine bodyPost_ret (results_ct rfl _ _ gr 61 _ (0,0) _ rfl (st5_ HC.out.kr) hu rfl (by kernel_rfl)) rfl ?_
  exact ⟨rfl,HC.out.fin _ _ _ _ _⟩
 rw [if_pos h9] at h
 obtain ⟨⟨x,e,q⟩,hx,h⟩:=Option.bind_eq_some_iff.mp h
 dsimp only at h
 have HX:=am_ hx
 have HH:=am_ h
 clear hx h
 rcases h9 with rfl|rfl|rfl <;>
 (
  clear b1 b3 b5 b7
  go_enter Tryz.func30,Tryz.ntmps30
  go_wp2_with fail
  rw [← HW.out,← HGC.out,← HGR.out]
  clear HW HGC HGR
  refine (understudyref01_Reader_Uint.calls k g bs p 2 x e q w0 _ HST.out.R HST.out.bel HX.out).mono ?_
  rintro r W1 ⟨rfl,hS,hB,hK⟩
  have HC:=am_ (HST.out.step hS hB hK)
  clear hS hB hK HST HX
  have h:=HH.out
  clear HH
  by_cases he:e=0
  ·rw [if_pos he] at h
   have eb:(e != 0)=false:=bne_eq_false_iff_eq.mpr he
   clear he
   obtain ⟨⟨y,e1,q1⟩,hy,h⟩:=Option.bind_eq_some_iff.mp h
   dsimp only at h
   have HY:=am_ hy
   have HH:=am_ h
   clear hy h
   go_wp2_with fail
   refine (understudyref01_Reader_Uint.calls k g bs q 2 y e1 q1 w0 _ HC.out.R HC.out.bel HY.out).mono ?_
   rintro r W2 ⟨rfl,hS,hB,hK⟩
   replace HC:=am_ (HC.out.step hS hB hK)
   clear hS hB hK HY
   have h:=HH.out
   clear HH
   have q0:=HC.out.kc
   have s3:=(blk_cell q0 3).trans rfl
   have z3:=blk_frozen q0 3
   have s4:=(blk_cell q0 4).trans rfl
   have z4:=blk_frozen q0 4
   clear q0
   go_upto_region 36 with fail
   replace HC:=am_ ((HC.out.setc 3 (.int .i64 (wrap64 x)) rfl).setc 4 (.int .i64 (wrap64 y)) rfl)
   clear s3 z3 s4 z4
   simp only [Option.some.injEq,Prod.mk.injEq] at h
   obtain ⟨rfl,rfl,rfl,rfl,rfl,rfl,rfl⟩:=h
   obtain ⟨e0,e1,e2,e3,e4,_⟩:=blk5_ HC.out.kc
   obtain ⟨g0,g1,g2,g3,g4,f0,f1,f2,f3,f4⟩:=blk5_ HC.out.kr
   go_wp2
   refine bodyPost_ret (results_ct rfl _ _ gr 61 _ (0,0) _ rfl (st5_ HC.out.kr) hu rfl (by kernel_rfl)) rfl ?_
   exact ⟨rfl,HC.out.fin _ _ _ _ _⟩
  rw [if_neg he] at h
  have eb:(e != 0)=true:=bne_iff_ne.mpr he
  clear he
  simp only [Option.some.injEq,Prod.mk.injEq] at h
  obtain ⟨rfl,rfl,rfl,rfl,rfl,rfl,rfl⟩:=h
  obtain ⟨e0,e1,e2,e3,e4,_⟩:=blk5_ HC.out.kc
  obtain ⟨g0,g1,g2,g3,g4,f0,f1,f2,f3,f4⟩:=blk5_ HC.out.kr
  go_wp2
  refine bodyPost_ret (results_ct rfl _ _ gr 61 _ (0,0) _ rfl (st5_ HC.out.kr) hu rfl (by kernel_rfl)) rfl ?_
  exact ⟨rfl,HC.out.fin _ _ _ _ _⟩)
end Go.Proofs.YtamdobdmjcgmoaaGreatDoor.Px
namespace Go.Proofs.YtamdobdmjcgmoaaGreatDoor.Px
open Go.RowKit Go.Proofs.YtamdobdmjcgmoaaGreatDoorW.PrintWords Go.Proofs.YtamdobdmjcgmoaaGreatDoorW.PrintLast Go.Proofs.YtamdobdmjcgmoaaGreatDoorW.PrintMore
attribute [local go_sem] max2_int min2_int max_two min_two max_three min_three max_four min_four
set_option linter.unusedVariables false
set_option linter.unusedSimpArgs false
theorem eqA61 (d:Nat) (w:World) (x0 y0:Int) (x1 y1:ByteArray) (x2 y2:Int) (x3 y3:Int) (x4 y4:Int) :
  (Op.equalIn (d + 2) 61 (.agg #[.int .i64 x0,.string x1,.int .i64 x2,.int .i64 x3,.int .i64 x4]) (.agg #[.int .i64 y0,.string y1,.int .i64 y2,.int .i64 y3,.int .i64 y4])).run Tryz.prog w=.ok (x0==y0 && (x1.toList==y1.toList && (x2==y2 && (x3==y3 && (x4==y4))))) w:=by
 refine eqA_of Tryz.underlying61 (by kernel_rfl) ?_
 refine eqf_cons (by rfl) (by go_simp;rfl) (by go_simp;rfl) (by go_simp) ?_
 refine eqf_cons (by rfl) (by go_simp;rfl) (by go_simp;rfl) (by go_simp) ?_
 refine eqf_cons (by rfl) (by go_simp;rfl) (by go_simp;rfl) (by go_simp) ?_
 refine eqf_cons (by rfl) (by go_simp;rfl) (by go_simp;rfl) (by go_simp) ?_
 exact eqf_last (by rfl) (by go_simp;rfl) (by go_simp;rfl) (by go_simp)
end Go.Proofs.YtamdobdmjcgmoaaGreatDoor.Px
namespace Go.Proofs.YtamdobdmjcgmoaaGreatDoor.Px
open Go.RowKit Go.Proofs.YtamdobdmjcgmoaaGreatDoorW.PrintWords Go.Proofs.YtamdobdmjcgmoaaGreatDoorW.PrintLast Go.Proofs.YtamdobdmjcgmoaaGreatDoorW.PrintMore
set_option linter.unusedVariables false
set_option linter.unusedSimpArgs false
abbrev CstO:=S61
def isO (l:List CstO) (i t:Int):Bool:=(understudyref04_is.f l i t).getD false
theorem isO_eq (l:List CstO) (i t:Int):understudyref04_is.f l i t=some (isO l i t):=by
 unfold isO understudyref04_is.f
 by_cases h1:i ≥ 1
 ·rw [if_pos h1]
  by_cases h2:i < (l.length:Int)
  ·rw [if_pos h2,if_pos (by omega)];rfl
  rw [if_neg h2];rfl
 rw [if_neg h1];rfl
def fineO (l:List CstO) (c:CstO):Bool :=
 if c.f0=3 then decide (-2147483648≤c.f2) && decide (c.f2≤2147483647) else if c.f0=5 then true else if c.f0=7 then isO l c.f3 1 else if c.f0=12 then isO l c.f3 1 && isO l c.f4 1 else if c.f0=9 ∨ c.f0=10 then isO l c.f3 7 && isO l c.f4 12 else false
def understudyref04_one.f (k:Nat) (l:List CstO) (i:Int):Option Int :=
 if 0≤i∧i < (l.length:Int) then (understudyref04_bare.f k (rd_T61 l i).f0 (rd_T61 l i).f1 (rd_T61 l i).f2 (rd_T61 l i).f3 (rd_T61 l i).f4).bind fun b => if b=true then (if (rd_T61 l i).f0=1 then (understudyref02_Encode.f k (rd_T61 l i).f1).bind fun x => some (if x.2=0∧x.1.length≤256 then 0 else 20) else some (if fineO l (rd_T61 l i)=true then 0 else 40)) else some 40 else none
structure OnAt (w W:World) (g:Nat) (c:CstO):Prop where
 k:W.heap[g]?=some (.cells #[.int .i64 c.f0,.string c.f1,.int .i64 c.f2,.int .i64 c.f3,.int .i64 c.f4] 61 (0,0))
 b:Below w.heap.size w W
theorem OnAt.new {w W W':World} {g:Nat} {c:CstO} (h:OnAt w W g c) (hb:Below W.heap.size W W'):OnAt w W' g c:=⟨(hb.block _ (blk_lt h.k)).trans h.k,h.b.trans (hb.mono h.b.size)⟩
set_option maxHeartbeats 8000000 in
set_option maxRecDepth 100000 in
theorem understudyref04_one.calls (k:Nat) (A0:Option Addr) (c0:Nat) (l0:List CstO) (a1:Int) (r:Int) (w:World) (hr0:Kd.C k61 w A0 l0.length l0) (hc0:l0.length≤c0) (h:understudyref04_one.f k l0 a1=some r) :
  Calls Tryz.prog 53 #[.slice A0 l0.length c0,.int .i64 a1] w fun e w' => e=.returned (.int .i64 r)∧Below w.heap.size w w':=by
 have hu:=Tryz.underlying61
 unfold understudyref04_one.f at h
 by_cases hi:0≤a1∧a1 < (l0.length:Int)
 case neg => rw [if_neg hi] at h;cases h
 rw [if_pos hi] at h
 obtain ⟨p0,p1⟩:=hi
 obtain ⟨ad,ead,x0,x1,x2,x3,x4⟩:=at_T61 hr0 a1 p0 p1
 cases ead
 generalize rd_T61 l0 a1=c at *
 have HR0:=am_ hr0
 have HC0:=am_ hc0
 have HH:=am_ h
 replace p0:=eq_true p0
 replace p1:=eq_true p1
 clear hr0 hc0 h
 go_enter Tryz.func53,Tryz.ntmps53
 go_upto_region 2 with fail
 obtain ⟨W,hW⟩:∃ W,W=w.alloc (.cells #[.int .i64 c.f0,.string c.f1,.int .i64 c.f2,.int .i64 c.f3,.int .i64 c.f4] 61 (0,0)):=⟨_,rfl⟩
 obtain ⟨g,hg⟩:∃ g,g=w.heap.size:=⟨_,rfl⟩
 rw [← hW,← hg]
 have HS:Aside0 (OnAt w W g c):=⟨by rw [hW,hg];exact blk_new _ _,by rw [hW];exact below_alloc (Below.refl _ _) _⟩
 clear hW hg x0 x1 x2 x3 x4 p0 p1
 obtain ⟨b,hb,h⟩:=Option.bind_eq_some_iff.mp HH.out
 have HB:=am_ (understudyref04_bare.calls k c.f0 c.f1 c.f2 c.f3 c.f4 b W hb)
 replace HH:=am_ h
 obtain ⟨e0,e1,e2,e3,e4,_⟩:=blk5_ HS.out.k
 clear hb h
 go_wp2_with fail
 refine HB.out.mono ?_
 rintro _ W1 ⟨rfl,hb1⟩
 have HS1:=am_ (HS.out.new hb1)
 clear hb1 HS HB e0 e1 e2 e3 e4
 have h:=HH.out
 clear HH
 obtain ⟨e0,e1,e2,e3,e4,_⟩:=blk5_ HS1.out.k
 cases b with
 | false =>
  rw [if_neg (by simp)] at h
  obtain rfl:=Option.some.inj h
  clear h
  go_wp2
  go_ret
  exact ⟨rfl,HS1.out.b⟩
 | true =>
 rw [if_pos rfl] at h
 by_cases q1:c.f0=1
 ·rw [if_pos q1] at h
  have k1:(c.f0==1)=true:=beq_iff_eq.mpr q1
  obtain ⟨⟨y,e⟩,hE,h⟩:=Option.bind_eq_some_iff.mp h
  dsimp only at h
  have HE:=am_ hE
  have HH:=am_ h
  clear hE h q1
  go_wp2_with fail
  refine (understudyref02_Encode.calls k c.f1 y e W1 HE.out).mono ?_
  rintro _ W2 ⟨v,rfl,hv,hb2⟩
  obtain ⟨Av,cv,rfl⟩:=Kd.R_slice hv
  have HB2:=am_ (HS1.out.new hb2).b
  clear hv hb2 HS1 HE e0 e1 e2 e3 e4 k1
  have h:=Option.some.inj HH.out
  clear HH
  by_cases q2:e=0
  ·have k2:(e != 0)=false:=bne_eq_false_iff_eq.mpr q2
   by_cases q3:y.length≤256
   ·have k3:decide ((y.length:Int) > 256)=false:=decide_eq_false (by omega)
    have k4:decide (256 < y.length)=false:=decide_eq_false (by omega)
    rw [if_pos ⟨q2,q3⟩] at h
    subst h
    clear q2 q3
    go_wp2
    go_ret
    exact ⟨rfl,HB2.out⟩
   have k3:decide ((y.length:Int) > 256)=true:=decide_eq_true (by omega)
   have k4:decide (256 < y.length)=true:=decide_eq_true (by omega)
   rw [if_neg (fun x => q3 x.2)] at h
   subst h
   clear q2 q3
   go_wp2
   go_ret
   exact ⟨rfl,HB2.out⟩
  have k2:(e != 0)=true:=bne_iff_ne.mpr q2
  rw [if_neg (fun x => q2 x.1)] at h
  subst h
  clear q2
  go_wp2
  go_ret
  exact ⟨rfl,HB2.out⟩
 rw [if_neg q1] at h
 have k1:(c.f0==1)=false:=beq_eq_false_iff_ne.mpr q1
 clear q1
 have h:=Option.some.inj h
 obtain ⟨bf,hbf⟩:∃ bf,bf=fineO l0 c:=⟨_,rfl⟩
 rw [← hbf] at h
 unfold fineO at hbf
 have HD:=am_ (fun (W':World) (hb:Below w.heap.size w W') => Kd.C_below HR0.out hb)
 by_cases q3:c.f0=3
 ·rw [if_pos q3] at hbf
  have k3:(c.f0==3)=true:=beq_iff_eq.mpr q3
  clear q3
  obtain ⟨u,hu1⟩:∃ u,decide (-2147483648≤c.f2)=u:=⟨_,rfl⟩
  obtain ⟨v,hv1⟩:∃ v,decide (c.f2≤2147483647)=v:=⟨_,rfl⟩
  rw [hu1,hv1] at hbf
  subst hbf
  cases u <;> cases v <;> (subst h;go_wp2;go_ret;exact ⟨rfl,HS1.out.b⟩)
 rw [if_neg q3] at hbf
 have k3:(c.f0==3)=false:=beq_eq_false_iff_ne.mpr q3
 by_cases q5:c.f0=5
 ·rw [if_pos q5] at hbf
  have k5:(c.f0==5)=true:=beq_iff_eq.mpr q5
  clear q3 q5
  subst hbf
  subst h
  go_wp2
  go_ret
  exact ⟨rfl,HS1.out.b⟩
 rw [if_neg q5] at hbf
 have k5:(c.f0==5)=false:=beq_eq_false_iff_ne.mpr q5
 by_cases q7:c.f0=7
 ·rw [if_pos q7] at hbf
  have k7:(c.f0==7)=true:=beq_iff_eq.mpr q7
  clear q3 q5 q7
  go_wp2_with fail
  refine (understudyref04_is.calls _ _ l0 c.f3 1 bf W1 (HD.out _ HS1.out.b) HC0.out (by rw [hbf];exact isO_eq _ _ _)).mono ?_
  rintro _ W2 ⟨rfl,⟨⟨n,rfl⟩⟩⟩
  clear hbf
  cases bf <;> (subst h;go_wp2;go_ret;exact ⟨rfl,pw_below_drewN HS1.out.b n⟩)
 rw [if_neg q7] at hbf
 have k7:(c.f0==7)=false:=beq_eq_false_iff_ne.mpr q7
 have two:∀ x y:Int,bf=(isO l0 c.f3 x && isO l0 c.f4 y)→∃ u v,bf=(u && v)∧Aside0 (understudyref04_is.f l0 c.f3 x=some u)∧Aside0 (understudyref04_is.f l0 c.f4 y=some v):=fun x y h => ⟨_,_,h,⟨isO_eq _ _ _⟩,⟨isO_eq _ _ _⟩⟩
 by_cases q12:c.f0=12
 case' pos =>
  rw [if_pos q12] at hbf
  have k12:(c.f0==12)=true:=beq_iff_eq.mpr q12
  obtain ⟨u,v,hbf,U,V⟩:=two _ _ hbf
  clear q3 q5 q7 q12 two
 case' neg =>
  rw [if_neg q12] at hbf
  have k12:(c.f0==12)=false:=beq_eq_false_iff_ne.mpr q12
  by_cases q9:c.f0=9 ∨ c.f0=10
  case neg =>
   rw [if_neg q9] at hbf
   have k9:(c.f0==9)=false:=beq_eq_false_iff_ne.mpr (fun x => q9 (.inl x))
   have k10:(c.f0==10)=false:=beq_eq_false_iff_ne.mpr (fun x => q9 (.inr x))
   clear q3 q5 q7 q12 q9
   subst hbf
   subst h
   go_wp2
   go_ret
   exact ⟨rfl,HS1.out.b⟩
  rw [if_pos q9] at hbf
  obtain ⟨u,v,hbf,U,V⟩:=two _ _ hbf
  by_cases q0:c.f0=9
  case' pos =>
   have k9:(c.f0==9)=true:=beq_iff_eq.mpr q0
   clear q3 q5 q7 q12 q9 q0 two
  case' neg =>
   have k9:(c.f0==9)=false:=beq_eq_false_iff_ne.mpr q0
   have k10:(c.f0==10)=true:=beq_iff_eq.mpr (by omega)
   clear q3 q5 q7 q12 q9 q0 two
 all_goals
  subst hbf
  go_wp2_with fail
  refine (understudyref04_is.calls _ _ l0 c.f3 _ u W1 (HD.out _ HS1.out.b) HC0.out U.out).mono ?_
  rintro _ W2 ⟨rfl,⟨⟨n,rfl⟩⟩⟩
  have HB1:=am_ HS1.out.b
  have HSn:=am_ (HS1.out.new (pw_below_drewN (Below.refl _ _) n))
  clear U HS1 e0 e1 e2 e3 e4
  obtain ⟨e0,e1,e2,e3,e4,_⟩:=blk5_ HSn.out.k
  cases u with
  | false =>
   obtain rfl:(40:Int)=r:=h
   go_wp2
   go_ret
   exact ⟨rfl,HSn.out.b⟩
  | true =>
   go_wp2_with fail
   refine (understudyref04_is.calls _ _ l0 c.f4 _ v _ (HD.out _ HSn.out.b) HC0.out V.out).mono ?_
   rintro _ W3 ⟨rfl,⟨⟨n2,rfl⟩⟩⟩
   cases v with
   | false => obtain rfl:(40:Int)=r:=h;go_wp2;go_ret;exact ⟨rfl,pw_below_drewN HB1.out _⟩
   | true => obtain rfl:(0:Int)=r:=h;go_wp2;go_ret;exact ⟨rfl,pw_below_drewN HB1.out _⟩
end Go.Proofs.YtamdobdmjcgmoaaGreatDoor.Px
namespace Go.Proofs.YtamdobdmjcgmoaaGreatDoor.Px
end Go.Proofs.YtamdobdmjcgmoaaGreatDoor.Px
namespace Go.Proofs.YtamdobdmjcgmoaaGreatDoor.Px
open Go.RowKit Go.Proofs.YtamdobdmjcgmoaaGreatDoorW.PrintWords Go.Proofs.YtamdobdmjcgmoaaGreatDoorW.PrintLast Go.Proofs.YtamdobdmjcgmoaaGreatDoorW.PrintMore
attribute [local go_sem] max2_int min2_int max_two min_two max_three min_three max_four min_four
set_option linter.unusedVariables false
set_option linter.unusedSimpArgs false
attribute [local go_sem high] eqA61
mutual
def understudyref04_Check.j0:Nat→List (S61)→Bool→Option (Int)
 | 0,_,_ => none
 | k + 1,x0,x17 => if x17=true then (some 40) else (understudyref04_Check.l0 k x0 1)
def understudyref04_Check.l0:Nat→List (S61)→Int→Option (Int)
 | 0,_,_ => none
 | k + 1,x0,x3 => if x3 < (x0.length:Int) then ((understudyref04_one.f k x0 x3).bind fun t263 => (if t263=0 then (understudyref04_Check.l0 k x0 (wrap64 (x3 + 1))) else (some t263))) else (some 0)
end
def understudyref04_Check.f (k:Nat) (l0:List (S61)):Option (Int):=if (l0.length:Int) > 1024 then (some 2) else (if (l0.length:Int)=0 then (understudyref04_Check.j0 k l0 true) else (if 0 < (l0.length:Int) then (understudyref04_Check.j0 k l0 (!(((rd_T61 l0 0).f0)==0) || (!((((rd_T61 l0 0).f1).toList)==([]:List UInt8)) || (!(((rd_T61 l0 0).f2)==0) || (!(((rd_T61 l0 0).f3)==0) || (!(((rd_T61 l0 0).f4)==0))))))) else (none)))
set_option maxHeartbeats 80000000 in
set_option maxRecDepth 100000 in
theorem understudyref04_Check.calls (k:Nat) (A0:Option Addr) (c0:Nat) (l0:List (S61)) (r:Int) (w:World) (hr0:Kd.C k61 w A0 l0.length l0) (hc0:l0.length≤c0) (h:understudyref04_Check.f k l0=some r) :
  Calls Tryz.prog 31 #[.slice A0 l0.length c0] w fun e w' => e=.returned (.int .i64 r)∧Below w.heap.size w w':=by
 have hu61:=Tryz.underlying61
 have HR0:=am_ hr0
 have HC0:=am_ hc0
 clear hr0 hc0
 have HB:=am_ (Below.refl w.heap.size w)
 have H:(if (l0.length:Int) > 1024 then (some 2) else (if (l0.length:Int)=0 then (understudyref04_Check.j0 k l0 true) else (if 0 < (l0.length:Int) then (understudyref04_Check.j0 k l0 (!(((rd_T61 l0 0).f0)==0) || (!((((rd_T61 l0 0).f1).toList)==([]:List UInt8)) || (!(((rd_T61 l0 0).f2)==0) || (!(((rd_T61 l0 0).f3)==0) || (!(((rd_T61 l0 0).f4)==0))))))) else (none))))=some r:=h
 clear h
 by_cases c2:(l0.length:Int) > 1024
 ·rw [if_pos c2] at H
  have c2b0:decide (1024 < (l0.length:Int))=true:=decide_eq_true c2
  have c2b1:decide (1024 < l0.length)=true:=decide_eq_true (by omega)
  clear c2
  obtain rfl:=Option.some.inj H
  go_enter Tryz.func31,Tryz.ntmps31
  go_wp2
  go_ret
  exact ⟨ew_,bl_⟩
 rw [if_neg c2] at H
 have c2b0:decide (1024 < (l0.length:Int))=false:=decide_eq_false c2
 have c2b1:decide (1024 < l0.length)=false:=decide_eq_false (by omega)
 clear c2
 have HC3:=am_ H
 clear H
 go_enter Tryz.func31,Tryz.ntmps31
 go_upto_region 3 with (fail)
 go_cut [17] (fun v17 wc => ∃ (kq:Nat) (x17_2:Bool),v17=.bool x17_2∧Aside0 (understudyref04_Check.j0 kq l0 x17_2=some r)∧Aside0 (kq≤k)∧Aside0 (Below w.heap.size w wc))
 case first =>
  have H:=HC3.out
  clear HC3
  by_cases c4:(l0.length:Int)=0
  ·rw [if_pos c4] at H
   have c4b0:((l0.length:Int)==0)=true:=beq_iff_eq.mpr c4
   have c4b1:((l0.length:Int) != 0)=false:=bne_eq_false_iff_eq.mpr c4
   clear c4
   (first|rw [c4b0]|(simp only [i64_w,i32_w];rw [c4b0])|skip)
   have H':=am_ H
   clear H
   go_wp2
   go_meet
   case rel => exact ⟨_,(true),r3_,H',⟨by first|omega|exact Nat.le_refl _⟩,⟨bl_⟩⟩
  rw [if_neg c4] at H
  have c4b0:((l0.length:Int)==0)=false:=beq_eq_false_iff_ne.mpr c4
  have c4b1:((l0.length:Int) != 0)=true:=bne_iff_ne.mpr c4
  have c4b2:¬ (l0=[]):=fun h_ => c4 (by rw [h_];rfl)
  (first|rw [c4b0]|(simp only [i64_w,i32_w];rw [c4b0])|skip)
  by_cases c5:0 < (l0.length:Int)
  rotate_left
  ·rw [if_neg c5] at H
   exact absurd H (by simp)
  rw [if_pos c5] at H
  have c5b0:decide (0 < (l0.length:Int))=true:=decide_eq_true c5
  have c5b1:decide (0 < l0.length)=true:=decide_eq_true (by omega)
  clear c5
  have H':=am_ H
  clear H
  have p262:0≤(0:Int):=(by omega)
  have q262:0 < (l0.length:Int):=od_
  obtain ⟨ad262,e262,hx262_0,hx262_1,hx262_2,hx262_3,hx262_4⟩:=at_T61 HR0.out 0 p262 q262
  cases e262
  have qi262:(0 < l0.length)=True:=eq_true (by omega)
  (try rw [show ((0:Int)).toNat=0 from rfl] at hx262_0)
  (try rw [show 0 * 5=0 from rfl] at hx262_0)
  (try rw [Addr.add_zero'] at hx262_0)
  (try rw [show ((0:Int)).toNat=0 from rfl] at hx262_1)
  (try rw [show 0 * 5=0 from rfl] at hx262_1)
  (try rw [Addr.add_zero'] at hx262_1)
  (try rw [show ((0:Int)).toNat=0 from rfl] at hx262_2)
  (try rw [show 0 * 5=0 from rfl] at hx262_2)
  (try rw [Addr.add_zero'] at hx262_2)
  (try rw [show ((0:Int)).toNat=0 from rfl] at hx262_3)
  (try rw [show 0 * 5=0 from rfl] at hx262_3)
  (try rw [Addr.add_zero'] at hx262_3)
  (try rw [show ((0:Int)).toNat=0 from rfl] at hx262_4)
  (try rw [show 0 * 5=0 from rfl] at hx262_4)
  (try rw [Addr.add_zero'] at hx262_4)
  replace hx262_0:=hb_ HB hx262_0
  replace hx262_1:=hb_ HB hx262_1
  replace hx262_2:=hb_ HB hx262_2
  replace hx262_3:=hb_ HB hx262_3
  replace hx262_4:=hb_ HB hx262_4
  replace p262:=eq_true p262
  replace q262:=eq_true q262
  go_wp2
  go_meet
  case rel => exact ⟨_,((!(((rd_T61 l0 0).f0)==0) || (!((((rd_T61 l0 0).f1).toList)==([]:List UInt8)) || (!(((rd_T61 l0 0).f2)==0) || (!(((rd_T61 l0 0).f3)==0) || (!(((rd_T61 l0 0).f4)==0))))))),r3_,H',⟨by first|omega|exact Nat.le_refl _⟩,⟨bl_⟩⟩
 clear HC3
 try clear c2;try clear c2b0;try clear c2b1
 obtain ⟨kq,x17_2,rfl,HA,HJ2,HB⟩:=hcut
 cases kq with
 | zero => exact absurd HA.out (by simp [understudyref04_Check.j0])
 | succ kj2 =>
  have H:=HA.out
  clear HA
  simp only [understudyref04_Check.j0] at H
  by_cases c6:x17_2=true
  ·subst c6
   rw [if_pos rfl] at H
   obtain rfl:=Option.some.inj H
   go_wp2
   go_ret
   exact ⟨ew_,bl_⟩
  replace c6:=Bool.eq_false_iff.mpr c6
  subst c6
  rw [if_neg (show ¬ (false=true) by decide)] at H
  have H':=am_ H
  clear H
  go_wp2
  go_loopg [3] kj2 (fun kq v3 w' => ∃ (x3_2:Int),v3=.int .i64 x3_2∧Aside0 (understudyref04_Check.l0 kq l0 x3_2=some r)∧Aside0 (kq≤kj2)∧Aside0 (Below w.heap.size w w'))
  case atStart => exact ⟨(1),r3_,H',⟨Nat.le_refl _⟩,⟨bl_⟩⟩
  clear H'
  try clear c6
  obtain ⟨x3_2,rfl,HA,HK2,HB⟩:=hrel
  cases gk with
  | zero => exact absurd HA.out (by simp [understudyref04_Check.l0])
  | succ k2 =>
   have H:=HA.out
   clear HA
   simp only [understudyref04_Check.l0] at H
   by_cases c7:x3_2 < (l0.length:Int)
   ·rw [if_pos c7] at H
    have c7b0:decide (x3_2 < (l0.length:Int))=true:=decide_eq_true c7
    clear c7
    replace H:=Option.bind_eq_some_iff.mp H
    obtain ⟨t263,A80,H⟩:=H
    try dsimp only at H
    have A8:=am_ A80
    clear A80
    by_cases c9:t263=0
    ·rw [if_pos c9] at H
     have c9b0:(t263==0)=true:=beq_iff_eq.mpr c9
     have c9b1:(t263 != 0)=false:=bne_eq_false_iff_eq.mpr c9
     clear c9
     have H':=am_ H
     clear H
     go_wp2_with (first|(refine callA_ (f:=53) (some 26) Tryz.func53 #[.slice A0 l0.length c0,.int .i64 x3_2] ?_;(with_reducible refine (understudyref04_one.calls k2 _ _ l0 x3_2 t263 _ ?side1 ?side2 A8.out).mono ?_);(case side1 => exact kc_ (Kd.C_below HR0.out HB.out));(case side2 => exact HC0.out);rintro e w10 ⟨rfl,hb⟩;refine ⟨_,rfl,?_⟩;have n0_:=am_ (below_step bl_ hb);clear HB;have HB:=n0_;clear n0_;(try clear hb);(try clear hb2);(try clear hk);(try clear hi)))
     go_roundg k2
     case measure => have:=HJ2.out;have:=HK2.out;omega
     case rel => exact ⟨(wrap64 (x3_2 + 1)),r3_,H',⟨by have:=HJ2.out;have:=HK2.out;omega⟩,⟨bl_⟩⟩
    rw [if_neg c9] at H
    have c9b0:(t263==0)=false:=beq_eq_false_iff_ne.mpr c9
    have c9b1:(t263 != 0)=true:=bne_iff_ne.mpr c9
    obtain rfl:=Option.some.inj H
    go_wp2_with (first|(refine callA_ (f:=53) (some 26) Tryz.func53 #[.slice A0 l0.length c0,.int .i64 x3_2] ?_;(with_reducible refine (understudyref04_one.calls k2 _ _ l0 x3_2 t263 _ ?side1 ?side2 A8.out).mono ?_);(case side1 => exact kc_ (Kd.C_below HR0.out HB.out));(case side2 => exact HC0.out);rintro e w11 ⟨rfl,hb⟩;refine ⟨_,rfl,?_⟩;have n0_:=am_ (below_step bl_ hb);clear HB;have HB:=n0_;clear n0_;(try clear hb);(try clear hb2);(try clear hk);(try clear hi)))
    go_ret
    exact ⟨ew_,bl_⟩
   rw [if_neg c7] at H
   have c7b0:decide (x3_2 < (l0.length:Int))=false:=decide_eq_false c7
   clear c7
   obtain rfl:=Option.some.inj H
   go_wp2
   go_ret
   exact ⟨ew_,bl_⟩
end Go.Proofs.YtamdobdmjcgmoaaGreatDoor.Px
namespace Go.Proofs.YtamdobdmjcgmoaaGreatDoor.Px
open Go.RowKit Go.Proofs.YtamdobdmjcgmoaaGreatDoorW.PrintWords Go.Proofs.YtamdobdmjcgmoaaGreatDoorW.PrintLast Go.Proofs.YtamdobdmjcgmoaaGreatDoorW.PrintMore
set_option linter.unusedVariables false
set_option linter.unusedSimpArgs false
abbrev CstR:=S61
def understudyref04_Decode.l0:Nat→List Int→Int→List CstR→Int→Option (List CstR × Int × Int)
 | 0,_,_,_,_ => none
 | k + 1,bs,n,ps,p =>
  if (ps.length:Int) < n then (understudyref01_Reader_Uint.f k bs p 1).bind fun t => if t.2.1=0 then (understudyref04_read.f k bs t.2.2 (wrap64 t.1)).bind fun c => if c.2.2.2.2.2.1=0 then (if ps.length≤65536 then understudyref04_Decode.l0 k bs n (ps++[⟨c.1,c.2.1,c.2.2.1,c.2.2.2.1,c.2.2.2.2.1⟩]) c.2.2.2.2.2.2 else none) else some ([],0,c.2.2.2.2.2.1) else some ([],0,t.2.1)
  else (understudyref04_Check.f k ps).bind fun e => if e=0 then some (ps,p,0) else some ([],0,e)
def understudyref04_Decode.f (k:Nat) (bs:List Int):Option (List CstR × Int × Int) :=
 (understudyref01_Reader_Uint.f k bs 0 2).bind fun n => if 0≤n.1∧n.1 < 65536 then
  (if n.2.1=0 then (if n.1 > 1024 then some ([],0,2) else if n.1=0 then some ([],0,40) else understudyref04_Decode.l0 k bs n.1 [z61] n.2.2) else some ([],0,n.2.1)) else none
theorem R_one (W:World):Kd.R k61 61 (W.alloc (.cells Z5 61 (0,0))) W.heap.size (fun _ => True) (.slice (some ⟨W.heap.size,0,none⟩) 1 1) [z61] :=
 ⟨fun _ _ => trivial,Z5.toList,⟨rfl,.inr ⟨W.heap.size,1,_,rfl,Nat.le_refl _,blk_new _ _,Nat.le_refl _,by simp only [maxLen];omega,rfl,rfl⟩⟩,(Reps.none _ 5).snoc (k61_mkM _ _ _ z61) rfl⟩
theorem R_keep_rd {α:Type} {d:Kd α} {e B':Nat} {w0 W W1:World} {g:Nat} {bs:List Int} {p:Int} {v:Value} {ps:List α} (h:IsS45 w0 W g bs p) (hr:d.R e W B' (fun _ => True) v ps) (he:∀ q,q ∈ e :: d.E→q ≠ 45) (hk:KeepBut W W1 g none):d.R e W1 B' (fun _ => True) v ps:=by
 obtain ⟨_,_,hb,_⟩:=h
 exact Kd.R_mono (Kd.R_keep (Kd.R_types hr hb he) hk (fun k hk => hk.2)) (fun _ _ => trivial)
set_option maxHeartbeats 40000000 in
set_option maxRecDepth 100000 in
theorem understudyref04_Decode.calls (k:Nat) (A0:Option Addr) (c0:Nat) (bs:List Int) (r1:List CstR) (r2 r3:Int) (w:World) (hr0:Kd.C (Kd.int .u8) w A0 bs.length bs) (hc0:bs.length≤c0) (h:understudyref04_Decode.f k bs=some (r1,r2,r3)) :
  Calls Tryz.prog 13 #[.slice A0 bs.length c0] w fun e w' => ∃ v0_:Value,e=.returned (.tuple #[v0_,.int .i64 r2,.int .i64 r3])∧Kd.R k61 61 w' w.heap.size (fun _ => True) v0_ r1∧Below w.heap.size w w':=by
 have hu:=Tryz.underlying61
 unfold understudyref04_Decode.f at h
 obtain ⟨⟨n,e1,p1⟩,hU,h⟩:=Option.bind_eq_some_iff.mp h
 dsimp only at h
 by_cases hb:0≤n∧n < 65536
 case neg => rw [if_neg hb] at h;cases h
 rw [if_pos hb] at h
 have HU:=am_ hU
 have HH:=am_ h
 have HN:=am_ hb
 have HI:=am_ (IsS45.new w w A0 c0 bs 0 (Below.refl _ _) hr0 hc0)
 have HB0:=am_ (below_alloc (Below.refl w.heap.size w) (.cells #[.slice A0 bs.length c0,.int .i64 0] 45))
 obtain ⟨g,hg⟩:∃ g,g=w.heap.size:=⟨_,rfl⟩
 obtain ⟨W,hW⟩:∃ W,W=w.alloc (.cells #[.slice A0 bs.length c0,.int .i64 0] 45):=⟨_,rfl⟩
 have HW:=am_ hW
 have HGG:=am_ hg
 rw [← hW] at HB0
 rw [← hg,← hW] at HI
 clear hU h hb hr0 hc0 hg hW
 go_enter Tryz.func13,Tryz.ntmps13
 go_wp2_with fail
 rw [← HW.out,← HGG.out]
 clear HW HGG
 refine (understudyref01_Reader_Uint.calls k g bs 0 2 n e1 p1 w W HI.out HB0.out HU.out).mono ?_
 rintro e w2 ⟨rfl,hI,hB,hK⟩
 have HI2:=am_ hI
 have HB2:=am_ hB
 clear hI hB hK HI HB0 HU
 have h:=HH.out
 clear HH
 by_cases he:e1=0
 case neg =>
  rw [if_neg he] at h
  have k1:(e1 != 0)=true:=bne_iff_ne.mpr he
  simp only [Option.some.injEq,Prod.mk.injEq] at h
  obtain ⟨rfl,rfl,rfl⟩:=h
  clear he
  go_wp2
  go_ret3
  exact ⟨_,rfl,Kd.R_nil _ _ _ _ _,HB2.out⟩
 rw [if_pos he] at h
 have k1:(e1 != 0)=false:=bne_eq_false_iff_eq.mpr he
 clear he
 by_cases hn:n > 1024
 ·rw [if_pos hn] at h
  have k2:decide (1024 < n)=true:=decide_eq_true hn
  simp only [Option.some.injEq,Prod.mk.injEq] at h
  obtain ⟨rfl,rfl,rfl⟩:=h
  clear hn
  go_wp2
  go_ret3
  exact ⟨_,rfl,Kd.R_nil _ _ _ _ _,HB2.out⟩
 rw [if_neg hn] at h
 have k2:decide (1024 < n)=false:=decide_eq_false hn
 by_cases hz:n=0
 ·rw [if_pos hz] at h
  have k3:(n==0)=true:=beq_iff_eq.mpr hz
  simp only [Option.some.injEq,Prod.mk.injEq] at h
  obtain ⟨rfl,rfl,rfl⟩:=h
  clear hn hz
  go_wp2
  go_ret3
  exact ⟨_,rfl,Kd.R_nil _ _ _ _ _,HB2.out⟩
 rw [if_neg hz] at h
 have k3:(n==0)=false:=beq_eq_false_iff_ne.mpr hz
 have hwn:wrap64 n=n:=by have:=HN.out;unfold wrap64;omega
 have H0:=am_ h
 clear hn hz h
 go_wp2_with fail
 have HRm:=am_ (Kd.R_lower (R_one w2) HB2.out.size)
 have HIm:=am_ (HI2.out.below (below_alloc (Below.refl _ _) (.cells Z5 61 (0,0))))
 have HBm:=am_ (below_alloc HB2.out (.cells Z5 61 (0,0)))
 have HWN:=am_ hwn
 clear HI2 HB2 k1 k2 k3 hwn
 go_loopg [8,9] k (fun kq v8 v9 wr => ∃ (A:Option Addr) (ps:List CstR) (c:Nat) (pos:Int),v8=.slice A ps.length c∧v9=.int .i64 (ps.length:Int)∧Aside0 (understudyref04_Decode.l0 kq bs n ps pos=some (r1,r2,r3))∧Aside0 (kq≤k)∧Aside0 (Kd.R k61 61 wr w.heap.size (fun _ => True) (.slice A ps.length c) ps)∧Aside0 (IsS45 w wr g bs pos)∧Aside0 (Below w.heap.size w wr))
 case atStart => exact ⟨_,[z61],1,p1,rfl,rfl,H0,⟨Nat.le_refl _⟩,HRm,HIm,HBm⟩
 obtain ⟨A,ps,c,pos,rfl,rfl,HA,HK,HR,HI,HB⟩:=hrel
 clear HRm HIm HBm
 cases gk with
 | zero => exact absurd HA.out (by simp [understudyref04_Decode.l0])
 | succ k1 =>
 have H:=HA.out
 clear HA
 simp only [understudyref04_Decode.l0] at H
 by_cases hlt:(ps.length:Int) < n
 rotate_left
 ·rw [if_neg hlt] at H
  have hpi:decide ((ps.length:Int) < wrap64 n)=false:=by rw [HWN.out];exact decide_eq_false hlt
  obtain ⟨e9,hE,H⟩:=Option.bind_eq_some_iff.mp H
  obtain ⟨A',c',hv,hc',hC'⟩:=Kd.R_reads HR.out
  injection hv with hv1 hv2 hv3
  subst hv1
  subst hv3
  have HCk:=am_ (understudyref04_Check.calls k1 A c ps e9 wr hC' hc' hE)
  have HH:=am_ H
  clear hE hlt hc' hC' hv2 H
  go_wp2_with fail
  refine HCk.out.mono ?_
  rintro e w3 ⟨rfl,hb3⟩
  have HR3:=am_ (Kd.R_below HR.out hb3)
  have HI3:=am_ (HI.out.below hb3)
  have HB3:=am_ (below_step HB.out hb3)
  clear hb3 HCk HR HI HB hpi
  have H:=HH.out
  clear HH
  by_cases hee:e9=0
  ·rw [if_pos hee] at H
   have j1:(e9 != 0)=false:=bne_eq_false_iff_eq.mpr hee
   simp only [Option.some.injEq,Prod.mk.injEq] at H
   obtain ⟨rfl,rfl,rfl⟩:=H
   clear hee
   obtain ⟨A3,c3,hb3,_⟩:=HI3.out
   have q1:w3.cell? ⟨g,1,none⟩=some (.int .i64 pos):=(blk_cell hb3 1).trans rfl
   clear hb3
   go_wp2
   go_quiet (fail)
   go_wp2
   go_ret3
   exact ⟨_,rfl,Kd.R_drewN HR3.out _,pw_below_drewN HB3.out _⟩
  rw [if_neg hee] at H
  have j1:(e9 != 0)=true:=bne_iff_ne.mpr hee
  simp only [Option.some.injEq,Prod.mk.injEq] at H
  obtain ⟨rfl,rfl,rfl⟩:=H
  clear hee
  go_wp2
  go_ret3
  exact ⟨_,rfl,Kd.R_nil _ _ _ _ _,HB3.out⟩
 rw [if_pos hlt] at H
 have hpi:decide ((ps.length:Int) < wrap64 n)=true:=by rw [HWN.out];exact decide_eq_true hlt
 obtain ⟨⟨tg,ee,p2⟩,hC,H⟩:=Option.bind_eq_some_iff.mp H
 dsimp only at H
 have HC:=am_ (understudyref01_Reader_Uint.calls k1 g bs pos 1 tg ee p2 w wr HI.out HB.out hC)
 have HH:=am_ H
 clear hC hlt H
 go_wp2_with fail
 refine HC.out.mono ?_
 rintro e w3 ⟨rfl,hI,hB,hK⟩
 have HR3:=am_ (R_keep_rd HI.out HR.out (by decide) hK)
 have HI3:=am_ hI
 have HB3:=am_ hB
 clear hI hB hK HC HR HI HB hpi
 have H:=HH.out
 clear HH
 by_cases hee:ee=0
 case neg =>
  rw [if_neg hee] at H
  have j1:(ee != 0)=true:=bne_iff_ne.mpr hee
  simp only [Option.some.injEq,Prod.mk.injEq] at H
  obtain ⟨rfl,rfl,rfl⟩:=H
  clear hee
  go_wp2
  go_ret3
  exact ⟨_,rfl,Kd.R_nil _ _ _ _ _,HB3.out⟩
 rw [if_pos hee] at H
 have j1:(ee != 0)=false:=bne_eq_false_iff_eq.mpr hee
 clear hee
 obtain ⟨⟨f0,f1,f2,f3,f4,e2,p3⟩,hC,H⟩:=Option.bind_eq_some_iff.mp H
 dsimp only at H
 have HC:=am_ (understudyref04_read.calls k1 g bs p2 (wrap64 tg) f0 f1 f2 f3 f4 e2 p3 w w3 HI3.out HB3.out hC)
 have HH:=am_ H
 clear hC H
 go_wp2_with fail
 refine HC.out.mono ?_
 rintro e w4 ⟨rfl,hI,hB,hK⟩
 have HR4:=am_ (R_keep_rd HI3.out HR3.out (by decide) hK)
 have HI4:=am_ hI
 have HB4:=am_ hB
 clear hI hB hK HC HR3 HI3 HB3 j1
 have H:=HH.out
 clear HH
 by_cases hee:e2=0
 case neg =>
  rw [if_neg hee] at H
  have j1:(e2 != 0)=true:=bne_iff_ne.mpr hee
  simp only [Option.some.injEq,Prod.mk.injEq] at H
  obtain ⟨rfl,rfl,rfl⟩:=H
  clear hee
  go_wp2
  go_ret3
  exact ⟨_,rfl,Kd.R_nil _ _ _ _ _,below_alloc HB4.out _⟩
 rw [if_pos hee] at H
 have j1:(e2 != 0)=false:=bne_eq_false_iff_eq.mpr hee
 clear hee
 by_cases hps:ps.length≤65536
 case neg => rw [if_neg hps] at H;cases H
 rw [if_pos hps] at H
 have HN2:=am_ H
 have HPS:=am_ hps
 clear H hps
 obtain ⟨wb,hwb⟩:∃ wb,wb=w4.alloc (.cells #[.int .i64 f0,.string f1,.int .i64 f2,.int .i64 f3,.int .i64 f4] 61 (0,0)):=⟨_,rfl⟩
 have hbw:Below w4.heap.size w4 wb:=by rw [hwb];exact below_alloc (Below.refl _ _) _
 have HRb:=am_ (Kd.R_below HR4.out hbw)
 have HIb:=am_ (HI4.out.below hbw)
 have HBb:=am_ (below_step HB4.out hbw)
 have HWB:=am_ hwb
 clear hwb hbw
 go_upto_region 19 with (fail)
 rw [← HWB.out]
 obtain ⟨bx0,bx1,bx2,bx3,bx4,_⟩:=blk5_ (show wb.heap[w4.heap.size]?=some (.cells #[.int .i64 f0,.string f1,.int .i64 f2,.int .i64 f3,.int .i64 f4] 61 (0,0)) by rw [HWB.out];exact blk_new _ _)
 clear HWB HR4 HI4 HB4
 go_wp2_with (at_builtin;refine Kd.R_append k61 (w0:=w) (W:=wb) w.heap.size rfl (.tmp 54) (.tmp 56) 23 61 (.agg #[(.int .i64 0),(.string ⟨#[]⟩),(.int .i64 0),(.int .i64 0),(.int .i64 0)]) 48 rfl Tryz.underlying23 info61 rfl (by decide) (by omega) (.slice A ps.length c) ps (⟨f0,f1,f2,f3,f4⟩:CstR) [.int .i64 f0,.string f1,.int .i64 f2,.int .i64 f3,.int .i64 f4] (fun _ => True) (fun _ => False) rfl rfl (k61_mkM _ _ _ _) (fun _ hk => hk.elim) (fun _ _ => trivial) HRb.out HBb.out HBb.out.size ?aL ?_)
 case aL => have:=HPS.out;omega
 intro v1 w5 hR5 hB5 hg5 ho5
 obtain ⟨A5,c5,hv5⟩:=Kd.R_slice hR5
 subst hv5
 have HR5:=am_ hR5
 have HB5:=am_ hB5
 have HI5:=am_ (HIb.out.grown hg5 (HIb.out.own_ne HRb.out (by decide)))
 clear hR5 hB5 hg5 ho5 bx0 bx1 bx2 bx3 bx4 HRb HIb HBb
 go_wp2
 go_roundg k1
 case measure => have:=HK.out;omega
 case rel => exact ⟨A5,ps++[⟨f0,f1,f2,f3,f4⟩],c5,p3,rfl,congrArg (Value.int .i64) (by rw [List.length_append,List.length_singleton];unfold wrap64;have:=HPS.out;omega),HN2,⟨by have:=HK.out;omega⟩,HR5,HI5,HB5⟩
end Go.Proofs.YtamdobdmjcgmoaaGreatDoor.Px
namespace Go.Proofs.YtamdobdmjcgmoaaGreatDoor.Px
open Go.RowKit Go.Proofs.YtamdobdmjcgmoaaGreatDoorW.PrintWords Go.Proofs.YtamdobdmjcgmoaaGreatDoorW.PrintLast Go.Proofs.YtamdobdmjcgmoaaGreatDoorW.PrintMore
attribute [local go_sem] max2_int min2_int max_two min_two max_three min_three max_four min_four
set_option linter.unusedVariables false
set_option linter.unusedSimpArgs false
def wire_gather_uint64.l0:Nat→Int→List Int→Int→Int→Option (Int)
 | 0,_,_,_,_ => none
 | k + 1,x1,x7,x8,x9 => if x9 < x8 then (if 0≤x9 then (if x9 < (x7.length:Int) then (wire_gather_uint64.l0 k (Go.bits .or .u64 (IntKind.u64.wrap (x1 * 256)) (IntKind.u64.wrap (rd x7 x9))) x7 x8 (wrap64 (x9 + 1))) else (none)) else (none)) else (some x1)
def wire_gather_uint64.f (k:Nat) (l0:List Int) (a1:Int):Option (Int):=wire_gather_uint64.l0 k a1 l0 (l0.length:Int) 0
set_option maxHeartbeats 80000000 in
set_option maxRecDepth 100000 in
theorem wire_gather_uint64.calls (k:Nat) (A0:Option Addr) (c0:Nat) (l0:List Int) (a1:Int) (r:Int) (w:World) (hr0:Kd.C (Kd.int .u8) w A0 l0.length l0) (hc0:l0.length≤c0) (h:wire_gather_uint64.f k l0 a1=some r) :
  Calls Tryz.prog 63 #[.slice A0 l0.length c0,.int .u64 a1] w fun e w' => e=.returned (.int .u64 r)∧Drawn0 w w':=by
 have HR0:=am_ hr0
 have HC0:=am_ hc0
 clear hr0 hc0
 have H:(wire_gather_uint64.l0 k a1 l0 (l0.length:Int) 0)=some r:=h
 clear h
 have H':=am_ H
 clear H
 go_enter Tryz.func63,Tryz.ntmps63
 go_wp2
 go_loopg [1,9] k (fun kq v1 v9 w' => ∃ (x1_1:Int) (x9_1:Int),v1=.int .u64 x1_1∧v9=.int .i64 x9_1∧Aside0 (wire_gather_uint64.l0 kq x1_1 l0 (l0.length:Int) x9_1=some r)∧Aside0 (kq≤k)∧Drawn0 w w')
 case atStart => exact ⟨(a1),(0),r3_,r3_,H',⟨Nat.le_refl _⟩,by repeat (first|exact Drawn0.refl _|apply Drawn0.step)⟩
 clear H'
 obtain ⟨x1_1,x9_1,rfl,rfl,HA,HK1,⟨m1,rfl⟩⟩:=hrel
 cases gk with
 | zero => exact absurd HA.out (by simp [wire_gather_uint64.l0])
 | succ k1 =>
  have H:=HA.out
  clear HA
  simp only [wire_gather_uint64.l0] at H
  by_cases c3:x9_1 < (l0.length:Int)
  ·rw [if_pos c3] at H
   have c3b0:decide (x9_1 < (l0.length:Int))=true:=decide_eq_true c3
   clear c3
   by_cases c4:0≤x9_1
   ·rw [if_pos c4] at H
    have c4b0:decide (0≤x9_1)=true:=decide_eq_true c4
    clear c4
    by_cases c5:x9_1 < (l0.length:Int)
    ·rw [if_pos c5] at H
     have c5b0:decide (x9_1 < (l0.length:Int))=true:=decide_eq_true c5
     clear c5
     have H':=am_ H
     clear H
     have p180:0≤(x9_1:Int):=od_
     have q180:x9_1 < (l0.length:Int):=od_
     obtain ⟨ad180,e180,hx180_0⟩:=Kd.at_int HR0.out x9_1 p180 q180
     cases e180
     replace p180:=eq_true p180
     replace q180:=eq_true q180
     go_wp2
     go_roundg k1
     case measure => have:=HK1.out;omega
     case rel => exact ⟨(Go.bits .or .u64 (IntKind.u64.wrap (x1_1 * 256)) (IntKind.u64.wrap (rd l0 x9_1))),(wrap64 (x9_1 + 1)),r3_,r3_,H',⟨by have:=HK1.out;omega⟩,by repeat (first|exact Drawn0.refl _|apply Drawn0.step)⟩
    rw [if_neg c5] at H
    exact absurd H (by simp)
   rw [if_neg c4] at H
   exact absurd H (by simp)
  rw [if_neg c3] at H
  have c3b0:decide (x9_1 < (l0.length:Int))=false:=decide_eq_false c3
  clear c3
  obtain rfl:=Option.some.inj H
  go_wp2
  go_ret
  exact ⟨by first|rfl|(simp;done)|(simp [*];done),by repeat (first|exact Drawn0.refl _|apply Drawn0.step)⟩
def utf8_appendRuneNonASCII.j0:Nat→List Int→Int→Int→Bool→Option (List Int)
 | 0,_,_,_,_ => none
 | k + 1,x0,x1,x5,x25 => if x25=true then ((some (([Go.bits .or .u8 224 ((x1 / 4096) % 256),(128 + x1 / 64 % 64),(128 + x1 % 64)]:List Int):List Int)).bind fun y187 => (if x0.length + y187.length < 140737488355328 then (some (x0++y187)) else (none))) else (if x5 > 65535 then (if x5≤1114111 then ((some (([Go.bits .or .u8 240 ((x1 / 262144) % 256),(128 + x1 / 4096 % 64),(128 + x1 / 64 % 64),(128 + x1 % 64)]:List Int):List Int)).bind fun y193 => (if x0.length + y193.length < 140737488355328 then (some (x0++y193)) else (none))) else ((some (([239,191,189]:List Int):List Int)).bind fun y199 => (if x0.length + y199.length < 140737488355328 then (some (x0++y199)) else (none)))) else ((some (([239,191,189]:List Int):List Int)).bind fun y205 => (if x0.length + y205.length < 140737488355328 then (some (x0++y205)) else (none))))
def utf8_appendRuneNonASCII.f (k:Nat) (l0:List Int) (a1:Int):Option (List Int):=if ((a1) % 4294967296)≤2047 then ((some (([Go.bits .or .u8 192 ((a1 / 64) % 256),(128 + a1 % 64)]:List Int):List Int)).bind fun y181 => (if l0.length + y181.length < 140737488355328 then (some (l0++y181)) else (none))) else (if ((a1) % 4294967296) < 55296 then (utf8_appendRuneNonASCII.j0 k l0 a1 ((a1) % 4294967296) (decide (((a1) % 4294967296) < 55296))) else (if 57343 < ((a1) % 4294967296) then (utf8_appendRuneNonASCII.j0 k l0 a1 ((a1) % 4294967296) (decide (((a1) % 4294967296)≤65535))) else (utf8_appendRuneNonASCII.j0 k l0 a1 ((a1) % 4294967296) false)))
set_option maxHeartbeats 80000000 in
set_option maxRecDepth 100000 in
theorem utf8_appendRuneNonASCII.calls (k:Nat) (P0_:Nat→Prop) (u9000_:Value) (l0:List Int) (a1:Int) (r:List Int) (w0 w:World) (hB:Below w0.heap.size w0 w) (ho0:Kd.R (Kd.int .u8) 5 w w0.heap.size P0_ u9000_ l0) (h:utf8_appendRuneNonASCII.f k l0 a1=some r) :
  Calls Tryz.prog 95 #[u9000_,.int .i32 a1] w fun e w' => ∃ v0_:Value,e=.returned (v0_)∧Kd.R (Kd.int .u8) 5 w' w0.heap.size (fun k_ => (P0_ k_ ∨ w.heap.size≤k_)) v0_ r∧Below w0.heap.size w0 w'∧Kept w w' (fun k_ => P0_ k_):=by
 have HO0:=am_ (show Kd.R (Kd.int .u8) 5 w w0.heap.size (fun k_ => (P0_ k_ ∨ w.heap.size≤k_)) u9000_ l0 from Kd.R_mono ho0 (fun k_ hk => (.inl hk)))
 have HK:=am_ (Kept.refl w (fun k_ => P0_ k_))
 have HW0:=am_ hB.size
 have HB:=am_ hB
 clear hB
 have H:(if ((a1) % 4294967296)≤2047 then ((some (([Go.bits .or .u8 192 ((a1 / 64) % 256),(128 + a1 % 64)]:List Int):List Int)).bind fun y181 => (if l0.length + y181.length < 140737488355328 then (some (l0++y181)) else (none))) else (if ((a1) % 4294967296) < 55296 then (utf8_appendRuneNonASCII.j0 k l0 a1 ((a1) % 4294967296) (decide (((a1) % 4294967296) < 55296))) else (if 57343 < ((a1) % 4294967296) then (utf8_appendRuneNonASCII.j0 k l0 a1 ((a1) % 4294967296) (decide (((a1) % 4294967296)≤65535))) else (utf8_appendRuneNonASCII.j0 k l0 a1 ((a1) % 4294967296) false))))=some r:=h
 clear h
 by_cases c3:((a1) % 4294967296)≤2047
 ·rw [if_pos c3] at H
  have c3b0:decide (((a1) % 4294967296)≤2047)=true:=decide_eq_true c3
  clear c3
  obtain ⟨y181,hy181⟩:∃ y_:List Int,y_=(([Go.bits .or .u8 192 ((a1 / 64) % 256),(128 + a1 % 64)]:List Int)):=⟨_,rfl⟩
  replace H:(if l0.length + y181.length < 140737488355328 then (some (l0++y181)) else (none))=some r:=by first|(rw [hy181];with_reducible exact H)|(have H2_:=(Option.bind_some _ _).symm.trans H;rw [hy181];with_reducible exact H2_)|(have H2_:=(Option.bind_some _ _).symm.trans H;with_reducible exact H2_)|with_reducible exact H|(rw [hy181];exact H)|exact H
  have Ny181:=am_ hy181
  clear hy181
  by_cases c4:l0.length + y181.length < 140737488355328
  ·rw [if_pos c4] at H
   have LMc4:=am_ c4
   clear c4
   obtain ⟨y184,hy184⟩:∃ y_:List Int,y_=(l0++y181):=⟨_,rfl⟩
   replace H:(some y184)=some r:=by first|(rw [hy184];with_reducible exact H)|(have H2_:=(Option.bind_some _ _).symm.trans H;rw [hy184];with_reducible exact H2_)|(have H2_:=(Option.bind_some _ _).symm.trans H;with_reducible exact H2_)|with_reducible exact H|(rw [hy184];exact H)|exact H
   have Ny184:=am_ hy184
   clear hy184
   obtain rfl:=Option.some.inj H
   go_enter Tryz.func95,Tryz.ntmps95
   go_wp2_with (first|((with_reducible refine gate_dst (N:=23) rfl ?_);refine Kd.R_lit (Kd.int .u8) _ 5 ?hg (N:=23) ?hd (xs:=([Go.bits .or .u8 192 ((a1 / 64) % 256),(128 + a1 % 64)]:List Int)) (inner:=[.int .u8 (Go.bits .or .u8 192 ((a1 / 64) % 256)),.int .u8 ((128 + a1 % 64))]) (ok:=fun _ => True) (okp:=fun _ => True) ?hr ?hp (fun _ hk => hk) trivial (Below.refl _ _) (Nat.le_refl _) (by simp) ?_;(case hd => rfl);(case hg => rfl);(case hr => first|(go_simp;done)|(go_simp;rfl));(case hp => exact (Reps.one (show Kd.M (Kd.int .u8) _ _ _ (Go.bits .or .u8 192 ((a1 / 64) % 256)) [.int .u8 (Go.bits .or .u8 192 ((a1 / 64) % 256))] from rfl) (Reps.one (show Kd.M (Kd.int .u8) _ _ _ ((128 + a1 % 64)) [.int .u8 ((128 + a1 % 64))] from rfl) (Reps.none _ _))));intro v182 w5 ho6 hb hg_ hnew_;clear hg_ hnew_;(first|rw [← Ny181.out] at ho6|(simp only [Int.reduceToNat] at ho6;rw [← Ny181.out] at ho6));have n0_:=am_ (Kd.R_elder' (kr_ HO0.out) (Kd.R_base ho6) hb);have n1_:=am_ (Kd.R_lower (Kd.R_new' (Kd.R_newM (M:=fun k_ => (P0_ k_ ∨ w.heap.size≤k_)) ho6 (by first|exact HK.out.1|exact (show Kept w _ (fun k_ => P0_ k_) from by repeat (first|(with_reducible first|exact HK.out|apply Kept.alloc|apply Kept.drewN|apply Kept.drew)|exact HK.out)).1) (fun k_ h_ => .inr h_)) (Kd.R_lt (kr_ HO0.out))) (below_size bl_));have n2_:=am_ (Kept.below (S:=(fun k_ => P0_ k_)) (by repeat (first|(with_reducible first|exact HK.out|apply Kept.alloc|apply Kept.drewN|apply Kept.drew)|exact HK.out)) hb);have n3_:=am_ (below_step bl_ hb);clear HO0;clear HK;clear HB;have HO0:=n0_;have HO183:=n1_;have HK:=n2_;have HB:=n3_;clear n0_ n1_ n2_ n3_;clear hb ho6;obtain ⟨Ao8,co8,eo8⟩:=Kd.R_slice HO183.out;subst eo8)|((with_reducible refine gate_builtin (b:=.append) (xs:=#[.tmp 14,.tmp 23]) rfl ?_);at_builtin;refine Kd.R_append_rows (Kd.int .u8) (w0:=w0) w0.heap.size rfl (.tmp 14) (.tmp 23) 22 5 (.int .u8 0) 1 rfl Tryz.underlying22 info5 rfl (by decide) (by omega) u9000_ l0 y181 _ _ _ (fun k_ => (P0_ k_ ∨ w.heap.size≤k_)∧some k_ ≠ (.slice Ao8 y181.length co8:Value).ownBlock) (fun _ => False) rfl rfl ?aO ?aR (fun _ _ h => h) (fun _ h => h.elim) ?aF ?aB ?aS ?aL ?_;(case aR => exact kc_ (Kd.R_reads' HO183.out).2.2);(case aB => exact bl_);(case aF => exact (fun k_ hk => ⟨(.inr (Nat.le_trans (by first|exact HK.out.1|exact (show Kept w _ (fun k_ => P0_ k_) from by repeat (first|(with_reducible first|exact HK.out|apply Kept.alloc|apply Kept.drewN|apply Kept.drew)|exact HK.out)).1) hk)),Kd.fresh' (Kd.R_lt (kr_ HO183.out)) k_ hk⟩));(case aO => exact (kr_ HO0.out));(case aS => exact (below_size bl_));(case aL => have:=LMc4.out;omega);intro v185 w7 ho hb hg hat;rw [← Ny184.out] at ho;have n0_:=am_ (Kd.R_after (ok:=(fun k_ => (P0_ k_ ∨ w.heap.size≤k_))) (by (with_reducible repeat (first|apply Kd.R_alloc|apply Kd.R_drewN|apply Kd.R_drew));exact Kd.R_mono HO183.out (fun _ hk => ⟨hk.1.1,hk.2⟩)) hg hat);have n1_:=am_ (hb);have n2_:=am_ (Kept.of_grown (S:=(fun k_ => P0_ k_)) hg (by repeat (first|(with_reducible first|exact HK.out|apply Kept.alloc|apply Kept.drewN|apply Kept.drew)|exact HK.out)) (fun k_ e_ => (HO0.out.1 k_ e_).1));have n3_:=am_ (ho);clear HO183;clear HB;clear HK;clear HO0;have HO183:=n0_;have HB:=n1_;have HK:=n2_;have HO186:=n3_;clear n0_ n1_ n2_ n3_;clear ho hb hg hat))
   go_ret
   exact ⟨_,ew_,by (with_reducible repeat (first|apply Kd.R_alloc|apply Kd.R_drewN|apply Kd.R_drew));exact Kd.R_mono HO186.out (fun _ hk => hk.1),bl_,by repeat (first|(with_reducible first|exact HK.out|apply Kept.alloc|apply Kept.drewN|apply Kept.drew)|exact HK.out)⟩
  rw [if_neg c4] at H
  exact absurd H (by simp)
 rw [if_neg c3] at H
 have c3b0:decide (((a1) % 4294967296)≤2047)=false:=decide_eq_false c3
 clear c3
 have HC9:=am_ H
 clear H
 go_enter Tryz.func95,Tryz.ntmps95
 go_upto_if 25 with (fail)
 go_cut [25] (fun v25 wc => ∃ (kq:Nat) (x25_8:Bool),v25=.bool x25_8∧Aside0 (utf8_appendRuneNonASCII.j0 kq l0 a1 ((a1) % 4294967296) x25_8=some r)∧Aside0 (kq≤k)∧Aside0 (Kd.R (Kd.int .u8) 5 wc w0.heap.size (fun k_ => (P0_ k_ ∨ w.heap.size≤k_)) u9000_ l0)∧Aside0 (Kept w wc (fun k_ => P0_ k_))∧Aside0 (Below w0.heap.size w0 wc))
 case first =>
  have H:=HC9.out
  clear HC9
  by_cases c10:((a1) % 4294967296) < 55296
  ·rw [if_pos c10] at H
   have c10b0:decide (((a1) % 4294967296) < 55296)=true:=decide_eq_true c10
   clear c10
   (first|rw [c10b0]|(simp only [i64_w,i32_w];rw [c10b0])|skip)
   have H':=am_ H
   clear H
   go_wp2
   go_meet
   case rel => exact ⟨_,(decide (((a1) % 4294967296) < 55296)),r3_,H',⟨by first|omega|exact Nat.le_refl _⟩,⟨kr_ HO0.out⟩,⟨by repeat (first|(with_reducible first|exact HK.out|apply Kept.alloc|apply Kept.drewN|apply Kept.drew)|exact HK.out)⟩,⟨bl_⟩⟩
  rw [if_neg c10] at H
  have c10b0:decide (((a1) % 4294967296) < 55296)=false:=decide_eq_false c10
  clear c10
  (first|rw [c10b0]|(simp only [i64_w,i32_w];rw [c10b0])|skip)
  by_cases c11:57343 < ((a1) % 4294967296)
  ·rw [if_pos c11] at H
   have c11b0:decide (57343 < ((a1) % 4294967296))=true:=decide_eq_true c11
   clear c11
   have H':=am_ H
   clear H
   go_wp2
   go_meet
   case rel => exact ⟨_,(decide (((a1) % 4294967296)≤65535)),r3_,H',⟨by first|omega|exact Nat.le_refl _⟩,⟨kr_ HO0.out⟩,⟨by repeat (first|(with_reducible first|exact HK.out|apply Kept.alloc|apply Kept.drewN|apply Kept.drew)|exact HK.out)⟩,⟨bl_⟩⟩
  rw [if_neg c11] at H
  have c11b0:decide (57343 < ((a1) % 4294967296))=false:=decide_eq_false c11
  clear c11
  have H':=am_ H
  clear H
  go_wp2
  go_meet
  case rel => exact ⟨_,(false),r3_,H',⟨by first|omega|exact Nat.le_refl _⟩,⟨kr_ HO0.out⟩,⟨by repeat (first|(with_reducible first|exact HK.out|apply Kept.alloc|apply Kept.drewN|apply Kept.drew)|exact HK.out)⟩,⟨bl_⟩⟩
 clear HC9
 try clear c3;try clear c3b0
 obtain ⟨kq,x25_8,rfl,HA,HJ8,HO_0,HK,HB⟩:=hcut
 cases kq with
 | zero => exact absurd HA.out (by simp [utf8_appendRuneNonASCII.j0])
 | succ kj8 =>
  have H:=HA.out
  clear HA
  simp only [utf8_appendRuneNonASCII.j0] at H
  by_cases c12:x25_8=true
  ·subst c12
   rw [if_pos rfl] at H
   obtain ⟨y187,hy187⟩:∃ y_:List Int,y_=(([Go.bits .or .u8 224 ((a1 / 4096) % 256),(128 + a1 / 64 % 64),(128 + a1 % 64)]:List Int)):=⟨_,rfl⟩
   replace H:(if l0.length + y187.length < 140737488355328 then (some (l0++y187)) else (none))=some r:=by first|(rw [hy187];with_reducible exact H)|(have H2_:=(Option.bind_some _ _).symm.trans H;rw [hy187];with_reducible exact H2_)|(have H2_:=(Option.bind_some _ _).symm.trans H;with_reducible exact H2_)|with_reducible exact H|(rw [hy187];exact H)|exact H
   have Ny187:=am_ hy187
   clear hy187
   by_cases c13:l0.length + y187.length < 140737488355328
   ·rw [if_pos c13] at H
    have LMc13:=am_ c13
    clear c13
    obtain ⟨y190,hy190⟩:∃ y_:List Int,y_=(l0++y187):=⟨_,rfl⟩
    replace H:(some y190)=some r:=by first|(rw [hy190];with_reducible exact H)|(have H2_:=(Option.bind_some _ _).symm.trans H;rw [hy190];with_reducible exact H2_)|(have H2_:=(Option.bind_some _ _).symm.trans H;with_reducible exact H2_)|with_reducible exact H|(rw [hy190];exact H)|exact H
    have Ny190:=am_ hy190
    clear hy190
    obtain rfl:=Option.some.inj H
    go_wp2_with (first|((with_reducible refine gate_dst (N:=48) rfl ?_);refine Kd.R_lit (Kd.int .u8) _ 5 ?hg (N:=48) ?hd (xs:=([Go.bits .or .u8 224 ((a1 / 4096) % 256),(128 + a1 / 64 % 64),(128 + a1 % 64)]:List Int)) (inner:=[.int .u8 (Go.bits .or .u8 224 ((a1 / 4096) % 256)),.int .u8 ((128 + a1 / 64 % 64)),.int .u8 ((128 + a1 % 64))]) (ok:=fun _ => True) (okp:=fun _ => True) ?hr ?hp (fun _ hk => hk) trivial (Below.refl _ _) (Nat.le_refl _) (by simp) ?_;(case hd => rfl);(case hg => rfl);(case hr => first|(go_simp;done)|(go_simp;rfl));(case hp => exact (Reps.one (show Kd.M (Kd.int .u8) _ _ _ (Go.bits .or .u8 224 ((a1 / 4096) % 256)) [.int .u8 (Go.bits .or .u8 224 ((a1 / 4096) % 256))] from rfl) (Reps.one (show Kd.M (Kd.int .u8) _ _ _ ((128 + a1 / 64 % 64)) [.int .u8 ((128 + a1 / 64 % 64))] from rfl) (Reps.one (show Kd.M (Kd.int .u8) _ _ _ ((128 + a1 % 64)) [.int .u8 ((128 + a1 % 64))] from rfl) (Reps.none _ _)))));intro v188 w14 ho15 hb hg_ hnew_;clear hg_ hnew_;(first|rw [← Ny187.out] at ho15|(simp only [Int.reduceToNat] at ho15;rw [← Ny187.out] at ho15));have n0_:=am_ (Kd.R_elder' (kr_ HO_0.out) (Kd.R_base ho15) hb);have n1_:=am_ (Kd.R_lower (Kd.R_new' (Kd.R_newM (M:=fun k_ => (P0_ k_ ∨ w.heap.size≤k_)) ho15 (by first|exact HK.out.1|exact (show Kept w _ (fun k_ => P0_ k_) from by repeat (first|(with_reducible first|exact HK.out|apply Kept.alloc|apply Kept.drewN|apply Kept.drew)|exact HK.out)).1) (fun k_ h_ => .inr h_)) (Kd.R_lt (kr_ HO_0.out))) (below_size bl_));have n2_:=am_ (Kept.below (S:=(fun k_ => P0_ k_)) (by repeat (first|(with_reducible first|exact HK.out|apply Kept.alloc|apply Kept.drewN|apply Kept.drew)|exact HK.out)) hb);have n3_:=am_ (below_step bl_ hb);clear HO_0;clear HK;clear HB;have HO_0:=n0_;have HO189:=n1_;have HK:=n2_;have HB:=n3_;clear n0_ n1_ n2_ n3_;clear hb ho15;obtain ⟨Ao17,co17,eo17⟩:=Kd.R_slice HO189.out;subst eo17)|((with_reducible refine gate_builtin (b:=.append) (xs:=#[.tmp 34,.tmp 48]) rfl ?_);at_builtin;refine Kd.R_append_rows (Kd.int .u8) (w0:=w0) w0.heap.size rfl (.tmp 34) (.tmp 48) 22 5 (.int .u8 0) 1 rfl Tryz.underlying22 info5 rfl (by decide) (by omega) u9000_ l0 y187 _ _ _ (fun k_ => (P0_ k_ ∨ w.heap.size≤k_)∧some k_ ≠ (.slice Ao17 y187.length co17:Value).ownBlock) (fun _ => False) rfl rfl ?aO ?aR (fun _ _ h => h) (fun _ h => h.elim) ?aF ?aB ?aS ?aL ?_;(case aR => exact kc_ (Kd.R_reads' HO189.out).2.2);(case aB => exact bl_);(case aF => exact (fun k_ hk => ⟨(.inr (Nat.le_trans (by first|exact HK.out.1|exact (show Kept w _ (fun k_ => P0_ k_) from by repeat (first|(with_reducible first|exact HK.out|apply Kept.alloc|apply Kept.drewN|apply Kept.drew)|exact HK.out)).1) hk)),Kd.fresh' (Kd.R_lt (kr_ HO189.out)) k_ hk⟩));(case aO => exact (kr_ HO_0.out));(case aS => exact (below_size bl_));(case aL => have:=LMc13.out;omega);intro v191 w16 ho hb hg hat;rw [← Ny190.out] at ho;have n0_:=am_ (Kd.R_after (ok:=(fun k_ => (P0_ k_ ∨ w.heap.size≤k_))) (by (with_reducible repeat (first|apply Kd.R_alloc|apply Kd.R_drewN|apply Kd.R_drew));exact Kd.R_mono HO189.out (fun _ hk => ⟨hk.1.1,hk.2⟩)) hg hat);have n1_:=am_ (hb);have n2_:=am_ (Kept.of_grown (S:=(fun k_ => P0_ k_)) hg (by repeat (first|(with_reducible first|exact HK.out|apply Kept.alloc|apply Kept.drewN|apply Kept.drew)|exact HK.out)) (fun k_ e_ => (HO_0.out.1 k_ e_).1));have n3_:=am_ (ho);clear HO189;clear HB;clear HK;clear HO_0;have HO189:=n0_;have HB:=n1_;have HK:=n2_;have HO192:=n3_;clear n0_ n1_ n2_ n3_;clear ho hb hg hat))
    go_ret
    exact ⟨_,ew_,by (with_reducible repeat (first|apply Kd.R_alloc|apply Kd.R_drewN|apply Kd.R_drew));exact Kd.R_mono HO192.out (fun _ hk => hk.1),bl_,by repeat (first|(with_reducible first|exact HK.out|apply Kept.alloc|apply Kept.drewN|apply Kept.drew)|exact HK.out)⟩
   rw [if_neg c13] at H
   exact absurd H (by simp)
  replace c12:=Bool.eq_false_iff.mpr c12
  subst c12
  rw [if_neg (show ¬ (false=true) by decide)] at H
  by_cases c18:((a1) % 4294967296) > 65535
  rotate_left
  ·rw [if_neg c18] at H
   have c18b0:decide (65535 < ((a1) % 4294967296))=false:=decide_eq_false c18
   clear c18
   obtain ⟨y205,hy205⟩:∃ y_:List Int,y_=(([239,191,189]:List Int)):=⟨_,rfl⟩
   replace H:(if l0.length + y205.length < 140737488355328 then (some (l0++y205)) else (none))=some r:=by first|(rw [hy205];with_reducible exact H)|(have H2_:=(Option.bind_some _ _).symm.trans H;rw [hy205];with_reducible exact H2_)|(have H2_:=(Option.bind_some _ _).symm.trans H;with_reducible exact H2_)|with_reducible exact H|(rw [hy205];exact H)|exact H
   have Ny205:=am_ hy205
   clear hy205
   by_cases c30:l0.length + y205.length < 140737488355328
   ·rw [if_pos c30] at H
    have LMc30:=am_ c30
    clear c30
    obtain ⟨y208,hy208⟩:∃ y_:List Int,y_=(l0++y205):=⟨_,rfl⟩
    replace H:(some y208)=some r:=by first|(rw [hy208];with_reducible exact H)|(have H2_:=(Option.bind_some _ _).symm.trans H;rw [hy208];with_reducible exact H2_)|(have H2_:=(Option.bind_some _ _).symm.trans H;with_reducible exact H2_)|with_reducible exact H|(rw [hy208];exact H)|exact H
    have Ny208:=am_ hy208
    clear hy208
    obtain rfl:=Option.some.inj H
    go_wp2_with (first|((with_reducible refine gate_dst (N:=9) rfl ?_);refine Kd.R_lit (Kd.int .u8) _ 5 ?hg (N:=9) ?hd (xs:=([239,191,189]:List Int)) (inner:=[.int .u8 239,.int .u8 191,.int .u8 189]) (ok:=fun _ => True) (okp:=fun _ => True) ?hr ?hp (fun _ hk => hk) trivial (Below.refl _ _) (Nat.le_refl _) (by simp) ?_;(case hd => rfl);(case hg => rfl);(case hr => first|(go_simp;done)|(go_simp;rfl));(case hp => exact (Reps.one (show Kd.M (Kd.int .u8) _ _ _ 239 [.int .u8 239] from rfl) (Reps.one (show Kd.M (Kd.int .u8) _ _ _ 191 [.int .u8 191] from rfl) (Reps.one (show Kd.M (Kd.int .u8) _ _ _ 189 [.int .u8 189] from rfl) (Reps.none _ _)))));intro v206 w31 ho32 hb hg_ hnew_;clear hg_ hnew_;(first|rw [← Ny205.out] at ho32|(simp only [Int.reduceToNat] at ho32;rw [← Ny205.out] at ho32));have n0_:=am_ (Kd.R_elder' (kr_ HO_0.out) (Kd.R_base ho32) hb);have n1_:=am_ (Kd.R_lower (Kd.R_new' (Kd.R_newM (M:=fun k_ => (P0_ k_ ∨ w.heap.size≤k_)) ho32 (by first|exact HK.out.1|exact (show Kept w _ (fun k_ => P0_ k_) from by repeat (first|(with_reducible first|exact HK.out|apply Kept.alloc|apply Kept.drewN|apply Kept.drew)|exact HK.out)).1) (fun k_ h_ => .inr h_)) (Kd.R_lt (kr_ HO_0.out))) (below_size bl_));have n2_:=am_ (Kept.below (S:=(fun k_ => P0_ k_)) (by repeat (first|(with_reducible first|exact HK.out|apply Kept.alloc|apply Kept.drewN|apply Kept.drew)|exact HK.out)) hb);have n3_:=am_ (below_step bl_ hb);clear HO_0;clear HK;clear HB;have HO_0:=n0_;have HO207:=n1_;have HK:=n2_;have HB:=n3_;clear n0_ n1_ n2_ n3_;clear hb ho32;obtain ⟨Ao34,co34,eo34⟩:=Kd.R_slice HO207.out;subst eo34)|((with_reducible refine gate_builtin (b:=.append) (xs:=#[.tmp 8,.tmp 9]) rfl ?_);at_builtin;refine Kd.R_append_rows (Kd.int .u8) (w0:=w0) w0.heap.size rfl (.tmp 8) (.tmp 9) 22 5 (.int .u8 0) 1 rfl Tryz.underlying22 info5 rfl (by decide) (by omega) u9000_ l0 y205 _ _ _ (fun k_ => (P0_ k_ ∨ w.heap.size≤k_)∧some k_ ≠ (.slice Ao34 y205.length co34:Value).ownBlock) (fun _ => False) rfl rfl ?aO ?aR (fun _ _ h => h) (fun _ h => h.elim) ?aF ?aB ?aS ?aL ?_;(case aR => exact kc_ (Kd.R_reads' HO207.out).2.2);(case aB => exact bl_);(case aF => exact (fun k_ hk => ⟨(.inr (Nat.le_trans (by first|exact HK.out.1|exact (show Kept w _ (fun k_ => P0_ k_) from by repeat (first|(with_reducible first|exact HK.out|apply Kept.alloc|apply Kept.drewN|apply Kept.drew)|exact HK.out)).1) hk)),Kd.fresh' (Kd.R_lt (kr_ HO207.out)) k_ hk⟩));(case aO => exact (kr_ HO_0.out));(case aS => exact (below_size bl_));(case aL => have:=LMc30.out;omega);intro v209 w33 ho hb hg hat;rw [← Ny208.out] at ho;have n0_:=am_ (Kd.R_after (ok:=(fun k_ => (P0_ k_ ∨ w.heap.size≤k_))) (by (with_reducible repeat (first|apply Kd.R_alloc|apply Kd.R_drewN|apply Kd.R_drew));exact Kd.R_mono HO207.out (fun _ hk => ⟨hk.1.1,hk.2⟩)) hg hat);have n1_:=am_ (hb);have n2_:=am_ (Kept.of_grown (S:=(fun k_ => P0_ k_)) hg (by repeat (first|(with_reducible first|exact HK.out|apply Kept.alloc|apply Kept.drewN|apply Kept.drew)|exact HK.out)) (fun k_ e_ => (HO_0.out.1 k_ e_).1));have n3_:=am_ (ho);clear HO207;clear HB;clear HK;clear HO_0;have HO207:=n0_;have HB:=n1_;have HK:=n2_;have HO210:=n3_;clear n0_ n1_ n2_ n3_;clear ho hb hg hat))
    go_ret
    exact ⟨_,ew_,by (with_reducible repeat (first|apply Kd.R_alloc|apply Kd.R_drewN|apply Kd.R_drew));exact Kd.R_mono HO210.out (fun _ hk => hk.1),bl_,by repeat (first|(with_reducible first|exact HK.out|apply Kept.alloc|apply Kept.drewN|apply Kept.drew)|exact HK.out)⟩
   rw [if_neg c30] at H
   exact absurd H (by simp)
  rw [if_pos c18] at H
  have c18b0:decide (65535 < ((a1) % 4294967296))=true:=decide_eq_true c18
  clear c18
  by_cases c19:((a1) % 4294967296)≤1114111
  ·rw [if_pos c19] at H
   have c19b0:decide (((a1) % 4294967296)≤1114111)=true:=decide_eq_true c19
   clear c19
   obtain ⟨y193,hy193⟩:∃ y_:List Int,y_=(([Go.bits .or .u8 240 ((a1 / 262144) % 256),(128 + a1 / 4096 % 64),(128 + a1 / 64 % 64),(128 + a1 % 64)]:List Int)):=⟨_,rfl⟩
   replace H:(if l0.length + y193.length < 140737488355328 then (some (l0++y193)) else (none))=some r:=by first|(rw [hy193];with_reducible exact H)|(have H2_:=(Option.bind_some _ _).symm.trans H;rw [hy193];with_reducible exact H2_)|(have H2_:=(Option.bind_some _ _).symm.trans H;with_reducible exact H2_)|with_reducible exact H|(rw [hy193];exact H)|exact H
   have Ny193:=am_ hy193
   clear hy193
   by_cases c20:l0.length + y193.length < 140737488355328
   ·rw [if_pos c20] at H
    have LMc20:=am_ c20
    clear c20
    obtain ⟨y196,hy196⟩:∃ y_:List Int,y_=(l0++y193):=⟨_,rfl⟩
    replace H:(some y196)=some r:=by first|(rw [hy196];with_reducible exact H)|(have H2_:=(Option.bind_some _ _).symm.trans H;rw [hy196];with_reducible exact H2_)|(have H2_:=(Option.bind_some _ _).symm.trans H;with_reducible exact H2_)|with_reducible exact H|(rw [hy196];exact H)|exact H
    have Ny196:=am_ hy196
    clear hy196
    obtain rfl:=Option.some.inj H
    go_wp2_with (first|((with_reducible refine gate_dst (N:=76) rfl ?_);refine Kd.R_lit (Kd.int .u8) _ 5 ?hg (N:=76) ?hd (xs:=([Go.bits .or .u8 240 ((a1 / 262144) % 256),(128 + a1 / 4096 % 64),(128 + a1 / 64 % 64),(128 + a1 % 64)]:List Int)) (inner:=[.int .u8 (Go.bits .or .u8 240 ((a1 / 262144) % 256)),.int .u8 ((128 + a1 / 4096 % 64)),.int .u8 ((128 + a1 / 64 % 64)),.int .u8 ((128 + a1 % 64))]) (ok:=fun _ => True) (okp:=fun _ => True) ?hr ?hp (fun _ hk => hk) trivial (Below.refl _ _) (Nat.le_refl _) (by simp) ?_;(case hd => rfl);(case hg => rfl);(case hr => first|(go_simp;done)|(go_simp;rfl));(case hp => exact (Reps.one (show Kd.M (Kd.int .u8) _ _ _ (Go.bits .or .u8 240 ((a1 / 262144) % 256)) [.int .u8 (Go.bits .or .u8 240 ((a1 / 262144) % 256))] from rfl) (Reps.one (show Kd.M (Kd.int .u8) _ _ _ ((128 + a1 / 4096 % 64)) [.int .u8 ((128 + a1 / 4096 % 64))] from rfl) (Reps.one (show Kd.M (Kd.int .u8) _ _ _ ((128 + a1 / 64 % 64)) [.int .u8 ((128 + a1 / 64 % 64))] from rfl) (Reps.one (show Kd.M (Kd.int .u8) _ _ _ ((128 + a1 % 64)) [.int .u8 ((128 + a1 % 64))] from rfl) (Reps.none _ _))))));intro v194 w21 ho22 hb hg_ hnew_;clear hg_ hnew_;(first|rw [← Ny193.out] at ho22|(simp only [Int.reduceToNat] at ho22;rw [← Ny193.out] at ho22));have n0_:=am_ (Kd.R_elder' (kr_ HO_0.out) (Kd.R_base ho22) hb);have n1_:=am_ (Kd.R_lower (Kd.R_new' (Kd.R_newM (M:=fun k_ => (P0_ k_ ∨ w.heap.size≤k_)) ho22 (by first|exact HK.out.1|exact (show Kept w _ (fun k_ => P0_ k_) from by repeat (first|(with_reducible first|exact HK.out|apply Kept.alloc|apply Kept.drewN|apply Kept.drew)|exact HK.out)).1) (fun k_ h_ => .inr h_)) (Kd.R_lt (kr_ HO_0.out))) (below_size bl_));have n2_:=am_ (Kept.below (S:=(fun k_ => P0_ k_)) (by repeat (first|(with_reducible first|exact HK.out|apply Kept.alloc|apply Kept.drewN|apply Kept.drew)|exact HK.out)) hb);have n3_:=am_ (below_step bl_ hb);clear HO_0;clear HK;clear HB;have HO_0:=n0_;have HO195:=n1_;have HK:=n2_;have HB:=n3_;clear n0_ n1_ n2_ n3_;clear hb ho22;obtain ⟨Ao24,co24,eo24⟩:=Kd.R_slice HO195.out;subst eo24)|((with_reducible refine gate_builtin (b:=.append) (xs:=#[.tmp 57,.tmp 76]) rfl ?_);at_builtin;refine Kd.R_append_rows (Kd.int .u8) (w0:=w0) w0.heap.size rfl (.tmp 57) (.tmp 76) 22 5 (.int .u8 0) 1 rfl Tryz.underlying22 info5 rfl (by decide) (by omega) u9000_ l0 y193 _ _ _ (fun k_ => (P0_ k_ ∨ w.heap.size≤k_)∧some k_ ≠ (.slice Ao24 y193.length co24:Value).ownBlock) (fun _ => False) rfl rfl ?aO ?aR (fun _ _ h => h) (fun _ h => h.elim) ?aF ?aB ?aS ?aL ?_;(case aR => exact kc_ (Kd.R_reads' HO195.out).2.2);(case aB => exact bl_);(case aF => exact (fun k_ hk => ⟨(.inr (Nat.le_trans (by first|exact HK.out.1|exact (show Kept w _ (fun k_ => P0_ k_) from by repeat (first|(with_reducible first|exact HK.out|apply Kept.alloc|apply Kept.drewN|apply Kept.drew)|exact HK.out)).1) hk)),Kd.fresh' (Kd.R_lt (kr_ HO195.out)) k_ hk⟩));(case aO => exact (kr_ HO_0.out));(case aS => exact (below_size bl_));(case aL => have:=LMc20.out;omega);intro v197 w23 ho hb hg hat;rw [← Ny196.out] at ho;have n0_:=am_ (Kd.R_after (ok:=(fun k_ => (P0_ k_ ∨ w.heap.size≤k_))) (by (with_reducible repeat (first|apply Kd.R_alloc|apply Kd.R_drewN|apply Kd.R_drew));exact Kd.R_mono HO195.out (fun _ hk => ⟨hk.1.1,hk.2⟩)) hg hat);have n1_:=am_ (hb);have n2_:=am_ (Kept.of_grown (S:=(fun k_ => P0_ k_)) hg (by repeat (first|(with_reducible first|exact HK.out|apply Kept.alloc|apply Kept.drewN|apply Kept.drew)|exact HK.out)) (fun k_ e_ => (HO_0.out.1 k_ e_).1));have n3_:=am_ (ho);clear HO195;clear HB;clear HK;clear HO_0;have HO195:=n0_;have HB:=n1_;have HK:=n2_;have HO198:=n3_;clear n0_ n1_ n2_ n3_;clear ho hb hg hat))
    go_ret
    exact ⟨_,ew_,by (with_reducible repeat (first|apply Kd.R_alloc|apply Kd.R_drewN|apply Kd.R_drew));exact Kd.R_mono HO198.out (fun _ hk => hk.1),bl_,by repeat (first|(with_reducible first|exact HK.out|apply Kept.alloc|apply Kept.drewN|apply Kept.drew)|exact HK.out)⟩
   rw [if_neg c20] at H
   exact absurd H (by simp)
  rw [if_neg c19] at H
  have c19b0:decide (((a1) % 4294967296)≤1114111)=false:=decide_eq_false c19
  clear c19
  obtain ⟨y199,hy199⟩:∃ y_:List Int,y_=(([239,191,189]:List Int)):=⟨_,rfl⟩
  replace H:(if l0.length + y199.length < 140737488355328 then (some (l0++y199)) else (none))=some r:=by first|(rw [hy199];with_reducible exact H)|(have H2_:=(Option.bind_some _ _).symm.trans H;rw [hy199];with_reducible exact H2_)|(have H2_:=(Option.bind_some _ _).symm.trans H;with_reducible exact H2_)|with_reducible exact H|(rw [hy199];exact H)|exact H
  have Ny199:=am_ hy199
  clear hy199
  by_cases c25:l0.length + y199.length < 140737488355328
  ·rw [if_pos c25] at H
   have LMc25:=am_ c25
   clear c25
   obtain ⟨y202,hy202⟩:∃ y_:List Int,y_=(l0++y199):=⟨_,rfl⟩
   replace H:(some y202)=some r:=by first|(rw [hy202];with_reducible exact H)|(have H2_:=(Option.bind_some _ _).symm.trans H;rw [hy202];with_reducible exact H2_)|(have H2_:=(Option.bind_some _ _).symm.trans H;with_reducible exact H2_)|with_reducible exact H|(rw [hy202];exact H)|exact H
   have Ny202:=am_ hy202
   clear hy202
   obtain rfl:=Option.some.inj H
   go_wp2_with (first|((with_reducible refine gate_dst (N:=9) rfl ?_);refine Kd.R_lit (Kd.int .u8) _ 5 ?hg (N:=9) ?hd (xs:=([239,191,189]:List Int)) (inner:=[.int .u8 239,.int .u8 191,.int .u8 189]) (ok:=fun _ => True) (okp:=fun _ => True) ?hr ?hp (fun _ hk => hk) trivial (Below.refl _ _) (Nat.le_refl _) (by simp) ?_;(case hd => rfl);(case hg => rfl);(case hr => first|(go_simp;done)|(go_simp;rfl));(case hp => exact (Reps.one (show Kd.M (Kd.int .u8) _ _ _ 239 [.int .u8 239] from rfl) (Reps.one (show Kd.M (Kd.int .u8) _ _ _ 191 [.int .u8 191] from rfl) (Reps.one (show Kd.M (Kd.int .u8) _ _ _ 189 [.int .u8 189] from rfl) (Reps.none _ _)))));intro v200 w26 ho27 hb hg_ hnew_;clear hg_ hnew_;(first|rw [← Ny199.out] at ho27|(simp only [Int.reduceToNat] at ho27;rw [← Ny199.out] at ho27));have n0_:=am_ (Kd.R_elder' (kr_ HO_0.out) (Kd.R_base ho27) hb);have n1_:=am_ (Kd.R_lower (Kd.R_new' (Kd.R_newM (M:=fun k_ => (P0_ k_ ∨ w.heap.size≤k_)) ho27 (by first|exact HK.out.1|exact (show Kept w _ (fun k_ => P0_ k_) from by repeat (first|(with_reducible first|exact HK.out|apply Kept.alloc|apply Kept.drewN|apply Kept.drew)|exact HK.out)).1) (fun k_ h_ => .inr h_)) (Kd.R_lt (kr_ HO_0.out))) (below_size bl_));have n2_:=am_ (Kept.below (S:=(fun k_ => P0_ k_)) (by repeat (first|(with_reducible first|exact HK.out|apply Kept.alloc|apply Kept.drewN|apply Kept.drew)|exact HK.out)) hb);have n3_:=am_ (below_step bl_ hb);clear HO_0;clear HK;clear HB;have HO_0:=n0_;have HO201:=n1_;have HK:=n2_;have HB:=n3_;clear n0_ n1_ n2_ n3_;clear hb ho27;obtain ⟨Ao29,co29,eo29⟩:=Kd.R_slice HO201.out;subst eo29)|((with_reducible refine gate_builtin (b:=.append) (xs:=#[.tmp 8,.tmp 9]) rfl ?_);at_builtin;refine Kd.R_append_rows (Kd.int .u8) (w0:=w0) w0.heap.size rfl (.tmp 8) (.tmp 9) 22 5 (.int .u8 0) 1 rfl Tryz.underlying22 info5 rfl (by decide) (by omega) u9000_ l0 y199 _ _ _ (fun k_ => (P0_ k_ ∨ w.heap.size≤k_)∧some k_ ≠ (.slice Ao29 y199.length co29:Value).ownBlock) (fun _ => False) rfl rfl ?aO ?aR (fun _ _ h => h) (fun _ h => h.elim) ?aF ?aB ?aS ?aL ?_;(case aR => exact kc_ (Kd.R_reads' HO201.out).2.2);(case aB => exact bl_);(case aF => exact (fun k_ hk => ⟨(.inr (Nat.le_trans (by first|exact HK.out.1|exact (show Kept w _ (fun k_ => P0_ k_) from by repeat (first|(with_reducible first|exact HK.out|apply Kept.alloc|apply Kept.drewN|apply Kept.drew)|exact HK.out)).1) hk)),Kd.fresh' (Kd.R_lt (kr_ HO201.out)) k_ hk⟩));(case aO => exact (kr_ HO_0.out));(case aS => exact (below_size bl_));(case aL => have:=LMc25.out;omega);intro v203 w28 ho hb hg hat;rw [← Ny202.out] at ho;have n0_:=am_ (Kd.R_after (ok:=(fun k_ => (P0_ k_ ∨ w.heap.size≤k_))) (by (with_reducible repeat (first|apply Kd.R_alloc|apply Kd.R_drewN|apply Kd.R_drew));exact Kd.R_mono HO201.out (fun _ hk => ⟨hk.1.1,hk.2⟩)) hg hat);have n1_:=am_ (hb);have n2_:=am_ (Kept.of_grown (S:=(fun k_ => P0_ k_)) hg (by repeat (first|(with_reducible first|exact HK.out|apply Kept.alloc|apply Kept.drewN|apply Kept.drew)|exact HK.out)) (fun k_ e_ => (HO_0.out.1 k_ e_).1));have n3_:=am_ (ho);clear HO201;clear HB;clear HK;clear HO_0;have HO201:=n0_;have HB:=n1_;have HK:=n2_;have HO204:=n3_;clear n0_ n1_ n2_ n3_;clear ho hb hg hat))
   go_ret
   exact ⟨_,ew_,by (with_reducible repeat (first|apply Kd.R_alloc|apply Kd.R_drewN|apply Kd.R_drew));exact Kd.R_mono HO204.out (fun _ hk => hk.1),bl_,by repeat (first|(with_reducible first|exact HK.out|apply Kept.alloc|apply Kept.drewN|apply Kept.drew)|exact HK.out)⟩
  rw [if_neg c25] at H
  exact absurd H (by simp)
def utf8_AppendRune.f (k:Nat) (l0:List Int) (a1:Int):Option (List Int):=if ((a1) % 4294967296)≤127 then (if l0.length < 140737488355328 then (some (l0++[(a1) % 256])) else (none)) else ((utf8_appendRuneNonASCII.f k l0 a1).bind fun t214 => (some t214))
set_option maxHeartbeats 80000000 in
set_option maxRecDepth 100000 in
theorem utf8_AppendRune.calls (k:Nat) (P0_:Nat→Prop) (u9000_:Value) (l0:List Int) (a1:Int) (r:List Int) (w0 w:World) (hB:Below w0.heap.size w0 w) (ho0:Kd.R (Kd.int .u8) 5 w w0.heap.size P0_ u9000_ l0) (h:utf8_AppendRune.f k l0 a1=some r) :
  Calls Tryz.prog 92 #[u9000_,.int .i32 a1] w fun e w' => ∃ v0_:Value,e=.returned (v0_)∧Kd.R (Kd.int .u8) 5 w' w0.heap.size (fun k_ => (P0_ k_ ∨ w.heap.size≤k_)) v0_ r∧Below w0.heap.size w0 w'∧Kept w w' (fun k_ => P0_ k_):=by
 have HO0:=am_ (show Kd.R (Kd.int .u8) 5 w w0.heap.size (fun k_ => (P0_ k_ ∨ w.heap.size≤k_)) u9000_ l0 from Kd.R_mono ho0 (fun k_ hk => (.inl hk)))
 have HK:=am_ (Kept.refl w (fun k_ => P0_ k_))
 have HW0:=am_ hB.size
 have HB:=am_ hB
 clear hB
 have H:(if ((a1) % 4294967296)≤127 then (if l0.length < 140737488355328 then (some (l0++[(a1) % 256])) else (none)) else ((utf8_appendRuneNonASCII.f k l0 a1).bind fun t214 => (some t214)))=some r:=h
 clear h
 by_cases c3:((a1) % 4294967296)≤127
 ·rw [if_pos c3] at H
  have c3b0:decide (((a1) % 4294967296)≤127)=true:=decide_eq_true c3
  clear c3
  by_cases c4:l0.length < 140737488355328
  ·rw [if_pos c4] at H
   have LMc4:=am_ c4
   clear c4
   obtain ⟨y211,hy211⟩:∃ y_:List Int,y_=(l0++[(a1) % 256]):=⟨_,rfl⟩
   replace H:(some y211)=some r:=by first|(rw [hy211];with_reducible exact H)|(have H2_:=(Option.bind_some _ _).symm.trans H;rw [hy211];with_reducible exact H2_)|(have H2_:=(Option.bind_some _ _).symm.trans H;with_reducible exact H2_)|with_reducible exact H|(rw [hy211];exact H)|exact H
   have Ny211:=am_ hy211
   clear hy211
   obtain rfl:=Option.some.inj H
   go_enter Tryz.func92,Tryz.ntmps92
   go_wp2_with (first|((with_reducible refine gate_builtin (b:=.append) (xs:=#[.tmp 8,.tmp 11]) rfl ?_);at_builtin;refine Kd.R_append (Kd.int .u8) (w0:=w0) w0.heap.size rfl (.tmp 8) (.tmp 11) 22 5 (.int .u8 0) 1 rfl Tryz.underlying22 info5 rfl (by decide) (by omega) u9000_ l0 ((a1) % 256) [.int .u8 ((a1) % 256)] (fun k_ => (P0_ k_ ∨ w.heap.size≤k_)) (fun _ => False) rfl rfl ?aP (fun _ hk => hk.elim) ?aF ?aO ?aB ?aS ?aL ?_;(case aP => exact rfl);(case aB => exact bl_);(case aF => exact (fun k_ hk => (.inr (Nat.le_trans (by first|exact HK.out.1|exact (show Kept w _ (fun k_ => P0_ k_) from by repeat (first|(with_reducible first|exact HK.out|apply Kept.alloc|apply Kept.drewN|apply Kept.drew)|exact HK.out)).1) hk))));(case aO => exact (kr_ HO0.out));(case aS => exact (below_size bl_));(case aL => have:=LMc4.out;omega);intro v212 w5 ho hb hg hat;rw [← Ny211.out] at ho;have n0_:=am_ (hb);have n1_:=am_ (Kept.of_grown (S:=(fun k_ => P0_ k_)) hg (by repeat (first|(with_reducible first|exact HK.out|apply Kept.alloc|apply Kept.drewN|apply Kept.drew)|exact HK.out)) (fun k_ e_ => (HO0.out.1 k_ e_)));have n2_:=am_ (ho);clear HB;clear HK;clear HO0;have HB:=n0_;have HK:=n1_;have HO213:=n2_;clear n0_ n1_ n2_;clear ho hb hg hat))
   go_ret
   exact ⟨_,ew_,kr_ HO213.out,bl_,by repeat (first|(with_reducible first|exact HK.out|apply Kept.alloc|apply Kept.drewN|apply Kept.drew)|exact HK.out)⟩
  rw [if_neg c4] at H
  exact absurd H (by simp)
 rw [if_neg c3] at H
 have c3b0:decide (((a1) % 4294967296)≤127)=false:=decide_eq_false c3
 clear c3
 replace H:=Option.bind_eq_some_iff.mp H
 obtain ⟨t214,A60,H⟩:=H
 try dsimp only at H
 have A6:=am_ A60
 clear A60
 obtain rfl:=Option.some.inj H
 obtain ⟨Ao7,co7,eo7⟩:=Kd.R_slice HO0.out
 subst eo7
 go_enter Tryz.func92,Tryz.ntmps92
 go_wp2_with (first|(refine callA_ (f:=95) (some 15) Tryz.func95 #[.slice Ao7 l0.length co7,.int .i32 a1] ?_;(with_reducible refine (utf8_appendRuneNonASCII.calls k (fun k_ => some k_=(.slice Ao7 l0.length co7:Value).ownBlock) (.slice Ao7 l0.length co7) l0 a1 t214 w0 _ ?side1 ?side2 A6.out).mono ?_);(case side1 => repeat (first|(with_reducible first|exact HB.out|apply below_alloc|apply pw_below_drewN|apply below_drew1)|exact HB.out));(case side2 => exact Kd.R_tight rfl HO0.out);rintro e w8 ⟨v215,rfl,ho0,hb,hkp⟩;refine ⟨_,rfl,?_⟩;have n0_:=am_ (Kd.R_mono (ok':=fun k_ => (P0_ k_ ∨ w.heap.size≤k_)) ho0 (fun k_ hk_ => Or.elim hk_ (fun hs_ => (HO0.out.1 k_ (hs_).symm)) (fun hn_ => (.inr (Nat.le_trans (by first|exact HK.out.1|exact (show Kept w _ (fun k_ => P0_ k_) from by repeat (first|(with_reducible first|exact HK.out|apply Kept.alloc|apply Kept.drewN|apply Kept.drew)|exact HK.out)).1) hn_)))));have n1_:=am_ (Kept.then_ (S:=(fun k_ => P0_ k_)) (by repeat (first|(with_reducible first|exact HK.out|apply Kept.alloc|apply Kept.drewN|apply Kept.drew)|exact HK.out)) hkp (fun k_ hs_ => (fun e_ => (HO0.out.1 k_ e_.symm)) hs_));have n2_:=am_ (hb);clear HK;clear HB;clear HO0;have HO216:=n0_;have HK:=n1_;have HB:=n2_;clear n0_ n1_ n2_;(try clear hb);(try clear hkp);(try clear ho0)))
 go_ret
 exact ⟨_,ew_,kr_ HO216.out,bl_,by repeat (first|(with_reducible first|exact HK.out|apply Kept.alloc|apply Kept.drewN|apply Kept.drew)|exact HK.out)⟩
end Go.Proofs.YtamdobdmjcgmoaaGreatDoor.Px
namespace Go.Proofs.YtamdobdmjcgmoaaGreatDoor.Px
open Go.RowKit Go.Proofs.YtamdobdmjcgmoaaGreatDoorW.PrintWords Go.Proofs.YtamdobdmjcgmoaaGreatDoorW.PrintLast Go.Proofs.YtamdobdmjcgmoaaGreatDoorW.PrintMore
attribute [local go_sem] max2_int min2_int max_two min_two max_three min_three max_four min_four
set_option linter.unusedVariables false
set_option linter.unusedSimpArgs false
def wire_gather_int64.l0:Nat→Int→List Int→Int→Int→Option (Int)
 | 0,_,_,_,_ => none
 | k + 1,x1,x7,x8,x9 => if x9 < x8 then (if 0≤x9 then (if x9 < (x7.length:Int) then (wire_gather_int64.l0 k (Go.bits .or .i64 (wrap64 (x1 * 256)) (wrap64 (rd x7 x9))) x7 x8 (wrap64 (x9 + 1))) else (none)) else (none)) else (some x1)
def wire_gather_int64.f (k:Nat) (l0:List Int) (a1:Int):Option (Int):=wire_gather_int64.l0 k a1 l0 (l0.length:Int) 0
set_option maxHeartbeats 80000000 in
set_option maxRecDepth 100000 in
theorem wire_gather_int64.calls (k:Nat) (A0:Option Addr) (c0:Nat) (l0:List Int) (a1:Int) (r:Int) (w:World) (hr0:Kd.C (Kd.int .u8) w A0 l0.length l0) (hc0:l0.length≤c0) (h:wire_gather_int64.f k l0 a1=some r) :
  Calls Tryz.prog 83 #[.slice A0 l0.length c0,.int .i64 a1] w fun e w' => e=.returned (.int .i64 r)∧Drawn0 w w':=by
 have HR0:=am_ hr0
 have HC0:=am_ hc0
 clear hr0 hc0
 have H:(wire_gather_int64.l0 k a1 l0 (l0.length:Int) 0)=some r:=h
 clear h
 have H':=am_ H
 clear H
 go_enter Tryz.func83,Tryz.ntmps83
 go_wp2
 go_loopg [1,9] k (fun kq v1 v9 w' => ∃ (x1_1:Int) (x9_1:Int),v1=.int .i64 x1_1∧v9=.int .i64 x9_1∧Aside0 (wire_gather_int64.l0 kq x1_1 l0 (l0.length:Int) x9_1=some r)∧Aside0 (kq≤k)∧Drawn0 w w')
 case atStart => exact ⟨(a1),(0),r3_,r3_,H',⟨Nat.le_refl _⟩,by repeat (first|exact Drawn0.refl _|apply Drawn0.step)⟩
 clear H'
 obtain ⟨x1_1,x9_1,rfl,rfl,HA,HK1,⟨m1,rfl⟩⟩:=hrel
 cases gk with
 | zero => exact absurd HA.out (by simp [wire_gather_int64.l0])
 | succ k1 =>
  have H:=HA.out
  clear HA
  simp only [wire_gather_int64.l0] at H
  by_cases c3:x9_1 < (l0.length:Int)
  ·rw [if_pos c3] at H
   have c3b0:decide (x9_1 < (l0.length:Int))=true:=decide_eq_true c3
   clear c3
   by_cases c4:0≤x9_1
   ·rw [if_pos c4] at H
    have c4b0:decide (0≤x9_1)=true:=decide_eq_true c4
    clear c4
    by_cases c5:x9_1 < (l0.length:Int)
    ·rw [if_pos c5] at H
     have c5b0:decide (x9_1 < (l0.length:Int))=true:=decide_eq_true c5
     clear c5
     have H':=am_ H
     clear H
     have p217:0≤(x9_1:Int):=od_
     have q217:x9_1 < (l0.length:Int):=od_
     obtain ⟨ad217,e217,hx217_0⟩:=Kd.at_int HR0.out x9_1 p217 q217
     cases e217
     replace p217:=eq_true p217
     replace q217:=eq_true q217
     go_wp2
     go_roundg k1
     case measure => have:=HK1.out;omega
     case rel => exact ⟨(Go.bits .or .i64 (wrap64 (x1_1 * 256)) (wrap64 (rd l0 x9_1))),(wrap64 (x9_1 + 1)),r3_,r3_,H',⟨by have:=HK1.out;omega⟩,by repeat (first|exact Drawn0.refl _|apply Drawn0.step)⟩
    rw [if_neg c5] at H
    exact absurd H (by simp)
   rw [if_neg c4] at H
   exact absurd H (by simp)
  rw [if_neg c3] at H
  have c3b0:decide (x9_1 < (l0.length:Int))=false:=decide_eq_false c3
  clear c3
  obtain rfl:=Option.some.inj H
  go_wp2
  go_ret
  exact ⟨by first|rfl|(simp;done)|(simp [*];done),by repeat (first|exact Drawn0.refl _|apply Drawn0.step)⟩
end Go.Proofs.YtamdobdmjcgmoaaGreatDoor.Px
namespace Go.Proofs.YtamdobdmjcgmoaaGreatDoor.Px
open Go.RowKit Go.Proofs.YtamdobdmjcgmoaaGreatDoorW.PrintWords Go.Proofs.YtamdobdmjcgmoaaGreatDoorW.PrintLast Go.Proofs.YtamdobdmjcgmoaaGreatDoorW.PrintMore
set_option linter.unusedVariables false
set_option linter.unusedSimpArgs false
structure IsRd (B:Nat) (w:World) (g:Nat) (bs:List Int) (p:Nat):Prop where
 ge:B≤g
 blk:∃ v,w.heap[g]?=some (.cells #[v,.int .i64 (p:Int),.bool true] 67 (0,0))∧Kd.R (Kd.int .u8) 5 w B (fun _ => True) v bs
 hi:p≤bs.length
structure RdStep (B:Nat) (w w':World) (g:Nat):Prop where
 below:Below B w w'
 keep:KeepBut w w' g none
def rdL (bs:List Int) (p n:Nat):List Int:=if p + n≤bs.length then (bs.take (p + n)).drop p else []
def rdE (bs:List Int) (p n:Nat):Int:=if p + n≤bs.length then 0 else 3
def rdP (bs:List Int) (p n:Nat):Nat:=if p + n≤bs.length then p + n else p
theorem rdP_le {bs:List Int} {p n:Nat} (h:p≤bs.length):rdP bs p n≤bs.length:=by unfold rdP;split <;> omega
theorem IsRd.lt {B:Nat} {w:World} {g:Nat} {bs:List Int} {p:Nat} (h:IsRd B w g bs p):g < w.heap.size:=by obtain ⟨v,hb,_⟩:=h.blk;exact blk_lt hb
theorem IsRd.base_le {B:Nat} {w:World} {g:Nat} {bs:List Int} {p:Nat} (h:IsRd B w g bs p):B≤w.heap.size:=Nat.le_trans h.ge (Nat.le_of_lt h.lt)
theorem IsRd.below {B:Nat} {w w1:World} {g:Nat} {bs:List Int} {p:Nat} (h:IsRd B w g bs p) (hb:Below w.heap.size w w1):IsRd B w1 g bs p:=by
 obtain ⟨v,hk,hr⟩:=h.blk
 exact ⟨h.ge,⟨v,(hb.block g h.lt).trans hk,Kd.R_below hr hb⟩,h.hi⟩
theorem IsRd.drewN {B:Nat} {w:World} {g:Nat} {bs:List Int} {p:Nat} (h:IsRd B w g bs p) (n:Nat):IsRd B (w.drewN n) g bs p:=h.below (pw_below_drewN (Below.refl _ _) n)
theorem IsRd.far {B:Nat} {w:World} {g k t:Nat} {bs:List Int} {p:Nat} {cs:Array Value} (h:IsRd B w g bs p) (hb:w.heap[k]?=some (.cells cs t (0,0))) (ht:t ≠ 67) (ht2:5 ≠ t) (j:Nat) (u:Value):IsRd B (w.setCell ⟨k,j,none⟩ u) g bs p:=by
 obtain ⟨v,hk,hr⟩:=h.blk
 exact ⟨h.ge,⟨v,blk_far hk (blk_ne hk hb (fun e => ht e.symm)) u,Kd.R_set hr hb (by intro q hq;rcases List.mem_cons.1 hq with rfl|hq;exact ht2;cases hq) j u⟩,h.hi⟩
theorem RdStep.refl (B:Nat) (w:World) (g:Nat):RdStep B w w g:=⟨Below.refl _ _,KeepBut.refl _ _ _⟩
theorem RdStep.drewN (B:Nat) (w:World) (g n:Nat):RdStep B w (w.drewN n) g:=⟨pw_below_drewN (Below.refl _ _) n,⟨Nat.le_refl _,fun _ _ _ _ => rfl⟩⟩
theorem RdStep.trans {B:Nat} {w w1 w2:World} {g:Nat} (h:RdStep B w w1 g) (k:RdStep B w1 w2 g):RdStep B w w2 g:=⟨h.below.trans k.below,h.keep.trans k.keep (.inl rfl)⟩
theorem RdStep.blk {B:Nat} {w w1:World} {g k:Nat} {o:Obj} (h:RdStep B w w1 g) (hk:k ≠ g) (hb:w.heap[k]?=some o):w1.heap[k]?=some o:=(h.keep.2 k (blk_lt hb) hk (by simp)).trans hb
theorem RdStep.R {α:Type} {d:Kd α} {e:Nat} {B base:Nat} {w w1:World} {g:Nat} {u:Value} {ok:Nat→Prop} {xs:List α} (h:RdStep B w w1 g) (hr:d.R e w base ok u xs) (hg:g < base):d.R e w1 base ok u xs :=
 Kd.R_mono (Kd.R_step (Kd.R_bound hr) (fun k hk hl => h.keep.2 k hl (by have:=hk.2.1;omega) (by simp))) (fun k hk => hk.1)
def RdPost (B:Nat) (w:World) (g:Nat) (bs:List Int) (p:Nat) (w':World):Prop:=IsRd B w' g bs p∧RdStep B w w' g
def NextPost (B:Nat) (w:World) (g:Nat) (bs:List Int) (p n:Nat) (e:Ending) (w':World):Prop :=
 ∃ A c,e=.returned (.tuple #[.slice A (rdL bs p n).length c,.int .i64 (rdE bs p n)])∧(rdL bs p n).length≤c∧(Kd.int .u8).C w' A (rdL bs p n).length (rdL bs p n)∧RdPost B w g bs (rdP bs p n) w'
theorem rd_none (g:Nat) (w:World) (h:w.cell? ⟨g,2,none⟩=some (.bool true)):Calls Tryz.prog 46 #[.pointer (some ⟨g,0,none⟩)] w fun e w' => e=.returned (.bool false)∧w=w':=by
 go_enter Tryz.func46,Tryz.ntmps46
 go_wp2
 go_ret
 exact ⟨rfl,rfl⟩
theorem rd_moved {B:Nat} {w w1:World} {g:Nat} {bs:List Int} {p n m:Nat} (hw:w1=(w.drewN m).setCell ⟨g,1,none⟩ (.int .i64 ((p:Int) + (n:Int)))) (h:IsRd B w g bs p) (hi:p + n≤bs.length):IsRd B w1 g bs (p + n):=by
 obtain ⟨v,hb,hr⟩:=h.blk
 rw [hw]
 exact ⟨h.ge,⟨v,blk_set (w:=w.drewN m) hb 1 _,Kd.R_set (w:=w.drewN m) (Kd.R_drewN hr m) hb (by decide) 1 _⟩,hi⟩
theorem rd_movedS {B:Nat} {w w1:World} {g:Nat} {bs:List Int} {p m:Nat} {u:Value} (hw:w1=(w.drewN m).setCell ⟨g,1,none⟩ u) (h:IsRd B w g bs p):RdStep B w w1 g:=by
 rw [hw]
 exact ⟨(pw_below_drewN (Below.refl B w) m).setCell (p:=⟨g,1,none⟩) h.ge u,(show KeepBut w (w.drewN m) g none from ⟨Nat.le_refl _,fun _ _ _ _ => rfl⟩).set_ 1 u⟩
theorem rd_movedC {w w1:World} {g m B n c:Nat} {A:Option Addr} {u:Value} {cs:Array Value} {bs:List Int} (hw:w1=(w.drewN m).setCell ⟨g,1,none⟩ u) (hb:w.heap[g]?=some (.cells cs 67 (0,0))) (hr:Kd.R (Kd.int .u8) 5 w B (fun _ => True) (.slice A n c) bs):(Kd.int .u8).C w1 A bs.length bs:=by
 rw [hw]
 exact row_C (Kd.R_set (w:=w.drewN m) (Kd.R_drewN hr m) hb (by decide) 1 u)
theorem C_nil (w:World):(Kd.int .u8).C w none ([]:List Int).length []:=Kd.C_of_reads (d:=(0:Int)) ⟨rfl,by simp,fun h => absurd h (by simp)⟩
set_option maxHeartbeats 4000000 in
set_option maxRecDepth 100000 in
theorem rd_next.calls (B g:Nat) (bs:List Int) (p n:Nat) (lo hi:Int) (w:World) (hI:IsRd B w g bs p) (h1:lo≤n) (h2:n≤hi) (hl:bs.length≤140737488355328) (hn:n≤4611686018427387904) :
  Calls Tryz.prog 47 #[.pointer (some ⟨g,0,none⟩),.int .i64 n,.int .i64 lo,.int .i64 hi] w fun e w' => NextPost B w g bs p n e w':=by
 obtain ⟨v,hb,hr⟩:=hI.blk
 obtain ⟨A0,c0,rfl,hc0,hC⟩:=Kd.R_reads hr
 have c0':w.cell? ⟨g,0,none⟩=some (.slice A0 bs.length c0):=(blk_cell hb 0).trans rfl
 have c1':w.cell? ⟨g,1,none⟩=some (.int .i64 (p:Int)):=(blk_cell hb 1).trans rfl
 have c2':w.cell? ⟨g,2,none⟩=some (.bool true):=(blk_cell hb 2).trans rfl
 have f1':w.frozen? ⟨g,1,none⟩=false:=blk_frozen hb 1
 have t1:decide ((n:Int) < lo)=false:=decide_eq_false (by omega)
 have t2:decide (hi < (n:Int))=false:=decide_eq_false (by omega)
 have hp:=hI.hi
 have HI:=am_ hI
 have HBK:=am_ hb
 have HR:=am_ hr
 have HC:=am_ hC
 have HC0:=am_ hc0
 clear hI hb hr hC hc0
 by_cases hs:p + n≤bs.length
 ·have t3:decide ((bs.length:Int) - (p:Int) < (n:Int))=false:=decide_eq_false (by omega)
  have hw1:wrap64 ((p:Int) + (n:Int))=(p:Int) + (n:Int):=by unfold wrap64;omega
  have hw2:wrap64 ((p:Int) + (n:Int) - (n:Int))=(p:Int):=by unfold wrap64;omega
  have hw3:wrap64 ((bs.length:Int) - (p:Int))=(bs.length:Int) - (p:Int):=by unfold wrap64;omega
  obtain ⟨i0,hi0,_,hsz,_⟩:=info_parts info5
  obtain ⟨A',hsl,hrd,hcc⟩:=print_mid_of (P:=Tryz.prog) (Value.int .u8) (0:Int) 22 5 .i64 .i64 Tryz.underlying22 hi0 hsz A0 c0 bs (p:Int) ((p:Int) + (n:Int)) (by omega) (by omega) (by omega) HC0.out
  have HS:=am_ hs
  clear hs
  go_enter Tryz.func47,Tryz.ntmps47
  go_wp2_with (go_at_call 46;refine (rd_none g _ c2').mono ?_;rintro e w' ⟨rfl,rfl⟩)
  go_quiet (fail)
  go_wp2
  obtain ⟨w1,hw1⟩:∃ w1,w1=(w.drewN nq).setCell ⟨g,1,none⟩ (.int .i64 ((p:Int) + (n:Int))):=⟨_,rfl⟩
  rw [← hw1]
  have HI1:=am_ (rd_moved hw1 HI.out HS.out)
  have HST:=am_ (rd_movedS hw1 HI.out)
  have HC1:=am_ (show (Kd.int .u8).C w1 A0 bs.length bs from rd_movedC hw1 HBK.out HR.out)
  have k0:w1.cell? ⟨g,0,none⟩=some (.slice A0 bs.length c0):=by rw [hw1];exact (blk_cell (blk_set (w:=w.drewN nq) HBK.out 1 _) 0).trans rfl
  have k1:w1.cell? ⟨g,1,none⟩=some (.int .i64 ((p:Int) + (n:Int))):=by rw [hw1];exact (blk_cell (blk_set (w:=w.drewN nq) HBK.out 1 _) 1).trans rfl
  have HRD:=am_ hrd
  have HCC:=am_ hcc
  have hlen:((bs.take ((p:Int) + (n:Int)).toNat).drop (p:Int).toNat)=rdL bs p n:=by unfold rdL;rw [if_pos HS.out,show ((p:Int) + (n:Int)).toNat=p + n by omega,Int.toNat_natCast]
  rw [hlen] at hsl
  have HLN:=am_ hlen
  clear hw1 c0' c1' c2' f1' hrd hcc hlen
  go_quiet (fail)
  go_wp2
  go_ret2
  have e2:rdE bs p n=0:=if_pos HS.out
  have e3:rdP bs p n=p + n:=if_pos HS.out
  have h1:=HCC.out
  have h2:=HRD.out w1 (Kd.reads_of_C (d:=(0:Int)) HC1.out)
  rw [HLN.out] at h1 h2
  unfold NextPost RdPost
  rw [e2,e3]
  exact ⟨A',_,rfl,h1,Kd.C_below (Kd.C_of_reads h2) (pw_below_drewN (Below.refl _ _) _),HI1.out.drewN _,HST.out.trans (RdStep.drewN _ _ _ _)⟩
 have t3:decide ((bs.length:Int) - (p:Int) < (n:Int))=true:=decide_eq_true (by omega)
 have hw3:wrap64 ((bs.length:Int) - (p:Int))=(bs.length:Int) - (p:Int):=by unfold wrap64;omega
 have e1:rdL bs p n=[]:=if_neg hs
 have e2:rdE bs p n=3:=if_neg hs
 have e3:rdP bs p n=p:=if_neg hs
 have HE:=am_ e1
 have HE2:=am_ e2
 have HE3:=am_ e3
 clear hs e1 e2 e3
 go_enter Tryz.func47,Tryz.ntmps47
 go_wp2_with (go_at_call 46;refine (rd_none g _ c2').mono ?_;rintro e w' ⟨rfl,rfl⟩)
 go_quiet (fail)
 go_wp2
 go_ret2
 unfold NextPost RdPost
 rw [HE.out,HE2.out,HE3.out]
 exact ⟨none,0,rfl,Nat.le_refl _,C_nil _,HI.out.drewN _,RdStep.drewN _ _ _ _⟩
theorem RdPost.drewN {B:Nat} {w:World} {g:Nat} {bs:List Int} {p:Nat} {w1:World} (h:RdPost B w g bs p w1) (n:Nat):RdPost B w g bs p (w1.drewN n):=⟨h.1.drewN n,h.2.trans (RdStep.drewN _ _ _ _)⟩
def rd_Uint.f (k:Nat) (bs:List Int) (p n:Nat):Option (Int × Int × Nat):=(wire_gather_uint64.f k (rdL bs p n) 0).bind fun x => some (x,rdE bs p n,rdP bs p n)
set_option maxHeartbeats 4000000 in
set_option maxRecDepth 100000 in
theorem rd_Uint.calls (k B g:Nat) (bs:List Int) (p n:Nat) (r1 r2:Int) (r3:Nat) (w:World) (hI:IsRd B w g bs p) (h1:1≤n) (h8:n≤8) (hl:bs.length≤140737488355328) (h:rd_Uint.f k bs p n=some (r1,r2,r3)) :
  Calls Tryz.prog 44 #[.pointer (some ⟨g,0,none⟩),.int .i64 n] w fun e w' => e=.returned (.tuple #[.int .u64 r1,.int .i64 r2])∧RdPost B w g bs r3 w':=by
 obtain ⟨x,hx,h⟩:=Option.bind_eq_some_iff.mp h
 simp only [Option.some.injEq,Prod.mk.injEq] at h
 obtain ⟨rfl,rfl,rfl⟩:=h
 have HN:=am_ (rd_next.calls B g bs p n 1 8 w hI (by omega) (by omega) hl (by omega))
 have HX:=am_ hx
 clear hI h1 h8 hl hx
 go_enter Tryz.func44,Tryz.ntmps44
 go_wp2_with fail
 with_reducible refine HN.out.mono ?_
 rintro e w1 ⟨A,c,rfl,hc,hC,hP⟩
 have HC:=am_ hC
 have HCc:=am_ hc
 have HP:=am_ hP
 clear hC hc hP HN
 go_wp2_with fail
 refine (wire_gather_uint64.calls k A c (rdL bs p n) 0 x w1 HC.out HCc.out HX.out).mono ?_
 rintro e w2 ⟨rfl,⟨⟨nd,rfl⟩⟩⟩
 go_wp2
 go_ret2
 exact ⟨rfl,HP.out.drewN _⟩
set_option maxHeartbeats 4000000 in
set_option maxRecDepth 100000 in
theorem rd_Bytes.calls (B g:Nat) (bs:List Int) (p n:Nat) (w:World) (hI:IsRd B w g bs p) (hl:bs.length≤140737488355328) (hn:n≤4611686018427387904) :
  Calls Tryz.prog 24 #[.pointer (some ⟨g,0,none⟩),.int .i64 n] w fun e w' => ∃ v0_:Value,e=.returned (.tuple #[v0_,.int .i64 (rdE bs p n)])∧Kd.R (Kd.int .u8) 5 w' w.heap.size (fun _ => True) v0_ (rdL bs p n)∧RdPost B w g bs (rdP bs p n) w':=by
 have hll:(rdL bs p n).length≤140737488355328:=by
  unfold rdL
  split
  ·rw [List.length_drop,List.length_take];omega
  simp
 have HLL:=am_ hll
 have HN:=am_ (rd_next.calls B g bs p n 0 4611686018427387904 w hI (by omega) (by omega) hl hn)
 have HBw:=am_ hI.base_le
 clear hI hl hn hll
 go_enter Tryz.func24,Tryz.ntmps24
 go_wp2_with fail
 with_reducible refine HN.out.mono ?_
 rintro e w1 ⟨A,c,rfl,hc,hC,hP⟩
 have HC:=am_ hC
 have HP:=am_ hP
 clear hC hc hP HN
 go_wp2_with (at_builtin;refine Kd.R_append_row (Value.int .u8) (0:Int) (w0:=w1) w1.heap.size rfl _ _ 22 5 (.int .u8 0) 1 rfl Tryz.underlying22 info5 rfl (by decide) (.slice none 0 0) [] (rdL bs p n) A _ c (fun _ => True) rfl rfl (fun _ _ => trivial) (Kd.R_nil _ _ _ _ _) HC.out (Below.refl _ _) (Nat.le_refl _) ?c6 ?_)
 case c6 => have:=HLL.out;simp only [List.length_nil];omega
 intro v1 w3 hR3 hB3 hg3 ho3
 have HR3:=am_ hR3
 have HB3:=am_ hB3
 clear hR3 hB3 hg3 ho3
 go_wp2
 go_ret2
 exact ⟨_,rfl,Kd.R_lower HR3.out HP.out.2.keep.1,HP.out.1.below HB3.out,HP.out.2.trans ⟨HB3.out.mono (Nat.le_trans HBw.out HP.out.2.keep.1),KeepBut.of_below HB3.out _ _⟩⟩
set_option maxHeartbeats 4000000 in
set_option maxRecDepth 100000 in
theorem rd_At.calls (B g:Nat) (bs:List Int) (p:Nat) (w:World) (hI:IsRd B w g bs p) :
  Calls Tryz.prog 22 #[.pointer (some ⟨g,0,none⟩)] w fun e w' => e=.returned (.int .i64 (p:Int))∧w=w':=by
 obtain ⟨v,hb,hr⟩:=hI.blk
 have c1':w.cell? ⟨g,1,none⟩=some (.int .i64 (p:Int)):=(blk_cell hb 1).trans rfl
 have c2':w.cell? ⟨g,2,none⟩=some (.bool true):=(blk_cell hb 2).trans rfl
 clear hI hb hr
 go_enter Tryz.func22,Tryz.ntmps22
 go_wp2_with (go_at_call 46;refine (rd_none g _ c2').mono ?_;rintro e w' ⟨rfl,rfl⟩)
 go_ret
 exact ⟨rfl,rfl⟩
set_option maxHeartbeats 4000000 in
set_option maxRecDepth 100000 in
theorem rd_New.calls (A:Option Addr) (c:Nat) (bs:List Int) (w:World) (hC:(Kd.int .u8).C w A bs.length bs) (hl:bs.length≤140737488355328) :
  Calls Tryz.prog 9 #[.slice A bs.length c] w fun e w' => ∃ g,e=.returned (.pointer (some ⟨g,0,none⟩))∧w.heap.size≤g∧IsRd w.heap.size w' g bs 0∧Below w.heap.size w w':=by
 have HC:=am_ hC
 have HL:=am_ hl
 clear hC hl
 go_enter Tryz.func9,Tryz.ntmps9
 go_wp2_with (at_builtin;refine Kd.R_append_row (Value.int .u8) (0:Int) (w0:=w) w.heap.size rfl _ _ 22 5 (.int .u8 0) 1 rfl Tryz.underlying22 info5 rfl (by decide) (.slice none 0 0) [] bs A bs.length c (fun _ => True) rfl rfl (fun _ _ => trivial) (Kd.R_nil _ _ _ _ _) HC.out (Below.refl _ _) (Nat.le_refl _) ?c6 ?_)
 case c6 => have:=HL.out;simp only [List.length_nil];omega
 intro v1 w3 hR3 hB3 hg3 ho3
 obtain ⟨A1,c1,hv⟩:=Kd.R_slice hR3
 subst hv
 have HR3:=am_ hR3
 have HB3:=am_ hB3
 clear hR3 hB3 hg3 ho3
 go_wp2
 go_ret
 exact ⟨_,rfl,HB3.out.size,⟨HB3.out.size,⟨_,blk_new _ _,Kd.R_below HR3.out (below_alloc (Below.refl _ _) _)⟩,Nat.zero_le _⟩,below_alloc HB3.out _⟩
def sx8 (b:Int):Int:=wrap64 (IntKind.i8.wrap b)
theorem sx8_eq {b:Int} (h0:0≤b) (h1:b < 256):sx8 b=if b < 128 then b else b - 256:=by
 have e:IntKind.i8.wrap b=if b < 128 then b else b - 256:=by
  have hm:b % 256=b:=by omega
  by_cases h:b < 128
  ·simp [IntKind.wrap,IntKind.bits,IntKind.signed,hm,h] <;> omega
  simp [IntKind.wrap,IntKind.bits,IntKind.signed,hm,h] <;> omega
 unfold sx8
 rw [e]
 unfold wrap64
 split <;> omega
theorem gath_i64 (k:Nat) (A:Option Addr) (c:Nat) (l:List Int) (a r:Int) (w:World) (hC:(Kd.int .u8).C w A (l.drop 1).length (l.drop 1)) (hc:(l.drop 1).length≤c) (h:wire_gather_int64.f k (l.drop 1) a=some r) :
  Calls Tryz.prog 83 #[.slice A (l.length - 1) c,.int .i64 a] w fun e w' => e=.returned (.int .i64 r)∧Drawn0 w w':=by
 have h:=wire_gather_int64.calls k A c (l.drop 1) a r w hC hc h
 rw [List.length_drop] at h
 exact h
def rd_Int.f (k:Nat) (bs:List Int) (p n:Nat):Option (Int × Int × Nat) :=
 if p + n≤bs.length then (if 0≤rd (rdL bs p n) 0∧rd (rdL bs p n) 0 < 256 then (wire_gather_int64.f k ((rdL bs p n).drop 1) (sx8 (rd (rdL bs p n) 0))).bind fun x => some (x,0,p + n) else none) else some (0,3,p)
theorem rdL_len {bs:List Int} {p n:Nat} (h:p + n≤bs.length):(rdL bs p n).length=n:=by unfold rdL;rw [if_pos h,List.length_drop,List.length_take];omega
set_option maxHeartbeats 4000000 in
set_option maxRecDepth 100000 in
theorem rd_Int.calls (k B g:Nat) (bs:List Int) (p n:Nat) (r1 r2:Int) (r3:Nat) (w:World) (hI:IsRd B w g bs p) (h1:1≤n) (h8:n≤8) (hl:bs.length≤140737488355328) (h:rd_Int.f k bs p n=some (r1,r2,r3)) :
  Calls Tryz.prog 66 #[.pointer (some ⟨g,0,none⟩),.int .i64 n] w fun e w' => e=.returned (.tuple #[.int .i64 r1,.int .i64 r2])∧RdPost B w g bs r3 w':=by
 have HN:=am_ (rd_next.calls B g bs p n 1 8 w hI (by omega) (by omega) hl (by omega))
 unfold rd_Int.f at h
 by_cases hs:p + n≤bs.length
 rotate_left
 ·rw [if_neg hs] at h
  simp only [Option.some.injEq,Prod.mk.injEq] at h
  obtain ⟨rfl,rfl,rfl⟩:=h
  have HE:=am_ (show rdE bs p n=3 from if_neg hs)
  have HE3:=am_ (show rdP bs p n=p from if_neg hs)
  clear hI h1 h8 hl hs
  go_enter Tryz.func66,Tryz.ntmps66
  go_wp2_with fail
  with_reducible refine HN.out.mono ?_
  rintro e w1 ⟨A,c,rfl,hc,hC,hP⟩
  rw [HE3.out] at hP
  rw [HE.out]
  have HP:=am_ hP
  clear hC hc hP HN HE HE3
  go_wp2
  go_ret2
  exact ⟨rfl,HP.out⟩
 rw [if_pos hs] at h
 by_cases hb:0≤rd (rdL bs p n) 0∧rd (rdL bs p n) 0 < 256
 rotate_left
 ·rw [if_neg hb] at h
  cases h
 rw [if_pos hb] at h
 obtain ⟨x,hx,h⟩:=Option.bind_eq_some_iff.mp h
 simp only [Option.some.injEq,Prod.mk.injEq] at h
 obtain ⟨rfl,rfl,rfl⟩:=h
 have e2:rdE bs p n=0:=if_pos hs
 have e3:rdP bs p n=p + n:=if_pos hs
 have hlen:=rdL_len hs
 have HE3:=am_ e3
 have HE2:=am_ e2
 have HX:=am_ hx
 have HL1:=am_ (show 1≤(rdL bs p n).length by omega)
 have hb0:=hb.1
 have hb1:=hb.2
 clear hI h8 hl hs e2 e3 hlen hx hb h1
 go_enter Tryz.func66,Tryz.ntmps66
 go_wp2_with fail
 with_reducible refine HN.out.mono ?_
 rintro e w1 ⟨A,c,rfl,hc,hC,hP⟩
 rw [HE3.out] at hP
 rw [HE2.out]
 clear HN HE2 HE3
 obtain ⟨l,hll⟩:∃ l,l=rdL bs p n:=⟨_,rfl⟩
 rw [← hll] at hc hC hb0 hb1 HX HL1 ⊢
 clear hll
 obtain ⟨i0,hi0,_,hsz,_⟩:=info_parts info5
 obtain ⟨ad,eA,h0⟩:=(readsInt_of.mpr (Kd.reads_of_C (d:=(0:Int)) hC)).at_ 0 (by omega) (by have:=HL1.out;omega)
 subst eA
 simp only [show ((0:Int)).toNat=0 from rfl,Addr.add_zero'] at h0
 have hs1:=cut_from (P:=Tryz.prog) 22 5 .i64 Tryz.underlying22 hi0 1 hsz (some ad) l.length c 1 (by decide) (by have:=HL1.out;omega)
 obtain ⟨A1,hA1⟩:∃ A1,A1=(if c=(1:Int).toNat then some ad else (some ad).map (·.add ((1:Int).toNat * 1))):=⟨_,rfl⟩
 rw [← hA1] at hs1
 have HC1:=am_ (show (Kd.int .u8).C w1 A1 (l.drop 1).length (l.drop 1) from by rw [hA1];exact Kd.C_drop (m:=1) (c:=c) hC HL1.out hc)
 have HC1c:Aside0 ((l.drop 1).length≤c - 1):=⟨by rw [List.length_drop];omega⟩
 have hdl:l.length - (1:Int).toNat=(l.drop 1).length:=by rw [List.length_drop];rfl
 rw [hdl] at hs1
 have HP:=am_ hP
 have hlt:decide ((0:Int) < (l.length:Int))=true:=decide_eq_true (by have:=HL1.out;omega)
 have hltn:decide (0 < l.length)=true:=decide_eq_true HL1.out
 have hltt:(0 < l.length)=True:=eq_true HL1.out
 clear hA1 hP hC hc hdl
 go_wp2
 refine start_ (n:=10) (S:=fun w' => w'.cell? ad=some (.int .u8 (rd l 0))) (ds:=[]) #[false,false,false,false,false,false,false,false,false,false] (by kernel_rfl) rfl rfl (h0) (fun hHeld => ?_)
 refine pr_ 0 (some 17) ?_
 refine pr_ 1 (some 18) ?_
 refine pr_ 2 (some 19) ?_
 refine pr_ 3 (some 20) ?_
 refine tk_ 4 (some 21) hHeld ?_ (hy:=by intro w' s0;go_simp;with_reducible rfl)
 refine pr_ 5 (some 22) ?_
 refine pr_ 6 (some 23) ?_
 refine one_ (i:=7) (N:=some 24) #[true,true,true,true,true,true,true,true,false,false] rfl rfl (by kernel_rfl) (by decide) (fun K hK => ?_)
 refine goes_ Tryz.func83 (by kernel_rfl) rfl #[.slice A1 (l.length - 1) (c - 1),.int .i64 (sx8 (rd l 0))] (by rfl) rfl rfl (by simp only [List.map_toArray,List.map_cons,List.map_nil];rfl) ?_
 with_reducible refine (gath_i64 k A1 (c - 1) l (sx8 (rd l 0)) x _ (Kd.C_below HC1.out (below_drew (Below.refl _ _))) HC1c.out HX.out).mono ?_
 rintro e w3 ⟨rfl,⟨⟨nd,rfl⟩⟩⟩
 refine ⟨_,rfl,?_⟩
 refine hK.out _ _ ((by exact hHeld)) (fun hHeld => ?_)
 clear hK K
 refine norm_ (a':=?_) ?_ ?_
 rotate_left
 ·show Act.put _ (some 24) _=_
  simp only [Act.put,List.setIfInBounds_toArray,List.set_cons_zero,List.set_cons_succ,i64_w,i32_w]
  rfl
 refine pr_ 8 (some 4) ?_
 refine pr_ 9 (some 5) ?_
 refine done_ (by kernel_rfl) ?_
 go_wp2
 go_ret2
 exact ⟨rfl,(HP.out.drewN 1).drewN _⟩
end Go.Proofs.YtamdobdmjcgmoaaGreatDoor.Px
namespace Go.Proofs.YtamdobdmjcgmoaaGreatDoor.Px
open Go.RowKit Go.Proofs.YtamdobdmjcgmoaaGreatDoorW.PrintWords Go.Proofs.YtamdobdmjcgmoaaGreatDoorW.PrintLast Go.Proofs.YtamdobdmjcgmoaaGreatDoorW.PrintMore
set_option linter.unusedVariables false
set_option linter.unusedSimpArgs false
structure IsCr (B:Nat) (w:World) (br g:Nat) (vp:Value) (bs:List Int) (p:Nat):Prop where
 R:IsRd B w g bs p
 blk:w.heap[br]?=some (.cells #[.pointer (some ⟨g,0,none⟩),vp] 40 (0,0))
def Dies (B:Nat) (w:World) (er:Int) (e:Ending) (w':World):Prop:=e=.panicked [{ v:=.iface 28 (.int .i64 er),recovered:=false }]∧Below B w w'
def CrPost (B:Nat) (w:World) (br g:Nat) (vp:Value) (bs:List Int) (p:Nat) (w':World):Prop:=IsCr B w' br g vp bs p∧RdStep B w w' g
theorem IsCr.ne {B:Nat} {w:World} {br g:Nat} {vp:Value} {bs:List Int} {p:Nat} (h:IsCr B w br g vp bs p):br ≠ g:=by
 rintro rfl
 obtain ⟨v,hb,_⟩:=h.R.blk
 have:=hb.symm.trans h.blk
 injection this with e
 injection e with _ e
 exact absurd e (by decide)
theorem IsCr.step {B:Nat} {w w':World} {br g:Nat} {vp:Value} {bs:List Int} {p p':Nat} (h:IsCr B w br g vp bs p) (hR:RdPost B w g bs p' w'):CrPost B w br g vp bs p' w' :=
 ⟨⟨hR.1,hR.2.blk h.ne h.blk⟩,hR.2⟩
theorem IsCr.c0 {B:Nat} {w:World} {br g:Nat} {vp:Value} {bs:List Int} {p:Nat} (h:IsCr B w br g vp bs p):w.cell? ⟨br,0,none⟩=some (.pointer (some ⟨g,0,none⟩)):=(blk_cell h.blk 0).trans rfl
theorem IsCr.c1 {B:Nat} {w:World} {br g:Nat} {vp:Value} {bs:List Int} {p:Nat} (h:IsCr B w br g vp bs p):w.cell? ⟨br,1,none⟩=some vp:=(blk_cell h.blk 1).trans rfl
theorem cr_must_ok (a:Value) (w:World):Calls Tryz.prog 23 #[a,.int .i64 0] w fun e w' => e=.returned (.tuple #[])∧w'=w:=by
 go_enter Tryz.func23,Tryz.ntmps23
 go_wp2
 go_end0
 exact ⟨rfl,rfl⟩
theorem cr_must_dies (a:Value) (er:Int) (h:er ≠ 0) (w:World):Calls Tryz.prog 23 #[a,.int .i64 er] w fun e w' => e=.panicked [{ v:=.iface 28 (.int .i64 er),recovered:=false }]∧w'=w:=by
 have hb:(er != 0)=true:=bne_iff_ne.mpr h
 clear h
 go_enter Tryz.func23,Tryz.ntmps23
 go_wp2
 exact ⟨rfl,rfl,rfl⟩
set_option maxHeartbeats 8000000 in
set_option maxRecDepth 100000 in
theorem cr_num_ok (k B br g:Nat) (vp:Value) (bs:List Int) (p n:Nat) (x:Int) (p':Nat) (w:World) (hI:IsCr B w br g vp bs p) (h1:1≤n) (h8:n≤8) (hl:bs.length≤140737488355328) (h:rd_Uint.f k bs p n=some (x,0,p')) :
  Calls Tryz.prog 43 #[.pointer (some ⟨br,0,none⟩),.int .i64 n] w fun e w' => e=.returned (.int .i64 (wrap64 x))∧CrPost B w br g vp bs p' w':=by
 have c0:=hI.c0
 have HI:=am_ hI
 have HC:=am_ (rd_Uint.calls k B g bs p n x 0 p' w hI.R h1 h8 hl h)
 clear hI h1 h8 hl h
 go_enter Tryz.func43,Tryz.ntmps43
 go_wp2_with fail
 refine HC.out.mono ?_
 rintro e w2 ⟨rfl,hR⟩
 have HR:=am_ (HI.out.step hR)
 clear hR HI HC c0
 go_wp2_with fail
 refine (cr_must_ok _ _).mono ?_
 rintro e w3 ⟨rfl,rfl⟩
 go_wp2
 go_ret
 exact ⟨rfl,HR.out⟩
set_option maxHeartbeats 8000000 in
set_option maxRecDepth 100000 in
theorem cr_num_dies (k B br g:Nat) (vp:Value) (bs:List Int) (p n:Nat) (x er:Int) (p':Nat) (w:World) (hI:IsCr B w br g vp bs p) (h1:1≤n) (h8:n≤8) (hl:bs.length≤140737488355328) (he:er ≠ 0) (h:rd_Uint.f k bs p n=some (x,er,p')) :
  Calls Tryz.prog 43 #[.pointer (some ⟨br,0,none⟩),.int .i64 n] w fun e w' => Dies B w er e w':=by
 have c0:=hI.c0
 have HI:=am_ hI
 have HC:=am_ (rd_Uint.calls k B g bs p n x er p' w hI.R h1 h8 hl h)
 have HE:=am_ he
 clear hI h1 h8 hl h he
 go_enter Tryz.func43,Tryz.ntmps43
 go_wp2_with fail
 refine HC.out.mono ?_
 rintro e w2 ⟨rfl,hR⟩
 have HR:=am_ hR.2.below
 clear hR HI HC c0
 go_wp2_with fail
 refine (cr_must_dies _ er HE.out _).mono ?_
 rintro e w3 ⟨rfl,rfl⟩
 go_wp2
 exact ⟨rfl,rfl,HR.out⟩
theorem CrPost.below {B:Nat} {w w':World} {br g:Nat} {vp:Value} {bs:List Int} {p:Nat} (h:CrPost B w br g vp bs p w'):Below B w w':=h.2.below
inductive Rdo (α:Type) where
 | ok (x:α) (p:Nat)
 | er (e:Int)
def Rdo.bind {α β:Type} (o:Rdo α) (f:α→Nat→Option (Rdo β)):Option (Rdo β):=match o with
 | .ok x p => f x p
 | .er e => some (.er e)
def RdoPost {α:Type} (B:Nat) (w:World) (br g:Nat) (vp:Value) (bs:List Int) (val:α→Value) (o:Rdo α) (e:Ending) (w':World):Prop:=match o with
 | .ok x p => e=.returned (val x)∧CrPost B w br g vp bs p w'
 | .er n => Dies B w n e w'
def cr_num.f (k:Nat) (bs:List Int) (p n:Nat):Option (Rdo Int):=(rd_Uint.f k bs p n).bind fun r => some (if r.2.1=0 then .ok (wrap64 r.1) r.2.2 else .er r.2.1)
theorem cr_num.calls {k B br g:Nat} {vp:Value} {bs:List Int} {p n:Nat} {o:Rdo Int} {w:World} (hI:IsCr B w br g vp bs p) (h1:1≤n) (h8:n≤8) (hl:bs.length≤140737488355328) (h:cr_num.f k bs p n=some o) :
  Calls Tryz.prog 43 #[.pointer (some ⟨br,0,none⟩),.int .i64 n] w fun e w' => RdoPost B w br g vp bs (Value.int .i64) o e w':=by
 obtain ⟨⟨x,er,p'⟩,hx,h⟩:=Option.bind_eq_some_iff.mp h
 obtain rfl:=Option.some.inj h
 by_cases he:er=0
 ·subst he
  exact (cr_num_ok k B br g vp bs p n x p' w hI h1 h8 hl hx).mono fun e w' hh => hh
 dsimp only
 rw [if_neg he]
 exact cr_num_dies k B br g vp bs p n x er p' w hI h1 h8 hl he hx
set_option maxHeartbeats 8000000 in
set_option maxRecDepth 100000 in
theorem cr_two.calls {k B br g:Nat} {vp:Value} {bs:List Int} {p:Nat} {o:Rdo Int} {w:World} (hI:IsCr B w br g vp bs p) (hl:bs.length≤140737488355328) (h:cr_num.f k bs p 2=some o) :
  Calls Tryz.prog 25 #[.pointer (some ⟨br,0,none⟩)] w fun e w' => RdoPost B w br g vp bs (Value.int .i64) o e w':=by
 have HC:=am_ (cr_num.calls (n:=2) hI (by decide) (by decide) hl h)
 clear hI hl h
 go_enter Tryz.func25,Tryz.ntmps25
 go_wp2_with fail
 refine HC.out.mono ?_
 clear HC
 cases o with
 | ok x q =>
  rintro e w2 ⟨rfl,hR⟩
  have HR:=am_ hR
  clear hR
  go_wp2
  go_ret
  exact ⟨rfl,HR.out⟩
 | er n =>
  rintro e w2 ⟨rfl,hR⟩
  have HR:=am_ hR
  clear hR
  go_wp2
  exact ⟨rfl,rfl,HR.out⟩
def cr_same.f (k:Nat) (bs:List Int) (p n:Nat) (want:Int):Option (Rdo Unit):=(cr_num.f k bs p n).bind fun o => o.bind fun x q => some (if x=want then .ok () q else .er 50)
def cr_count.f (k:Nat) (bs:List Int) (p n:Nat) (most:Int):Option (Rdo Int):=(cr_num.f k bs p n).bind fun o => o.bind fun x q => some (if most < x then .er 2 else .ok x q)
set_option maxHeartbeats 8000000 in
set_option maxRecDepth 100000 in
theorem cr_same.calls {k B br g:Nat} {vp:Value} {bs:List Int} {p n:Nat} {want:Int} {o:Rdo Unit} {w:World} (hI:IsCr B w br g vp bs p) (h1:1≤n) (h8:n≤8) (hl:bs.length≤140737488355328) (h:cr_same.f k bs p n want=some o) :
  Calls Tryz.prog 20 #[.pointer (some ⟨br,0,none⟩),.int .i64 n,.int .i64 want] w fun e w' => RdoPost B w br g vp bs (fun _ => Value.tuple #[]) o e w':=by
 obtain ⟨o1,ho,h⟩:=Option.bind_eq_some_iff.mp h
 have HC:=am_ (cr_num.calls hI h1 h8 hl ho)
 have HH:=am_ h
 clear hI hl h ho h1 h8
 go_enter Tryz.func20,Tryz.ntmps20
 go_wp2_with fail
 refine HC.out.mono ?_
 clear HC
 cases o1 with
 | ok x q =>
  rintro e w2 ⟨rfl,hR⟩
  have HR:=am_ hR
  have h:=Option.some.inj HH.out
  clear hR HH
  by_cases hx:x=want
  ·rw [if_pos hx] at h
   have hxb:(x != want)=false:=bne_eq_false_iff_eq.mpr hx
   subst h
   clear hx
   go_wp2
   go_end0
   exact ⟨rfl,HR.out⟩
  rw [if_neg hx] at h
  have hxb:(x != want)=true:=bne_iff_ne.mpr hx
  subst h
  clear hx
  go_wp2_with fail
  refine (cr_must_dies _ 50 (by decide) _).mono ?_
  rintro e w3 ⟨rfl,rfl⟩
  go_wp2
  exact ⟨rfl,rfl,HR.out.below⟩
 | er n =>
  rintro e w2 ⟨rfl,hR⟩
  have h:=Option.some.inj HH.out
  subst h
  have HR:=am_ hR
  clear hR HH
  go_wp2
  exact ⟨rfl,rfl,HR.out⟩
set_option maxHeartbeats 8000000 in
set_option maxRecDepth 100000 in
theorem cr_count.calls {k B br g:Nat} {vp:Value} {bs:List Int} {p n:Nat} {most:Int} {o:Rdo Int} {w:World} (hI:IsCr B w br g vp bs p) (h1:1≤n) (h8:n≤8) (hl:bs.length≤140737488355328) (h:cr_count.f k bs p n most=some o) :
  Calls Tryz.prog 26 #[.pointer (some ⟨br,0,none⟩),.int .i64 n,.int .i64 most] w fun e w' => RdoPost B w br g vp bs (Value.int .i64) o e w':=by
 obtain ⟨o1,ho,h⟩:=Option.bind_eq_some_iff.mp h
 have HC:=am_ (cr_num.calls hI h1 h8 hl ho)
 have HH:=am_ h
 clear hI hl h ho h1 h8
 go_enter Tryz.func26,Tryz.ntmps26
 go_wp2_with fail
 refine HC.out.mono ?_
 clear HC
 cases o1 with
 | ok x q =>
  rintro e w2 ⟨rfl,hR⟩
  have HR:=am_ hR
  have h:=Option.some.inj HH.out
  clear hR HH
  by_cases hx:most < x
  ·rw [if_pos hx] at h
   have hxb:decide (most < x)=true:=decide_eq_true hx
   subst h
   go_wp2_with fail
   refine (cr_must_dies _ 2 (by decide) _).mono ?_
   rintro e w3 ⟨rfl,rfl⟩
   go_wp2
   exact ⟨rfl,rfl,HR.out.below⟩
  rw [if_neg hx] at h
  have hxb:decide (most < x)=false:=decide_eq_false hx
  subst h
  go_wp2
  go_ret
  exact ⟨rfl,HR.out⟩
 | er n =>
  rintro e w2 ⟨rfl,hR⟩
  have h:=Option.some.inj HH.out
  subst h
  have HR:=am_ hR
  clear hR HH
  go_wp2
  exact ⟨rfl,rfl,HR.out⟩
end Go.Proofs.YtamdobdmjcgmoaaGreatDoor.Px
namespace Go.Proofs.YtamdobdmjcgmoaaGreatDoor.Px
open Go.RowKit Go.Proofs.YtamdobdmjcgmoaaGreatDoorW.PrintWords Go.Proofs.YtamdobdmjcgmoaaGreatDoorW.PrintLast Go.Proofs.YtamdobdmjcgmoaaGreatDoorW.PrintMore
attribute [local go_sem] max2_int min2_int max_two min_two max_three min_three max_four min_four
set_option linter.unusedVariables false
set_option linter.unusedSimpArgs false
def pool_Text.f (l0:List (S61)) (a1:Int):Option (ByteArray × Bool):=(pool_is.f l0 a1 1).bind fun t126 => (if t126=true then (if 0≤a1 then (if a1 < (l0.length:Int) then (some ((rd_T61 l0 a1).f1,true)) else (none)) else (none)) else (some ((⟨#[]⟩:ByteArray),false)))
set_option maxHeartbeats 80000000 in
set_option maxRecDepth 100000 in
theorem pool_Text.calls (A0:Option Addr) (c0:Nat) (l0:List (S61)) (a1:Int) (r1:ByteArray) (r2:Bool) (w:World) (hr0:Kd.C k61 w A0 l0.length l0) (hc0:l0.length≤c0) (h:pool_Text.f l0 a1=some (r1,r2)) :
  Calls Tryz.prog 59 #[.slice A0 l0.length c0,.int .i64 a1] w fun e w' => e=.returned (.tuple #[.string r1,.bool r2])∧Drawn0 w w':=by
 have HR0:=am_ hr0
 have HC0:=am_ hc0
 clear hr0 hc0
 have H:((pool_is.f l0 a1 1).bind fun t126 => (if t126=true then (if 0≤a1 then (if a1 < (l0.length:Int) then (some ((rd_T61 l0 a1).f1,true)) else (none)) else (none)) else (some ((⟨#[]⟩:ByteArray),false))))=some (r1,r2):=h
 clear h
 replace H:=Option.bind_eq_some_iff.mp H
 obtain ⟨t126,A30,H⟩:=H
 try dsimp only at H
 have A3:=am_ A30
 clear A30
 by_cases c4:t126=true
 ·subst c4
  rw [if_pos rfl] at H
  by_cases c5:0≤a1
  ·rw [if_pos c5] at H
   have c5b0:decide (0≤a1)=true:=decide_eq_true c5
   clear c5
   by_cases c6:a1 < (l0.length:Int)
   ·rw [if_pos c6] at H
    have c6b0:decide (a1 < (l0.length:Int))=true:=decide_eq_true c6
    clear c6
    simp only [Option.some.injEq,Prod.mk.injEq] at H
    obtain ⟨rfl,rfl⟩:=H
    go_enter Tryz.func59,Tryz.ntmps59
    go_wp2_with (first|(refine callA_ (f:=62) (some 8) Tryz.func62 #[.slice A0 l0.length c0,.int .i64 a1,.int .i64 1] ?_;(with_reducible refine (pool_is.calls _ _ l0 a1 1 true _ ?side1 ?side2 A3.out).mono ?_);(case side1 => exact kc_ HR0.out);(case side2 => exact HC0.out);rintro e w' ⟨rfl,⟨nd,rfl⟩⟩;refine ⟨_,rfl,?_⟩;have p127:0≤(a1:Int):=od_;have q127:a1 < (l0.length:Int):=od_;obtain ⟨ad127,e127,hx127_0,hx127_1,hx127_2,hx127_3,hx127_4⟩:=at_T61 HR0.out a1 p127 q127;cases e127;replace p127:=eq_true p127;replace q127:=eq_true q127))
    go_ret2
    exact ⟨by first|rfl|(simp;done)|(simp [*];done),by repeat (first|exact Drawn0.refl _|apply Drawn0.step)⟩
   rw [if_neg c6] at H
   exact absurd H (by simp)
  rw [if_neg c5] at H
  exact absurd H (by simp)
 replace c4:=Bool.eq_false_iff.mpr c4
 subst c4
 rw [if_neg (show ¬ (false=true) by decide)] at H
 simp only [Option.some.injEq,Prod.mk.injEq] at H
 obtain ⟨rfl,rfl⟩:=H
 go_enter Tryz.func59,Tryz.ntmps59
 go_wp2_with (first|(refine callA_ (f:=62) (some 8) Tryz.func62 #[.slice A0 l0.length c0,.int .i64 a1,.int .i64 1] ?_;(with_reducible refine (pool_is.calls _ _ l0 a1 1 false _ ?side1 ?side2 A3.out).mono ?_);(case side1 => exact kc_ HR0.out);(case side2 => exact HC0.out);rintro e w' ⟨rfl,⟨nd,rfl⟩⟩;refine ⟨_,rfl,?_⟩))
 go_ret2
 exact ⟨by first|rfl|(simp;done)|(simp [*];done),by repeat (first|exact Drawn0.refl _|apply Drawn0.step)⟩
def pool_Class.f (l0:List (S61)) (a1:Int):Option (ByteArray × Bool):=(pool_is.f l0 a1 7).bind fun t128 => (if t128=true then (if 0≤a1 then (if a1 < (l0.length:Int) then ((pool_Text.f l0 ((rd_T61 l0 a1).f3)).bind fun bt130 => (some (bt130.1,bt130.2))) else (none)) else (none)) else (some ((⟨#[]⟩:ByteArray),false)))
set_option maxHeartbeats 80000000 in
set_option maxRecDepth 100000 in
theorem pool_Class.calls (A0:Option Addr) (c0:Nat) (l0:List (S61)) (a1:Int) (r1:ByteArray) (r2:Bool) (w:World) (hr0:Kd.C k61 w A0 l0.length l0) (hc0:l0.length≤c0) (h:pool_Class.f l0 a1=some (r1,r2)) :
  Calls Tryz.prog 42 #[.slice A0 l0.length c0,.int .i64 a1] w fun e w' => e=.returned (.tuple #[.string r1,.bool r2])∧Drawn0 w w':=by
 have HR0:=am_ hr0
 have HC0:=am_ hc0
 clear hr0 hc0
 have H:((pool_is.f l0 a1 7).bind fun t128 => (if t128=true then (if 0≤a1 then (if a1 < (l0.length:Int) then ((pool_Text.f l0 ((rd_T61 l0 a1).f3)).bind fun bt130 => (some (bt130.1,bt130.2))) else (none)) else (none)) else (some ((⟨#[]⟩:ByteArray),false))))=some (r1,r2):=h
 clear h
 replace H:=Option.bind_eq_some_iff.mp H
 obtain ⟨t128,A30,H⟩:=H
 try dsimp only at H
 have A3:=am_ A30
 clear A30
 by_cases c4:t128=true
 ·subst c4
  rw [if_pos rfl] at H
  by_cases c5:0≤a1
  ·rw [if_pos c5] at H
   have c5b0:decide (0≤a1)=true:=decide_eq_true c5
   clear c5
   by_cases c6:a1 < (l0.length:Int)
   ·rw [if_pos c6] at H
    have c6b0:decide (a1 < (l0.length:Int))=true:=decide_eq_true c6
    clear c6
    replace H:=Option.bind_eq_some_iff.mp H
    obtain ⟨⟨t130,t131⟩,A70,H⟩:=H
    try dsimp only at H
    have A7:=am_ A70
    clear A70
    simp only [Option.some.injEq,Prod.mk.injEq] at H
    obtain ⟨rfl,rfl⟩:=H
    go_enter Tryz.func42,Tryz.ntmps42
    go_wp2_with (first|(refine callA_ (f:=62) (some 8) Tryz.func62 #[.slice A0 l0.length c0,.int .i64 a1,.int .i64 7] ?_;(with_reducible refine (pool_is.calls _ _ l0 a1 7 true _ ?side1 ?side2 A3.out).mono ?_);(case side1 => exact kc_ HR0.out);(case side2 => exact HC0.out);rintro e w' ⟨rfl,⟨nd,rfl⟩⟩;refine ⟨_,rfl,?_⟩;have p129:0≤(a1:Int):=od_;have q129:a1 < (l0.length:Int):=od_;obtain ⟨ad129,e129,hx129_0,hx129_1,hx129_2,hx129_3,hx129_4⟩:=at_T61 HR0.out a1 p129 q129;cases e129;replace p129:=eq_true p129;replace q129:=eq_true q129)|(refine callA_ (f:=59) (some 16) Tryz.func59 #[.slice (some ad129) l0.length c0,.int .i64 ((rd_T61 l0 a1).f3)] ?_;(with_reducible refine (pool_Text.calls _ _ l0 ((rd_T61 l0 a1).f3) t130 t131 _ ?side1 ?side2 A7.out).mono ?_);(case side1 => exact kc_ HR0.out);(case side2 => exact HC0.out);rintro e w' ⟨rfl,⟨nd,rfl⟩⟩;refine ⟨_,rfl,?_⟩))
    go_ret2
    exact ⟨by first|rfl|(simp;done)|(simp [*];done),by repeat (first|exact Drawn0.refl _|apply Drawn0.step)⟩
   rw [if_neg c6] at H
   exact absurd H (by simp)
  rw [if_neg c5] at H
  exact absurd H (by simp)
 replace c4:=Bool.eq_false_iff.mpr c4
 subst c4
 rw [if_neg (show ¬ (false=true) by decide)] at H
 simp only [Option.some.injEq,Prod.mk.injEq] at H
 obtain ⟨rfl,rfl⟩:=H
 go_enter Tryz.func42,Tryz.ntmps42
 go_wp2_with (first|(refine callA_ (f:=62) (some 8) Tryz.func62 #[.slice A0 l0.length c0,.int .i64 a1,.int .i64 7] ?_;(with_reducible refine (pool_is.calls _ _ l0 a1 7 false _ ?side1 ?side2 A3.out).mono ?_);(case side1 => exact kc_ HR0.out);(case side2 => exact HC0.out);rintro e w' ⟨rfl,⟨nd,rfl⟩⟩;refine ⟨_,rfl,?_⟩))
 go_ret2
 exact ⟨by first|rfl|(simp;done)|(simp [*];done),by repeat (first|exact Drawn0.refl _|apply Drawn0.step)⟩
def class_rules_class.l0:Nat→List Int→Int→Int→List (S61)→Option (Bool)
 | 0,_,_,_,_ => none
 | k + 1,x9,x10,x11,x133000 => if x11 < x10 then (if 0≤x11 then (if x11 < (x9.length:Int) then ((pool_Class.f x133000 (rd x9 x11)).bind fun bt134 => (if bt134.2=true then (class_rules_class.l0 k x9 x10 (wrap64 (x11 + 1)) x133000) else (some false))) else (none)) else (none)) else (some true)
def class_rules_class.f (k:Nat) (l0_0:List (S61)) (l1:List Int):Option (Bool):=class_rules_class.l0 k l1 (l1.length:Int) 0 l0_0
set_option maxHeartbeats 80000000 in
set_option maxRecDepth 100000 in
theorem class_rules_class.calls (k:Nat) (A0_0:Option Addr) (c0_0:Nat) (l0_0:List (S61)) (A1:Option Addr) (c1:Nat) (l1:List Int) (r:Bool) (w:World) (hr0_0:Kd.C k61 w A0_0 l0_0.length l0_0) (hc0_0:l0_0.length≤c0_0) (hr1:Kd.C (Kd.int .i64) w A1 l1.length l1) (hc1:l1.length≤c1) (h:class_rules_class.f k l0_0 l1=some r) :
  Calls Tryz.prog 38 #[.agg #[.slice A0_0 l0_0.length c0_0],.slice A1 l1.length c1] w fun e w' => e=.returned (.bool r)∧Below w.heap.size w w':=by
 have hu88:=Tryz.underlying88
 have HR0_0:=am_ hr0_0
 have HC0_0:=am_ hc0_0
 clear hr0_0 hc0_0
 have HR1:=am_ hr1
 have HC1:=am_ hc1
 clear hr1 hc1
 have HB:=am_ (Below.refl w.heap.size w)
 have H:(class_rules_class.l0 k l1 (l1.length:Int) 0 l0_0)=some r:=h
 clear h
 have H':=am_ H
 clear H
 go_enter Tryz.func38,Tryz.ntmps38
 go_wp2_with (first|((with_reducible refine gate_dst (N:=2) rfl ?_);refine box_event ?hg (N:=2) ?hd (cs:=#[.slice A0_0 l0_0.length c0_0]) (t:=88) ?hr ?_;(case hd => rfl);(case hg => rfl);(case hr => first|(go_simp;done)|(go_simp;rfl));intro gb132 hg w3 hbox hb;have n0_:=am_ (below_step bl_ hb);have n1_:=am_ (hbox);have n2_:=am_ ((by rw [hg];exact (below_size bl_):w.heap.size≤gb132));have n3_:=am_ ((by rw [hg];exact (below_size bl_):w.heap.size≤gb132));clear HB;have HB:=n0_;have BK132:=n1_;have GW132:=n2_;have GE132:=n3_;clear n0_ n1_ n2_ n3_;clear hb hbox hg))
 go_loopg [11] k (fun kq v11 w' => ∃ (x11_1:Int),v11=.int .i64 x11_1∧Aside0 (class_rules_class.l0 kq l1 (l1.length:Int) x11_1 l0_0=some r)∧Aside0 (kq≤k)∧Aside0 (w'.heap[gb132]?=some (.cells #[(.slice A0_0 l0_0.length c0_0)] 88 (0,0)))∧Aside0 (Below w.heap.size w w'))
 case atStart => exact ⟨(0),r3_,H',⟨Nat.le_refl _⟩,⟨bk_⟩,⟨bl_⟩⟩
 clear H'
 try clear c1
 obtain ⟨x11_1,rfl,HA,HK1,BK132,HB⟩:=hrel
 cases gk with
 | zero => exact absurd HA.out (by simp [class_rules_class.l0])
 | succ k1 =>
  have H:=HA.out
  clear HA
  simp only [class_rules_class.l0] at H
  by_cases c4:x11_1 < (l1.length:Int)
  rotate_left
  ·rw [if_neg c4] at H
   have c4b0:decide (x11_1 < (l1.length:Int))=false:=decide_eq_false c4
   clear c4
   obtain rfl:=Option.some.inj H
   go_wp2
   go_ret
   exact ⟨ew_,bl_⟩
  rw [if_pos c4] at H
  have c4b0:decide (x11_1 < (l1.length:Int))=true:=decide_eq_true c4
  clear c4
  by_cases c5:0≤x11_1
  rotate_left
  ·rw [if_neg c5] at H
   exact absurd H (by simp)
  rw [if_pos c5] at H
  have c5b0:decide (0≤x11_1)=true:=decide_eq_true c5
  clear c5
  by_cases c6:x11_1 < (l1.length:Int)
  rotate_left
  ·rw [if_neg c6] at H
   exact absurd H (by simp)
  rw [if_pos c6] at H
  have c6b0:decide (x11_1 < (l1.length:Int))=true:=decide_eq_true c6
  clear c6
  replace H:=Option.bind_eq_some_iff.mp H
  obtain ⟨⟨t134,t135⟩,A70,H⟩:=H
  try dsimp only at H
  have A7:=am_ A70
  clear A70
  by_cases c8:t135=true
  ·subst c8
   rw [if_pos rfl] at H
   have H':=am_ H
   clear H
   have p133:0≤(x11_1:Int):=od_
   have q133:x11_1 < (l1.length:Int):=od_
   obtain ⟨ad133,e133,hx133_0⟩:=Kd.at_int HR1.out x11_1 p133 q133
   cases e133
   replace hx133_0:=hb_ HB hx133_0
   replace p133:=eq_true p133
   replace q133:=eq_true q133
   have hcz9_0:wr.cell? ⟨gb132,0,none⟩=some (.slice A0_0 l0_0.length c0_0):=(blk_cell BK132.out 0).trans rfl
   have hfz9_0:=blk_frozen BK132.out 0
   go_wp2_with (first|(refine callA_ (f:=42) (some 19) Tryz.func42 #[.slice A0_0 l0_0.length c0_0,.int .i64 (rd l1 x11_1)] ?_;(with_reducible refine (pool_Class.calls _ _ l0_0 (rd l1 x11_1) t134 true _ ?side1 ?side2 A7.out).mono ?_);(case side1 => exact kc_ (Kd.C_below HR0_0.out HB.out));(case side2 => exact HC0_0.out);rintro e w' ⟨rfl,⟨nd,rfl⟩⟩;refine ⟨_,rfl,?_⟩))
   go_roundg k1
   case measure => have:=HK1.out;omega
   case rel => exact ⟨(wrap64 (x11_1 + 1)),r3_,H',⟨by have:=HK1.out;omega⟩,⟨bk_⟩,⟨bl_⟩⟩
  replace c8:=Bool.eq_false_iff.mpr c8
  subst c8
  rw [if_neg (show ¬ (false=true) by decide)] at H
  obtain rfl:=Option.some.inj H
  have p133:0≤(x11_1:Int):=od_
  have q133:x11_1 < (l1.length:Int):=od_
  obtain ⟨ad133,e133,hx133_0⟩:=Kd.at_int HR1.out x11_1 p133 q133
  cases e133
  replace hx133_0:=hb_ HB hx133_0
  replace p133:=eq_true p133
  replace q133:=eq_true q133
  have hcz10_0:wr.cell? ⟨gb132,0,none⟩=some (.slice A0_0 l0_0.length c0_0):=(blk_cell BK132.out 0).trans rfl
  have hfz10_0:=blk_frozen BK132.out 0
  go_wp2_with (first|(refine callA_ (f:=42) (some 19) Tryz.func42 #[.slice A0_0 l0_0.length c0_0,.int .i64 (rd l1 x11_1)] ?_;(with_reducible refine (pool_Class.calls _ _ l0_0 (rd l1 x11_1) t134 false _ ?side1 ?side2 A7.out).mono ?_);(case side1 => exact kc_ (Kd.C_below HR0_0.out HB.out));(case side2 => exact HC0_0.out);rintro e w' ⟨rfl,⟨nd,rfl⟩⟩;refine ⟨_,rfl,?_⟩))
  go_ret
  exact ⟨ew_,bl_⟩
def class_flags.f (a0:Int):Option (Bool):=some ((Go.bits .andNot .i64 a0 8)==0)
set_option maxHeartbeats 80000000 in
set_option maxRecDepth 100000 in
theorem class_flags.calls (a0:Int) (r:Bool) (w:World) (h:class_flags.f a0=some r) :
  Calls Tryz.prog 39 #[.int .i64 a0] w fun e w' => e=.returned (.bool r)∧Drawn0 w w':=by
 have H:(some ((Go.bits .andNot .i64 a0 8)==0))=some r:=h
 clear h
 obtain rfl:=Option.some.inj H
 go_enter Tryz.func39,Tryz.ntmps39
 go_wp2
 go_ret
 exact ⟨by first|rfl|(simp;done)|(simp [*];done),by repeat (first|exact Drawn0.refl _|apply Drawn0.step)⟩
def class_rules_text.l0:Nat→List Int→Int→Int→List (S61)→Option (Bool)
 | 0,_,_,_,_ => none
 | k + 1,x9,x10,x11,x137000 => if x11 < x10 then (if 0≤x11 then (if x11 < (x9.length:Int) then ((pool_Text.f x137000 (rd x9 x11)).bind fun bt138 => (if bt138.2=true then (class_rules_text.l0 k x9 x10 (wrap64 (x11 + 1)) x137000) else (some false))) else (none)) else (none)) else (some true)
def class_rules_text.f (k:Nat) (l0_0:List (S61)) (l1:List Int):Option (Bool):=class_rules_text.l0 k l1 (l1.length:Int) 0 l0_0
set_option maxHeartbeats 80000000 in
set_option maxRecDepth 100000 in
theorem class_rules_text.calls (k:Nat) (A0_0:Option Addr) (c0_0:Nat) (l0_0:List (S61)) (A1:Option Addr) (c1:Nat) (l1:List Int) (r:Bool) (w:World) (hr0_0:Kd.C k61 w A0_0 l0_0.length l0_0) (hc0_0:l0_0.length≤c0_0) (hr1:Kd.C (Kd.int .i64) w A1 l1.length l1) (hc1:l1.length≤c1) (h:class_rules_text.f k l0_0 l1=some r) :
  Calls Tryz.prog 40 #[.agg #[.slice A0_0 l0_0.length c0_0],.slice A1 l1.length c1] w fun e w' => e=.returned (.bool r)∧Below w.heap.size w w':=by
 have hu88:=Tryz.underlying88
 have HR0_0:=am_ hr0_0
 have HC0_0:=am_ hc0_0
 clear hr0_0 hc0_0
 have HR1:=am_ hr1
 have HC1:=am_ hc1
 clear hr1 hc1
 have HB:=am_ (Below.refl w.heap.size w)
 have H:(class_rules_text.l0 k l1 (l1.length:Int) 0 l0_0)=some r:=h
 clear h
 have H':=am_ H
 clear H
 go_enter Tryz.func40,Tryz.ntmps40
 go_wp2_with (first|((with_reducible refine gate_dst (N:=2) rfl ?_);refine box_event ?hg (N:=2) ?hd (cs:=#[.slice A0_0 l0_0.length c0_0]) (t:=88) ?hr ?_;(case hd => rfl);(case hg => rfl);(case hr => first|(go_simp;done)|(go_simp;rfl));intro gb136 hg w3 hbox hb;have n0_:=am_ (below_step bl_ hb);have n1_:=am_ (hbox);have n2_:=am_ ((by rw [hg];exact (below_size bl_):w.heap.size≤gb136));have n3_:=am_ ((by rw [hg];exact (below_size bl_):w.heap.size≤gb136));clear HB;have HB:=n0_;have BK136:=n1_;have GW136:=n2_;have GE136:=n3_;clear n0_ n1_ n2_ n3_;clear hb hbox hg))
 go_loopg [11] k (fun kq v11 w' => ∃ (x11_1:Int),v11=.int .i64 x11_1∧Aside0 (class_rules_text.l0 kq l1 (l1.length:Int) x11_1 l0_0=some r)∧Aside0 (kq≤k)∧Aside0 (w'.heap[gb136]?=some (.cells #[(.slice A0_0 l0_0.length c0_0)] 88 (0,0)))∧Aside0 (Below w.heap.size w w'))
 case atStart => exact ⟨(0),r3_,H',⟨Nat.le_refl _⟩,⟨bk_⟩,⟨bl_⟩⟩
 clear H'
 try clear c1
 obtain ⟨x11_1,rfl,HA,HK1,BK136,HB⟩:=hrel
 cases gk with
 | zero => exact absurd HA.out (by simp [class_rules_text.l0])
 | succ k1 =>
  have H:=HA.out
  clear HA
  simp only [class_rules_text.l0] at H
  by_cases c4:x11_1 < (l1.length:Int)
  rotate_left
  ·rw [if_neg c4] at H
   have c4b0:decide (x11_1 < (l1.length:Int))=false:=decide_eq_false c4
   clear c4
   obtain rfl:=Option.some.inj H
   go_wp2
   go_ret
   exact ⟨ew_,bl_⟩
  rw [if_pos c4] at H
  have c4b0:decide (x11_1 < (l1.length:Int))=true:=decide_eq_true c4
  clear c4
  by_cases c5:0≤x11_1
  rotate_left
  ·rw [if_neg c5] at H
   exact absurd H (by simp)
  rw [if_pos c5] at H
  have c5b0:decide (0≤x11_1)=true:=decide_eq_true c5
  clear c5
  by_cases c6:x11_1 < (l1.length:Int)
  rotate_left
  ·rw [if_neg c6] at H
   exact absurd H (by simp)
  rw [if_pos c6] at H
  have c6b0:decide (x11_1 < (l1.length:Int))=true:=decide_eq_true c6
  clear c6
  replace H:=Option.bind_eq_some_iff.mp H
  obtain ⟨⟨t138,t139⟩,A70,H⟩:=H
  try dsimp only at H
  have A7:=am_ A70
  clear A70
  by_cases c8:t139=true
  ·subst c8
   rw [if_pos rfl] at H
   have H':=am_ H
   clear H
   have p137:0≤(x11_1:Int):=od_
   have q137:x11_1 < (l1.length:Int):=od_
   obtain ⟨ad137,e137,hx137_0⟩:=Kd.at_int HR1.out x11_1 p137 q137
   cases e137
   replace hx137_0:=hb_ HB hx137_0
   replace p137:=eq_true p137
   replace q137:=eq_true q137
   have hcz9_0:wr.cell? ⟨gb136,0,none⟩=some (.slice A0_0 l0_0.length c0_0):=(blk_cell BK136.out 0).trans rfl
   have hfz9_0:=blk_frozen BK136.out 0
   go_wp2_with (first|(refine callA_ (f:=59) (some 19) Tryz.func59 #[.slice A0_0 l0_0.length c0_0,.int .i64 (rd l1 x11_1)] ?_;(with_reducible refine (pool_Text.calls _ _ l0_0 (rd l1 x11_1) t138 true _ ?side1 ?side2 A7.out).mono ?_);(case side1 => exact kc_ (Kd.C_below HR0_0.out HB.out));(case side2 => exact HC0_0.out);rintro e w' ⟨rfl,⟨nd,rfl⟩⟩;refine ⟨_,rfl,?_⟩))
   go_roundg k1
   case measure => have:=HK1.out;omega
   case rel => exact ⟨(wrap64 (x11_1 + 1)),r3_,H',⟨by have:=HK1.out;omega⟩,⟨bk_⟩,⟨bl_⟩⟩
  replace c8:=Bool.eq_false_iff.mpr c8
  subst c8
  rw [if_neg (show ¬ (false=true) by decide)] at H
  obtain rfl:=Option.some.inj H
  have p137:0≤(x11_1:Int):=od_
  have q137:x11_1 < (l1.length:Int):=od_
  obtain ⟨ad137,e137,hx137_0⟩:=Kd.at_int HR1.out x11_1 p137 q137
  cases e137
  replace hx137_0:=hb_ HB hx137_0
  replace p137:=eq_true p137
  replace q137:=eq_true q137
  have hcz10_0:wr.cell? ⟨gb136,0,none⟩=some (.slice A0_0 l0_0.length c0_0):=(blk_cell BK136.out 0).trans rfl
  have hfz10_0:=blk_frozen BK136.out 0
  go_wp2_with (first|(refine callA_ (f:=59) (some 19) Tryz.func59 #[.slice A0_0 l0_0.length c0_0,.int .i64 (rd l1 x11_1)] ?_;(with_reducible refine (pool_Text.calls _ _ l0_0 (rd l1 x11_1) t138 false _ ?side1 ?side2 A7.out).mono ?_);(case side1 => exact kc_ (Kd.C_below HR0_0.out HB.out));(case side2 => exact HC0_0.out);rintro e w' ⟨rfl,⟨nd,rfl⟩⟩;refine ⟨_,rfl,?_⟩))
  go_ret
  exact ⟨ew_,bl_⟩
def class_within.f (a0:Int) (a1:Int):Option (Bool):=if a0 ≥ 0 then (some (decide (a0≤a1))) else (some false)
set_option maxHeartbeats 80000000 in
set_option maxRecDepth 100000 in
theorem class_within.calls (a0:Int) (a1:Int) (r:Bool) (w:World) (h:class_within.f a0 a1=some r) :
  Calls Tryz.prog 60 #[.int .i64 a0,.int .i64 a1] w fun e w' => e=.returned (.bool r)∧Drawn0 w w':=by
 have H:(if a0 ≥ 0 then (some (decide (a0≤a1))) else (some false))=some r:=h
 clear h
 by_cases c3:a0 ≥ 0
 ·rw [if_pos c3] at H
  have c3b0:decide (0≤a0)=true:=decide_eq_true c3
  clear c3
  obtain rfl:=Option.some.inj H
  go_enter Tryz.func60,Tryz.ntmps60
  go_wp2
  go_ret
  exact ⟨by first|rfl|(simp;done)|(simp [*];done),by repeat (first|exact Drawn0.refl _|apply Drawn0.step)⟩
 rw [if_neg c3] at H
 have c3b0:decide (0≤a0)=false:=decide_eq_false c3
 clear c3
 obtain rfl:=Option.some.inj H
 go_enter Tryz.func60,Tryz.ntmps60
 go_wp2
 go_ret
 exact ⟨by first|rfl|(simp;done)|(simp [*];done),by repeat (first|exact Drawn0.refl _|apply Drawn0.step)⟩
def class_place.l0:Nat→List (S61)→ByteArray→Int→Int→Option (Int)
 | 0,_,_,_,_ => none
 | k + 1,x0,x1,x9,x10 => if x10 < x9 then ((pool_Text.f x0 x10).bind fun bt140 => (if bt140.2=true then (if bt140.1.toList=x1.toList then (some x10) else (class_place.l0 k x0 x1 x9 (wrap64 (x10 + 1)))) else (class_place.l0 k x0 x1 x9 (wrap64 (x10 + 1))))) else (some 0)
def class_place.f (k:Nat) (l0:List (S61)) (a1:ByteArray):Option (Int):=class_place.l0 k l0 a1 (l0.length:Int) 0
set_option maxHeartbeats 80000000 in
set_option maxRecDepth 100000 in
theorem class_place.calls (k:Nat) (A0:Option Addr) (c0:Nat) (l0:List (S61)) (a1:ByteArray) (r:Int) (w:World) (hr0:Kd.C k61 w A0 l0.length l0) (hc0:l0.length≤c0) (h:class_place.f k l0 a1=some r) :
  Calls Tryz.prog 61 #[.slice A0 l0.length c0,.string a1] w fun e w' => e=.returned (.int .i64 r)∧Drawn0 w w':=by
 have HR0:=am_ hr0
 have HC0:=am_ hc0
 clear hr0 hc0
 have H:(class_place.l0 k l0 a1 (l0.length:Int) 0)=some r:=h
 clear h
 have H':=am_ H
 clear H
 go_enter Tryz.func61,Tryz.ntmps61
 go_wp2
 go_loopg [10] k (fun kq v10 w' => ∃ (x10_1:Int),v10=.int .i64 x10_1∧Aside0 (class_place.l0 kq l0 a1 (l0.length:Int) x10_1=some r)∧Aside0 (kq≤k)∧Drawn0 w w')
 case atStart => exact ⟨(0),r3_,H',⟨Nat.le_refl _⟩,by repeat (first|exact Drawn0.refl _|apply Drawn0.step)⟩
 clear H'
 obtain ⟨x10_1,rfl,HA,HK1,⟨m1,rfl⟩⟩:=hrel
 cases gk with
 | zero => exact absurd HA.out (by simp [class_place.l0])
 | succ k1 =>
  have H:=HA.out
  clear HA
  simp only [class_place.l0] at H
  by_cases c3:x10_1 < (l0.length:Int)
  rotate_left
  ·rw [if_neg c3] at H
   have c3b0:decide (x10_1 < (l0.length:Int))=false:=decide_eq_false c3
   clear c3
   obtain rfl:=Option.some.inj H
   go_wp2
   go_ret
   exact ⟨by first|rfl|(simp;done)|(simp [*];done),by repeat (first|exact Drawn0.refl _|apply Drawn0.step)⟩
  rw [if_pos c3] at H
  have c3b0:decide (x10_1 < (l0.length:Int))=true:=decide_eq_true c3
  clear c3
  replace H:=Option.bind_eq_some_iff.mp H
  obtain ⟨⟨t140,t141⟩,A40,H⟩:=H
  try dsimp only at H
  have A4:=am_ A40
  clear A40
  by_cases c5:t141=true
  ·subst c5
   rw [if_pos rfl] at H
   by_cases c6:t140.toList=a1.toList
   ·rw [if_pos c6] at H
    have c6b0:(t140.toList==a1.toList)=true:=beq_iff_eq.mpr c6
    have c6b1:(t140.toList != a1.toList)=false:=bne_eq_false_iff_eq.mpr c6
    clear c6
    obtain rfl:=Option.some.inj H
    go_wp2_with (first|(refine callA_ (f:=59) (some 16) Tryz.func59 #[.slice A0 l0.length c0,.int .i64 x10_1] ?_;(with_reducible refine (pool_Text.calls _ _ l0 x10_1 t140 true _ ?side1 ?side2 A4.out).mono ?_);(case side1 => exact kc_ HR0.out);(case side2 => exact HC0.out);rintro e w' ⟨rfl,⟨nd,rfl⟩⟩;refine ⟨_,rfl,?_⟩))
    go_ret
    exact ⟨by first|rfl|(simp;done)|(simp [*];done),by repeat (first|exact Drawn0.refl _|apply Drawn0.step)⟩
   rw [if_neg c6] at H
   have c6b0:(t140.toList==a1.toList)=false:=beq_eq_false_iff_ne.mpr c6
   have c6b1:(t140.toList != a1.toList)=true:=bne_iff_ne.mpr c6
   have H':=am_ H
   clear H
   go_wp2_with (first|(refine callA_ (f:=59) (some 16) Tryz.func59 #[.slice A0 l0.length c0,.int .i64 x10_1] ?_;(with_reducible refine (pool_Text.calls _ _ l0 x10_1 t140 true _ ?side1 ?side2 A4.out).mono ?_);(case side1 => exact kc_ HR0.out);(case side2 => exact HC0.out);rintro e w' ⟨rfl,⟨nd,rfl⟩⟩;refine ⟨_,rfl,?_⟩))
   go_roundg k1
   case measure => have:=HK1.out;omega
   case rel => exact ⟨(wrap64 (x10_1 + 1)),r3_,H',⟨by have:=HK1.out;omega⟩,by repeat (first|exact Drawn0.refl _|apply Drawn0.step)⟩
  replace c5:=Bool.eq_false_iff.mpr c5
  subst c5
  rw [if_neg (show ¬ (false=true) by decide)] at H
  have H':=am_ H
  clear H
  go_wp2_with (first|(refine callA_ (f:=59) (some 16) Tryz.func59 #[.slice A0 l0.length c0,.int .i64 x10_1] ?_;(with_reducible refine (pool_Text.calls _ _ l0 x10_1 t140 false _ ?side1 ?side2 A4.out).mono ?_);(case side1 => exact kc_ HR0.out);(case side2 => exact HC0.out);rintro e w' ⟨rfl,⟨nd,rfl⟩⟩;refine ⟨_,rfl,?_⟩))
  go_roundg k1
  case measure => have:=HK1.out;omega
  case rel => exact ⟨(wrap64 (x10_1 + 1)),r3_,H',⟨by have:=HK1.out;omega⟩,by repeat (first|exact Drawn0.refl _|apply Drawn0.step)⟩
end Go.Proofs.YtamdobdmjcgmoaaGreatDoor.Px
namespace Go.Proofs.YtamdobdmjcgmoaaGreatDoor.Px
open Go.RowKit Go.Proofs.YtamdobdmjcgmoaaGreatDoorW.PrintWords Go.Proofs.YtamdobdmjcgmoaaGreatDoorW.PrintLast Go.Proofs.YtamdobdmjcgmoaaGreatDoorW.PrintMore
set_option linter.unusedVariables false
set_option linter.unusedSimpArgs false
theorem dies_ {P : Program} {Q : Exit → Act → World → Prop} {ops : Array Oper} {oi : Oper} {N : Option Tmp} {a : Act} {w : World} {K : Act → World → Prop} {f : FuncId} {fn : Func} {aa : Array Operand} {ts : Array TypeId} (hf : P.funcs[f]? = some fn) (hname : (fn.name == "runtime.NumGoroutine") = false) (hb : fn.body.isSome = true) (args : Array Value)
  (hw:Region.wanted oi (yielded ops a.tmps)=true) (hN:oi.dst=N) (hop:oi.op=.call { callee:=.value (.func f),args:=aa,argTypes:=ts }) (hargs:aa.map a.eval=args)
  (h:Calls P f args w fun e w' => ∃ c,e=.panicked c∧Q (.panic c) a w'):if Region.wanted oi (yielded ops a.tmps)=true then Oper.wp P oi a w K Q else K (a.put N undef) w:=by
 rw [if_pos hw]
 have he:=enters_ hf hname hb args w
 have hrun:(execOp a.eval oi).run P w=.ok (.enter f args) w:=by
  unfold execOp
  simp [hop,resolve,Deferred.ofValue,invoke,Act.eval,hargs,he]
 unfold Oper.wp
 rw [hrun,Oper.upon_enter]
 refine h.mono fun e w'' hh => ?_
 obtain ⟨v,rfl,hk⟩:=hh
 exact hk
theorem RdStep.drew (B:Nat) (w:World) (g:Nat):RdStep B w w.drew g:=⟨below_drew (Below.refl _ _),⟨Nat.le_refl _,fun _ _ _ _ => rfl⟩⟩
theorem IsCr.drew {B:Nat} {w:World} {br g:Nat} {vp:Value} {bs:List Int} {p:Nat} (h:IsCr B w br g vp bs p):IsCr B w.drew br g vp bs p:=⟨h.R.below (below_drew (Below.refl _ _)),blk_drew h.blk⟩
theorem CrPost.from {B:Nat} {w w1 w':World} {br g:Nat} {vp:Value} {bs:List Int} {p:Nat} (hS:RdStep B w w1 g) (h:CrPost B w1 br g vp bs p w'):CrPost B w br g vp bs p w':=⟨h.1,hS.trans h.2⟩
theorem CrPost.drewN {B:Nat} {w w':World} {br g:Nat} {vp:Value} {bs:List Int} {p:Nat} (h:CrPost B w br g vp bs p w') (n:Nat):CrPost B w br g vp bs p (w'.drewN n):=⟨⟨h.1.R.drewN n,h.1.blk⟩,h.2.trans (RdStep.drewN _ _ _ _)⟩
def cr_named.f (k:Nat) (l0:List S61) (bs:List Int) (p:Nat) (s:ByteArray):Option (Rdo Unit):=(cr_num.f k bs p 2).bind fun o => o.bind fun x q => (pool_Text.f l0 x).bind fun t => some (if t.2=true∧t.1.toList=s.toList then .ok () q else .er 50)
set_option maxHeartbeats 8000000 in
set_option maxRecDepth 100000 in
theorem cr_named.calls {k B br g:Nat} {A0:Option Addr} {c0:Nat} {l0:List S61} {bs:List Int} {p:Nat} {s:ByteArray} {o:Rdo Unit} {w:World} (hI:IsCr B w br g (.slice A0 l0.length c0) bs p) (hl:bs.length≤140737488355328) (hP:∀ w',RdStep B w w' g→Kd.C k61 w' A0 l0.length l0) (hPC:l0.length≤c0) (h:cr_named.f k l0 bs p s=some o) :
  Calls Tryz.prog 48 #[.pointer (some ⟨br,0,none⟩),.string s] w fun e w' => RdoPost B w br g (.slice A0 l0.length c0) bs (fun _ => Value.tuple #[]) o e w':=by
 obtain ⟨o1,ho,h⟩:=Option.bind_eq_some_iff.mp h
 have HC:=am_ (cr_two.calls hI.drew hl ho)
 have HH:=am_ h
 have HP:=am_ hP
 have HPC:=am_ hPC
 have c1:=hI.c1
 clear hI hl h ho hP hPC
 go_enter Tryz.func48,Tryz.ntmps48
 go_wp2_with fail
 cases o1 with
 | ok x q =>
  obtain ⟨⟨t1,t2⟩,hT,h⟩:=Option.bind_eq_some_iff.mp HH.out
  have HT:=am_ hT
  have h:=Option.some.inj h
  clear hT HH
  refine start_ (n:=12) (S:=fun w' => w'.cell? ⟨br,1,none⟩=some (.slice A0 l0.length c0)) (ds:=[]) #[false,false,false,false,false,false,false,false,false,false,false,false] (by kernel_rfl) rfl rfl (c1) (fun hHeld => ?_)
  refine pr_ 0 (some 7) ?_
  refine pr_ 1 (some 8) ?_
  refine pr_ 2 (some 9) ?_
  refine pr_ 4 (some 11) ?_
  refine tk_ 3 (some 10) hHeld ?_ (hy:=by intro w' s0;go_simp;with_reducible rfl)
  refine one_ (i:=5) (N:=some 12) #[true,true,true,true,true,true,false,false,false,false,false,false] rfl rfl (by kernel_rfl) (by decide) (fun K hK => ?_)
  refine goes_ Tryz.func25 (by kernel_rfl) rfl #[.pointer (some ⟨br,0,none⟩)] (by rfl) rfl rfl (by simp only [List.map_toArray,List.map_cons,List.map_nil];rfl) ?_
  refine (HC.out).mono ?_
  rintro e w2 ⟨rfl,hR⟩
  refine ⟨_,rfl,?_⟩
  have HR:=am_ hR
  have HST:=am_ ((RdStep.drew B w g).trans (And.right HR.out))
  have HI2:=am_ (And.left HR.out)
  have c2:=(And.left HR.out).c1
  clear hR
  refine hK.out _ _ (c2) (fun hHeld => ?_)
  clear hK K
  refine norm_ (a':=?_) ?_ ?_
  rotate_left
  ·show Act.put _ (some 12) _=_
   simp only [Act.put,List.setIfInBounds_toArray,List.set_cons_zero,List.set_cons_succ,i64_w,i32_w]
   rfl
  refine one_ (i:=6) (N:=some 13) #[true,true,true,true,true,true,true,false,false,false,false,false] rfl rfl (by kernel_rfl) (by decide) (fun K hK => ?_)
  refine goes_ Tryz.func59 (by kernel_rfl) rfl #[.slice A0 l0.length c0,.int .i64 x] (by rfl) rfl rfl (by simp only [List.map_toArray,List.map_cons,List.map_nil];rfl) ?_
  with_reducible refine (pool_Text.calls A0 c0 l0 x t1 t2 w2 (HP.out _ HST.out) HPC.out HT.out).mono ?_
  rintro e w3 ⟨rfl,⟨⟨nd,rfl⟩⟩⟩
  refine ⟨_,rfl,?_⟩
  refine hK.out _ _ ((by exact hHeld)) (fun hHeld => ?_)
  clear hK K
  refine norm_ (a':=?_) ?_ ?_
  rotate_left
  ·show Act.put _ (some 13) _=_
   simp only [Act.put,List.setIfInBounds_toArray,List.set_cons_zero,List.set_cons_succ,i64_w,i32_w]
   rfl
  refine pr_ 7 (some 6) ?_
  refine pr_ 8 (some 14) ?_
  refine pr_ 9 (some 15) ?_
  refine pr_ 10 (some 4) ?_
  refine pr_ 11 (some 5) ?_
  refine done_ (by kernel_rfl) ?_
  clear hHeld HC HP HPC c1 c2
  have HRR:=am_ (CrPost.from (RdStep.drew B w g) HR.out)
  cases t2 with
  | false =>
   rw [if_neg (by simp)] at h
   subst h
   go_wp2_with fail
   refine (cr_must_dies _ 50 (by decide) _).mono ?_
   rintro e w3 ⟨rfl,rfl⟩
   go_wp2
   exact ⟨rfl,rfl,(HRR.out.drewN _).below⟩
  | true =>
   by_cases ht:t1.toList=s.toList
   ·rw [if_pos ⟨rfl,ht⟩] at h
    subst h
    have htb:(t1.toList==s.toList)=true:=beq_iff_eq.mpr ht
    clear ht
    go_wp2
    go_end0
    exact ⟨rfl,HRR.out.drewN _⟩
   rw [if_neg (by simp [ht])] at h
   subst h
   have htb:(t1.toList==s.toList)=false:=beq_eq_false_iff_ne.mpr ht
   clear ht
   go_wp2_with fail
   refine (cr_must_dies _ 50 (by decide) _).mono ?_
   rintro e w3 ⟨rfl,rfl⟩
   go_wp2
   exact ⟨rfl,rfl,(HRR.out.drewN _).below⟩
 | er n =>
  have h:=Option.some.inj HH.out
  subst h
  clear HH
  refine start_ (n:=12) (S:=fun w' => w'.cell? ⟨br,1,none⟩=some (.slice A0 l0.length c0)) (ds:=[]) #[false,false,false,false,false,false,false,false,false,false,false,false] (by kernel_rfl) rfl rfl (c1) (fun hHeld => ?_)
  refine pr_ 0 (some 7) ?_
  refine pr_ 1 (some 8) ?_
  refine pr_ 2 (some 9) ?_
  refine pr_ 4 (some 11) ?_
  refine tk_ 3 (some 10) hHeld ?_ (hy:=by intro w' s0;go_simp;with_reducible rfl)
  refine one_ (i:=5) (N:=some 12) #[true,true,true,true,true,true,false,false,false,false,false,false] rfl rfl (by kernel_rfl) (by decide) (fun K hK => ?_)
  refine dies_ Tryz.func25 (by kernel_rfl) rfl #[.pointer (some ⟨br,0,none⟩)] (by rfl) rfl rfl (by simp only [List.map_toArray,List.map_cons,List.map_nil];rfl) ?_
  refine HC.out.mono ?_
  rintro e w2 ⟨rfl,hR⟩
  refine ⟨_,rfl,?_⟩
  have HR:=am_ hR
  clear hR
  exact ⟨rfl,rfl,(below_drew (Below.refl B w)).trans HR.out⟩
def cr_long.f (k:Nat) (bs:List Int) (p:Nat):Option (Rdo (List Int)):=(cr_count.f k bs p 4 4096).bind fun o => o.bind fun x q => if 0≤x then some (if rdE bs q x.toNat=0 then .ok (rdL bs q x.toNat) (rdP bs q x.toNat) else .er (rdE bs q x.toNat)) else none
def LongPost (B:Nat) (w:World) (br g:Nat) (vp:Value) (bs:List Int) (o:Rdo (List Int)) (e:Ending) (w':World):Prop:=match o with
 | .ok ys p => ∃ v:Value,e=.returned v∧Kd.R (Kd.int .u8) 5 w' w.heap.size (fun _ => True) v ys∧CrPost B w br g vp bs p w'
 | .er n => Dies B w n e w'
set_option maxHeartbeats 8000000 in
set_option maxRecDepth 100000 in
theorem cr_long.calls {k B br g:Nat} {vp:Value} {bs:List Int} {p:Nat} {o:Rdo (List Int)} {w:World} (hI:IsCr B w br g vp bs p) (hl:bs.length≤140737488355328) (h:cr_long.f k bs p=some o) :
  Calls Tryz.prog 49 #[.pointer (some ⟨br,0,none⟩)] w fun e w' => LongPost B w br g vp bs o e w':=by
 obtain ⟨o1,ho,h⟩:=Option.bind_eq_some_iff.mp h
 have HC:=am_ (cr_count.calls (n:=4) hI.drew (by decide) (by decide) hl ho)
 have HH:=am_ h
 have HL:=am_ hl
 have c0_:=hI.c0
 have HO:=am_ ho
 clear hI hl h ho
 go_enter Tryz.func49,Tryz.ntmps49
 go_wp2_with fail
 cases o1 with
 | ok x q =>
  have h:(if 0≤x then some (if rdE bs q x.toNat=0 then Rdo.ok (rdL bs q x.toNat) (rdP bs q x.toNat) else .er (rdE bs q x.toNat)) else none)=some o:=HH.out
  by_cases hx:0≤x
  case neg => rw [if_neg hx] at h;cases h
  rw [if_pos hx] at h
  obtain ⟨n,rfl⟩:=Int.eq_ofNat_of_zero_le hx
  rw [Int.toNat_natCast] at h
  have h:=Option.some.inj h
  have hn:(n:Int)≤4096:=by
   obtain ⟨o2,_,h2⟩:=Option.bind_eq_some_iff.mp HO.out
   cases o2 with
   | ok y r =>
    have h3:=Option.some.inj h2
    by_cases hy:4096 < y
    ·rw [if_pos hy] at h3;cases h3
    rw [if_neg hy] at h3
    injection h3 with h4
    omega
   | er e => have h3:=Option.some.inj h2;cases h3
  have HN:Aside0 (n≤4611686018427387904):=⟨by omega⟩
  clear HH hx HO
  refine start_ (n:=12) (S:=fun w' => w'.cell? ⟨br,0,none⟩=some (.pointer (some ⟨g,0,none⟩))) (ds:=[]) #[false,false,false,false,false,false,false,false,false,false,false,false] (by kernel_rfl) rfl rfl (c0_) (fun hHeld => ?_)
  refine pr_ 0 (some 6) ?_
  refine pr_ 1 (some 7) ?_
  refine pr_ 2 (some 8) ?_
  refine pr_ 4 (some 10) ?_
  refine tk_ 3 (some 9) hHeld ?_ (hy:=by intro w' s0;go_simp;with_reducible rfl)
  refine one_ (i:=5) (N:=some 11) #[true,true,true,true,true,true,false,false,false,false,false,false] rfl rfl (by kernel_rfl) (by decide) (fun K hK => ?_)
  refine goes_ Tryz.func26 (by kernel_rfl) rfl #[.pointer (some ⟨br,0,none⟩),.int .i64 4,.int .i64 4096] (by rfl) rfl rfl (by simp only [List.map_toArray,List.map_cons,List.map_nil];rfl) ?_
  refine (HC.out).mono ?_
  rintro e w2 ⟨rfl,hR⟩
  refine ⟨_,rfl,?_⟩
  have HR:=am_ hR
  have HST:=am_ ((RdStep.drew B w g).trans (And.right HR.out))
  have HI2:=am_ (And.left HR.out)
  have c2:=(And.left HR.out).c0
  clear hR
  refine hK.out _ _ (c2) (fun hHeld => ?_)
  clear hK K
  refine norm_ (a':=?_) ?_ ?_
  rotate_left
  ·show Act.put _ (some 11) _=_
   simp only [Act.put,List.setIfInBounds_toArray,List.set_cons_zero,List.set_cons_succ,i64_w,i32_w]
   rfl
  refine one_ (i:=6) (N:=some 12) #[true,true,true,true,true,true,true,false,false,false,false,false] rfl rfl (by kernel_rfl) (by decide) (fun K hK => ?_)
  refine goes_ Tryz.func24 (by kernel_rfl) rfl #[.pointer (some ⟨g,0,none⟩),.int .i64 n] (by rfl) rfl rfl (by simp only [List.map_toArray,List.map_cons,List.map_nil];rfl) ?_
  with_reducible refine (rd_Bytes.calls B g bs q n w2 HI2.out.R HL.out HN.out).mono ?_
  rintro e w3 ⟨v0,rfl,hB3,hR3⟩
  refine ⟨_,rfl,?_⟩
  have HR3:=am_ (HI2.out.step hR3)
  have HB3:=am_ hB3
  have c3:=(And.left HR3.out).c0
  clear hB3 hR3
  refine hK.out _ _ (c3) (fun hHeld => ?_)
  clear hK K
  refine norm_ (a':=?_) ?_ ?_
  rotate_left
  ·show Act.put _ (some 12) _=_
   simp only [Act.put,List.setIfInBounds_toArray,List.set_cons_zero,List.set_cons_succ,i64_w,i32_w]
   rfl
  refine pr_ 7 (some 5) ?_
  refine pr_ 8 (some 13) ?_
  refine pr_ 9 (some 14) ?_
  refine pr_ 10 (some 3) ?_
  refine pr_ 11 (some 4) ?_
  refine done_ (by kernel_rfl) ?_
  clear hHeld HC c0_ c2
  have HRR:=am_ (CrPost.from ((RdStep.drew B w g).trans (And.right HR.out)) HR3.out)
  have HB4:=am_ (show Kd.R (Kd.int .u8) 5 w3 w.heap.size (fun _ => True) v0 (rdL bs q n) from Kd.R_lower HB3.out (And.right HR.out).keep.1)
  by_cases he:rdE bs q n=0
  ·rw [if_pos he] at h
   subst h
   rw [he]
   clear he
   go_wp2_with fail
   refine (cr_must_ok _ _).mono ?_
   rintro e w4 ⟨rfl,rfl⟩
   go_wp2
   go_ret
   exact ⟨_,rfl,HB4.out,HRR.out⟩
  rw [if_neg he] at h
  subst h
  have HE:=am_ he
  clear he
  go_wp2_with fail
  refine (cr_must_dies _ _ HE.out _).mono ?_
  rintro e w4 ⟨rfl,rfl⟩
  go_wp2
  exact ⟨rfl,rfl,HRR.out.below⟩
 | er n =>
  have h:=Option.some.inj HH.out
  subst h
  clear HH
  refine start_ (n:=12) (S:=fun w' => w'.cell? ⟨br,0,none⟩=some (.pointer (some ⟨g,0,none⟩))) (ds:=[]) #[false,false,false,false,false,false,false,false,false,false,false,false] (by kernel_rfl) rfl rfl (c0_) (fun hHeld => ?_)
  refine pr_ 0 (some 6) ?_
  refine pr_ 1 (some 7) ?_
  refine pr_ 2 (some 8) ?_
  refine pr_ 4 (some 10) ?_
  refine tk_ 3 (some 9) hHeld ?_ (hy:=by intro w' s0;go_simp;with_reducible rfl)
  refine one_ (i:=5) (N:=some 11) #[true,true,true,true,true,true,false,false,false,false,false,false] rfl rfl (by kernel_rfl) (by decide) (fun K hK => ?_)
  refine dies_ Tryz.func26 (by kernel_rfl) rfl #[.pointer (some ⟨br,0,none⟩),.int .i64 4,.int .i64 4096] (by rfl) rfl rfl (by simp only [List.map_toArray,List.map_cons,List.map_nil];rfl) ?_
  refine HC.out.mono ?_
  rintro e w2 ⟨rfl,hR⟩
  refine ⟨_,rfl,?_⟩
  have HR:=am_ hR
  clear hR
  exact ⟨rfl,rfl,(below_drew (Below.refl B w)).trans HR.out⟩
end Go.Proofs.YtamdobdmjcgmoaaGreatDoor.Px
