/- Plain law of pool.Check: what the program's check comes to. -/
/- Plain law of pool.Decode: what the program's comes to. -/
/- Plain law of modified UTF-8: what a text's bytes are ('encL'), and that the program's Encode and the reference's both come to them. -/
/- Plain law of the reference's check of a pool: it comes to the same. -/
/- Plain law of Decode, the reference's side. -/
/- Plain law of understudyref04.Decode (walked by hand): the pool of bytes, as decPV says. -/
/- Plain law of class.Check: what the program's check comes to. -/
/- class.Check comes to 'classCheckV'. -/
/- Plain law of class.reader: what the bytes of a class come to. -/
/- class.Decode comes to 'classD'; what was read stays, whatever is behind. -/
/- The reference's check of a class comes to the same; the pure statement of ClassChecks. -/
/- Plain law of understudyref05.Decode (a reader whose first error stays) against classD (a reader that leaves at the first error). -/
/- Plain law: the program of layer 5 computes at all. -/
/- The pure statement of ClassDecodes: the class of any bytes is what the document says. -/
import Derived.Test.YtamdobdmjcgmoaaGreatDoorM1
import Derived.Test.YtamdobdmjcgmoaaGreatDoorM4
import Derived.Test.YtamdobdmjcgmoaaGreatDoorM3
import Derived.Lib.ValidLaws
import Derived.Lib.DecodeN
import Derived.Lib.MapLaws
import Derived.Laws.BitsLemmas
import Derived.Test.YtamdobdmjcgmoaaGreatDoorM2
namespace Go.Proofs.YtamdobdmjcgmoaaGreatDoor.Px
open Go.RowKit Go.Proofs.YtamdobdmjcgmoaaGreatDoorW.PrintWords Go.Proofs.YtamdobdmjcgmoaaGreatDoorW.PrintLast Go.Proofs.YtamdobdmjcgmoaaGreatDoorW.PrintMore
set_option linter.unusedVariables false
set_option linter.unusedSimpArgs false
def fieldsV (c:Cst):Int × ByteArray × Int × Int × Int :=
 if c.f0=1 then (c.f0,c.f1,0,0,0) else if c.f0=3 ∨ c.f0=5 then (c.f0,⟨#[]⟩,c.f2,0,0) else if c.f0=9 ∨ c.f0=10 ∨ c.f0=12 then (c.f0,⟨#[]⟩,0,c.f3,c.f4) else if c.f0=7 then (c.f0,⟨#[]⟩,0,c.f3,0) else (c.f0,⟨#[]⟩,0,0,0)
def leadsV (p:List Cst) (c:Cst):Bool :=
 if c.f0=1 ∨ c.f0=5 then true else if c.f0=3 then decide (-2147483648≤c.f2∧c.f2≤2147483647) else if c.f0=7 then isV p c.f3 1 else if c.f0=12 then isV p c.f3 1 && isV p c.f4 1 else if c.f0=9 ∨ c.f0=10 then isV p c.f3 7 && isV p c.f4 12 else false
def bareV (c:Cst):Bool :=
 if c.f0=1 then decide (c.f2=0∧c.f3=0∧c.f4=0) else if c.f0=3 ∨ c.f0=5 then decide (c.f1.toList=[]∧c.f3=0∧c.f4=0) else if c.f0=7 then decide (c.f1.toList=[]∧c.f2=0∧c.f4=0) else decide (c.f1.toList=[]∧c.f2=0)
def oneV (p:List Cst) (c:Cst):Int :=
 if bareV c=true∧leadsV p c=true then (if c.f0=1∧¬ ((encV c.f1).2=0∧(encV c.f1).1.length≤256) then 20 else 0) else 40
def chkV:Nat→List Cst→Nat→Int
 | 0,_,_ => 0
 | n + 1,p,i => if i < p.length then (if oneV p (rd_T61 p (i:Int))=0 then chkV n p (i + 1) else oneV p (rd_T61 p (i:Int))) else 0
def zeroV (c:Cst):Bool:=decide (c.f0=0∧c.f1.toList=[]∧c.f2=0∧c.f3=0∧c.f4=0)
def checkV (p:List Cst):Int:=if p.length > 1024 then 2 else if p.length=0 then 40 else if zeroV (rd_T61 p 0)=true then chkV p.length p 1 else 40
theorem noBytes:(⟨#[]⟩:ByteArray).toList=[]:=by rw [Lib.toList_data]
theorem pool_fields.at2 (c:Cst):pool_fields.f 2 c.f0 c.f1 c.f2 c.f3 c.f4=some (fieldsV c):=by
 unfold fieldsV pool_fields.f
 simp only [pool_fields.j0,pool_fields.j1,beq_iff_eq]
 repeat' split
 all_goals first|rfl|(exfalso;omega)
theorem pool_fields.ev (c:Cst):Ev (fun k => pool_fields.f k c.f0 c.f1 c.f2 c.f3 c.f4) (fieldsV c):=Ev.of (fun k => pool_fields.mono _ _ _ _ _ k) (pool_fields.at2 c)
theorem wraps (x:Int) (h:(Lit.int .i64 x).wf=true):(wrap64 (wrap32 x)==x)=decide (-2147483648≤x∧x≤2147483647):=by
 simp [Lit.wf,IntKind.min,IntKind.max,IntKind.bits,IntKind.signed] at h
 rw [Bool.eq_iff_iff,beq_iff_eq,decide_eq_true_eq]
 unfold wrap64 wrap32
 omega
theorem pool_leads.at2 (p:List Cst) (c:Cst) (hw:(Lit.int .i64 c.f2).wf=true):pool_leads.f 2 p c.f0 c.f1 c.f2 c.f3 c.f4=some (leadsV p c):=by
 unfold leadsV pool_leads.f
 simp only [pool_leads.j0,pool_leads.j1,beq_iff_eq,pool_is.eq,Option.bind_some,wraps _ hw]
 by_cases h1:c.f0=1
 ·rw [if_pos h1,if_pos h1,if_pos (by omega)]
 rw [if_neg h1]
 by_cases h5:c.f0=5
 ·rw [if_pos h5,if_pos (by omega)]
 rw [if_neg h5,if_neg (show ¬ (c.f0=1 ∨ c.f0=5) by omega)]
 by_cases h3:c.f0=3
 ·rw [if_pos h3,if_pos h3]
 rw [if_neg h3,if_neg h3]
 by_cases h7:c.f0=7
 ·rw [if_pos h7,if_pos h7]
 rw [if_neg h7,if_neg h7]
 by_cases h12:c.f0=12
 ·rw [if_pos h12,if_pos h12]
  cases isV p c.f3 1 <;> simp
 rw [if_neg h12,if_neg h12]
 by_cases h9:c.f0=9
 ·rw [if_pos h9,if_pos h9,if_pos (show c.f0=9 ∨ c.f0=10 by omega)]
  cases isV p c.f3 7 <;> simp
 rw [if_neg h9]
 by_cases h10:c.f0=10
 ·rw [if_pos h10,if_pos (show c.f0=9 ∨ c.f0=10 by omega)]
  cases isV p c.f3 7 <;> simp
 rw [if_neg h10,if_neg (by omega)]
theorem pool_leads.ev (p:List Cst) (c:Cst) (hw:(Lit.int .i64 c.f2).wf=true):Ev (fun k => pool_leads.f k p c.f0 c.f1 c.f2 c.f3 c.f4) (leadsV p c):=Ev.of (fun k => pool_leads.mono _ _ _ _ _ _ k) (pool_leads.at2 p c hw)
theorem sameC_iff (c:Cst) (x:Int × ByteArray × Int × Int × Int):sameC c x=true ↔ c.f0=x.1∧c.f1.toList=x.2.1.toList∧c.f2=x.2.2.1∧c.f3=x.2.2.2.1∧c.f4=x.2.2.2.2:=by
 unfold sameC
 simp only [Bool.and_eq_true,beq_iff_eq]
theorem same_bare (p:List Cst) (c:Cst) (h:leadsV p c=true):sameC c (fieldsV c)=true ↔ bareV c=true:=by
 rw [sameC_iff]
 unfold fieldsV bareV
 unfold leadsV at h
 by_cases h1:c.f0=1
 ·simp [h1]
 by_cases h35:c.f0=3 ∨ c.f0=5
 ·rw [if_neg h1,if_neg h1,if_pos h35,if_pos h35]
  simp [noBytes]
 by_cases h9:c.f0=9 ∨ c.f0=10 ∨ c.f0=12
 ·rw [if_neg h1,if_neg h1,if_neg h35,if_neg h35,if_pos h9,if_neg (by omega)]
  simp [noBytes]
 by_cases h7:c.f0=7
 ·rw [if_neg h1,if_neg h1,if_neg h35,if_neg h35,if_neg h9,if_pos h7,if_pos h7]
  simp [noBytes]
 rw [if_neg (by omega),if_neg (by omega),if_neg (by omega),if_neg (by omega),if_neg (by omega)] at h
 cases h
theorem bare_text (c:Cst) (h:bareV c=true) (h1:c.f0 ≠ 1):encV c.f1=([],0):=by
 have ht:c.f1.toList=[]:=by
  unfold bareV at h
  rw [if_neg h1] at h
  split at h
  ·exact (of_decide_eq_true h).1
  split at h
  ·exact (of_decide_eq_true h).1
  exact (of_decide_eq_true h).1
 rw [Lib.toList_data] at ht
 unfold encV
 rw [ht]
 rfl
def codeOf (r:Option (Int × Int)):Int:=match r with|none => 0|some (_,y) => y
def FitC (c:Cst):Prop:=c.f1.size≤1099511627776∧(Lit.int .i64 c.f2).wf=true
theorem fit_zero:FitC z61:=⟨by decide,by decide⟩
theorem fit_rd {p:List Cst} (h:∀ c ∈ p,FitC c) (i:Int):FitC (rd_T61 p i):=by
 unfold rd_T61
 rw [List.getD_eq_getElem?_getD]
 cases e:p[i.toNat]? with
 | none => exact fit_zero
 | some x => exact h x (List.mem_of_getElem? e)
theorem pool_check.ev_l (p:List Cst) (hp:∀ c ∈ p,FitC c):∀ n i,p.length≤i + 1 + n→∃ r,Ev (fun k => pool_check.l0 k p i) r∧codeOf r=chkV n p (i + 1):=by
 have stop:∀ i,¬ i + 1 < p.length→Ev (fun k => pool_check.l0 k p i) none:=fun i hi => Ev.step (f:=fun _ => some none) (fun k => by simp only [pool_check.l0];rw [if_neg hi]) (Ev.now _)
 intro n
 induction n with
 | zero => intro i h;exact ⟨none,stop i (by omega),rfl⟩
 | succ n ih =>
  intro i h
  by_cases hi:i + 1 < p.length
  rotate_left
  ·refine ⟨none,stop i hi,?_⟩
   show (0:Int)=if i + 1 < p.length then _ else 0
   rw [if_neg hi]
  obtain ⟨c,hc⟩:∃ c,c=rd_T61 p ((i:Int) + 1):=⟨_,rfl⟩
  have hfit:FitC c:=hc ▸ fit_rd hp _
  have hV:chkV (n + 1) p (i + 1)=if oneV p c=0 then chkV n p (i + 2) else oneV p c:=by
   rw [hc]
   show (if i + 1 < p.length then _ else _)=_
   rw [if_pos hi]
   rfl
  rw [hV]
  have step:∀ r,Ev (fun k => (pool_fields.f k c.f0 c.f1 c.f2 c.f3 c.f4).bind fun x => if sameC c x=true then (pool_leads.f k p c.f0 c.f1 c.f2 c.f3 c.f4).bind fun t => if t=true then (text_Encode.f k c.f1).bind fun b => if b.2=0 then (if (b.1.length:Int) > 256 then some (some ((i:Int) + 1,20)) else pool_check.l0 k p (i + 1)) else some (some ((i:Int) + 1,20)) else some (some ((i:Int) + 1,40)) else some (some ((i:Int) + 1,40))) r→Ev (fun k => pool_check.l0 k p i) r:=fun r hr => Ev.step (fun k => by simp only [pool_check.l0];rw [if_pos hi,← hc]) hr
  by_cases hs:sameC c (fieldsV c)=true
  ·by_cases hl:leadsV p c=true
   ·have hb:=(same_bare p c hl).1 hs
    by_cases he:(encV c.f1).2=0∧(encV c.f1).1.length≤256
    ·obtain ⟨r,hr,hrc⟩:=ih (i + 1) (by omega)
     have h1:oneV p c=0:=by unfold oneV;rw [if_pos ⟨hb,hl⟩,if_neg (fun h => h.2 he)]
     rw [if_pos h1]
     refine ⟨r,step r (Ev.bind (pool_fields.ev c) (Ev.congr (fun k => if_pos hs) (Ev.bind (pool_leads.ev p c hfit.2) (Ev.congr (fun k => if_pos hl) (Ev.bind (text_Encode.ev c.f1 hfit.1) (Ev.congr (fun k => (if_pos he.1).trans (if_neg (by omega))) hr)))))),hrc⟩
    have hf1:c.f0=1:=by
     apply Classical.byContradiction
     intro h
     rw [bare_text c hb h] at he
     exact he ⟨rfl,by simp⟩
    have h1:oneV p c=20:=by unfold oneV;rw [if_pos ⟨hb,hl⟩,if_pos ⟨hf1,he⟩]
    rw [h1,if_neg (by decide)]
    refine ⟨some ((i:Int) + 1,20),step _ (Ev.bind (pool_fields.ev c) (Ev.congr (fun k => if_pos hs) (Ev.bind (pool_leads.ev p c hfit.2) (Ev.congr (fun k => if_pos hl) (Ev.bind (text_Encode.ev c.f1 hfit.1) ?_))))),rfl⟩
    by_cases h0:(encV c.f1).2=0
    ·exact Ev.congr (fun k => (if_pos h0).trans (if_pos (by omega))) (Ev.now _)
    exact Ev.congr (fun k => if_neg h0) (Ev.now _)
   have h1:oneV p c=40:=by unfold oneV;rw [if_neg (fun h => hl h.2)]
   rw [h1,if_neg (by decide)]
   exact ⟨some ((i:Int) + 1,40),step _ (Ev.bind (pool_fields.ev c) (Ev.congr (fun k => if_pos hs) (Ev.bind (pool_leads.ev p c hfit.2) (Ev.congr (fun k => if_neg hl) (Ev.now _))))),rfl⟩
  have h1:oneV p c=40:=by
   unfold oneV
   rw [if_neg (fun h => hs ((same_bare p c h.2).2 h.1))]
  rw [h1,if_neg (by decide)]
  exact ⟨some ((i:Int) + 1,40),step _ (Ev.bind (pool_fields.ev c) (Ev.congr (fun k => if_neg hs) (Ev.now _))),rfl⟩
theorem zeroV_iff (c:Cst):sameC c (0,⟨#[]⟩,0,0,0)=zeroV c:=by
 rw [Bool.eq_iff_iff,sameC_iff]
 unfold zeroV
 rw [decide_eq_true_eq,noBytes]
theorem pool_Check.ev (p:List Cst) (hp:∀ c ∈ p,FitC c):Ev (fun k => pool_Check.f k p) (checkV p):=by
 have key:∀ r,Ev (fun k => pool_check.f k p) r→Ev (fun k => pool_Check.f k p) (codeOf r):=fun r hr => Ev.bind hr (Ev.now _)
 unfold checkV
 by_cases c1:p.length > 1024
 ·rw [if_pos c1]
  exact key (some (0,2)) (Ev.congr (f:=fun _ => some (some (0,2))) (fun k => by unfold pool_check.f;rw [if_pos c1]) (Ev.now _))
 rw [if_neg c1]
 by_cases c2:p.length=0
 ·rw [if_pos c2]
  exact key (some (0,40)) (Ev.congr (f:=fun _ => some (some (0,40))) (fun k => by unfold pool_check.f;rw [if_neg c1,if_pos c2]) (Ev.now _))
 rw [if_neg c2]
 by_cases c3:zeroV (rd_T61 p 0)=true
 ·rw [if_pos c3]
  obtain ⟨r,hr,hrc⟩:=pool_check.ev_l p hp p.length 0 (by omega)
  have:=key r (Ev.congr (f:=fun k => pool_check.l0 k p 0) (fun k => by unfold pool_check.f;rw [if_neg c1,if_neg c2,zeroV_iff,if_pos c3]) hr)
  rw [hrc] at this
  exact this
 rw [if_neg c3]
 exact key (some (0,40)) (Ev.congr (f:=fun _ => some (some (0,40))) (fun k => by unfold pool_check.f;rw [if_neg c1,if_neg c2,zeroV_iff,if_neg c3]) (Ev.now _))
end Go.Proofs.YtamdobdmjcgmoaaGreatDoor.Px
namespace Go.Proofs.YtamdobdmjcgmoaaGreatDoor.Px
open Go.RowKit Go.Proofs.YtamdobdmjcgmoaaGreatDoorW.PrintWords Go.Proofs.YtamdobdmjcgmoaaGreatDoorW.PrintLast Go.Proofs.YtamdobdmjcgmoaaGreatDoorW.PrintMore
set_option linter.unusedVariables false
set_option linter.unusedSimpArgs false
def uV (bs:List Int) (p n:Nat):Int × Int × Nat:=(beV (rdL bs p n),rdE bs p n,rdP bs p n)
def twoV (bs:List Int) (p:Nat) (e:Int):Int × Int × Nat:=if e=0 then uV bs p 2 else (0,e,p)
def bodyV (bs:List Int) (t:Int) (p:Nat):Cst × Int × Nat :=
 if t=1 then
  (if (uV bs p 2).2.1=0 then
   (if (uV bs p 2).1 > 256 then (⟨t,⟨#[]⟩,0,0,0⟩,20,(uV bs p 2).2.2)
    else if rdE bs (uV bs p 2).2.2 (uV bs p 2).1.toNat=0 then (⟨t,(DecV (rdL bs (uV bs p 2).2.2 (uV bs p 2).1.toNat)).1,0,0,0⟩,(DecV (rdL bs (uV bs p 2).2.2 (uV bs p 2).1.toNat)).2,rdP bs (uV bs p 2).2.2 (uV bs p 2).1.toNat)
      else (⟨t,⟨#[]⟩,0,0,0⟩,rdE bs (uV bs p 2).2.2 (uV bs p 2).1.toNat,rdP bs (uV bs p 2).2.2 (uV bs p 2).1.toNat))
   else (⟨t,⟨#[]⟩,0,0,0⟩,(uV bs p 2).2.1,(uV bs p 2).2.2))
 else if t=3 then (⟨t,⟨#[]⟩,(iV bs p 4).1,0,0⟩,(iV bs p 4).2.1,(iV bs p 4).2.2)
 else if t=5 then (⟨t,⟨#[]⟩,(iV bs p 8).1,0,0⟩,(iV bs p 8).2.1,(iV bs p 8).2.2)
 else if t=7 then (⟨t,⟨#[]⟩,0,(uV bs p 2).1,0⟩,(uV bs p 2).2.1,(uV bs p 2).2.2)
 else if t=9 ∨ t=10 ∨ t=12 then (⟨t,⟨#[]⟩,0,(uV bs p 2).1,(twoV bs (uV bs p 2).2.2 (uV bs p 2).2.1).1⟩,(twoV bs (uV bs p 2).2.2 (uV bs p 2).2.1).2.1,(twoV bs (uV bs p 2).2.2 (uV bs p 2).2.1).2.2)
 else (⟨t,⟨#[]⟩,0,0,0⟩,40,p)
def constV (bs:List Int) (p:Nat):Cst × Int × Nat :=
 if (uV bs p 1).2.1=0 then bodyV bs (uV bs p 1).1 (uV bs p 1).2.2 else (⟨(uV bs p 1).1,⟨#[]⟩,0,0,0⟩,(uV bs p 1).2.1,(uV bs p 1).2.2)
theorem pow256_mono {a b:Nat} (h:a≤b):(256:Int) ^ a≤256 ^ b:=by
 have h1:=Int.ofNat_le.2 (Nat.pow_le_pow_right (n:=256) (by decide) h)
 rw [Int.natCast_pow,Int.natCast_pow] at h1
 exact h1
theorem beV_lt {l:List Int} (h:IsBytes l) {n:Nat} (hl:l.length≤n):0≤beV l∧beV l < 256 ^ n:=by
 have h1:=beV_range l h
 have h2:(256:Int) ^ l.length≤256 ^ n:=pow256_mono hl
 omega
theorem u1_range {bs:List Int} (h:IsBytes bs) (p:Nat):0≤(uV bs p 1).1∧(uV bs p 1).1 < 256:=beV_lt (n:=1) (rdL_bytes h p 1) (rdL_le bs p 1)
theorem u2_range {bs:List Int} (h:IsBytes bs) (p:Nat):0≤(uV bs p 2).1∧(uV bs p 2).1 < 65536:=beV_lt (n:=2) (rdL_bytes h p 2) (rdL_le bs p 2)
theorem uV.ev {bs:List Int} (hb:IsBytes bs) (p n:Nat) (h8:n≤8):Ev (fun k => rd_Uint.f k bs p n) (uV bs p n):=uint.ev bs hb p n h8
theorem pool_two.ev {bs:List Int} (hb:IsBytes bs) (p:Nat) (e:Int):Ev (fun k => pool_two.f k bs p e) (twoV bs p e):=by
 unfold pool_two.f twoV
 by_cases he:e=0
 ·rw [if_pos he]
  refine Ev.congr (fun k => if_pos he) (Ev.bind (uV.ev hb p 2 (by decide)) ?_)
  exact Ev.congr (fun k => if_pos (u2_range hb p)) (Ev.now _)
 rw [if_neg he]
 exact Ev.congr (fun k => if_neg he) (Ev.now _)
theorem twoV_zero (bs:List Int) (p:Nat):twoV bs p 0=uV bs p 2:=if_pos rfl
theorem pool_constant.ev {bs:List Int} (hb:IsBytes bs) (hl:bs.length≤140737488351232) (p:Nat):Ev (fun k => pool_constant.f k bs p) (constV bs p):=by
 unfold pool_constant.f constV
 refine Ev.bind (uV.ev hb p 1 (by decide)) ?_
 refine Ev.congr (fun k => if_pos (u1_range hb p)) ?_
 by_cases he:(uV bs p 1).2.1=0
 rotate_left
 ·rw [if_neg he]
  exact Ev.congr (fun k => if_neg he) (Ev.now _)
 refine Ev.congr (fun k => if_pos he) ?_
 rw [if_pos he]
 generalize (uV bs p 1).1=t
 generalize (uV bs p 1).2.2=q
 unfold bodyV
 have e2:=twoV_zero bs q ▸ pool_two.ev hb q 0
 have h2:=u2_range hb q
 by_cases h1:t=1
 ·rw [if_pos h1]
  refine Ev.congr (fun k => if_pos h1) (Ev.bind e2 ?_)
  by_cases h0:(uV bs q 2).2.1=0
  ·rw [if_pos h0]
   refine Ev.congr (fun k => if_pos h0) ?_
   by_cases h3:(uV bs q 2).1 > 256
   ·rw [if_pos h3]
    exact Ev.congr (fun k => if_pos h3) (Ev.now _)
   rw [if_neg h3]
   refine Ev.congr (fun k => if_neg h3) ?_
   by_cases h4:rdE bs (uV bs q 2).2.2 (uV bs q 2).1.toNat=0
   ·rw [if_pos h4]
    refine Ev.congr (fun k => if_pos h4) (Ev.bind (text_Decode.ev _ (rdL_bytes hb _ _) (by have:=rdL_le bs (uV bs q 2).2.2 (uV bs q 2).1.toNat;omega)) (Ev.now _))
   rw [if_neg h4]
   exact Ev.congr (fun k => if_neg h4) (Ev.now _)
  rw [if_neg h0]
  exact Ev.congr (fun k => if_neg h0) (Ev.now _)
 rw [if_neg h1]
 refine Ev.congr (fun k => if_neg h1) ?_
 by_cases h3:t=3
 ·rw [if_pos h3]
  exact Ev.congr (fun k => if_pos h3) (Ev.bind (int.ev bs hb q 4 (by decide) (by decide)) (Ev.now _))
 rw [if_neg h3]
 refine Ev.congr (fun k => if_neg h3) ?_
 by_cases h5:t=5
 ·rw [if_pos h5]
  exact Ev.congr (fun k => if_pos h5) (Ev.bind (int.ev bs hb q 8 (by decide) (by decide)) (Ev.now _))
 rw [if_neg h5]
 refine Ev.congr (fun k => if_neg h5) ?_
 by_cases h7:t=7
 ·rw [if_pos h7]
  exact Ev.congr (fun k => if_pos h7) (Ev.bind e2 (Ev.now _))
 rw [if_neg h7]
 refine Ev.congr (fun k => if_neg h7) ?_
 by_cases h9:t=9 ∨ t=10 ∨ t=12
 ·rw [if_pos h9]
  exact Ev.congr (fun k => if_pos h9) (Ev.bind e2 (Ev.bind (pool_two.ev hb _ _) (Ev.now _)))
 rw [if_neg h9]
 exact Ev.congr (fun k => if_neg h9) (Ev.now _)
theorem intV_range {l:List Int} (h:IsBytes l) (h1:1≤l.length) (h8:l.length≤8):-9223372036854775808≤intV l∧intV l < 9223372036854775808:=by
 cases l with
 | nil => simp at h1
 | cons b t =>
  have hc:=h b List.mem_cons_self
  have ht:IsBytes t:=fun x hx => h x (List.mem_cons_of_mem _ hx)
  have hl:t.length≤7:=by simp at h8;omega
  have hr:=beV_range t ht
  have hp:=pow256 hl
  have hp1:1≤(256:Int) ^ t.length:=by omega
  rw [← intV_cons]
  generalize beV t=y at hr
  generalize (256:Int) ^ t.length=q at hr hp hp1
  have hs:-128 * q≤(if b < 128 then b else b - 256) * q∧(if b < 128 then b else b - 256) * q≤127 * q :=
   ⟨Int.mul_le_mul_of_nonneg_right (by split <;> omega) (by omega),Int.mul_le_mul_of_nonneg_right (by split <;> omega) (by omega)⟩
  omega
theorem wf_i64 {x:Int} (h:-9223372036854775808≤x∧x < 9223372036854775808):(Lit.int .i64 x).wf=true:=by
 simp [Lit.wf,IntKind.min,IntKind.max,IntKind.bits,IntKind.signed]
 omega
theorem iV_wf {bs:List Int} (h:IsBytes bs) (p n:Nat) (h1:1≤n) (h8:n≤8):(Lit.int .i64 (iV bs p n).1).wf=true:=by
 unfold iV
 by_cases hs:p + n≤bs.length
 ·rw [if_pos hs]
  have hl:=rdL_len hs
  exact wf_i64 (intV_range (rdL_bytes h p n) (by omega) (by omega))
 rw [if_neg hs];show (Lit.int .i64 0).wf=true;decide
theorem strOfNums_len (l:List Int):(strOfNums l).size=l.length:=by
 unfold strOfNums
 simp [ByteArray.size]
theorem DecV_len {L:List Int} (h:IsBytes L) (h0:(DecV L).2=0):(DecV L).1.size≤L.length:=by
 have e:decV (L.length + 1) L []=((DecV L).1,0):=by rw [← h0];rfl
 obtain ⟨X,_,ht,hx,_⟩:=enc_dec _ L [] _ h e
 rw [ht,strOfNums_len,List.nil_append]
 exact hx
theorem bodyV_fit {bs:List Int} (h:IsBytes bs) (t:Int) (p:Nat) (h0:(bodyV bs t p).2.1=0):FitC (bodyV bs t p).1:=by
 have hz:∀ t x y,FitC ⟨t,⟨#[]⟩,0,x,y⟩:=fun t x y => ⟨by show (⟨#[]⟩:ByteArray).size≤_;decide,by show (Lit.int .i64 0).wf=true;decide⟩
 have h2:=u2_range h p
 unfold bodyV at h0 ⊢
 by_cases h1:t=1
 ·rw [if_pos h1] at h0 ⊢
  by_cases h3:(uV bs p 2).2.1=0
  ·rw [if_pos h3] at h0 ⊢
   by_cases h4:(uV bs p 2).1 > 256
   ·rw [if_pos h4] at h0 ⊢;exact hz _ _ _
   rw [if_neg h4] at h0 ⊢
   by_cases h5:rdE bs (uV bs p 2).2.2 (uV bs p 2).1.toNat=0
   ·rw [if_pos h5] at h0 ⊢
    have hd:=DecV_len (rdL_bytes h (uV bs p 2).2.2 (uV bs p 2).1.toNat) h0
    have:=rdL_le bs (uV bs p 2).2.2 (uV bs p 2).1.toNat
    exact ⟨by show (DecV _).1.size≤_;omega,by show (Lit.int .i64 0).wf=true;decide⟩
   rw [if_neg h5] at h0 ⊢;exact hz _ _ _
  rw [if_neg h3] at h0 ⊢;exact hz _ _ _
 rw [if_neg h1]
 by_cases h3:t=3
 ·rw [if_pos h3]
  exact ⟨by show (⟨#[]⟩:ByteArray).size≤_;decide,iV_wf h p 4 (by decide) (by decide)⟩
 rw [if_neg h3]
 by_cases h5:t=5
 ·rw [if_pos h5]
  exact ⟨by show (⟨#[]⟩:ByteArray).size≤_;decide,iV_wf h p 8 (by decide) (by decide)⟩
 rw [if_neg h5]
 repeat' split
 all_goals exact hz _ _ _
def decL:Nat→List Int→Int→List Cst→Nat→List Cst × Int × Int
 | 0,_,_,_,_ => ([],0,0)
 | f + 1,bs,n,ps,p =>
  if (ps.length:Int) < n then (if (constV bs p).2.1=0 then decL f bs n (ps++[(constV bs p).1]) (constV bs p).2.2 else ([],0,(constV bs p).2.1))
  else if checkV ps=0 then (ps,(p:Int),0) else ([],0,checkV ps)
def decPV (bs:List Int):List Cst × Int × Int :=
 if (uV bs 0 2).2.1=0 then (if (uV bs 0 2).1 > 1024 then ([],0,2) else if (uV bs 0 2).1=0 then ([],0,40) else decL ((uV bs 0 2).1.toNat + 1) bs (uV bs 0 2).1 [z61] (uV bs 0 2).2.2) else ([],0,(uV bs 0 2).2.1)
theorem constV_fit {bs:List Int} (h:IsBytes bs) (p:Nat) (h0:(constV bs p).2.1=0):FitC (constV bs p).1:=by
 unfold constV at h0 ⊢
 by_cases he:(uV bs p 1).2.1=0
 ·rw [if_pos he] at h0 ⊢
  exact bodyV_fit h _ _ h0
 rw [if_neg he] at h0
 exact absurd h0 he
theorem pool_Decode.ev_l {bs:List Int} (hb:IsBytes bs) (hl:bs.length≤140737488351232) (n:Int) (hn:n≤1024):∀ (f:Nat) (ps:List Cst) (p:Nat),n≤ps.length + f→ps.length≤1024→(∀ c ∈ ps,FitC c)→Ev (fun k => pool_Decode.l0 k bs n ps p) (decL (f + 1) bs n ps p):=by
 have last:∀ (f:Nat) (ps:List Cst) (p:Nat),¬ (ps.length:Int) < n→(∀ c ∈ ps,FitC c)→Ev (fun k => pool_Decode.l0 k bs n ps p) (decL (f + 1) bs n ps p):=by
  intro f ps p hs hf
  refine Ev.step (fun k => by simp only [pool_Decode.l0];rw [if_neg hs]) ?_
  unfold decL
  rw [if_neg hs]
  refine Ev.bind (pool_Check.ev ps hf) ?_
  by_cases h0:checkV ps=0
  ·simp only [if_pos h0]
   exact Ev.now _
  simp only [if_neg h0]
  exact Ev.now _
 intro f
 induction f with
 | zero => intro ps p h hp hf;exact last 0 ps p (by omega) hf
 | succ f ih =>
  intro ps p h hp hf
  by_cases hs:(ps.length:Int) < n
  ·refine Ev.step (fun k => by simp only [pool_Decode.l0];rw [if_pos hs]) ?_
   rw [decL,if_pos hs]
   refine Ev.bind (pool_constant.ev hb hl p) ?_
   by_cases h0:(constV bs p).2.1=0
   ·rw [if_pos h0]
    refine Ev.congr (fun k => (if_pos h0).trans (if_pos (by omega))) ?_
    refine ih (ps++[(constV bs p).1]) (constV bs p).2.2 (by rw [List.length_append,List.length_singleton];omega) (by rw [List.length_append,List.length_singleton];omega) ?_
    intro c hc
    rcases List.mem_append.1 hc with hc|hc
    ·exact hf c hc
    rw [List.mem_singleton.1 hc]
    exact constV_fit hb p h0
   rw [if_neg h0]
   exact Ev.congr (fun k => if_neg h0) (Ev.now _)
  exact last (f + 1) ps p hs hf
theorem one_fit:∀ c ∈ [z61],FitC c:=fun c hc => by rw [List.mem_singleton.1 hc];exact fit_zero
theorem pool_Decode.ev {bs:List Int} (hb:IsBytes bs) (hl:bs.length≤140737488351232):Ev (fun k => pool_Decode.f k bs) (decPV bs):=by
 unfold pool_Decode.f decPV
 refine Ev.congr (fun k => if_pos (by omega)) ?_
 refine Ev.bind (uV.ev hb 0 2 (by decide)) ?_
 have h2:=u2_range hb 0
 refine Ev.congr (fun k => if_pos h2) ?_
 by_cases h0:(uV bs 0 2).2.1=0
 ·rw [if_pos h0]
  refine Ev.congr (fun k => if_pos h0) ?_
  by_cases h3:(uV bs 0 2).1 > 1024
  ·rw [if_pos h3]
   exact Ev.congr (fun k => if_pos h3) (Ev.now _)
  rw [if_neg h3]
  refine Ev.congr (fun k => if_neg h3) ?_
  by_cases h4:(uV bs 0 2).1=0
  ·rw [if_pos h4]
   exact Ev.congr (fun k => if_pos h4) (Ev.now _)
  rw [if_neg h4]
  refine Ev.congr (fun k => if_neg h4) ?_
  exact pool_Decode.ev_l hb hl _ (by omega) (uV bs 0 2).1.toNat [z61] (uV bs 0 2).2.2 (by simp;omega) (by simp) one_fit
 rw [if_neg h0]
 exact Ev.congr (fun k => if_neg h0) (Ev.now _)
end Go.Proofs.YtamdobdmjcgmoaaGreatDoor.Px
namespace Go.Proofs.YtamdobdmjcgmoaaGreatDoor.Px
open Go.RowKit Go.Proofs.YtamdobdmjcgmoaaGreatDoorW.PrintWords Go.Proofs.YtamdobdmjcgmoaaGreatDoorW.PrintLast Go.Proofs.YtamdobdmjcgmoaaGreatDoorW.PrintMore
set_option linter.unusedVariables false
set_option linter.unusedSimpArgs false
theorem ref_unit.ev (u:Int) (h0:0≤u) (h1:u < 65536):Ev (fun k => understudyref02_unit.f k u) (unitL u):=by
 refine ⟨1,fun k hk => ?_⟩
 obtain ⟨k,rfl⟩:∃ m,k=m + 1:=⟨k - 1,by omega⟩
 have d64:Int.tdiv u 64=u / 64:=Int.tdiv_eq_ediv_of_nonneg h0
 have d4096:Int.tdiv u 4096=u / 4096:=Int.tdiv_eq_ediv_of_nonneg h0
 have m64:Int.tmod u 64=u % 64:=Int.tmod_eq_emod_of_nonneg h0
 have m64':Int.tmod (u / 64) 64=u / 64 % 64:=Int.tmod_eq_emod_of_nonneg (by omega)
 show understudyref02_unit.f (k + 1) u=_
 unfold understudyref02_unit.f unitL
 by_cases c1:1≤u∧u≤127
 ·rw [if_pos c1,if_pos (by omega),decide_eq_true (by omega)]
  simp only [understudyref02_unit.j0]
  rw [if_pos trivial,show u % 256=u from by omega]
 rw [if_neg c1]
 have key:understudyref02_unit.j0 (k + 1) u false=some (if u≤2047 then [192 + u / 64,128 + u % 64] else [224 + u / 4096,128 + u / 64 % 64,128 + u % 64]):=by
  simp only [understudyref02_unit.j0]
  rw [if_neg (by simp),d64,d4096,m64,w64 (x:=u / 64) (by omega) (by omega),w64 (x:=u / 4096) (by omega) (by omega),m64',w64 (x:=192 + u / 64) (by omega) (by omega),w64 (x:=128 + u % 64) (by omega) (by omega),w64 (x:=224 + u / 4096) (by omega) (by omega),w64 (x:=128 + u / 64 % 64) (by omega) (by omega)]
  by_cases c2:u≤2047
  ·rw [if_pos c2,if_pos c2,show (192 + u / 64) % 256=192 + u / 64 from by omega,show (128 + u % 64) % 256=128 + u % 64 from by omega]
  rw [if_neg c2,if_neg c2,show (224 + u / 4096) % 256=224 + u / 4096 from by omega,show (128 + u % 64) % 256=128 + u % 64 from by omega,show (128 + u / 64 % 64) % 256=128 + u / 64 % 64 from by omega]
 by_cases c3:u ≥ 1
 ·rw [if_pos c3,decide_eq_false (by omega),key]
 rw [if_neg c3,key]
theorem bt_nat (s:ByteArray) (i:Nat) (h:i < s.size):bt s (i:Int)=((s.get! i).toNat:Int):=by
 have h':((i:Int)).toNat < s.size:=by omega
 have e:=Utf8W.get!_of_lt s i h
 unfold bt
 rw [dif_pos h',e]
 rfl
theorem point_step (k:Nat) (s:ByteArray) (c n least:Int) (i b:Nat) (hi:(i:Int) < n) (hs:i < s.size) (hb:(s.get! i).toNat=b) (hn:n≤4) (h1:128≤b) (h2:b≤191) (hc0:0≤c) (hc1:c < 65536) :
  understudyref02_point.l0 (k + 1) s c n least (i:Int)=understudyref02_point.l0 k s (c * 64 + (b:Int) % 64) n least ((i:Int) + 1):=by
 have e:=bt_nat s i hs
 rw [hb] at e
 have e1:bits .and .u8 (b:Int) 63=(b:Int) % 64:=u8_and63 _ (by omega) (by omega)
 have e2:bits .or .i64 (c * 64) ((b:Int) % 64)=c * 64 + (b:Int) % 64:=bits_join .i64 63 (by decide) wraps_i64' 6 (c * 64) ((b:Int) % 64) (by omega) (by omega) (by omega) (by omega) (by omega) (by omega)
 simp only [understudyref02_point.l0]
 rw [if_pos hi,if_pos (by omega),if_pos (by omega),e,if_neg (by omega),if_neg (by omega),e1,w64 (x:=c * 64) (by omega) (by omega),w64 (x:=(b:Int) % 64) (by omega) (by omega),e2,w64 (by omega) (by omega)]
theorem point_bad (k:Nat) (s:ByteArray) (c n least:Int) (i b:Nat) (hi:(i:Int) < n) (hs:i < s.size) (hb:(s.get! i).toNat=b) (h:b < 128 ∨ 191 < b) :
  understudyref02_point.l0 (k + 1) s c n least (i:Int)=some (0,0):=by
 have e:=bt_nat s i hs
 rw [hb] at e
 simp only [understudyref02_point.l0]
 rw [if_pos hi,if_pos (by omega),if_pos (by omega),e]
 rcases h with h|h
 ·rw [if_pos (by omega)]
 rw [if_neg (by omega),if_pos (by omega)]
theorem point_end (k:Nat) (s:ByteArray) (c n least i:Int) (hi:¬ i < n) :
  understudyref02_point.l0 (k + 1) s c n least i=some (if c < least ∨ c > 1114111 ∨ (55296≤c∧c≤57343) then (0,0) else (c,n)):=by
 simp only [understudyref02_point.l0]
 rw [if_neg hi]
 by_cases h1:c < least
 ·rw [if_pos h1,if_pos (.inl h1)]
 rw [if_neg h1]
 by_cases h2:c > 1114111
 ·rw [if_pos h2,if_pos (.inr (.inl h2))]
 rw [if_neg h2]
 by_cases h3:c ≥ 55296
 ·rw [if_pos h3]
  by_cases h4:c≤57343
  ·rw [if_pos h4,if_pos (.inr (.inr ⟨h3,h4⟩))]
  rw [if_neg h4,if_neg (by omega)]
 rw [if_neg h3,if_neg (by omega)]
def pointV (s:ByteArray):Int × Int:=if (Utf8.decode s 0).1=65533∧(Utf8.decode s 0).2=1 then (0,0) else (((Utf8.decode s 0).1:Int),((Utf8.decode s 0).2:Int))
def pointN (d:Nat × Nat):Int × Int:=if d.1=65533∧d.2=1 then (0,0) else ((d.1:Int),(d.2:Int))
theorem pointV_eq (s:ByteArray):pointV s=pointN (Lib.decodeN s.size (s.get! 0).toNat (s.get! 1).toNat (s.get! 2).toNat (s.get! 3).toNat):=by
 unfold pointV pointN
 rw [Lib.decode_at,Nat.sub_zero]
theorem pointN_bad {d:Nat × Nat} (h:d=(65533,1)):pointN d=(0,0):=by rw [h];rfl
theorem pointN_good {d:Nat × Nat} {c n:Nat} (h:d=(c,n)) (hn:¬ (c=65533∧n=1)):pointN d=((c:Int),(n:Int)):=by rw [h];unfold pointN;rw [if_neg hn]
theorem point2 (k:Nat) (s:ByteArray) (b0:Nat) (h0:194≤b0) (h1:b0≤223) :
  understudyref02_point.j2 (k + 4) s ((b0:Int) % 32) 2 128=some (pointN (Lib.decodeN s.size b0 (s.get! 1).toNat (s.get! 2).toNat (s.get! 3).toNat)):=by
 generalize e1:(s.get! 1).toNat=b1
 simp only [understudyref02_point.j2]
 by_cases hs:(s.size:Int) < 2
 ·rw [if_pos hs]
  rw [pointN_bad (by unfold Lib.decodeN;rw [if_neg (by omega),if_neg (by omega),if_neg (by omega),if_neg (by omega)])]
 rw [if_neg hs]
 by_cases hb:b1 < 128 ∨ 191 < b1
 ·rw [show (1:Int)=((1:Nat):Int) from rfl,point_bad (k + 2) s _ 2 128 1 b1 (by omega) (by omega) e1 hb]
  rw [pointN_bad (by unfold Lib.decodeN;rw [if_neg (by omega),if_neg (by omega),if_neg (by omega),if_neg (by omega)])]
 rw [show (1:Int)=((1:Nat):Int) from rfl,point_step (k + 2) s _ 2 128 1 b1 (by omega) (by omega) e1 (by omega) (by omega) (by omega) (by omega) (by omega),point_end _ _ _ _ _ _ (by omega),if_neg (by omega)]
 rw [pointN_good (c:=b0 % 32 * 64 + b1 % 64) (n:=2) (by unfold Lib.decodeN;rw [if_neg (by omega),if_pos (by omega),if_pos (by omega)]) (by omega)]
 have:((b0 % 32 * 64 + b1 % 64:Nat):Int)=(b0:Int) % 32 * 64 + (b1:Int) % 64:=by omega
 rw [this]
 rfl
theorem point3 (k:Nat) (s:ByteArray) (b0:Nat) (h0:224≤b0) (h1:b0≤239) :
  understudyref02_point.j2 (k + 5) s ((b0:Int) % 16) 3 2048=some (pointN (Lib.decodeN s.size b0 (s.get! 1).toNat (s.get! 2).toNat (s.get! 3).toNat)):=by
 generalize e1:(s.get! 1).toNat=b1
 generalize e2:(s.get! 2).toNat=b2
 simp only [understudyref02_point.j2]
 have fin:∀ b3:Nat,¬ ((1 < s.size∧b1 / 64=2)∧(2 < s.size∧b2 / 64=2))→pointN (Lib.decodeN s.size b0 b1 b2 b3)=(0,0):=by
  intro b3 hh
  exact pointN_bad (by unfold Lib.decodeN;rw [if_neg (by omega),if_neg (by omega),if_neg (by omega),if_neg (by omega)])
 by_cases hs:(s.size:Int) < 3
 ·rw [if_pos hs,fin _ (by omega)]
 rw [if_neg hs]
 by_cases hb:b1 < 128 ∨ 191 < b1
 ·rw [show (1:Int)=((1:Nat):Int) from rfl,point_bad (k + 3) s _ 3 2048 1 b1 (by omega) (by omega) e1 hb,fin _ (by omega)]
 rw [show (1:Int)=((1:Nat):Int) from rfl,point_step (k + 3) s _ 3 2048 1 b1 (by omega) (by omega) e1 (by omega) (by omega) (by omega) (by omega) (by omega)]
 by_cases hb2:b2 < 128 ∨ 191 < b2
 ·rw [show ((1:Nat):Int) + 1=((2:Nat):Int) from rfl,point_bad (k + 2) s _ 3 2048 2 b2 (by omega) (by omega) e2 hb2,fin _ (by omega)]
 rw [show ((1:Nat):Int) + 1=((2:Nat):Int) from rfl,point_step (k + 2) s _ 3 2048 2 b2 (by omega) (by omega) e2 (by omega) (by omega) (by omega) (by omega) (by omega),point_end _ _ _ _ _ _ (by omega)]
 generalize (s.get! 3).toNat=b3
 have hd:Lib.decodeN s.size b0 b1 b2 b3=if b0 % 16 * 4096 + b1 % 64 * 64 + b2 % 64 ≥ 2048∧(b0 % 16 * 4096 + b1 % 64 * 64 + b2 % 64 < 55296 ∨ (57344≤b0 % 16 * 4096 + b1 % 64 * 64 + b2 % 64∧b0 % 16 * 4096 + b1 % 64 * 64 + b2 % 64≤1114111)) then (b0 % 16 * 4096 + b1 % 64 * 64 + b2 % 64,3) else (65533,1):=by unfold Lib.decodeN;rw [if_neg (by omega),if_neg (by omega),if_pos (by omega)]
 rw [hd]
 clear hd
 have hv:((b0 % 16 * 4096 + b1 % 64 * 64 + b2 % 64:Nat):Int)=((b0:Int) % 16 * 64 + (b1:Int) % 64) * 64 + (b2:Int) % 64:=by omega
 generalize b0 % 16 * 4096 + b1 % 64 * 64 + b2 % 64=c at hv ⊢
 rw [← hv]
 by_cases hc:c ≥ 2048∧(c < 55296 ∨ (57344≤c∧c≤1114111))
 ·rw [if_neg (by omega),if_pos hc,pointN_good rfl (by omega)];rfl
 rw [if_pos (by omega),if_neg hc,pointN_bad rfl]
theorem point4 (k:Nat) (s:ByteArray) (b0:Nat) (h0:240≤b0) (h1:b0≤244) :
  understudyref02_point.j2 (k + 6) s ((b0:Int) % 8) 4 65536=some (pointN (Lib.decodeN s.size b0 (s.get! 1).toNat (s.get! 2).toNat (s.get! 3).toNat)):=by
 generalize e1:(s.get! 1).toNat=b1
 generalize e2:(s.get! 2).toNat=b2
 generalize e3:(s.get! 3).toNat=b3
 simp only [understudyref02_point.j2]
 have fin:¬ ((1 < s.size∧b1 / 64=2)∧(2 < s.size∧b2 / 64=2)∧(3 < s.size∧b3 / 64=2))→pointN (Lib.decodeN s.size b0 b1 b2 b3)=(0,0):=by
  intro hh
  exact pointN_bad (by unfold Lib.decodeN;rw [if_neg (by omega),if_neg (by omega),if_neg (by omega),if_neg (by omega)])
 by_cases hs:(s.size:Int) < 4
 ·rw [if_pos hs,fin (by omega)]
 rw [if_neg hs]
 by_cases hb:b1 < 128 ∨ 191 < b1
 ·rw [show (1:Int)=((1:Nat):Int) from rfl,point_bad (k + 4) s _ 4 65536 1 b1 (by omega) (by omega) e1 hb,fin (by omega)]
 rw [show (1:Int)=((1:Nat):Int) from rfl,point_step (k + 4) s _ 4 65536 1 b1 (by omega) (by omega) e1 (by omega) (by omega) (by omega) (by omega) (by omega)]
 by_cases hb2:b2 < 128 ∨ 191 < b2
 ·rw [show ((1:Nat):Int) + 1=((2:Nat):Int) from rfl,point_bad (k + 3) s _ 4 65536 2 b2 (by omega) (by omega) e2 hb2,fin (by omega)]
 rw [show ((1:Nat):Int) + 1=((2:Nat):Int) from rfl,point_step (k + 3) s _ 4 65536 2 b2 (by omega) (by omega) e2 (by omega) (by omega) (by omega) (by omega) (by omega)]
 by_cases hb3:b3 < 128 ∨ 191 < b3
 ·rw [show ((2:Nat):Int) + 1=((3:Nat):Int) from rfl,point_bad (k + 2) s _ 4 65536 3 b3 (by omega) (by omega) e3 hb3,fin (by omega)]
 rw [show ((2:Nat):Int) + 1=((3:Nat):Int) from rfl,point_step (k + 2) s _ 4 65536 3 b3 (by omega) (by omega) e3 (by omega) (by omega) (by omega) (by omega) (by omega),point_end _ _ _ _ _ _ (by omega)]
 have hd:Lib.decodeN s.size b0 b1 b2 b3=if b0 % 8 * 262144 + b1 % 64 * 4096 + b2 % 64 * 64 + b3 % 64 ≥ 65536∧(b0 % 8 * 262144 + b1 % 64 * 4096 + b2 % 64 * 64 + b3 % 64 < 55296 ∨ (57344≤b0 % 8 * 262144 + b1 % 64 * 4096 + b2 % 64 * 64 + b3 % 64∧b0 % 8 * 262144 + b1 % 64 * 4096 + b2 % 64 * 64 + b3 % 64≤1114111)) then (b0 % 8 * 262144 + b1 % 64 * 4096 + b2 % 64 * 64 + b3 % 64,4) else (65533,1):=by unfold Lib.decodeN;rw [if_neg (by omega),if_neg (by omega),if_neg (by omega),if_pos (by omega)]
 rw [hd]
 clear hd
 have hv:((b0 % 8 * 262144 + b1 % 64 * 4096 + b2 % 64 * 64 + b3 % 64:Nat):Int)=(((b0:Int) % 8 * 64 + (b1:Int) % 64) * 64 + (b2:Int) % 64) * 64 + (b3:Int) % 64:=by omega
 generalize b0 % 8 * 262144 + b1 % 64 * 4096 + b2 % 64 * 64 + b3 % 64=c at hv ⊢
 rw [← hv]
 by_cases hc:c ≥ 65536∧(c < 55296 ∨ (57344≤c∧c≤1114111))
 ·rw [if_neg (by omega),if_pos hc,pointN_good rfl (by omega)];rfl
 rw [if_pos (by omega),if_neg hc,pointN_bad rfl]
theorem point.ev (s:ByteArray) (hs:0 < s.size):Ev (fun k => understudyref02_point.f k s) (pointV s):=by
 refine ⟨9,fun k hk => ?_⟩
 obtain ⟨k,rfl⟩:∃ m,k=m + 9:=⟨k - 9,by omega⟩
 show understudyref02_point.f (k + 9) s=_
 rw [pointV_eq]
 have e:=bt_nat s 0 hs
 generalize e0:(s.get! 0).toNat=b0 at e ⊢
 have hb0:b0 < 256:=by rw [← e0];exact (s.get! 0).toNat_lt
 have a31:bits .and .i64 (b0:Int) 31=(b0:Int) % 32:=and64 5 (by omega) _ (by omega) (by omega)
 have a15:bits .and .i64 (b0:Int) 15=(b0:Int) % 16:=and64 4 (by omega) _ (by omega) (by omega)
 have a7:bits .and .i64 (b0:Int) 7=(b0:Int) % 8:=and64 3 (by omega) _ (by omega) (by omega)
 unfold understudyref02_point.f
 rw [if_pos (by omega),show (0:Int)=((0:Nat):Int) from rfl,e,w64 (by omega) (by omega)]
 have none_:¬ (194≤b0∧b0≤244)→128≤b0→∀ b1 b2 b3,b1 < 256→b2 < 256→b3 < 256→pointN (Lib.decodeN s.size b0 b1 b2 b3)=(0,0):=by
  intro h1 h2 b1 b2 b3 l1 l2 l3
  apply pointN_bad
  unfold Lib.decodeN
  rw [if_neg (by omega)]
  by_cases c1:b0 / 32=6∧(1 < s.size∧b1 / 64=2)
  ·rw [if_pos c1,if_neg (by omega)]
  rw [if_neg c1,if_neg (by omega)]
  by_cases c2:b0 / 8=30∧(1 < s.size∧b1 / 64=2)∧(2 < s.size∧b2 / 64=2)∧(3 < s.size∧b3 / 64=2)
  ·rw [if_pos c2,if_neg (by omega)]
  rw [if_neg c2]
 have lt (i:Nat):(s.get! i).toNat < 256:=(s.get! i).toNat_lt
 by_cases c1:b0 < 128
 ·rw [if_pos (by omega)]
  rw [pointN_good (c:=b0) (n:=1) (by unfold Lib.decodeN;rw [if_pos c1]) (by omega)]
  rfl
 rw [if_neg (by omega)]
 by_cases c2:194≤b0∧b0≤223
 ·rw [if_pos (by omega),decide_eq_true (by omega)]
  simp only [understudyref02_point.j0]
  rw [if_pos trivial,a31]
  exact point2 (k + 4) s b0 c2.1 c2.2
 have key:understudyref02_point.j0 (k + 9) s (b0:Int) false=some (pointN (Lib.decodeN s.size b0 (s.get! 1).toNat (s.get! 2).toNat (s.get! 3).toNat)):=by
  simp only [understudyref02_point.j0]
  rw [if_neg (by simp)]
  by_cases c3:224≤b0∧b0≤239
  ·rw [if_pos (by omega),decide_eq_true (by omega)]
   simp only [understudyref02_point.j1]
   rw [if_pos trivial,a15]
   exact point3 (k + 2) s b0 c3.1 c3.2
  have key2:understudyref02_point.j1 (k + 8) s (b0:Int) false=some (pointN (Lib.decodeN s.size b0 (s.get! 1).toNat (s.get! 2).toNat (s.get! 3).toNat)):=by
   simp only [understudyref02_point.j1]
   rw [if_neg (by simp)]
   by_cases c4:240≤b0
   ·rw [if_pos (by omega)]
    by_cases c5:b0≤244
    ·rw [if_pos (by omega),a7]
     exact point4 (k + 1) s b0 c4 c5
    rw [if_neg (by omega),none_ (by omega) (by omega) _ _ _ (lt _) (lt _) (lt _)]
   rw [if_neg (by omega),none_ (by omega) (by omega) _ _ _ (lt _) (lt _) (lt _)]
  by_cases c6:(b0:Int) ≥ 224
  ·rw [if_pos c6,decide_eq_false (by omega)];exact key2
  rw [if_neg c6];exact key2
 by_cases c6:(b0:Int) ≥ 194
 ·rw [if_pos c6,decide_eq_false (by omega)];exact key
 rw [if_neg c6];exact key
theorem ne_of_size (s:ByteArray) (hs:0 < s.size):s.data.toList ≠ []:=by
 intro e
 have:=congrArg List.length e
 rw [← Lib.size_eq] at this
 simp only [List.length_nil] at this
 omega
theorem ref_Encode.ev_l:∀ n (s:ByteArray) (b:List Int),s.size≤n→b.length + 6 * s.size < 140737488355328→Ev (fun k => understudyref02_Encode.l0 k s b) (if Lib.validD s.data.toList=true then (b++encL s.data.toList,0) else ([],20)):=by
 intro n
 induction n with
 | zero =>
  intro s b hn hb
  have e:s.data.toList=[]:=List.length_eq_zero_iff.1 (by rw [← Lib.size_eq];omega)
  refine ⟨1,fun k hk => ?_⟩
  obtain ⟨k,rfl⟩:∃ m,k=m + 1:=⟨k - 1,by omega⟩
  simp only [understudyref02_Encode.l0]
  rw [if_neg (by omega),e,Lib.validD_nil,if_pos rfl,encL_nil,List.append_nil]
 | succ n ih =>
  intro s b hn hb
  by_cases hs:0 < s.size
  rotate_left
  ·have e:s.data.toList=[]:=List.length_eq_zero_iff.1 (by rw [← Lib.size_eq];omega)
   refine ⟨1,fun k hk => ?_⟩
   obtain ⟨k,rfl⟩:∃ m,k=m + 1:=⟨k - 1,by omega⟩
   simp only [understudyref02_Encode.l0]
   rw [if_neg (by omega),e,Lib.validD_nil,if_pos rfl,encL_nil,List.append_nil]
  have hne:=ne_of_size s hs
  have hd:Lib.decodeL s.data.toList=Utf8.decode s 0:=by
   have:=Lib.decodeL_drop s 0
   simpa using this
  have hw:=text_Encode.width s 0 hs
  have hr:=Lib.decodeL_rune s.data.toList
  rw [hd] at hr
  have hwl:=Lib.decodeL_le s.data.toList hne
  rw [hd,← Lib.size_eq] at hwl
  have h6:=cuL_len ((Utf8.decode s 0).1:Int)
  obtain ⟨K1,hP⟩:=point.ev s hs
  have hstep:=Lib.validD_step s.data.toList hne
  have hex:(s.extract (Utf8.decode s 0).2 s.size).data.toList=s.data.toList.drop (Utf8.decode s 0).2:=Lib.extract_to_end s _
  rw [hd] at hstep
  unfold pointV at hP
  by_cases hbad:(Utf8.decode s 0).1=65533∧(Utf8.decode s 0).2=1
  ·rw [if_pos hbad] at hstep
   rw [if_pos hbad] at hP
   rw [if_neg (by rw [hstep];simp)]
   refine ⟨K1 + 1,fun k hk => ?_⟩
   obtain ⟨k,rfl⟩:∃ m,k=m + 1:=⟨k - 1,by omega⟩
   have hp:=hP k (by omega)
   simp only at hp
   simp only [understudyref02_Encode.l0]
   rw [if_pos (by omega),hp,Option.bind_some,if_pos rfl]
  rw [if_neg hbad] at hstep
  rw [if_neg hbad] at hP
  rw [hstep,encL_step _ hne,hd]
  have hsz:(s.extract (Utf8.decode s 0).2 s.size).size=s.size - (Utf8.decode s 0).2:=by
   rw [Lib.size_eq,hex,List.length_drop,← Lib.size_eq]
  generalize ht:s.extract (Utf8.decode s 0).2 s.size=t at hex hsz
  have IH:=ih t (b++cuL ((Utf8.decode s 0).1:Int)) (by omega) (by rw [List.length_append];omega)
  rw [hex] at IH
  obtain ⟨K2,hI⟩:=IH
  generalize hc:(Utf8.decode s 0).1=c at *
  generalize hwd:(Utf8.decode s 0).2=wd at *
  rw [← List.append_assoc]
  by_cases hbig:c < 65536
  ·obtain ⟨K3,hU⟩:=ref_unit.ev (c:Int) (by omega) (by omega)
   have hcu:cuL (c:Int)=unitL (c:Int):=by unfold cuL;rw [if_pos (by omega)]
   refine ⟨K1 + K2 + K3 + 1,fun k hk => ?_⟩
   obtain ⟨k,rfl⟩:∃ m,k=m + 1:=⟨k - 1,by omega⟩
   have hp:=hP k (by omega)
   have hu:=hU k (by omega)
   have hi:=hI k (by omega)
   simp only at hp hu hi
   simp only [understudyref02_Encode.l0]
   rw [hcu] at hi h6
   rw [if_pos (by omega),hp,Option.bind_some]
   simp only
   rw [if_neg (by omega),if_pos (by omega),if_pos (by omega),if_neg (by omega),hu,Option.bind_some,if_pos (by omega),Int.toNat_natCast,ht,hi,hcu]
  obtain ⟨K3,hU⟩:=ref_unit.ev (55296 + ((c:Int) - 65536) / 1024) (by omega) (by omega)
  obtain ⟨K4,hV⟩:=ref_unit.ev (56320 + ((c:Int) - 65536) % 1024) (by omega) (by omega)
  have hcu:cuL (c:Int)=unitL (55296 + ((c:Int) - 65536) / 1024)++unitL (56320 + ((c:Int) - 65536) % 1024):=by unfold cuL;rw [if_neg (by omega)]
  refine ⟨K1 + K2 + K3 + K4 + 1,fun k hk => ?_⟩
  obtain ⟨k,rfl⟩:∃ m,k=m + 1:=⟨k - 1,by omega⟩
  have hp:=hP k (by omega)
  have hu:=hU k (by omega)
  have hv:=hV k (by omega)
  have hi:=hI k (by omega)
  simp only at hp hu hv hi
  have e1:wrap64 ((c:Int) - 65536)=(c:Int) - 65536:=w64 (by omega) (by omega)
  have e2:Int.tdiv ((c:Int) - 65536) 1024=((c:Int) - 65536) / 1024:=Int.tdiv_eq_ediv_of_nonneg (by omega)
  have e3:Int.tmod ((c:Int) - 65536) 1024=((c:Int) - 65536) % 1024:=Int.tmod_eq_emod_of_nonneg (by omega)
  have e4:wrap64 (((c:Int) - 65536) / 1024)=((c:Int) - 65536) / 1024:=w64 (by omega) (by omega)
  have e5:wrap64 (55296 + ((c:Int) - 65536) / 1024)=55296 + ((c:Int) - 65536) / 1024:=w64 (by omega) (by omega)
  have e6:wrap64 (56320 + ((c:Int) - 65536) % 1024)=56320 + ((c:Int) - 65536) % 1024:=w64 (by omega) (by omega)
  have h7:=unitL_len (55296 + ((c:Int) - 65536) / 1024)
  simp only [understudyref02_Encode.l0]
  rw [hcu,← List.append_assoc] at hi
  rw [hcu,List.length_append] at h6
  rw [if_pos (by omega),hp,Option.bind_some]
  simp only [e1,e2,e3,e4,e5,e6]
  rw [if_neg (by omega),if_pos (by omega),if_pos (by omega),if_pos (by omega),hu,Option.bind_some,if_pos (by omega),Option.bind_some,hv,Option.bind_some,if_pos (by rw [List.length_append];omega),Int.toNat_natCast,ht,hi,hcu]
  simp only [List.append_assoc]
theorem ref_Encode.ev (s:ByteArray) (hs:s.size≤1099511627776):Ev (fun k => understudyref02_Encode.f k s) (encV s):=by
 have h:=ref_Encode.ev_l s.size s [] (Nat.le_refl _) (by simp;omega)
 simp only [List.nil_append] at h
 exact h
end Go.Proofs.YtamdobdmjcgmoaaGreatDoor.Px
namespace Go.Proofs.YtamdobdmjcgmoaaGreatDoor.Px
open Go.RowKit Go.Proofs.YtamdobdmjcgmoaaGreatDoorW.PrintWords Go.Proofs.YtamdobdmjcgmoaaGreatDoorW.PrintLast Go.Proofs.YtamdobdmjcgmoaaGreatDoorW.PrintMore
set_option linter.unusedVariables false
set_option linter.unusedSimpArgs false
theorem ref_is.eq (l:List Cst) (i tag:Int):understudyref04_is.f l i tag=some (isV l i tag):=by
 rw [← pool_is.eq]
 unfold understudyref04_is.f pool_is.f
 by_cases h1:i > 0
 ·rw [if_pos h1,if_pos (by omega)]
 rw [if_neg h1,if_neg (by omega)]
theorem ref_bare.at1 (c:Cst):understudyref04_bare.f 1 c.f0 c.f1 c.f2 c.f3 c.f4=some (bareV c):=by
 unfold bareV understudyref04_bare.f
 simp only [understudyref04_bare.j0,beq_iff_eq]
 have e3:∀ (a b:Prop) [Decidable a] [Decidable b],(if a then some (decide b) else some false:Option Bool)=some (decide (a∧b)):=by
  intro a b _ _
  by_cases ha:a
  ·rw [if_pos ha];simp [ha]
  rw [if_neg ha];simp [ha]
 have e2:∀ (a:Prop) [Decidable a] (y:Int),(if a then some (y==0) else some false:Option Bool)=some (decide (a∧y=0)):=by
  intro a _ y
  by_cases ha:a
  ·rw [if_pos ha]
   congr 1
   rw [Bool.eq_iff_iff,beq_iff_eq,decide_eq_true_eq]
   exact ⟨fun h => ⟨ha,h⟩,fun h => h.2⟩
  rw [if_neg ha];simp [ha]
 simp only [e2,e3]
 by_cases h1:c.f0=1
 ·rw [if_pos h1,if_pos h1]
 rw [if_neg h1,if_neg h1]
 by_cases h3:c.f0=3
 ·rw [if_pos h3,if_pos h3,if_pos (show c.f0=3 ∨ c.f0=5 by omega)]
 rw [if_neg h3]
 by_cases h5:c.f0=5
 ·rw [if_pos h5,if_pos (show c.f0=3 ∨ c.f0=5 by omega)]
 rw [if_neg h5,if_neg (show ¬ (c.f0=3 ∨ c.f0=5) by omega)]
 by_cases h7:c.f0=7
 ·rw [if_pos h7,if_pos h7]
 rw [if_neg h7,if_neg h7]
theorem ref_bare.ev (c:Cst):Ev (fun k => understudyref04_bare.f k c.f0 c.f1 c.f2 c.f3 c.f4) (bareV c):=Ev.of (fun k => understudyref04_bare.mono _ _ _ _ _ k) (ref_bare.at1 c)
theorem isO_V (l:List Cst) (i t:Int):isO l i t=isV l i t:=Option.some.inj ((isO_eq l i t).symm.trans (ref_is.eq l i t))
theorem fineO_V (p:List Cst) (c:Cst) (h:¬ c.f0=1):fineO p c=leadsV p c:=by
 unfold fineO leadsV
 simp only [isO_V]
 by_cases h3:c.f0=3
 ·rw [if_pos h3,if_neg (show ¬ (c.f0=1 ∨ c.f0=5) by omega),if_pos h3,Bool.decide_and]
 by_cases h5:c.f0=5
 ·rw [if_neg h3,if_pos h5,if_pos (.inr h5)]
 rw [if_neg h3,if_neg h5,if_neg (show ¬ (c.f0=1 ∨ c.f0=5) by omega),if_neg h3]
theorem ref_one.ev (p:List Cst) (hp:∀ c ∈ p,FitC c) (i:Nat) (hi:i < p.length):Ev (fun k => understudyref04_one.f k p (i:Int)) (oneV p (rd_T61 p (i:Int))):=by
 obtain ⟨c,hc⟩:∃ c,c=rd_T61 p (i:Int):=⟨_,rfl⟩
 have hfit:FitC c:=hc ▸ fit_rd hp _
 rw [← hc]
 unfold understudyref04_one.f
 simp only [← hc]
 refine Ev.congr (fun k => if_pos (by omega)) (Ev.bind (ref_bare.ev c) ?_)
 by_cases hb:bareV c=true
 ·refine Ev.congr (fun k => if_pos hb) ?_
  by_cases h1:c.f0=1
  ·have hl:leadsV p c=true:=by unfold leadsV;rw [if_pos (by omega)]
   refine Ev.congr (fun k => if_pos h1) (Ev.bind (ref_Encode.ev c.f1 hfit.1) ?_)
   by_cases he:(encV c.f1).2=0∧(encV c.f1).1.length≤256
   ·have hV:oneV p c=0:=by unfold oneV;rw [if_pos ⟨hb,hl⟩,if_neg (fun h => h.2 he)]
    rw [hV,if_pos he]
    exact Ev.now _
   have hV:oneV p c=20:=by unfold oneV;rw [if_pos ⟨hb,hl⟩,if_pos ⟨h1,he⟩]
   rw [hV,if_neg he]
   exact Ev.now _
  refine Ev.congr (fun k => if_neg h1) ?_
  rw [fineO_V p c h1]
  by_cases hl:leadsV p c=true
  ·have hV:oneV p c=0:=by unfold oneV;rw [if_pos ⟨hb,hl⟩,if_neg (fun h => h1 h.1)]
   rw [hV,if_pos hl]
   exact Ev.now _
  have hV:oneV p c=40:=by unfold oneV;rw [if_neg (fun h => hl h.2)]
  rw [hV,if_neg hl]
  exact Ev.now _
 have hV:oneV p c=40:=by unfold oneV;rw [if_neg (fun h => hb h.1)]
 rw [hV]
 exact Ev.congr (fun k => if_neg hb) (Ev.now _)
theorem ref_Check.ev_l (p:List Cst) (hp:∀ c ∈ p,FitC c) (hl:p.length≤1024):∀ n (i:Nat),p.length≤i + n→i≤p.length→Ev (fun k => understudyref04_Check.l0 k p (i:Int)) (chkV n p i):=by
 have stop:∀ i:Nat,¬ i < p.length→Ev (fun k => understudyref04_Check.l0 k p (i:Int)) 0:=fun i hi => Ev.step (f:=fun _ => some 0) (fun k => by simp only [understudyref04_Check.l0];rw [if_neg (by omega)]) (Ev.now _)
 intro n
 induction n with
 | zero => intro i h h2;exact stop i (by omega)
 | succ n ih =>
  intro i h h2
  show Ev _ (if i < p.length then _ else _)
  by_cases hi:i < p.length
  ·rw [if_pos hi]
   refine Ev.step (f:=fun k => (understudyref04_one.f k p (i:Int)).bind fun t170 => if t170=0 then understudyref04_Check.l0 k p ((i + 1:Nat):Int) else some t170) (fun k => ?_) ?_
   ·simp only [understudyref04_Check.l0]
    rw [if_pos (by omega),w64 (by omega) (by omega)]
    rfl
   refine Ev.bind (ref_one.ev p hp i hi) ?_
   by_cases h0:oneV p (rd_T61 p (i:Int))=0
   ·rw [if_pos h0]
    exact Ev.congr (fun k => if_pos h0) (ih (i + 1) (by omega) (by omega))
   rw [if_neg h0]
   exact Ev.congr (fun k => if_neg h0) (Ev.now _)
  rw [if_neg hi]
  exact stop i hi
theorem ref_Check.ev (p:List Cst) (hp:∀ c ∈ p,FitC c):Ev (fun k => understudyref04_Check.f k p) (checkV p):=by
 unfold checkV
 have j0:∀ b:Bool,∀ r,(b=false→Ev (fun k => understudyref04_Check.l0 k p 1) r)→Ev (fun k => understudyref04_Check.j0 k p b) (if b=true then 40 else r):=by
  intro b r hr
  cases b with
  | true => exact Ev.step (f:=fun _ => some 40) (fun k => by simp only [understudyref04_Check.j0];rw [if_pos trivial]) (Ev.now _)
  | false => exact Ev.step (fun k => by simp only [understudyref04_Check.j0];rw [if_neg (by simp)]) (hr rfl)
 by_cases c1:p.length > 1024
 ·rw [if_pos c1]
  exact Ev.congr (f:=fun _ => some 2) (fun k => by unfold understudyref04_Check.f;rw [if_pos (by omega)]) (Ev.now _)
 rw [if_neg c1]
 by_cases c2:p.length=0
 ·rw [if_pos c2]
  exact Ev.congr (fun k => by unfold understudyref04_Check.f;rw [if_neg (by omega),if_pos (by omega)]) (j0 true 0 (fun h => by cases h))
 rw [if_neg c2]
 have hz:(!((rd_T61 p 0).f0==0) || (!(((rd_T61 p 0).f1).toList==([]:List UInt8)) || (!((rd_T61 p 0).f2==0) || (!((rd_T61 p 0).f3==0) || (!((rd_T61 p 0).f4==0))))))=!(zeroV (rd_T61 p 0)):=by
  unfold zeroV
  rw [Bool.eq_iff_iff]
  simp only [Bool.or_eq_true,Bool.not_eq_true',beq_eq_false_iff_ne,decide_eq_false_iff_not]
  simp only [ne_eq]
  by_cases a1:(rd_T61 p 0).f0=0 <;> by_cases a2:(rd_T61 p 0).f1.toList=[] <;> by_cases a3:(rd_T61 p 0).f2=0 <;> by_cases a4:(rd_T61 p 0).f3=0 <;> simp [a1,a2,a3,a4]
 have hj:=j0 (!(zeroV (rd_T61 p 0))) (chkV p.length p 1) (fun _ => ref_Check.ev_l p hp (by omega) p.length 1 (by omega) (by omega))
 refine Ev.congr (f:=fun k => understudyref04_Check.j0 k p (!(zeroV (rd_T61 p 0)))) (fun k => ?_) ?_
 ·unfold understudyref04_Check.f
  rw [if_neg (by omega),if_neg (by omega),if_pos (by omega),hz]
 cases h:zeroV (rd_T61 p 0)
 ·rw [h] at hj;exact hj
 rw [h] at hj;exact hj
end Go.Proofs.YtamdobdmjcgmoaaGreatDoor.Px
namespace Go.Proofs.YtamdobdmjcgmoaaGreatDoor.Px
open Go.RowKit Go.Proofs.YtamdobdmjcgmoaaGreatDoorW.PrintWords Go.Proofs.YtamdobdmjcgmoaaGreatDoorW.PrintLast Go.Proofs.YtamdobdmjcgmoaaGreatDoorW.PrintMore
set_option linter.unusedVariables false
set_option linter.unusedSimpArgs false
theorem ref_take.ev (L:List Int) (hL:IsBytes L) (hne:0 < L.length):Ev (fun k => understudyref02_take.f k L) (match takeV L with|some (v,m) => (v,(m:Int))|none => (0,0)):=by
 have h0:=rd_byte hL 0
 have h1:=rd_byte hL 1
 have h2:=rd_byte hL 2
 refine ⟨4,fun k hk => ?_⟩
 obtain ⟨k,rfl⟩:∃ m,k=m + 4:=⟨k - 4,by omega⟩
 unfold takeV V2 V3
 simp only [understudyref02_take.f,understudyref02_take.j0,understudyref02_take.j1,understudyref02_take.j2]
 generalize rd L 0=a at *
 generalize rd L 1=b at *
 generalize rd L 2=c at *
 rw [w64 (x:=a) (by omega) (by omega),w64 (x:=b) (by omega) (by omega),w64 (x:=c) (by omega) (by omega)]
 rw [w64 (x:=a - 192) (by omega) (by omega),w64 (x:=a - 224) (by omega) (by omega),w64 (x:=b - 128) (by omega) (by omega)]
 rw [w64 (x:=(a - 192) * 64) (by omega) (by omega),w64 (x:=(a - 224) * 4096) (by omega) (by omega),w64 (x:=(b - 128) * 64) (by omega) (by omega)]
 rw [w64 (x:=(a - 192) * 64 + b) (by omega) (by omega),w64 (x:=(a - 224) * 4096 + (b - 128) * 64) (by omega) (by omega)]
 rw [w64 (x:=(a - 192) * 64 + b - 128) (by omega) (by omega),w64 (x:=(a - 224) * 4096 + (b - 128) * 64 + c) (by omega) (by omega)]
 rw [w64 (x:=(a - 224) * 4096 + (b - 128) * 64 + c - 128) (by omega) (by omega)]
 rw [show (a - 192) * 64 + b - 128=(a - 192) * 64 + (b - 128) by omega,show (a - 224) * 4096 + (b - 128) * 64 + c - 128=(a - 224) * 4096 + (b - 128) * 64 + (c - 128) by omega]
 simp only [decide_eq_true_eq,Bool.false_eq_true,if_false]
 rw [if_pos (by omega)]
 by_cases c1:1≤a∧a≤127
 ·rw [if_pos (by omega),if_pos c1.2,if_pos c1];rfl
 rw [if_neg c1]
 have e1:∀ x y:Option (Int × Int),(if a ≥ 1 then if a≤127 then x else y else y)=y:=by
  intro x y
  by_cases h:a ≥ 1
  ·rw [if_pos h,if_neg (by omega)]
  rw [if_neg h]
 rw [e1]
 by_cases c2:192≤a∧a≤223
 ·rw [if_pos c2.1,if_pos c2.2,if_neg (show ¬ a ≥ 224 by omega)]
  rw [if_neg (show ¬ (224≤a∧a≤239∧3≤L.length∧128≤b∧b≤191∧128≤c∧c≤191∧2048≤(a - 224) * 4096 + (b - 128) * 64 + (c - 128)) by omega)]
  by_cases c3:2≤L.length
  ·rw [if_pos (by omega),if_pos (by omega)]
   by_cases c4:128≤b
   ·rw [if_pos c4]
    by_cases c5:b≤191
    ·rw [if_pos c5,if_pos (by omega)]
     by_cases c6:(a - 192) * 64 + (b - 128)=0
     ·rw [if_pos c6,if_pos ⟨c2.1,c2.2,c3,c4,c5,.inl c6⟩];rfl
     rw [if_neg c6]
     by_cases c7:(a - 192) * 64 + (b - 128) ≥ 128
     ·rw [if_pos c7,if_pos ⟨c2.1,c2.2,c3,c4,c5,.inr c7⟩];rfl
     rw [if_neg c7,if_neg (by omega)]
    rw [if_neg c5,if_neg (by omega)]
   rw [if_neg c4,if_neg (by omega)]
  rw [if_neg (by omega),if_neg (by omega)]
 rw [if_neg (show ¬ (192≤a∧a≤223∧2≤L.length∧128≤b∧b≤191∧((a - 192) * 64 + (b - 128)=0 ∨ 128≤(a - 192) * 64 + (b - 128))) by omega)]
 have e2:∀ x y:Option (Int × Int),(if a ≥ 192 then if a≤223 then x else y else y)=y:=by
  intro x y
  by_cases h:a ≥ 192
  ·rw [if_pos h,if_neg (by omega)]
  rw [if_neg h]
 rw [e2]
 by_cases c3:224≤a∧a≤239∧3≤L.length∧128≤b∧b≤191∧128≤c∧c≤191
 ·rw [if_pos (by omega),if_pos (by omega),if_pos (by omega),if_pos (by omega),if_pos (by omega),if_pos (by omega),if_pos (by omega),if_pos (by omega),if_pos (by omega),if_pos (by omega),if_pos (by omega)]
  by_cases c4:(a - 224) * 4096 + (b - 128) * 64 + (c - 128) ≥ 2048
  ·rw [if_pos c4,if_pos (by omega)];rfl
  rw [if_neg c4,if_neg (by omega)]
 rw [if_neg (show ¬ (224≤a∧a≤239∧3≤L.length∧128≤b∧b≤191∧128≤c∧c≤191∧2048≤(a - 224) * 4096 + (b - 128) * 64 + (c - 128)) by omega)]
 by_cases d1:a ≥ 224
 ·rw [if_pos d1]
  by_cases d2:a≤239
  ·rw [if_pos d2]
   by_cases d3:(L.length:Int) ≥ 3
   ·rw [if_pos d3,if_pos (by omega)]
    by_cases d4:b ≥ 128
    ·rw [if_pos d4]
     by_cases d5:b≤191
     ·rw [if_pos d5,if_pos (by omega)]
      by_cases d6:c ≥ 128
      ·rw [if_pos d6,if_neg (by omega)]
      rw [if_neg d6]
     rw [if_neg d5]
    rw [if_neg d4]
   rw [if_neg d3]
  rw [if_neg d2]
 rw [if_neg d1]
theorem ref_utf8.eq (v:Int) (h0:0≤v) (h1:v≤1114111):understudyref02_utf8.f v=some (utf8L v):=by
 unfold understudyref02_utf8.f utf8L
 have td:∀ n:Int,0 < n→Int.tdiv v n=v / n:=fun n hn => Int.tdiv_eq_ediv_of_nonneg h0
 have tm:∀ (x n:Int),0≤x→Int.tmod x n=x % n:=fun x n hx => Int.tmod_eq_emod_of_nonneg hx
 by_cases c1:v < 128
 ·rw [if_pos c1,if_pos c1,show v % 256=v by omega]
 rw [if_neg c1,if_neg c1]
 rw [td 64 (by omega),td 4096 (by omega),td 262144 (by omega),w64 (x:=v / 64) (by omega) (by omega),w64 (x:=v / 4096) (by omega) (by omega),w64 (x:=v / 262144) (by omega) (by omega)]
 rw [tm v 64 h0,tm (v / 64) 64 (by omega),tm (v / 4096) 64 (by omega)]
 rw [w64 (x:=128 + v % 64) (by omega) (by omega),w64 (x:=128 + v / 64 % 64) (by omega) (by omega),w64 (x:=128 + v / 4096 % 64) (by omega) (by omega),w64 (x:=192 + v / 64) (by omega) (by omega),w64 (x:=224 + v / 4096) (by omega) (by omega),w64 (x:=240 + v / 262144) (by omega) (by omega)]
 rw [show (128 + v % 64) % 256=128 + v % 64 by omega,show (128 + v / 64 % 64) % 256=128 + v / 64 % 64 by omega,show (128 + v / 4096 % 64) % 256=128 + v / 4096 % 64 by omega]
 by_cases c2:v < 2048
 ·rw [if_pos c2,if_pos c2,show (192 + v / 64) % 256=192 + v / 64 by omega]
 rw [if_neg c2,if_neg c2]
 by_cases c3:v < 65536
 ·rw [if_pos c3,if_pos c3,show (224 + v / 4096) % 256=224 + v / 4096 by omega]
 rw [if_neg c3,if_neg c3,show (240 + v / 262144) % 256=240 + v / 262144 by omega]
theorem ref_Decode.ev_l:∀ (n:Nat) (L o:List Int),IsBytes L→L.length < n→o.length + L.length + 8 < 140737488355328→Ev (fun k => understudyref02_Decode.l0 k L o) (decV n L o):=by
 intro n
 induction n with
 | zero => intro L o _ h;omega
 | succ n ih =>
  intro L o hL hn ho
  simp only [decV]
  have hbad:∀ (x4:List Int) (x5 x6:Int),Ev (fun k => understudyref02_Decode.j1 k L x4 x5 x6 true) badV:=fun x4 x5 x6 => Ev.step (f:=fun _ => some badV) (fun k => by simp [understudyref02_Decode.j1]) (Ev.now _)
  by_cases he:L=[]
  ·subst he
   refine Ev.step (f:=fun _ => some (strOfNums o,0)) (fun k => ?_) (Ev.now _)
   simp [understudyref02_Decode.l0]
  have hp:=len_pos he
  rw [if_neg he]
  have ht:=ref_take.ev L hL hp
  refine Ev.step (f:=fun k => (understudyref02_take.f k L).bind fun bt178 => (if bt178.2=0 then (understudyref02_Decode.j1 k L o bt178.1 bt178.2 true) else (if bt178.1 ≥ 56320 then (understudyref02_Decode.j1 k L o bt178.1 bt178.2 (decide (bt178.1≤57343))) else (understudyref02_Decode.j1 k L o bt178.1 bt178.2 false)))) (fun k => ?_) ?_
  ·simp only [understudyref02_Decode.l0]
   rw [if_pos (by omega)]
  refine Ev.bind ht ?_
  cases e:takeV L with
  | none => simp only [if_true];exact hbad _ _ _
  | some p =>
   obtain ⟨v,m⟩:=p
   obtain ⟨v0,v1,m1,m3,ml⟩:=takeV_ok hL e
   simp only [if_neg (show ¬ ((m:Int)=0) by omega)]
   by_cases c1:56320≤v∧v≤57343
   ·rw [if_pos c1]
    refine Ev.congr (f:=fun k => understudyref02_Decode.j1 k L o v m true) (fun k => by rw [if_pos (by omega),decide_eq_true c1.2]) (hbad _ _ _)
   rw [if_neg c1]
   refine Ev.congr (f:=fun k => understudyref02_Decode.j1 k L o v m false) (fun k => ?_) ?_
   ·by_cases c:v ≥ 56320
    ·rw [if_pos c,decide_eq_false (by omega)]
    rw [if_neg c]
   have hd:(L.drop m).length=L.length - m:=List.length_drop
   refine Ev.step (f:=fun k => understudyref02_Decode.j2 k (L.drop m) o v (decide (v < 55296 ∨ 56319 < v))) (fun k => ?_) ?_
   ·simp only [understudyref02_Decode.j1]
    rw [if_neg (by simp),if_pos (by omega),if_pos (by omega),Option.bind_some,Int.toNat_natCast]
    by_cases c:v < 55296
    ·rw [if_pos c,decide_eq_true (.inl c)]
    rw [if_neg c]
    congr 1
    exact decide_eq_decide.2 (by omega)
   by_cases c2:v < 55296 ∨ 56319 < v
   ·rw [if_pos c2,decide_eq_true c2]
    have hu:=(takeV_len hL e).1
    refine Ev.step (f:=fun k => understudyref02_Decode.l0 k (L.drop m) (o++utf8L v)) (fun k => ?_) (ih _ _ (hL.drop m) (by omega) (by rw [List.length_append];omega))
    simp only [understudyref02_Decode.j2,if_true]
    rw [ref_utf8.eq v v0 (by omega),Option.bind_some,if_pos (by omega)]
   rw [if_neg c2,decide_eq_false c2]
   by_cases c3:L.drop m=[]
   ·rw [if_pos c3]
    refine Ev.step (f:=fun _ => some badV) (fun k => ?_) (Ev.now _)
    simp [understudyref02_Decode.j2,c3]
   rw [if_neg c3]
   have hp2:=len_pos c3
   have ht2:=ref_take.ev _ (hL.drop m) hp2
   refine Ev.step (f:=fun k => (understudyref02_take.f k (L.drop m)).bind fun bt191 => (if bt191.2=0 then (some ((⟨#[]⟩:ByteArray),20)) else (if bt191.1 < 56320 then (some ((⟨#[]⟩:ByteArray),20)) else (if bt191.1 > 57343 then (some ((⟨#[]⟩:ByteArray),20)) else (if 0≤bt191.2 then (if bt191.2≤((L.drop m).length:Int) then ((understudyref02_utf8.f (wrap64 ((wrap64 ((wrap64 (65536 + (wrap64 ((wrap64 (v - 55296)) * 1024)))) + bt191.1)) - 56320))).bind fun t198 => (if o.length + t198.length < 140737488355328 then (understudyref02_Decode.l0 k ((L.drop m).drop (bt191.2:Int).toNat) (o++t198)) else (none))) else (none)) else (none)))))) (fun k => ?_) ?_
   ·simp only [understudyref02_Decode.j2]
    rw [if_neg (by simp),if_neg (by omega)]
   refine Ev.bind ht2 ?_
   cases e2:takeV (L.drop m) with
   | none => simp only [if_true];exact Ev.now _
   | some p =>
    obtain ⟨u,q⟩:=p
    obtain ⟨u0,u1,q1,q3,ql⟩:=takeV_ok (hL.drop m) e2
    simp only [if_neg (show ¬ ((q:Int)=0) by omega)]
    by_cases c4:56320≤u∧u≤57343
    ·rw [if_pos c4]
     have hw:wrap64 ((wrap64 ((wrap64 (65536 + (wrap64 ((wrap64 (v - 55296)) * 1024)))) + u)) - 56320)=pairN v u:=by
      unfold pairN
      rw [w64 (x:=v - 55296) (by omega) (by omega),w64 (x:=(v - 55296) * 1024) (by omega) (by omega),w64 (x:=65536 + (v - 55296) * 1024) (by omega) (by omega),w64 (x:=65536 + (v - 55296) * 1024 + u) (by omega) (by omega),w64 (by omega) (by omega)]
      omega
     have hr:65536≤pairN v u∧pairN v u≤1114111:=by unfold pairN;omega
     have hu:=utf8L_len (pairN v u)
     have hm3:=(takeV_len hL e).2 (by omega)
     have hq3:=(takeV_len (hL.drop m) e2).2 (by omega)
     have hd2:((L.drop m).drop q).length=L.length - m - q:=by rw [List.length_drop,hd]
     refine Ev.congr (f:=fun k => understudyref02_Decode.l0 k ((L.drop m).drop q) (o++utf8L (pairN v u))) (fun k => ?_) (ih _ _ ((hL.drop m).drop q) (by omega) (by rw [List.length_append];omega))
     rw [if_neg (by omega),if_neg (by omega),if_pos (by omega),if_pos (by omega),hw,ref_utf8.eq _ (by omega) (by omega),Option.bind_some,if_pos (by omega),Int.toNat_natCast]
    rw [if_neg c4]
    refine Ev.congr (f:=fun _ => some badV) (fun k => ?_) (Ev.now _)
    by_cases c:u < 56320
    ·rw [if_pos c]
    rw [if_neg c,if_pos (by omega)]
theorem ref_Decode.ev (L:List Int) (hL:IsBytes L) (h:L.length≤140737488351232):Ev (fun k => understudyref02_Decode.f k L) (DecV L):=ref_Decode.ev_l _ L [] hL (by omega) (by simp;omega)
end Go.Proofs.YtamdobdmjcgmoaaGreatDoor.Px
namespace Go.Proofs.YtamdobdmjcgmoaaGreatDoor.Px
open Go.RowKit Go.Proofs.YtamdobdmjcgmoaaGreatDoorW.PrintWords Go.Proofs.YtamdobdmjcgmoaaGreatDoorW.PrintLast Go.Proofs.YtamdobdmjcgmoaaGreatDoorW.PrintMore
set_option linter.unusedVariables false
set_option linter.unusedSimpArgs false
theorem rd_rdL {bs:List Int} {p n i:Nat} (h:p + n≤bs.length) (hi:i < n):rd (rdL bs p n) (i:Int)=rd bs ((p:Int) + (i:Int)):=by
 unfold rdL
 rw [if_pos h]
 unfold rd
 rw [Int.toNat_natCast,show ((p:Int) + (i:Int)).toNat=p + i by omega,List.getD_eq_getElem?_getD,List.getD_eq_getElem?_getD,List.getElem?_drop,List.getElem?_take,if_pos (by omega)]
theorem refU.ev_l {bs:List Int} (hb:IsBytes bs) (hl:bs.length≤140737488351232) (p n:Nat) (h8:n≤8) (h:p + n≤bs.length):∀ m (i:Nat),n≤i + m→i≤n→Ev (fun k => understudyref01_Reader_Uint.l0 k (n:Int) (beV ((rdL bs p n).take i)) (i:Int) bs (p:Int)) (beV (rdL bs p n),0,((p + n:Nat):Int)):=by
 have hlen:=rdL_len h
 have hbl:=rdL_bytes hb p n
 have stop:∀ i:Nat,i=n→Ev (fun k => understudyref01_Reader_Uint.l0 k (n:Int) (beV ((rdL bs p n).take i)) (i:Int) bs (p:Int)) (beV (rdL bs p n),0,((p + n:Nat):Int)):=by
  intro i hi
  have e:wrap64 ((p:Int) + (n:Int))=((p + n:Nat):Int):=by unfold wrap64;omega
  refine Ev.step (f:=fun _ => some (beV ((rdL bs p n).take i),0,((p + n:Nat):Int))) (fun k => by simp only [understudyref01_Reader_Uint.l0];rw [if_neg (by omega),e]) ?_
  rw [List.take_of_length_le (by omega)]
  exact Ev.now _
 intro m
 induction m with
 | zero => intro i h1 hi;exact stop i (by omega)
 | succ m ih =>
  intro i h1 hi
  by_cases hlt:i < n
  ·have hA:n≤i + 1 + m:=by omega
   have hB:i + 1≤n:=by omega
   have hC:(i:Int) < (n:Int):=by omega
   have hD:wrap64 ((p:Int) + (i:Int))=(p:Int) + (i:Int):=by unfold wrap64;omega
   have hE:0≤(p:Int) + (i:Int):=by omega
   have hF:(p:Int) + (i:Int) < (bs.length:Int):=by omega
   have hG:=rd_rdL h hlt
   have hli:i < (rdL bs p n).length:=by omega
   generalize hll:rdL bs p n=l at *
   have hr:=beV_range (l.take i) (hbl.take i)
   rw [List.length_take,Nat.min_eq_left (by omega)] at hr
   have hp:=pow256 (i:=i) (by omega)
   have hc:=rd_byte hbl (i:Int)
   have e1:IntKind.u64.wrap (beV (l.take i) * 256)=beV (l.take i) * 256:=wraps_u64 _ (by omega) (by omega)
   have e2:IntKind.u64.wrap (rd l (i:Int))=rd l (i:Int):=wraps_u64 _ hc.1 (by omega)
   have e3:bits .or .u64 (beV (l.take i) * 256) (rd l (i:Int))=beV (l.take (i + 1)):=by
    rw [or_u64 (by omega) (by omega) (by omega) hc.1 hc.2,rd_take hli,beV_snoc]
   have e4:wrap64 ((i:Int) + 1)=((i + 1:Nat):Int):=by unfold wrap64;omega
   refine Ev.step (f:=fun k => understudyref01_Reader_Uint.l0 k (n:Int) (beV (l.take (i + 1))) ((i + 1:Nat):Int) bs (p:Int)) (fun k => ?_) (ih (i + 1) hA hB)
   simp only [understudyref01_Reader_Uint.l0]
   rw [if_pos hC,hD,if_pos hE,if_pos hF,← hG,e1,e2,e3,e4]
  exact stop i (by omega)
theorem refU.ev {bs:List Int} (hb:IsBytes bs) (hl:bs.length≤140737488351232) (p n:Nat) (h1:1≤n) (h8:n≤8) (hp:p≤bs.length):Ev (fun k => understudyref01_Reader_Uint.f k bs (p:Int) (n:Int)) ((uV bs p n).1,(uV bs p n).2.1,((uV bs p n).2.2:Int)):=by
 unfold understudyref01_Reader_Uint.f
 refine Ev.congr (f:=fun k => understudyref01_Reader_Uint.j0 k (n:Int) false bs (p:Int)) (fun k => by rw [if_neg (by omega),decide_eq_false (by omega)]) ?_
 have e:wrap64 ((bs.length:Int) - (p:Int))=(bs.length:Int) - (p:Int):=by unfold wrap64;omega
 by_cases h:p + n≤bs.length
 ·have hE:(uV bs p n).2.1=0:=if_pos h
  have hP:(uV bs p n).2.2=p + n:=if_pos h
  rw [hE,hP]
  refine Ev.step (f:=fun k => understudyref01_Reader_Uint.l0 k (n:Int) 0 0 bs (p:Int)) (fun k => by simp only [understudyref01_Reader_Uint.j0];rw [if_neg (by simp),e,if_neg (by omega)]) ?_
  exact refU.ev_l hb hl p n h8 h n 0 (by omega) (by omega)
 have hE:(uV bs p n).2.1=3:=if_neg h
 have hP:(uV bs p n).2.2=p:=if_neg h
 have hX:(uV bs p n).1=0:=by
  show beV (rdL bs p n)=0
  unfold rdL
  rw [if_neg h]
  rfl
 rw [hE,hP,hX]
 refine Ev.step (f:=fun k => some (0,3,(p:Int))) (fun k => by simp only [understudyref01_Reader_Uint.j0];rw [if_neg (by simp),e,if_pos (by omega)]) (Ev.now _)
theorem refI.ev {bs:List Int} (hb:IsBytes bs) (hl:bs.length≤140737488351232) (p n:Nat) (hn:n=4 ∨ n=8) (hp:p≤bs.length):Ev (fun k => understudyref01_Reader_Int.f k bs (p:Int) (n:Int)) ((iV bs p n).1,(iV bs p n).2.1,((iV bs p n).2.2:Int)):=by
 unfold understudyref01_Reader_Int.f
 refine Ev.congr (fun k => if_pos (by omega)) (Ev.bind (refU.ev hb hl p n (by omega) (by omega) hp) ?_)
 by_cases h:p + n≤bs.length
 rotate_left
 ·have hE:(uV bs p n).2.1=3:=if_neg h
  have hP:(uV bs p n).2.2=p:=if_neg h
  have hI:iV bs p n=(0,3,p):=if_neg h
  rw [hI]
  simp only [hE,hP]
  exact Ev.congr (fun k => if_neg (by omega)) (Ev.now _)
 have hE:(uV bs p n).2.1=0:=if_pos h
 have hP:(uV bs p n).2.2=p + n:=if_pos h
 have hI:iV bs p n=(intV (rdL bs p n),0,p + n):=if_pos h
 have hX:(uV bs p n).1=beV (rdL bs p n):=rfl
 rw [hI]
 simp only [hE,hP,hX,if_true]
 have hlen:=rdL_len h
 have hbl:=rdL_bytes hb p n
 generalize rdL bs p n=l at hlen hbl ⊢
 cases l with
 | nil => simp at hlen;omega
 | cons b t =>
  have hc:=hbl b List.mem_cons_self
  have ht:IsBytes t:=fun x hx => hbl x (List.mem_cons_of_mem _ hx)
  have hr:=beV_range t ht
  rw [← intV_cons,beV_cons]
  rcases hn with rfl|rfl
  ·have h3:t.length=3:=by simp at hlen;exact hlen
   rw [h3] at hr ⊢
   generalize beV t=y at hr ⊢
   refine Ev.congr (fun k => if_pos (by omega)) ?_
   by_cases hb1:b < 128
   ·refine Ev.congr (f:=fun _ => some (b * 256 ^ 3 + y,0,((p + 4:Nat):Int))) (fun k => ?_) (by rw [if_pos hb1];exact Ev.now _)
    rw [if_neg (by omega)]
    congr 2
    unfold wrap64;omega
   refine Ev.congr (f:=fun _ => some ((b - 256) * 256 ^ 3 + y,0,((p + 4:Nat):Int))) (fun k => ?_) (by rw [if_neg hb1];exact Ev.now _)
   rw [if_pos (by omega)]
   congr 2
   unfold wrap64;omega
  have h7:t.length=7:=by simp at hlen;exact hlen
  rw [h7] at hr ⊢
  generalize beV t=y at hr ⊢
  refine Ev.congr (fun k => if_pos (by omega)) ?_
  by_cases hb1:b < 128
  ·refine Ev.congr (f:=fun _ => some (b * 256 ^ 7 + y,0,((p + 8:Nat):Int))) (fun k => ?_) (by rw [if_pos hb1];exact Ev.now _)
   rw [if_neg (by omega)]
   congr 2
   unfold wrap64;omega
  refine Ev.congr (f:=fun _ => some ((b - 256) * 256 ^ 7 + y,0,((p + 8:Nat):Int))) (fun k => ?_) (by rw [if_neg hb1];exact Ev.now _)
  rw [if_neg (by omega)]
  congr 2
  unfold wrap64;omega
def sameR (r:Int × ByteArray × Int × Int × Int × Int × Int) (v:Cst × Int × Nat):Prop :=
 r.2.2.2.2.2.1=v.2.1∧(v.2.1=0→(⟨r.1,r.2.1,r.2.2.1,r.2.2.2.1,r.2.2.2.2.1⟩:Cst)=v.1∧r.2.2.2.2.2.2=(v.2.2:Int))
theorem sameR.mk (v:Cst × Int × Nat) (c:Cst) (e:Int) (p:Nat) (h:v=(c,e,p)):sameR (c.f0,c.f1,c.f2,c.f3,c.f4,e,(p:Int)) v:=by subst h;exact ⟨rfl,fun _ => ⟨rfl,rfl⟩⟩
theorem uP_le {bs:List Int} {p n:Nat} (h:p≤bs.length):(uV bs p n).2.2≤bs.length:=rdP_le h
theorem w64' {x:Int} (h0:0≤x) (h1:x < 65536):wrap64 x=x:=by unfold wrap64;omega
theorem ref_read.ev {bs:List Int} (hb:IsBytes bs) (hl:bs.length≤140737488351232) (p:Nat) (hp:p≤bs.length) (t:Int):∃ r,Ev (fun k => understudyref04_read.f k bs (p:Int) t) r∧sameR r (bodyV bs t p):=by
 have hu:=refU.ev hb hl p 2 (by decide) (by decide) hp
 have h2:=u2_range hb p
 have hp2:=uP_le (n:=2) hp
 unfold understudyref04_read.f bodyV
 by_cases h1:t=1
 ·simp only [if_pos h1]
  by_cases h0:(uV bs p 2).2.1=0
  rotate_left
  ·simp only [if_neg h0]
   exact ⟨_,Ev.bind hu (Ev.congr (fun k => if_neg h0) (Ev.now _)),sameR.mk _ _ _ _ rfl⟩
  simp only [if_pos h0]
  by_cases h3:(uV bs p 2).1 > 256
  ·simp only [if_pos h3]
   exact ⟨_,Ev.bind hu (Ev.congr (fun k => (if_pos h0).trans (if_pos h3)) (Ev.now _)),sameR.mk _ _ _ _ rfl⟩
  simp only [if_neg h3]
  have hB:∀ k:Nat,understudyref01_Reader_Bytes.f bs ((uV bs p 2).2.2:Int) (wrap64 (uV bs p 2).1)=some (rdL bs (uV bs p 2).2.2 (uV bs p 2).1.toNat,rdE bs (uV bs p 2).2.2 (uV bs p 2).1.toNat,((rdP bs (uV bs p 2).2.2 (uV bs p 2).1.toNat:Nat):Int)):=by
   intro _
   rw [w64' h2.1 h2.2]
   generalize (uV bs p 2).2.2=q at *
   generalize (uV bs p 2).1=x at *
   obtain ⟨m,rfl⟩:=Int.eq_ofNat_of_zero_le h2.1
   unfold understudyref01_Reader_Bytes.f rdL rdE rdP
   rw [if_pos (by omega)]
   simp only [Int.toNat_natCast]
   by_cases hs:q + m≤bs.length
   ·rw [if_neg (by omega),if_pos hs,if_pos hs,if_pos hs,show ((q:Int) + (m:Int)).toNat=q + m by omega]
    rfl
   rw [if_pos (by omega),if_neg hs,if_neg hs,if_neg hs]
  by_cases h4:rdE bs (uV bs p 2).2.2 (uV bs p 2).1.toNat=0
  ·simp only [if_pos h4]
   refine ⟨_,Ev.bind hu (Ev.congr (fun k => (if_pos h0).trans (if_neg h3)) (Ev.congr (fun k => by rw [hB k];exact (Option.bind_some _ _).trans (if_pos h4)) (Ev.bind (ref_Decode.ev _ (rdL_bytes hb _ _) ?_) (Ev.now _)))),sameR.mk _ _ _ _ rfl⟩
   have:=rdL_le bs (uV bs p 2).2.2 (uV bs p 2).1.toNat
   omega
  simp only [if_neg h4]
  exact ⟨_,Ev.bind hu (Ev.congr (fun k => (if_pos h0).trans (if_neg h3)) (Ev.congr (fun k => by rw [hB k];exact (Option.bind_some _ _).trans (if_neg h4)) (Ev.now _))),sameR.mk _ _ _ _ rfl⟩
 simp only [if_neg h1]
 by_cases h3:t=3
 ·simp only [if_pos h3]
  exact ⟨_,Ev.bind (refI.ev hb hl p 4 (.inl rfl) hp) (Ev.now _),sameR.mk _ _ _ _ rfl⟩
 simp only [if_neg h3]
 by_cases h5:t=5
 ·simp only [if_pos h5]
  exact ⟨_,Ev.bind (refI.ev hb hl p 8 (.inr rfl) hp) (Ev.now _),sameR.mk _ _ _ _ rfl⟩
 simp only [if_neg h5]
 by_cases h7:t=7
 ·simp only [if_pos h7]
  refine ⟨_,Ev.bind hu (Ev.now _),?_⟩
  rw [w64' h2.1 h2.2]
  exact sameR.mk _ _ _ _ rfl
 simp only [if_neg h7]
 by_cases h9:t=9 ∨ t=10 ∨ t=12
 ·simp only [if_pos h9]
  by_cases h0:(uV bs p 2).2.1=0
  ·have ht:twoV bs (uV bs p 2).2.2 (uV bs p 2).2.1=uV bs (uV bs p 2).2.2 2:=if_pos h0
   rw [ht]
   have h22:=u2_range hb (uV bs p 2).2.2
   refine ⟨_,Ev.bind hu (Ev.congr (fun k => if_pos h0) (Ev.bind (refU.ev hb hl (uV bs p 2).2.2 2 (by decide) (by decide) hp2) (Ev.now _))),?_⟩
   rw [w64' h2.1 h2.2,w64' h22.1 h22.2]
   exact sameR.mk _ _ _ _ rfl
  have ht:twoV bs (uV bs p 2).2.2 (uV bs p 2).2.1=(0,(uV bs p 2).2.1,(uV bs p 2).2.2):=if_neg h0
  rw [ht]
  exact ⟨_,Ev.bind hu (Ev.congr (fun k => if_neg h0) (Ev.now _)),rfl,fun h => absurd h h0⟩
 simp only [if_neg h9]
 exact ⟨_,Ev.now _,sameR.mk _ _ _ _ rfl⟩
theorem bodyP_le {bs:List Int} (hb:IsBytes bs) (t:Int) {p:Nat} (h:p≤bs.length):(bodyV bs t p).2.2≤bs.length:=by
 have hi:∀ n,(iV bs p n).2.2≤bs.length:=by intro n;unfold iV;split <;> simp only <;> omega
 have h2:=uP_le (n:=2) h
 have ht:(twoV bs (uV bs p 2).2.2 (uV bs p 2).2.1).2.2≤bs.length:=by unfold twoV;split;exact uP_le h2;exact h2
 unfold bodyV
 repeat' split
 all_goals first|exact h2|exact rdP_le h2|exact hi _|exact ht|exact h
theorem refD.ev_l {bs:List Int} (hb:IsBytes bs) (hl:bs.length≤140737488351232) (n:Int) (h0:0≤n) (hn:n≤1024):∀ (f:Nat) (ps:List Cst) (p:Nat),n≤ps.length + f→ps.length≤1024→(∀ c ∈ ps,FitC c)→p≤bs.length→Ev (fun k => understudyref04_Decode.l0 k bs n ps (p:Int)) (decL (f + 1) bs n ps p):=by
 have hw:wrap64 n=n:=by unfold wrap64;omega
 have last:∀ (f:Nat) (ps:List Cst) (p:Nat),¬ (ps.length:Int) < n→(∀ c ∈ ps,FitC c)→Ev (fun k => understudyref04_Decode.l0 k bs n ps (p:Int)) (decL (f + 1) bs n ps p):=by
  intro f ps p hs hf
  refine Ev.step (fun k => by simp only [understudyref04_Decode.l0];rw [if_neg hs]) ?_
  unfold decL
  rw [if_neg hs]
  refine Ev.bind (ref_Check.ev ps hf) ?_
  by_cases h0:checkV ps=0
  ·simp only [if_pos h0]
   exact Ev.now _
  simp only [if_neg h0]
  exact Ev.now _
 intro f
 induction f with
 | zero => intro ps p h hp hf hpp;exact last 0 ps p (by omega) hf
 | succ f ih =>
  intro ps p h hp hf hpp
  by_cases hs:(ps.length:Int) < n
  rotate_left
  ·exact last (f + 1) ps p hs hf
  refine Ev.step (fun k => by simp only [understudyref04_Decode.l0];rw [if_pos hs]) ?_
  rw [decL,if_pos hs]
  refine Ev.bind (refU.ev hb hl p 1 (by decide) (by decide) hpp) ?_
  have hu1:=u1_range hb p
  have hp1:=uP_le (n:=1) hpp
  have hfit:=constV_fit hb p
  unfold constV at hfit ⊢
  by_cases he:(uV bs p 1).2.1=0
  ·simp only [if_pos he] at hfit ⊢
   rw [w64' hu1.1 (by omega)]
   have hple:=bodyP_le hb (uV bs p 1).1 hp1
   obtain ⟨r,hr,hr1,hr2⟩:=ref_read.ev hb hl _ hp1 (uV bs p 1).1
   refine Ev.bind hr ?_
   by_cases h0:(bodyV bs (uV bs p 1).1 (uV bs p 1).2.2).2.1=0
   ·obtain ⟨e1,e2⟩:=hr2 h0
    rw [if_pos h0]
    refine Ev.congr (fun k => (if_pos (hr1.trans h0)).trans (if_pos (by omega))) ?_
    rw [e1,e2]
    refine ih _ _ (by rw [List.length_append,List.length_singleton];omega) (by rw [List.length_append,List.length_singleton];omega) ?_ hple
    intro c hc
    rcases List.mem_append.1 hc with hc|hc
    ·exact hf c hc
    rw [List.mem_singleton.1 hc]
    exact hfit h0
   rw [if_neg h0,hr1]
   refine Ev.congr (fun k => if_neg ?_) (Ev.now _)
   exact h0
  simp only [if_neg he]
  exact Ev.now _
theorem refPD.ev {bs:List Int} (hb:IsBytes bs) (hl:bs.length≤140737488351232):Ev (fun k => understudyref04_Decode.f k bs) (decPV bs):=by
 unfold understudyref04_Decode.f decPV
 refine Ev.bind (refU.ev hb hl 0 2 (by decide) (by decide) (by omega)) ?_
 have h2:=u2_range hb 0
 have hp2:=uP_le (bs:=bs) (n:=2) (p:=0) (by omega)
 refine Ev.congr (fun k => if_pos h2) ?_
 by_cases h0:(uV bs 0 2).2.1=0
 ·simp only [if_pos h0]
  by_cases h3:(uV bs 0 2).1 > 1024
  ·simp only [if_pos h3]
   exact Ev.now _
  simp only [if_neg h3]
  by_cases h4:(uV bs 0 2).1=0
  ·simp only [if_pos h4]
   exact Ev.now _
  simp only [if_neg h4]
  exact refD.ev_l hb hl _ h2.1 (by omega) (uV bs 0 2).1.toNat [z61] (uV bs 0 2).2.2 (by simp;omega) (by simp) one_fit hp2
 simp only [if_neg h0]
 exact Ev.now _
end Go.Proofs.YtamdobdmjcgmoaaGreatDoor.Px
namespace Go.Proofs.YtamdobdmjcgmoaaGreatDoor.Px
open Go.RowKit Go.Proofs.YtamdobdmjcgmoaaGreatDoorW.PrintWords Go.Proofs.YtamdobdmjcgmoaaGreatDoorW.PrintLast Go.Proofs.YtamdobdmjcgmoaaGreatDoorW.PrintMore
set_option linter.unusedVariables false
set_option linter.unusedSimpArgs false
def classV (l:List Cst) (i:Int):ByteArray × Bool:=if isV l i 7=true then textV l (rd_T61 l i).f3 else (noText,false)
theorem pool_Class.eq (l:List Cst) (i:Int):pool_Class.f l i=some (classV l i):=by
 unfold pool_Class.f classV
 rw [pool_is.eq,Option.bind_some]
 by_cases h:isV l i 7=true
 ·have:=isV_pos h
  rw [if_pos h,if_pos h,if_pos (by omega),if_pos this.2.1,pool_Text.eq,Option.bind_some]
 rw [if_neg h,if_neg h];rfl
def txt (p:List Cst) (i:Int):Bool:=(textV p i).2
def cl (p:List Cst) (i:Int):Bool:=(classV p i).2
def flagsV (n:Int):Bool:=decide (n=0 ∨ n=8)
def placeG:Nat→List Cst→ByteArray→Nat→Int
 | 0,_,_,_ => 0
 | n + 1,p,s,i => if i < p.length then (if isV p (i:Int) 1=true∧(rd_T61 p (i:Int)).f1.toList=s.toList then (i:Int) else placeG n p s (i + 1)) else 0
def placeV (p:List Cst) (s:ByteArray):Int:=placeG p.length p s 1
def trapV (p:List Cst) (n:Int) (t:Trp):Bool :=
 if t.f0 < 0 then false else if t.f0 ≥ t.f1 then false else if t.f1 > n then false else if t.f2 < 0 ∨ t.f2 ≥ n then false else if t.f3=0 then true else cl p t.f3
def restV (p:List Cst) (m0 m1 m2 m3 m4:Int) (n mn:Nat):Bool :=
 flagsV m0 && (txt p m1 && txt p m2) && decide (0≤m3∧m3≤64) && decide (0≤m4∧m4≤64) && decide (1≤n∧n≤4096) && decide (mn≤4096) && decide (placeV p sCode > 0) && (decide (mn=0) || decide (placeV p sMaps > 0))
def fieldV (p:List Cst) (f:Fld):Bool:=flagsV f.f0 && (txt p f.f1 && txt p f.f2)
def methV (p:List Cst) (m:Mth):Bool:=m.f6.all (trapV p m.f5.length) && restV p m.f0 m.f1 m.f2 m.f3 m.f4 m.f5.length m.f7.length
def longV (x:Int) (ms:List Mth):Bool:=decide (x > 64) || ms.any (fun m => decide ((m.f6.length:Int) > 64))
def fineV (fine:Bool):Int:=if fine=true then 0 else 50
def classCheckV (p:List Cst) (this super:Int) (fs:List Fld) (ms:List Mth):Int :=
 if checkV p=0 then (if longV (mx (fs.length:Int) (ms.length:Int)) ms=true then 2 else fineV ((cl p this && cl p super) && fs.all (fieldV p) && ms.all (methV p))) else checkV p
section
variable {α:Type} {xs:List α} {z:α}
theorem drop_getD (i:Nat) (h:i < xs.length):xs.drop i=xs.getD i z :: xs.drop (i + 1):=by
 rw [List.drop_eq_getElem_cons h,List.getD_eq_getElem?_getD,List.getElem?_eq_getElem h]
 rfl
end
theorem flags_iff (a:Int) (h0:-9223372036854775808≤a) (h1:a≤9223372036854775807):(Go.bits .andNot .i64 a 8==0)=decide (a=0 ∨ a=8):=by
 rw [Bool.eq_iff_iff,beq_iff_eq,decide_eq_true_eq]
 constructor
 ·intro h
  have h2:IntKind.i64.wrap ((BitVec.ofInt 64 a &&& ~~~BitVec.ofInt 64 8).toNat:Int)=0:=h
  rw [i64_w] at h2
  have hlt:=(BitVec.ofInt 64 a &&& ~~~BitVec.ofInt 64 8).isLt
  have h3:(BitVec.ofInt 64 a &&& ~~~BitVec.ofInt 64 8).toNat=0:=by unfold wrap64 at h2;omega
  have h4:BitVec.ofInt 64 a &&& ~~~BitVec.ofInt 64 8=0#64:=BitVec.eq_of_toNat_eq h3
  have h8:BitVec.ofInt 64 8=BitVec.twoPow 64 3:=by decide
  have hx:∀ x t:BitVec 64,x=(x &&& ~~~t) ||| (x &&& t):=by
   intro x t
   ext i hi
   simp only [BitVec.getElem_or,BitVec.getElem_and,BitVec.getElem_not]
   cases x[i] <;> cases t[i] <;> rfl
  have h5:=hx (BitVec.ofInt 64 a) (BitVec.ofInt 64 8)
  rw [h4,h8,BitVec.and_twoPow,BitVec.zero_or] at h5
  have h6:=congrArg BitVec.toNat h5
  rw [BitVec.toNat_ofInt] at h6
  split at h6
  ·have:(BitVec.twoPow 64 3).toNat=8:=by decide
   omega
  have:(0#64).toNat=0:=rfl
  omega
 rintro (rfl|rfl) <;> decide
theorem flags.eq (n:Int) (h:(Lit.int .i64 n).wf=true):class_flags.f n=some (flagsV n):=by
 simp [Lit.wf,IntKind.min,IntKind.max,IntKind.bits,IntKind.signed] at h
 unfold class_flags.f flagsV
 rw [flags_iff n (by omega) (by omega)]
theorem within.eq (a b:Int):class_within.f a b=some (decide (0≤a∧a≤b)):=by
 unfold class_within.f
 by_cases h:a ≥ 0
 ·rw [if_pos h]
  congr 1
  rw [Bool.eq_iff_iff,decide_eq_true_eq,decide_eq_true_eq]
  omega
 rw [if_neg h,decide_eq_false (by omega)]
theorem rules_text.ev_l (p:List Cst) (l:List Int) (hl:l.length≤1048576):∀ n (i:Nat),l.length≤i + n→Ev (fun k => class_rules_text.l0 k l (l.length:Int) (i:Int) p) ((l.drop i).all (txt p)):=by
 have stop:∀ i:Nat,¬ i < l.length→Ev (fun k => class_rules_text.l0 k l (l.length:Int) (i:Int) p) ((l.drop i).all (txt p)):=fun i hi => by
  rw [List.drop_eq_nil_of_le (by omega)]
  exact Ev.step (f:=fun _ => some true) (fun k => by simp only [class_rules_text.l0];rw [if_neg (by omega)]) (Ev.now _)
 intro n
 induction n with
 | zero => intro i h;exact stop i (by omega)
 | succ n ih =>
  intro i h
  by_cases hi:i < l.length
  ·rw [drop_getD (z:=(0:Int)) i hi,List.all_cons]
   have e:rd l (i:Int)=l.getD i 0:=by unfold rd;rw [Int.toNat_natCast]
   have et:(textV p (l.getD i 0)).2=txt p (l.getD i 0):=rfl
   refine Ev.step (f:=fun k => if txt p (l.getD i 0)=true then class_rules_text.l0 k l (l.length:Int) ((i + 1:Nat):Int) p else some false) (fun k => ?_) ?_
   ·simp only [class_rules_text.l0,pool_Text.eq,Option.bind_some,e,et]
    rw [if_pos (by omega),if_pos (by omega),if_pos (by omega),w64 (by omega) (by omega)]
    rfl
   cases ht:txt p (l.getD i 0)
   ·exact Ev.congr (fun k => if_neg (by simp)) (Ev.now _)
   exact Ev.congr (fun k => if_pos rfl) (ih (i + 1) (by omega))
  exact stop i hi
theorem rules_text.ev2 (p:List Cst) (a b:Int):Ev (fun k => class_rules_text.f k p [a,b]) (txt p a && txt p b):=by
 have h:=rules_text.ev_l p [a,b] (by simp) 2 0 (by simp)
 simp only [List.drop_zero,List.all_cons,List.all_nil,Bool.and_true] at h
 exact h
theorem rules_class.ev_l (p:List Cst) (l:List Int) (hl:l.length≤1048576):∀ n (i:Nat),l.length≤i + n→Ev (fun k => class_rules_class.l0 k l (l.length:Int) (i:Int) p) ((l.drop i).all (cl p)):=by
 have stop:∀ i:Nat,¬ i < l.length→Ev (fun k => class_rules_class.l0 k l (l.length:Int) (i:Int) p) ((l.drop i).all (cl p)):=fun i hi => by
  rw [List.drop_eq_nil_of_le (by omega)]
  exact Ev.step (f:=fun _ => some true) (fun k => by simp only [class_rules_class.l0];rw [if_neg (by omega)]) (Ev.now _)
 intro n
 induction n with
 | zero => intro i h;exact stop i (by omega)
 | succ n ih =>
  intro i h
  by_cases hi:i < l.length
  ·rw [drop_getD (z:=(0:Int)) i hi,List.all_cons]
   have e:rd l (i:Int)=l.getD i 0:=by unfold rd;rw [Int.toNat_natCast]
   have et:(classV p (l.getD i 0)).2=cl p (l.getD i 0):=rfl
   refine Ev.step (f:=fun k => if cl p (l.getD i 0)=true then class_rules_class.l0 k l (l.length:Int) ((i + 1:Nat):Int) p else some false) (fun k => ?_) ?_
   ·simp only [class_rules_class.l0,pool_Class.eq,Option.bind_some,e,et]
    rw [if_pos (by omega),if_pos (by omega),if_pos (by omega),w64 (by omega) (by omega)]
    rfl
   cases ht:cl p (l.getD i 0)
   ·exact Ev.congr (fun k => if_neg (by simp)) (Ev.now _)
   exact Ev.congr (fun k => if_pos rfl) (ih (i + 1) (by omega))
  exact stop i hi
theorem rules_class.ev2 (p:List Cst) (a b:Int):Ev (fun k => class_rules_class.f k p [a,b]) (cl p a && cl p b):=by
 have h:=rules_class.ev_l p [a,b] (by simp) 2 0 (by simp)
 simp only [List.drop_zero,List.all_cons,List.all_nil,Bool.and_true] at h
 exact h
theorem rules_class.ev1 (p:List Cst) (a:Int):Ev (fun k => class_rules_class.f k p [a]) (cl p a):=by
 have h:=rules_class.ev_l p [a] (by simp) 1 0 (by simp)
 simp only [List.drop_zero,List.all_cons,List.all_nil,Bool.and_true] at h
 exact h
theorem place.ev_l (p:List Cst) (s:ByteArray) (hl:p.length≤1048576):∀ n (i:Nat),p.length≤i + n→Ev (fun k => class_place.l0 k p s (p.length:Int) (i:Int)) (placeG n p s i):=by
 have stop:∀ i:Nat,¬ i < p.length→Ev (fun k => class_place.l0 k p s (p.length:Int) (i:Int)) 0:=fun i hi => Ev.step (f:=fun _ => some 0) (fun k => by simp only [class_place.l0];rw [if_neg (by omega)]) (Ev.now _)
 intro n
 induction n with
 | zero => intro i h;exact stop i (by omega)
 | succ n ih =>
  intro i h
  show Ev _ (if i < p.length then _ else _)
  by_cases hi:i < p.length
  ·rw [if_pos hi]
   refine Ev.step (f:=fun k => if isV p (i:Int) 1=true∧(rd_T61 p (i:Int)).f1.toList=s.toList then some (i:Int) else class_place.l0 k p s (p.length:Int) ((i + 1:Nat):Int)) (fun k => ?_) ?_
   ·simp only [class_place.l0,pool_Text.eq,Option.bind_some]
    rw [if_pos (by omega),w64 (by omega) (by omega)]
    unfold textV
    by_cases hv:isV p (i:Int) 1=true
    ·rw [if_pos hv,if_pos rfl]
     by_cases hs:(rd_T61 p (i:Int)).f1.toList=s.toList
     ·rw [if_pos hs,if_pos ⟨hv,hs⟩]
     rw [if_neg hs,if_neg (fun h => hs h.2)];rfl
    rw [if_neg hv,if_neg (by simp),if_neg (fun h => hv h.1)];rfl
   by_cases hc:isV p (i:Int) 1=true∧(rd_T61 p (i:Int)).f1.toList=s.toList
   ·rw [if_pos hc];exact Ev.congr (fun k => if_pos hc) (Ev.now _)
   rw [if_neg hc];exact Ev.congr (fun k => if_neg hc) (ih (i + 1) (by omega))
  rw [if_neg hi];exact stop i hi
theorem place.ev (p:List Cst) (s:ByteArray) (hl:p.length≤1048576):Ev (fun k => class_place.f k p s) (placeV p s):=by
 have h:=place.ev_l p s hl (p.length + 1) 0 (by omega)
 have e:placeG (p.length + 1) p s 0=placeV p s:=by
  show (if 0 < p.length then (if isV p ((0:Nat):Int) 1=true∧_ then _ else placeG p.length p s 1) else 0)=placeG p.length p s 1
  have hv:¬ isV p ((0:Nat):Int) 1=true:=by unfold isV;simp
  by_cases h0:0 < p.length
  ·rw [if_pos h0,if_neg (fun h => hv h.1)]
  rw [if_neg h0,show p.length=0 by omega];rfl
 rw [e] at h
 exact h
end Go.Proofs.YtamdobdmjcgmoaaGreatDoor.Px
namespace Go.Proofs.YtamdobdmjcgmoaaGreatDoor.Px
open Go.RowKit Go.Proofs.YtamdobdmjcgmoaaGreatDoorW.PrintWords Go.Proofs.YtamdobdmjcgmoaaGreatDoorW.PrintLast Go.Proofs.YtamdobdmjcgmoaaGreatDoorW.PrintMore
set_option linter.unusedVariables false
set_option linter.unusedSimpArgs false
def FitM (m:Mth):Prop:=(Lit.int .i64 m.f0).wf=true∧m.f5.length≤1048576∧m.f6.length≤1048576∧m.f7.length≤1048576
def FitF (f:Fld):Prop:=(Lit.int .i64 f.f0).wf=true
theorem rest.ev (p:List Cst) (hl:p.length≤1048576) (m0 m1 m2 m3 m4:Int) (n mn:Nat) (hw:(Lit.int .i64 m0).wf=true) (hn:n≤1048576) (hm:mn≤1048576) :
  Ev (fun k => (class_flags.f m0).bind fun t151 => (if t151=true then ((class_rules_text.f k p (([m1,m2]:List Int))).bind fun t155 => (if t155=true then ((class_within.f m3 64).bind fun t156 => (if t156=true then ((class_within.f m4 64).bind fun t157 => (if t157=true then ((class_within.f (wrap64 ((n:Int) - 1)) 4095).bind fun t158 => (if t158=true then (if (mn:Int)≤4096 then ((class_place.f k p (⟨#[67,111,100,101]⟩:ByteArray)).bind fun t159 => (if t159 > 0 then (if (mn:Int)=0 then (some true) else ((class_place.f k p (⟨#[83,116,97,99,107,77,97,112,84,97,98,108,101]⟩:ByteArray)).bind fun t160 => (some (decide (t160 > 0))))) else (some false))) else (some false)) else (some false))) else (some false))) else (some false))) else (some false))) else (some false))) (restV p m0 m1 m2 m3 m4 n mn):=by
 simp only [flags.eq _ hw,within.eq,Option.bind_some]
 have hwn:wrap64 ((n:Int) - 1)=(n:Int) - 1:=w64 (by omega) (by omega)
 rw [hwn]
 have no:∀ {x:Bool},x=false→Ev (fun _ => some false) x:=fun h => h ▸ Ev.now _
 by_cases a:flagsV m0=true
 rotate_left
 ·exact Ev.congr (fun k => if_neg a) (no (by unfold restV;rw [Bool.eq_false_iff.2 a];simp))
 refine Ev.congr (fun k => if_pos a) (Ev.bind (rules_text.ev2 p m1 m2) ?_)
 by_cases b:(txt p m1 && txt p m2)=true
 rotate_left
 ·exact Ev.congr (fun k => if_neg b) (no (by unfold restV;rw [Bool.eq_false_iff.2 b];simp))
 refine Ev.congr (fun k => if_pos b) ?_
 by_cases c:decide (0≤m3∧m3≤64)=true
 rotate_left
 ·exact Ev.congr (fun k => if_neg c) (no (by unfold restV;rw [Bool.eq_false_iff.2 c];simp))
 refine Ev.congr (fun k => if_pos c) ?_
 by_cases d:decide (0≤m4∧m4≤64)=true
 ·refine Ev.congr (fun k => if_pos d) ?_
  by_cases e:decide (0≤(n:Int) - 1∧(n:Int) - 1≤4095)=true
  ·have e2:decide (1≤n∧n≤4096)=true:=by rw [decide_eq_true_eq] at e ⊢;omega
   refine Ev.congr (fun k => if_pos e) ?_
   by_cases f:(mn:Int)≤4096
   ·have f2:decide (mn≤4096)=true:=decide_eq_true (by omega)
    refine Ev.congr (fun k => if_pos f) (Ev.bind (place.ev p _ hl) ?_)
    by_cases g:placeV p sCode > 0
    ·refine Ev.congr (fun k => if_pos g) ?_
     by_cases h:(mn:Int)=0
     ·have h2:decide (mn=0)=true:=decide_eq_true (by omega)
      refine Ev.congr (fun k => if_pos h) ?_
      have:restV p m0 m1 m2 m3 m4 n mn=true:=by unfold restV;rw [a,b,c,d,e2,f2,h2,decide_eq_true g];rfl
      rw [this];exact Ev.now _
     have h2:decide (mn=0)=false:=decide_eq_false (by omega)
     refine Ev.congr (fun k => if_neg h) (Ev.bind (place.ev p _ hl) ?_)
     have:restV p m0 m1 m2 m3 m4 n mn=decide (placeV p sMaps > 0):=by unfold restV;rw [a,b,c,d,e2,f2,h2,decide_eq_true g];rfl
     rw [this];exact Ev.now _
    exact Ev.congr (fun k => if_neg g) (no (by unfold restV;rw [decide_eq_false g];simp))
   exact Ev.congr (fun k => if_neg f) (no (by unfold restV;rw [decide_eq_false (show ¬ mn≤4096 by omega)];simp))
  exact Ev.congr (fun k => if_neg e) (no (by unfold restV;rw [decide_eq_false (show ¬ (1≤n∧n≤4096) by rw [decide_eq_true_eq] at e;omega)];simp))
 exact Ev.congr (fun k => if_neg d) (no (by unfold restV;rw [Bool.eq_false_iff.2 d];simp))
section
variable (p:List Cst) (hl:p.length≤1048576) (m:Mth) (hm:FitM m)
include hl hm
theorem meth.ev_l:∀ d (i:Nat),m.f6.length≤i + d→Ev (fun k => class_rules_method.l0 k (m.f5.length:Int) m.f6 (m.f6.length:Int) (i:Int) p m.f0 m.f1 m.f2 m.f3 m.f4 m.f5 m.f6 m.f7) ((m.f6.drop i).all (trapV p m.f5.length) && restV p m.f0 m.f1 m.f2 m.f3 m.f4 m.f5.length m.f7.length):=by
 obtain ⟨hw,h5,h6,h7⟩:=hm
 have stop:∀ i:Nat,¬ i < m.f6.length→Ev (fun k => class_rules_method.l0 k (m.f5.length:Int) m.f6 (m.f6.length:Int) (i:Int) p m.f0 m.f1 m.f2 m.f3 m.f4 m.f5 m.f6 m.f7) ((m.f6.drop i).all (trapV p m.f5.length) && restV p m.f0 m.f1 m.f2 m.f3 m.f4 m.f5.length m.f7.length):=fun i hi => by
  rw [List.drop_eq_nil_of_le (by omega),List.all_nil,Bool.true_and]
  exact Ev.step (fun k => by simp only [class_rules_method.l0];rw [if_neg (by omega)]) (rest.ev p hl m.f0 m.f1 m.f2 m.f3 m.f4 m.f5.length m.f7.length hw h5 h7)
 intro d
 induction d with
 | zero => intro i h;exact stop i (by omega)
 | succ d ih =>
  intro i h
  by_cases hi:i < m.f6.length
  rotate_left
  ·exact stop i hi
  obtain ⟨t,ht⟩:∃ t,t=rd_T63 m.f6 (i:Int):=⟨_,rfl⟩
  have hd:m.f6.drop i=t :: m.f6.drop (i + 1):=by
   rw [drop_getD (z:=z63) i hi,ht]
   unfold rd_T63
   rw [Int.toNat_natCast]
  have j1:∀ b:Bool,Ev (fun k => class_rules_method.j1 k (m.f5.length:Int) m.f6 (m.f6.length:Int) (i:Int) b p m.f0 m.f1 m.f2 m.f3 m.f4 m.f5 m.f6 m.f7) (!b && ((m.f6.drop (i + 1)).all (trapV p m.f5.length) && restV p m.f0 m.f1 m.f2 m.f3 m.f4 m.f5.length m.f7.length)):=by
   intro b
   cases b with
   | true => exact Ev.step (f:=fun _ => some false) (fun k => by simp only [class_rules_method.j1];rw [if_pos trivial]) (Ev.now _)
   | false =>
    rw [Bool.not_false,Bool.true_and]
    refine Ev.step (fun k => ?_) (ih (i + 1) (by omega))
    simp only [class_rules_method.j1]
    rw [if_neg (by simp),w64 (by omega) (by omega)]
    rfl
  have hwn:wrap64 ((m.f5.length:Int) - 1)=(m.f5.length:Int) - 1:=w64 (by omega) (by omega)
  have pre:(i:Int) < (m.f6.length:Int):=by omega
  have pre0:(0:Int)≤(i:Int):=by omega
  rw [hd,List.all_cons,Bool.and_assoc]
  have bad:trapV p m.f5.length t=false→(∀ k,class_rules_method.l0 (k + 1) (m.f5.length:Int) m.f6 (m.f6.length:Int) (i:Int) p m.f0 m.f1 m.f2 m.f3 m.f4 m.f5 m.f6 m.f7=class_rules_method.j1 k (m.f5.length:Int) m.f6 (m.f6.length:Int) (i:Int) true p m.f0 m.f1 m.f2 m.f3 m.f4 m.f5 m.f6 m.f7)→Ev (fun k => class_rules_method.l0 k (m.f5.length:Int) m.f6 (m.f6.length:Int) (i:Int) p m.f0 m.f1 m.f2 m.f3 m.f4 m.f5 m.f6 m.f7) (trapV p m.f5.length t && ((m.f6.drop (i + 1)).all (trapV p m.f5.length) && restV p m.f0 m.f1 m.f2 m.f3 m.f4 m.f5.length m.f7.length)):=by
   intro e hk
   rw [e,Bool.false_and]
   exact Ev.step hk (j1 true)
  by_cases c1:t.f0 < 0
  ·exact bad (by unfold trapV;rw [if_pos c1]) (fun k => by simp only [class_rules_method.l0,← ht];rw [if_pos pre,if_pos pre0,if_pos pre,if_pos c1])
  by_cases c2:t.f0 ≥ t.f1
  ·exact bad (by unfold trapV;rw [if_neg c1,if_pos c2]) (fun k => by simp only [class_rules_method.l0,← ht];rw [if_pos pre,if_pos pre0,if_pos pre,if_neg c1,if_pos c2])
  by_cases c3:t.f1 > (m.f5.length:Int)
  ·exact bad (by unfold trapV;rw [if_neg c1,if_neg c2,if_pos c3]) (fun k => by simp only [class_rules_method.l0,← ht];rw [if_pos pre,if_pos pre0,if_pos pre,if_neg c1,if_neg c2,if_pos c3])
  by_cases c4:t.f2 < 0 ∨ t.f2 ≥ (m.f5.length:Int)
  ·refine bad (by unfold trapV;rw [if_neg c1,if_neg c2,if_neg c3,if_pos c4]) (fun k => ?_)
   simp only [class_rules_method.l0,← ht,within.eq,Option.bind_some,hwn]
   rw [if_pos pre,if_pos pre0,if_pos pre,if_neg c1,if_neg c2,if_neg c3,if_neg (by rw [decide_eq_true_eq];omega)]
  have c4b:decide (0≤t.f2∧t.f2≤(m.f5.length:Int) - 1)=true:=decide_eq_true (by omega)
  by_cases c5:t.f3=0
  ·have e:trapV p m.f5.length t=true:=by unfold trapV;rw [if_neg c1,if_neg c2,if_neg c3,if_neg c4,if_pos c5]
   rw [e]
   refine Ev.step (fun k => ?_) (j1 false)
   simp only [class_rules_method.l0,← ht,within.eq,Option.bind_some,hwn]
   rw [if_pos pre,if_pos pre0,if_pos pre,if_neg c1,if_neg c2,if_neg c3,if_pos c4b,if_pos c5]
  have e:trapV p m.f5.length t=cl p t.f3:=by unfold trapV;rw [if_neg c1,if_neg c2,if_neg c3,if_neg c4,if_neg c5]
  rw [e]
  have hj:=j1 (!(cl p t.f3))
  rw [Bool.not_not] at hj
  refine Ev.step (f:=fun k => (class_rules_class.f k p [t.f3]).bind fun t150 => class_rules_method.j1 k (m.f5.length:Int) m.f6 (m.f6.length:Int) (i:Int) (!t150) p m.f0 m.f1 m.f2 m.f3 m.f4 m.f5 m.f6 m.f7) (fun k => ?_) (Ev.bind (rules_class.ev1 p t.f3) hj)
  simp only [class_rules_method.l0,← ht,within.eq,Option.bind_some,hwn]
  rw [if_pos pre,if_pos pre0,if_pos pre,if_neg c1,if_neg c2,if_neg c3,if_pos c4b,if_neg c5]
theorem meth.ev:Ev (fun k => class_rules_method.f k p m.f0 m.f1 m.f2 m.f3 m.f4 m.f5 m.f6 m.f7) (methV p m):=meth.ev_l p hl m hm m.f6.length 0 (by omega)
end
section
variable (p:List Cst) (hl:p.length≤1048576) (this super:Int) (fs:List Fld) (ms:List Mth) (hfl:fs.length≤1048576) (hml:ms.length≤1048576) (hf:∀ f ∈ fs,FitF f) (hm:∀ m ∈ ms,FitM m)
include hl hfl hml hf hm
theorem cc.ev_l2:∀ d (i:Nat) (b:Bool),ms.length≤i + d→Ev (fun k => class_Check.l2 k b ms (ms.length:Int) (i:Int) p) (fineV (b && (ms.drop i).all (methV p))):=by
 have _u:=And.intro hfl hf
 have stop:∀ (i:Nat) (b:Bool),¬ i < ms.length→Ev (fun k => class_Check.l2 k b ms (ms.length:Int) (i:Int) p) (fineV (b && (ms.drop i).all (methV p))):=fun i b hi => by
  rw [List.drop_eq_nil_of_le (by omega),List.all_nil,Bool.and_true]
  refine Ev.step (f:=fun _ => some (fineV b)) (fun k => ?_) (Ev.now _)
  simp only [class_Check.l2]
  rw [if_neg (by omega)]
  cases b <;> rfl
 intro d
 induction d with
 | zero => intro i b h;exact stop i b (by omega)
 | succ d ih =>
  intro i b h
  by_cases hi:i < ms.length
  rotate_left
  ·exact stop i b hi
  obtain ⟨m,he⟩:∃ m,m=rd_T57 ms (i:Int):=⟨_,rfl⟩
  have hd:ms.drop i=m :: ms.drop (i + 1):=by
   rw [drop_getD (z:=z57) i hi,he]
   unfold rd_T57
   rw [Int.toNat_natCast]
  have hmm:m ∈ ms:=List.mem_of_mem_drop (hd ▸ List.mem_cons_self:m ∈ ms.drop i)
  rw [hd,List.all_cons]
  cases b with
  | true =>
   refine Ev.step (f:=fun k => (class_rules_method.f k p m.f0 m.f1 m.f2 m.f3 m.f4 m.f5 m.f6 m.f7).bind fun t179 => class_Check.l2 k t179 ms (ms.length:Int) ((i + 1:Nat):Int) p) (fun k => ?_) (Ev.bind (meth.ev p hl m (hm m hmm)) ?_)
   ·simp only [class_Check.l2,← he]
    rw [if_pos (by omega),if_pos (by omega),if_pos (by omega),if_pos trivial,w64 (by omega) (by omega)]
    rfl
   have:=ih (i + 1) (methV p m) (by omega)
   rw [Bool.true_and]
   exact this
  | false =>
   refine Ev.step (f:=fun k => class_Check.l2 k false ms (ms.length:Int) ((i + 1:Nat):Int) p) (fun k => ?_) ?_
   ·simp only [class_Check.l2]
    rw [if_pos (by omega),if_pos (by omega),if_pos (by omega),if_neg (by simp),w64 (by omega) (by omega)]
    rfl
   have:=ih (i + 1) false (by omega)
   rw [Bool.false_and] at this ⊢
   exact this
theorem cc.ev_l1:∀ d (i:Nat) (b:Bool),fs.length≤i + d→Ev (fun k => class_Check.l1 k b fs (fs.length:Int) (i:Int) p this super fs ms p) (fineV (b && (fs.drop i).all (fieldV p) && ms.all (methV p))):=by
 have stop:∀ (i:Nat) (b:Bool),¬ i < fs.length→Ev (fun k => class_Check.l1 k b fs (fs.length:Int) (i:Int) p this super fs ms p) (fineV (b && (fs.drop i).all (fieldV p) && ms.all (methV p))):=fun i b hi => by
  rw [List.drop_eq_nil_of_le (by omega),List.all_nil,Bool.and_true]
  have h2:=cc.ev_l2 p hl fs ms hfl hml hf hm ms.length 0 b (by omega)
  exact Ev.step (fun k => by simp only [class_Check.l1];rw [if_neg (by omega)];rfl) h2
 intro d
 induction d with
 | zero => intro i b h;exact stop i b (by omega)
 | succ d ih =>
  intro i b h
  by_cases hi:i < fs.length
  rotate_left
  ·exact stop i b hi
  obtain ⟨f,he⟩:∃ f,f=rd_T54 fs (i:Int):=⟨_,rfl⟩
  have hd:fs.drop i=f :: fs.drop (i + 1):=by
   rw [drop_getD (z:=z54) i hi,he]
   unfold rd_T54
   rw [Int.toNat_natCast]
  have hff:f ∈ fs:=List.mem_of_mem_drop (hd ▸ List.mem_cons_self:f ∈ fs.drop i)
  rw [hd,List.all_cons]
  have goF:∀ k,class_Check.l1 (k + 1) false fs (fs.length:Int) (i:Int) p this super fs ms p=class_Check.l1 k false fs (fs.length:Int) ((i + 1:Nat):Int) p this super fs ms p:=fun k => by
   simp only [class_Check.l1]
   rw [if_pos (by omega),if_pos (by omega),if_pos (by omega),if_neg (by simp),w64 (by omega) (by omega)]
   rfl
  cases b with
  | true =>
   rw [Bool.true_and]
   by_cases hfl2:flagsV f.f0=true
   ·refine Ev.step (f:=fun k => (class_rules_text.f k p [f.f1,f.f2]).bind fun t176 => class_Check.l1 k t176 fs (fs.length:Int) ((i + 1:Nat):Int) p this super fs ms p) (fun k => ?_) (Ev.bind (rules_text.ev2 p f.f1 f.f2) ?_)
    ·simp only [class_Check.l1,← he,flags.eq _ (hf f hff),Option.bind_some]
     rw [if_pos (by omega),if_pos (by omega),if_pos (by omega),if_pos trivial,if_pos hfl2,w64 (by omega) (by omega)]
     rfl
    have:=ih (i + 1) (txt p f.f1 && txt p f.f2) (by omega)
    have e:fieldV p f=(txt p f.f1 && txt p f.f2):=by unfold fieldV;rw [hfl2,Bool.true_and]
    rw [e]
    exact this
   refine Ev.step (f:=fun k => class_Check.l1 k false fs (fs.length:Int) ((i + 1:Nat):Int) p this super fs ms p) (fun k => ?_) ?_
   ·simp only [class_Check.l1,← he,flags.eq _ (hf f hff),Option.bind_some]
    rw [if_pos (by omega),if_pos (by omega),if_pos (by omega),if_pos trivial,if_neg hfl2,w64 (by omega) (by omega)]
    rfl
   have:=ih (i + 1) false (by omega)
   have e:fieldV p f=false:=by unfold fieldV;rw [Bool.eq_false_iff.2 hfl2,Bool.false_and]
   rw [Bool.false_and] at this
   rw [e,Bool.false_and]
   exact this
  | false =>
   refine Ev.step goF ?_
   have:=ih (i + 1) false (by omega)
   rw [Bool.false_and] at this ⊢
   exact this
theorem cc.ev_l0:∀ d (i:Nat) (x:Int),ms.length≤i + d→Ev (fun k => class_Check.l0 k x ms (ms.length:Int) (i:Int) p this super fs ms) (if longV x (ms.drop i)=true then 2 else fineV ((cl p this && cl p super) && fs.all (fieldV p) && ms.all (methV p))):=by
 have stop:∀ (i:Nat) (x:Int),¬ i < ms.length→Ev (fun k => class_Check.l0 k x ms (ms.length:Int) (i:Int) p this super fs ms) (if longV x (ms.drop i)=true then 2 else fineV ((cl p this && cl p super) && fs.all (fieldV p) && ms.all (methV p))):=fun i x hi => by
  rw [List.drop_eq_nil_of_le (by omega)]
  unfold longV
  rw [List.any_nil,Bool.or_false]
  by_cases hx:x > 64
  ·rw [decide_eq_true hx,if_pos rfl]
   exact Ev.step (f:=fun _ => some 2) (fun k => by simp only [class_Check.l0];rw [if_neg (by omega),if_pos hx]) (Ev.now _)
  rw [decide_eq_false hx,if_neg (by simp)]
  refine Ev.step (f:=fun k => (class_rules_class.f k p [this,super]).bind fun t169 => class_Check.l1 k t169 fs (fs.length:Int) ((0:Nat):Int) p this super fs ms p) (fun k => by simp only [class_Check.l0];rw [if_neg (by omega),if_neg hx];rfl) (Ev.bind (rules_class.ev2 p this super) ?_)
  have:=cc.ev_l1 p hl this super fs ms hfl hml hf hm fs.length 0 (cl p this && cl p super) (by omega)
  rw [List.drop_zero] at this
  exact this
 intro d
 induction d with
 | zero => intro i x h;exact stop i x (by omega)
 | succ d ih =>
  intro i x h
  by_cases hi:i < ms.length
  ·obtain ⟨m,he⟩:∃ m,m=rd_T57 ms (i:Int):=⟨_,rfl⟩
   have hd:ms.drop i=m :: ms.drop (i + 1):=by
    rw [drop_getD (z:=z57) i hi,he]
    unfold rd_T57
    rw [Int.toNat_natCast]
   have e:longV x (ms.drop i)=longV (mx x (m.f6.length:Int)) (ms.drop (i + 1)):=by
    unfold longV
    rw [hd,List.any_cons,← Bool.or_assoc]
    congr 1
    rw [Bool.eq_iff_iff]
    simp only [Bool.or_eq_true,decide_eq_true_eq]
    unfold mx
    split <;> omega
   rw [e]
   refine Ev.step (fun k => ?_) (ih (i + 1) (mx x (m.f6.length:Int)) (by omega))
   simp only [class_Check.l0,← he]
   rw [if_pos (by omega),if_pos (by omega),if_pos (by omega),w64 (by omega) (by omega)]
   rfl
  exact stop i x hi
theorem class_Check.ev (hp:∀ c ∈ p,FitC c):Ev (fun k => class_Check.f k p this super fs ms) (classCheckV p this super fs ms):=by
 unfold class_Check.f classCheckV
 refine Ev.bind (pool_Check.ev p hp) ?_
 by_cases h:checkV p=0
 ·rw [if_pos h]
  refine Ev.congr (fun k => if_pos h) ?_
  have:=cc.ev_l0 p hl this super fs ms hfl hml hf hm ms.length 0 (mx (fs.length:Int) (ms.length:Int)) (by omega)
  rw [List.drop_zero] at this
  exact this
 rw [if_neg h]
 exact Ev.congr (fun k => if_neg h) (Ev.now _)
end
end Go.Proofs.YtamdobdmjcgmoaaGreatDoor.Px
namespace Go.Proofs.YtamdobdmjcgmoaaGreatDoor.Px
open Go.RowKit Go.Proofs.YtamdobdmjcgmoaaGreatDoorW.PrintWords Go.Proofs.YtamdobdmjcgmoaaGreatDoorW.PrintLast Go.Proofs.YtamdobdmjcgmoaaGreatDoorW.PrintMore
set_option linter.unusedVariables false
set_option linter.unusedSimpArgs false
def Rdo.bindV {α β:Type} (o:Rdo α) (f:α→Nat→Rdo β):Rdo β:=match o with
 | .ok x p => f x p
 | .er e => .er e
theorem Rdo.bindV_ok {α β:Type} (x:α) (p:Nat) (f:α→Nat→Rdo β):(Rdo.ok x p).bindV f=f x p:=rfl
theorem Rdo.bindV_er {α β:Type} (e:Int) (f:α→Nat→Rdo β):(Rdo.er e).bindV f=.er e:=rfl
theorem Rdo.bindV_assoc {α β γ:Type} (o:Rdo α) (f:α→Nat→Rdo β) (g:β→Nat→Rdo γ):(o.bindV f).bindV g=o.bindV fun x p => (f x p).bindV g:=by cases o <;> rfl
theorem Ev.rdo {α β:Type} {F:Nat→Option (Rdo α)} {G:Nat→α→Nat→Option (Rdo β)} {o:Rdo α} {g:α→Nat→Rdo β} (h:Ev F o) (hg:∀ x q,o=.ok x q→Ev (fun k => G k x q) (g x q)):Ev (fun k => (F k).bind fun o => o.bind (G k)) (o.bindV g):=by
 refine Ev.bind h ?_
 cases o with
 | ok x q => exact hg x q rfl
 | er e => exact Ev.now _
def Gives {α:Type} (o:Rdo α) (Q:α→Nat→Prop):Prop:=∀ x q,o=.ok x q→Q x q
theorem Gives.ok {α:Type} {x:α} {q:Nat} {Q:α→Nat→Prop} (h:Q x q):Gives (.ok x q) Q:=fun x' q' e => by injection e with e1 e2;subst e1;subst e2;exact h
theorem Gives.er {α:Type} {e:Int} {Q:α→Nat→Prop}:Gives (.er e) Q:=fun x q h => by cases h
theorem Gives.bind {α β:Type} {o:Rdo α} {f:α→Nat→Rdo β} {Q:α→Nat→Prop} {R:β→Nat→Prop} (h:Gives o Q) (k:∀ x q,Q x q→Gives (f x q) R):Gives (o.bindV f) R:=by
 cases o with
 | ok x q => exact k x q (h x q rfl)
 | er e => exact Gives.er
theorem Gives.mono {α:Type} {o:Rdo α} {Q R:α→Nat→Prop} (h:Gives o Q) (k:∀ x q,Q x q→R x q):Gives o R:=fun x q e => k x q (h x q e)
def rawV (bs:List Int) (p n:Nat):Rdo (List Int):=if p + n≤bs.length then .ok (rdL bs p n) (p + n) else .er 3
def numV (bs:List Int) (p n:Nat):Rdo Int:=(rawV bs p n).bindV fun l q => .ok (beV l) q
def sameV (bs:List Int) (p n:Nat) (want:Int):Rdo Unit:=(numV bs p n).bindV fun x q => if x=want then .ok () q else .er 50
def countV (bs:List Int) (p n:Nat) (most:Int):Rdo Int:=(numV bs p n).bindV fun x q => if most < x then .er 2 else .ok x q
def namedV (l0:List Cst) (bs:List Int) (p:Nat) (s:ByteArray):Rdo Unit:=(numV bs p 2).bindV fun x q => if (textV l0 x).2=true∧(textV l0 x).1.toList=s.toList then .ok () q else .er 50
def longD (bs:List Int) (p:Nat):Rdo (List Int):=(countV bs p 4 4096).bindV fun x q => rawV bs q x.toNat
def trapD (bs:List Int) (p:Nat):Rdo Trp:=(numV bs p 2).bindV fun x1 p1 => (numV bs p1 2).bindV fun x2 p2 => (numV bs p2 2).bindV fun x3 p3 => (numV bs p3 2).bindV fun x4 p4 => .ok ⟨x1,x2,x3,x4⟩ p4
def trapsD (bs:List Int):Nat→Nat→List Trp→Rdo (List Trp)
 | 0,p,l => .ok l p
 | n + 1,p,l => (trapD bs p).bindV fun t p1 => trapsD bs n p1 (l++[t])
def mapsD (l0:List Cst) (bs:List Int) (p:Nat):Rdo (List Int) :=
 (numV bs p 2).bindV fun x q => if x=0 then .ok [] q else if x=1 then
  (namedV l0 bs q sMaps).bindV fun _ q1 => (longD bs q1).bindV fun ys q2 => if 0 < ys.length then .ok ys q2 else .er 50 else .er 50
def methD (l0:List Cst) (bs:List Int) (p:Nat):Rdo Mth :=
 (numV bs p 2).bindV fun x1 p1 => (numV bs p1 2).bindV fun x2 p2 => (numV bs p2 2).bindV fun x3 p3 => (sameV bs p3 2 1).bindV fun _ p4 => (namedV l0 bs p4 sCode).bindV fun _ p5 => (numV bs p5 4).bindV fun n p6 =>
 (numV bs p6 2).bindV fun x7 p7 => (numV bs p7 2).bindV fun x8 p8 => (longD bs p8).bindV fun code p9 => (countV bs p9 2 64).bindV fun c p10 => (trapsD bs c.toNat p10 []).bindV fun traps p11 => (mapsD l0 bs p11).bindV fun maps p12 =>
 if (p12:Int)=wrap64 (n + p6) then .ok ⟨x1,x2,x3,x7,x8,code,traps,maps⟩ p12 else .er 50
def fldD (bs:List Int) (p:Nat):Rdo Fld:=(numV bs p 2).bindV fun x1 p1 => (numV bs p1 2).bindV fun x2 p2 => (numV bs p2 2).bindV fun x3 p3 => .ok ⟨x1,x2,x3⟩ p3
def fldsD (bs:List Int):Nat→Nat→List Fld→Rdo (List Fld)
 | 0,p,l => .ok l p
 | n + 1,p,l => (fldD bs p).bindV fun t p1 => (sameV bs p1 2 0).bindV fun _ p2 => fldsD bs n p2 (l++[t])
def mthsD (l0:List Cst) (bs:List Int):Nat→Nat→List Mth→Rdo (List Mth)
 | 0,p,l => .ok l p
 | n + 1,p,l => (methD l0 bs p).bindV fun t p1 => mthsD l0 bs n p1 (l++[t])
def restD (l0:List Cst) (bs:List Int) (p:Nat):Rdo Cls :=
 (sameV bs p 2 0).bindV fun _ p1 => (numV bs p1 2).bindV fun t p2 => (numV bs p2 2).bindV fun s p3 => (sameV bs p3 2 0).bindV fun _ p4 =>
 (countV bs p4 2 64).bindV fun c p5 => (fldsD bs c.toNat p5 []).bindV fun fs p6 => (countV bs p6 2 64).bindV fun d p7 => (mthsD l0 bs d.toNat p7 []).bindV fun ms p8 => (sameV bs p8 2 0).bindV fun _ p9 => .ok ⟨l0,t,s,fs,ms⟩ p9
def endD (bs:List Int) (c:Cls) (p:Nat):Rdo Cls:=if p < bs.length then .er 50 else if classCheckV c.f0 c.f1 c.f2 c.f3 c.f4=0 then .ok c p else .er (classCheckV c.f0 c.f1 c.f2 c.f3 c.f4)
def poolD (bs:List Int) (p:Nat):Rdo (List Cst):=if (decPV (bs.drop p)).2.2=0 then (rawV bs p (decPV (bs.drop p)).2.1.toNat).bindV fun _ q => .ok (decPV (bs.drop p)).1 q else .er (decPV (bs.drop p)).2.2
def coreD (bs:List Int):Rdo Cls:=(sameV bs 0 4 3405691582).bindV fun _ p1 => (sameV bs p1 4 61).bindV fun _ p2 => (poolD bs p2).bindV fun l p3 => restD l bs p3
def classD (bs:List Int):Rdo Cls:=(coreD bs).bindV (endD bs)
theorem raw.gives {bs:List Int} (hb:IsBytes bs) (p n:Nat):Gives (rawV bs p n) (fun l q => IsBytes l∧l.length=n∧q=p + n∧q≤bs.length):=by
 unfold rawV
 by_cases h:p + n≤bs.length
 ·rw [if_pos h];exact Gives.ok ⟨rdL_bytes hb p n,rdL_len h,rfl,h⟩
 rw [if_neg h];exact Gives.er
theorem num.gives {bs:List Int} (hb:IsBytes bs) (p n:Nat):Gives (numV bs p n) (fun x q => 0≤x∧x < 256 ^ n∧q≤bs.length) :=
 Gives.bind (raw.gives hb p n) fun l q h => Gives.ok (by have:=beV_lt (n:=n) h.1 (by omega);exact ⟨this.1,this.2,h.2.2.2⟩)
theorem num2.gives {bs:List Int} (hb:IsBytes bs) (p:Nat):Gives (numV bs p 2) (fun x q => 0≤x∧x < 65536∧q≤bs.length):=num.gives hb p 2
theorem same.gives {bs:List Int} (hb:IsBytes bs) (p n:Nat) (want:Int):Gives (sameV bs p n want) (fun _ q => q≤bs.length) :=
 Gives.bind (num.gives hb p n) fun x q h => by split;exact Gives.ok h.2.2;exact Gives.er
theorem named.gives {bs:List Int} (hb:IsBytes bs) (l0:List Cst) (p:Nat) (s:ByteArray):Gives (namedV l0 bs p s) (fun _ q => q≤bs.length) :=
 Gives.bind (num.gives hb p 2) fun x q h => by split;exact Gives.ok h.2.2;exact Gives.er
theorem count.gives {bs:List Int} (hb:IsBytes bs) (p n:Nat) (most:Int):Gives (countV bs p n most) (fun x q => 0≤x∧x≤most∧q≤bs.length) :=
 Gives.bind (num.gives hb p n) fun x q h => by split;exact Gives.er;exact Gives.ok ⟨h.1,by omega,h.2.2⟩
theorem long.gives {bs:List Int} (hb:IsBytes bs) (p:Nat):Gives (longD bs p) (fun l q => IsBytes l∧l.length≤4096∧q≤bs.length) :=
 Gives.bind (count.gives hb p 4 4096) fun x q h => (raw.gives hb q x.toNat).mono fun l r g => ⟨g.1,by omega,g.2.2.2⟩
theorem trap.gives {bs:List Int} (hb:IsBytes bs) (p:Nat):Gives (trapD bs p) (fun _ q => q≤bs.length) :=
 Gives.bind (num.gives hb p 2) fun _ _ _ => Gives.bind (num.gives hb _ 2) fun _ _ _ => Gives.bind (num.gives hb _ 2) fun _ _ _ => Gives.bind (num.gives hb _ 2) fun _ _ h => Gives.ok h.2.2
theorem traps.gives {bs:List Int} (hb:IsBytes bs):∀ (n p:Nat) (l:List Trp),p≤bs.length→Gives (trapsD bs n p l) (fun r q => r.length=l.length + n∧q≤bs.length)
 | 0,p,l,hp => Gives.ok ⟨rfl,hp⟩
 | n + 1,p,l,hp => Gives.bind (trap.gives hb p) fun t q h => (traps.gives hb n q (l++[t]) h).mono fun r s g => ⟨by rw [g.1,List.length_append,List.length_singleton];omega,g.2⟩
theorem maps.gives {bs:List Int} (hb:IsBytes bs) (l0:List Cst) (p:Nat):Gives (mapsD l0 bs p) (fun l q => IsBytes l∧l.length≤4096∧q≤bs.length) :=
 Gives.bind (num.gives hb p 2) fun x q h => by
  split
  ·exact Gives.ok ⟨IsBytes.nil,Nat.zero_le _,h.2.2⟩
  split
  ·refine Gives.bind (named.gives hb l0 q sMaps) fun _ q1 _ => Gives.bind (long.gives hb q1) fun ys q2 g => ?_
   split
   ·exact Gives.ok g
   exact Gives.er
  exact Gives.er
theorem wf_two {x:Int} (h0:0≤x) (h1:x < 65536):(Lit.int .i64 x).wf=true:=wf_i64 ⟨by omega,by omega⟩
def MthR (m:Mth):Prop:=FitM m∧IsBytes m.f5∧IsBytes m.f7
theorem meth.gives {bs:List Int} (hb:IsBytes bs) (l0:List Cst) (p:Nat):Gives (methD l0 bs p) (fun m q => MthR m∧q≤bs.length) :=
 Gives.bind (num2.gives hb p) fun x1 p1 h1 => Gives.bind (num2.gives hb p1) fun x2 p2 h2 => Gives.bind (num2.gives hb p2) fun x3 p3 h3 => Gives.bind (same.gives hb p3 2 1) fun _ p4 h4 => Gives.bind (named.gives hb l0 p4 sCode) fun _ p5 h5 => Gives.bind (num.gives hb p5 4) fun n p6 h6 =>
 Gives.bind (num2.gives hb p6) fun x7 p7 h7 => Gives.bind (num2.gives hb p7) fun x8 p8 h8 => Gives.bind (long.gives hb p8) fun code p9 h9 => Gives.bind (count.gives hb p9 2 64) fun c p10 h10 => Gives.bind (traps.gives hb c.toNat p10 [] h10.2.2) fun traps p11 h11 => Gives.bind (maps.gives hb l0 p11) fun maps p12 h12 => by
  have hl:=h11.1
  rw [List.length_nil] at hl
  split
  ·exact Gives.ok ⟨⟨⟨wf_two h1.1 h1.2.1,by show code.length≤_;omega,by show traps.length≤_;omega,by show maps.length≤_;omega⟩,h9.1,h12.1⟩,h12.2.2⟩
  exact Gives.er
theorem fld.gives {bs:List Int} (hb:IsBytes bs) (p:Nat):Gives (fldD bs p) (fun f q => FitF f∧q≤bs.length) :=
 Gives.bind (num2.gives hb p) fun _ _ h => Gives.bind (num.gives hb _ 2) fun _ _ _ => Gives.bind (num.gives hb _ 2) fun _ _ g => Gives.ok ⟨wf_two h.1 h.2.1,g.2.2⟩
theorem all_snoc {α:Type} {P:α→Prop} {l:List α} {x:α} (h:∀ y ∈ l,P y) (hx:P x):∀ y ∈ l++[x],P y:=fun y hy => by
 rcases List.mem_append.1 hy with q|q
 ·exact h y q
 rw [List.mem_singleton.1 q];exact hx
theorem flds.gives {bs:List Int} (hb:IsBytes bs):∀ (n p:Nat) (l:List Fld),p≤bs.length→(∀ f ∈ l,FitF f)→Gives (fldsD bs n p l) (fun r q => r.length=l.length + n∧(∀ f ∈ r,FitF f)∧q≤bs.length)
 | 0,p,l,hp,hl => Gives.ok ⟨rfl,hl,hp⟩
 | n + 1,p,l,hp,hl => Gives.bind (fld.gives hb p) fun t q h => Gives.bind (same.gives hb q 2 0) fun _ q2 h2 => (flds.gives hb n q2 (l++[t]) h2 (all_snoc hl h.1)).mono fun r s g => ⟨by rw [g.1,List.length_append,List.length_singleton];omega,g.2⟩
theorem mths.gives {bs:List Int} (hb:IsBytes bs) (l0:List Cst):∀ (n p:Nat) (l:List Mth),p≤bs.length→(∀ f ∈ l,MthR f)→Gives (mthsD l0 bs n p l) (fun r q => r.length=l.length + n∧(∀ f ∈ r,MthR f)∧q≤bs.length)
 | 0,p,l,hp,hl => Gives.ok ⟨rfl,hl,hp⟩
 | n + 1,p,l,hp,hl => Gives.bind (meth.gives hb l0 p) fun t q h => (mths.gives hb l0 n q (l++[t]) h.2 (all_snoc hl h.1)).mono fun r s g => ⟨by rw [g.1,List.length_append,List.length_singleton];omega,g.2⟩
def ClsR (c:Cls):Prop:=c.f3.length≤64∧c.f4.length≤64∧(∀ f ∈ c.f3,FitF f)∧∀ m ∈ c.f4,MthR m
theorem rest.gives {bs:List Int} (hb:IsBytes bs) (l0:List Cst) (p:Nat):Gives (restD l0 bs p) (fun c q => c.f0=l0∧ClsR c∧q≤bs.length) :=
 Gives.bind (same.gives hb p 2 0) fun _ p1 _ => Gives.bind (num.gives hb p1 2) fun t p2 _ => Gives.bind (num.gives hb p2 2) fun s p3 _ => Gives.bind (same.gives hb p3 2 0) fun _ p4 _ =>
 Gives.bind (count.gives hb p4 2 64) fun c p5 h5 => Gives.bind (flds.gives hb c.toNat p5 [] h5.2.2 (fun f hf => by cases hf)) fun fs p6 h6 => Gives.bind (count.gives hb p6 2 64) fun d p7 h7 => Gives.bind (mths.gives hb l0 d.toNat p7 [] h7.2.2 (fun f hf => by cases hf)) fun ms p8 h8 => Gives.bind (same.gives hb p8 2 0) fun _ p9 h9 => by
  have e1:=h6.1
  have e2:=h8.1
  rw [List.length_nil] at e1 e2
  exact Gives.ok ⟨rfl,⟨by show fs.length≤64;omega,by show ms.length≤64;omega,h6.2.1,h8.2.1⟩,h9⟩
theorem num.ev {bs:List Int} (hb:IsBytes bs) (p n:Nat) (h7:n≤7):Ev (fun k => cr_num.f k bs p n) (numV bs p n):=by
 have hr:=beV_lt (n:=n) (rdL_bytes hb p n) (rdL_le bs p n)
 have hp:=pow256 h7
 have e:wrap64 (beV (rdL bs p n))=beV (rdL bs p n):=by unfold wrap64;omega
 unfold cr_num.f numV rawV
 refine Ev.bind (uint.ev bs hb p n (by omega)) ?_
 unfold rdE rdP
 by_cases h:p + n≤bs.length
 ·simp only [if_pos h,if_true,e]
  exact Ev.now _
 simp only [if_neg h]
 exact Ev.now _
theorem crsame.ev {bs:List Int} (hb:IsBytes bs) (p n:Nat) (h7:n≤7) (want:Int):Ev (fun k => cr_same.f k bs p n want) (sameV bs p n want):=Ev.rdo (num.ev hb p n h7) fun _ _ _ => Ev.now _
theorem count.ev {bs:List Int} (hb:IsBytes bs) (p n:Nat) (h7:n≤7) (most:Int):Ev (fun k => cr_count.f k bs p n most) (countV bs p n most):=Ev.rdo (num.ev hb p n h7) fun _ _ _ => Ev.now _
theorem named.ev {bs:List Int} (hb:IsBytes bs) (l0:List Cst) (p:Nat) (s:ByteArray):Ev (fun k => cr_named.f k l0 bs p s) (namedV l0 bs p s) :=
 Ev.rdo (num.ev hb p 2 (by decide)) fun x q _ => Ev.congr (fun k => by rw [pool_Text.eq,Option.bind_some]) (Ev.now _)
theorem long.ev {bs:List Int} (hb:IsBytes bs) (p:Nat):Ev (fun k => cr_long.f k bs p) (longD bs p) :=
 Ev.rdo (count.ev hb p 4 (by decide) 4096) fun x q h => by
  have h0:=(count.gives hb p 4 4096 x q h).1
  refine Ev.congr (fun k => if_pos h0) ?_
  unfold rawV rdE rdP
  by_cases g:q + x.toNat≤bs.length
  ·simp only [if_pos g,if_true];exact Ev.now _
  simp only [if_neg g];exact Ev.now _
theorem trap.ev {bs:List Int} (hb:IsBytes bs) (p:Nat):Ev (fun k => cr_trap.f k bs p) (trapD bs p) :=
 Ev.rdo (num.ev hb p 2 (by decide)) fun _ _ _ => Ev.rdo (num.ev hb _ 2 (by decide)) fun _ _ _ => Ev.rdo (num.ev hb _ 2 (by decide)) fun _ _ _ => Ev.rdo (num.ev hb _ 2 (by decide)) fun _ _ _ => Ev.now _
theorem traps.ev {bs:List Int} (hb:IsBytes bs):∀ (n p:Nat) (l:List Trp),Ev (fun k => cr_traps.f k bs n p l) (trapsD bs n p l)
 | 0,p,l => Ev.now _
 | n + 1,p,l => Ev.rdo (trap.ev hb p) fun t q _ => traps.ev hb n q (l++[t])
theorem maps.ev {bs:List Int} (hb:IsBytes bs) (l0:List Cst) (p:Nat):Ev (fun k => cr_maps.f k l0 bs p) (mapsD l0 bs p) :=
 Ev.rdo (num.ev hb p 2 (by decide)) fun x q _ => by
  by_cases h0:x=0
  ·rw [if_pos h0];exact Ev.congr (fun k => if_pos h0) (Ev.now _)
  rw [if_neg h0]
  refine Ev.congr (fun k => if_neg h0) ?_
  by_cases h1:x=1
  ·rw [if_pos h1]
   exact Ev.congr (fun k => if_pos h1) (Ev.rdo (named.ev hb l0 q sMaps) fun _ q1 _ => Ev.rdo (long.ev hb q1) fun ys q2 _ => Ev.now _)
  rw [if_neg h1];exact Ev.congr (fun k => if_neg h1) (Ev.now _)
theorem cmeth.ev {bs:List Int} (hb:IsBytes bs) (l0:List Cst) (p:Nat):Ev (fun k => cr_method.f k l0 bs p) (methD l0 bs p) :=
 Ev.rdo (num.ev hb p 2 (by decide)) fun x1 p1 _ => Ev.rdo (num.ev hb p1 2 (by decide)) fun x2 p2 _ => Ev.rdo (num.ev hb p2 2 (by decide)) fun x3 p3 _ => Ev.rdo (crsame.ev hb p3 2 (by decide) 1) fun _ p4 _ => Ev.rdo (named.ev hb l0 p4 sCode) fun _ p5 _ => Ev.rdo (num.ev hb p5 4 (by decide)) fun n p6 _ =>
 Ev.rdo (num.ev hb p6 2 (by decide)) fun x7 p7 _ => Ev.rdo (num.ev hb p7 2 (by decide)) fun x8 p8 _ => Ev.rdo (long.ev hb p8) fun code p9 _ => Ev.rdo (count.ev hb p9 2 (by decide) 64) fun c p10 _ => Ev.rdo (traps.ev hb c.toNat p10 []) fun traps p11 _ => Ev.rdo (maps.ev hb l0 p11) fun maps p12 _ => Ev.now _
theorem fld.ev {bs:List Int} (hb:IsBytes bs) (p:Nat):Ev (fun k => cr_fld.f k bs p) (fldD bs p) :=
 Ev.rdo (num.ev hb p 2 (by decide)) fun _ _ _ => Ev.rdo (num.ev hb _ 2 (by decide)) fun _ _ _ => Ev.rdo (num.ev hb _ 2 (by decide)) fun _ _ _ => Ev.now _
theorem flds.ev {bs:List Int} (hb:IsBytes bs):∀ (n p:Nat) (l:List Fld),Ev (fun k => cr_flds.f k bs n p l) (fldsD bs n p l)
 | 0,p,l => Ev.now _
 | n + 1,p,l => Ev.rdo (fld.ev hb p) fun t q _ => Ev.rdo (crsame.ev hb q 2 (by decide) 0) fun _ q2 _ => flds.ev hb n q2 (l++[t])
theorem mths.ev {bs:List Int} (hb:IsBytes bs) (l0:List Cst):∀ (n p:Nat) (l:List Mth),Ev (fun k => cr_mths.f k l0 bs n p l) (mthsD l0 bs n p l)
 | 0,p,l => Ev.now _
 | n + 1,p,l => Ev.rdo (cmeth.ev hb l0 p) fun t q _ => mths.ev hb l0 n q (l++[t])
theorem rest_.ev {bs:List Int} (hb:IsBytes bs) (l0:List Cst) (hl0:l0.length≤1048576) (hp:∀ c ∈ l0,FitC c) (p:Nat):Ev (fun k => cr_rest.f k l0 bs p) ((restD l0 bs p).bindV (endD bs)):=by
 unfold restD
 simp only [Rdo.bindV_assoc,Rdo.bindV_ok]
 refine Ev.rdo (crsame.ev hb p 2 (by decide) 0) fun _ p1 _ => Ev.rdo (num.ev hb p1 2 (by decide)) fun t p2 _ => Ev.rdo (num.ev hb p2 2 (by decide)) fun s p3 _ => Ev.rdo (crsame.ev hb p3 2 (by decide) 0) fun _ p4 _ =>
  Ev.rdo (count.ev hb p4 2 (by decide) 64) fun c p5 h5 => Ev.rdo (flds.ev hb c.toNat p5 []) fun fs p6 h6 => Ev.rdo (count.ev hb p6 2 (by decide) 64) fun d p7 h7 => Ev.rdo (mths.ev hb l0 d.toNat p7 []) fun ms p8 h8 => Ev.rdo (crsame.ev hb p8 2 (by decide) 0) fun _ p9 _ => ?_
 have g5:=count.gives hb p4 2 64 c p5 h5
 have g6:=flds.gives hb c.toNat p5 [] g5.2.2 (fun f hf => by cases hf) fs p6 h6
 have g7:=count.gives hb p6 2 64 d p7 h7
 have g8:=mths.gives hb l0 d.toNat p7 [] g7.2.2 (fun f hf => by cases hf) ms p8 h8
 have e1:=g6.1
 have e2:=g8.1
 rw [List.length_nil] at e1 e2
 unfold endD
 by_cases h:p9 < bs.length
 ·rw [if_pos h];exact Ev.congr (fun k => if_pos h) (Ev.now _)
 rw [if_neg h]
 exact Ev.congr (fun k => if_neg h) (Ev.bind (class_Check.ev l0 hl0 t s fs ms (by omega) (by omega) g6.2.1 (fun m hm => (g8.2.1 m hm).1) hp) (Ev.now _))
end Go.Proofs.YtamdobdmjcgmoaaGreatDoor.Px
namespace Go.Proofs.YtamdobdmjcgmoaaGreatDoor.Px
open Go.RowKit Go.Proofs.YtamdobdmjcgmoaaGreatDoorW.PrintWords Go.Proofs.YtamdobdmjcgmoaaGreatDoorW.PrintLast Go.Proofs.YtamdobdmjcgmoaaGreatDoorW.PrintMore
set_option linter.unusedVariables false
set_option linter.unusedSimpArgs false
theorem rd_ext {bs:List Int} {p n:Nat} (R:List Int) (h:rdE bs p n=0):rdL (bs++R) p n=rdL bs p n∧rdE (bs++R) p n=0∧rdP (bs++R) p n=rdP bs p n∧p + n≤bs.length:=by
 have hs:p + n≤bs.length:=by
  unfold rdE at h
  by_cases hs:p + n≤bs.length
  ·exact hs
  rw [if_neg hs] at h;omega
 have hs2:p + n≤(bs++R).length:=by rw [List.length_append];omega
 unfold rdL rdE rdP
 rw [if_pos hs,if_pos hs,if_pos hs2,if_pos hs2,if_pos hs2,List.take_append_of_le_length hs]
 exact ⟨rfl,rfl,rfl,hs⟩
theorem uV_ext {bs:List Int} {p n:Nat} (R:List Int) (h:(uV bs p n).2.1=0):uV (bs++R) p n=uV bs p n:=by
 have h0:rdE bs p n=0:=h
 obtain ⟨a,b,c,_⟩:=rd_ext R h0
 unfold uV
 rw [a,b,c,h0]
theorem iV_ext {bs:List Int} {p n:Nat} (R:List Int) (h:(iV bs p n).2.1=0):iV (bs++R) p n=iV bs p n:=by
 unfold iV at h ⊢
 by_cases hs:p + n≤bs.length
 ·have hs2:p + n≤(bs++R).length:=by rw [List.length_append];omega
  rw [if_pos hs,if_pos hs2]
  rw [(rd_ext R (show rdE bs p n=0 from if_pos hs)).1]
 rw [if_neg hs] at h;exact absurd h (show ¬ (3:Int)=0 by decide)
theorem twoV_ext {bs:List Int} {p:Nat} {e:Int} (R:List Int) (h:(twoV bs p e).2.1=0):twoV (bs++R) p e=twoV bs p e∧e=0:=by
 unfold twoV at h ⊢
 by_cases he:e=0
 ·rw [if_pos he] at h ⊢
  rw [if_pos he]
  exact ⟨uV_ext R h,he⟩
 rw [if_neg he] at h
 exact absurd h he
theorem uV_pos {bs:List Int} {p n:Nat} (h:p≤bs.length):(uV bs p n).2.2≤bs.length:=rdP_le h
theorem iV_pos {bs:List Int} {p n:Nat} (h:p≤bs.length):(iV bs p n).2.2≤bs.length:=by
 unfold iV
 split
 ·assumption
 exact h
theorem twoV_pos {bs:List Int} {p:Nat} {e:Int} (h:p≤bs.length):(twoV bs p e).2.2≤bs.length:=by
 unfold twoV
 split
 ·exact uV_pos h
 exact h
theorem bodyV_ext {bs:List Int} {t:Int} {p:Nat} (R:List Int) (h:(bodyV bs t p).2.1=0):bodyV (bs++R) t p=bodyV bs t p:=by
 unfold bodyV at h ⊢
 by_cases h1:t=1
 ·simp only [if_pos h1] at h ⊢
  by_cases h2:(uV bs p 2).2.1=0
  ·rw [uV_ext R h2]
   simp only [if_pos h2] at h ⊢
   by_cases h3:(uV bs p 2).1 > 256
   ·rw [if_pos h3] at h;exact absurd h (show ¬ (20:Int)=0 by decide)
   simp only [if_neg h3] at h ⊢
   by_cases h4:rdE bs (uV bs p 2).2.2 (uV bs p 2).1.toNat=0
   ·obtain ⟨a,b,c,_⟩:=rd_ext R h4
    rw [a,b,c]
    simp only [if_pos h4,if_true]
   rw [if_neg h4] at h;exact absurd h h4
  rw [if_neg h2] at h;exact absurd h h2
 simp only [if_neg h1] at h ⊢
 by_cases h3:t=3
 ·simp only [if_pos h3] at h ⊢
  rw [iV_ext R h]
 simp only [if_neg h3] at h ⊢
 by_cases h5:t=5
 ·simp only [if_pos h5] at h ⊢
  rw [iV_ext R h]
 simp only [if_neg h5] at h ⊢
 by_cases h7:t=7
 ·simp only [if_pos h7] at h ⊢
  rw [uV_ext R h]
 simp only [if_neg h7] at h ⊢
 by_cases h9:t=9 ∨ t=10 ∨ t=12
 ·simp only [if_pos h9] at h ⊢
  have hu:(uV bs p 2).2.1=0:=(twoV_ext R h).2
  rw [uV_ext R hu,(twoV_ext R h).1]
 rw [if_neg h9] at h;exact absurd h (show ¬ (40:Int)=0 by decide)
theorem bodyV_pos {bs:List Int} {t:Int} {p:Nat} (h:p≤bs.length):(bodyV bs t p).2.2≤bs.length:=by
 unfold bodyV
 repeat' split
 all_goals first|exact h|exact uV_pos h|exact iV_pos h|exact twoV_pos (uV_pos h)|exact rdP_le (uV_pos h)
theorem constV_ext {bs:List Int} {p:Nat} (R:List Int) (h:(constV bs p).2.1=0):constV (bs++R) p=constV bs p:=by
 unfold constV at h ⊢
 by_cases h1:(uV bs p 1).2.1=0
 ·rw [uV_ext R h1]
  simp only [if_pos h1] at h ⊢
  exact bodyV_ext R h
 rw [if_neg h1] at h;exact absurd h h1
theorem constV_pos {bs:List Int} {p:Nat} (h:p≤bs.length):(constV bs p).2.2≤bs.length:=by
 unfold constV
 split
 ·exact bodyV_pos (uV_pos h)
 exact uV_pos h
structure OkDec (bs:List Int) (d:List Cst × Int × Int):Prop where
 fit:∀ c ∈ d.1,FitC c
 len:d.1.length≤1024
 chk:checkV d.1=0
 ge:0≤d.2.1
 le:d.2.1≤bs.length
theorem decL_ok {bs:List Int} (hb:IsBytes bs) (n:Int) (hn:n≤1024):∀ (f:Nat) (ps:List Cst) (p:Nat),n≤ps.length + f→ps.length≤1024→(∀ c ∈ ps,FitC c)→p≤bs.length→(decL (f + 1) bs n ps p).2.2=0 →
  OkDec bs (decL (f + 1) bs n ps p)∧∀ R,decL (f + 1) (bs++R) n ps p=decL (f + 1) bs n ps p:=by
 have last:∀ (f:Nat) (ps:List Cst) (p:Nat),¬ (ps.length:Int) < n→ps.length≤1024→(∀ c ∈ ps,FitC c)→p≤bs.length→(decL (f + 1) bs n ps p).2.2=0 →
   OkDec bs (decL (f + 1) bs n ps p)∧∀ R,decL (f + 1) (bs++R) n ps p=decL (f + 1) bs n ps p:=by
  intro f ps p hs hl hf hp h
  unfold decL at h ⊢
  simp only [if_neg hs] at h ⊢
  by_cases hc:checkV ps=0
  ·simp only [if_pos hc]
   exact ⟨⟨hf,hl,hc,by show (0:Int)≤(p:Int);omega,by show (p:Int)≤_;omega⟩,fun _ => trivial⟩
  rw [if_neg hc] at h;exact absurd h hc
 intro f
 induction f with
 | zero => intro ps p h1 h2 h3 h4 h;exact last 0 ps p (by omega) h2 h3 h4 h
 | succ f ih =>
  intro ps p h1 h2 h3 h4 h
  by_cases hs:(ps.length:Int) < n
  ·rw [decL,if_pos hs] at h ⊢
   by_cases h0:(constV bs p).2.1=0
   ·rw [if_pos h0] at h ⊢
    obtain ⟨g1,g2⟩:=ih (ps++[(constV bs p).1]) (constV bs p).2.2 (by rw [List.length_append,List.length_singleton];omega) (by rw [List.length_append,List.length_singleton];omega) (fun c hc => by
     rcases List.mem_append.1 hc with q|q
     ·exact h3 c q
     rw [List.mem_singleton.1 q];exact constV_fit hb p h0) (constV_pos h4) h
    refine ⟨g1,fun R => ?_⟩
    rw [decL,if_pos hs,constV_ext R h0,if_pos h0,g2 R]
   rw [if_neg h0] at h;exact absurd h h0
  exact last (f + 1) ps p hs h2 h3 h4 h
theorem decPV_ok {bs:List Int} (hb:IsBytes bs) (h:(decPV bs).2.2=0):OkDec bs (decPV bs)∧∀ R,decPV (bs++R)=decPV bs:=by
 have h2:=u2_range hb 0
 unfold decPV at h ⊢
 by_cases h0:(uV bs 0 2).2.1=0
 ·simp only [if_pos h0] at h ⊢
  by_cases h3:(uV bs 0 2).1 > 1024
  ·rw [if_pos h3] at h;exact absurd h (by decide)
  simp only [if_neg h3] at h ⊢
  by_cases h4:(uV bs 0 2).1=0
  ·rw [if_pos h4] at h;exact absurd h (by decide)
  simp only [if_neg h4] at h ⊢
  obtain ⟨g1,g2⟩:=decL_ok hb (uV bs 0 2).1 (by omega) (uV bs 0 2).1.toNat [z61] (uV bs 0 2).2.2 (by simp;omega) (by simp) one_fit (uV_pos (Nat.zero_le _)) h
  refine ⟨g1,fun R => ?_⟩
  rw [uV_ext R h0]
  simp only [if_pos h0,if_neg h3,if_neg h4]
  exact g2 R
 rw [if_neg h0] at h;exact absurd h h0
theorem drop_bytes {bs:List Int} (h:IsBytes bs) (p:Nat):IsBytes (bs.drop p):=fun x hx => h x (List.mem_of_mem_drop hx)
theorem cls_zero_len {bs:List Int} {p:Nat}:(bs.drop p).length≤bs.length:=by rw [List.length_drop];omega
theorem cr_class.ev {bs:List Int} (hb:IsBytes bs) (hl:bs.length≤140737488351232):Ev (fun k => cr_class.f k bs) (classD bs):=by
 unfold classD coreD
 simp only [Rdo.bindV_assoc]
 refine Ev.rdo (crsame.ev hb 0 4 (by decide) _) fun _ p1 _ => Ev.rdo (crsame.ev hb p1 4 (by decide) 61) fun _ p2 _ => ?_
 refine Ev.bind (pool_Decode.ev (drop_bytes hb p2) (Nat.le_trans cls_zero_len hl)) ?_
 unfold poolD
 by_cases h0:(decPV (bs.drop p2)).2.2=0
 ·obtain ⟨hk,_⟩:=decPV_ok (drop_bytes hb p2) h0
  have hle:=hk.le
  have hd:=cls_zero_len (bs:=bs) (p:=p2)
  have hr:0≤(decPV (bs.drop p2)).2.1∧(decPV (bs.drop p2)).2.1≤4611686018427387904:=⟨hk.ge,by omega⟩
  refine Ev.congr (fun k => (if_pos h0).trans (if_pos hr)) ?_
  rw [if_pos h0]
  unfold rawV rdE rdP
  by_cases h1:p2 + (decPV (bs.drop p2)).2.1.toNat≤bs.length
  ·simp only [if_pos h1,if_true,Rdo.bindV_ok]
   have:=hk.len
   exact rest_.ev hb _ (by omega) hk.fit _
  simp only [if_neg h1]
  exact Ev.now _
 refine Ev.congr (fun k => if_neg h0) ?_
 rw [if_neg h0]
 exact Ev.now _
theorem class_Decode.ev {bs:List Int} (hb:IsBytes bs) (hl:bs.length≤140737488351232):Ev (fun k => class_Decode.f k bs) (decR (classD bs)):=by
 unfold class_Decode.f
 exact Ev.congr (fun k => if_pos hl) (Ev.bind (cr_class.ev hb hl) (Ev.now _))
theorem pool.gives {bs:List Int} (hb:IsBytes bs) (p:Nat):Gives (poolD bs p) (fun l q => (∀ c ∈ l,FitC c)∧l.length≤1024∧checkV l=0∧q≤bs.length):=by
 unfold poolD
 by_cases h0:(decPV (bs.drop p)).2.2=0
 ·rw [if_pos h0]
  obtain ⟨hk,_⟩:=decPV_ok (drop_bytes hb p) h0
  exact Gives.bind (raw.gives hb p _) fun _ q h => Gives.ok ⟨hk.fit,hk.len,hk.chk,h.2.2.2⟩
 rw [if_neg h0];exact Gives.er
theorem core.gives {bs:List Int} (hb:IsBytes bs):Gives (coreD bs) (fun c q => (∀ x ∈ c.f0,FitC x)∧c.f0.length≤1024∧ClsR c∧q≤bs.length) :=
 Gives.bind (same.gives hb 0 4 _) fun _ p1 _ => Gives.bind (same.gives hb p1 4 61) fun _ p2 _ => Gives.bind (pool.gives hb p2) fun l p3 h3 => (rest.gives hb l p3).mono fun c q h => ⟨by rw [h.1];exact h3.1,by rw [h.1];exact h3.2.1,h.2.1,h.2.2⟩
def Ext {α:Type} (G:List Int→Rdo α) (p:Nat):Prop:=∀ (bs R:List Int),IsBytes bs→p≤bs.length→∀ x q,G bs=.ok x q→G (bs++R)=.ok x q∧q≤bs.length
theorem Ext.ok {α:Type} (x:α) (p:Nat):Ext (fun _ => .ok x p) p:=fun bs R _ hp y q h => by injection h with h1 h2;subst h1;subst h2;exact ⟨rfl,hp⟩
theorem Ext.er {α:Type} (e:Int) (p:Nat):Ext (fun _ => (.er e:Rdo α)) p:=fun bs R _ hp y q h => by cases h
theorem Ext.ite {α:Type} {c:Prop} [Decidable c] {A B:List Int→Rdo α} {p:Nat} (ha:Ext A p) (hb:Ext B p):Ext (fun bs => if c then A bs else B bs) p:=by
 by_cases h:c
 ·simp only [if_pos h];exact ha
 simp only [if_neg h];exact hb
theorem Ext.bind {α β:Type} {P:List Int→Rdo α} {F:α→Nat→List Int→Rdo β} {p:Nat} (h:Ext P p) (k:∀ x q,Ext (fun bs => F x q bs) q):Ext (fun bs => (P bs).bindV fun x q => F x q bs) p:=by
 intro bs R hb hp y r hy
 dsimp only at hy ⊢
 cases hP:P bs with
 | er e => rw [hP] at hy;cases hy
 | ok x q =>
  rw [hP] at hy
  obtain ⟨e,hq⟩:=h bs R hb hp x q hP
  rw [e]
  exact k x q bs R hb hq y r hy
end Go.Proofs.YtamdobdmjcgmoaaGreatDoor.Px
namespace Go.Proofs.YtamdobdmjcgmoaaGreatDoor.Px
open Go.RowKit Go.Proofs.YtamdobdmjcgmoaaGreatDoorW.PrintWords Go.Proofs.YtamdobdmjcgmoaaGreatDoorW.PrintLast Go.Proofs.YtamdobdmjcgmoaaGreatDoorW.PrintMore
set_option linter.unusedVariables false
set_option linter.unusedSimpArgs false
theorem ref_Text.eq (l:List Cst) (i:Int):understudyref04_Text.f l i=some (textV l i):=by
 rw [← pool_Text.eq]
 unfold understudyref04_Text.f pool_Text.f
 rw [ref_is.eq,pool_is.eq]
theorem ref_Class.eq (l:List Cst) (i:Int):understudyref04_Class.f l i=some (classV l i):=by
 rw [← pool_Class.eq]
 unfold understudyref04_Class.f pool_Class.f
 simp only [ref_is.eq,pool_is.eq,ref_Text.eq,pool_Text.eq]
theorem utf.eq (l:List Cst) (i:Int):understudyref05_utf.f l i=some (txt l i):=by
 unfold understudyref05_utf.f
 rw [ref_Text.eq]
 rfl
theorem cls.eq (l:List Cst) (i:Int):understudyref05_cls.f l i=some (cl l i):=by
 unfold understudyref05_cls.f
 rw [ref_Class.eq]
 rfl
theorem placeG_nonneg:∀ (n:Nat) (p:List Cst) (s:ByteArray) (i:Nat),0≤placeG n p s i
 | 0,_,_,_ => Int.le_refl 0
 | n + 1,p,s,i => by
  unfold placeG
  split
  ·split
   ·omega
   exact placeG_nonneg n p s (i + 1)
  omega
theorem placeV_nonneg (p:List Cst) (s:ByteArray):0≤placeV p s:=placeG_nonneg _ _ _ _
theorem reftext.ev_l (p:List Cst) (s:ByteArray) (hl:p.length≤1048576):∀ n (i:Nat),0 < i→p.length≤i + n→Ev (fun k => understudyref05_text.l0 k p s (i:Int)) (placeG n p s i):=by
 have stop:∀ i:Nat,¬ i < p.length→Ev (fun k => understudyref05_text.l0 k p s (i:Int)) 0:=fun i hi => Ev.step (f:=fun _ => some 0) (fun k => by simp only [understudyref05_text.l0];rw [if_neg (by omega)]) (Ev.now _)
 intro n
 induction n with
 | zero => intro i h0 h;exact stop i (by omega)
 | succ n ih =>
  intro i h0 h
  show Ev _ (if i < p.length then _ else _)
  by_cases hi:i < p.length
  ·rw [if_pos hi]
   have hv:isV p (i:Int) 1=decide ((rd_T61 p (i:Int)).f0=1):=by
    unfold isV
    rw [Bool.eq_iff_iff,decide_eq_true_eq,decide_eq_true_eq]
    exact ⟨fun h => h.2.2,fun h => ⟨by omega,by omega,h⟩⟩
   refine Ev.step (f:=fun k => if isV p (i:Int) 1=true∧(rd_T61 p (i:Int)).f1.toList=s.toList then some (i:Int) else understudyref05_text.l0 k p s ((i + 1:Nat):Int)) (fun k => ?_) ?_
   ·simp only [understudyref05_text.l0]
    rw [if_pos (by omega),if_pos (by omega),w64 (by omega) (by omega),hv]
    by_cases h1:(rd_T61 p (i:Int)).f0=1
    ·rw [if_pos h1]
     by_cases hs:(rd_T61 p (i:Int)).f1.toList=s.toList
     ·rw [if_pos hs,if_pos ⟨decide_eq_true h1,hs⟩]
     rw [if_neg hs,if_neg (fun h => hs h.2)];rfl
    rw [if_neg h1,if_neg (fun h => h1 (of_decide_eq_true h.1))];rfl
   by_cases hc:isV p (i:Int) 1=true∧(rd_T61 p (i:Int)).f1.toList=s.toList
   ·rw [if_pos hc];exact Ev.congr (fun k => if_pos hc) (Ev.now _)
   rw [if_neg hc];exact Ev.congr (fun k => if_neg hc) (ih (i + 1) (by omega) (by omega))
  rw [if_neg hi];exact stop i hi
theorem reftext.ev (p:List Cst) (s:ByteArray) (hl:p.length≤1048576):Ev (fun k => understudyref05_text.f k p s) (placeV p s):=reftext.ev_l p s hl p.length 1 (by omega) (by omega)
def partB (p:List Cst) (n mn:Nat):Bool:=decide (1≤n∧n≤4096) && (decide (mn≤4096) && (decide (placeV p sCode > 0) && (decide (mn=0) || decide (placeV p sMaps > 0))))
section
variable (p:List Cst) (hl:p.length≤1048576) (m:Mth) (hm:FitM m)
include hl hm
theorem rm.ev_l:∀ d (i:Nat),m.f6.length≤i + d→Ev (fun k => understudyref05_method.l0 k p (m.f5.length:Int) (i:Int) m.f0 m.f1 m.f2 m.f3 m.f4 m.f5 m.f6 m.f7) ((m.f6.drop i).all (trapV p m.f5.length)):=by
 have _u:=hl
 obtain ⟨hw,h5,h6,h7⟩:=hm
 have stop:∀ i:Nat,¬ i < m.f6.length→Ev (fun k => understudyref05_method.l0 k p (m.f5.length:Int) (i:Int) m.f0 m.f1 m.f2 m.f3 m.f4 m.f5 m.f6 m.f7) ((m.f6.drop i).all (trapV p m.f5.length)):=fun i hi => by
  rw [List.drop_eq_nil_of_le (by omega),List.all_nil]
  exact Ev.step (f:=fun _ => some true) (fun k => by simp only [understudyref05_method.l0];rw [if_neg (by omega)]) (Ev.now _)
 intro d
 induction d with
 | zero => intro i h;exact stop i (by omega)
 | succ d ih =>
  intro i h
  by_cases hi:i < m.f6.length
  rotate_left
  ·exact stop i hi
  obtain ⟨t,ht⟩:∃ t,t=rd_T63 m.f6 (i:Int):=⟨_,rfl⟩
  have hd:m.f6.drop i=t :: m.f6.drop (i + 1):=by
   rw [drop_getD (z:=z63) i hi,ht]
   unfold rd_T63
   rw [Int.toNat_natCast]
  have j3:∀ b:Bool,Ev (fun k => understudyref05_method.j3 k p (m.f5.length:Int) (i:Int) b m.f0 m.f1 m.f2 m.f3 m.f4 m.f5 m.f6 m.f7) (!b && (m.f6.drop (i + 1)).all (trapV p m.f5.length)):=by
   intro b
   cases b with
   | true => exact Ev.step (f:=fun _ => some false) (fun k => by simp only [understudyref05_method.j3];rw [if_pos trivial]) (Ev.now _)
   | false =>
    rw [Bool.not_false,Bool.true_and]
    refine Ev.step (fun k => ?_) (ih (i + 1) (by omega))
    simp only [understudyref05_method.j3]
    rw [if_neg (by simp),w64 (by omega) (by omega)]
    rfl
  have pre:(i:Int) < (m.f6.length:Int):=by omega
  have pre0:(0:Int)≤(i:Int):=by omega
  rw [hd,List.all_cons]
  have bad:trapV p m.f5.length t=false→(∀ k,understudyref05_method.l0 (k + 1) p (m.f5.length:Int) (i:Int) m.f0 m.f1 m.f2 m.f3 m.f4 m.f5 m.f6 m.f7=understudyref05_method.j3 k p (m.f5.length:Int) (i:Int) true m.f0 m.f1 m.f2 m.f3 m.f4 m.f5 m.f6 m.f7)→Ev (fun k => understudyref05_method.l0 k p (m.f5.length:Int) (i:Int) m.f0 m.f1 m.f2 m.f3 m.f4 m.f5 m.f6 m.f7) (trapV p m.f5.length t && (m.f6.drop (i + 1)).all (trapV p m.f5.length)):=by
   intro e hk
   rw [e,Bool.false_and]
   exact Ev.step hk (j3 true)
  by_cases c1:t.f0 < 0
  ·exact bad (by unfold trapV;rw [if_pos c1]) (fun k => by simp only [understudyref05_method.l0,← ht];rw [if_pos pre,if_pos pre0,if_pos c1])
  by_cases c2:t.f0 ≥ t.f1
  ·exact bad (by unfold trapV;rw [if_neg c1,if_pos c2]) (fun k => by simp only [understudyref05_method.l0,← ht];rw [if_pos pre,if_pos pre0,if_neg c1,if_pos c2])
  by_cases c3:t.f1 > (m.f5.length:Int)
  ·exact bad (by unfold trapV;rw [if_neg c1,if_neg c2,if_pos c3]) (fun k => by simp only [understudyref05_method.l0,← ht];rw [if_pos pre,if_pos pre0,if_neg c1,if_neg c2,if_pos c3])
  by_cases c4:t.f2 < 0
  ·exact bad (by unfold trapV;rw [if_neg c1,if_neg c2,if_neg c3,if_pos (Or.inl c4)]) (fun k => by simp only [understudyref05_method.l0,← ht];rw [if_pos pre,if_pos pre0,if_neg c1,if_neg c2,if_neg c3,if_pos c4])
  by_cases c6:t.f2 ≥ (m.f5.length:Int)
  ·exact bad (by unfold trapV;rw [if_neg c1,if_neg c2,if_neg c3,if_pos (Or.inr c6)]) (fun k => by simp only [understudyref05_method.l0,← ht];rw [if_pos pre,if_pos pre0,if_neg c1,if_neg c2,if_neg c3,if_neg c4,if_pos c6])
  have c46:¬ (t.f2 < 0 ∨ t.f2 ≥ (m.f5.length:Int)):=by omega
  by_cases c5:t.f3=0
  ·have e:trapV p m.f5.length t=true:=by unfold trapV;rw [if_neg c1,if_neg c2,if_neg c3,if_neg c46,if_pos c5]
   rw [e]
   exact Ev.step (fun k => by simp only [understudyref05_method.l0,← ht];rw [if_pos pre,if_pos pre0,if_neg c1,if_neg c2,if_neg c3,if_neg c4,if_neg c6,if_pos c5]) (j3 false)
  have e:trapV p m.f5.length t=cl p t.f3:=by unfold trapV;rw [if_neg c1,if_neg c2,if_neg c3,if_neg c46,if_neg c5]
  rw [e]
  have hj:=j3 (!(cl p t.f3))
  rw [Bool.not_not] at hj
  exact Ev.step (fun k => by simp only [understudyref05_method.l0,← ht,cls.eq,Option.bind_some];rw [if_pos pre,if_pos pre0,if_neg c1,if_neg c2,if_neg c3,if_neg c4,if_neg c6,if_neg c5]) hj
theorem rm.ev_j1 (b:Bool):Ev (fun k => understudyref05_method.j1 k p (m.f5.length:Int) b m.f0 m.f1 m.f2 m.f3 m.f4 m.f5 m.f6 m.f7) (!b && m.f6.all (trapV p m.f5.length)):=by
 cases b with
 | true => exact Ev.step (f:=fun _ => some false) (fun k => by simp only [understudyref05_method.j1];rw [if_pos trivial]) (Ev.now _)
 | false =>
  have:=rm.ev_l p hl m hm m.f6.length 0 (by omega)
  rw [List.drop_zero] at this
  rw [Bool.not_false,Bool.true_and]
  exact Ev.step (fun k => by simp only [understudyref05_method.j1];rw [if_neg (by simp)];rfl) this
theorem rm.ev_j0 (b:Bool):Ev (fun k => understudyref05_method.j0 k p b m.f0 m.f1 m.f2 m.f3 m.f4 m.f5 m.f6 m.f7) (!b && (partB p m.f5.length m.f7.length && m.f6.all (trapV p m.f5.length))):=by
 have j1:=rm.ev_j1 p hl m hm
 have jt:Ev (fun k => understudyref05_method.j1 k p (m.f5.length:Int) true m.f0 m.f1 m.f2 m.f3 m.f4 m.f5 m.f6 m.f7) false:=j1 true
 cases b with
 | true => exact Ev.step (f:=fun _ => some false) (fun k => by simp only [understudyref05_method.j0];rw [if_pos trivial]) (Ev.now _)
 | false =>
  rw [Bool.not_false,Bool.true_and]
  have no:∀ {x:Bool},x=false→(x && m.f6.all (trapV p m.f5.length))=false:=fun h => by rw [h,Bool.false_and]
  by_cases a1:(m.f5.length:Int) < 1
  ·rw [no (by unfold partB;rw [decide_eq_false (show ¬ (1≤m.f5.length∧m.f5.length≤4096) by omega)];simp)]
   exact Ev.step (fun k => by simp only [understudyref05_method.j0];rw [if_neg (by simp),if_pos a1]) jt
  by_cases a2:(m.f5.length:Int) > 4096
  ·rw [no (by unfold partB;rw [decide_eq_false (show ¬ (1≤m.f5.length∧m.f5.length≤4096) by omega)];simp)]
   exact Ev.step (fun k => by simp only [understudyref05_method.j0];rw [if_neg (by simp),if_neg a1,if_pos a2]) jt
  have a12:decide (1≤m.f5.length∧m.f5.length≤4096)=true:=decide_eq_true (by omega)
  by_cases a3:(m.f7.length:Int) > 4096
  ·rw [no (by unfold partB;rw [decide_eq_false (show ¬ m.f7.length≤4096 by omega)];simp)]
   exact Ev.step (fun k => by simp only [understudyref05_method.j0];rw [if_neg (by simp),if_neg a1,if_neg a2,if_pos a3]) jt
  have a3b:decide (m.f7.length≤4096)=true:=decide_eq_true (by omega)
  have hnn:=placeV_nonneg p sCode
  have hnm:=placeV_nonneg p sMaps
  refine Ev.step (fun k => by simp only [understudyref05_method.j0];rw [if_neg (by simp),if_neg a1,if_neg a2,if_neg a3];rfl) (Ev.bind (reftext.ev p sCode hl) ?_)
  by_cases a4:placeV p sCode=0
  ·rw [no (by unfold partB;rw [decide_eq_false (show ¬ placeV p sCode > 0 by omega)];simp)]
   exact Ev.congr (fun k => if_pos a4) jt
  have a4b:decide (placeV p sCode > 0)=true:=decide_eq_true (by omega)
  refine Ev.congr (fun k => if_neg a4) ?_
  by_cases a5:(m.f7.length:Int) > 0
  ·have a5b:decide (m.f7.length=0)=false:=decide_eq_false (by omega)
   refine Ev.congr (fun k => if_pos a5) (Ev.bind (reftext.ev p sMaps hl) ?_)
   have e:partB p m.f5.length m.f7.length=!(placeV p sMaps==0):=by
    unfold partB
    rw [a12,a3b,a4b,a5b,Bool.true_and,Bool.true_and,Bool.true_and,Bool.false_or,Bool.eq_iff_iff]
    simp only [decide_eq_true_eq,Bool.not_eq_true',beq_eq_false_iff_ne]
    omega
   rw [e]
   exact j1 (placeV p sMaps==0)
  have a5b:decide (m.f7.length=0)=true:=decide_eq_true (by omega)
  have e:partB p m.f5.length m.f7.length=true:=by unfold partB;rw [a12,a3b,a4b,a5b];rfl
  rw [e]
  exact Ev.congr (fun k => if_neg a5) (j1 false)
theorem rm.ev:Ev (fun k => understudyref05_method.f k p m.f0 m.f1 m.f2 m.f3 m.f4 m.f5 m.f6 m.f7) (methV p m):=by
 have j0:=rm.ev_j0 p hl m hm
 have jt:Ev (fun k => understudyref05_method.j0 k p true m.f0 m.f1 m.f2 m.f3 m.f4 m.f5 m.f6 m.f7) false:=j0 true
 have hV:methV p m=(flagsV m.f0 && ((txt p m.f1 && txt p m.f2) && (decide (0≤m.f3∧m.f3≤64) && (decide (0≤m.f4∧m.f4≤64) && (partB p m.f5.length m.f7.length && m.f6.all (trapV p m.f5.length)))))):=by
  unfold methV restV partB
  rw [Bool.and_comm]
  simp only [Bool.and_assoc]
 rw [hV]
 have chain:Ev (fun k => if txt p m.f1=true then (if txt p m.f2=true then (if m.f3 < 0 then (understudyref05_method.j0 k p true m.f0 m.f1 m.f2 m.f3 m.f4 m.f5 m.f6 m.f7) else (if m.f3 > 64 then (understudyref05_method.j0 k p true m.f0 m.f1 m.f2 m.f3 m.f4 m.f5 m.f6 m.f7) else (if m.f4 < 0 then (understudyref05_method.j0 k p true m.f0 m.f1 m.f2 m.f3 m.f4 m.f5 m.f6 m.f7) else (understudyref05_method.j0 k p (decide (m.f4 > 64)) m.f0 m.f1 m.f2 m.f3 m.f4 m.f5 m.f6 m.f7)))) else (understudyref05_method.j0 k p true m.f0 m.f1 m.f2 m.f3 m.f4 m.f5 m.f6 m.f7)) else (understudyref05_method.j0 k p true m.f0 m.f1 m.f2 m.f3 m.f4 m.f5 m.f6 m.f7))
   ((txt p m.f1 && txt p m.f2) && (decide (0≤m.f3∧m.f3≤64) && (decide (0≤m.f4∧m.f4≤64) && (partB p m.f5.length m.f7.length && m.f6.all (trapV p m.f5.length))))):=by
  by_cases t1:txt p m.f1=true
  rotate_left
  ·rw [Bool.eq_false_iff.2 t1,Bool.false_and,Bool.false_and]
   exact Ev.congr (fun k => if_neg (by simp)) jt
  refine Ev.congr (fun k => if_pos t1) ?_
  rw [t1,Bool.true_and]
  by_cases t2:txt p m.f2=true
  ·refine Ev.congr (fun k => if_pos t2) ?_
   rw [t2,Bool.true_and]
   by_cases b1:m.f3 < 0
   ·rw [decide_eq_false (show ¬ (0≤m.f3∧m.f3≤64) by omega),Bool.false_and]
    exact Ev.congr (fun k => if_pos b1) jt
   by_cases b2:m.f3 > 64
   ·rw [decide_eq_false (show ¬ (0≤m.f3∧m.f3≤64) by omega),Bool.false_and]
    exact Ev.congr (fun k => (if_neg b1).trans (if_pos b2)) jt
   rw [decide_eq_true (show 0≤m.f3∧m.f3≤64 by omega),Bool.true_and]
   by_cases b3:m.f4 < 0
   ·rw [decide_eq_false (show ¬ (0≤m.f4∧m.f4≤64) by omega),Bool.false_and]
    exact Ev.congr (fun k => (if_neg b1).trans ((if_neg b2).trans (if_pos b3))) jt
   have e:decide (0≤m.f4∧m.f4≤64)=!(decide (m.f4 > 64)):=by
    rw [Bool.eq_iff_iff]
    simp only [decide_eq_true_eq,Bool.not_eq_true',decide_eq_false_iff_not]
    omega
   rw [e]
   exact Ev.congr (fun k => (if_neg b1).trans ((if_neg b2).trans (if_neg b3))) (j0 (decide (m.f4 > 64)))
  rw [Bool.eq_false_iff.2 t2,Bool.false_and]
  exact Ev.congr (fun k => if_neg (by simp)) jt
 unfold understudyref05_method.f
 simp only [utf.eq,Option.bind_some]
 by_cases f0:m.f0=0
 ·have e:flagsV m.f0=true:=decide_eq_true (Or.inl f0)
  rw [e,Bool.true_and]
  exact Ev.congr (fun k => if_pos f0) chain
 by_cases f8:m.f0=8
 ·have e:flagsV m.f0=true:=decide_eq_true (Or.inr f8)
  rw [e,Bool.true_and]
  exact Ev.congr (fun k => (if_neg f0).trans (if_pos f8)) chain
 have e:flagsV m.f0=false:=decide_eq_false (by omega)
 rw [e,Bool.false_and]
 exact Ev.congr (fun k => (if_neg f0).trans (if_neg f8)) jt
end
section
variable (p:List Cst) (hl:p.length≤1048576) (this super:Int) (fs:List Fld) (ms:List Mth) (hfl:fs.length≤1048576) (hml:ms.length≤1048576) (hf:∀ f ∈ fs,FitF f) (hm:∀ m ∈ ms,FitM m)
include hl hfl hml hf hm
theorem rc.ev_l2:∀ d (i:Nat),ms.length≤i + d→Ev (fun k => understudyref05_Check.l2 k (i:Int) p this super fs ms) (fineV ((ms.drop i).all (methV p))):=by
 have _u:=And.intro hfl hf
 have stop:∀ (i:Nat),¬ i < ms.length→Ev (fun k => understudyref05_Check.l2 k (i:Int) p this super fs ms) (fineV ((ms.drop i).all (methV p))):=fun i hi => by
  rw [List.drop_eq_nil_of_le (by omega),List.all_nil]
  exact Ev.step (f:=fun _ => some 0) (fun k => by simp only [understudyref05_Check.l2];rw [if_neg (by omega)]) (Ev.now _)
 intro d
 induction d with
 | zero => intro i h;exact stop i (by omega)
 | succ d ih =>
  intro i h
  by_cases hi:i < ms.length
  ·obtain ⟨m,he⟩:∃ m,m=rd_T57 ms (i:Int):=⟨_,rfl⟩
   have hd:ms.drop i=m :: ms.drop (i + 1):=by
    rw [drop_getD (z:=z57) i hi,he]
    unfold rd_T57
    rw [Int.toNat_natCast]
   have hmm:m ∈ ms:=List.mem_of_mem_drop (hd ▸ List.mem_cons_self:m ∈ ms.drop i)
   rw [hd,List.all_cons]
   refine Ev.step (f:=fun k => (understudyref05_method.f k p m.f0 m.f1 m.f2 m.f3 m.f4 m.f5 m.f6 m.f7).bind fun t259 => if t259=true then understudyref05_Check.l2 k ((i + 1:Nat):Int) p this super fs ms else some 50) (fun k => ?_) (Ev.bind (rm.ev p hl m (hm m hmm)) ?_)
   ·simp only [understudyref05_Check.l2,← he]
    rw [if_pos (by omega),if_pos (by omega),w64 (by omega) (by omega)]
    rfl
   by_cases hv:methV p m=true
   ·rw [hv,Bool.true_and]
    exact Ev.congr (fun k => if_pos rfl) (ih (i + 1) (by omega))
   rw [Bool.eq_false_iff.2 hv,Bool.false_and]
   exact Ev.congr (fun k => if_neg (by simp)) (Ev.now _)
  exact stop i hi
theorem rc.ev_l1:∀ d (i:Nat),fs.length≤i + d→Ev (fun k => understudyref05_Check.l1 k (i:Int) p this super fs ms) (fineV ((fs.drop i).all (fieldV p) && ms.all (methV p))):=by
 have stop:∀ (i:Nat),¬ i < fs.length→Ev (fun k => understudyref05_Check.l1 k (i:Int) p this super fs ms) (fineV ((fs.drop i).all (fieldV p) && ms.all (methV p))):=fun i hi => by
  rw [List.drop_eq_nil_of_le (by omega),List.all_nil,Bool.true_and]
  have h2:=rc.ev_l2 p hl this super fs ms hfl hml hf hm ms.length 0 (by omega)
  exact Ev.step (fun k => by simp only [understudyref05_Check.l1];rw [if_neg (by omega)];rfl) h2
 intro d
 induction d with
 | zero => intro i h;exact stop i (by omega)
 | succ d ih =>
  intro i h
  by_cases hi:i < fs.length
  rotate_left
  ·exact stop i hi
  obtain ⟨f,he⟩:∃ f,f=rd_T54 fs (i:Int):=⟨_,rfl⟩
  have hd:fs.drop i=f :: fs.drop (i + 1):=by
   rw [drop_getD (z:=z54) i hi,he]
   unfold rd_T54
   rw [Int.toNat_natCast]
  have j4:∀ b:Bool,Ev (fun k => understudyref05_Check.j4 k (i:Int) b p this super fs ms) (fineV (!b && ((fs.drop (i + 1)).all (fieldV p) && ms.all (methV p)))):=by
   intro b
   cases b with
   | true => exact Ev.step (f:=fun _ => some 50) (fun k => by simp only [understudyref05_Check.j4];rw [if_pos trivial]) (Ev.now _)
   | false =>
    rw [Bool.not_false,Bool.true_and]
    refine Ev.step (fun k => ?_) (ih (i + 1) (by omega))
    simp only [understudyref05_Check.j4]
    rw [if_neg (by simp),w64 (by omega) (by omega)]
    rfl
  rw [hd,List.all_cons,Bool.and_assoc]
  have chain:Ev (fun k => if txt p f.f1=true then understudyref05_Check.j4 k (i:Int) (!(txt p f.f2)) p this super fs ms else understudyref05_Check.j4 k (i:Int) true p this super fs ms) (fineV ((txt p f.f1 && txt p f.f2) && ((fs.drop (i + 1)).all (fieldV p) && ms.all (methV p)))):=by
   by_cases t1:txt p f.f1=true
   ·rw [t1,Bool.true_and]
    have:=j4 (!(txt p f.f2))
    rw [Bool.not_not] at this
    exact Ev.congr (fun k => if_pos rfl) this
   rw [Bool.eq_false_iff.2 t1,Bool.false_and]
   exact Ev.congr (fun k => if_neg (by simp)) (j4 true)
  by_cases f0:f.f0=0
  ·have e:fieldV p f=(txt p f.f1 && txt p f.f2):=by unfold fieldV flagsV;rw [decide_eq_true (Or.inl f0),Bool.true_and]
   rw [e]
   exact Ev.step (fun k => by simp only [understudyref05_Check.l1,← he,utf.eq,Option.bind_some];rw [if_pos (by omega),if_pos (by omega),if_pos f0]) chain
  by_cases f8:f.f0=8
  ·have e:fieldV p f=(txt p f.f1 && txt p f.f2):=by unfold fieldV flagsV;rw [decide_eq_true (Or.inr f8),Bool.true_and]
   rw [e]
   exact Ev.step (fun k => by simp only [understudyref05_Check.l1,← he,utf.eq,Option.bind_some];rw [if_pos (by omega),if_pos (by omega),if_neg f0,if_pos f8]) chain
  have e:fieldV p f=false:=by unfold fieldV flagsV;rw [decide_eq_false (by omega),Bool.false_and]
  rw [e]
  exact Ev.step (fun k => by simp only [understudyref05_Check.l1,← he];rw [if_pos (by omega),if_pos (by omega),if_neg f0,if_neg f8]) (j4 true)
theorem rc.ev_l0:∀ d (i:Nat),ms.length≤i + d→Ev (fun k => understudyref05_Check.l0 k (i:Int) p this super fs ms) (if (ms.drop i).any (fun m => decide ((m.f6.length:Int) > 64))=true then 2 else fineV ((cl p this && cl p super) && fs.all (fieldV p) && ms.all (methV p))):=by
 have stop:∀ (i:Nat),¬ i < ms.length→Ev (fun k => understudyref05_Check.l0 k (i:Int) p this super fs ms) (if (ms.drop i).any (fun m => decide ((m.f6.length:Int) > 64))=true then 2 else fineV ((cl p this && cl p super) && fs.all (fieldV p) && ms.all (methV p))):=fun i hi => by
  rw [List.drop_eq_nil_of_le (by omega),List.any_nil,if_neg (by simp),Bool.and_assoc]
  have h1:=rc.ev_l1 p hl this super fs ms hfl hml hf hm fs.length 0 (by omega)
  rw [List.drop_zero] at h1
  have j2:∀ b:Bool,Ev (fun k => understudyref05_Check.j2 k b p this super fs ms) (fineV (!b && (fs.all (fieldV p) && ms.all (methV p)))):=by
   intro b
   cases b with
   | true => exact Ev.step (f:=fun _ => some 50) (fun k => by simp only [understudyref05_Check.j2];rw [if_pos trivial]) (Ev.now _)
   | false =>
    rw [Bool.not_false,Bool.true_and]
    exact Ev.step (fun k => by simp only [understudyref05_Check.j2];rw [if_neg (by simp)];rfl) h1
  refine Ev.step (f:=fun k => if cl p this=true then understudyref05_Check.j2 k (!(cl p super)) p this super fs ms else understudyref05_Check.j2 k true p this super fs ms) (fun k => by simp only [understudyref05_Check.l0,cls.eq,Option.bind_some];rw [if_neg (by omega)]) ?_
  by_cases t1:cl p this=true
  ·rw [t1,Bool.true_and]
   have:=j2 (!(cl p super))
   rw [Bool.not_not] at this
   exact Ev.congr (fun k => if_pos rfl) this
  rw [Bool.eq_false_iff.2 t1,Bool.false_and]
  exact Ev.congr (fun k => if_neg (by simp)) (j2 true)
 intro d
 induction d with
 | zero => intro i h;exact stop i (by omega)
 | succ d ih =>
  intro i h
  by_cases hi:i < ms.length
  ·obtain ⟨m,he⟩:∃ m,m=rd_T57 ms (i:Int):=⟨_,rfl⟩
   have hd:ms.drop i=m :: ms.drop (i + 1):=by
    rw [drop_getD (z:=z57) i hi,he]
    unfold rd_T57
    rw [Int.toNat_natCast]
   rw [hd,List.any_cons]
   by_cases hx:(m.f6.length:Int) > 64
   ·rw [decide_eq_true hx,Bool.true_or,if_pos rfl]
    exact Ev.step (f:=fun _ => some 2) (fun k => by simp only [understudyref05_Check.l0,← he];rw [if_pos (by omega),if_pos (by omega),if_pos hx]) (Ev.now _)
   rw [decide_eq_false hx,Bool.false_or]
   exact Ev.step (fun k => by simp only [understudyref05_Check.l0,← he];rw [if_pos (by omega),if_pos (by omega),if_neg hx,w64 (by omega) (by omega)];rfl) (ih (i + 1) (by omega))
  exact stop i hi
theorem ref05_Check.ev (hp:∀ c ∈ p,FitC c):Ev (fun k => understudyref05_Check.f k p this super fs ms) (classCheckV p this super fs ms):=by
 unfold understudyref05_Check.f classCheckV
 refine Ev.bind (ref_Check.ev p hp) ?_
 by_cases h:checkV p=0
 ·rw [if_pos h]
  refine Ev.congr (fun k => if_pos h) ?_
  have h0:=rc.ev_l0 p hl this super fs ms hfl hml hf hm ms.length 0 (by omega)
  rw [List.drop_zero] at h0
  by_cases a1:(fs.length:Int) > 64
  ·have e:longV (mx (fs.length:Int) (ms.length:Int)) ms=true:=by
    unfold longV
    rw [decide_eq_true (by unfold mx;split <;> omega),Bool.true_or]
   rw [e,if_pos rfl]
   exact Ev.congr (fun k => if_pos a1) (Ev.step (f:=fun _ => some 2) (fun k => by simp only [understudyref05_Check.j0];rw [if_pos trivial]) (Ev.now _))
  refine Ev.congr (fun k => if_neg a1) ?_
  by_cases a2:(ms.length:Int) > 64
  ·have e:longV (mx (fs.length:Int) (ms.length:Int)) ms=true:=by
    unfold longV
    rw [decide_eq_true (by unfold mx;split <;> omega),Bool.true_or]
   rw [e,if_pos rfl,decide_eq_true a2]
   exact Ev.step (f:=fun _ => some 2) (fun k => by simp only [understudyref05_Check.j0];rw [if_pos trivial]) (Ev.now _)
  have e:longV (mx (fs.length:Int) (ms.length:Int)) ms=ms.any (fun m => decide ((m.f6.length:Int) > 64)):=by
   unfold longV
   rw [decide_eq_false (by unfold mx;split <;> omega),Bool.false_or]
  rw [e,decide_eq_false a2]
  exact Ev.step (fun k => by simp only [understudyref05_Check.j0];rw [if_neg (by simp)];rfl) h0
 rw [if_neg h]
 exact Ev.congr (fun k => if_neg h) (Ev.now _)
end
end Go.Proofs.YtamdobdmjcgmoaaGreatDoor.Px
namespace Go.Proofs.YtamdobdmjcgmoaaGreatDoor.Px
open Go.RowKit Go.Proofs.YtamdobdmjcgmoaaGreatDoorW.PrintWords Go.Proofs.YtamdobdmjcgmoaaGreatDoorW.PrintLast Go.Proofs.YtamdobdmjcgmoaaGreatDoorW.PrintMore
set_option linter.unusedVariables false
set_option linter.unusedSimpArgs false
def Rp (bs:List Int) (t:Rdo Unit) (p e:Int):Prop:=match t with
 | .ok _ q => p=(q:Int)∧e=0∧q≤bs.length
 | .er n => e=n∧n ≠ 0
def Tr {α:Type} (bs:List Int) (A0:α→Prop) (a:α × Int × Int) (s:Rdo α):Prop:=A0 a.1∧match s with
 | .ok x q => a=(x,(q:Int),0)∧q≤bs.length
 | .er n => a.2.2=n∧n ≠ 0
def Pr (bs:List Int) (a:Int × Int) (s:Rdo Unit):Prop:=Rp bs s a.1 a.2
def Cn {γ β:Type} (F:Nat→Option γ) (s:Rdo β) (R:γ→Rdo β→Prop):Prop:=∃ y,Ev F y∧R y s
section
variable {α β γ:Type} {bs:List Int} {F:Nat→Option (α × Int × Int)} {G:Nat→α × Int × Int→Option γ} {t:Rdo Unit} {V:Nat→Rdo α} {W:α→Nat→Rdo β} {A0:α→Prop} {R:γ→Rdo β→Prop}
theorem Cn.step (hF:Cn F (t.bindV fun _ q => V q) (Tr bs A0)) (hG:∀ (a:α × Int × Int) (t':Rdo Unit),A0 a.1→Rp bs t' a.2.1 a.2.2→(∀ q',t'=.ok () q'→∃ q,t=.ok () q∧V q=.ok a.1 q')→Cn (fun k => G k a) (t'.bindV fun _ q => W a.1 q) R) :
  Cn (fun k => (F k).bind (G k)) (t.bindV fun _ q => (V q).bindV W) R:=by
 obtain ⟨a,ha,h0,hm⟩:=hF
 rw [← Rdo.bindV_assoc]
 cases hs:(t.bindV fun _ q => V q) with
 | ok x q =>
  rw [hs] at hm
  obtain ⟨rfl,hq⟩:=hm
  obtain ⟨y,hy,hr⟩:=hG (x,(q:Int),0) (.ok () q) h0 ⟨rfl,rfl,hq⟩ (fun q' e => by
   injection e with _ e
   subst e
   cases t with
   | ok u q0 => exact ⟨q0,rfl,hs⟩
   | er n => cases hs)
  exact ⟨y,Ev.bind ha hy,hr⟩
 | er n =>
  rw [hs] at hm
  obtain ⟨y,hy,hr⟩:=hG a (.er n) h0 ⟨hm.1,hm.2⟩ (fun q' e => by cases e)
  exact ⟨y,Ev.bind ha hy,hr⟩
theorem Cn.stepP {F:Nat→Option (Int × Int)} {G:Nat→Int × Int→Option γ} {V:Nat→Rdo Unit} {W:Nat→Rdo β} (hF:Cn F (t.bindV fun _ q => V q) (Pr bs)) (hG:∀ (a:Int × Int) (t':Rdo Unit),Rp bs t' a.1 a.2→(∀ q',t'=.ok () q'→∃ q,t=.ok () q∧V q=.ok () q')→Cn (fun k => G k a) (t'.bindV fun _ q => W q) R) :
  Cn (fun k => (F k).bind (G k)) (t.bindV fun _ q => (V q).bindV fun _ p => W p) R:=by
 obtain ⟨a,ha,hm⟩:=hF
 rw [← Rdo.bindV_assoc]
 cases hs:(t.bindV fun _ q => V q) with
 | ok x q =>
  rw [hs] at hm
  obtain ⟨y,hy,hr⟩:=hG a (.ok () q) hm (fun q' e => by
   injection e with _ e
   subst e
   cases t with
   | ok u q0 => exact ⟨q0,rfl,hs⟩
   | er n => cases hs)
  exact ⟨y,Ev.bind ha hy,hr⟩
 | er n =>
  rw [hs] at hm
  obtain ⟨y,hy,hr⟩:=hG a (.er n) hm (fun q' e => by cases e)
  exact ⟨y,Ev.bind ha hy,hr⟩
end
theorem Cn.now {γ β:Type} {y:γ} {s:Rdo β} {R:γ→Rdo β→Prop} (h:R y s):Cn (fun _ => some y) s R:=⟨y,Ev.now _,h⟩
theorem Cn.eq {γ β:Type} {F F':Nat→Option γ} {s:Rdo β} {R:γ→Rdo β→Prop} (h:∀ k,F k=F' k) (k:Cn F' s R):Cn F s R:=by
 obtain ⟨y,hy,hr⟩:=k
 exact ⟨y,Ev.congr h hy,hr⟩
theorem Cn.fuel {γ β:Type} {F F':Nat→Option γ} {s:Rdo β} {R:γ→Rdo β→Prop} (h:∀ k,F (k + 1)=F' k) (k:Cn F' s R):Cn F s R:=by
 obtain ⟨y,hy,hr⟩:=k
 exact ⟨y,Ev.step h hy,hr⟩
theorem failE_ne {e x:Int} (h:e ≠ 0):failE e x=e:=if_neg h
theorem failE_0 (x:Int):failE 0 x=x:=if_pos rfl
variable {bs:List Int}
theorem Cn.ret {α:Type} {t:Rdo Unit} {p e:Int} {A0:α→Prop} {x:α} (h:Rp bs t p e) (hA:A0 x):Cn (fun _ => some (x,p,e)) (t.bindV fun _ q => .ok x q) (Tr bs A0):=by
 refine Cn.now ⟨hA,?_⟩
 cases t with
 | ok u q => obtain ⟨rfl,rfl,hq⟩:=h;exact ⟨rfl,hq⟩
 | er n => obtain ⟨rfl,hn⟩:=h;exact ⟨rfl,hn⟩
theorem fnum.cn (hb:IsBytes bs) (hl:bs.length≤140737488351232) (n:Nat) (h1:1≤n) (h7:n≤7) {t:Rdo Unit} {p e:Int} (ht:Rp bs t p e):Cn (fun k => fl_num.f k bs p e (n:Int)) (t.bindV fun _ q => numV bs q n) (Tr bs fun x => 0≤x):=by
 cases t with
 | er m =>
  obtain ⟨rfl,hm⟩:=ht
  exact Cn.eq (fun k => if_neg hm) (Cn.now ⟨Int.le_refl _,rfl,hm⟩)
 | ok u q =>
  obtain ⟨rfl,rfl,hq⟩:=ht
  have hr:=beV_lt (n:=n) (rdL_bytes hb q n) (rdL_le bs q n)
  have hp:=pow256 h7
  have e1:wrap64 (beV (rdL bs q n))=beV (rdL bs q n):=by unfold wrap64;omega
  refine Cn.eq (fun k => if_pos rfl) ⟨_,Ev.bind (refU.ev hb hl q n h1 (by omega) hq) (Ev.now _),?_⟩
  rw [Rdo.bindV_ok]
  by_cases h:q + n≤bs.length
  ·have hE:(uV bs q n).2.1=0:=if_pos h
   have hP:(uV bs q n).2.2=q + n:=if_pos h
   have hX:wrap64 (uV bs q n).1=beV (rdL bs q n):=e1
   have hv:numV bs q n=.ok (beV (rdL bs q n)) (q + n):=by unfold numV rawV;rw [if_pos h];rfl
   rw [hv]
   simp only [hE,hP,hX,if_true]
   exact ⟨hr.1,rfl,h⟩
  have hE:(uV bs q n).2.1=3:=if_neg h
  have hv:numV bs q n=.er 3:=by unfold numV rawV;rw [if_neg h];rfl
  rw [hv]
  simp only [hE]
  rw [if_neg (by decide)]
  exact ⟨Int.le_refl _,rfl,by decide⟩
theorem fnum2.cn (hb:IsBytes bs) (hl:bs.length≤140737488351232) {t:Rdo Unit} {p e:Int} (ht:Rp bs t p e):Cn (fun k => fl_num.f k bs p e 2) (t.bindV fun _ q => numV bs q 2) (Tr bs fun x => 0≤x):=fnum.cn hb hl 2 (by decide) (by decide) ht
theorem fnum4.cn (hb:IsBytes bs) (hl:bs.length≤140737488351232) {t:Rdo Unit} {p e:Int} (ht:Rp bs t p e):Cn (fun k => fl_num.f k bs p e 4) (t.bindV fun _ q => numV bs q 4) (Tr bs fun x => 0≤x):=fnum.cn hb hl 4 (by decide) (by decide) ht
theorem fmust.cn (hb:IsBytes bs) (hl:bs.length≤140737488351232) (want:Int) {t:Rdo Unit} {p e:Int} (ht:Rp bs t p e):Cn (fun k => fl_must.f k bs p e want) (t.bindV fun _ q => sameV bs q 2 want) (Pr bs):=by
 unfold fl_must.f sameV
 refine Cn.step (fnum2.cn hb hl ht) fun a t' _ hr _ => Cn.now ?_
 cases t' with
 | er n =>
  obtain ⟨h1,h2⟩:=hr
  refine ⟨?_,h2⟩
  show (if a.1=want then a.2.2 else failE a.2.2 50)=n
  rw [h1,failE_ne h2,ite_self]
 | ok u q =>
  obtain ⟨h1,h2,h3⟩:=hr
  rw [Rdo.bindV_ok]
  by_cases hw:a.1=want
  ·simp only [if_pos hw]
   exact ⟨h1,h2,h3⟩
  simp only [if_neg hw]
  exact ⟨by show failE a.2.2 50=50;rw [h2,failE_0],by decide⟩
theorem fcount.cn (hb:IsBytes bs) (hl:bs.length≤140737488351232) {n:Int} {V:Nat→Rdo Int} {t:Rdo Unit} {p e:Int} (most:Int) (hm:0≤most) (hN:Cn (fun k => fl_num.f k bs p e n) (t.bindV fun _ q => V q) (Tr bs fun x => 0≤x)):Cn (fun k => fl_count.f k bs p e n most) (t.bindV fun _ q => (V q).bindV fun x q => if most < x then .er 2 else .ok x q) (Tr bs fun x => 0≤x∧x≤most):=by
 unfold fl_count.f
 refine Cn.step hN fun a t' h0 hr _ => Cn.now ?_
 by_cases hw:most < a.1
 ·rw [if_pos hw]
  simp only [if_pos hw]
  refine ⟨⟨Int.le_refl _,hm⟩,?_⟩
  cases t' with
  | er n => obtain ⟨h1,h2⟩:=hr;exact ⟨by show failE a.2.2 2=n;rw [h1,failE_ne h2],h2⟩
  | ok u q => obtain ⟨h1,h2,h3⟩:=hr;exact ⟨by show failE a.2.2 2=2;rw [h2,failE_0],by decide⟩
 rw [if_neg hw]
 simp only [if_neg hw]
 refine ⟨⟨h0,by omega⟩,?_⟩
 cases t' with
 | er n => exact hr
 | ok u q =>
  obtain ⟨a1,a2,a3⟩:=a
  obtain ⟨h1,h2,h3⟩:=hr
  simp only at h1 h2
  subst h1 h2
  exact ⟨rfl,h3⟩
theorem fcount2.cn (hb:IsBytes bs) (hl:bs.length≤140737488351232) (most:Int) (hm:0≤most) {t:Rdo Unit} {p e:Int} (ht:Rp bs t p e):Cn (fun k => fl_count.f k bs p e 2 most) (t.bindV fun _ q => countV bs q 2 most) (Tr bs fun x => 0≤x∧x≤most):=fcount.cn hb hl most hm (fnum2.cn hb hl ht)
theorem fcount4.cn (hb:IsBytes bs) (hl:bs.length≤140737488351232) (most:Int) (hm:0≤most) {t:Rdo Unit} {p e:Int} (ht:Rp bs t p e):Cn (fun k => fl_count.f k bs p e 4 most) (t.bindV fun _ q => countV bs q 4 most) (Tr bs fun x => 0≤x∧x≤most):=fcount.cn hb hl most hm (fnum4.cn hb hl ht)
theorem fbytes.cn (hl:bs.length≤140737488351232) {x:Int} (hx:0≤x) {t:Rdo Unit} {p e:Int} (ht:Rp bs t p e):Cn (fun _ => fl_bytes.f bs p e x) (t.bindV fun _ q => rawV bs q x.toNat) (Tr bs fun _ => True):=by
 cases t with
 | er m =>
  obtain ⟨rfl,hm⟩:=ht
  exact Cn.eq (fun k => if_neg hm) (Cn.now ⟨trivial,rfl,hm⟩)
 | ok u q =>
  obtain ⟨rfl,rfl,hq⟩:=ht
  obtain ⟨n,rfl⟩:=Int.eq_ofNat_of_zero_le hx
  rw [Rdo.bindV_ok,Int.toNat_natCast]
  refine Cn.eq (fun k => if_pos rfl) ?_
  unfold understudyref01_Reader_Bytes.f rawV
  rw [if_pos (by omega)]
  by_cases h:q + n≤bs.length
  ·rw [if_pos h,if_neg (by omega)]
   refine Cn.now ⟨trivial,?_,h⟩
   have e2:((q:Int) + (n:Int)).toNat=q + n:=by omega
   show ((bs.take ((q:Int) + (n:Int)).toNat).drop (q:Int).toNat,(q:Int) + (n:Int),(0:Int))=(rdL bs q n,((q + n:Nat):Int),0)
   rw [e2,Int.toNat_natCast]
   unfold rdL
   rw [if_pos h]
   rfl
  rw [if_neg h,if_pos (by omega)]
  exact Cn.now ⟨trivial,rfl,by decide⟩
theorem fnamed.cn (hb:IsBytes bs) (hl:bs.length≤140737488351232) (l0:List Cst) (s:ByteArray) {t:Rdo Unit} {p e:Int} (ht:Rp bs t p e):Cn (fun k => fl_named.f k l0 bs p e s) (t.bindV fun _ q => namedV l0 bs q s) (Pr bs):=by
 unfold fl_named.f namedV
 refine Cn.step (fnum2.cn hb hl ht) fun a t' _ hr _ => ?_
 rw [ref_Text.eq]
 refine Cn.now ?_
 cases t' with
 | er n =>
  obtain ⟨h1,h2⟩:=hr
  refine ⟨?_,h2⟩
  show (if _ then a.2.2 else failE a.2.2 50)=n
  rw [h1,failE_ne h2,ite_self]
 | ok u q =>
  obtain ⟨h1,h2,h3⟩:=hr
  rw [Rdo.bindV_ok]
  by_cases hw:(textV l0 a.1).2=true∧(textV l0 a.1).1.toList=s.toList
  ·simp only [if_pos hw]
   exact ⟨h1,h2,h3⟩
  simp only [if_neg hw]
  exact ⟨by show failE a.2.2 50=50;rw [h2,failE_0],by decide⟩
theorem ftrap.cn (hb:IsBytes bs) (hl:bs.length≤140737488351232) {t:Rdo Unit} {p e:Int} (ht:Rp bs t p e):Cn (fun k => fl_trap.f k bs p e) (t.bindV fun _ q => trapD bs q) (Tr bs fun _ => True):=by
 unfold fl_trap.f trapD
 exact Cn.step (fnum2.cn hb hl ht) fun a _ _ h1 _ => Cn.step (fnum2.cn hb hl h1) fun b _ _ h2 _ => Cn.step (fnum2.cn hb hl h2) fun c _ _ h3 _ => Cn.step (fnum2.cn hb hl h3) fun d _ _ h4 _ => Cn.ret h4 trivial
theorem ffld.cn (hb:IsBytes bs) (hl:bs.length≤140737488351232) {t:Rdo Unit} {p e:Int} (ht:Rp bs t p e):Cn (fun k => fl_fld.f k bs p e) (t.bindV fun _ q => fldD bs q) (Tr bs fun _ => True):=by
 unfold fl_fld.f fldD
 exact Cn.step (fnum2.cn hb hl ht) fun a _ _ h1 _ => Cn.step (fnum2.cn hb hl h1) fun b _ _ h2 _ => Cn.step (fnum2.cn hb hl h2) fun c _ _ h3 _ => Cn.ret h3 trivial
theorem Rp.stay {t:Rdo Unit} {p e:Int} {α:Type} {l:α} {V:Nat→Rdo α} (ht:Rp bs t p e) (hv:∀ q,t=.ok () q→V q=.ok l q):Tr bs (fun _ => True) (l,p,e) (t.bindV fun _ q => V q):=by
 refine ⟨trivial,?_⟩
 cases t with
 | ok u q => obtain ⟨rfl,rfl,hq⟩:=ht;rw [Rdo.bindV_ok,hv q rfl];exact ⟨rfl,hq⟩
 | er n => obtain ⟨rfl,hn⟩:=ht;exact ⟨rfl,hn⟩
theorem ftraps.cn (hb:IsBytes bs) (hl:bs.length≤140737488351232) (n:Int) (hn:n≤64):∀ (m:Nat) (l:List Trp) (t:Rdo Unit) (p e:Int),Rp bs t p e→(l.length:Int) + m=n→Cn (fun k => fl_traps.f k bs n l p e) (t.bindV fun _ q => trapsD bs m q l) (Tr bs fun _ => True):=by
 intro m
 induction m with
 | zero =>
  intro l t p e ht h
  refine Cn.fuel (fun k => by simp only [fl_traps.f];exact if_neg (by omega)) (Cn.now (ht.stay fun q _ => rfl))
 | succ m ih =>
  intro l t p e ht h
  cases t with
  | er n' => exact Cn.fuel (F':=fun _ => some (l,p,e)) (fun k => by simp only [fl_traps.f];exact if_neg (fun x => ht.2 (ht.1.symm.trans x.2))) (Cn.now ⟨trivial,ht⟩)
  | ok u q =>
   refine Cn.fuel (fun k => by simp only [fl_traps.f];exact if_pos ⟨by omega,ht.2.1⟩) ?_
   show Cn _ ((Rdo.ok () q).bindV fun _ q => (trapD bs q).bindV fun t p1 => trapsD bs m p1 (l++[t])) _
   refine Cn.step (ftrap.cn hb hl (t:=.ok () q) ht) fun a t' _ h1 _ => Cn.eq (fun k => if_pos (by omega)) (ih _ _ _ _ h1 (by rw [List.length_append,List.length_singleton];omega))
theorem fflds.cn (hb:IsBytes bs) (hl:bs.length≤140737488351232) (n:Int) (hn:n≤64):∀ (m:Nat) (l:List Fld) (t:Rdo Unit) (p e:Int),Rp bs t p e→(l.length:Int) + m=n→Cn (fun k => fl_flds.f k bs n l p e) (t.bindV fun _ q => fldsD bs m q l) (Tr bs fun _ => True):=by
 intro m
 induction m with
 | zero =>
  intro l t p e ht h
  refine Cn.fuel (fun k => by simp only [fl_flds.f];exact if_neg (by omega)) (Cn.now (ht.stay fun q _ => rfl))
 | succ m ih =>
  intro l t p e ht h
  cases t with
  | er n' => exact Cn.fuel (F':=fun _ => some (l,p,e)) (fun k => by simp only [fl_flds.f];exact if_neg (fun x => ht.2 (ht.1.symm.trans x.2))) (Cn.now ⟨trivial,ht⟩)
  | ok u q =>
   refine Cn.fuel (fun k => by simp only [fl_flds.f];exact if_pos ⟨by omega,ht.2.1⟩) ?_
   show Cn _ ((Rdo.ok () q).bindV fun _ q => (fldD bs q).bindV fun t p1 => (sameV bs p1 2 0).bindV fun _ p2 => fldsD bs m p2 (l++[t])) _
   refine Cn.step (ffld.cn hb hl (t:=.ok () q) ht) fun a t' _ h1 _ => Cn.stepP (fmust.cn hb hl 0 h1) fun b t2 h2 _ => Cn.eq (fun k => if_pos (by omega)) (ih _ _ _ _ h2 (by rw [List.length_append,List.length_singleton];omega))
def mapsE (l0:List Cst) (bs:List Int) (x:Int) (q:Nat):Rdo (List Int):=if x=0 then .ok [] q else if x=1 then
  (namedV l0 bs q sMaps).bindV fun _ q1 => (longD bs q1).bindV fun ys q2 => if 0 < ys.length then .ok ys q2 else .er 50 else .er 50
theorem fmaps.cn (hb:IsBytes bs) (hl:bs.length≤140737488351232) (l0:List Cst) (x:Int) (hx:0≤x) {t:Rdo Unit} {p e:Int} (ht:Rp bs t p e):Cn (fun k => fl_maps.f k l0 bs x p e) (t.bindV fun _ q => mapsE l0 bs x q) (Tr bs fun _ => True):=by
 unfold fl_maps.f mapsE
 by_cases h1:x > 1
 ·simp only [if_neg (show ¬ x=0 by omega),if_neg (show ¬ x=1 by omega)]
  refine Cn.eq (fun k => if_pos h1) (Cn.now ⟨trivial,?_⟩)
  cases t with
  | ok u q => obtain ⟨rfl,rfl,hq⟩:=ht;exact ⟨failE_0 50,by decide⟩
  | er n => obtain ⟨rfl,hn⟩:=ht;exact ⟨failE_ne hn,hn⟩
 by_cases h2:x=1
 rotate_left
 ·simp only [if_pos (show x=0 by omega)]
  exact Cn.eq (fun k => (if_neg h1).trans (if_neg h2)) (Cn.ret ht trivial)
 simp only [if_neg (show ¬ x=0 by omega),if_pos h2]
 refine Cn.eq (fun k => if_neg h1) ?_
 simp only [longD,Rdo.bindV_assoc]
 refine Cn.stepP (fnamed.cn hb hl l0 sMaps ht) fun y t1 hy _ => Cn.step (fcount4.cn hb hl 4096 (by decide) hy) fun a t2 h0 ha _ => ?_
 by_cases h3:a.1=0
 ·have hne:failE a.2.2 50 ≠ 0:=by
   unfold failE;split
   ·decide
   assumption
  refine Cn.eq (fun k => (if_pos h3).trans (if_neg hne)) (Cn.now ⟨trivial,?_⟩)
  cases t2 with
  | er n => obtain ⟨h4,hn⟩:=ha;exact ⟨by show failE a.2.2 50=n;rw [h4];exact failE_ne hn,hn⟩
  | ok u q =>
   obtain ⟨h4,h5,hq⟩:=ha
   rw [Rdo.bindV_ok,h3]
   have e3:rawV bs q (0:Int).toNat=.ok (rdL bs q 0) (q + 0):=if_pos (by simpa using hq)
   rw [e3,Rdo.bindV_ok,if_neg (by have:=rdL_le bs q 0;omega)]
   exact ⟨by show failE a.2.2 50=50;rw [h5];rfl,by decide⟩
 refine Cn.eq (fun k => if_neg h3) ?_
 obtain ⟨r,hr,hm⟩:=fbytes.cn hl h0.1 ha
 refine ⟨r,hr,trivial,?_⟩
 cases t2 with
 | er n => exact hm.2
 | ok u q =>
  rw [Rdo.bindV_ok] at hm ⊢
  unfold rawV at hm ⊢
  by_cases h4:q + a.1.toNat≤bs.length
  ·rw [if_pos h4] at hm ⊢
   rw [Rdo.bindV_ok,if_pos (by rw [rdL_len h4];omega)]
   exact hm.2
  rw [if_neg h4] at hm ⊢
  exact hm.2
def methT (l0:List Cst) (bs:List Int) (x1 x2 x3 n:Int) (c p6:Nat):Rdo Mth :=
 (numV bs p6 2).bindV fun x7 p7 => (numV bs p7 2).bindV fun x8 p8 => (countV bs p8 4 4096).bindV fun u p8 => (rawV bs p8 u.toNat).bindV fun code p9 => (countV bs p9 2 64).bindV fun c' p10 => (trapsD bs c'.toNat p10 []).bindV fun traps p11 => (numV bs p11 2).bindV fun x p11 => (mapsE l0 bs x p11).bindV fun maps p12 =>
 if (p12:Int)=wrap64 (n + c) then .ok ⟨x1,x2,x3,x7,x8,code,traps,maps⟩ p12 else .er 50
def fl_methT.f (k:Nat) (l0:List CstF) (bs:List Int) (x1 x2 x3 n mp p e:Int):Option (Mth × Int × Int) :=
 (fl_num.f k bs p e 2).bind fun s => (fl_num.f k bs s.2.1 s.2.2 2).bind fun t => (fl_count.f k bs t.2.1 t.2.2 4 4096).bind fun u => (fl_bytes.f bs u.2.1 u.2.2 u.1).bind fun y => (fl_count.f k bs y.2.1 y.2.2 2 64).bind fun n' => (fl_traps.f k bs n'.1 [] n'.2.1 n'.2.2).bind fun z => (fl_num.f k bs z.2.1 z.2.2 2).bind fun x => (fl_maps.f k l0 bs x.1 x.2.1 x.2.2).bind fun q =>
 some (⟨x1,x2,x3,s.1,t.1,y.1,z.1,q.1⟩,q.2.1,if wrap64 (q.2.1 - mp)=n then q.2.2 else failE q.2.2 50)
theorem methT.cn (hb:IsBytes bs) (hl:bs.length≤140737488351232) (l0:List Cst) (x1 x2 x3 n mp:Int) (c:Nat) {t:Rdo Unit} {p e:Int} (ht:Rp bs t p e) (hc:∀ q,t=.ok () q→mp=(c:Int)∧c≤bs.length∧0≤n∧n < 4294967296) :
  Cn (fun k => fl_methT.f k l0 bs x1 x2 x3 n mp p e) (t.bindV fun _ q => methT l0 bs x1 x2 x3 n c q) (Tr bs fun _ => True):=by
 unfold fl_methT.f methT
 refine Cn.step (fnum2.cn hb hl ht) fun a1 t1 _ h1 k1 => Cn.step (fnum2.cn hb hl h1) fun a2 t2 _ h2 k2 => Cn.step (fcount4.cn hb hl 4096 (by decide) h2) fun a3 t3 g3 h3 k3 => Cn.step (fbytes.cn hl g3.1 h3) fun a4 t4 _ h4 k4 => Cn.step (fcount2.cn hb hl 64 (by decide) h4) fun a5 t5 g5 h5 k5 => ?_
 refine Cn.step (ftraps.cn hb hl a5.1 g5.2 a5.1.toNat [] t5 _ _ h5 (by rw [List.length_nil];have:=g5.1;omega)) fun a6 t6 _ h6 k6 => Cn.step (fnum2.cn hb hl h6) fun a7 t7 g7 h7 k7 => Cn.step (fmaps.cn hb hl l0 a7.1 g7 h7) fun a8 t8 _ h8 k8 => Cn.now ⟨trivial,?_⟩
 cases t8 with
 | er m =>
  obtain ⟨h9,hm⟩:=h8
  exact ⟨by show (if _ then a8.2.2 else failE a8.2.2 50)=m;rw [h9,failE_ne hm,ite_self],hm⟩
 | ok u q =>
  obtain ⟨q7,e7,_⟩:=k8 q rfl
  obtain ⟨q6,e6,_⟩:=k7 _ e7
  obtain ⟨q5,e5,_⟩:=k6 _ e6
  obtain ⟨q4,e4,_⟩:=k5 _ e5
  obtain ⟨q3,e3,_⟩:=k4 _ e4
  obtain ⟨q2,e2,_⟩:=k3 _ e3
  obtain ⟨q1,e1,_⟩:=k2 _ e2
  obtain ⟨q0,e0,_⟩:=k1 _ e1
  obtain ⟨hmp,hc2,hn0,hn1⟩:=hc _ e0
  obtain ⟨h9,h10,hq⟩:=h8
  rw [Rdo.bindV_ok]
  by_cases hw:(q:Int)=wrap64 (n + c)
  ·have hw2:wrap64 (a8.2.1 - mp)=n:=by rw [h9,hmp];unfold wrap64 at hw ⊢;omega
   rw [if_pos hw]
   exact ⟨by show (_,a8.2.1,if wrap64 (a8.2.1 - mp)=n then a8.2.2 else failE a8.2.2 50)=_;rw [if_pos hw2,h9,h10],hq⟩
  have hw2:¬ wrap64 (a8.2.1 - mp)=n:=by rw [h9,hmp];unfold wrap64 at hw ⊢;omega
  rw [if_neg hw]
  exact ⟨by show (if wrap64 (a8.2.1 - mp)=n then a8.2.2 else failE a8.2.2 50)=50;rw [if_neg hw2,h10];rfl,by decide⟩
theorem methD_eq (l0:List Cst) (bs:List Int) (p:Nat):methD l0 bs p=(numV bs p 2).bindV fun x1 p1 => (numV bs p1 2).bindV fun x2 p2 => (numV bs p2 2).bindV fun x3 p3 => (sameV bs p3 2 1).bindV fun _ p4 => (namedV l0 bs p4 sCode).bindV fun _ p5 => (numV bs p5 4).bindV fun n p6 => methT l0 bs x1 x2 x3 n p6 p6:=by
 unfold methD methT mapsE
 simp only [longD,mapsD,Rdo.bindV_assoc]
theorem fmethod.cn (hb:IsBytes bs) (hl:bs.length≤140737488351232) (l0:List Cst) {t:Rdo Unit} {p e:Int} (ht:Rp bs t p e):Cn (fun k => fl_method.f k l0 bs p e) (t.bindV fun _ q => methD l0 bs q) (Tr bs fun _ => True):=by
 simp only [methD_eq]
 unfold fl_method.f
 refine Cn.step (fnum2.cn hb hl ht) fun a1 t1 _ h1 k1 => Cn.step (fnum2.cn hb hl h1) fun a2 t2 _ h2 k2 => Cn.step (fnum2.cn hb hl h2) fun a3 t3 _ h3 k3 => Cn.stepP (fmust.cn hb hl 1 h3) fun a4 t4 h4 k4 => Cn.stepP (fnamed.cn hb hl l0 sCode h4) fun a5 t5 h5 k5 => Cn.step (fnum4.cn hb hl h5) fun a6 t6 _ h6 k6 => ?_
 cases t6 with
 | er n =>
  have z:=methT.cn hb hl l0 a1.1 a2.1 a3.1 a6.1 a6.2.1 0 (t:=.er n) h6 (fun q e => by cases e)
  rw [Rdo.bindV_er] at z ⊢
  unfold fl_methT.f at z
  exact z
 | ok u q =>
  obtain ⟨q5,_,hv⟩:=k6 q rfl
  have hg:=num.gives hb q5 4 _ _ hv
  have z:=methT.cn hb hl l0 a1.1 a2.1 a3.1 a6.1 a6.2.1 q (t:=.ok () q) h6 (fun q' e => by
   injection e with _ e
   subst e
   exact ⟨h6.1,h6.2.2,hg.1,by have:=hg.2.1;omega⟩)
  rw [Rdo.bindV_ok] at z ⊢
  unfold fl_methT.f at z
  exact z
theorem fmths.cn (hb:IsBytes bs) (hl:bs.length≤140737488351232) (l0:List Cst) (n:Int) (hn:n≤64):∀ (m:Nat) (l:List Mth) (t:Rdo Unit) (p e:Int),Rp bs t p e→(l.length:Int) + m=n→Cn (fun k => fl_mths.f k l0 bs n l p e) (t.bindV fun _ q => mthsD l0 bs m q l) (Tr bs fun _ => True):=by
 intro m
 induction m with
 | zero =>
  intro l t p e ht h
  refine Cn.fuel (fun k => by simp only [fl_mths.f];exact if_neg (by omega)) (Cn.now (ht.stay fun q _ => rfl))
 | succ m ih =>
  intro l t p e ht h
  cases t with
  | er n' => exact Cn.fuel (F':=fun _ => some (l,p,e)) (fun k => by simp only [fl_mths.f];exact if_neg (fun x => ht.2 (ht.1.symm.trans x.2))) (Cn.now ⟨trivial,ht⟩)
  | ok u q =>
   refine Cn.fuel (fun k => by simp only [fl_mths.f];exact if_pos ⟨by omega,ht.2.1⟩) ?_
   show Cn _ ((Rdo.ok () q).bindV fun _ q => (methD l0 bs q).bindV fun t p1 => mthsD l0 bs m p1 (l++[t])) _
   refine Cn.step (fmethod.cn hb hl l0 (t:=.ok () q) ht) fun a t' _ h1 _ => Cn.eq (fun k => if_pos (by omega)) (ih _ _ _ _ h1 (by rw [List.length_append,List.length_singleton];omega))
theorem frest.cn (hb:IsBytes bs) (hl:bs.length≤140737488351232) (l0:List Cst) (hl0:l0.length≤1048576) (hp:∀ c ∈ l0,FitC c) (q:Nat) (hq:q≤bs.length):Cn (fun k => fl_rest.f k l0 bs (q:Int)) ((Rdo.ok () q).bindV fun _ q => (restD l0 bs q).bindV (endD bs)) (fun y s => y=decR s):=by
 unfold fl_rest.f restD
 simp only [Rdo.bindV_assoc,Rdo.bindV_ok]
 show Cn _ ((Rdo.ok () q).bindV fun _ q => _) _
 refine Cn.stepP (V:=fun q => sameV bs q 2 0) (fmust.cn hb hl 0 (t:=.ok () q) ⟨rfl,rfl,hq⟩) fun a1 t1 h1 k1 => Cn.step (fnum2.cn hb hl h1) fun a2 t2 _ h2 k2 => Cn.step (fnum2.cn hb hl h2) fun a3 t3 _ h3 k3 => Cn.stepP (fmust.cn hb hl 0 h3) fun a4 t4 h4 k4 => Cn.step (fcount2.cn hb hl 64 (by decide) h4) fun a5 t5 g5 h5 k5 => ?_
 refine Cn.step (fflds.cn hb hl a5.1 g5.2 a5.1.toNat [] t5 _ _ h5 (by rw [List.length_nil];have:=g5.1;omega)) fun a6 t6 _ h6 k6 => Cn.step (fcount2.cn hb hl 64 (by decide) h6) fun a7 t7 g7 h7 k7 => ?_
 refine Cn.step (fmths.cn hb hl l0 a7.1 g7.2 a7.1.toNat [] t7 _ _ h7 (by rw [List.length_nil];have:=g7.1;omega)) fun a8 t8 _ h8 k8 => Cn.stepP (fmust.cn hb hl 0 h8) fun a9 t9 h9 k9 => ?_
 unfold fl_end.f
 cases t9 with
 | er n =>
  obtain ⟨h10,hn⟩:=h9
  exact Cn.eq (fun k => if_neg (by rw [h10];exact hn)) (Cn.now (by rw [h10];rfl))
 | ok u q9 =>
  obtain ⟨q8,e8,_⟩:=k9 q9 rfl
  obtain ⟨q7,e7,v7⟩:=k8 _ e8
  obtain ⟨q6,e6,v6⟩:=k7 _ e7
  obtain ⟨q5,e5,v5⟩:=k6 _ e6
  subst e5 e6 e7
  have G5:=flds.gives hb a5.1.toNat q5 [] h5.2.2 (fun f hf => by cases hf) _ _ v5
  have G7:=mths.gives hb l0 a7.1.toNat q7 [] h7.2.2 (fun f hf => by cases hf) _ _ v7
  have z1:=G5.1
  have z2:=G7.1
  rw [List.length_nil] at z1 z2
  obtain ⟨h10,h11,h12⟩:=h9
  refine Cn.eq (fun k => if_pos h11) ?_
  rw [Rdo.bindV_ok]
  unfold endD
  by_cases h:q9 < bs.length
  ·rw [if_pos h]
   exact Cn.eq (fun k => if_neg (by rw [h10];omega)) (Cn.now rfl)
  rw [if_neg h]
  refine Cn.eq (fun k => if_pos (by rw [h10];omega)) ⟨_,Ev.bind (ref05_Check.ev l0 hl0 a2.1 a3.1 a6.1 a8.1 (by omega) (by omega) G5.2.1 (fun m hm => (G7.2.1 m hm).1) hp) (Ev.congr (f:=fun _ => some (if classCheckV l0 a2.1 a3.1 a6.1 a8.1=0 then ((⟨l0,a2.1,a3.1,a6.1,a8.1⟩:Cls),(0:Int)) else (zCls,classCheckV l0 a2.1 a3.1 a6.1 a8.1))) (fun k => by split <;> rfl) (Ev.now _)),?_⟩
  split <;> rfl
theorem fhead.cn (hb:IsBytes bs) (hl:bs.length≤140737488351232):Cn (fun k => fl_head.f k bs) ((Rdo.ok () 0).bindV fun _ q => (sameV bs q 4 3405691582).bindV fun _ p1 => sameV bs p1 4 61) (Pr bs):=by
 unfold fl_head.f sameV
 simp only [Rdo.bindV_assoc]
 refine Cn.step (V:=fun q => numV bs q 4) (fnum4.cn hb hl (t:=.ok () 0) ⟨rfl,rfl,Nat.zero_le _⟩) fun a t1 _ h1 _ => ?_
 by_cases hw:a.1=3405691582
 ·simp only [if_pos hw,Rdo.bindV_ok]
  refine Cn.step (fnum4.cn hb hl h1) fun b t2 _ h2 _ => ?_
  by_cases hv:b.1=61
  ·simp only [if_pos hv]
   refine Cn.now ?_
   cases t2 with
   | er n => exact h2
   | ok u q => exact h2
  simp only [if_neg hv]
  refine Cn.now ?_
  cases t2 with
  | er n => obtain ⟨h3,hn⟩:=h2;exact ⟨by show failE b.2.2 50=n;rw [h3,failE_ne hn],hn⟩
  | ok u q => obtain ⟨h3,h4,hq⟩:=h2;exact ⟨by show failE b.2.2 50=50;rw [h4,failE_0],by decide⟩
 simp only [if_neg hw,Rdo.bindV_er]
 refine Cn.now ?_
 cases t1 with
 | er n => obtain ⟨h3,hn⟩:=h1;exact ⟨by show failE a.2.2 50=n;rw [h3,failE_ne hn],hn⟩
 | ok u q => obtain ⟨h3,h4,hq⟩:=h1;exact ⟨by show failE a.2.2 50=50;rw [h4,failE_0],by decide⟩
theorem fl_Decode.ev (hb:IsBytes bs) (hl:bs.length≤140737488351232):Ev (fun k => fl_Decode.f k bs) (decR (classD bs)):=by
 obtain ⟨a,ha,hr⟩:=fhead.cn hb hl
 have hc:classD bs=((sameV bs 0 4 3405691582).bindV fun _ p1 => sameV bs p1 4 61).bindV fun _ p2 => (poolD bs p2).bindV fun l p3 => (restD l bs p3).bindV (endD bs):=by
  unfold classD coreD
  simp only [Rdo.bindV_assoc]
 rw [Rdo.bindV_ok] at hr
 rw [hc]
 unfold fl_Decode.f
 refine Ev.bind ha ?_
 cases hs:(sameV bs 0 4 3405691582).bindV fun _ p1 => sameV bs p1 4 61 with
 | er n =>
  rw [hs] at hr
  obtain ⟨h1,hn⟩:=hr
  exact Ev.congr (fun k => if_neg (by rw [h1];exact hn)) (by rw [h1];exact Ev.now _)
 | ok u q =>
  rw [hs] at hr
  obtain ⟨h1,h2,hq⟩:=hr
  rw [Rdo.bindV_ok,h1]
  refine Ev.congr (fun k => (if_pos h2).trans (if_pos (by omega))) ?_
  rw [Int.toNat_natCast]
  have hb2:=drop_bytes hb q
  have hl2:(bs.drop q).length≤140737488351232:=by rw [List.length_drop];omega
  refine Ev.bind (refPD.ev hb2 hl2) ?_
  unfold poolD
  by_cases hd:(decPV (bs.drop q)).2.2=0
  ·obtain ⟨ho,_⟩:=decPV_ok hb2 hd
   have hle:=ho.le
   have hge:=ho.ge
   rw [List.length_drop] at hle
   obtain ⟨m,hm⟩:=Int.eq_ofNat_of_zero_le hge
   have hw:wrap64 ((q:Int) + (decPV (bs.drop q)).2.1)=((q + m:Nat):Int):=by rw [hm];unfold wrap64;omega
   have hraw:rawV bs q (decPV (bs.drop q)).2.1.toNat=.ok (rdL bs q m) (q + m):=by
    rw [hm,Int.toNat_natCast]
    exact if_pos (by omega)
   rw [if_pos hd,hraw,Rdo.bindV_ok,Rdo.bindV_ok]
   refine Ev.congr (fun k => if_pos hd) ?_
   rw [hw]
   obtain ⟨y,hy,hR⟩:=frest.cn hb hl (decPV (bs.drop q)).1 (by have:=ho.len;omega) ho.fit (q + m) (by omega)
   rw [hR] at hy
   exact hy
  rw [if_neg hd]
  exact Ev.congr (fun k => if_neg hd) (Ev.now _)
end Go.Proofs.YtamdobdmjcgmoaaGreatDoor.Px
namespace Go.Proofs.YtamdobdmjcgmoaaGreatDoor.Px
open Go.RowKit Go.Proofs.YtamdobdmjcgmoaaGreatDoorW.PrintWords Go.Proofs.YtamdobdmjcgmoaaGreatDoorW.PrintLast Go.Proofs.YtamdobdmjcgmoaaGreatDoorW.PrintMore
set_option linter.unusedVariables false
set_option linter.unusedSimpArgs false
abbrev poolA:List Cst:=[(⟨0,(⟨#[]⟩:ByteArray),0,0,0⟩:Cst),(⟨1,(⟨#[65]⟩:ByteArray),0,0,0⟩:Cst),(⟨7,(⟨#[]⟩:ByteArray),0,1,0⟩:Cst)]
theorem poolA_fit:∀ c ∈ poolA,FitC c:=by
 intro c hc
 simp only [poolA,List.mem_cons,List.not_mem_nil,or_false] at hc
 rcases hc with rfl|rfl|rfl <;> exact ⟨by decide,by decide⟩
theorem poolA_check:classCheckV poolA 2 2 [] []=0:=by decide +kernel
theorem poolA_name:(classV poolA 2).1=(⟨#[65]⟩:ByteArray):=rfl
theorem class_awake.ev:Ev (fun k => understudylaw05_awake.f k) true:=by
 unfold understudylaw05_awake.f
 refine Ev.bind (Ev.now poolA) ?_
 refine Ev.bind (class_Check.ev poolA (by decide) 2 2 [] [] (by decide) (by decide) (fun f h => by cases h) (fun m h => by cases h) poolA_fit) ?_
 rw [poolA_check]
 refine Ev.congr (fun k => if_pos rfl) ?_
 unfold class_Name.f
 simp only [pool_Class.eq,Option.bind_some,poolA_name]
 have e:((⟨#[65]⟩:ByteArray).toList==([65]:List UInt8))=true:=by
  rw [Lib.toList_data]
  rfl
 rw [e]
 exact Ev.now _
end Go.Proofs.YtamdobdmjcgmoaaGreatDoor.Px
namespace Go.Proofs.YtamdobdmjcgmoaaGreatDoor.Px
open Go.RowKit Go.Proofs.YtamdobdmjcgmoaaGreatDoorW.PrintWords Go.Proofs.YtamdobdmjcgmoaaGreatDoorW.PrintLast Go.Proofs.YtamdobdmjcgmoaaGreatDoorW.PrintMore
set_option linter.unusedVariables false
set_option linter.unusedSimpArgs false
theorem classD_core2 {bs:List Int} {c:Cls} {q:Nat} (h:classD bs=.ok c q):coreD bs=.ok c q∧bs.length≤q∧classCheckV c.f0 c.f1 c.f2 c.f3 c.f4=0:=by
 unfold classD at h
 cases hc:coreD bs with
 | er e => rw [hc] at h;cases h
 | ok x p =>
  rw [hc,Rdo.bindV_ok] at h
  unfold endD at h
  by_cases h1:p < bs.length
  ·rw [if_pos h1] at h;cases h
  rw [if_neg h1] at h
  by_cases h2:classCheckV x.f0 x.f1 x.f2 x.f3 x.f4=0
  ·rw [if_pos h2] at h
   injection h with e1 e2
   subst e1;subst e2
   exact ⟨rfl,by omega,h2⟩
  rw [if_neg h2] at h;cases h
theorem ClassDecodes_pure (l:List Int) (h1:l.length≤1048576) (hw:∀ x ∈ l,(Lit.int .u8 x).wf=true):∃ k,understudylaw05_ClassDecodes.f k l=some true:=by
 have hb:=bytes_of_wf hw
 obtain ⟨K1,g1⟩:=class_Decode.ev hb (by omega)
 obtain ⟨K2,g2⟩:=class_awake.ev
 obtain ⟨K3,g3⟩:=fl_Decode.ev hb (by omega)
 cases hd:classD l with
 | er e =>
  rw [hd] at g1 g3
  exact ⟨K1 + K2 + K3,if_pos ⟨⟨[],0,0,[],[]⟩,e,g1 _ (by omega),g3 _ (by omega),h1,by simp,by simp,by simp,(fun m hm => by cases hm),g2 _ (by omega)⟩⟩
 | ok c q =>
  rw [hd] at g1 g3
  obtain ⟨hcore,_,hc⟩:=classD_core2 hd
  obtain ⟨hp,hpl,⟨hfl,hml,hf,hm⟩,_⟩:=core.gives hb c q hcore
  exact ⟨K1 + K2 + K3,if_pos ⟨c,0,g1 _ (by omega),g3 _ (by omega),h1,by omega,by omega,by omega,fun m hx => (hm m hx).1.2.2.1,g2 _ (by omega)⟩⟩
end Go.Proofs.YtamdobdmjcgmoaaGreatDoor.Px
