/- Plain law of class.Encode: the bytes of a class that may be. -/
/- Plain law of modified UTF-8: what a text's bytes are ('encL'), and that the program's Encode and the reference's both come to them. -/
/- Plain law of the reference's check of a pool: it comes to the same. -/
/- The reference's check of a class comes to the same; the pure statement of ClassChecks. -/
/- The reference's pool.Encode comes to the same bytes. -/
/- Plain law: the program of layer 5 computes at all. -/
/- The pure statement of ClassEncodes: the reference's Encode comes to the same bytes. -/
import Derived.Test.YtmloaijagkebpaaDoorM4
import Derived.Test.YtmloaijagkebpaaDoorM2
import Derived.Test.YtmloaijagkebpaaDoorM1
import Derived.Lib.ValidLaws
import Derived.Lib.DecodeN
import Derived.Lib.MapLaws
import Derived.Laws.BitsLemmas
import Derived.Test.YtmloaijagkebpaaDoorM3
namespace Go.Proofs.YtmloaijagkebpaaDoor.Px
open Go.RowKit Go.Proofs.YtmloaijagkebpaaDoorW.PrintWords Go.Proofs.YtmloaijagkebpaaDoorW.PrintLast Go.Proofs.YtmloaijagkebpaaDoorW.PrintMore
set_option linter.unusedVariables false
set_option linter.unusedSimpArgs false
def twosL:List Int→List Int
 | [] => []
 | x :: l => beN 2 x++twosL l
def longL (ys:List Int):List Int:=beN 4 (ys.length:Int)++ys
def trapL (t:Trp):List Int:=twosL [t.f0,t.f1,t.f2,t.f3]
def mapsL (p:List Cst) (maps:List Int):List Int:=if maps.length=0 then twosL [0] else twosL [1,placeV p sMaps]++longL maps
def mbodyL (p:List Cst) (m:Mth):List Int:=twosL [m.f3,m.f4]++(longL m.f5++(twosL [(m.f6.length:Int)]++(m.f6.flatMap trapL++mapsL p m.f7)))
def mthL (p:List Cst) (m:Mth):List Int:=twosL [m.f0,m.f1,m.f2,1,placeV p sCode]++longL (mbodyL p m)
def fldL (f:Fld):List Int:=twosL [f.f0,f.f1,f.f2,0]
def classL (p:List Cst) (t s:Int) (fs:List Fld) (ms:List Mth):List Int :=
 beN 4 3405691582++(beN 4 61++(poolL p++(twosL [0,t,s,0,(fs.length:Int)]++(fs.flatMap fldL++(twosL [(ms.length:Int)]++(ms.flatMap (mthL p)++twosL [0]))))))
theorem twosL_len:∀ l,(twosL l).length=2 * l.length
 | [] => rfl
 | x :: l => by unfold twosL;rw [List.length_append,beN_length,twosL_len l,List.length_cons];omega
theorem longL_len (ys:List Int):(longL ys).length=4 + ys.length:=by unfold longL;rw [List.length_append,beN_length]
theorem trapL_len (t:Trp):(trapL t).length=8:=twosL_len _
theorem fldL_len (f:Fld):(fldL f).length=8:=twosL_len _
theorem flat_len_eq {α:Type} {f:α→List Int} {n:Nat} (h:∀ x,(f x).length=n):∀ l:List α,(l.flatMap f).length=n * l.length
 | [] => by simp
 | x :: l => by rw [List.flatMap_cons,List.length_append,h x,flat_len_eq h l,List.length_cons,Nat.mul_succ];omega
theorem flat_len_le {α:Type} {f:α→List Int} {n:Nat}:∀ l:List α,(∀ x ∈ l,(f x).length≤n)→(l.flatMap f).length≤n * l.length
 | [],_ => by simp
 | x :: l,h => by
  have h1:=h x List.mem_cons_self
  have h2:=flat_len_le l (fun y hy => h y (List.mem_cons_of_mem _ hy))
  rw [List.flatMap_cons,List.length_append,List.length_cons,Nat.mul_succ]
  omega
def Two (x:Int):Prop:=0≤x∧x < 65536
theorem wTwos_ok:∀ (l bs:List Int),(∀ x ∈ l,Two x)→bs.length + 2 * l.length≤1048576→wTwos l bs=some (bs++twosL l)
 | [],bs,_,_ => by unfold wTwos twosL;rw [List.append_nil]
 | x :: l,bs,h,hl => by
  have h1:=h x List.mem_cons_self
  rw [List.length_cons] at hl
  unfold wTwos twosL
  rw [wU_ok ⟨by omega,h1.1,h1.2⟩,Option.bind_some,wTwos_ok l _ (fun y hy => h y (List.mem_cons_of_mem _ hy)) (by rw [List.length_append,beN_length];omega),List.append_assoc]
theorem wLong_ok {ys bs:List Int} (h:bs.length + (4 + ys.length)≤1048576):wLong ys bs=some (bs++longL ys):=by
 unfold wLong longL
 rw [wU_ok ⟨by omega,by omega,by omega⟩,Option.bind_some]
 unfold wB
 rw [if_pos (by rw [List.length_append,beN_length];omega),List.append_assoc]
def OkT (t:Trp):Prop:=Two t.f0∧Two t.f1∧Two t.f2∧Two t.f3
theorem two_all4 {a b c d:Int} (ha:Two a) (hb:Two b) (hc:Two c) (hd:Two d):∀ x ∈ [a,b,c,d],Two x:=fun x hx => by
 simp only [List.mem_cons,List.not_mem_nil,or_false] at hx
 rcases hx with rfl|rfl|rfl|rfl <;> assumption
theorem two_all5 {a b c d e:Int} (ha:Two a) (hb:Two b) (hc:Two c) (hd:Two d) (he:Two e):∀ x ∈ [a,b,c,d,e],Two x:=fun x hx => by
 simp only [List.mem_cons,List.not_mem_nil,or_false] at hx
 rcases hx with rfl|rfl|rfl|rfl|rfl <;> assumption
theorem two_all2 {a b:Int} (ha:Two a) (hb:Two b):∀ x ∈ [a,b],Two x:=fun x hx => by
 simp only [List.mem_cons,List.not_mem_nil,or_false] at hx
 rcases hx with rfl|rfl <;> assumption
theorem two_all1 {a:Int} (ha:Two a):∀ x ∈ [a],Two x:=fun x hx => by rw [List.mem_singleton.1 hx];exact ha
theorem two_lit (n:Nat) (h:n < 65536):Two (n:Int):=⟨by omega,by omega⟩
theorem wTraps_ok:∀ (l:List Trp) (bs:List Int),(∀ t ∈ l,OkT t)→bs.length + 8 * l.length≤1048576→wTraps l bs=some (bs++l.flatMap trapL)
 | [],bs,_,_ => by unfold wTraps;rw [List.flatMap_nil,List.append_nil]
 | t :: l,bs,h,hl => by
  have h1:=h t List.mem_cons_self
  rw [List.length_cons] at hl
  unfold wTraps
  rw [wTwos_ok _ _ (two_all4 h1.1 h1.2.1 h1.2.2.1 h1.2.2.2) (by simp only [List.length_cons,List.length_nil];omega),Option.bind_some,wTraps_ok l _ (fun y hy => h y (List.mem_cons_of_mem _ hy)) (by rw [List.length_append,twosL_len];simp only [List.length_cons,List.length_nil];omega),List.flatMap_cons,List.append_assoc]
  rfl
structure OkM (p:List Cst) (m:Mth):Prop where
 n0:Two m.f0
 n1:Two m.f1
 n2:Two m.f2
 n3:Two m.f3
 n4:Two m.f4
 code:m.f5.length≤4096
 many:m.f6.length≤64
 traps:∀ t ∈ m.f6,OkT t
 maps:m.f7.length≤4096
 pc:0 < placeV p sCode
 pm:m.f7.length=0 ∨ 0 < placeV p sMaps
def OkF (f:Fld):Prop:=Two f.f0∧Two f.f1∧Two f.f2
structure OkCls (p:List Cst) (t s:Int) (fs:List Fld) (ms:List Mth):Prop where
 pool:checkV p=0
 this:Two t
 super:Two s
 fl:fs.length≤64
 ml:ms.length≤64
 f:∀ f ∈ fs,OkF f
 m:∀ m ∈ ms,OkM p m
theorem placeG_ok (p:List Cst) (s:ByteArray):∀ n i,0 < placeG n p s i→isV p (placeG n p s i) 1=true∧(rd_T60 p (placeG n p s i)).f1.toList=s.toList
 | 0,i,h => by unfold placeG at h;omega
 | n + 1,i,h => by
  unfold placeG at h ⊢
  by_cases hi:i < p.length
  ·rw [if_pos hi] at h ⊢
   by_cases hc:isV p (i:Int) 1=true∧(rd_T60 p (i:Int)).f1.toList=s.toList
   ·rw [if_pos hc];exact hc
   ·rw [if_neg hc] at h ⊢;exact placeG_ok p s n (i + 1) h
  ·rw [if_neg hi] at h;omega
theorem place_ok {p:List Cst} {s:ByteArray} (h:0 < placeV p s):(textV p (placeV p s)).2=true∧(textV p (placeV p s)).1.toList=s.toList∧placeV p s < p.length:=by
 obtain ⟨h1,h2⟩:isV p (placeV p s) 1=true∧(rd_T60 p (placeV p s)).f1.toList=s.toList:=placeG_ok p s _ _ h
 refine ⟨?_,?_,(isV_pos h1).2.1⟩
 ·unfold textV;rw [if_pos h1]
 ·unfold textV;rw [if_pos h1];exact h2
theorem txt_two {p:List Cst} {i:Int} (hp:p.length≤1024) (h:txt p i=true):Two i:=by
 unfold txt textV at h
 by_cases hv:isV p i 1=true
 ·have:=isV_pos hv;exact ⟨by omega,by omega⟩
 ·rw [if_neg hv] at h;cases h
theorem cl_two {p:List Cst} {i:Int} (hp:p.length≤1024) (h:cl p i=true):Two i:=by
 unfold cl classV at h
 by_cases hv:isV p i 7=true
 ·have:=isV_pos hv;exact ⟨by omega,by omega⟩
 ·rw [if_neg hv] at h;cases h
theorem flags_two {n:Int} (h:flagsV n=true):Two n:=by
 have:=of_decide_eq_true h
 exact ⟨by omega,by omega⟩
theorem trapV_ok {p:List Cst} {n:Nat} {t:Trp} (hp:p.length≤1024) (hn:n≤4096) (h:trapV p (n:Int) t=true):OkT t:=by
 unfold trapV at h
 by_cases c1:t.f0 < 0
 ·rw [if_pos c1] at h;cases h
 rw [if_neg c1] at h
 by_cases c2:t.f0 ≥ t.f1
 ·rw [if_pos c2] at h;cases h
 rw [if_neg c2] at h
 by_cases c3:t.f1 > (n:Int)
 ·rw [if_pos c3] at h;cases h
 rw [if_neg c3] at h
 by_cases c4:t.f2 < 0 ∨ t.f2 ≥ (n:Int)
 ·rw [if_pos c4] at h;cases h
 rw [if_neg c4] at h
 refine ⟨⟨by omega,by omega⟩,⟨by omega,by omega⟩,⟨by omega,by omega⟩,?_⟩
 by_cases c5:t.f3=0
 ·rw [c5];exact ⟨by omega,by omega⟩
 ·rw [if_neg c5] at h;exact cl_two hp h
theorem methV_ok {p:List Cst} {m:Mth} (hp:p.length≤1024) (hl:m.f6.length≤64) (h:methV p m=true):OkM p m:=by
 unfold methV restV at h
 simp only [Bool.and_eq_true,Bool.or_eq_true,decide_eq_true_eq,List.all_eq_true] at h
 obtain ⟨ht,⟨⟨⟨⟨⟨⟨h0,h1,h2⟩,h3⟩,h4⟩,h5⟩,h7⟩,hc⟩,hm⟩:=h
 exact ⟨flags_two h0,txt_two hp h1,txt_two hp h2,⟨by omega,by omega⟩,⟨by omega,by omega⟩,h5.2,hl,fun t hx => trapV_ok hp h5.2 (ht t hx),h7,hc,hm⟩
theorem fieldV_ok {p:List Cst} {f:Fld} (hp:p.length≤1024) (h:fieldV p f=true):OkF f:=by
 unfold fieldV at h
 simp only [Bool.and_eq_true] at h
 exact ⟨flags_two h.1,txt_two hp h.2.1,txt_two hp h.2.2⟩
theorem classCheck_ok {p:List Cst} {t s:Int} {fs:List Fld} {ms:List Mth} (h:classCheckV p t s fs ms=0):OkCls p t s fs ms:=by
 unfold classCheckV at h
 by_cases hp:checkV p=0
 ·have hl:=(checkV_ok hp).2.1
  rw [if_pos hp] at h
  by_cases hg:longV (mx (fs.length:Int) (ms.length:Int)) ms=true
  ·rw [if_pos hg] at h;cases h
  ·rw [if_neg hg] at h
   have hg:=Bool.eq_false_iff.2 hg
   unfold longV at hg
   rw [Bool.or_eq_false_iff,decide_eq_false_iff_not] at hg
   have hmx:=hg.1
   have hfs:fs.length≤64∧ms.length≤64:=by unfold mx at hmx;split at hmx <;> constructor <;> omega
   have hany:=hg.2
   have hf6:∀ m ∈ ms,m.f6.length≤64:=fun m hm => by
    have:=List.any_eq_false.1 hany m hm
    rw [decide_eq_true_eq] at this
    omega
   unfold fineV at h
   by_cases hf:((cl p t && cl p s) && fs.all (fieldV p) && ms.all (methV p))=true
   ·simp only [Bool.and_eq_true,List.all_eq_true] at hf
    exact ⟨hp,cl_two hl hf.1.1.1,cl_two hl hf.1.1.2,hfs.1,hfs.2,fun f hx => fieldV_ok hl (hf.1.2 f hx),fun m hx => methV_ok hl (hf6 m hx) (hf.2 m hx)⟩
   ·rw [if_neg hf] at h;cases h
 ·rw [if_neg hp] at h
  exact absurd h hp
theorem mapsL_len {p:List Cst} {maps:List Int} (h:maps.length≤4096):(mapsL p maps).length≤4104:=by
 unfold mapsL
 split
 ·rw [twosL_len];simp
 ·rw [List.length_append,twosL_len,longL_len];simp only [List.length_cons,List.length_nil];omega
theorem mbodyL_len {p:List Cst} {m:Mth} (h:OkM p m):(mbodyL p m).length≤8724:=by
 have h1:=mapsL_len (p:=p) h.maps
 have h2:=h.code
 have h3:=h.many
 unfold mbodyL
 rw [List.length_append,List.length_append,List.length_append,List.length_append,twosL_len,twosL_len,longL_len,flat_len_eq trapL_len]
 simp only [List.length_cons,List.length_nil]
 omega
theorem mthL_len {p:List Cst} {m:Mth} (h:OkM p m):(mthL p m).length≤8738:=by
 have h1:=mbodyL_len h
 unfold mthL
 rw [List.length_append,twosL_len,longL_len]
 simp only [List.length_cons,List.length_nil]
 omega
theorem place_two {p:List Cst} {s:ByteArray} (hp:p.length≤1024) (h:0 < placeV p s):Two (placeV p s):=by have:=(place_ok h).2.2;exact ⟨by omega,by omega⟩
theorem Ev.pos {α:Type} {c:Prop} [Decidable c] {F G:Nat→Option α} {r:α} (hc:c) (h:Ev F r):Ev (fun k => if c then F k else G k) r:=Ev.congr (fun k => if_pos hc) h
theorem class_body.ev_maps {p:List Cst} {m:Mth} (hp:p.length≤1024) (h:OkM p m) (b4:List Int) (hl4:b4.length≤4618):Ev (fun k => if m.f7.length=0 then wTwos [0] b4 else (class_place.f k p sMaps).bind fun x => (wTwos [1,x] b4).bind (wLong m.f7)) (b4++mapsL p m.f7):=by
 have h4:=h.maps
 unfold mapsL
 by_cases h0:m.f7.length=0
 ·simp only [if_pos h0]
  rw [wTwos_ok _ _ (two_all1 ⟨by omega,by omega⟩) (by simp only [List.length_cons,List.length_nil];omega)]
  exact Ev.now _
 ·simp only [if_neg h0]
  have hpm:=h.pm.resolve_left h0
  refine Ev.bind (place.ev p sMaps (by omega)) ?_
  rw [wTwos_ok _ _ (two_all2 ⟨by omega,by omega⟩ (place_two hp hpm)) (by simp only [List.length_cons,List.length_nil];omega),Option.bind_some,wLong_ok (by rw [List.length_append,twosL_len];simp only [List.length_cons,List.length_nil];omega),List.append_assoc]
  exact Ev.now _
theorem class_body.ev {p:List Cst} {m:Mth} (hp:p.length≤1024) (h:OkM p m):Ev (fun k => class_body.f k p m.f3 m.f4 m.f5 m.f6 m.f7) (mbodyL p m):=by
 have hb:=mbodyL_len h
 have h2:=h.code
 have h3:=h.many
 have e1:wTwos [m.f3,m.f4] []=some (twosL [m.f3,m.f4]):=wTwos_ok _ _ (two_all2 h.n3 h.n4) (by simp only [List.length_cons,List.length_nil];omega)
 have e2:wLong m.f5 (twosL [m.f3,m.f4])=some (twosL [m.f3,m.f4]++longL m.f5):=wLong_ok (by rw [twosL_len];simp only [List.length_cons,List.length_nil];omega)
 have e3:wTwos [(m.f6.length:Int)] (twosL [m.f3,m.f4]++longL m.f5)=some (twosL [m.f3,m.f4]++longL m.f5++twosL [(m.f6.length:Int)]):=wTwos_ok _ _ (two_all1 (two_lit _ (by omega))) (by rw [List.length_append,twosL_len,longL_len];simp only [List.length_cons,List.length_nil];omega)
 have e4:wTraps m.f6 (twosL [m.f3,m.f4]++longL m.f5++twosL [(m.f6.length:Int)])=some (twosL [m.f3,m.f4]++longL m.f5++twosL [(m.f6.length:Int)]++m.f6.flatMap trapL):=wTraps_ok _ _ h.traps (by rw [List.length_append,List.length_append,twosL_len,twosL_len,longL_len];simp only [List.length_cons,List.length_nil];omega)
 obtain ⟨b4,hb4⟩:∃ b4,b4=twosL [m.f3,m.f4]++longL m.f5++twosL [(m.f6.length:Int)]++m.f6.flatMap trapL:=⟨_,rfl⟩
 have hl4:b4.length≤4618:=by
  rw [hb4,List.length_append,List.length_append,List.length_append,twosL_len,twosL_len,longL_len,flat_len_eq trapL_len]
  simp only [List.length_cons,List.length_nil]
  omega
 have hbl:mbodyL p m=b4++mapsL p m.f7:=by rw [hb4];unfold mbodyL;simp only [List.append_assoc]
 have hfin:(b4++mapsL p m.f7).length≤1048576:=by rw [← hbl];omega
 have htr:m.f6.length≤1048576:=by omega
 rw [hbl]
 clear hbl
 have e:(fun k => class_body.f k p m.f3 m.f4 m.f5 m.f6 m.f7)=fun k => if m.f6.length≤1048576 then ((if m.f7.length=0 then wTwos [0] b4 else (class_place.f k p sMaps).bind fun x => (wTwos [1,x] b4).bind (wLong m.f7)).bind fun b => if b.length≤1048576 then some b else none) else none:=by
  funext k
  unfold class_body.f
  rw [e1,Option.bind_some,e2,Option.bind_some,e3,Option.bind_some,e4,Option.bind_some,← hb4]
 rw [e]
 exact Ev.pos htr (Ev.bind (class_body.ev_maps hp h b4 hl4) (Ev.pos (F:=fun _ => some (b4++mapsL p m.f7)) (G:=fun _ => none) hfin (Ev.now _)))
theorem wFlds_ok:∀ (l:List Fld) (bs:List Int),(∀ f ∈ l,OkF f)→bs.length + 8 * l.length≤1048576→wFlds l bs=some (bs++l.flatMap fldL)
 | [],bs,_,_ => by unfold wFlds;rw [List.flatMap_nil,List.append_nil]
 | t :: l,bs,h,hl => by
  have h1:=h t List.mem_cons_self
  rw [List.length_cons] at hl
  unfold wFlds
  rw [wTwos_ok _ _ (two_all4 h1.1 h1.2.1 h1.2.2 ⟨by omega,by omega⟩) (by simp only [List.length_cons,List.length_nil];omega),Option.bind_some,wFlds_ok l _ (fun y hy => h y (List.mem_cons_of_mem _ hy)) (by rw [List.length_append,twosL_len];simp only [List.length_cons,List.length_nil];omega),List.flatMap_cons,List.append_assoc]
  rfl
theorem wMths.ev {p:List Cst} (hp:p.length≤1024):∀ (l:List Mth) (bs:List Int),(∀ m ∈ l,OkM p m)→bs.length + 8738 * l.length≤1048576→Ev (fun k => wMths k p l bs) (bs++l.flatMap (mthL p))
 | [],bs,_,_ => by unfold wMths;rw [List.flatMap_nil,List.append_nil];exact Ev.now _
 | m :: l,bs,h,hl => by
  have h1:=h m List.mem_cons_self
  have hb:=mbodyL_len h1
  have hm:=mthL_len h1
  rw [List.length_cons] at hl
  unfold wMths
  refine Ev.bind (place.ev p sCode (by omega)) ?_
  rw [wTwos_ok _ _ (two_all5 h1.n0 h1.n1 h1.n2 ⟨by omega,by omega⟩ (place_two hp h1.pc)) (by simp only [List.length_cons,List.length_nil];omega)]
  simp only [Option.bind_some]
  refine Ev.bind (class_body.ev hp h1) ?_
  rw [wLong_ok (by rw [List.length_append,twosL_len];simp only [List.length_cons,List.length_nil];omega)]
  simp only [Option.bind_some]
  have e:bs++twosL [m.f0,m.f1,m.f2,1,placeV p sCode]++longL (mbodyL p m)=bs++mthL p m:=by unfold mthL;rw [List.append_assoc]
  rw [e,List.flatMap_cons,← List.append_assoc]
  exact wMths.ev hp l _ (fun y hy => h y (List.mem_cons_of_mem _ hy)) (by rw [List.length_append];omega)
theorem classL_len {p:List Cst} {t s:Int} {fs:List Fld} {ms:List Mth} (h:OkCls p t s fs ms):(classL p t s fs ms).length≤900000:=by
 have h1:=poolL_len h.pool
 have h2:=h.fl
 have h3:=h.ml
 have h4:=flat_len_le (f:=mthL p) ms (fun m hm => mthL_len (h.m m hm))
 unfold classL
 rw [List.length_append,List.length_append,List.length_append,List.length_append,List.length_append,List.length_append,List.length_append,beN_length,beN_length,twosL_len,twosL_len,twosL_len,flat_len_eq fldL_len]
 simp only [List.length_cons,List.length_nil]
 omega
theorem class_Encode.ev_w {p:List Cst} {t s:Int} {fs:List Fld} {ms:List Mth} (h:OkCls p t s fs ms):Ev (fun k => class_Encode.w k p (poolL p) t s fs ms) (classL p t s fs ms):=by
 have hp:=(checkV_ok h.pool).2.1
 have h1:=poolL_len h.pool
 have h2:=h.fl
 have h3:=h.ml
 have h4:=flat_len_le (f:=mthL p) ms (fun m hm => mthL_len (h.m m hm))
 have hc:=classL_len h
 unfold class_Encode.w
 rw [wU_ok ⟨by simp only [List.length_nil];omega,by omega,by omega⟩]
 simp only [Option.bind_some,List.nil_append]
 rw [wU_ok ⟨by rw [beN_length];omega,by omega,by omega⟩]
 simp only [Option.bind_some]
 unfold wB
 rw [if_pos (by rw [List.length_append,beN_length,beN_length];omega)]
 simp only [Option.bind_some]
 refine Ev.congr (fun k => if_pos ⟨by omega,by omega⟩) ?_
 rw [wTwos_ok _ _ (two_all5 ⟨by omega,by omega⟩ h.this h.super ⟨by omega,by omega⟩ (two_lit _ (by omega))) (by rw [List.length_append,List.length_append,beN_length,beN_length];simp only [List.length_cons,List.length_nil];omega)]
 simp only [Option.bind_some]
 rw [wFlds_ok _ _ h.f (by rw [List.length_append,List.length_append,List.length_append,beN_length,beN_length,twosL_len];simp only [List.length_cons,List.length_nil];omega)]
 simp only [Option.bind_some]
 rw [wTwos_ok _ _ (two_all1 (two_lit _ (by omega))) (by rw [List.length_append,List.length_append,List.length_append,List.length_append,beN_length,beN_length,twosL_len,flat_len_eq fldL_len];simp only [List.length_cons,List.length_nil];omega)]
 simp only [Option.bind_some]
 refine Ev.bind (wMths.ev hp ms _ h.m (by rw [List.length_append,List.length_append,List.length_append,List.length_append,List.length_append,beN_length,beN_length,twosL_len,twosL_len,flat_len_eq fldL_len];simp only [List.length_cons,List.length_nil];omega)) ?_
 rw [wTwos_ok _ _ (two_all1 ⟨by omega,by omega⟩) (by rw [List.length_append,List.length_append,List.length_append,List.length_append,List.length_append,List.length_append,beN_length,beN_length,twosL_len,twosL_len,flat_len_eq fldL_len];simp only [List.length_cons,List.length_nil];omega)]
 simp only [Option.bind_some]
 have e:beN 4 3405691582++beN 4 61++poolL p++twosL [0,t,s,0,(fs.length:Int)]++fs.flatMap fldL++twosL [(ms.length:Int)]++ms.flatMap (mthL p)++twosL [0]=classL p t s fs ms:=by unfold classL;simp only [List.append_assoc]
 rw [e]
 exact Ev.congr (fun k => if_pos (by omega)) (Ev.now _)
def encCV (p:List Cst) (t s:Int) (fs:List Fld) (ms:List Mth):List Int × Int:=if classCheckV p t s fs ms=0 then (classL p t s fs ms,0) else ([],classCheckV p t s fs ms)
theorem class_Encode.ev (p:List Cst) (t s:Int) (fs:List Fld) (ms:List Mth) (hl:p.length≤1048576) (hfl:fs.length≤1048576) (hml:ms.length≤1048576) (hf:∀ f ∈ fs,FitF f) (hm:∀ m ∈ ms,FitM m) (hp:∀ c ∈ p,FitC c):Ev (fun k => class_Encode.f k p t s fs ms) (encCV p t s fs ms):=by
 unfold class_Encode.f encCV
 refine Ev.bind (class_Check.ev p hl t s fs ms hfl hml hf hm hp) ?_
 by_cases h:classCheckV p t s fs ms=0
 ·have hk:=classCheck_ok h
  simp only [if_pos h]
  refine Ev.bind (pool_Encode.ev p hp) ?_
  unfold encPV
  rw [if_pos hk.pool]
  exact Ev.bind (class_Encode.ev_w hk) (Ev.now _)
 ·simp only [if_neg h]
  exact Ev.now _
end Go.Proofs.YtmloaijagkebpaaDoor.Px
namespace Go.Proofs.YtmloaijagkebpaaDoor.Px
open Go.RowKit Go.Proofs.YtmloaijagkebpaaDoorW.PrintWords Go.Proofs.YtmloaijagkebpaaDoorW.PrintLast Go.Proofs.YtmloaijagkebpaaDoorW.PrintMore
set_option linter.unusedVariables false
set_option linter.unusedSimpArgs false
theorem ref_unit.ev (u:Int) (h0:0≤u) (h1:u < 65536):Ev (fun k => understudyref02_unit.f k u) (unitL u):=by
 refine ⟨1,fun k hk => ?_⟩
 obtain ⟨k,rfl⟩:∃ m,k=m + 1:=⟨k - 1,by omega⟩
 have d64:Int.tdiv u 64=u / 64:=Int.tdiv_eq_ediv_of_nonneg h0
 have d4096:Int.tdiv u 4096=u / 4096:=Int.tdiv_eq_ediv_of_nonneg h0
 have m64:Int.tmod u 64=u % 64:=Int.tmod_eq_emod_of_nonneg h0
 have m64':Int.tmod (u / 64) 64=u / 64 % 64:=Int.tmod_eq_emod_of_nonneg (by omega)
 show understudyref02_unit.f (k + 1) u=_
 unfold understudyref02_unit.f unitL
 by_cases c1:1≤u∧u≤127
 ·rw [if_pos c1,if_pos (by omega),decide_eq_true (by omega)]
  simp only [understudyref02_unit.j0]
  rw [if_pos trivial,show u % 256=u from by omega]
 ·rw [if_neg c1]
  have key:understudyref02_unit.j0 (k + 1) u false=some (if u≤2047 then [192 + u / 64,128 + u % 64] else [224 + u / 4096,128 + u / 64 % 64,128 + u % 64]):=by
   simp only [understudyref02_unit.j0]
   rw [if_neg (by simp),d64,d4096,m64,w64 (x:=u / 64) (by omega) (by omega),w64 (x:=u / 4096) (by omega) (by omega),m64',w64 (x:=192 + u / 64) (by omega) (by omega),w64 (x:=128 + u % 64) (by omega) (by omega),w64 (x:=224 + u / 4096) (by omega) (by omega),w64 (x:=128 + u / 64 % 64) (by omega) (by omega)]
   by_cases c2:u≤2047
   ·rw [if_pos c2,if_pos c2,show (192 + u / 64) % 256=192 + u / 64 from by omega,show (128 + u % 64) % 256=128 + u % 64 from by omega]
   ·rw [if_neg c2,if_neg c2,show (224 + u / 4096) % 256=224 + u / 4096 from by omega,show (128 + u % 64) % 256=128 + u % 64 from by omega,show (128 + u / 64 % 64) % 256=128 + u / 64 % 64 from by omega]
  by_cases c3:u ≥ 1
  ·rw [if_pos c3,decide_eq_false (by omega),key]
  ·rw [if_neg c3,key]
theorem bt_nat (s:ByteArray) (i:Nat) (h:i < s.size):bt s (i:Int)=((s.get! i).toNat:Int):=by
 have h':((i:Int)).toNat < s.size:=by omega
 have e:=Utf8W.get!_of_lt s i h
 unfold bt
 rw [dif_pos h',e]
 rfl
theorem point_step (k:Nat) (s:ByteArray) (c n least:Int) (i b:Nat) (hi:(i:Int) < n) (hs:i < s.size) (hb:(s.get! i).toNat=b) (hn:n≤4) (h1:128≤b) (h2:b≤191) (hc0:0≤c) (hc1:c < 65536) :
  understudyref02_point.l0 (k + 1) s c n least (i:Int)=understudyref02_point.l0 k s (c * 64 + (b:Int) % 64) n least ((i:Int) + 1):=by
 have e:=bt_nat s i hs
 rw [hb] at e
 have e1:bits .and .u8 (b:Int) 63=(b:Int) % 64:=u8_and63 _ (by omega) (by omega)
 have e2:bits .or .i64 (c * 64) ((b:Int) % 64)=c * 64 + (b:Int) % 64:=bits_join .i64 63 (by decide) wraps_i64' 6 (c * 64) ((b:Int) % 64) (by omega) (by omega) (by omega) (by omega) (by omega) (by omega)
 simp only [understudyref02_point.l0]
 rw [if_pos hi,if_pos (by omega),if_pos (by omega),e,if_neg (by omega),if_neg (by omega),e1,w64 (x:=c * 64) (by omega) (by omega),w64 (x:=(b:Int) % 64) (by omega) (by omega),e2,w64 (by omega) (by omega)]
theorem point_bad (k:Nat) (s:ByteArray) (c n least:Int) (i b:Nat) (hi:(i:Int) < n) (hs:i < s.size) (hb:(s.get! i).toNat=b) (h:b < 128 ∨ 191 < b) :
  understudyref02_point.l0 (k + 1) s c n least (i:Int)=some (0,0):=by
 have e:=bt_nat s i hs
 rw [hb] at e
 simp only [understudyref02_point.l0]
 rw [if_pos hi,if_pos (by omega),if_pos (by omega),e]
 rcases h with h|h
 ·rw [if_pos (by omega)]
 ·rw [if_neg (by omega),if_pos (by omega)]
theorem point_end (k:Nat) (s:ByteArray) (c n least i:Int) (hi:¬ i < n) :
  understudyref02_point.l0 (k + 1) s c n least i=some (if c < least ∨ c > 1114111 ∨ (55296≤c∧c≤57343) then (0,0) else (c,n)):=by
 simp only [understudyref02_point.l0]
 rw [if_neg hi]
 by_cases h1:c < least
 ·rw [if_pos h1,if_pos (.inl h1)]
 ·rw [if_neg h1]
  by_cases h2:c > 1114111
  ·rw [if_pos h2,if_pos (.inr (.inl h2))]
  ·rw [if_neg h2]
   by_cases h3:c ≥ 55296
   ·rw [if_pos h3]
    by_cases h4:c≤57343
    ·rw [if_pos h4,if_pos (.inr (.inr ⟨h3,h4⟩))]
    ·rw [if_neg h4,if_neg (by omega)]
   ·rw [if_neg h3,if_neg (by omega)]
def pointV (s:ByteArray):Int × Int:=if (Utf8.decode s 0).1=65533∧(Utf8.decode s 0).2=1 then (0,0) else (((Utf8.decode s 0).1:Int),((Utf8.decode s 0).2:Int))
def pointN (d:Nat × Nat):Int × Int:=if d.1=65533∧d.2=1 then (0,0) else ((d.1:Int),(d.2:Int))
theorem pointV_eq (s:ByteArray):pointV s=pointN (Lib.decodeN s.size (s.get! 0).toNat (s.get! 1).toNat (s.get! 2).toNat (s.get! 3).toNat):=by
 unfold pointV pointN
 rw [Lib.decode_at,Nat.sub_zero]
theorem pointN_bad {d:Nat × Nat} (h:d=(65533,1)):pointN d=(0,0):=by rw [h];rfl
theorem pointN_good {d:Nat × Nat} {c n:Nat} (h:d=(c,n)) (hn:¬ (c=65533∧n=1)):pointN d=((c:Int),(n:Int)):=by rw [h];unfold pointN;rw [if_neg hn]
theorem point2 (k:Nat) (s:ByteArray) (b0:Nat) (h0:194≤b0) (h1:b0≤223) :
  understudyref02_point.j2 (k + 4) s ((b0:Int) % 32) 2 128=some (pointN (Lib.decodeN s.size b0 (s.get! 1).toNat (s.get! 2).toNat (s.get! 3).toNat)):=by
 generalize e1:(s.get! 1).toNat=b1
 simp only [understudyref02_point.j2]
 by_cases hs:(s.size:Int) < 2
 ·rw [if_pos hs]
  rw [pointN_bad (by unfold Lib.decodeN;rw [if_neg (by omega),if_neg (by omega),if_neg (by omega),if_neg (by omega)])]
 ·rw [if_neg hs]
  by_cases hb:b1 < 128 ∨ 191 < b1
  ·rw [show (1:Int)=((1:Nat):Int) from rfl,point_bad (k + 2) s _ 2 128 1 b1 (by omega) (by omega) e1 hb]
   rw [pointN_bad (by unfold Lib.decodeN;rw [if_neg (by omega),if_neg (by omega),if_neg (by omega),if_neg (by omega)])]
  ·rw [show (1:Int)=((1:Nat):Int) from rfl,point_step (k + 2) s _ 2 128 1 b1 (by omega) (by omega) e1 (by omega) (by omega) (by omega) (by omega) (by omega),point_end _ _ _ _ _ _ (by omega),if_neg (by omega)]
   rw [pointN_good (c:=b0 % 32 * 64 + b1 % 64) (n:=2) (by unfold Lib.decodeN;rw [if_neg (by omega),if_pos (by omega),if_pos (by omega)]) (by omega)]
   have:((b0 % 32 * 64 + b1 % 64:Nat):Int)=(b0:Int) % 32 * 64 + (b1:Int) % 64:=by omega
   rw [this]
   rfl
theorem point3 (k:Nat) (s:ByteArray) (b0:Nat) (h0:224≤b0) (h1:b0≤239) :
  understudyref02_point.j2 (k + 5) s ((b0:Int) % 16) 3 2048=some (pointN (Lib.decodeN s.size b0 (s.get! 1).toNat (s.get! 2).toNat (s.get! 3).toNat)):=by
 generalize e1:(s.get! 1).toNat=b1
 generalize e2:(s.get! 2).toNat=b2
 simp only [understudyref02_point.j2]
 have fin:∀ b3:Nat,¬ ((1 < s.size∧b1 / 64=2)∧(2 < s.size∧b2 / 64=2))→pointN (Lib.decodeN s.size b0 b1 b2 b3)=(0,0):=by
  intro b3 hh
  exact pointN_bad (by unfold Lib.decodeN;rw [if_neg (by omega),if_neg (by omega),if_neg (by omega),if_neg (by omega)])
 by_cases hs:(s.size:Int) < 3
 ·rw [if_pos hs,fin _ (by omega)]
 ·rw [if_neg hs]
  by_cases hb:b1 < 128 ∨ 191 < b1
  ·rw [show (1:Int)=((1:Nat):Int) from rfl,point_bad (k + 3) s _ 3 2048 1 b1 (by omega) (by omega) e1 hb,fin _ (by omega)]
  ·rw [show (1:Int)=((1:Nat):Int) from rfl,point_step (k + 3) s _ 3 2048 1 b1 (by omega) (by omega) e1 (by omega) (by omega) (by omega) (by omega) (by omega)]
   by_cases hb2:b2 < 128 ∨ 191 < b2
   ·rw [show ((1:Nat):Int) + 1=((2:Nat):Int) from rfl,point_bad (k + 2) s _ 3 2048 2 b2 (by omega) (by omega) e2 hb2,fin _ (by omega)]
   ·rw [show ((1:Nat):Int) + 1=((2:Nat):Int) from rfl,point_step (k + 2) s _ 3 2048 2 b2 (by omega) (by omega) e2 (by omega) (by omega) (by omega) (by omega) (by omega),point_end _ _ _ _ _ _ (by omega)]
    generalize (s.get! 3).toNat=b3
    have hd:Lib.decodeN s.size b0 b1 b2 b3=if b0 % 16 * 4096 + b1 % 64 * 64 + b2 % 64 ≥ 2048∧(b0 % 16 * 4096 + b1 % 64 * 64 + b2 % 64 < 55296 ∨ (57344≤b0 % 16 * 4096 + b1 % 64 * 64 + b2 % 64∧b0 % 16 * 4096 + b1 % 64 * 64 + b2 % 64≤1114111)) then (b0 % 16 * 4096 + b1 % 64 * 64 + b2 % 64,3) else (65533,1):=by unfold Lib.decodeN;rw [if_neg (by omega),if_neg (by omega),if_pos (by omega)]
    rw [hd]
    clear hd
    have hv:((b0 % 16 * 4096 + b1 % 64 * 64 + b2 % 64:Nat):Int)=((b0:Int) % 16 * 64 + (b1:Int) % 64) * 64 + (b2:Int) % 64:=by omega
    generalize b0 % 16 * 4096 + b1 % 64 * 64 + b2 % 64=c at hv ⊢
    rw [← hv]
    by_cases hc:c ≥ 2048∧(c < 55296 ∨ (57344≤c∧c≤1114111))
    ·rw [if_neg (by omega),if_pos hc,pointN_good rfl (by omega)];rfl
    ·rw [if_pos (by omega),if_neg hc,pointN_bad rfl]
theorem point4 (k:Nat) (s:ByteArray) (b0:Nat) (h0:240≤b0) (h1:b0≤244) :
  understudyref02_point.j2 (k + 6) s ((b0:Int) % 8) 4 65536=some (pointN (Lib.decodeN s.size b0 (s.get! 1).toNat (s.get! 2).toNat (s.get! 3).toNat)):=by
 generalize e1:(s.get! 1).toNat=b1
 generalize e2:(s.get! 2).toNat=b2
 generalize e3:(s.get! 3).toNat=b3
 simp only [understudyref02_point.j2]
 have fin:¬ ((1 < s.size∧b1 / 64=2)∧(2 < s.size∧b2 / 64=2)∧(3 < s.size∧b3 / 64=2))→pointN (Lib.decodeN s.size b0 b1 b2 b3)=(0,0):=by
  intro hh
  exact pointN_bad (by unfold Lib.decodeN;rw [if_neg (by omega),if_neg (by omega),if_neg (by omega),if_neg (by omega)])
 by_cases hs:(s.size:Int) < 4
 ·rw [if_pos hs,fin (by omega)]
 ·rw [if_neg hs]
  by_cases hb:b1 < 128 ∨ 191 < b1
  ·rw [show (1:Int)=((1:Nat):Int) from rfl,point_bad (k + 4) s _ 4 65536 1 b1 (by omega) (by omega) e1 hb,fin (by omega)]
  ·rw [show (1:Int)=((1:Nat):Int) from rfl,point_step (k + 4) s _ 4 65536 1 b1 (by omega) (by omega) e1 (by omega) (by omega) (by omega) (by omega) (by omega)]
   by_cases hb2:b2 < 128 ∨ 191 < b2
   ·rw [show ((1:Nat):Int) + 1=((2:Nat):Int) from rfl,point_bad (k + 3) s _ 4 65536 2 b2 (by omega) (by omega) e2 hb2,fin (by omega)]
   ·rw [show ((1:Nat):Int) + 1=((2:Nat):Int) from rfl,point_step (k + 3) s _ 4 65536 2 b2 (by omega) (by omega) e2 (by omega) (by omega) (by omega) (by omega) (by omega)]
    by_cases hb3:b3 < 128 ∨ 191 < b3
    ·rw [show ((2:Nat):Int) + 1=((3:Nat):Int) from rfl,point_bad (k + 2) s _ 4 65536 3 b3 (by omega) (by omega) e3 hb3,fin (by omega)]
    ·rw [show ((2:Nat):Int) + 1=((3:Nat):Int) from rfl,point_step (k + 2) s _ 4 65536 3 b3 (by omega) (by omega) e3 (by omega) (by omega) (by omega) (by omega) (by omega),point_end _ _ _ _ _ _ (by omega)]
     have hd:Lib.decodeN s.size b0 b1 b2 b3=if b0 % 8 * 262144 + b1 % 64 * 4096 + b2 % 64 * 64 + b3 % 64 ≥ 65536∧(b0 % 8 * 262144 + b1 % 64 * 4096 + b2 % 64 * 64 + b3 % 64 < 55296 ∨ (57344≤b0 % 8 * 262144 + b1 % 64 * 4096 + b2 % 64 * 64 + b3 % 64∧b0 % 8 * 262144 + b1 % 64 * 4096 + b2 % 64 * 64 + b3 % 64≤1114111)) then (b0 % 8 * 262144 + b1 % 64 * 4096 + b2 % 64 * 64 + b3 % 64,4) else (65533,1):=by unfold Lib.decodeN;rw [if_neg (by omega),if_neg (by omega),if_neg (by omega),if_pos (by omega)]
     rw [hd]
     clear hd
     have hv:((b0 % 8 * 262144 + b1 % 64 * 4096 + b2 % 64 * 64 + b3 % 64:Nat):Int)=(((b0:Int) % 8 * 64 + (b1:Int) % 64) * 64 + (b2:Int) % 64) * 64 + (b3:Int) % 64:=by omega
     generalize b0 % 8 * 262144 + b1 % 64 * 4096 + b2 % 64 * 64 + b3 % 64=c at hv ⊢
     rw [← hv]
     by_cases hc:c ≥ 65536∧(c < 55296 ∨ (57344≤c∧c≤1114111))
     ·rw [if_neg (by omega),if_pos hc,pointN_good rfl (by omega)];rfl
     ·rw [if_pos (by omega),if_neg hc,pointN_bad rfl]
theorem point.ev (s:ByteArray) (hs:0 < s.size):Ev (fun k => understudyref02_point.f k s) (pointV s):=by
 refine ⟨9,fun k hk => ?_⟩
 obtain ⟨k,rfl⟩:∃ m,k=m + 9:=⟨k - 9,by omega⟩
 show understudyref02_point.f (k + 9) s=_
 rw [pointV_eq]
 have e:=bt_nat s 0 hs
 generalize e0:(s.get! 0).toNat=b0 at e ⊢
 have hb0:b0 < 256:=by rw [← e0];exact (s.get! 0).toNat_lt
 have a31:bits .and .i64 (b0:Int) 31=(b0:Int) % 32:=and64 5 (by omega) _ (by omega) (by omega)
 have a15:bits .and .i64 (b0:Int) 15=(b0:Int) % 16:=and64 4 (by omega) _ (by omega) (by omega)
 have a7:bits .and .i64 (b0:Int) 7=(b0:Int) % 8:=and64 3 (by omega) _ (by omega) (by omega)
 unfold understudyref02_point.f
 rw [if_pos (by omega),show (0:Int)=((0:Nat):Int) from rfl,e,w64 (by omega) (by omega)]
 have none_:¬ (194≤b0∧b0≤244)→128≤b0→∀ b1 b2 b3,b1 < 256→b2 < 256→b3 < 256→pointN (Lib.decodeN s.size b0 b1 b2 b3)=(0,0):=by
  intro h1 h2 b1 b2 b3 l1 l2 l3
  apply pointN_bad
  unfold Lib.decodeN
  rw [if_neg (by omega)]
  by_cases c1:b0 / 32=6∧(1 < s.size∧b1 / 64=2)
  ·rw [if_pos c1,if_neg (by omega)]
  ·rw [if_neg c1,if_neg (by omega)]
   by_cases c2:b0 / 8=30∧(1 < s.size∧b1 / 64=2)∧(2 < s.size∧b2 / 64=2)∧(3 < s.size∧b3 / 64=2)
   ·rw [if_pos c2,if_neg (by omega)]
   ·rw [if_neg c2]
 have lt (i:Nat):(s.get! i).toNat < 256:=(s.get! i).toNat_lt
 by_cases c1:b0 < 128
 ·rw [if_pos (by omega)]
  rw [pointN_good (c:=b0) (n:=1) (by unfold Lib.decodeN;rw [if_pos c1]) (by omega)]
  rfl
 ·rw [if_neg (by omega)]
  by_cases c2:194≤b0∧b0≤223
  ·rw [if_pos (by omega),decide_eq_true (by omega)]
   simp only [understudyref02_point.j0]
   rw [if_pos trivial,a31]
   exact point2 (k + 4) s b0 c2.1 c2.2
  ·have key:understudyref02_point.j0 (k + 9) s (b0:Int) false=some (pointN (Lib.decodeN s.size b0 (s.get! 1).toNat (s.get! 2).toNat (s.get! 3).toNat)):=by
    simp only [understudyref02_point.j0]
    rw [if_neg (by simp)]
    by_cases c3:224≤b0∧b0≤239
    ·rw [if_pos (by omega),decide_eq_true (by omega)]
     simp only [understudyref02_point.j1]
     rw [if_pos trivial,a15]
     exact point3 (k + 2) s b0 c3.1 c3.2
    ·have key2:understudyref02_point.j1 (k + 8) s (b0:Int) false=some (pointN (Lib.decodeN s.size b0 (s.get! 1).toNat (s.get! 2).toNat (s.get! 3).toNat)):=by
      simp only [understudyref02_point.j1]
      rw [if_neg (by simp)]
      by_cases c4:240≤b0
      ·rw [if_pos (by omega)]
       by_cases c5:b0≤244
       ·rw [if_pos (by omega),a7]
        exact point4 (k + 1) s b0 c4 c5
       ·rw [if_neg (by omega),none_ (by omega) (by omega) _ _ _ (lt _) (lt _) (lt _)]
      ·rw [if_neg (by omega),none_ (by omega) (by omega) _ _ _ (lt _) (lt _) (lt _)]
     by_cases c6:(b0:Int) ≥ 224
     ·rw [if_pos c6,decide_eq_false (by omega)];exact key2
     ·rw [if_neg c6];exact key2
   by_cases c6:(b0:Int) ≥ 194
   ·rw [if_pos c6,decide_eq_false (by omega)];exact key
   ·rw [if_neg c6];exact key
theorem ne_of_size (s:ByteArray) (hs:0 < s.size):s.data.toList ≠ []:=by
 intro e
 have:=congrArg List.length e
 rw [← Lib.size_eq] at this
 simp only [List.length_nil] at this
 omega
theorem ref_Encode.ev_l:∀ n (s:ByteArray) (b:List Int),s.size≤n→b.length + 6 * s.size < 140737488355328→Ev (fun k => understudyref02_Encode.l0 k s b) (if Lib.validD s.data.toList=true then (b++encL s.data.toList,0) else ([],20)):=by
 intro n
 induction n with
 | zero =>
  intro s b hn hb
  have e:s.data.toList=[]:=List.length_eq_zero_iff.1 (by rw [← Lib.size_eq];omega)
  refine ⟨1,fun k hk => ?_⟩
  obtain ⟨k,rfl⟩:∃ m,k=m + 1:=⟨k - 1,by omega⟩
  simp only [understudyref02_Encode.l0]
  rw [if_neg (by omega),e,Lib.validD_nil,if_pos rfl,encL_nil,List.append_nil]
 | succ n ih =>
  intro s b hn hb
  by_cases hs:0 < s.size
  ·have hne:=ne_of_size s hs
   have hd:Lib.decodeL s.data.toList=Utf8.decode s 0:=by
    have:=Lib.decodeL_drop s 0
    simpa using this
   have hw:=text_Encode.width s 0 hs
   have hr:=Lib.decodeL_rune s.data.toList
   rw [hd] at hr
   have hwl:=Lib.decodeL_le s.data.toList hne
   rw [hd,← Lib.size_eq] at hwl
   have h6:=cuL_len ((Utf8.decode s 0).1:Int)
   obtain ⟨K1,hP⟩:=point.ev s hs
   have hstep:=Lib.validD_step s.data.toList hne
   have hex:(s.extract (Utf8.decode s 0).2 s.size).data.toList=s.data.toList.drop (Utf8.decode s 0).2:=Lib.extract_to_end s _
   rw [hd] at hstep
   unfold pointV at hP
   by_cases hbad:(Utf8.decode s 0).1=65533∧(Utf8.decode s 0).2=1
   ·rw [if_pos hbad] at hstep
    rw [if_pos hbad] at hP
    rw [if_neg (by rw [hstep];simp)]
    refine ⟨K1 + 1,fun k hk => ?_⟩
    obtain ⟨k,rfl⟩:∃ m,k=m + 1:=⟨k - 1,by omega⟩
    have hp:=hP k (by omega)
    simp only at hp
    simp only [understudyref02_Encode.l0]
    rw [if_pos (by omega),hp,Option.bind_some,if_pos rfl]
   ·rw [if_neg hbad] at hstep
    rw [if_neg hbad] at hP
    rw [hstep,encL_step _ hne,hd]
    have hsz:(s.extract (Utf8.decode s 0).2 s.size).size=s.size - (Utf8.decode s 0).2:=by
     rw [Lib.size_eq,hex,List.length_drop,← Lib.size_eq]
    generalize ht:s.extract (Utf8.decode s 0).2 s.size=t at hex hsz
    have IH:=ih t (b++cuL ((Utf8.decode s 0).1:Int)) (by omega) (by rw [List.length_append];omega)
    rw [hex] at IH
    obtain ⟨K2,hI⟩:=IH
    generalize hc:(Utf8.decode s 0).1=c at *
    generalize hwd:(Utf8.decode s 0).2=wd at *
    rw [← List.append_assoc]
    by_cases hbig:c < 65536
    ·obtain ⟨K3,hU⟩:=ref_unit.ev (c:Int) (by omega) (by omega)
     have hcu:cuL (c:Int)=unitL (c:Int):=by unfold cuL;rw [if_pos (by omega)]
     refine ⟨K1 + K2 + K3 + 1,fun k hk => ?_⟩
     obtain ⟨k,rfl⟩:∃ m,k=m + 1:=⟨k - 1,by omega⟩
     have hp:=hP k (by omega)
     have hu:=hU k (by omega)
     have hi:=hI k (by omega)
     simp only at hp hu hi
     simp only [understudyref02_Encode.l0]
     rw [hcu] at hi h6
     rw [if_pos (by omega),hp,Option.bind_some]
     simp only
     rw [if_neg (by omega),if_pos (by omega),if_pos (by omega),if_neg (by omega),hu,Option.bind_some,if_pos (by omega),Int.toNat_natCast,ht,hi,hcu]
    ·obtain ⟨K3,hU⟩:=ref_unit.ev (55296 + ((c:Int) - 65536) / 1024) (by omega) (by omega)
     obtain ⟨K4,hV⟩:=ref_unit.ev (56320 + ((c:Int) - 65536) % 1024) (by omega) (by omega)
     have hcu:cuL (c:Int)=unitL (55296 + ((c:Int) - 65536) / 1024)++unitL (56320 + ((c:Int) - 65536) % 1024):=by unfold cuL;rw [if_neg (by omega)]
     refine ⟨K1 + K2 + K3 + K4 + 1,fun k hk => ?_⟩
     obtain ⟨k,rfl⟩:∃ m,k=m + 1:=⟨k - 1,by omega⟩
     have hp:=hP k (by omega)
     have hu:=hU k (by omega)
     have hv:=hV k (by omega)
     have hi:=hI k (by omega)
     simp only at hp hu hv hi
     have e1:wrap64 ((c:Int) - 65536)=(c:Int) - 65536:=w64 (by omega) (by omega)
     have e2:Int.tdiv ((c:Int) - 65536) 1024=((c:Int) - 65536) / 1024:=Int.tdiv_eq_ediv_of_nonneg (by omega)
     have e3:Int.tmod ((c:Int) - 65536) 1024=((c:Int) - 65536) % 1024:=Int.tmod_eq_emod_of_nonneg (by omega)
     have e4:wrap64 (((c:Int) - 65536) / 1024)=((c:Int) - 65536) / 1024:=w64 (by omega) (by omega)
     have e5:wrap64 (55296 + ((c:Int) - 65536) / 1024)=55296 + ((c:Int) - 65536) / 1024:=w64 (by omega) (by omega)
     have e6:wrap64 (56320 + ((c:Int) - 65536) % 1024)=56320 + ((c:Int) - 65536) % 1024:=w64 (by omega) (by omega)
     have h7:=unitL_len (55296 + ((c:Int) - 65536) / 1024)
     simp only [understudyref02_Encode.l0]
     rw [hcu,← List.append_assoc] at hi
     rw [hcu,List.length_append] at h6
     rw [if_pos (by omega),hp,Option.bind_some]
     simp only [e1,e2,e3,e4,e5,e6]
     rw [if_neg (by omega),if_pos (by omega),if_pos (by omega),if_pos (by omega),hu,Option.bind_some,if_pos (by omega),Option.bind_some,hv,Option.bind_some,if_pos (by rw [List.length_append];omega),Int.toNat_natCast,ht,hi,hcu]
     simp only [List.append_assoc]
  ·have e:s.data.toList=[]:=List.length_eq_zero_iff.1 (by rw [← Lib.size_eq];omega)
   refine ⟨1,fun k hk => ?_⟩
   obtain ⟨k,rfl⟩:∃ m,k=m + 1:=⟨k - 1,by omega⟩
   simp only [understudyref02_Encode.l0]
   rw [if_neg (by omega),e,Lib.validD_nil,if_pos rfl,encL_nil,List.append_nil]
theorem ref_Encode.ev (s:ByteArray) (hs:s.size≤1099511627776):Ev (fun k => understudyref02_Encode.f k s) (encV s):=by
 have h:=ref_Encode.ev_l s.size s [] (Nat.le_refl _) (by simp;omega)
 simp only [List.nil_append] at h
 exact h
end Go.Proofs.YtmloaijagkebpaaDoor.Px
namespace Go.Proofs.YtmloaijagkebpaaDoor.Px
open Go.RowKit Go.Proofs.YtmloaijagkebpaaDoorW.PrintWords Go.Proofs.YtmloaijagkebpaaDoorW.PrintLast Go.Proofs.YtmloaijagkebpaaDoorW.PrintMore
set_option linter.unusedVariables false
set_option linter.unusedSimpArgs false
theorem ref_is.eq (l:List Cst) (i tag:Int):understudyref04_is.f l i tag=some (isV l i tag):=by
 rw [← pool_is.eq]
 unfold understudyref04_is.f pool_is.f
 by_cases h1:i > 0
 ·rw [if_pos h1,if_pos (by omega)]
 ·rw [if_neg h1,if_neg (by omega)]
theorem ref_bare.at1 (c:Cst):understudyref04_bare.f 1 c.f0 c.f1 c.f2 c.f3 c.f4=some (bareV c):=by
 unfold bareV understudyref04_bare.f
 simp only [understudyref04_bare.j0,beq_iff_eq]
 have e3:∀ (a b:Prop) [Decidable a] [Decidable b],(if a then some (decide b) else some false:Option Bool)=some (decide (a∧b)):=by
  intro a b _ _
  by_cases ha:a
  ·rw [if_pos ha];simp [ha]
  ·rw [if_neg ha];simp [ha]
 have e2:∀ (a:Prop) [Decidable a] (y:Int),(if a then some (y==0) else some false:Option Bool)=some (decide (a∧y=0)):=by
  intro a _ y
  by_cases ha:a
  ·rw [if_pos ha]
   congr 1
   rw [Bool.eq_iff_iff,beq_iff_eq,decide_eq_true_eq]
   exact ⟨fun h => ⟨ha,h⟩,fun h => h.2⟩
  ·rw [if_neg ha];simp [ha]
 simp only [e2,e3]
 by_cases h1:c.f0=1
 ·rw [if_pos h1,if_pos h1]
 rw [if_neg h1,if_neg h1]
 by_cases h3:c.f0=3
 ·rw [if_pos h3,if_pos h3,if_pos (show c.f0=3 ∨ c.f0=5 by omega)]
 rw [if_neg h3]
 by_cases h5:c.f0=5
 ·rw [if_pos h5,if_pos (show c.f0=3 ∨ c.f0=5 by omega)]
 rw [if_neg h5,if_neg (show ¬ (c.f0=3 ∨ c.f0=5) by omega)]
 by_cases h7:c.f0=7
 ·rw [if_pos h7,if_pos h7]
 rw [if_neg h7,if_neg h7]
theorem ref_bare.ev (c:Cst):Ev (fun k => understudyref04_bare.f k c.f0 c.f1 c.f2 c.f3 c.f4) (bareV c):=Ev.of (fun k => understudyref04_bare.mono _ _ _ _ _ k) (ref_bare.at1 c)
theorem ref_one.ev (p:List Cst) (hp:∀ c ∈ p,FitC c) (i:Nat) (hi:i < p.length):Ev (fun k => understudyref04_one.f k p (i:Int)) (oneV p (rd_T60 p (i:Int))):=by
 obtain ⟨c,hc⟩:∃ c,c=rd_T60 p (i:Int):=⟨_,rfl⟩
 have hfit:FitC c:=hc ▸ fit_rd hp _
 rw [← hc]
 unfold understudyref04_one.f
 simp only [← hc]
 refine Ev.congr (fun k => (if_pos (by omega)).trans (if_pos (by omega))) (Ev.bind (ref_bare.ev c) ?_)
 by_cases hb:bareV c=true
 ·refine Ev.congr (fun k => if_pos hb) ?_
  by_cases h1:c.f0=1
  ·have hl:leadsV p c=true:=by unfold leadsV;rw [if_pos (by omega)]
   refine Ev.congr (fun k => if_pos h1) (Ev.bind (ref_Encode.ev c.f1 hfit.1) ?_)
   by_cases he:(encV c.f1).2=0
   ·refine Ev.congr (fun k => if_pos he) ?_
    by_cases hn:(encV c.f1).1.length≤256
    ·have hV:oneV p c=0:=by unfold oneV;rw [if_pos ⟨hb,hl⟩,if_neg (fun h => h.2 ⟨he,hn⟩)]
     rw [hV]
     exact Ev.step (f:=fun _ => some 0) (fun k => by simp only [understudyref04_one.j0];rw [if_neg (by rw [decide_eq_false (by omega)];simp)]) (Ev.now _)
    ·have hV:oneV p c=20:=by unfold oneV;rw [if_pos ⟨hb,hl⟩,if_pos ⟨h1,fun h => hn h.2⟩]
     rw [hV]
     exact Ev.step (f:=fun _ => some 20) (fun k => by simp only [understudyref04_one.j0];rw [if_pos (by rw [decide_eq_true (by omega)])]) (Ev.now _)
   ·have hV:oneV p c=20:=by unfold oneV;rw [if_pos ⟨hb,hl⟩,if_pos ⟨h1,fun h => he h.1⟩]
    rw [hV]
    refine Ev.congr (fun k => if_neg he) ?_
    exact Ev.step (f:=fun _ => some 20) (fun k => by simp only [understudyref04_one.j0];rw [if_pos trivial]) (Ev.now _)
  ·have hV:oneV p c=if leadsV p c=true then 0 else 40:=by
    unfold oneV
    by_cases hl:leadsV p c=true
    ·rw [if_pos ⟨hb,hl⟩,if_neg (fun h => h1 h.1),if_pos hl]
    ·rw [if_neg (fun h => hl h.2),if_neg hl]
   rw [hV]
   unfold leadsV
   refine Ev.congr (fun k => if_neg h1) ?_
   simp only [ref_is.eq,Option.bind_some]
   have two:∀ a b:Bool,(if a=true then (if b=true then some 0 else some 40) else some 40:Option Int)=some (if (a && b)=true then 0 else 40):=by intro a b;cases a <;> cases b <;> rfl
   have one:∀ a:Bool,(if a=true then some 0 else some 40:Option Int)=some (if a=true then 0 else 40):=by intro a;cases a <;> rfl
   by_cases h3:c.f0=3
   ·refine Ev.congr (f:=fun _ => some (if decide (-2147483648≤c.f2∧c.f2≤2147483647)=true then 0 else 40)) (fun k => ?_) ?_
    ·rw [if_pos h3]
     by_cases ha:c.f2 ≥ -2147483648
     ·by_cases hb2:c.f2≤2147483647
      ·rw [if_pos ha,if_pos hb2,if_pos (by rw [decide_eq_true_eq];omega)]
      ·rw [if_pos ha,if_neg hb2,if_neg (by rw [decide_eq_true_eq];omega)]
     ·rw [if_neg ha,if_neg (by rw [decide_eq_true_eq];omega)]
    ·rw [if_neg (show ¬ (c.f0=1 ∨ c.f0=5) by omega),if_pos h3]
     exact Ev.now _
   by_cases h5:c.f0=5
   ·refine Ev.congr (f:=fun _ => some 0) (fun k => by rw [if_neg h3,if_pos h5]) ?_
    rw [if_pos (show c.f0=1 ∨ c.f0=5 by omega),if_pos rfl]
    exact Ev.now _
   by_cases h7:c.f0=7
   ·refine Ev.congr (f:=fun _ => some (if isV p c.f3 1=true then 0 else 40)) (fun k => by rw [if_neg h3,if_neg h5,if_pos h7,one]) ?_
    rw [if_neg (show ¬ (c.f0=1 ∨ c.f0=5) by omega),if_neg h3,if_pos h7]
    exact Ev.now _
   by_cases h12:c.f0=12
   ·refine Ev.congr (f:=fun _ => some (if (isV p c.f3 1 && isV p c.f4 1)=true then 0 else 40)) (fun k => by rw [if_neg h3,if_neg h5,if_neg h7,if_pos h12,two]) ?_
    rw [if_neg (show ¬ (c.f0=1 ∨ c.f0=5) by omega),if_neg h3,if_neg h7,if_pos h12]
    exact Ev.now _
   have last:∀ b:Bool,Ev (fun k => understudyref04_one.j1 k p b c.f0 c.f1 c.f2 c.f3 c.f4) (if b=true then (if (isV p c.f3 7 && isV p c.f4 12)=true then 0 else 40) else 40):=by
    intro b
    refine Ev.step (f:=fun _ => some (if b=true then (if (isV p c.f3 7 && isV p c.f4 12)=true then 0 else 40) else 40)) (fun k => ?_) (Ev.now _)
    simp only [understudyref04_one.j1,ref_is.eq,Option.bind_some]
    cases b
    ·rfl
    ·exact two _ _
   rw [if_neg (show ¬ (c.f0=1 ∨ c.f0=5) by omega),if_neg h3,if_neg h7,if_neg h12]
   by_cases h9:c.f0=9
   ·refine Ev.congr (fun k => by rw [if_neg h3,if_neg h5,if_neg h7,if_neg h12,if_pos h9]) ?_
    rw [if_pos (show c.f0=9 ∨ c.f0=10 by omega)]
    have:=last (c.f0==9)
    rw [if_pos (beq_iff_eq.2 h9)] at this
    exact this
   ·refine Ev.congr (fun k => by rw [if_neg h3,if_neg h5,if_neg h7,if_neg h12,if_neg h9]) ?_
    have:=last (c.f0==10)
    by_cases h10:c.f0=10
    ·rw [if_pos (show c.f0=9 ∨ c.f0=10 by omega)]
     rw [if_pos (beq_iff_eq.2 h10)] at this
     exact this
    ·rw [if_neg (show ¬ (c.f0=9 ∨ c.f0=10) by omega)]
     rw [if_neg (fun h => h10 (beq_iff_eq.1 h))] at this
     exact this
 ·have hV:oneV p c=40:=by unfold oneV;rw [if_neg (fun h => hb h.1)]
  rw [hV]
  exact Ev.congr (fun k => if_neg hb) (Ev.now _)
theorem ref_Check.ev_l (p:List Cst) (hp:∀ c ∈ p,FitC c) (hl:p.length≤1024):∀ n (i:Nat),p.length≤i + n→i≤p.length→Ev (fun k => understudyref04_Check.l0 k p (i:Int)) (chkV n p i):=by
 have stop:∀ i:Nat,¬ i < p.length→Ev (fun k => understudyref04_Check.l0 k p (i:Int)) 0:=fun i hi => Ev.step (f:=fun _ => some 0) (fun k => by simp only [understudyref04_Check.l0];rw [if_neg (by omega)]) (Ev.now _)
 intro n
 induction n with
 | zero => intro i h h2;exact stop i (by omega)
 | succ n ih =>
  intro i h h2
  show Ev _ (if i < p.length then _ else _)
  by_cases hi:i < p.length
  ·rw [if_pos hi]
   refine Ev.step (f:=fun k => (understudyref04_one.f k p (i:Int)).bind fun t170 => if t170=0 then understudyref04_Check.l0 k p ((i + 1:Nat):Int) else some t170) (fun k => ?_) ?_
   ·simp only [understudyref04_Check.l0]
    rw [if_pos (by omega),w64 (by omega) (by omega)]
    rfl
   refine Ev.bind (ref_one.ev p hp i hi) ?_
   by_cases h0:oneV p (rd_T60 p (i:Int))=0
   ·rw [if_pos h0]
    exact Ev.congr (fun k => if_pos h0) (ih (i + 1) (by omega) (by omega))
   ·rw [if_neg h0]
    exact Ev.congr (fun k => if_neg h0) (Ev.now _)
  ·rw [if_neg hi]
   exact stop i hi
theorem ref_Check.ev (p:List Cst) (hp:∀ c ∈ p,FitC c):Ev (fun k => understudyref04_Check.f k p) (checkV p):=by
 unfold checkV
 have j0:∀ b:Bool,∀ r,(b=false→Ev (fun k => understudyref04_Check.l0 k p 1) r)→Ev (fun k => understudyref04_Check.j0 k p b) (if b=true then 40 else r):=by
  intro b r hr
  cases b with
  | true => exact Ev.step (f:=fun _ => some 40) (fun k => by simp only [understudyref04_Check.j0];rw [if_pos trivial]) (Ev.now _)
  | false => exact Ev.step (fun k => by simp only [understudyref04_Check.j0];rw [if_neg (by simp)]) (hr rfl)
 by_cases c1:p.length > 1024
 ·rw [if_pos c1]
  exact Ev.congr (f:=fun _ => some 2) (fun k => by unfold understudyref04_Check.f;rw [if_pos (by omega)]) (Ev.now _)
 rw [if_neg c1]
 by_cases c2:p.length=0
 ·rw [if_pos c2]
  exact Ev.congr (fun k => by unfold understudyref04_Check.f;rw [if_neg (by omega),if_pos (by omega)]) (j0 true 0 (fun h => by cases h))
 rw [if_neg c2]
 have hz:(!((rd_T60 p 0).f0==0) || (!(((rd_T60 p 0).f1).toList==([]:List UInt8)) || (!((rd_T60 p 0).f2==0) || (!((rd_T60 p 0).f3==0) || (!((rd_T60 p 0).f4==0))))))=!(zeroV (rd_T60 p 0)):=by
  unfold zeroV
  rw [Bool.eq_iff_iff]
  simp only [Bool.or_eq_true,Bool.not_eq_true',beq_eq_false_iff_ne,decide_eq_false_iff_not]
  simp only [ne_eq]
  by_cases a1:(rd_T60 p 0).f0=0 <;> by_cases a2:(rd_T60 p 0).f1.toList=[] <;> by_cases a3:(rd_T60 p 0).f2=0 <;> by_cases a4:(rd_T60 p 0).f3=0 <;> simp [a1,a2,a3,a4]
 have hj:=j0 (!(zeroV (rd_T60 p 0))) (chkV p.length p 1) (fun _ => ref_Check.ev_l p hp (by omega) p.length 1 (by omega) (by omega))
 refine Ev.congr (f:=fun k => understudyref04_Check.j0 k p (!(zeroV (rd_T60 p 0)))) (fun k => ?_) ?_
 ·unfold understudyref04_Check.f
  rw [if_neg (by omega),if_neg (by omega),if_pos (by omega),hz]
 ·cases h:zeroV (rd_T60 p 0)
  ·rw [h] at hj;exact hj
  ·rw [h] at hj;exact hj
end Go.Proofs.YtmloaijagkebpaaDoor.Px
namespace Go.Proofs.YtmloaijagkebpaaDoor.Px
open Go.RowKit Go.Proofs.YtmloaijagkebpaaDoorW.PrintWords Go.Proofs.YtmloaijagkebpaaDoorW.PrintLast Go.Proofs.YtmloaijagkebpaaDoorW.PrintMore
set_option linter.unusedVariables false
set_option linter.unusedSimpArgs false
theorem ref_Text.eq (l:List Cst) (i:Int):understudyref04_Text.f l i=some (textV l i):=by
 rw [← pool_Text.eq]
 unfold understudyref04_Text.f pool_Text.f
 rw [ref_is.eq,pool_is.eq]
theorem ref_Class.eq (l:List Cst) (i:Int):understudyref04_Class.f l i=some (classV l i):=by
 rw [← pool_Class.eq]
 unfold understudyref04_Class.f pool_Class.f
 simp only [ref_is.eq,pool_is.eq,ref_Text.eq,pool_Text.eq]
theorem utf.eq (l:List Cst) (i:Int):understudyref05_utf.f l i=some (txt l i):=by
 unfold understudyref05_utf.f
 rw [ref_Text.eq]
 rfl
theorem cls.eq (l:List Cst) (i:Int):understudyref05_cls.f l i=some (cl l i):=by
 unfold understudyref05_cls.f
 rw [ref_Class.eq]
 rfl
theorem placeG_nonneg:∀ (n:Nat) (p:List Cst) (s:ByteArray) (i:Nat),0≤placeG n p s i
 | 0,_,_,_ => Int.le_refl 0
 | n + 1,p,s,i => by
  unfold placeG
  split
  ·split
   ·omega
   ·exact placeG_nonneg n p s (i + 1)
  ·omega
theorem placeV_nonneg (p:List Cst) (s:ByteArray):0≤placeV p s:=placeG_nonneg _ _ _ _
theorem reftext.ev_l (p:List Cst) (s:ByteArray) (hl:p.length≤1048576):∀ n (i:Nat),0 < i→p.length≤i + n→Ev (fun k => understudyref05_text.l0 k p s (i:Int)) (placeG n p s i):=by
 have stop:∀ i:Nat,¬ i < p.length→Ev (fun k => understudyref05_text.l0 k p s (i:Int)) 0:=fun i hi => Ev.step (f:=fun _ => some 0) (fun k => by simp only [understudyref05_text.l0];rw [if_neg (by omega)]) (Ev.now _)
 intro n
 induction n with
 | zero => intro i h0 h;exact stop i (by omega)
 | succ n ih =>
  intro i h0 h
  show Ev _ (if i < p.length then _ else _)
  by_cases hi:i < p.length
  ·rw [if_pos hi]
   have hv:isV p (i:Int) 1=decide ((rd_T60 p (i:Int)).f0=1):=by
    unfold isV
    rw [Bool.eq_iff_iff,decide_eq_true_eq,decide_eq_true_eq]
    exact ⟨fun h => h.2.2,fun h => ⟨by omega,by omega,h⟩⟩
   refine Ev.step (f:=fun k => if isV p (i:Int) 1=true∧(rd_T60 p (i:Int)).f1.toList=s.toList then some (i:Int) else understudyref05_text.l0 k p s ((i + 1:Nat):Int)) (fun k => ?_) ?_
   ·simp only [understudyref05_text.l0]
    rw [if_pos (by omega),if_pos (by omega),w64 (by omega) (by omega),hv]
    by_cases h1:(rd_T60 p (i:Int)).f0=1
    ·rw [if_pos h1]
     by_cases hs:(rd_T60 p (i:Int)).f1.toList=s.toList
     ·rw [if_pos hs,if_pos ⟨decide_eq_true h1,hs⟩]
     ·rw [if_neg hs,if_neg (fun h => hs h.2)];rfl
    ·rw [if_neg h1,if_neg (fun h => h1 (of_decide_eq_true h.1))];rfl
   ·by_cases hc:isV p (i:Int) 1=true∧(rd_T60 p (i:Int)).f1.toList=s.toList
    ·rw [if_pos hc];exact Ev.congr (fun k => if_pos hc) (Ev.now _)
    ·rw [if_neg hc];exact Ev.congr (fun k => if_neg hc) (ih (i + 1) (by omega) (by omega))
  ·rw [if_neg hi];exact stop i hi
theorem reftext.ev (p:List Cst) (s:ByteArray) (hl:p.length≤1048576):Ev (fun k => understudyref05_text.f k p s) (placeV p s):=reftext.ev_l p s hl p.length 1 (by omega) (by omega)
def partB (p:List Cst) (n mn:Nat):Bool:=decide (1≤n∧n≤4096) && (decide (mn≤4096) && (decide (placeV p sCode > 0) && (decide (mn=0) || decide (placeV p sMaps > 0))))
section
variable (p:List Cst) (hl:p.length≤1048576) (m:Mth) (hm:FitM m)
include hl hm
theorem rm.ev_l:∀ d (i:Nat),m.f6.length≤i + d→Ev (fun k => understudyref05_method.l0 k p (m.f5.length:Int) (i:Int) m.f0 m.f1 m.f2 m.f3 m.f4 m.f5 m.f6 m.f7) ((m.f6.drop i).all (trapV p m.f5.length)):=by
 have _u:=hl
 obtain ⟨hw,h5,h6,h7⟩:=hm
 have stop:∀ i:Nat,¬ i < m.f6.length→Ev (fun k => understudyref05_method.l0 k p (m.f5.length:Int) (i:Int) m.f0 m.f1 m.f2 m.f3 m.f4 m.f5 m.f6 m.f7) ((m.f6.drop i).all (trapV p m.f5.length)):=fun i hi => by
  rw [List.drop_eq_nil_of_le (by omega),List.all_nil]
  exact Ev.step (f:=fun _ => some true) (fun k => by simp only [understudyref05_method.l0];rw [if_neg (by omega)]) (Ev.now _)
 intro d
 induction d with
 | zero => intro i h;exact stop i (by omega)
 | succ d ih =>
  intro i h
  by_cases hi:i < m.f6.length
  ·obtain ⟨t,ht⟩:∃ t,t=rd_T78 m.f6 (i:Int):=⟨_,rfl⟩
   have hd:m.f6.drop i=t :: m.f6.drop (i + 1):=by
    rw [drop_getD (z:=z78) i hi,ht]
    unfold rd_T78
    rw [Int.toNat_natCast]
   have j3:∀ b:Bool,Ev (fun k => understudyref05_method.j3 k p (m.f5.length:Int) (i:Int) b m.f0 m.f1 m.f2 m.f3 m.f4 m.f5 m.f6 m.f7) (!b && (m.f6.drop (i + 1)).all (trapV p m.f5.length)):=by
    intro b
    cases b with
    | true => exact Ev.step (f:=fun _ => some false) (fun k => by simp only [understudyref05_method.j3];rw [if_pos trivial]) (Ev.now _)
    | false =>
     rw [Bool.not_false,Bool.true_and]
     refine Ev.step (fun k => ?_) (ih (i + 1) (by omega))
     simp only [understudyref05_method.j3]
     rw [if_neg (by simp),w64 (by omega) (by omega)]
     rfl
   have pre:(i:Int) < (m.f6.length:Int):=by omega
   have pre0:(0:Int)≤(i:Int):=by omega
   rw [hd,List.all_cons]
   have bad:trapV p m.f5.length t=false→(∀ k,understudyref05_method.l0 (k + 1) p (m.f5.length:Int) (i:Int) m.f0 m.f1 m.f2 m.f3 m.f4 m.f5 m.f6 m.f7=understudyref05_method.j3 k p (m.f5.length:Int) (i:Int) true m.f0 m.f1 m.f2 m.f3 m.f4 m.f5 m.f6 m.f7)→Ev (fun k => understudyref05_method.l0 k p (m.f5.length:Int) (i:Int) m.f0 m.f1 m.f2 m.f3 m.f4 m.f5 m.f6 m.f7) (trapV p m.f5.length t && (m.f6.drop (i + 1)).all (trapV p m.f5.length)):=by
    intro e hk
    rw [e,Bool.false_and]
    exact Ev.step hk (j3 true)
   by_cases c1:t.f0 < 0
   ·exact bad (by unfold trapV;rw [if_pos c1]) (fun k => by simp only [understudyref05_method.l0,← ht];rw [if_pos pre,if_pos pre0,if_pos c1])
   by_cases c2:t.f0 ≥ t.f1
   ·exact bad (by unfold trapV;rw [if_neg c1,if_pos c2]) (fun k => by simp only [understudyref05_method.l0,← ht];rw [if_pos pre,if_pos pre0,if_neg c1,if_pos c2])
   by_cases c3:t.f1 > (m.f5.length:Int)
   ·exact bad (by unfold trapV;rw [if_neg c1,if_neg c2,if_pos c3]) (fun k => by simp only [understudyref05_method.l0,← ht];rw [if_pos pre,if_pos pre0,if_neg c1,if_neg c2,if_pos c3])
   by_cases c4:t.f2 < 0
   ·exact bad (by unfold trapV;rw [if_neg c1,if_neg c2,if_neg c3,if_pos (Or.inl c4)]) (fun k => by simp only [understudyref05_method.l0,← ht];rw [if_pos pre,if_pos pre0,if_neg c1,if_neg c2,if_neg c3,if_pos c4])
   by_cases c6:t.f2 ≥ (m.f5.length:Int)
   ·exact bad (by unfold trapV;rw [if_neg c1,if_neg c2,if_neg c3,if_pos (Or.inr c6)]) (fun k => by simp only [understudyref05_method.l0,← ht];rw [if_pos pre,if_pos pre0,if_neg c1,if_neg c2,if_neg c3,if_neg c4,if_pos c6])
   have c46:¬ (t.f2 < 0 ∨ t.f2 ≥ (m.f5.length:Int)):=by omega
   by_cases c5:t.f3=0
   ·have e:trapV p m.f5.length t=true:=by unfold trapV;rw [if_neg c1,if_neg c2,if_neg c3,if_neg c46,if_pos c5]
    rw [e]
    exact Ev.step (fun k => by simp only [understudyref05_method.l0,← ht];rw [if_pos pre,if_pos pre0,if_neg c1,if_neg c2,if_neg c3,if_neg c4,if_neg c6,if_pos c5]) (j3 false)
   ·have e:trapV p m.f5.length t=cl p t.f3:=by unfold trapV;rw [if_neg c1,if_neg c2,if_neg c3,if_neg c46,if_neg c5]
    rw [e]
    have hj:=j3 (!(cl p t.f3))
    rw [Bool.not_not] at hj
    exact Ev.step (fun k => by simp only [understudyref05_method.l0,← ht,cls.eq,Option.bind_some];rw [if_pos pre,if_pos pre0,if_neg c1,if_neg c2,if_neg c3,if_neg c4,if_neg c6,if_neg c5]) hj
  ·exact stop i hi
theorem rm.ev_j1 (b:Bool):Ev (fun k => understudyref05_method.j1 k p (m.f5.length:Int) b m.f0 m.f1 m.f2 m.f3 m.f4 m.f5 m.f6 m.f7) (!b && m.f6.all (trapV p m.f5.length)):=by
 cases b with
 | true => exact Ev.step (f:=fun _ => some false) (fun k => by simp only [understudyref05_method.j1];rw [if_pos trivial]) (Ev.now _)
 | false =>
  have:=rm.ev_l p hl m hm m.f6.length 0 (by omega)
  rw [List.drop_zero] at this
  rw [Bool.not_false,Bool.true_and]
  exact Ev.step (fun k => by simp only [understudyref05_method.j1];rw [if_neg (by simp)];rfl) this
theorem rm.ev_j0 (b:Bool):Ev (fun k => understudyref05_method.j0 k p b m.f0 m.f1 m.f2 m.f3 m.f4 m.f5 m.f6 m.f7) (!b && (partB p m.f5.length m.f7.length && m.f6.all (trapV p m.f5.length))):=by
 have j1:=rm.ev_j1 p hl m hm
 have jt:Ev (fun k => understudyref05_method.j1 k p (m.f5.length:Int) true m.f0 m.f1 m.f2 m.f3 m.f4 m.f5 m.f6 m.f7) false:=j1 true
 cases b with
 | true => exact Ev.step (f:=fun _ => some false) (fun k => by simp only [understudyref05_method.j0];rw [if_pos trivial]) (Ev.now _)
 | false =>
  rw [Bool.not_false,Bool.true_and]
  have no:∀ {x:Bool},x=false→(x && m.f6.all (trapV p m.f5.length))=false:=fun h => by rw [h,Bool.false_and]
  by_cases a1:(m.f5.length:Int) < 1
  ·rw [no (by unfold partB;rw [decide_eq_false (show ¬ (1≤m.f5.length∧m.f5.length≤4096) by omega)];simp)]
   exact Ev.step (fun k => by simp only [understudyref05_method.j0];rw [if_neg (by simp),if_pos a1]) jt
  by_cases a2:(m.f5.length:Int) > 4096
  ·rw [no (by unfold partB;rw [decide_eq_false (show ¬ (1≤m.f5.length∧m.f5.length≤4096) by omega)];simp)]
   exact Ev.step (fun k => by simp only [understudyref05_method.j0];rw [if_neg (by simp),if_neg a1,if_pos a2]) jt
  have a12:decide (1≤m.f5.length∧m.f5.length≤4096)=true:=decide_eq_true (by omega)
  by_cases a3:(m.f7.length:Int) > 4096
  ·rw [no (by unfold partB;rw [decide_eq_false (show ¬ m.f7.length≤4096 by omega)];simp)]
   exact Ev.step (fun k => by simp only [understudyref05_method.j0];rw [if_neg (by simp),if_neg a1,if_neg a2,if_pos a3]) jt
  have a3b:decide (m.f7.length≤4096)=true:=decide_eq_true (by omega)
  have hnn:=placeV_nonneg p sCode
  have hnm:=placeV_nonneg p sMaps
  refine Ev.step (fun k => by simp only [understudyref05_method.j0];rw [if_neg (by simp),if_neg a1,if_neg a2,if_neg a3];rfl) (Ev.bind (reftext.ev p sCode hl) ?_)
  by_cases a4:placeV p sCode=0
  ·rw [no (by unfold partB;rw [decide_eq_false (show ¬ placeV p sCode > 0 by omega)];simp)]
   exact Ev.congr (fun k => if_pos a4) jt
  have a4b:decide (placeV p sCode > 0)=true:=decide_eq_true (by omega)
  refine Ev.congr (fun k => if_neg a4) ?_
  by_cases a5:(m.f7.length:Int) > 0
  ·have a5b:decide (m.f7.length=0)=false:=decide_eq_false (by omega)
   refine Ev.congr (fun k => if_pos a5) (Ev.bind (reftext.ev p sMaps hl) ?_)
   have e:partB p m.f5.length m.f7.length=!(placeV p sMaps==0):=by
    unfold partB
    rw [a12,a3b,a4b,a5b,Bool.true_and,Bool.true_and,Bool.true_and,Bool.false_or,Bool.eq_iff_iff]
    simp only [decide_eq_true_eq,Bool.not_eq_true',beq_eq_false_iff_ne]
    omega
   rw [e]
   exact j1 (placeV p sMaps==0)
  ·have a5b:decide (m.f7.length=0)=true:=decide_eq_true (by omega)
   have e:partB p m.f5.length m.f7.length=true:=by unfold partB;rw [a12,a3b,a4b,a5b];rfl
   rw [e]
   exact Ev.congr (fun k => if_neg a5) (j1 false)
theorem rm.ev:Ev (fun k => understudyref05_method.f k p m.f0 m.f1 m.f2 m.f3 m.f4 m.f5 m.f6 m.f7) (methV p m):=by
 have j0:=rm.ev_j0 p hl m hm
 have jt:Ev (fun k => understudyref05_method.j0 k p true m.f0 m.f1 m.f2 m.f3 m.f4 m.f5 m.f6 m.f7) false:=j0 true
 have hV:methV p m=(flagsV m.f0 && ((txt p m.f1 && txt p m.f2) && (decide (0≤m.f3∧m.f3≤64) && (decide (0≤m.f4∧m.f4≤64) && (partB p m.f5.length m.f7.length && m.f6.all (trapV p m.f5.length)))))):=by
  unfold methV restV partB
  rw [Bool.and_comm]
  simp only [Bool.and_assoc]
 rw [hV]
 have chain:Ev (fun k => if txt p m.f1=true then (if txt p m.f2=true then (if m.f3 < 0 then (understudyref05_method.j0 k p true m.f0 m.f1 m.f2 m.f3 m.f4 m.f5 m.f6 m.f7) else (if m.f3 > 64 then (understudyref05_method.j0 k p true m.f0 m.f1 m.f2 m.f3 m.f4 m.f5 m.f6 m.f7) else (if m.f4 < 0 then (understudyref05_method.j0 k p true m.f0 m.f1 m.f2 m.f3 m.f4 m.f5 m.f6 m.f7) else (understudyref05_method.j0 k p (decide (m.f4 > 64)) m.f0 m.f1 m.f2 m.f3 m.f4 m.f5 m.f6 m.f7)))) else (understudyref05_method.j0 k p true m.f0 m.f1 m.f2 m.f3 m.f4 m.f5 m.f6 m.f7)) else (understudyref05_method.j0 k p true m.f0 m.f1 m.f2 m.f3 m.f4 m.f5 m.f6 m.f7))
   ((txt p m.f1 && txt p m.f2) && (decide (0≤m.f3∧m.f3≤64) && (decide (0≤m.f4∧m.f4≤64) && (partB p m.f5.length m.f7.length && m.f6.all (trapV p m.f5.length))))):=by
  by_cases t1:txt p m.f1=true
  ·refine Ev.congr (fun k => if_pos t1) ?_
   rw [t1,Bool.true_and]
   by_cases t2:txt p m.f2=true
   ·refine Ev.congr (fun k => if_pos t2) ?_
    rw [t2,Bool.true_and]
    by_cases b1:m.f3 < 0
    ·rw [decide_eq_false (show ¬ (0≤m.f3∧m.f3≤64) by omega),Bool.false_and]
     exact Ev.congr (fun k => if_pos b1) jt
    by_cases b2:m.f3 > 64
    ·rw [decide_eq_false (show ¬ (0≤m.f3∧m.f3≤64) by omega),Bool.false_and]
     exact Ev.congr (fun k => (if_neg b1).trans (if_pos b2)) jt
    rw [decide_eq_true (show 0≤m.f3∧m.f3≤64 by omega),Bool.true_and]
    by_cases b3:m.f4 < 0
    ·rw [decide_eq_false (show ¬ (0≤m.f4∧m.f4≤64) by omega),Bool.false_and]
     exact Ev.congr (fun k => (if_neg b1).trans ((if_neg b2).trans (if_pos b3))) jt
    have e:decide (0≤m.f4∧m.f4≤64)=!(decide (m.f4 > 64)):=by
     rw [Bool.eq_iff_iff]
     simp only [decide_eq_true_eq,Bool.not_eq_true',decide_eq_false_iff_not]
     omega
    rw [e]
    exact Ev.congr (fun k => (if_neg b1).trans ((if_neg b2).trans (if_neg b3))) (j0 (decide (m.f4 > 64)))
   ·rw [Bool.eq_false_iff.2 t2,Bool.false_and]
    exact Ev.congr (fun k => if_neg (by simp)) jt
  ·rw [Bool.eq_false_iff.2 t1,Bool.false_and,Bool.false_and]
   exact Ev.congr (fun k => if_neg (by simp)) jt
 unfold understudyref05_method.f
 simp only [utf.eq,Option.bind_some]
 by_cases f0:m.f0=0
 ·have e:flagsV m.f0=true:=decide_eq_true (Or.inl f0)
  rw [e,Bool.true_and]
  exact Ev.congr (fun k => if_pos f0) chain
 by_cases f8:m.f0=8
 ·have e:flagsV m.f0=true:=decide_eq_true (Or.inr f8)
  rw [e,Bool.true_and]
  exact Ev.congr (fun k => (if_neg f0).trans (if_pos f8)) chain
 ·have e:flagsV m.f0=false:=decide_eq_false (by omega)
  rw [e,Bool.false_and]
  exact Ev.congr (fun k => (if_neg f0).trans (if_neg f8)) jt
end
section
variable (p:List Cst) (hl:p.length≤1048576) (this super:Int) (fs:List Fld) (ms:List Mth) (hfl:fs.length≤1048576) (hml:ms.length≤1048576) (hf:∀ f ∈ fs,FitF f) (hm:∀ m ∈ ms,FitM m)
include hl hfl hml hf hm
theorem rc.ev_l2:∀ d (i:Nat),ms.length≤i + d→Ev (fun k => understudyref05_Check.l2 k (i:Int) p this super fs ms) (fineV ((ms.drop i).all (methV p))):=by
 have _u:=And.intro hfl hf
 have stop:∀ (i:Nat),¬ i < ms.length→Ev (fun k => understudyref05_Check.l2 k (i:Int) p this super fs ms) (fineV ((ms.drop i).all (methV p))):=fun i hi => by
  rw [List.drop_eq_nil_of_le (by omega),List.all_nil]
  exact Ev.step (f:=fun _ => some 0) (fun k => by simp only [understudyref05_Check.l2];rw [if_neg (by omega)]) (Ev.now _)
 intro d
 induction d with
 | zero => intro i h;exact stop i (by omega)
 | succ d ih =>
  intro i h
  by_cases hi:i < ms.length
  ·obtain ⟨m,he⟩:∃ m,m=rd_T49 ms (i:Int):=⟨_,rfl⟩
   have hd:ms.drop i=m :: ms.drop (i + 1):=by
    rw [drop_getD (z:=z49) i hi,he]
    unfold rd_T49
    rw [Int.toNat_natCast]
   have hmm:m ∈ ms:=List.mem_of_mem_drop (hd ▸ List.mem_cons_self:m ∈ ms.drop i)
   rw [hd,List.all_cons]
   refine Ev.step (f:=fun k => (understudyref05_method.f k p m.f0 m.f1 m.f2 m.f3 m.f4 m.f5 m.f6 m.f7).bind fun t259 => if t259=true then understudyref05_Check.l2 k ((i + 1:Nat):Int) p this super fs ms else some 50) (fun k => ?_) (Ev.bind (rm.ev p hl m (hm m hmm)) ?_)
   ·simp only [understudyref05_Check.l2,← he]
    rw [if_pos (by omega),if_pos (by omega),w64 (by omega) (by omega)]
    rfl
   ·by_cases hv:methV p m=true
    ·rw [hv,Bool.true_and]
     exact Ev.congr (fun k => if_pos rfl) (ih (i + 1) (by omega))
    ·rw [Bool.eq_false_iff.2 hv,Bool.false_and]
     exact Ev.congr (fun k => if_neg (by simp)) (Ev.now _)
  ·exact stop i hi
theorem rc.ev_l1:∀ d (i:Nat),fs.length≤i + d→Ev (fun k => understudyref05_Check.l1 k (i:Int) p this super fs ms) (fineV ((fs.drop i).all (fieldV p) && ms.all (methV p))):=by
 have stop:∀ (i:Nat),¬ i < fs.length→Ev (fun k => understudyref05_Check.l1 k (i:Int) p this super fs ms) (fineV ((fs.drop i).all (fieldV p) && ms.all (methV p))):=fun i hi => by
  rw [List.drop_eq_nil_of_le (by omega),List.all_nil,Bool.true_and]
  have h2:=rc.ev_l2 p hl this super fs ms hfl hml hf hm ms.length 0 (by omega)
  exact Ev.step (fun k => by simp only [understudyref05_Check.l1];rw [if_neg (by omega)];rfl) h2
 intro d
 induction d with
 | zero => intro i h;exact stop i (by omega)
 | succ d ih =>
  intro i h
  by_cases hi:i < fs.length
  ·obtain ⟨f,he⟩:∃ f,f=rd_T46 fs (i:Int):=⟨_,rfl⟩
   have hd:fs.drop i=f :: fs.drop (i + 1):=by
    rw [drop_getD (z:=z46) i hi,he]
    unfold rd_T46
    rw [Int.toNat_natCast]
   have j4:∀ b:Bool,Ev (fun k => understudyref05_Check.j4 k (i:Int) b p this super fs ms) (fineV (!b && ((fs.drop (i + 1)).all (fieldV p) && ms.all (methV p)))):=by
    intro b
    cases b with
    | true => exact Ev.step (f:=fun _ => some 50) (fun k => by simp only [understudyref05_Check.j4];rw [if_pos trivial]) (Ev.now _)
    | false =>
     rw [Bool.not_false,Bool.true_and]
     refine Ev.step (fun k => ?_) (ih (i + 1) (by omega))
     simp only [understudyref05_Check.j4]
     rw [if_neg (by simp),w64 (by omega) (by omega)]
     rfl
   rw [hd,List.all_cons,Bool.and_assoc]
   have chain:Ev (fun k => if txt p f.f1=true then understudyref05_Check.j4 k (i:Int) (!(txt p f.f2)) p this super fs ms else understudyref05_Check.j4 k (i:Int) true p this super fs ms) (fineV ((txt p f.f1 && txt p f.f2) && ((fs.drop (i + 1)).all (fieldV p) && ms.all (methV p)))):=by
    by_cases t1:txt p f.f1=true
    ·rw [t1,Bool.true_and]
     have:=j4 (!(txt p f.f2))
     rw [Bool.not_not] at this
     exact Ev.congr (fun k => if_pos rfl) this
    ·rw [Bool.eq_false_iff.2 t1,Bool.false_and]
     exact Ev.congr (fun k => if_neg (by simp)) (j4 true)
   by_cases f0:f.f0=0
   ·have e:fieldV p f=(txt p f.f1 && txt p f.f2):=by unfold fieldV flagsV;rw [decide_eq_true (Or.inl f0),Bool.true_and]
    rw [e]
    exact Ev.step (fun k => by simp only [understudyref05_Check.l1,← he,utf.eq,Option.bind_some];rw [if_pos (by omega),if_pos (by omega),if_pos f0]) chain
   by_cases f8:f.f0=8
   ·have e:fieldV p f=(txt p f.f1 && txt p f.f2):=by unfold fieldV flagsV;rw [decide_eq_true (Or.inr f8),Bool.true_and]
    rw [e]
    exact Ev.step (fun k => by simp only [understudyref05_Check.l1,← he,utf.eq,Option.bind_some];rw [if_pos (by omega),if_pos (by omega),if_neg f0,if_pos f8]) chain
   ·have e:fieldV p f=false:=by unfold fieldV flagsV;rw [decide_eq_false (by omega),Bool.false_and]
    rw [e]
    exact Ev.step (fun k => by simp only [understudyref05_Check.l1,← he];rw [if_pos (by omega),if_pos (by omega),if_neg f0,if_neg f8]) (j4 true)
  ·exact stop i hi
theorem rc.ev_l0:∀ d (i:Nat),ms.length≤i + d→Ev (fun k => understudyref05_Check.l0 k (i:Int) p this super fs ms) (if (ms.drop i).any (fun m => decide ((m.f6.length:Int) > 64))=true then 2 else fineV ((cl p this && cl p super) && fs.all (fieldV p) && ms.all (methV p))):=by
 have stop:∀ (i:Nat),¬ i < ms.length→Ev (fun k => understudyref05_Check.l0 k (i:Int) p this super fs ms) (if (ms.drop i).any (fun m => decide ((m.f6.length:Int) > 64))=true then 2 else fineV ((cl p this && cl p super) && fs.all (fieldV p) && ms.all (methV p))):=fun i hi => by
  rw [List.drop_eq_nil_of_le (by omega),List.any_nil,if_neg (by simp),Bool.and_assoc]
  have h1:=rc.ev_l1 p hl this super fs ms hfl hml hf hm fs.length 0 (by omega)
  rw [List.drop_zero] at h1
  have j2:∀ b:Bool,Ev (fun k => understudyref05_Check.j2 k b p this super fs ms) (fineV (!b && (fs.all (fieldV p) && ms.all (methV p)))):=by
   intro b
   cases b with
   | true => exact Ev.step (f:=fun _ => some 50) (fun k => by simp only [understudyref05_Check.j2];rw [if_pos trivial]) (Ev.now _)
   | false =>
    rw [Bool.not_false,Bool.true_and]
    exact Ev.step (fun k => by simp only [understudyref05_Check.j2];rw [if_neg (by simp)];rfl) h1
  refine Ev.step (f:=fun k => if cl p this=true then understudyref05_Check.j2 k (!(cl p super)) p this super fs ms else understudyref05_Check.j2 k true p this super fs ms) (fun k => by simp only [understudyref05_Check.l0,cls.eq,Option.bind_some];rw [if_neg (by omega)]) ?_
  by_cases t1:cl p this=true
  ·rw [t1,Bool.true_and]
   have:=j2 (!(cl p super))
   rw [Bool.not_not] at this
   exact Ev.congr (fun k => if_pos rfl) this
  ·rw [Bool.eq_false_iff.2 t1,Bool.false_and]
   exact Ev.congr (fun k => if_neg (by simp)) (j2 true)
 intro d
 induction d with
 | zero => intro i h;exact stop i (by omega)
 | succ d ih =>
  intro i h
  by_cases hi:i < ms.length
  ·obtain ⟨m,he⟩:∃ m,m=rd_T49 ms (i:Int):=⟨_,rfl⟩
   have hd:ms.drop i=m :: ms.drop (i + 1):=by
    rw [drop_getD (z:=z49) i hi,he]
    unfold rd_T49
    rw [Int.toNat_natCast]
   rw [hd,List.any_cons]
   by_cases hx:(m.f6.length:Int) > 64
   ·rw [decide_eq_true hx,Bool.true_or,if_pos rfl]
    exact Ev.step (f:=fun _ => some 2) (fun k => by simp only [understudyref05_Check.l0,← he];rw [if_pos (by omega),if_pos (by omega),if_pos hx]) (Ev.now _)
   ·rw [decide_eq_false hx,Bool.false_or]
    exact Ev.step (fun k => by simp only [understudyref05_Check.l0,← he];rw [if_pos (by omega),if_pos (by omega),if_neg hx,w64 (by omega) (by omega)];rfl) (ih (i + 1) (by omega))
  ·exact stop i hi
theorem ref05_Check.ev (hp:∀ c ∈ p,FitC c):Ev (fun k => understudyref05_Check.f k p this super fs ms) (classCheckV p this super fs ms):=by
 unfold understudyref05_Check.f classCheckV
 refine Ev.bind (ref_Check.ev p hp) ?_
 by_cases h:checkV p=0
 ·rw [if_pos h]
  refine Ev.congr (fun k => if_pos h) ?_
  have h0:=rc.ev_l0 p hl this super fs ms hfl hml hf hm ms.length 0 (by omega)
  rw [List.drop_zero] at h0
  by_cases a1:(fs.length:Int) > 64
  ·have e:longV (mx (fs.length:Int) (ms.length:Int)) ms=true:=by
    unfold longV
    rw [decide_eq_true (by unfold mx;split <;> omega),Bool.true_or]
   rw [e,if_pos rfl]
   exact Ev.congr (fun k => if_pos a1) (Ev.step (f:=fun _ => some 2) (fun k => by simp only [understudyref05_Check.j0];rw [if_pos trivial]) (Ev.now _))
  ·refine Ev.congr (fun k => if_neg a1) ?_
   by_cases a2:(ms.length:Int) > 64
   ·have e:longV (mx (fs.length:Int) (ms.length:Int)) ms=true:=by
     unfold longV
     rw [decide_eq_true (by unfold mx;split <;> omega),Bool.true_or]
    rw [e,if_pos rfl,decide_eq_true a2]
    exact Ev.step (f:=fun _ => some 2) (fun k => by simp only [understudyref05_Check.j0];rw [if_pos trivial]) (Ev.now _)
   ·have e:longV (mx (fs.length:Int) (ms.length:Int)) ms=ms.any (fun m => decide ((m.f6.length:Int) > 64)):=by
     unfold longV
     rw [decide_eq_false (by unfold mx;split <;> omega),Bool.false_or]
    rw [e,decide_eq_false a2]
    exact Ev.step (fun k => by simp only [understudyref05_Check.j0];rw [if_neg (by simp)];rfl) h0
 ·rw [if_neg h]
  exact Ev.congr (fun k => if_neg h) (Ev.now _)
end
end Go.Proofs.YtmloaijagkebpaaDoor.Px
namespace Go.Proofs.YtmloaijagkebpaaDoor.Px
open Go.RowKit Go.Proofs.YtmloaijagkebpaaDoorW.PrintWords Go.Proofs.YtmloaijagkebpaaDoorW.PrintLast Go.Proofs.YtmloaijagkebpaaDoorW.PrintMore
set_option linter.unusedVariables false
set_option linter.unusedSimpArgs false
theorem be1 (x:Int):beN 1 x=[x % 256]:=by simp [beN]
theorem be2 (x:Int):beN 2 x=[x / 256 % 256,x % 256]:=by simp [beN]
theorem be4 (x:Int):beN 4 x=[x / 16777216 % 256,x / 65536 % 256,x / 256 % 256,x % 256]:=by simp [beN]
theorem ref_two.eq (x:Int):understudyref04_two.f x=some (beN 2 x):=by unfold understudyref04_two.f;rw [be2]
theorem refP_Encode.ev_8 (p:List Cst) (i:Int) (c:Cst) (r:List Int × Int):∀ n (bs:List Int),n≤8→bs.length + n < 140737488355328→Ev (fun k => understudyref04_Encode.l0 k p (bs++beN n c.f2) (wrap64 (i + 1))) r →
  Ev (fun k => understudyref04_Encode.l1 k p bs i (8 * (n:Int) - 8) c.f0 c.f1 c.f2 c.f3 c.f4) r
 | 0,bs,_,_,h => by
  refine Ev.step (fun k => by simp only [understudyref04_Encode.l1];rw [if_neg (by omega)]) ?_
  simp only [beN,List.append_nil] at h
  exact h
 | n + 1,bs,hn,hl,h => by
  have e1:shr .i64 c.f2 (8 * ((n + 1:Nat):Int) - 8)=c.f2 / 2 ^ (8 * n):=by
   unfold shr
   have:min (8 * ((n + 1:Nat):Int) - 8).toNat IntKind.i64.bits=8 * n:=by
    have:IntKind.i64.bits=64:=rfl
    omega
   rw [this]
  have e2:wrap64 (8 * ((n + 1:Nat):Int) - 8 - 8)=8 * (n:Int) - 8:=by unfold wrap64;omega
  refine Ev.step (f:=fun k => understudyref04_Encode.l1 k p (bs++[c.f2 / 2 ^ (8 * n) % 256]) i (8 * (n:Int) - 8) c.f0 c.f1 c.f2 c.f3 c.f4) (fun k => ?_) ?_
  ·simp only [understudyref04_Encode.l1]
   rw [if_pos (by omega),if_pos (by omega),if_pos (by omega),e1,e2]
  ·refine refP_Encode.ev_8 p i c r n _ (by omega) (by rw [List.length_append,List.length_singleton];omega) ?_
   rw [List.append_assoc]
   exact h
theorem refP_Encode.ev_l {p:List Cst} (hp:∀ c ∈ p,FitC c) (hl:p.length≤1024) (h1:∀ j:Nat,1≤j→j < p.length→oneV p (rd_T60 p (j:Int))=0) :
  ∀ n (i:Nat) (bs:List Int),p.length≤i + n→1≤i→i≤p.length→bs.length≤2 + 259 * i→Ev (fun k => understudyref04_Encode.l0 k p bs (i:Int)) (bs++(p.drop i).flatMap constL,0):=by
 have stop:∀ (i:Nat) (bs:List Int),¬ i < p.length→Ev (fun k => understudyref04_Encode.l0 k p bs (i:Int)) (bs++(p.drop i).flatMap constL,0):=by
  intro i bs hi
  refine Ev.step (f:=fun _ => some (bs,0)) (fun k => by simp only [understudyref04_Encode.l0];rw [if_neg (by omega)]) ?_
  rw [List.drop_eq_nil_of_le (by omega),List.flatMap_nil,List.append_nil]
  exact Ev.now _
 intro n
 induction n with
 | zero => intro i bs h hi hi2 hb;exact stop i bs (by omega)
 | succ n ih =>
  intro i bs h hi hi2 hb
  by_cases hlt:i < p.length
  ·have ok:=oneV_ok hl (h1 i (by omega) hlt)
   have hc:=constL_len ok
   have hfit:FitC (rd_T60 p (i:Int)):=fit_rd hp _
   have hI:=ih (i + 1) (bs++constL (rd_T60 p (i:Int))) (by omega) (by omega) (by omega) (by rw [List.length_append];omega)
   have hw:wrap64 ((i:Int) + 1)=((i + 1:Nat):Int):=by unfold wrap64;omega
   rw [drop_rd hlt,List.flatMap_cons,← List.append_assoc]
   obtain ⟨c,hcc⟩:∃ c,rd_T60 p (i:Int)=c:=⟨_,rfl⟩
   rw [hcc] at ok hc hfit hI ⊢
   generalize (bs++constL c++(p.drop (i + 1)).flatMap constL,(0:Int))=R at hI ⊢
   clear ih
   have hbl:=bodyL_len ok
   have hlc:(bs++[c.f0 % 256]).length=bs.length + 1:=by simp
   unfold constL bodyL at hI
   rw [be1,← List.append_assoc,← hw] at hI
   refine Ev.step (fun k => by simp only [understudyref04_Encode.l0];rw [if_pos (by omega),if_pos (by omega),if_pos (by omega),Option.bind_some,hcc]) ?_
   simp only [ref_two.eq,Option.bind_some]
   by_cases h1:c.f0=1
   ·have ht:=ok.txt h1
    simp only [if_pos h1] at hI ⊢
    refine Ev.bind (ref_Encode.ev c.f1 hfit.1) ?_
    refine Ev.congr (fun k => (if_pos (by rw [hlc,beN_length];omega)).trans (if_pos (by rw [List.length_append,hlc,beN_length];omega))) ?_
    simp only [List.append_assoc] at hI ⊢
    exact hI
   simp only [if_neg h1] at hI ⊢
   by_cases h3:c.f0=3
   ·simp only [if_pos h3,be4] at hI ⊢
    exact Ev.congr (fun k => if_pos (by rw [hlc];simp only [List.length_cons,List.length_nil];omega)) hI
   simp only [if_neg h3] at hI ⊢
   by_cases h5:c.f0=5
   ·simp only [if_pos h5] at hI ⊢
    exact refP_Encode.ev_8 p i c R 8 _ (by omega) (by rw [hlc];omega) hI
   simp only [if_neg h5] at hI ⊢
   by_cases h7:c.f0=7
   ·simp only [if_pos h7] at hI ⊢
    exact Ev.congr (fun k => if_pos (by rw [hlc,beN_length];omega)) hI
   simp only [if_neg h7] at hI ⊢
   refine Ev.congr (fun k => (if_pos (by rw [hlc,beN_length];omega)).trans (if_pos (by rw [List.length_append,hlc,beN_length,beN_length];omega))) ?_
   simp only [List.append_assoc] at hI ⊢
   exact hI
  ·exact stop i bs hlt
theorem refP_Encode.ev (p:List Cst) (hp:∀ c ∈ p,FitC c):Ev (fun k => understudyref04_Encode.f k p) (encPV p):=by
 unfold understudyref04_Encode.f encPV
 refine Ev.bind (ref_Check.ev p hp) ?_
 by_cases h:checkV p=0
 ·obtain ⟨h0,hl,hz,h1⟩:=checkV_ok h
  simp only [if_pos h,ref_two.eq,Option.bind_some]
  exact refP_Encode.ev_l hp hl h1 p.length 1 (beN 2 (p.length:Int)) (by omega) (by omega) (by omega) (by rw [beN_length];omega)
 ·simp only [if_neg h]
  exact Ev.now _
end Go.Proofs.YtmloaijagkebpaaDoor.Px
namespace Go.Proofs.YtmloaijagkebpaaDoor.Px
open Go.RowKit Go.Proofs.YtmloaijagkebpaaDoorW.PrintWords Go.Proofs.YtmloaijagkebpaaDoorW.PrintLast Go.Proofs.YtmloaijagkebpaaDoorW.PrintMore
set_option linter.unusedVariables false
set_option linter.unusedSimpArgs false
abbrev poolA:List Cst:=[(⟨0,(⟨#[]⟩:ByteArray),0,0,0⟩:Cst),(⟨1,(⟨#[65]⟩:ByteArray),0,0,0⟩:Cst),(⟨7,(⟨#[]⟩:ByteArray),0,1,0⟩:Cst)]
theorem poolA_fit:∀ c ∈ poolA,FitC c:=by
 intro c hc
 simp only [poolA,List.mem_cons,List.not_mem_nil,or_false] at hc
 rcases hc with rfl|rfl|rfl <;> exact ⟨by decide,by decide⟩
theorem poolA_check:classCheckV poolA 2 2 [] []=0:=by decide +kernel
theorem poolA_name:(classV poolA 2).1=(⟨#[65]⟩:ByteArray):=rfl
theorem class_awake.ev:Ev (fun k => understudylaw05_awake.f k) true:=by
 unfold understudylaw05_awake.f
 refine Ev.bind (Ev.now poolA) ?_
 refine Ev.bind (class_Check.ev poolA (by decide) 2 2 [] [] (by decide) (by decide) (fun f h => by cases h) (fun m h => by cases h) poolA_fit) ?_
 rw [poolA_check]
 refine Ev.congr (fun k => if_pos rfl) ?_
 unfold class_Name.f
 simp only [pool_Class.eq,Option.bind_some,poolA_name]
 have e:((⟨#[65]⟩:ByteArray).toList==([65]:List UInt8))=true:=by
  rw [Lib.toList_data]
  rfl
 rw [e]
 exact Ev.now _
end Go.Proofs.YtmloaijagkebpaaDoor.Px
namespace Go.Proofs.YtmloaijagkebpaaDoor.Px
open Go.RowKit Go.Proofs.YtmloaijagkebpaaDoorW.PrintWords Go.Proofs.YtmloaijagkebpaaDoorW.PrintLast Go.Proofs.YtmloaijagkebpaaDoorW.PrintMore
set_option linter.unusedVariables false
set_option linter.unusedSimpArgs false
theorem refput.ev_l (l:List Int) (hl:l.length≤1048576):∀ (n i:Nat) (b:List Int),l.length≤i + n→b.length + 2 * (l.length - i)≤2097152→Ev (fun k => understudyref05_put.l0 k b l (i:Int)) (b++twosL (l.drop i)):=by
 have stop:∀ (i:Nat) (b:List Int),¬ i < l.length→Ev (fun k => understudyref05_put.l0 k b l (i:Int)) (b++twosL (l.drop i)):=fun i b hi => by
  rw [List.drop_eq_nil_of_le (by omega)]
  show Ev _ (b++[])
  rw [List.append_nil]
  exact Ev.step (f:=fun _ => some b) (fun k => by simp only [understudyref05_put.l0];rw [if_neg (by omega)]) (Ev.now _)
 intro n
 induction n with
 | zero => intro i b h hb;exact stop i b (by omega)
 | succ n ih =>
  intro i b h hb
  by_cases hi:i < l.length
  ·rw [drop_getD (z:=(0:Int)) i hi]
   have e:rd l (i:Int)=l.getD i 0:=by unfold rd;rw [Int.toNat_natCast]
   have hI:=ih (i + 1) (b++beN 2 (l.getD i 0)) (by omega) (by rw [List.length_append,beN_length];omega)
   have hw:wrap64 ((i:Int) + 1)=((i + 1:Nat):Int):=by unfold wrap64;omega
   refine Ev.step (f:=fun k => understudyref05_put.l0 k (b++beN 2 (l.getD i 0)) l ((i + 1:Nat):Int)) (fun k => ?_) ?_
   ·simp only [understudyref05_put.l0,Option.bind_some,e]
    rw [if_pos (by omega),if_pos (by omega),if_pos (by simp only [List.length_cons,List.length_nil];omega),be2,hw]
   ·unfold twosL
    rw [← List.append_assoc]
    exact hI
  ·exact stop i b hi
theorem refput.ev (b l:List Int) (hl:l.length≤1048576) (hb:b.length≤1000000) (h2:b.length + 2 * l.length≤2097152):Ev (fun k => understudyref05_put.f k b l) (b++twosL l):=by
 have h:=refput.ev_l l hl l.length 0 b (by omega) (by omega)
 rw [List.drop_zero] at h
 exact h
theorem refput.five (b:List Int) (hb:b.length≤1000000) {l:List Int} (hl:l.length≤5):Ev (fun k => understudyref05_put.f k b l) (b++twosL l):=refput.ev b l (by omega) hb (by omega)
theorem reffour.eq (b:List Int) (hb:b.length≤1000000) (x:Int):understudyref05_four.f b x=some (b++beN 4 x):=by
 unfold understudyref05_four.f
 rw [Option.bind_some,if_pos (by simp only [List.length_cons,List.length_nil];omega),be4]
theorem refcode.ev_l {p:List Cst} {m:Mth} (hp:p.length≤1024) (h:OkM p m):∀ (n i:Nat) (b:List Int),m.f6.length≤i + n→i≤m.f6.length→b.length≤4200 + 8 * i →
  Ev (fun k => understudyref05_code.l0 k p b (i:Int) m.f0 m.f1 m.f2 m.f3 m.f4 m.f5 m.f6 m.f7) (b++((m.f6.drop i).flatMap trapL++mapsL p m.f7)):=by
 have h4:=h.maps
 have h3:=h.many
 have stop:∀ (i:Nat) (b:List Int),¬ i < m.f6.length→b.length≤5000→Ev (fun k => understudyref05_code.l0 k p b (i:Int) m.f0 m.f1 m.f2 m.f3 m.f4 m.f5 m.f6 m.f7) (b++((m.f6.drop i).flatMap trapL++mapsL p m.f7)):=fun i b hi hb => by
  rw [List.drop_eq_nil_of_le (by omega),List.flatMap_nil,List.nil_append]
  unfold mapsL
  by_cases h0:m.f7.length=0
  ·rw [if_pos h0]
   refine Ev.step (fun k => by simp only [understudyref05_code.l0];rw [if_neg (by omega),if_pos (by omega)]) ?_
   exact Ev.bind (refput.five b (by omega) (by simp)) (Ev.now _)
  ·rw [if_neg h0]
   refine Ev.step (fun k => by simp only [understudyref05_code.l0];rw [if_neg (by omega),if_neg (by omega)]) ?_
   refine Ev.bind (reftext.ev p sMaps (by omega)) ?_
   refine Ev.bind (refput.five b (by omega) (by simp)) ?_
   rw [reffour.eq _ (by rw [List.length_append,twosL_len];simp only [List.length_cons,List.length_nil];omega)]
   refine Ev.congr (fun k => (Option.bind_some _ _).trans (if_pos (by rw [List.length_append,List.length_append,twosL_len,beN_length];simp only [List.length_cons,List.length_nil];omega))) ?_
   have e:b++twosL [1,placeV p sMaps]++beN 4 (m.f7.length:Int)++m.f7=b++(twosL [1,placeV p sMaps]++longL m.f7):=by unfold longL;simp only [List.append_assoc]
   rw [e]
   exact Ev.now _
 intro n
 induction n with
 | zero => intro i b hi hle hb;exact stop i b (by omega) (by omega)
 | succ n ih =>
  intro i b hi hle hb
  by_cases hlt:i < m.f6.length
  ·obtain ⟨t,ht⟩:∃ t,t=rd_T78 m.f6 (i:Int):=⟨_,rfl⟩
   have hd:m.f6.drop i=t :: m.f6.drop (i + 1):=by
    rw [drop_getD (z:=z78) i hlt,ht]
    unfold rd_T78
    rw [Int.toNat_natCast]
   have hw:wrap64 ((i:Int) + 1)=((i + 1:Nat):Int):=by unfold wrap64;omega
   rw [hd,List.flatMap_cons,List.append_assoc,← List.append_assoc b]
   refine Ev.step (fun k => by simp only [understudyref05_code.l0,← ht];rw [if_pos (by omega),if_pos (by omega),hw]) ?_
   refine Ev.bind (refput.five b (by omega) (by simp)) ?_
   exact ih (i + 1) (b++trapL t) (by omega) (by omega) (by rw [List.length_append,trapL_len];omega)
  ·exact stop i b hlt (by omega)
theorem refcode.ev {p:List Cst} {m:Mth} (hp:p.length≤1024) (h:OkM p m):Ev (fun k => understudyref05_code.f k p m.f0 m.f1 m.f2 m.f3 m.f4 m.f5 m.f6 m.f7) (mbodyL p m):=by
 have h5:=h.code
 have h3:=h.many
 unfold understudyref05_code.f
 refine Ev.bind (refput.five [] (by simp) (by simp)) ?_
 rw [reffour.eq _ (by rw [List.length_append,twosL_len];simp only [List.length_cons,List.length_nil];omega)]
 refine Ev.congr (fun k => (Option.bind_some _ _).trans (if_pos (by rw [List.length_append,List.length_append,twosL_len,beN_length];simp only [List.length_cons,List.length_nil];omega))) ?_
 refine Ev.bind (refput.five _ (by rw [List.length_append,List.length_append,List.length_append,twosL_len,beN_length];simp only [List.length_cons,List.length_nil];omega) (by simp)) ?_
 have hl:=refcode.ev_l hp h m.f6.length 0 ([]++twosL [m.f3,m.f4]++beN 4 (m.f5.length:Int)++m.f5++twosL [(m.f6.length:Int)]) (by omega) (by omega) (by rw [List.length_append,List.length_append,List.length_append,List.length_append,twosL_len,twosL_len,beN_length];simp only [List.length_cons,List.length_nil];omega)
 rw [List.drop_zero] at hl
 have e:[]++twosL [m.f3,m.f4]++beN 4 (m.f5.length:Int)++m.f5++twosL [(m.f6.length:Int)]++(m.f6.flatMap trapL++mapsL p m.f7)=mbodyL p m:=by unfold mbodyL longL;simp only [List.append_assoc,List.nil_append]
 rw [e] at hl
 exact hl
theorem refenc.ev_l1 {p:List Cst} (hp:p.length≤1024) (t s:Int) (fs:List Fld) (ms:List Mth) (hm:∀ m ∈ ms,OkM p m) (hml:ms.length≤64):∀ (n i:Nat) (b:List Int),ms.length≤i + n→i≤ms.length→b.length + 8738 * (ms.length - i)≤900000 →
  Ev (fun k => understudyref05_Encode.l1 k b (i:Int) p t s fs ms) (b++((ms.drop i).flatMap (mthL p)++twosL [0]),0):=by
 have stop:∀ (i:Nat) (b:List Int),¬ i < ms.length→b.length≤900000→Ev (fun k => understudyref05_Encode.l1 k b (i:Int) p t s fs ms) (b++((ms.drop i).flatMap (mthL p)++twosL [0]),0):=fun i b hi hb => by
  rw [List.drop_eq_nil_of_le (by omega),List.flatMap_nil,List.nil_append]
  refine Ev.step (fun k => by simp only [understudyref05_Encode.l1];rw [if_neg (by omega)]) ?_
  exact Ev.bind (refput.five b (by omega) (by simp)) (Ev.now _)
 intro n
 induction n with
 | zero => intro i b hi hle hb;exact stop i b (by omega) (by omega)
 | succ n ih =>
  intro i b hi hle hb
  by_cases hlt:i < ms.length
  ·obtain ⟨m,he⟩:∃ m,m=rd_T49 ms (i:Int):=⟨_,rfl⟩
   have hd:ms.drop i=m :: ms.drop (i + 1):=by
    rw [drop_getD (z:=z49) i hlt,he]
    unfold rd_T49
    rw [Int.toNat_natCast]
   have hmm:m ∈ ms:=List.mem_of_mem_drop (hd ▸ List.mem_cons_self:m ∈ ms.drop i)
   have hok:=hm m hmm
   have hbl:=mbodyL_len hok
   have hmt:=mthL_len hok
   have hw:wrap64 ((i:Int) + 1)=((i + 1:Nat):Int):=by unfold wrap64;omega
   have h8:8738 * (ms.length - i)=8738 * (ms.length - (i + 1)) + 8738:=by omega
   rw [hd,List.flatMap_cons,List.append_assoc,← List.append_assoc b]
   refine Ev.step (fun k => by simp only [understudyref05_Encode.l1,← he];rw [if_pos (by omega),if_pos (by omega),hw]) ?_
   refine Ev.bind (refcode.ev hp hok) ?_
   refine Ev.bind (reftext.ev p sCode (by omega)) ?_
   refine Ev.bind (refput.five b (by omega) (by simp)) ?_
   rw [reffour.eq _ (by rw [List.length_append,twosL_len];simp only [List.length_cons,List.length_nil];omega)]
   refine Ev.congr (fun k => (Option.bind_some _ _).trans (if_pos (by rw [List.length_append,List.length_append,twosL_len,beN_length];simp only [List.length_cons,List.length_nil];omega))) ?_
   have e:b++twosL [m.f0,m.f1,m.f2,1,placeV p sCode]++beN 4 ((mbodyL p m).length:Int)++mbodyL p m=b++mthL p m:=by unfold mthL longL;simp only [List.append_assoc]
   rw [e]
   exact ih (i + 1) (b++mthL p m) (by omega) (by omega) (by rw [List.length_append];omega)
  ·exact stop i b hlt (by omega)
theorem refenc.ev_l0 {p:List Cst} (hp:p.length≤1024) (t s:Int) (fs:List Fld) (ms:List Mth) (hm:∀ m ∈ ms,OkM p m) (hml:ms.length≤64) (hfl:fs.length≤64):∀ (n i:Nat) (b:List Int),fs.length≤i + n→i≤fs.length→b.length≤300000 + 8 * i →
  Ev (fun k => understudyref05_Encode.l0 k b (i:Int) p t s fs ms) (b++((fs.drop i).flatMap fldL++(twosL [(ms.length:Int)]++(ms.flatMap (mthL p)++twosL [0]))),0):=by
 have stop:∀ (i:Nat) (b:List Int),¬ i < fs.length→b.length≤301000→Ev (fun k => understudyref05_Encode.l0 k b (i:Int) p t s fs ms) (b++((fs.drop i).flatMap fldL++(twosL [(ms.length:Int)]++(ms.flatMap (mthL p)++twosL [0]))),0):=fun i b hi hb => by
  rw [List.drop_eq_nil_of_le (by omega),List.flatMap_nil,List.nil_append]
  refine Ev.step (fun k => by simp only [understudyref05_Encode.l0];rw [if_neg (by omega)]) ?_
  refine Ev.bind (refput.five b (by omega) (by simp)) ?_
  have h:=refenc.ev_l1 hp t s fs ms hm hml ms.length 0 (b++twosL [(ms.length:Int)]) (by omega) (by omega) (by rw [List.length_append,twosL_len];simp only [List.length_cons,List.length_nil];omega)
  rw [List.drop_zero,List.append_assoc] at h
  exact h
 intro n
 induction n with
 | zero => intro i b hi hle hb;exact stop i b (by omega) (by omega)
 | succ n ih =>
  intro i b hi hle hb
  by_cases hlt:i < fs.length
  ·obtain ⟨f,he⟩:∃ f,f=rd_T46 fs (i:Int):=⟨_,rfl⟩
   have hd:fs.drop i=f :: fs.drop (i + 1):=by
    rw [drop_getD (z:=z46) i hlt,he]
    unfold rd_T46
    rw [Int.toNat_natCast]
   have hw:wrap64 ((i:Int) + 1)=((i + 1:Nat):Int):=by unfold wrap64;omega
   rw [hd,List.flatMap_cons,List.append_assoc,← List.append_assoc b]
   refine Ev.step (fun k => by simp only [understudyref05_Encode.l0,← he];rw [if_pos (by omega),if_pos (by omega),hw]) ?_
   refine Ev.bind (refput.five b (by omega) (by simp)) ?_
   exact ih (i + 1) (b++fldL f) (by omega) (by omega) (by rw [List.length_append,fldL_len];omega)
  ·exact stop i b hlt (by omega)
theorem refenc.ev (p:List Cst) (t s:Int) (fs:List Fld) (ms:List Mth) (hl:p.length≤1048576) (hfl:fs.length≤1048576) (hml:ms.length≤1048576) (hf:∀ f ∈ fs,FitF f) (hm:∀ m ∈ ms,FitM m) (hp:∀ c ∈ p,FitC c):Ev (fun k => understudyref05_Encode.f k p t s fs ms) (encCV p t s fs ms):=by
 unfold understudyref05_Encode.f encCV
 refine Ev.bind (ref05_Check.ev p hl t s fs ms hfl hml hf hm hp) ?_
 by_cases h:classCheckV p t s fs ms=0
 ·have hk:=classCheck_ok h
  have hpl:=(checkV_ok hk.pool).2.1
  have hpo:=poolL_len hk.pool
  simp only [if_pos h,Option.bind_some]
  refine Ev.bind (refP_Encode.ev p hp) ?_
  unfold encPV
  rw [if_pos hk.pool]
  refine Ev.congr (fun k => if_pos (by simp only [List.length_cons,List.length_nil];omega)) ?_
  refine Ev.bind (refput.five _ (by rw [List.length_append];simp only [List.length_cons,List.length_nil];omega) (by simp)) ?_
  have hL:=refenc.ev_l0 hpl t s fs ms hk.m hk.ml hk.fl fs.length 0 ([202,254,186,190,0,0,0,61]++poolL p++twosL [0,t,s,0,(fs.length:Int)]) (by omega) (by omega) (by rw [List.length_append,List.length_append,twosL_len];simp only [List.length_cons,List.length_nil];omega)
  rw [List.drop_zero] at hL
  have e:[202,254,186,190,0,0,0,61]++poolL p++twosL [0,t,s,0,(fs.length:Int)]++(fs.flatMap fldL++(twosL [(ms.length:Int)]++(ms.flatMap (mthL p)++twosL [0])))=classL p t s fs ms:=by
   have e1:beN 4 3405691582=[202,254,186,190]:=by rw [be4];rfl
   have e2:beN 4 61=[0,0,0,61]:=by rw [be4];rfl
   unfold classL
   rw [e1,e2]
   simp only [List.append_assoc,List.cons_append,List.nil_append]
  rw [e] at hL
  exact hL
 ·simp only [if_neg h]
  exact Ev.now _
theorem ClassEncodes_pure (p:List Cst) (t s:Int) (fs:List Fld) (ms:List Mth) (hl:p.length≤1048576) (hfl:fs.length≤1048576) (hml:ms.length≤1048576) (hf:∀ f ∈ fs,FitF f) (hm:∀ m ∈ ms,FitM m) (hp:∀ c ∈ p,FitC c):∃ k,understudylaw05_ClassEncodes.f k p t s fs ms=some true:=by
 refine Ev.rounds ?_
 unfold understudylaw05_ClassEncodes.f
 refine Ev.bind (class_Encode.ev p t s fs ms hl hfl hml hf hm hp) (Ev.bind (refenc.ev p t s fs ms hl hfl hml hf hm hp) ?_)
 refine Ev.congr (fun k => (if_pos rfl).trans (if_pos rfl)) ?_
 exact Ev.bind class_awake.ev (Ev.now _)
end Go.Proofs.YtmloaijagkebpaaDoor.Px
