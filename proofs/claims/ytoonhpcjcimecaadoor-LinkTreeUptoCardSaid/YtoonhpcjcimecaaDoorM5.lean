/- link.Program.members: each field and method once, and right; by hand. -/
/- class.Check comes to 'classCheckV'. -/
/- link.Build in plain words, and what holds of what it makes. -/
/- link.Build: a program, by hand. -/
/- kind.Below: is a class below another one? By hand: a function value that looks into a captured slice. -/
/- What holds of every program that Build makes; Sub as the tree says; slots as the super's and more. -/
/- understudylaw09.LinkTree: the walk of the law, by hand. -/
import Derived.Test.YtoonhpcjcimecaaDoorM4
import Derived.Test.YtoonhpcjcimecaaDoorM3
import Derived.Test.YtoonhpcjcimecaaDoorM1
namespace Go.Proofs.YtoonhpcjcimecaaDoor.Px
open Go.RowKit Go.Maps Go.Proofs.YtoonhpcjcimecaaDoorW.PrintWords Go.Proofs.YtoonhpcjcimecaaDoorW.PrintLast Go.Proofs.YtoonhpcjcimecaaDoorW.PrintMore
set_option linter.unusedVariables false
set_option linter.unusedSimpArgs false
def fieldE (f:Mem):Int:=(FieldV f.f1.data.toList).2
def fieldsG (fs:List Mem):List Mem→Nat→Bool
 | [],_ => true
 | f :: l,i => if fieldE f=0 then (if typedV f.f0=true then (if findV fs f.f0 f.f1=(i:Int) then fieldsG fs l (i + 1) else false) else false) else false
def methT (m:Mem):Me:=kMethV m.f1.data.toList
def rightV (m:Mem):Bool:=if m.f0.toList=sBegin.toList then (!m.f2 && ((methT m).2.1.1==8)) else typedV m.f0
def methsG (ms:List Mem):List Mem→Nat→Bool
 | [],_ => true
 | m :: l,i => if (methT m).2.2=0 then (if rightV m=true then (if findV ms m.f0 m.f1=(i:Int) then methsG ms l (i + 1) else false) else false) else false
def membersG:List Ent→Bool
 | [] => true
 | x :: l => if fieldsG x.fields x.fields 0=true then (if methsG x.methods x.methods 0=true then membersG l else false) else false
def membersV (L:List Ent):Bool:=membersG (L.drop 13)
theorem kind_Method.evS {s:ByteArray} (h:s.size≤4294967280):Ev (fun k => kind_Method.f k s) (mAns (kMethV s.data.toList)):=by
 have:=kind_Method.ev s.data.toList (by have:=BA_size s.data.toList;rw [BA_eta] at this;omega)
 rw [BA_eta] at this
 exact this
theorem infoEntB:∃ i,Tryd.prog.info? 71=some i∧i.size=7:=by
 obtain ⟨i,h1,h2⟩:=Option.map_eq_some_iff.1 infoEnt
 simp only [Prod.mk.injEq] at h2
 exact ⟨i,h1,h2.2.1⟩
set_option maxHeartbeats 32000000 in
set_option maxRecDepth 100000 in
theorem link_members.calls {w:World} {p:Nat} {L:List Ent} (hG:GG w) (hI:IsPC w p L) (hS:SmallL L) (h13:13≤L.length) (hn:L.length≤1048576):Calls Tryd.prog 38 #[pp p] w fun e w' => e=.returned (.bool (membersV L))∧Below w.heap.size w w':=by
 obtain ⟨A,c,m,n,D,hb,hl,hK,hmp,hmo⟩:=hI.ex
 have C0:Aside0 (w.cell? ⟨p,0,none⟩=some (.slice A L.length c)):=⟨(blk_cell hb 0).trans rfl⟩
 obtain ⟨i0,hi0,hi7⟩:=infoEntB
 have hs1:=cut_from (P:=Tryd.prog) 52 71 .i64 Tryd.underlying52 hi0 7 hi7 A L.length c 13 (by decide) (by omega)
 have hK2:=Kd.C_drop (m:=13) hK h13 hl
 obtain ⟨A2,hA2⟩:∃ A2,A2=(if c=13 then A else A.map (·.add (13 * 7))):=⟨_,rfl⟩
 have hK3:Kd.C kEnt w A2 (L.drop 13).length (L.drop 13):=by rw [hA2];exact hK2
 have hs2:∀ W:World,(Instr.slice 52 (.slice A L.length c) (some (.int .i64 13)) none none).run Tryd.prog W=.ok (.slice A2 (L.drop 13).length (c - 13)) W:=by
  intro W
  rw [hs1 W,hA2,List.length_drop]
  rfl
 obtain ⟨M,hM⟩:∃ M,M=L.drop 13:=⟨_,rfl⟩
 have HS:Aside0 (SmallL M):=⟨fun x hx => hS x (by rw [hM] at hx;exact List.mem_of_mem_drop hx)⟩
 have HN:Aside0 (M.length≤1048576):=⟨by rw [hM,List.length_drop];omega⟩
 rw [← hM] at hK3 hs2
 have HG:=Aside0.mk hG
 have HK:=Aside0.mk hK3
 obtain ⟨r,hr⟩:∃ r,r=membersV L:=⟨_,rfl⟩
 rw [← hr]
 unfold membersV at hr
 rw [← hM] at hr
 have HR:=Aside0.mk hr
 clear hG hI hS hn hb hl hK hmp hmo hr h13 hs1 hK2 hA2 hK3 hM hi0 hi7
 go_enter Tryd.func38,Tryd.ntmps38
 go_upto_region 1 with fail
 have HBD:Aside0 (Below w.heap.size w w.drew):=⟨below_drew (Below.refl _ _)⟩
 have d0:=bl_cell HBD.out C0.out
 refine start_ (n:=8) (S:=fun w' => w'.cell? ⟨p,0,none⟩=some (.slice A L.length c)) (ds:=[]) #[false,false,false,false,false,false,false,false] (by kernel_rfl) rfl rfl (d0) (fun hHeld => ?_)
 refine pure_ (i:=0) (N:=some 15) (v:=?_) (a':=?_) #[true,false,false,false,false,false,false,false] rfl rfl (by kernel_rfl) (fun _ _ _ h => h) (Or.inl ⟨by rfl,?_⟩) ?_ ?_
 rotate_left
 ·intro w'
  go_simp
  with_reducible rfl
 rotate_left
 ·simp only [Act.put,List.setIfInBounds_toArray,List.set_cons_zero,List.set_cons_succ,i64_w,i32_w]
  rfl
 refine pure_ (i:=1) (N:=some 16) (v:=?_) (a':=?_) #[true,true,false,false,false,false,false,false] rfl rfl (by kernel_rfl) (fun _ _ _ h => h) (Or.inl ⟨by rfl,?_⟩) ?_ ?_
 rotate_left
 ·intro w'
  go_simp
  with_reducible rfl
 rotate_left
 ·simp only [Act.put,List.setIfInBounds_toArray,List.set_cons_zero,List.set_cons_succ,i64_w,i32_w]
  rfl
 refine pure_ (i:=2) (N:=some 17) (v:=?_) (a':=?_) #[true,true,true,false,false,false,false,false] rfl rfl (by kernel_rfl) (fun _ _ _ h => h) (Or.inl ⟨by rfl,?_⟩) ?_ ?_
 rotate_left
 ·intro w'
  go_simp
  with_reducible rfl
 rotate_left
 ·simp only [Act.put,List.setIfInBounds_toArray,List.set_cons_zero,List.set_cons_succ,i64_w,i32_w]
  rfl
 refine pure_ (i:=7) (N:=some 22) (v:=?_) (a':=?_) #[true,true,true,false,false,false,false,true] rfl rfl (by kernel_rfl) (fun _ _ _ h => h) (Or.inl ⟨by rfl,?_⟩) ?_ ?_
 rotate_left
 ·intro w'
  go_simp
  with_reducible rfl
 rotate_left
 ·simp only [Act.put,List.setIfInBounds_toArray,List.set_cons_zero,List.set_cons_succ,i64_w,i32_w]
  rfl
 refine take_ (i:=3) (N:=some 18) (v:=?_) (a':=?_) #[true,true,true,true,false,false,false,true] rfl rfl (by kernel_rfl) (fun _ _ _ h => h) (Or.inl ⟨by rfl,?_⟩) hHeld ?_ ?_
 rotate_left
 ·intro w' s0
  go_simp
  with_reducible rfl
 rotate_left
 ·simp only [Act.put,List.setIfInBounds_toArray,List.set_cons_zero,List.set_cons_succ,i64_w,i32_w]
  rfl
 refine one_ (i:=4) (N:=some 19) #[true,true,true,true,true,false,false,true] rfl rfl (by kernel_rfl) (by decide) (fun K hK => ?_)
 refine goes_ Tryd.func25 (by kernel_rfl) rfl #[] (by rfl) rfl rfl (by simp) ?_
 refine (link_Built.calls w.drew).mono ?_
 rintro _ w1 ⟨rfl,hb1⟩
 refine ⟨_,rfl,?_⟩
 have HB:=Aside0.mk (HBD.out.trans (hb1.mono HBD.out.size))
 clear hb1
 have e0:=bl_cell HB.out C0.out
 refine hK.out _ _ (e0) (fun hHeld => ?_)
 clear hK K
 refine norm_ (a':=?_) ?_ ?_
 rotate_left
 ·show Act.put _ (some 19) _=_
  simp only [Act.put,List.setIfInBounds_toArray,List.set_cons_zero,List.set_cons_succ,i64_w,i32_w]
  rfl
 refine pure_ (i:=5) (N:=some 20) (v:=?_) (a':=?_) #[true,true,true,true,true,true,false,true] rfl rfl (by kernel_rfl) (fun _ _ _ h => h) (Or.inl ⟨by rfl,?_⟩) ?_ ?_
 rotate_left
 ·intro w'
  go_simp
  with_reducible rfl
 rotate_left
 ·simp only [Act.put,List.setIfInBounds_toArray,List.set_cons_zero,List.set_cons_succ,i64_w,i32_w]
  rfl
 refine pure_ (i:=6) (N:=some 21) (v:=?_) (a':=?_) #[true,true,true,true,true,true,true,true] rfl rfl (by kernel_rfl) (fun _ _ _ h => h) (Or.inl ⟨by rfl,?_⟩) ?_ ?_
 rotate_left
 ·intro w'
  go_simp
  with_reducible rfl
 rotate_left
 ·simp only [Act.put,List.setIfInBounds_toArray,List.set_cons_zero,List.set_cons_succ,i64_w,i32_w]
  rfl
 refine done_ (by kernel_rfl) ?_
 clear hHeld d0 e0 HBD hs2
 go_wp2_with fail
 go_loopw [22] (fun v22 wr => ∃ i:Nat,v22=.int .i64 (i:Int)∧Aside0 (i≤M.length)∧Aside0 (r=membersG (M.drop i))∧Aside0 (Below w.heap.size w wr)) (fun v22 _ => ((M.length:Int) - intOf v22).toNat)
 case atStart => exact ⟨0,rfl,⟨Nat.zero_le _⟩,⟨HR.out⟩,HB⟩
 case round =>
  clear HR HB
  obtain ⟨i,rfl,HI,HR,HB⟩:=hrel
  by_cases hx:(i:Int) < (M.length:Int)
  case neg =>
   have hpx:decide ((i:Int) < (M.length:Int))=false:=decide_eq_false hx
   have hpn:¬ i < M.length:=by omega
   have hr:=HR.out
   rw [List.drop_eq_nil_of_le (by omega)] at hr
   subst hr
   clear hx HR
   go_wp2
   go_ret
   exact ⟨rfl,HB.out⟩
  have hpx:decide ((i:Int) < (M.length:Int))=true:=decide_eq_true hx
  have hpn:i < M.length:=by omega
  have HX:=Aside0.mk hpn
  obtain ⟨x,hxx⟩:∃ x,M[i]?=some x:=⟨M[i],List.getElem?_eq_getElem hpn⟩
  have HSX:=Aside0.mk (HS.out x (List.mem_of_getElem? hxx))
  have hr:=HR.out
  rw [List.drop_eq_getElem_cons hpn,Option.some.inj ((List.getElem?_eq_getElem hpn).symm.trans hxx)] at hr
  unfold membersG at hr
  have p1:0≤(i:Int):=by omega
  obtain ⟨ad,s,A3,c3,A4,c4,e1,hE⟩:=at_Ent HK.out (i:Int) p1 hx
  subst e1
  rw [rd_Ent_eq hxx,Int.toNat_natCast] at hE
  obtain ⟨T,sw,rfl⟩:=kSrc_iface hE.ks
  have HE:=Aside0.mk hE
  have x0:=hb_ HB hE.e0
  have x1:=hb_ HB hE.e1
  have x2:=hb_ HB hE.e2
  have x3:=hb_ HB hE.e3
  have x4:=hb_ HB hE.e4
  have x5:=hb_ HB hE.e5
  have x6:=hb_ HB hE.e6
  replace p1:=eq_true p1
  replace hx:=eq_true hx
  have HRR:=Aside0.mk hr
  clear hE hxx HR hr
  go_upto_region 4 with ((with_reducible refine gate_dst (N:=4) rfl ?_);refine box_event ?hg (N:=4) ?hd (cs:=ZEnt) (t:=71) ?hr ?_;(case hd => rfl);(case hg => rfl);(case hr => first|(go_simp;done)|(go_simp;rfl));intro b4 hg w6 hbox hb;have BKb4:=Aside0.mk hbox;have BLb4:=Aside0.mk hb;have Gb4:=Aside0.mk (show wr.heap.size≤b4 by rw [hg];exact Nat.le_refl _);clear hb hbox hg;obtain ⟨z0,z1,z2,z3,z4,z5,z6,y0,y1,y2,y3,y4,y5,y6⟩:=blk7_ BKb4.out)
  obtain ⟨W6,hW6⟩:∃ W6,W6=(((((((w6.setCell ⟨b4,0,none⟩ (.iface T sw)).setCell ⟨b4,1,none⟩ (.string x.name)).setCell ⟨b4,2,none⟩ (.int .i64 x.super)).setCell ⟨b4,3,none⟩ (.slice A3 x.fields.length c3)).setCell ⟨b4,4,none⟩ (.slice A4 x.methods.length c4)).setCell ⟨b4,5,none⟩ (.int .i64 x.slots)).setCell ⟨b4,6,none⟩ (.int .i64 x.statics)):=⟨_,rfl⟩
  rw [← hW6]
  have K4:Aside0 (W6.heap[b4]?=some (.cells #[.iface T sw,.string x.name,.int .i64 x.super,.slice A3 x.fields.length c3,.slice A4 x.methods.length c4,.int .i64 x.slots,.int .i64 x.statics] 71 (0,0))):=⟨by rw [hW6];exact st7_ BKb4.out⟩
  have HB6:Aside0 (Below w.heap.size w W6):=⟨HB.out.trans ((show Below wr.heap.size wr W6 by rw [hW6];exact be7_ BLb4.out Gb4.out _ _ _ _ _ _ _).mono HB.out.size)⟩
  have f3:W6.cell? ⟨b4,3,none⟩=some (.slice A3 x.fields.length c3):=(blk_cell K4.out 3).trans rfl
  clear hW6 BKb4 BLb4 Gb4 x0 x1 x2 x3 x4 x5 x6 z0 z1 z2 z3 z4 z5 z6 y0 y1 y2 y3 y4 y5 y6 HB
  go_wp2_with fail
  clear f3
  go_loopw [29] (fun v29 wf => ∃ j:Nat,v29=.int .i64 (j:Int)∧Aside0 (j≤x.fields.length)∧Aside0 (r=if fieldsG x.fields (x.fields.drop j) j=true then (if methsG x.methods x.methods 0=true then membersG (M.drop (i + 1)) else false) else false)∧Aside0 (Below W6.heap.size W6 wf)) (fun v29 _ => ((x.fields.length:Int) - intOf v29).toNat)
  case atStart => exact ⟨0,rfl,⟨Nat.zero_le _⟩,⟨HRR.out⟩,⟨Below.refl _ _⟩⟩
  case round =>
   clear HRR
   obtain ⟨j,rfl,HJ,HRJ,HBJ⟩:=hrel
   have K4j:=Aside0.mk ((HBJ.out.block _ (blk_lt K4.out)).trans K4.out)
   have HBW:Aside0 (Below w.heap.size w wr):=⟨HB6.out.trans (HBJ.out.mono HB6.out.size)⟩
   by_cases hy:(j:Int) < (x.fields.length:Int)
   case pos =>
    have hpy:decide ((j:Int) < (x.fields.length:Int))=true:=decide_eq_true hy
    have hpn:j < x.fields.length:=by omega
    have HY:=Aside0.mk hpn
    obtain ⟨f,hff⟩:∃ f,x.fields[j]?=some f:=⟨x.fields[j],List.getElem?_eq_getElem hpn⟩
    have HSF:=Aside0.mk (HSX.out.fs f (List.mem_of_getElem? hff))
    have hr:=HRJ.out
    rw [List.drop_eq_getElem_cons hpn,Option.some.inj ((List.getElem?_eq_getElem hpn).symm.trans hff)] at hr
    unfold fieldsG at hr
    have p2:0≤(j:Int):=by omega
    obtain ⟨af,e2,y0',y1',y2'⟩:=at_T86 HE.out.g3 (j:Int) p2 hy
    subst e2
    rw [rd_mem x.fields j hpn,Option.some.inj ((List.getElem?_eq_getElem hpn).symm.trans hff),Int.toNat_natCast] at y0' y1' y2'
    have q0:=hb_ HBW y0'
    have q1:=hb_ HBW y1'
    have q2:=hb_ HBW y2'
    replace p2:=eq_true p2
    replace hy:=eq_true hy
    have HRF:=Aside0.mk hr
    clear hff HRJ hr y0' y1' y2'
    go_upto_region 7 with ((with_reducible refine gate_dst (N:=6) rfl ?_);refine box_event ?hg (N:=6) ?hd (cs:=ZMem) (t:=86) ?hr ?_;(case hd => rfl);(case hg => rfl);(case hr => first|(go_simp;done)|(go_simp;rfl));intro b6 hg w7 hbox hb;have BKb6:=Aside0.mk hbox;have BLb6:=Aside0.mk hb;have Gb6:=Aside0.mk (show wr.heap.size≤b6 by rw [hg];exact Nat.le_refl _);clear hb hbox hg;obtain ⟨z0,z1,z2,y0,y1,y2⟩:=blk3_ BKb6.out)
    obtain ⟨W7,hW7⟩:∃ W7,W7=(((w7.setCell ⟨b6,0,none⟩ (.string f.f0)).setCell ⟨b6,1,none⟩ (.string f.f1)).setCell ⟨b6,2,none⟩ (.bool f.f2)):=⟨_,rfl⟩
    rw [← hW7]
    have K6:Aside0 (W7.heap[b6]?=some (.cells #[.string f.f0,.string f.f1,.bool f.f2] 86 (0,0))):=⟨by rw [hW7];exact st3_ BKb6.out⟩
    have hbb:Below wr.heap.size wr W7:=by rw [hW7];exact be3_ BLb6.out Gb6.out _ _ _
    have HJ7:Aside0 (Below W6.heap.size W6 W7):=⟨HBJ.out.trans (hbb.mono HBJ.out.size)⟩
    clear hW7 BKb6 BLb6 Gb6 q0 q1 q2 z0 z1 z2 y0 y1 y2 hbb HBJ K4j HBW
    have f1:W7.cell? ⟨b6,1,none⟩=some (.string f.f1):=(blk_cell K6.out 1).trans rfl
    obtain ⟨kf,hkf⟩:=(kind_Field.evS (s:=f.f1) (by have:=HSF.out.2;omega)).rounds
    have HKF:=Aside0.mk hkf
    clear hkf
    go_wp2_with fail
    refine (kind_Field.calls kf f.f1 _ _ _ _ _ _ W7 ⟨HG.out.below (HB6.out.trans (HJ7.out.mono HB6.out.size))⟩ HKF.out).mono ?_
    clear HKF f1
    rintro _ w8 ⟨rfl,hb8⟩
    have HJ8:Aside0 (Below W6.heap.size W6 w8):=⟨HJ7.out.trans (hb8.mono HJ7.out.size)⟩
    have K68:=Aside0.mk ((hb8.block _ (blk_lt K6.out)).trans K6.out)
    clear hb8 HJ7 K6
    go_upto_region 8 with ((with_reducible refine gate_dst (N:=7) rfl ?_);refine box_event ?hg (N:=7) ?hd (cs:=#[.int .i64 0,.string (⟨#[]⟩:ByteArray),.int .i64 0,.int .i64 0,.int .i64 0]) (t:=78) ?hr ?_;(case hd => rfl);(case hg => rfl);(case hr => first|(go_simp;done)|(go_simp;rfl));intro b7 hg w9 hbox hb;have BKb7:=Aside0.mk hbox;have BLb7:=Aside0.mk hb;have Gb7:=Aside0.mk (show w8.heap.size≤b7 by rw [hg];exact Nat.le_refl _);clear hb hbox hg;obtain ⟨z0,z1,z2,z3,z4,y0,y1,y2,y3,y4⟩:=blk5_ BKb7.out)
    obtain ⟨W9,hW9⟩:∃ W9,W9=(((((w9.setCell ⟨b7,0,none⟩ (.int .i64 (FieldV f.f1.data.toList).1.1)).setCell ⟨b7,1,none⟩ (.string (FieldV f.f1.data.toList).1.2.1)).setCell ⟨b7,2,none⟩ (.int .i64 (FieldV f.f1.data.toList).1.2.2.1)).setCell ⟨b7,3,none⟩ (.int .i64 (FieldV f.f1.data.toList).1.2.2.2.1)).setCell ⟨b7,4,none⟩ (.int .i64 (FieldV f.f1.data.toList).1.2.2.2.2)):=⟨_,rfl⟩
    rw [← hW9]
    have hbb:Below w8.heap.size w8 W9:=by rw [hW9];exact below_set (below_set (be3_ BLb7.out Gb7.out _ _ _) Gb7.out) Gb7.out
    have HJ9:Aside0 (Below W6.heap.size W6 W9):=⟨HJ8.out.trans (hbb.mono HJ8.out.size)⟩
    have K69:=Aside0.mk ((hbb.block _ (blk_lt K68.out)).trans K68.out)
    have K49:=Aside0.mk ((HJ9.out.block _ (blk_lt K4.out)).trans K4.out)
    clear hW9 BKb7 BLb7 Gb7 z0 z1 z2 z3 z4 y0 y1 y2 y3 y4 hbb HJ8 K68
    have g0:W9.cell? ⟨b6,0,none⟩=some (.string f.f0):=(blk_cell K69.out 0).trans rfl
    have hr:=HRF.out
    by_cases he:fieldE f=0
    case neg =>
     rw [if_neg he] at hr
     have hr2:r=false:=by rw [hr];rfl
     subst hr2
     have heb:((FieldV f.f1.data.toList).2 != 0)=true:=bne_iff_ne.mpr he
     clear HRF hr he
     go_wp2
     go_ret
     exact ⟨rfl,(HB6.out.trans (HJ9.out.mono HB6.out.size))⟩
    rw [if_pos he] at hr
    have heb:((FieldV f.f1.data.toList).2 != 0)=false:=bne_eq_false_iff_eq.mpr he
    have HR2:=Aside0.mk hr
    clear HRF hr he
    obtain ⟨kt,hkt⟩:=(typed.ev f.f0 (by have:=HSF.out.1;omega)).rounds
    have HT:=Aside0.mk hkt
    clear hkt
    go_wp2_with fail
    refine (link_typed.calls kt f.f0 _ W9 ⟨HG.out.below (HB6.out.trans (HJ9.out.mono HB6.out.size))⟩ HT.out).mono ?_
    rintro _ w10 ⟨rfl,hbt⟩
    have HJ10:Aside0 (Below W6.heap.size W6 w10):=⟨HJ9.out.trans (hbt.mono HJ9.out.size)⟩
    have K610:=Aside0.mk ((hbt.block _ (blk_lt K69.out)).trans K69.out)
    clear hbt HT
    have K410:=Aside0.mk ((HJ10.out.block _ (blk_lt K4.out)).trans K4.out)
    clear g0 K69 K49
    have hr:=HR2.out
    cases ht:typedV f.f0 with
    | false =>
     rw [ht] at hr
     have hr2:r=false:=by rw [hr];rfl
     subst hr2
     clear HR2 hr
     go_wp2
     go_ret
     exact ⟨rfl,(HB6.out.trans (HJ10.out.mono HB6.out.size))⟩
    | true =>
     rw [ht,if_pos rfl] at hr
     have HR3:=Aside0.mk hr
     clear HR2 hr
     have g0:w10.cell? ⟨b6,0,none⟩=some (.string f.f0):=(blk_cell K610.out 0).trans rfl
     have g1:w10.cell? ⟨b6,1,none⟩=some (.string f.f1):=(blk_cell K610.out 1).trans rfl
     have g3:w10.cell? ⟨b4,3,none⟩=some (.slice (some af) x.fields.length c3):=(blk_cell K410.out 3).trans rfl
     obtain ⟨kn,hkn⟩:=(find.ev x.fields HSX.out.fl f.f0 f.f1).rounds
     have HN2:=Aside0.mk hkn
     clear hkn
     go_wp2_with fail
     refine (link_find.calls kn (some af) c3 x.fields f.f0 f.f1 _ w10 (Kd.C_below HE.out.g3 (HB6.out.trans (HJ10.out.mono HB6.out.size))) HE.out.l3 HN2.out).mono ?_
     rintro _ w11 ⟨rfl,hbt⟩
     have HJ11:Aside0 (Below W6.heap.size W6 w11):=⟨HJ10.out.trans (hbt.mono HJ10.out.size)⟩
     clear hbt HN2
     clear g0 g1 g3
     have hr:=HR3.out
     by_cases hq:findV x.fields f.f0 f.f1=(j:Int)
     case neg =>
      rw [if_neg hq] at hr
      have hr2:r=false:=by rw [hr];rfl
      subst hr2
      have hqb:(findV x.fields f.f0 f.f1 != (j:Int))=true:=bne_iff_ne.mpr hq
      clear HR3 hr hq
      go_wp2
      go_ret
      exact ⟨rfl,(HB6.out.trans (HJ11.out.mono HB6.out.size))⟩
     rw [if_pos hq] at hr
     have hqb:(findV x.fields f.f0 f.f1 != (j:Int))=false:=bne_eq_false_iff_eq.mpr hq
     have HR4:=Aside0.mk hr
     clear HR3 hr hq
     go_wp2
     go_roundw
     case measure => rw [intOf_i64,intOf_i64];exact fewerN HY.out HSX.out.fl
     case rel => exact ⟨j + 1,congrArg (Value.int .i64) (wrapS HY.out HSX.out.fl),⟨HY.out⟩,HR4,HJ11⟩
   case neg =>
    have hpy:decide ((j:Int) < (x.fields.length:Int))=false:=decide_eq_false hy
    have hpn:¬ j < x.fields.length:=by omega
    have hr:=HRJ.out
    rw [List.drop_eq_nil_of_le (by omega)] at hr
    have hr1:r=(if methsG x.methods x.methods 0=true then membersG (M.drop (i + 1)) else false):=hr
    have HRM:=Aside0.mk hr1
    clear hy hr hr1 HRJ HJ
    have f4:wr.cell? ⟨b4,4,none⟩=some (.slice A4 x.methods.length c4):=(blk_cell K4j.out 4).trans rfl
    go_wp2_with fail
    clear f4 K4j HBW hpn hpy
    go_loopw [63] (fun v63 wf => ∃ j:Nat,v63=.int .i64 (j:Int)∧Aside0 (j≤x.methods.length)∧Aside0 (r=if methsG x.methods (x.methods.drop j) j=true then membersG (M.drop (i + 1)) else false)∧Aside0 (Below W6.heap.size W6 wf)) (fun v63 _ => ((x.methods.length:Int) - intOf v63).toNat)
    case atStart => exact ⟨0,rfl,⟨Nat.zero_le _⟩,⟨HRM.out⟩,HBJ⟩
    case round =>
     clear HRM HBJ
     obtain ⟨j,rfl,HJ,HRJ,HBJ⟩:=hrel
     have K4j:=Aside0.mk ((HBJ.out.block _ (blk_lt K4.out)).trans K4.out)
     have HBW:Aside0 (Below w.heap.size w wr):=⟨HB6.out.trans (HBJ.out.mono HB6.out.size)⟩
     by_cases hy:(j:Int) < (x.methods.length:Int)
     case neg =>
      have hpy:decide ((j:Int) < (x.methods.length:Int))=false:=decide_eq_false hy
      have hpn:¬ j < x.methods.length:=by omega
      have hr:=HRJ.out
      rw [List.drop_eq_nil_of_le (by omega)] at hr
      have hr1:r=membersG (M.drop (i + 1)):=hr
      have HRM:=Aside0.mk hr1
      clear hy hr hr1 HRJ HJ
      go_wp2
      go_roundw
      case measure => rw [intOf_i64,intOf_i64];exact fewerN HX.out HN.out
      case rel => exact ⟨i + 1,congrArg (Value.int .i64) (wrapS HX.out HN.out),⟨HX.out⟩,HRM,HBW⟩
     case pos =>
      have hpy:decide ((j:Int) < (x.methods.length:Int))=true:=decide_eq_true hy
      have hpn:j < x.methods.length:=by omega
      have HY:=Aside0.mk hpn
      obtain ⟨f,hff⟩:∃ f,x.methods[j]?=some f:=⟨x.methods[j],List.getElem?_eq_getElem hpn⟩
      have HSF:=Aside0.mk (HSX.out.ms f (List.mem_of_getElem? hff))
      have hr:=HRJ.out
      rw [List.drop_eq_getElem_cons hpn,Option.some.inj ((List.getElem?_eq_getElem hpn).symm.trans hff)] at hr
      unfold methsG at hr
      have p2:0≤(j:Int):=by omega
      obtain ⟨af,e2,y0',y1',y2'⟩:=at_T86 HE.out.g4 (j:Int) p2 hy
      subst e2
      rw [rd_mem x.methods j hpn,Option.some.inj ((List.getElem?_eq_getElem hpn).symm.trans hff),Int.toNat_natCast] at y0' y1' y2'
      have q0:=hb_ HBW y0'
      have q1:=hb_ HBW y1'
      have q2:=hb_ HBW y2'
      replace p2:=eq_true p2
      replace hy:=eq_true hy
      have HRF:=Aside0.mk hr
      clear hff HRJ hr y0' y1' y2'
      go_upto_region 14 with ((with_reducible refine gate_dst (N:=10) rfl ?_);refine box_event ?hg (N:=10) ?hd (cs:=ZMem) (t:=86) ?hr ?_;(case hd => rfl);(case hg => rfl);(case hr => first|(go_simp;done)|(go_simp;rfl));intro b6 hg w7 hbox hb;have BKb6:=Aside0.mk hbox;have BLb6:=Aside0.mk hb;have Gb6:=Aside0.mk (show wr.heap.size≤b6 by rw [hg];exact Nat.le_refl _);clear hb hbox hg;obtain ⟨z0,z1,z2,y0,y1,y2⟩:=blk3_ BKb6.out)
      obtain ⟨W7,hW7⟩:∃ W7,W7=(((w7.setCell ⟨b6,0,none⟩ (.string f.f0)).setCell ⟨b6,1,none⟩ (.string f.f1)).setCell ⟨b6,2,none⟩ (.bool f.f2)):=⟨_,rfl⟩
      rw [← hW7]
      have K6:Aside0 (W7.heap[b6]?=some (.cells #[.string f.f0,.string f.f1,.bool f.f2] 86 (0,0))):=⟨by rw [hW7];exact st3_ BKb6.out⟩
      have hbb:Below wr.heap.size wr W7:=by rw [hW7];exact be3_ BLb6.out Gb6.out _ _ _
      have HJ7:Aside0 (Below W6.heap.size W6 W7):=⟨HBJ.out.trans (hbb.mono HBJ.out.size)⟩
      clear hW7 BKb6 BLb6 Gb6 q0 q1 q2 z0 z1 z2 y0 y1 y2 hbb HBJ K4j HBW
      have f1:W7.cell? ⟨b6,1,none⟩=some (.string f.f1):=(blk_cell K6.out 1).trans rfl
      obtain ⟨kf,hkf⟩:=(kind_Method.evS (s:=f.f1) (by have:=HSF.out.2;omega)).rounds
      have HKF:=Aside0.mk hkf
      clear hkf
      go_wp2_with fail
      refine (kind_Method.calls kf f.f1 _ _ _ _ _ _ _ W7 ⟨HG.out.below (HB6.out.trans (HJ7.out.mono HB6.out.size))⟩ HKF.out).mono ?_
      clear HKF f1
      rintro _ w8 ⟨vl,rfl,_,hb8⟩
      have HJ8:Aside0 (Below W6.heap.size W6 w8):=⟨HJ7.out.trans (hb8.mono HJ7.out.size)⟩
      have K68:=Aside0.mk ((hb8.block _ (blk_lt K6.out)).trans K6.out)
      clear hb8 HJ7 K6
      go_upto_region 15 with ((with_reducible refine gate_dst (N:=12) rfl ?_);refine box_event ?hg (N:=12) ?hd (cs:=#[.int .i64 0,.string (⟨#[]⟩:ByteArray),.int .i64 0,.int .i64 0,.int .i64 0]) (t:=78) ?hr ?_;(case hd => rfl);(case hg => rfl);(case hr => first|(go_simp;done)|(go_simp;rfl));intro b7 hg w9 hbox hb;have BKb7:=Aside0.mk hbox;have BLb7:=Aside0.mk hb;have Gb7:=Aside0.mk (show w8.heap.size≤b7 by rw [hg];exact Nat.le_refl _);clear hb hbox hg;obtain ⟨z0,z1,z2,z3,z4,y0,y1,y2,y3,y4⟩:=blk5_ BKb7.out)
      obtain ⟨W9,hW9⟩:∃ W9,W9=(((((w9.setCell ⟨b7,0,none⟩ (.int .i64 (kMethV f.f1.data.toList).2.1.1)).setCell ⟨b7,1,none⟩ (.string (kMethV f.f1.data.toList).2.1.2.1)).setCell ⟨b7,2,none⟩ (.int .i64 (kMethV f.f1.data.toList).2.1.2.2.1)).setCell ⟨b7,3,none⟩ (.int .i64 (kMethV f.f1.data.toList).2.1.2.2.2.1)).setCell ⟨b7,4,none⟩ (.int .i64 (kMethV f.f1.data.toList).2.1.2.2.2.2)):=⟨_,rfl⟩
      rw [← hW9]
      have hbb:Below w8.heap.size w8 W9:=by rw [hW9];exact below_set (below_set (be3_ BLb7.out Gb7.out _ _ _) Gb7.out) Gb7.out
      have HJ9:Aside0 (Below W6.heap.size W6 W9):=⟨HJ8.out.trans (hbb.mono HJ8.out.size)⟩
      have K69:=Aside0.mk ((hbb.block _ (blk_lt K68.out)).trans K68.out)
      have K49:=Aside0.mk ((HJ9.out.block _ (blk_lt K4.out)).trans K4.out)
      have K79:Aside0 (W9.heap[b7]?=some (.cells #[.int .i64 (kMethV f.f1.data.toList).2.1.1,.string (kMethV f.f1.data.toList).2.1.2.1,.int .i64 (kMethV f.f1.data.toList).2.1.2.2.1,.int .i64 (kMethV f.f1.data.toList).2.1.2.2.2.1,.int .i64 (kMethV f.f1.data.toList).2.1.2.2.2.2] 78 (0,0))):=⟨by rw [hW9];exact st5_ BKb7.out⟩
      clear hW9 BKb7 BLb7 Gb7 z0 z1 z2 z3 z4 y0 y1 y2 y3 y4 hbb HJ8 K68
      have g0:W9.cell? ⟨b6,0,none⟩=some (.string f.f0):=(blk_cell K69.out 0).trans rfl
      obtain ⟨kt,hkt⟩:=(typed.ev f.f0 (by have:=HSF.out.1;omega)).rounds
      have HT:=Aside0.mk hkt
      clear hkt
      go_wp2_with fail
      refine (link_typed.calls kt f.f0 _ W9 ⟨HG.out.below (HB6.out.trans (HJ9.out.mono HB6.out.size))⟩ HT.out).mono ?_
      rintro _ w10 ⟨rfl,hbt⟩
      have HJ10:Aside0 (Below W6.heap.size W6 w10):=⟨HJ9.out.trans (hbt.mono HJ9.out.size)⟩
      have K610:=Aside0.mk ((hbt.block _ (blk_lt K69.out)).trans K69.out)
      have K710:=Aside0.mk ((hbt.block _ (blk_lt K79.out)).trans K79.out)
      clear hbt HT
      have K410:=Aside0.mk ((HJ10.out.block _ (blk_lt K4.out)).trans K4.out)
      clear g0 K69 K49 K79
      have sb:sBegin.toList=([60,105,110,105,116,62]:List UInt8):=by rw [Lib.toList_data]
      have g0:w10.cell? ⟨b6,0,none⟩=some (.string f.f0):=(blk_cell K610.out 0).trans rfl
      have g1:w10.cell? ⟨b6,1,none⟩=some (.string f.f1):=(blk_cell K610.out 1).trans rfl
      have g2:w10.cell? ⟨b6,2,none⟩=some (.bool f.f2):=(blk_cell K610.out 2).trans rfl
      have g4:w10.cell? ⟨b4,4,none⟩=some (.slice (some af) x.methods.length c4):=(blk_cell K410.out 4).trans rfl
      have g7:w10.cell? ⟨b7,0,none⟩=some (.int .i64 (kMethV f.f1.data.toList).2.1.1):=(blk_cell K710.out 0).trans rfl
      have hr:=HRF.out
      by_cases he:(methT f).2.2=0
      case neg =>
       rw [if_neg he] at hr
       have hr2:r=false:=by rw [hr];rfl
       subst hr2
       have heb:((kMethV f.f1.data.toList).2.2 != 0)=true:=bne_iff_ne.mpr he
       clear HRF hr he
       by_cases hbg:f.f0.toList=sBegin.toList
       ·have hqa:(f.f0.toList==sBegin.toList)=true:=beq_iff_eq.mpr hbg
        have hqc:(f.f0.toList==([60,105,110,105,116,62]:List UInt8))=true:=by rw [← sb];exact hqa
        clear hbg
        cases hst:f.f2 with
        | true =>
         rw [hst] at g2
         go_wp2
         go_ret
         exact ⟨rfl,(HB6.out.trans (HJ10.out.mono HB6.out.size))⟩
        | false =>
         rw [hst] at g2
         go_wp2
         go_ret
         exact ⟨rfl,(HB6.out.trans (HJ10.out.mono HB6.out.size))⟩
       ·have hqa:(f.f0.toList==sBegin.toList)=false:=beq_eq_false_iff_ne.mpr hbg
        have hqc:(f.f0.toList==([60,105,110,105,116,62]:List UInt8))=false:=by rw [← sb];exact hqa
        clear hbg
        go_wp2
        go_ret
        exact ⟨rfl,(HB6.out.trans (HJ10.out.mono HB6.out.size))⟩
      rw [if_pos he] at hr
      have heb:((kMethV f.f1.data.toList).2.2 != 0)=false:=bne_eq_false_iff_eq.mpr he
      have HRV:=Aside0.mk hr
      clear HRF hr he
      by_cases hbg:f.f0.toList=sBegin.toList
      ·have hqa:(f.f0.toList==sBegin.toList)=true:=beq_iff_eq.mpr hbg
       have hqc:(f.f0.toList==([60,105,110,105,116,62]:List UInt8))=true:=by rw [← sb];exact hqa
       have hrv:rightV f=(!f.f2 && ((kMethV f.f1.data.toList).2.1.1==8)):=if_pos hbg
       clear hbg
       cases hst:f.f2 with
       | true =>
        rw [hst] at g2
        rw [hst] at hrv
        have hr:=HRV.out
        rw [hrv] at hr
        have hr2:r=false:=by rw [hr];rfl
        subst hr2
        clear HRV hr hrv
        go_wp2
        go_ret
        exact ⟨rfl,(HB6.out.trans (HJ10.out.mono HB6.out.size))⟩
       | false =>
        rw [hst] at g2
        rw [hst] at hrv
        cases hk8:((kMethV f.f1.data.toList).2.1.1==8) with
        | false =>
         rw [hk8] at hrv
         have hr:=HRV.out
         rw [hrv] at hr
         have hr2:r=false:=by rw [hr];rfl
         subst hr2
         clear HRV hr hrv
         go_wp2
         go_ret
         exact ⟨rfl,(HB6.out.trans (HJ10.out.mono HB6.out.size))⟩
        | true =>
         rw [hk8] at hrv
         have hr:=HRV.out
         rw [hrv] at hr
         have hr1:r=(if (if findV x.methods f.f0 f.f1=(j:Int) then methsG x.methods (x.methods.drop (j + 1)) (j + 1) else false)=true then membersG (M.drop (i + 1)) else false):=hr
         have HR2:=Aside0.mk hr1
         clear HRV hr hr1 hrv
         obtain ⟨kn,hkn⟩:=(find.ev x.methods HSX.out.ml f.f0 f.f1).rounds
         have HN2:=Aside0.mk hkn
         clear hkn
         go_wp2_with fail
         refine (link_find.calls kn (some af) c4 x.methods f.f0 f.f1 _ w10 (Kd.C_below HE.out.g4 (HB6.out.trans (HJ10.out.mono HB6.out.size))) HE.out.l4 HN2.out).mono ?_
         rintro _ w11 ⟨rfl,hbt⟩
         have HJ11:Aside0 (Below W6.heap.size W6 w11):=⟨HJ10.out.trans (hbt.mono HJ10.out.size)⟩
         clear hbt HN2
         clear g0 g1 g2 g4 g7
         have hr:=HR2.out
         by_cases hq:findV x.methods f.f0 f.f1=(j:Int)
         case neg =>
          rw [if_neg hq] at hr
          have hr2:r=false:=by rw [hr];rfl
          subst hr2
          have hqb:(findV x.methods f.f0 f.f1 != (j:Int))=true:=bne_iff_ne.mpr hq
          clear HR2 hr hq
          go_wp2
          go_ret
          exact ⟨rfl,(HB6.out.trans (HJ11.out.mono HB6.out.size))⟩
         rw [if_pos hq] at hr
         have hqb:(findV x.methods f.f0 f.f1 != (j:Int))=false:=bne_eq_false_iff_eq.mpr hq
         have HR4:=Aside0.mk hr
         clear HR2 hr hq
         go_wp2
         go_roundw
         case measure => rw [intOf_i64,intOf_i64];exact fewerN HY.out HSX.out.ml
         case rel => exact ⟨j + 1,congrArg (Value.int .i64) (wrapS HY.out HSX.out.ml),⟨HY.out⟩,HR4,HJ11⟩
      ·have hqa:(f.f0.toList==sBegin.toList)=false:=beq_eq_false_iff_ne.mpr hbg
       have hqc:(f.f0.toList==([60,105,110,105,116,62]:List UInt8))=false:=by rw [← sb];exact hqa
       have hrv:rightV f=typedV f.f0:=if_neg hbg
       clear hbg
       cases ht:typedV f.f0 with
       | false =>
        rw [ht] at hrv
        have hr:=HRV.out
        rw [hrv] at hr
        have hr2:r=false:=by rw [hr];rfl
        subst hr2
        clear HRV hr hrv
        go_wp2
        go_ret
        exact ⟨rfl,(HB6.out.trans (HJ10.out.mono HB6.out.size))⟩
       | true =>
        rw [ht] at hrv
        have hr:=HRV.out
        rw [hrv] at hr
        have hr1:r=(if (if findV x.methods f.f0 f.f1=(j:Int) then methsG x.methods (x.methods.drop (j + 1)) (j + 1) else false)=true then membersG (M.drop (i + 1)) else false):=hr
        have HR2:=Aside0.mk hr1
        clear HRV hr hr1 hrv
        obtain ⟨kn,hkn⟩:=(find.ev x.methods HSX.out.ml f.f0 f.f1).rounds
        have HN2:=Aside0.mk hkn
        clear hkn
        go_wp2_with fail
        refine (link_find.calls kn (some af) c4 x.methods f.f0 f.f1 _ w10 (Kd.C_below HE.out.g4 (HB6.out.trans (HJ10.out.mono HB6.out.size))) HE.out.l4 HN2.out).mono ?_
        rintro _ w11 ⟨rfl,hbt⟩
        have HJ11:Aside0 (Below W6.heap.size W6 w11):=⟨HJ10.out.trans (hbt.mono HJ10.out.size)⟩
        clear hbt HN2
        clear g0 g1 g2 g4 g7
        have hr:=HR2.out
        by_cases hq:findV x.methods f.f0 f.f1=(j:Int)
        case neg =>
         rw [if_neg hq] at hr
         have hr2:r=false:=by rw [hr];rfl
         subst hr2
         have hqb:(findV x.methods f.f0 f.f1 != (j:Int))=true:=bne_iff_ne.mpr hq
         clear HR2 hr hq
         go_wp2
         go_ret
         exact ⟨rfl,(HB6.out.trans (HJ11.out.mono HB6.out.size))⟩
        rw [if_pos hq] at hr
        have hqb:(findV x.methods f.f0 f.f1 != (j:Int))=false:=bne_eq_false_iff_eq.mpr hq
        have HR4:=Aside0.mk hr
        clear HR2 hr hq
        go_wp2
        go_roundw
        case measure => rw [intOf_i64,intOf_i64];exact fewerN HY.out HSX.out.ml
        case rel => exact ⟨j + 1,congrArg (Value.int .i64) (wrapS HY.out HSX.out.ml),⟨HY.out⟩,HR4,HJ11⟩
end Go.Proofs.YtoonhpcjcimecaaDoor.Px
namespace Go.Proofs.YtoonhpcjcimecaaDoor.Px
open Go.RowKit Go.Proofs.YtoonhpcjcimecaaDoorW.PrintWords Go.Proofs.YtoonhpcjcimecaaDoorW.PrintLast Go.Proofs.YtoonhpcjcimecaaDoorW.PrintMore
set_option linter.unusedVariables false
set_option linter.unusedSimpArgs false
def FitM (m:Mth):Prop:=(Lit.int .i64 m.f0).wf=true∧m.f5.length≤1048576∧m.f6.length≤1048576∧m.f7.length≤1048576
def FitF (f:Fld):Prop:=(Lit.int .i64 f.f0).wf=true
theorem rest.ev (p:List Cst) (hl:p.length≤1048576) (m0 m1 m2 m3 m4:Int) (n mn:Nat) (hw:(Lit.int .i64 m0).wf=true) (hn:n≤1048576) (hm:mn≤1048576) :
  Ev (fun k => (class_flags.f m0).bind fun t151 => (if t151=true then ((class_rules_text.f k p (([m1,m2]:List Int))).bind fun t155 => (if t155=true then ((class_within.f m3 64).bind fun t156 => (if t156=true then ((class_within.f m4 64).bind fun t157 => (if t157=true then ((class_within.f (wrap64 ((n:Int) - 1)) 4095).bind fun t158 => (if t158=true then (if (mn:Int)≤4096 then ((class_place.f k p (⟨#[67,111,100,101]⟩:ByteArray)).bind fun t159 => (if t159 > 0 then (if (mn:Int)=0 then (some true) else ((class_place.f k p (⟨#[83,116,97,99,107,77,97,112,84,97,98,108,101]⟩:ByteArray)).bind fun t160 => (some (decide (t160 > 0))))) else (some false))) else (some false)) else (some false))) else (some false))) else (some false))) else (some false))) else (some false))) (restV p m0 m1 m2 m3 m4 n mn):=by
 simp only [flags.eq _ hw,within.eq,Option.bind_some]
 have hwn:wrap64 ((n:Int) - 1)=(n:Int) - 1:=w64 (by omega) (by omega)
 rw [hwn]
 have no:∀ {x:Bool},x=false→Ev (fun _ => some false) x:=fun h => h ▸ Ev.now _
 by_cases a:flagsV m0=true
 ·refine Ev.congr (fun k => if_pos a) (Ev.bind (rules_text.ev2 p m1 m2) ?_)
  by_cases b:(txt p m1 && txt p m2)=true
  ·refine Ev.congr (fun k => if_pos b) ?_
   by_cases c:decide (0≤m3∧m3≤64)=true
   ·refine Ev.congr (fun k => if_pos c) ?_
    by_cases d:decide (0≤m4∧m4≤64)=true
    ·refine Ev.congr (fun k => if_pos d) ?_
     by_cases e:decide (0≤(n:Int) - 1∧(n:Int) - 1≤4095)=true
     ·have e2:decide (1≤n∧n≤4096)=true:=by rw [decide_eq_true_eq] at e ⊢;omega
      refine Ev.congr (fun k => if_pos e) ?_
      by_cases f:(mn:Int)≤4096
      ·have f2:decide (mn≤4096)=true:=decide_eq_true (by omega)
       refine Ev.congr (fun k => if_pos f) (Ev.bind (place.ev p _ hl) ?_)
       by_cases g:placeV p sCode > 0
       ·refine Ev.congr (fun k => if_pos g) ?_
        by_cases h:(mn:Int)=0
        ·have h2:decide (mn=0)=true:=decide_eq_true (by omega)
         refine Ev.congr (fun k => if_pos h) ?_
         have:restV p m0 m1 m2 m3 m4 n mn=true:=by unfold restV;rw [a,b,c,d,e2,f2,h2,decide_eq_true g];rfl
         rw [this];exact Ev.now _
        ·have h2:decide (mn=0)=false:=decide_eq_false (by omega)
         refine Ev.congr (fun k => if_neg h) (Ev.bind (place.ev p _ hl) ?_)
         have:restV p m0 m1 m2 m3 m4 n mn=decide (placeV p sMaps > 0):=by unfold restV;rw [a,b,c,d,e2,f2,h2,decide_eq_true g];rfl
         rw [this];exact Ev.now _
       ·exact Ev.congr (fun k => if_neg g) (no (by unfold restV;rw [decide_eq_false g];simp))
      ·exact Ev.congr (fun k => if_neg f) (no (by unfold restV;rw [decide_eq_false (show ¬ mn≤4096 by omega)];simp))
     ·exact Ev.congr (fun k => if_neg e) (no (by unfold restV;rw [decide_eq_false (show ¬ (1≤n∧n≤4096) by rw [decide_eq_true_eq] at e;omega)];simp))
    ·exact Ev.congr (fun k => if_neg d) (no (by unfold restV;rw [Bool.eq_false_iff.2 d];simp))
   ·exact Ev.congr (fun k => if_neg c) (no (by unfold restV;rw [Bool.eq_false_iff.2 c];simp))
  ·exact Ev.congr (fun k => if_neg b) (no (by unfold restV;rw [Bool.eq_false_iff.2 b];simp))
 ·exact Ev.congr (fun k => if_neg a) (no (by unfold restV;rw [Bool.eq_false_iff.2 a];simp))
section
variable (p:List Cst) (hl:p.length≤1048576) (m:Mth) (hm:FitM m)
include hl hm
theorem meth.ev_l:∀ d (i:Nat),m.f6.length≤i + d→Ev (fun k => class_rules_method.l0 k (m.f5.length:Int) m.f6 (m.f6.length:Int) (i:Int) p m.f0 m.f1 m.f2 m.f3 m.f4 m.f5 m.f6 m.f7) ((m.f6.drop i).all (trapV p m.f5.length) && restV p m.f0 m.f1 m.f2 m.f3 m.f4 m.f5.length m.f7.length):=by
 obtain ⟨hw,h5,h6,h7⟩:=hm
 have stop:∀ i:Nat,¬ i < m.f6.length→Ev (fun k => class_rules_method.l0 k (m.f5.length:Int) m.f6 (m.f6.length:Int) (i:Int) p m.f0 m.f1 m.f2 m.f3 m.f4 m.f5 m.f6 m.f7) ((m.f6.drop i).all (trapV p m.f5.length) && restV p m.f0 m.f1 m.f2 m.f3 m.f4 m.f5.length m.f7.length):=fun i hi => by
  rw [List.drop_eq_nil_of_le (by omega),List.all_nil,Bool.true_and]
  exact Ev.step (fun k => by simp only [class_rules_method.l0];rw [if_neg (by omega)]) (rest.ev p hl m.f0 m.f1 m.f2 m.f3 m.f4 m.f5.length m.f7.length hw h5 h7)
 intro d
 induction d with
 | zero => intro i h;exact stop i (by omega)
 | succ d ih =>
  intro i h
  by_cases hi:i < m.f6.length
  ·obtain ⟨t,ht⟩:∃ t,t=rd_T120 m.f6 (i:Int):=⟨_,rfl⟩
   have hd:m.f6.drop i=t :: m.f6.drop (i + 1):=by
    rw [drop_getD (z:=z120) i hi,ht]
    unfold rd_T120
    rw [Int.toNat_natCast]
   have j1:∀ b:Bool,Ev (fun k => class_rules_method.j1 k (m.f5.length:Int) m.f6 (m.f6.length:Int) (i:Int) b p m.f0 m.f1 m.f2 m.f3 m.f4 m.f5 m.f6 m.f7) (!b && ((m.f6.drop (i + 1)).all (trapV p m.f5.length) && restV p m.f0 m.f1 m.f2 m.f3 m.f4 m.f5.length m.f7.length)):=by
    intro b
    cases b with
    | true => exact Ev.step (f:=fun _ => some false) (fun k => by simp only [class_rules_method.j1];rw [if_pos trivial]) (Ev.now _)
    | false =>
     rw [Bool.not_false,Bool.true_and]
     refine Ev.step (fun k => ?_) (ih (i + 1) (by omega))
     simp only [class_rules_method.j1]
     rw [if_neg (by simp),w64 (by omega) (by omega)]
     rfl
   have hwn:wrap64 ((m.f5.length:Int) - 1)=(m.f5.length:Int) - 1:=w64 (by omega) (by omega)
   have pre:(i:Int) < (m.f6.length:Int):=by omega
   have pre0:(0:Int)≤(i:Int):=by omega
   rw [hd,List.all_cons,Bool.and_assoc]
   have bad:trapV p m.f5.length t=false→(∀ k,class_rules_method.l0 (k + 1) (m.f5.length:Int) m.f6 (m.f6.length:Int) (i:Int) p m.f0 m.f1 m.f2 m.f3 m.f4 m.f5 m.f6 m.f7=class_rules_method.j1 k (m.f5.length:Int) m.f6 (m.f6.length:Int) (i:Int) true p m.f0 m.f1 m.f2 m.f3 m.f4 m.f5 m.f6 m.f7)→Ev (fun k => class_rules_method.l0 k (m.f5.length:Int) m.f6 (m.f6.length:Int) (i:Int) p m.f0 m.f1 m.f2 m.f3 m.f4 m.f5 m.f6 m.f7) (trapV p m.f5.length t && ((m.f6.drop (i + 1)).all (trapV p m.f5.length) && restV p m.f0 m.f1 m.f2 m.f3 m.f4 m.f5.length m.f7.length)):=by
    intro e hk
    rw [e,Bool.false_and]
    exact Ev.step hk (j1 true)
   by_cases c1:t.f0 < 0
   ·exact bad (by unfold trapV;rw [if_pos c1]) (fun k => by simp only [class_rules_method.l0,← ht];rw [if_pos pre,if_pos pre0,if_pos pre,if_pos c1])
   by_cases c2:t.f0 ≥ t.f1
   ·exact bad (by unfold trapV;rw [if_neg c1,if_pos c2]) (fun k => by simp only [class_rules_method.l0,← ht];rw [if_pos pre,if_pos pre0,if_pos pre,if_neg c1,if_pos c2])
   by_cases c3:t.f1 > (m.f5.length:Int)
   ·exact bad (by unfold trapV;rw [if_neg c1,if_neg c2,if_pos c3]) (fun k => by simp only [class_rules_method.l0,← ht];rw [if_pos pre,if_pos pre0,if_pos pre,if_neg c1,if_neg c2,if_pos c3])
   by_cases c4:t.f2 < 0 ∨ t.f2 ≥ (m.f5.length:Int)
   ·refine bad (by unfold trapV;rw [if_neg c1,if_neg c2,if_neg c3,if_pos c4]) (fun k => ?_)
    simp only [class_rules_method.l0,← ht,within.eq,Option.bind_some,hwn]
    rw [if_pos pre,if_pos pre0,if_pos pre,if_neg c1,if_neg c2,if_neg c3,if_neg (by rw [decide_eq_true_eq];omega)]
   have c4b:decide (0≤t.f2∧t.f2≤(m.f5.length:Int) - 1)=true:=decide_eq_true (by omega)
   by_cases c5:t.f3=0
   ·have e:trapV p m.f5.length t=true:=by unfold trapV;rw [if_neg c1,if_neg c2,if_neg c3,if_neg c4,if_pos c5]
    rw [e]
    refine Ev.step (fun k => ?_) (j1 false)
    simp only [class_rules_method.l0,← ht,within.eq,Option.bind_some,hwn]
    rw [if_pos pre,if_pos pre0,if_pos pre,if_neg c1,if_neg c2,if_neg c3,if_pos c4b,if_pos c5]
   ·have e:trapV p m.f5.length t=cl p t.f3:=by unfold trapV;rw [if_neg c1,if_neg c2,if_neg c3,if_neg c4,if_neg c5]
    rw [e]
    have hj:=j1 (!(cl p t.f3))
    rw [Bool.not_not] at hj
    refine Ev.step (f:=fun k => (class_rules_class.f k p [t.f3]).bind fun t150 => class_rules_method.j1 k (m.f5.length:Int) m.f6 (m.f6.length:Int) (i:Int) (!t150) p m.f0 m.f1 m.f2 m.f3 m.f4 m.f5 m.f6 m.f7) (fun k => ?_) (Ev.bind (rules_class.ev1 p t.f3) hj)
    simp only [class_rules_method.l0,← ht,within.eq,Option.bind_some,hwn]
    rw [if_pos pre,if_pos pre0,if_pos pre,if_neg c1,if_neg c2,if_neg c3,if_pos c4b,if_neg c5]
  ·exact stop i hi
theorem meth.ev:Ev (fun k => class_rules_method.f k p m.f0 m.f1 m.f2 m.f3 m.f4 m.f5 m.f6 m.f7) (methV p m):=meth.ev_l p hl m hm m.f6.length 0 (by omega)
end
section
variable (p:List Cst) (hl:p.length≤1048576) (this super:Int) (fs:List Fld) (ms:List Mth) (hfl:fs.length≤1048576) (hml:ms.length≤1048576) (hf:∀ f ∈ fs,FitF f) (hm:∀ m ∈ ms,FitM m)
include hl hfl hml hf hm
theorem cc.ev_l2:∀ d (i:Nat) (b:Bool),ms.length≤i + d→Ev (fun k => class_Check.l2 k b ms (ms.length:Int) (i:Int) p) (fineV (b && (ms.drop i).all (methV p))):=by
 have _u:=And.intro hfl hf
 have stop:∀ (i:Nat) (b:Bool),¬ i < ms.length→Ev (fun k => class_Check.l2 k b ms (ms.length:Int) (i:Int) p) (fineV (b && (ms.drop i).all (methV p))):=fun i b hi => by
  rw [List.drop_eq_nil_of_le (by omega),List.all_nil,Bool.and_true]
  refine Ev.step (f:=fun _ => some (fineV b)) (fun k => ?_) (Ev.now _)
  simp only [class_Check.l2]
  rw [if_neg (by omega)]
  cases b <;> rfl
 intro d
 induction d with
 | zero => intro i b h;exact stop i b (by omega)
 | succ d ih =>
  intro i b h
  by_cases hi:i < ms.length
  ·obtain ⟨m,he⟩:∃ m,m=rd_T97 ms (i:Int):=⟨_,rfl⟩
   have hd:ms.drop i=m :: ms.drop (i + 1):=by
    rw [drop_getD (z:=z97) i hi,he]
    unfold rd_T97
    rw [Int.toNat_natCast]
   have hmm:m ∈ ms:=List.mem_of_mem_drop (hd ▸ List.mem_cons_self:m ∈ ms.drop i)
   rw [hd,List.all_cons]
   cases b with
   | true =>
    refine Ev.step (f:=fun k => (class_rules_method.f k p m.f0 m.f1 m.f2 m.f3 m.f4 m.f5 m.f6 m.f7).bind fun t179 => class_Check.l2 k t179 ms (ms.length:Int) ((i + 1:Nat):Int) p) (fun k => ?_) (Ev.bind (meth.ev p hl m (hm m hmm)) ?_)
    ·simp only [class_Check.l2,← he]
     rw [if_pos (by omega),if_pos (by omega),if_pos (by omega),if_pos trivial,w64 (by omega) (by omega)]
     rfl
    ·have:=ih (i + 1) (methV p m) (by omega)
     rw [Bool.true_and]
     exact this
   | false =>
    refine Ev.step (f:=fun k => class_Check.l2 k false ms (ms.length:Int) ((i + 1:Nat):Int) p) (fun k => ?_) ?_
    ·simp only [class_Check.l2]
     rw [if_pos (by omega),if_pos (by omega),if_pos (by omega),if_neg (by simp),w64 (by omega) (by omega)]
     rfl
    ·have:=ih (i + 1) false (by omega)
     rw [Bool.false_and] at this ⊢
     exact this
  ·exact stop i b hi
theorem cc.ev_l1:∀ d (i:Nat) (b:Bool),fs.length≤i + d→Ev (fun k => class_Check.l1 k b fs (fs.length:Int) (i:Int) p this super fs ms p) (fineV (b && (fs.drop i).all (fieldV p) && ms.all (methV p))):=by
 have stop:∀ (i:Nat) (b:Bool),¬ i < fs.length→Ev (fun k => class_Check.l1 k b fs (fs.length:Int) (i:Int) p this super fs ms p) (fineV (b && (fs.drop i).all (fieldV p) && ms.all (methV p))):=fun i b hi => by
  rw [List.drop_eq_nil_of_le (by omega),List.all_nil,Bool.and_true]
  have h2:=cc.ev_l2 p hl fs ms hfl hml hf hm ms.length 0 b (by omega)
  exact Ev.step (fun k => by simp only [class_Check.l1];rw [if_neg (by omega)];rfl) h2
 intro d
 induction d with
 | zero => intro i b h;exact stop i b (by omega)
 | succ d ih =>
  intro i b h
  by_cases hi:i < fs.length
  ·obtain ⟨f,he⟩:∃ f,f=rd_T102 fs (i:Int):=⟨_,rfl⟩
   have hd:fs.drop i=f :: fs.drop (i + 1):=by
    rw [drop_getD (z:=z102) i hi,he]
    unfold rd_T102
    rw [Int.toNat_natCast]
   have hff:f ∈ fs:=List.mem_of_mem_drop (hd ▸ List.mem_cons_self:f ∈ fs.drop i)
   rw [hd,List.all_cons]
   have goF:∀ k,class_Check.l1 (k + 1) false fs (fs.length:Int) (i:Int) p this super fs ms p=class_Check.l1 k false fs (fs.length:Int) ((i + 1:Nat):Int) p this super fs ms p:=fun k => by
    simp only [class_Check.l1]
    rw [if_pos (by omega),if_pos (by omega),if_pos (by omega),if_neg (by simp),w64 (by omega) (by omega)]
    rfl
   cases b with
   | true =>
    rw [Bool.true_and]
    by_cases hfl2:flagsV f.f0=true
    ·refine Ev.step (f:=fun k => (class_rules_text.f k p [f.f1,f.f2]).bind fun t176 => class_Check.l1 k t176 fs (fs.length:Int) ((i + 1:Nat):Int) p this super fs ms p) (fun k => ?_) (Ev.bind (rules_text.ev2 p f.f1 f.f2) ?_)
     ·simp only [class_Check.l1,← he,flags.eq _ (hf f hff),Option.bind_some]
      rw [if_pos (by omega),if_pos (by omega),if_pos (by omega),if_pos trivial,if_pos hfl2,w64 (by omega) (by omega)]
      rfl
     ·have:=ih (i + 1) (txt p f.f1 && txt p f.f2) (by omega)
      have e:fieldV p f=(txt p f.f1 && txt p f.f2):=by unfold fieldV;rw [hfl2,Bool.true_and]
      rw [e]
      exact this
    ·refine Ev.step (f:=fun k => class_Check.l1 k false fs (fs.length:Int) ((i + 1:Nat):Int) p this super fs ms p) (fun k => ?_) ?_
     ·simp only [class_Check.l1,← he,flags.eq _ (hf f hff),Option.bind_some]
      rw [if_pos (by omega),if_pos (by omega),if_pos (by omega),if_pos trivial,if_neg hfl2,w64 (by omega) (by omega)]
      rfl
     ·have:=ih (i + 1) false (by omega)
      have e:fieldV p f=false:=by unfold fieldV;rw [Bool.eq_false_iff.2 hfl2,Bool.false_and]
      rw [Bool.false_and] at this
      rw [e,Bool.false_and]
      exact this
   | false =>
    refine Ev.step goF ?_
    have:=ih (i + 1) false (by omega)
    rw [Bool.false_and] at this ⊢
    exact this
  ·exact stop i b hi
theorem cc.ev_l0:∀ d (i:Nat) (x:Int),ms.length≤i + d→Ev (fun k => class_Check.l0 k x ms (ms.length:Int) (i:Int) p this super fs ms) (if longV x (ms.drop i)=true then 2 else fineV ((cl p this && cl p super) && fs.all (fieldV p) && ms.all (methV p))):=by
 have stop:∀ (i:Nat) (x:Int),¬ i < ms.length→Ev (fun k => class_Check.l0 k x ms (ms.length:Int) (i:Int) p this super fs ms) (if longV x (ms.drop i)=true then 2 else fineV ((cl p this && cl p super) && fs.all (fieldV p) && ms.all (methV p))):=fun i x hi => by
  rw [List.drop_eq_nil_of_le (by omega)]
  unfold longV
  rw [List.any_nil,Bool.or_false]
  by_cases hx:x > 64
  ·rw [decide_eq_true hx,if_pos rfl]
   exact Ev.step (f:=fun _ => some 2) (fun k => by simp only [class_Check.l0];rw [if_neg (by omega),if_pos hx]) (Ev.now _)
  ·rw [decide_eq_false hx,if_neg (by simp)]
   refine Ev.step (f:=fun k => (class_rules_class.f k p [this,super]).bind fun t169 => class_Check.l1 k t169 fs (fs.length:Int) ((0:Nat):Int) p this super fs ms p) (fun k => by simp only [class_Check.l0];rw [if_neg (by omega),if_neg hx];rfl) (Ev.bind (rules_class.ev2 p this super) ?_)
   have:=cc.ev_l1 p hl this super fs ms hfl hml hf hm fs.length 0 (cl p this && cl p super) (by omega)
   rw [List.drop_zero] at this
   exact this
 intro d
 induction d with
 | zero => intro i x h;exact stop i x (by omega)
 | succ d ih =>
  intro i x h
  by_cases hi:i < ms.length
  ·obtain ⟨m,he⟩:∃ m,m=rd_T97 ms (i:Int):=⟨_,rfl⟩
   have hd:ms.drop i=m :: ms.drop (i + 1):=by
    rw [drop_getD (z:=z97) i hi,he]
    unfold rd_T97
    rw [Int.toNat_natCast]
   have e:longV x (ms.drop i)=longV (mx x (m.f6.length:Int)) (ms.drop (i + 1)):=by
    unfold longV
    rw [hd,List.any_cons,← Bool.or_assoc]
    congr 1
    rw [Bool.eq_iff_iff]
    simp only [Bool.or_eq_true,decide_eq_true_eq]
    unfold mx
    split <;> omega
   rw [e]
   refine Ev.step (fun k => ?_) (ih (i + 1) (mx x (m.f6.length:Int)) (by omega))
   simp only [class_Check.l0,← he]
   rw [if_pos (by omega),if_pos (by omega),if_pos (by omega),w64 (by omega) (by omega)]
   rfl
  ·exact stop i x hi
theorem class_Check.ev (hp:∀ c ∈ p,FitC c):Ev (fun k => class_Check.f k p this super fs ms) (classCheckV p this super fs ms):=by
 unfold class_Check.f classCheckV
 refine Ev.bind (pool_Check.ev p hp) ?_
 by_cases h:checkV p=0
 ·rw [if_pos h]
  refine Ev.congr (fun k => if_pos h) ?_
  have:=cc.ev_l0 p hl this super fs ms hfl hml hf hm ms.length 0 (mx (fs.length:Int) (ms.length:Int)) (by omega)
  rw [List.drop_zero] at this
  exact this
 ·rw [if_neg h]
  exact Ev.congr (fun k => if_neg h) (Ev.now _)
end
end Go.Proofs.YtoonhpcjcimecaaDoor.Px
namespace Go.Proofs.YtoonhpcjcimecaaDoor.Px
open Go.RowKit Go.Maps Go.Proofs.YtoonhpcjcimecaaDoorW.PrintWords Go.Proofs.YtoonhpcjcimecaaDoorW.PrintLast Go.Proofs.YtoonhpcjcimecaaDoorW.PrintMore
set_option linter.unusedVariables false
set_option linter.unusedSimpArgs false
def checkC (c:Cl):Int:=classCheckV c.f0 c.f1 c.f2 c.f3 c.f4
def checksV:List Cl→Int
 | [] => 0
 | c :: l => if checkC c=0 then checksV l else checkC c
def l0V (l:List Cl):List Ent:=(builtV++l.map (fun c => (.inr c:Src))).map entOf
def depL (L:List Ent):Nat→Int→Nat
 | 0,_ => 0
 | k + 1,n => if n > 0 then depL L k (rd_Ent L n).super + 1 else 0
def dOf (L:List Ent) (n:Int):Nat:=depL L (L.length + 1) n
theorem depL_le (L:List Ent):∀ (k:Nat) (n:Int),depL L k n≤k
 | 0,_ => Nat.le_refl 0
 | k + 1,n => by
  simp only [depL]
  split
  ·exact Nat.succ_le_succ (depL_le L k _)
  ·exact Nat.zero_le _
theorem dOf_le {L:List Ent} (h:L.length≤1048575) (n:Int):dOf L n≤1048576:=Nat.le_trans (depL_le L _ n) (by omega)
theorem down_dep {L:List Ent}:∀ (k:Nat) (n:Int),down0 L k n=true→∀ j,k≤j→depL L j n=depL L k n
 | 0,n,h,j,_ => by
  have hn:¬ n > 0:=of_decide_eq_true h
  cases j with
  | zero => rfl
  | succ j => exact if_neg hn
 | k + 1,n,h,j,hj => by
  obtain ⟨i,rfl⟩:∃ i,j=i + 1:=⟨j - 1,by omega⟩
  simp only [depL]
  by_cases hn:n > 0
  ·simp only [down0] at h
   rw [if_pos hn] at h
   rw [if_pos hn,if_pos hn,down_dep k _ h i (by omega)]
  ·rw [if_neg hn,if_neg hn]
theorem allDown_at {L:List Ent} (h:allDown L 0=true) {a:Int} (h0:0≤a) (h1:a < (L.length:Int)):down0 L (L.length + 1) a=true:=by
 unfold allDown at h
 rw [List.all_eq_true] at h
 have:=h a.toNat (by rw [List.mem_range'_1];omega)
 rw [Int.toNat_of_nonneg h0] at this
 exact this
theorem chain_of {L:List Ent} (hl:L.length≤1048575) (hR:InR L) (hz:(rd_Ent L 0).super=-1) (hA:allDown L 0=true):Chain L (dOf L):=by
 refine ⟨by omega,fun a h0 h1 => ⟨(hR a h0 h1).1,(hR a h0 h1).2,fun hs => ?_⟩⟩
 by_cases ha:a > 0
 ·have hd:=allDown_at hA h0 h1
  simp only [down0] at hd
  rw [if_pos ha] at hd
  have e1:dOf L a=depL L L.length (rd_Ent L a).super + 1:=if_pos ha
  have e2:dOf L (rd_Ent L a).super=depL L L.length (rd_Ent L a).super:=down_dep _ _ hd _ (by omega)
  omega
 ·obtain rfl:a=0:=by omega
  rw [hz] at hs
  omega
theorem idxN_lt {ns:List ByteArray} {s:ByteArray} {u:Nat} (h:idxN ns s=some u):u < ns.length:=by
 unfold idxN at h
 exact (List.findIdx?_eq_some_iff_getElem.mp h).1
theorem sup1_range {ns:List ByteArray} {L0:List Ent} (hs:∀ x ∈ L0,x.super=-1) (hns:ns.length=L0.length):∀ (i:Nat) (L:List Ent),sup1 ns L0 i=some L→L.length=L0.length∧(∀ x ∈ L,-1≤x.super∧x.super < (L0.length:Int))∧L[0]?=L0[0]?:=by
 intro i
 induction i with
 | zero =>
  intro L h
  obtain rfl:=Option.some.inj h
  exact ⟨rfl,fun x hx => by rw [hs x hx];exact ⟨Int.le_refl _,by omega⟩,rfl⟩
 | succ i ih =>
  intro L h
  simp only [sup1] at h
  obtain ⟨L1,h1,h⟩:=Option.bind_eq_some_iff.mp h
  obtain ⟨a1,a2,a3⟩:=ih L1 h1
  cases hx:L0[i]? with
  | none =>
   rw [hx] at h
   obtain rfl:=Option.some.inj h
   exact ⟨a1,a2,a3⟩
  | some x =>
   rw [hx] at h
   simp only [] at h
   by_cases h0:i=0
   ·rw [if_pos h0] at h
    obtain rfl:=Option.some.inj h
    exact ⟨a1,a2,a3⟩
   ·rw [if_neg h0] at h
    cases hu:idxN ns (ownV x.src).2 with
    | none => rw [hu] at h;cases h
    | some u =>
     rw [hu] at h
     simp only [] at h
     have hlt:=idxN_lt hu
     split at h
     ·cases h
     ·obtain rfl:=Option.some.inj h
      refine ⟨by unfold setS;rw [List.length_set];exact a1,fun y hy => ?_,by unfold setS;rw [List.getElem?_set_ne h0];exact a3⟩
      unfold setS at hy
      rcases List.mem_or_eq_of_mem_set hy with hy|rfl
      ·exact a2 y hy
      ·exact ⟨show (-1:Int)≤(u:Int) by omega,show (u:Int) < _ by omega⟩
theorem entOf_super {ss:List Src}:∀ x ∈ ss.map entOf,x.super=-1:=by
 intro x hx
 obtain ⟨s,_,rfl⟩:=List.mem_map.mp hx
 rfl
theorem tops_inR {L0:List Ent} (hs:∀ x ∈ L0,x.super=-1):∀ L,sup1 (L0.map (·.name)) L0 L0.length=some L→InR L:=by
 intro L h a h0 h1
 obtain ⟨a1,a2,_⟩:=sup1_range hs (List.length_map ..) _ L h
 have:=a2 _ (rd_Ent_in L a h0 h1)
 rw [← a1] at this
 exact this
theorem tops_facts {L0 L:List Ent} (hs:∀ x ∈ L0,x.super=-1) (hl:L0.length≤1048575) (h1:0 < L0.length) (h:topsV (L0.map (·.name)) L0=some L):Chain L (dOf L)∧UpSt L0 L L0.length∧L.length=L0.length∧allDown L 0=true∧InR L∧(rd_Ent L 0).super=-1:=by
 unfold topsV at h
 obtain ⟨L1,hL,h⟩:=Option.bind_eq_some_iff.mp h
 split at h
 ·rename_i hA
  obtain rfl:=Option.some.inj h
  obtain ⟨a1,a2,a3⟩:=sup1_range hs (List.length_map ..) _ L1 hL
  have hz:(rd_Ent L1 0).super=-1:=by
   unfold rd_Ent
   rw [List.getD_eq_getElem?_getD,show (0:Int).toNat=0 from rfl,a3,List.getElem?_eq_getElem h1]
   exact hs _ (List.getElem_mem _)
  exact ⟨chain_of (by omega) (tops_inR hs L1 hL) hz hA,sup1_st _ _ hL,a1,hA,tops_inR hs L1 hL,hz⟩
 ·cases h
def core (x:Ent):Ent:={ x with slots:=0,statics:=0 }
theorem core_name {x y:Ent} (h:core x=core y):x.name=y.name:=by
 have:=congrArg (fun z:Ent => z.name) h
 exact this
theorem core_super {x y:Ent} (h:core x=core y):x.super=y.super:=by
 have:=congrArg (fun z:Ent => z.super) h
 exact this
theorem core_fields {x y:Ent} (h:core x=core y):x.fields=y.fields:=by
 have:=congrArg (fun z:Ent => z.fields) h
 exact this
theorem core_methods {x y:Ent} (h:core x=core y):x.methods=y.methods:=by
 have:=congrArg (fun z:Ent => z.methods) h
 exact this
def SameE (L M:List Ent):Prop:=M.map core=L.map core
theorem SameE.len {L M:List Ent} (h:SameE L M):M.length=L.length:=by
 have:=congrArg List.length h
 rwa [List.length_map,List.length_map] at this
theorem SameE.rd {L M:List Ent} (h:SameE L M) (a:Int):core (rd_Ent M a)=core (rd_Ent L a):=by
 have e:∀ K:List Ent,core (rd_Ent K a)=(K.map core).getD a.toNat (core zEnt):=fun K => by
  unfold rd_Ent
  rw [List.getD_eq_getElem?_getD,List.getD_eq_getElem?_getD,List.getElem?_map]
  cases K[a.toNat]? <;> rfl
 rw [e,e,h]
theorem SameE.super {L M:List Ent} (h:SameE L M) (a:Int):(rd_Ent M a).super=(rd_Ent L a).super:=core_super (h.rd a)
theorem SameE.fields {L M:List Ent} (h:SameE L M) (a:Int):(rd_Ent M a).fields=(rd_Ent L a).fields:=core_fields (h.rd a)
theorem SameE.methods {L M:List Ent} (h:SameE L M) (a:Int):(rd_Ent M a).methods=(rd_Ent L a).methods:=core_methods (h.rd a)
theorem SameE.name {L M:List Ent} (h:SameE L M) (a:Int):(rd_Ent M a).name=(rd_Ent L a).name:=core_name (h.rd a)
theorem SameE.names {L M:List Ent} (h:SameE L M):M.map (·.name)=L.map (·.name):=by
 have:=congrArg (List.map Ent.name) h
 rw [List.map_map,List.map_map] at this
 exact this
theorem SameE.chain {L M:List Ent} {d:Int→Nat} (h:SameE L M) (hC:Chain L d):Chain M d :=
 ⟨by rw [h.len];exact hC.len,fun a h0 h1 => by rw [h.super,h.len];exact hC.up a h0 (by rw [← h.len];exact h1)⟩
theorem SameE.refl (L:List Ent):SameE L L:=rfl
theorem SameE.trans {L M K:List Ent} (h:SameE L M) (k:SameE M K):SameE L K:=Eq.trans k h
theorem SameE.set {L M:List Ent} (h:SameE L M) (i:Nat) {x:Ent} (hx:core x=core (rd_Ent M (i:Int))):SameE L (M.set i x):=by
 unfold SameE
 rw [List.map_set,hx,← h]
 refine List.ext_getElem? (fun j => ?_)
 by_cases e:i=j
 ·subst e
  by_cases hl:i < M.length
  ·rw [List.getElem?_set_self (by rw [List.length_map];exact hl),List.getElem?_map,List.getElem?_eq_getElem hl,rd_Ent_eq (List.getElem?_eq_getElem hl)]
   rfl
  ·rw [List.getElem?_eq_none (by rw [List.length_set,List.length_map];omega),List.getElem?_eq_none (by rw [List.length_map];omega)]
 ·rw [List.getElem?_set_ne e]
theorem SameE.small {L M:List Ent} (h:SameE L M) (hS:SmallL L):SmallL M:=by
 intro x hx
 obtain ⟨i,hi,rfl⟩:=List.getElem_of_mem hx
 have hr:=rd_Ent_eq (List.getElem?_eq_getElem hi)
 have hc:=h.rd (i:Int)
 rw [hr] at hc
 have hy:=hS _ (rd_Ent_in L (i:Int) (by omega) (by rw [← h.len];omega))
 have e1:(M[i]).name=(rd_Ent L (i:Int)).name:=core_name hc
 have e2:(M[i]).fields=(rd_Ent L (i:Int)).fields:=core_fields hc
 have e3:(M[i]).methods=(rd_Ent L (i:Int)).methods:=core_methods hc
 exact ⟨by rw [e1];exact hy.name,by rw [e2];exact hy.fl,by rw [e3];exact hy.ml,by rw [e2];exact hy.fs,by rw [e3];exact hy.ms⟩
def statS (M:List Ent) (i:Nat):Int:=wrap64 ((rd_Ent M ((i:Int) - 1)).statics + countV (rd_Ent M ((i:Int) - 1)).fields true)
def statV (L:List Ent):Nat→List Ent
 | 0 => L
 | i + 1 => if 0 < i then (statV L i).set i { rd_Ent (statV L i) (i:Int) with statics:=statS (statV L i) i } else statV L i
def slotW (L:List Ent) (d:Int→Nat):Nat→List Ent
 | 0 => L
 | i + 1 => (slotW L d i).set i { rd_Ent (slotW L d i) (i:Int) with slots:=((slotsV (slotW L d i) d (rd_Ent (slotW L d i) (i:Int)).super).length:Int) }
theorem statV_same (L:List Ent):∀ i,SameE L (statV L i)
 | 0 => rfl
 | i + 1 => by
  simp only [statV]
  split
  ·exact (statV_same L i).set i rfl
  ·exact statV_same L i
theorem slotW_same (L:List Ent) (d:Int→Nat):∀ i,SameE L (slotW L d i)
 | 0 => rfl
 | i + 1 => (slotW_same L d i).set i rfl
def finV (L:List Ent):List Ent:=slotW (statV L L.length) (dOf L) L.length
theorem finV_same (L:List Ent):SameE L (finV L):=(statV_same L _).trans (slotW_same _ _ _)
def ruleStep (i:Nat) (L:List Ent):Option (List Ent):=match i with
 | 0 => if namesV L=true then some L else none
 | 1 => if membersV L=true then some L else none
 | 2 => topsV (L.map (·.name)) L
 | 3 => if overridesV L (dOf L)=true then some L else none
 | _ => if startsV L=true then some L else none
def rulesTo (L0:List Ent):Nat→Option (List Ent)
 | 0 => some L0
 | i + 1 => (rulesTo L0 i).bind (ruleStep i)
def ruleL (L0:List Ent):Option (List Ent):=rulesTo L0 5
theorem step_same {i:Nat} {L M:List Ent} (h:ruleStep i L=some M) (hi:i ≠ 2):M=L:=by
 match i,hi,h with
 | 0,_,h => simp only [ruleStep] at h;split at h;exact (Option.some.inj h).symm;cases h
 | 1,_,h => simp only [ruleStep] at h;split at h;exact (Option.some.inj h).symm;cases h
 | 2,hi,_ => exact absurd rfl hi
 | 3,_,h => simp only [ruleStep] at h;split at h;exact (Option.some.inj h).symm;cases h
 | (i + 4),_,h => simp only [ruleStep] at h;split at h;exact (Option.some.inj h).symm;cases h
theorem rules_before {L0 L:List Ent}:∀ i,i≤2→rulesTo L0 i=some L→L=L0
 | 0,_,h => (Option.some.inj h).symm
 | i + 1,hi,h => by
  simp only [rulesTo] at h
  obtain ⟨M,h1,h2⟩:=Option.bind_eq_some_iff.mp h
  rw [step_same h2 (by omega),rules_before i (by omega) h1]
theorem rules_behind {L0 L:List Ent}:∀ i,3≤i→rulesTo L0 i=some L→topsV (L0.map (·.name)) L0=some L
 | 0,hi,_ => absurd hi (by omega)
 | i + 1,hi,h => by
  simp only [rulesTo] at h
  obtain ⟨M,h1,h2⟩:=Option.bind_eq_some_iff.mp h
  by_cases e:i=2
  ·subst e
   rw [rules_before 2 (by omega) h1] at h2
   exact h2
  ·rw [step_same h2 e]
   exact rules_behind i (by omega) h1
theorem rules_none {L0:List Ent}:∀ (i j:Nat),i≤j→rulesTo L0 i=none→rulesTo L0 j=none:=by
 intro i j
 induction j with
 | zero => intro hi h;obtain rfl:i=0:=by omega
      exact h
 | succ j ih =>
  intro hi h
  by_cases e:i=j + 1
  ·rw [← e];exact h
  ·simp only [rulesTo]
   rw [ih (by omega) h]
   rfl
def fromL:Option (List Ent)→Option (List Ent) × Int
 | none => (none,90)
 | some L => (some (finV L),0)
def buildV (l:List Cl):Option (List Ent) × Int :=
 if l.length > 16 then (none,2) else if checksV l=0 then fromL (ruleL (l0V l)) else (none,checksV l)
structure FitCl (c:Cl):Prop where
 l0:c.f0.length≤1048576
 l3:c.f3.length≤1048576
 l4:c.f4.length≤1048576
 p:∀ x ∈ c.f0,FitC x
 t:∀ x ∈ c.f0,x.f1.size≤1048576
 f:∀ x ∈ c.f3,FitF x
 m:∀ x ∈ c.f4,FitM x
theorem FitCl.small {c:Cl} (h:FitCl c):SmallC c:=⟨h.l0,h.l3,h.l4,fun m hm => (h.m m hm).2⟩
theorem text_size {p:List Cst} (h:∀ x ∈ p,x.f1.size≤1048576) (i:Int):(textV p i).1.size≤1048576:=by
 unfold textV
 split
 ·show (rd_T108 p i).f1.size≤1048576
  unfold rd_T108
  rw [List.getD_eq_getElem?_getD]
  cases e:p[i.toNat]? with
  | none => decide
  | some x => exact h x (List.mem_of_getElem? e)
 ·decide
theorem class_size {p:List Cst} (h:∀ x ∈ p,x.f1.size≤1048576) (i:Int):(classV p i).1.size≤1048576:=by
 unfold classV
 split
 ·exact text_size h _
 ·decide
theorem small_built:∀ s ∈ builtV,SmallE (entOf s)∧(ownV s).2.size≤1048576∧SmallS s:=by
 intro s hs
 have:∀ s ∈ builtV,(ownV s).1.size≤1048576∧(ownV s).2.size≤1048576∧(fieldsS s)=[]∧(methodsS s).length≤4∧(∀ m ∈ methodsS s,m.f0.size≤100∧m.f1.size≤100)∧SmallS s:=by
  intro s hs
  unfold builtV builtN at hs
  obtain ⟨b,hb,rfl⟩:=List.mem_map.mp hs
  rcases List.mem_append.mp hb with hb|hb
  ·unfold builtB at hb
   rcases List.mem_cons.mp hb with rfl|hb
   ·exact ⟨by decide,by decide,rfl,by decide,by decide,trivial⟩
   rcases List.mem_cons.mp hb with rfl|hb
   ·exact ⟨by decide,by decide,rfl,by decide,by decide,trivial⟩
   rcases List.mem_cons.mp hb with rfl|hb
   ·exact ⟨by decide,by decide,rfl,by decide,by decide,trivial⟩
   rcases List.mem_cons.mp hb with rfl|hb
   ·exact ⟨by decide,by decide,rfl,by decide,by decide,trivial⟩
   cases hb
  ·obtain ⟨e,he,rfl⟩:=List.mem_map.mp hb
   have h100:∀ e ∈ errL,e.size≤100:=by decide
   have:=h100 e (List.mem_of_mem_take he)
   exact ⟨show e.size≤_ by omega,show sThrowable.size≤_ by decide,rfl,show [mFirst].length≤4 by decide,show ∀ m ∈ [mFirst],m.f0.size≤100∧m.f1.size≤100 by decide,trivial⟩
 obtain ⟨h1,h2,h3,h4,h5,h6⟩:=this s hs
 refine ⟨⟨h1,?_,?_,?_,?_⟩,h2,h6⟩
 ·show (fieldsS s).length≤_
  rw [h3]
  decide
 ·show (methodsS s).length≤_
  omega
 ·show ∀ m ∈ fieldsS s,_
  rw [h3]
  intro m hm
  cases hm
 ·intro m hm
  have:=h5 m hm
  omega
theorem small_class {c:Cl} (h:FitCl c):SmallE (entOf (.inr c))∧(ownV (.inr c)).2.size≤1048576∧SmallS (.inr c):=by
 have hm:∀ (n d fl:Int),(memV c.f0 n d fl).f0.size≤1048576∧(memV c.f0 n d fl).f1.size≤1048576:=fun n d fl => ⟨text_size h.t n,text_size h.t d⟩
 refine ⟨⟨class_size h.t _,?_,?_,?_,?_⟩,class_size h.t _,h.small⟩
 ·show (fieldsF c).length≤_
  unfold fieldsF
  rw [List.length_map]
  exact h.l3
 ·show (methodsF c).length≤_
  unfold methodsF
  rw [List.length_map]
  exact h.l4
 ·intro m hx
  obtain ⟨x,_,rfl⟩:=List.mem_map.mp (show m ∈ fieldsF c from hx)
  exact hm _ _ _
 ·intro m hx
  obtain ⟨x,_,rfl⟩:=List.mem_map.mp (show m ∈ methodsF c from hx)
  exact hm _ _ _
theorem l0V_all {l:List Cl} (h:∀ c ∈ l,FitCl c):∀ x ∈ l0V l,SmallE x∧(ownV x.src).2.size≤1048576:=by
 intro x hx
 obtain ⟨s,hs,rfl⟩:=List.mem_map.mp hx
 rcases List.mem_append.mp hs with hs|hs
 ·exact ⟨(small_built s hs).1,(small_built s hs).2.1⟩
 ·obtain ⟨c,hc,rfl⟩:=List.mem_map.mp hs
  exact ⟨(small_class (h c hc)).1,(small_class (h c hc)).2.1⟩
theorem l0V_len (l:List Cl):(l0V l).length=13 + l.length:=by
 unfold l0V
 rw [List.length_map,List.length_append,builtV_len,List.length_map]
theorem l0V_snoc (l:List Cl) (c:Cl):l0V (l++[c])=l0V l++[entOf (.inr c)]:=by
 unfold l0V
 simp only [List.map_append,List.map_cons,List.map_nil,List.append_assoc]
theorem UpSt.small {L0 L:List Ent} {i:Nat} (h:UpSt L0 L i) (hS:SmallL L0):SmallL L:=by
 intro x hx
 obtain ⟨j,hj,rfl⟩:=List.getElem_of_mem hx
 obtain ⟨y,s,hy,e⟩:=h.src j _ (List.getElem?_eq_getElem hj)
 have:=hS y (List.mem_of_getElem? hy)
 rw [e]
 exact ⟨this.name,this.fl,this.ml,this.fs,this.ms⟩
theorem checks_snoc (l:List Cl) (c:Cl) (h:checksV l=0):checksV (l++[c])=checkC c:=by
 induction l with
 | nil =>
  show (if checkC c=0 then 0 else checkC c)=_
  split
  ·rename_i e;exact e.symm
  ·rfl
 | cons x l ih =>
  have e:checksV (x :: l)=if checkC x=0 then checksV l else checkC x:=rfl
  rw [e] at h
  by_cases hx:checkC x=0
  ·rw [if_pos hx] at h
   rw [List.cons_append]
   show (if checkC x=0 then checksV (l++[c]) else checkC x)=_
   rw [if_pos hx,ih h]
  ·rw [if_neg hx] at h
   exact absurd h hx
theorem checks_app (l r:List Cl) (h:checksV l ≠ 0):checksV (l++r)=checksV l:=by
 induction l with
 | nil => exact absurd rfl h
 | cons x l ih =>
  have e:∀ y,checksV (x :: y)=if checkC x=0 then checksV y else checkC x:=fun _ => rfl
  rw [List.cons_append,e,e]
  rw [e] at h
  by_cases hx:checkC x=0
  ·rw [if_pos hx] at h ⊢
   rw [if_pos hx,ih h]
  ·rw [if_neg hx,if_neg hx]
end Go.Proofs.YtoonhpcjcimecaaDoor.Px
namespace Go.Proofs.YtoonhpcjcimecaaDoor.Px
open Go.RowKit Go.Maps Go.Proofs.YtoonhpcjcimecaaDoorW.PrintWords Go.Proofs.YtoonhpcjcimecaaDoorW.PrintLast Go.Proofs.YtoonhpcjcimecaaDoorW.PrintMore
set_option linter.unusedVariables false
set_option linter.unusedSimpArgs false
structure PSt (w W:World) (p m n:Nat) (D:DataW Unit) (v:Value) (L:List Ent):Prop where
 P:IsP W w.heap.size p m n D v L
 B:Below w.heap.size w W
theorem PSt.below {w W W':World} {p m n:Nat} {D:DataW Unit} {v:Value} {L:List Ent} (h:PSt w W p m n D v L) (hb:Below W.heap.size W W'):PSt w W' p m n D v L:=⟨h.P.below hb,h.B.trans (hb.mono h.B.size)⟩
theorem built_kept {w W:World} {B p m n e:Nat} {D:DataW Unit} {v vb:Value} {L:List Ent} {xs:List Src} (hR:Kd.R kSrc 58 w e (fun _ => True) vb xs) (hP:IsP w B p m n D v L) (hs:w.heap.size≤W.heap.size) (hf:Fr3 w W p m v):Kd.R kSrc 58 W e (fun _ => True) vb xs:=by
 have h1:=R_off hR hP.mp
 have h2:=Kd.R_types h1 hP.blk (by decide)
 refine Kd.R_mono (Kd.R_move (Kd.R_bound h2) (fun k hk => ?_)) (fun _ _ => trivial)
 obtain ⟨⟨⟨_,hm⟩,hp⟩,_,hlt,q,hq,cells,hc⟩:=hk
 refine hf k hlt hp hm (fun he => ?_)
 obtain ⟨inner,ho⟩:=Kd.R_own hP.rows
 obtain ⟨cells',hc'⟩:=own_typed ho k he.symm
 rw [hc] at hc'
 injection hc' with h1
 injection h1 with _ h2
 subst h2
 revert hq
 decide
theorem rd_cl {l:List Cl} {i:Nat} {c:Cl} (h:l[i]?=some c):rd_T43 l (i:Int)=c:=by
 unfold rd_T43
 rw [Int.toNat_natCast,List.getD_eq_getElem?_getD,h]
 rfl
theorem checks_at {l:List Cl} {i:Nat} {c:Cl} (hc:l[i]?=some c) (h:checksV (l.take i)=0):checksV (l.take (i + 1))=checkC c∧(checkC c ≠ 0→checksV l=checkC c):=by
 have e:l.take (i + 1)=l.take i++[c]:=by rw [List.take_add_one,hc];rfl
 have h1:checksV (l.take (i + 1))=checkC c:=by rw [e];exact checks_snoc _ _ h
 refine ⟨h1,fun hn => ?_⟩
 have h2:=checks_app (l.take (i + 1)) (l.drop (i + 1)) (by rw [h1];exact hn)
 rw [List.take_append_drop] at h2
 rw [h2,h1]
theorem be5_ {w W:World} {g:Nat} (h:Below w.heap.size w W) (hg:w.heap.size≤g) (u0 u1 u2 u3 u4:Value):Below w.heap.size w (((((W.setCell ⟨g,0,none⟩ u0).setCell ⟨g,1,none⟩ u1).setCell ⟨g,2,none⟩ u2).setCell ⟨g,3,none⟩ u3).setCell ⟨g,4,none⟩ u4):=below_set (below_set (below_set (below_set (below_set h hg) hg) hg) hg) hg
structure Made (L0:List Ent):Prop where
 small:SmallL L0
 own:∀ x ∈ L0,(ownV x.src).2.size≤1048576
 super:∀ x ∈ L0,x.super=-1
 l13:13≤L0.length
 len:L0.length≤1048575
theorem made_of {l:List Cl} (h:∀ c ∈ l,FitCl c) (hl:l.length≤16):Made (l0V l) :=
 ⟨fun x hx => (l0V_all h x hx).1,fun x hx => (l0V_all h x hx).2,entOf_super,by rw [l0V_len];omega,by rw [l0V_len];omega⟩
theorem Made.topped {L0 L:List Ent} (h:Made L0) (ht:topsV (L0.map (·.name)) L0=some L):Chain L (dOf L)∧SmallL L∧L.length=L0.length:=by
 obtain ⟨h1,h2,h3,_⟩:=tops_facts h.super h.len (by have:=h.l13;omega) ht
 exact ⟨h1,h2.small h.small,h3⟩
theorem rule_calls {w W:World} {p m n i:Nat} {D:DataW Unit} {v:Value} {L0 L:List Ent} (hi:i < 5) (hG:GG w) (hM:Made L0) (hP:PSt w W p m n D v L) (hR:rulesTo L0 i=some L):Calls Tryd.prog (ruleF i) #[pp p] W fun e w' => e=.returned (.bool (ruleStep i L).isSome)∧(∀ L',ruleStep i L=some L'→PSt w w' p m n D v L')∧Below w.heap.size w w':=by
 have hGW:=hG.below hP.B
 have hs:∀ (c:Bool) (K:List Ent),(if c=true then some K else none).isSome=c:=fun c K => by cases c <;> rfl
 have tail:∀ (c:Bool) (w':World),Below W.heap.size W w'→(∀ L',(if c=true then some L else none)=some L'→PSt w w' p m n D v L')∧Below w.heap.size w w':=fun c w' hb =>
  ⟨fun L' h => by
   split at h
   ·obtain rfl:=Option.some.inj h
    exact hP.below hb
   ·(cases h),hP.B.trans (hb.mono hP.B.size)⟩
 obtain rfl|rfl|rfl|rfl|rfl:i=0 ∨ i=1 ∨ i=2 ∨ i=3 ∨ i=4:=by omega
 ·obtain rfl:=rules_before 0 (by omega) hR
  refine (link_names.calls hGW hP.P.pc hM.small (by have:=hM.len;omega)).mono ?_
  rintro _ w' ⟨rfl,hb⟩
  refine ⟨?_,tail _ _ hb⟩
  show _=Ending.returned (.bool (if namesV L=true then some L else none).isSome)
  rw [hs]
 ·obtain rfl:=rules_before 1 (by omega) hR
  refine (link_members.calls hGW hP.P.pc hM.small hM.l13 (by have:=hM.len;omega)).mono ?_
  rintro _ w' ⟨rfl,hb⟩
  refine ⟨?_,tail _ _ hb⟩
  show _=Ending.returned (.bool (if membersV L=true then some L else none).isSome)
  rw [hs]
 ·obtain rfl:=rules_before 2 (by omega) hR
  refine (link_tops.calls hP.P hM.own (tops_inR hM.super) (by have:=hM.len;omega) hP.B.size).mono ?_
  rintro _ w' ⟨rfl,h1,hb⟩
  exact ⟨rfl,fun L' h => ⟨h1 L' h,hP.B.trans hb⟩,hP.B.trans hb⟩
 ·obtain ⟨h1,h2,h3⟩:=hM.topped (rules_behind 3 (by omega) hR)
  refine (link_overrides.calls hP.P.pc h2 h1).mono ?_
  rintro _ w' ⟨rfl,hb⟩
  refine ⟨?_,tail _ _ hb⟩
  show _=Ending.returned (.bool (if overridesV L (dOf L)=true then some L else none).isSome)
  rw [hs]
 ·obtain ⟨h1,h2,h3⟩:=hM.topped (rules_behind 4 (by omega) hR)
  refine (link_starts.calls hP.P.pc h2 (by rw [h3];exact hM.l13) (by rw [h3];have:=hM.len;omega)).mono ?_
  rintro _ w' ⟨rfl,hb⟩
  refine ⟨?_,tail _ _ hb⟩
  show _=Ending.returned (.bool (if startsV L=true then some L else none).isSome)
  rw [hs]
theorem rule_fn (i : Nat) (hi : i < 5) : ∃ fn : Func, Tryd.prog.funcs[ruleF i]? = some fn ∧ (fn.name == "runtime.NumGoroutine") = false ∧ fn.body.isSome = true := by
 obtain rfl|rfl|rfl|rfl|rfl:i=0 ∨ i=1 ∨ i=2 ∨ i=3 ∨ i=4:=by omega
 ·exact ⟨_,Tryd.func37,rfl,rfl⟩
 ·exact ⟨_,Tryd.func38,rfl,rfl⟩
 ·exact ⟨_,Tryd.func39,rfl,rfl⟩
 ·exact ⟨_,Tryd.func40,rfl,rfl⟩
 ·exact ⟨_,Tryd.func41,rfl,rfl⟩
theorem ent_statics {w1:World} {B:Nat} {ok1:Nat→Prop} {x:Ent} {cs:List Value} (s:Int) (h:kEnt.M w1 B ok1 x cs):kEnt.M w1 B ok1 { x with statics:=s } (cs.set 6 (.int .i64 s)):=by
 obtain ⟨q,v3,v4,rfl,g0,g3,g4⟩:=kEnt_openM h
 exact kEnt_mkM w1 B ok1 { x with statics:=s } g0 g3 g4
theorem ent_slots {w1:World} {B:Nat} {ok1:Nat→Prop} {x:Ent} {cs:List Value} (s:Int) (h:kEnt.M w1 B ok1 x cs):kEnt.M w1 B ok1 { x with slots:=s } (cs.set 5 (.int .i64 s)):=by
 obtain ⟨q,v3,v4,rfl,g0,g3,g4⟩:=kEnt_openM h
 exact kEnt_mkM w1 B ok1 { x with slots:=s } g0 g3 g4
theorem rd_at {L:List Ent} {i:Nat} (h:i < L.length):L[i]?=some (rd_Ent L (i:Int)):=by
 rw [rd_Ent_eq (List.getElem?_eq_getElem h)]
 exact List.getElem?_eq_getElem h
def BuildP (W:World) (pv:Value):Option (List Ent)→Prop
 | none => pv=.pointer none
 | some L => ∃ p,pv=pp p∧IsPC W p L
set_option maxHeartbeats 64000000 in
set_option maxRecDepth 100000 in
theorem link_Build.calls {w:World} {A:Option Addr} {cc:Nat} {l:List Cl} (hG:GG w) (hC:Kd.C kCl w A l.length l) (hF:∀ c ∈ l,FitCl c) (hl:l.length≤1048576):Calls Tryd.prog 5 #[.slice A l.length cc] w fun e w' => ∃ pv,e=.returned (.tuple #[pv,.int .i64 (buildV l).2])∧BuildP w' pv (buildV l).1∧Below w.heap.size w w':=by
 obtain ⟨r,hr⟩:∃ r,r=buildV l:=⟨_,rfl⟩
 rw [← hr]
 have HR:=Aside0.mk hr
 have HG:=Aside0.mk hG
 have HC:=Aside0.mk hC
 have HF:=Aside0.mk hF
 have HL:=Aside0.mk hl
 have hmm:=@run_makeMap Tryd.prog
 clear hr hG hC hF hl
 by_cases h16:(l.length:Int) > 16
 case pos =>
  have hd16:decide ((l.length:Int) > 16)=true:=decide_eq_true h16
  have hr2:r=(none,2):=by rw [HR.out];unfold buildV;rw [if_pos (by omega)]
  clear HR
  subst hr2
  clear h16
  go_enter Tryd.func5,Tryd.ntmps5
  go_wp2
  go_ret2
  exact ⟨_,rfl,rfl,Below.refl _ _⟩
 have hd16:decide ((l.length:Int) > 16)=false:=decide_eq_false h16
 have h17:¬ l.length > 16:=by omega
 have H16:Aside0 (l.length≤16):=⟨by omega⟩
 have HR2:Aside0 (r=if checksV l=0 then fromL (ruleL (l0V l)) else (none,checksV l)):=⟨by rw [HR.out];unfold buildV;rw [if_neg h17]⟩
 clear h16 HR
 go_enter Tryd.func5,Tryd.ntmps5
 go_upto_region 4 with ((with_reducible refine gate_dst (N:=19) rfl ?_);refine box_event ?hg (N:=19) ?hd (cs:=#[.slice none 0 0,.map (some w.heap.size),.bool true]) (t:=54) ?hr ?_;(case hd => rfl);(case hg => rfl);(case hr => first|(go_simp;done)|(go_simp;rfl));intro pb hg w4 hbox hb;have BK:=Aside0.mk hbox;have BL:=Aside0.mk hb;have GW:=Aside0.mk hg;clear hb hbox hg)
 have HP:Aside0 (PSt w w4 pb w.heap.size 0 (.map []) (.slice none 0 0) []):=⟨⟨BK.out,Kd.R_nil _ _ _ _ _,(pMap_below (World.ownsMap_made w Tryd.prog _ _) BL.out),MapOf.nil,by rw [GW.out];exact (below_alloc (Below.refl w.heap.size w) (.map #[] 0)).size,Nat.le_refl _,Nat.le_refl _⟩,(below_alloc (Below.refl w.heap.size w) (.map #[] 0)).trans (BL.out.mono (below_alloc (Below.refl w.heap.size w) (.map #[] 0)).size)⟩
 have H4:Aside0 (w.heap.size≤w4.heap.size):=⟨HP.out.B.size⟩
 clear BK BL GW hmm
 go_wp2_with fail
 refine (link_built.calls w4).mono ?_
 rintro _ w5 ⟨vb,rfl,hRb,hB5⟩
 obtain ⟨Ab,cb,rfl⟩:=Kd.R_slice hRb
 rw [builtV_len] at hRb ⊢
 have HRB:=Aside0.mk hRb
 have HP5:=Aside0.mk (HP.out.below hB5)
 clear hRb hB5 HP
 go_wp2_with fail
 obtain ⟨gb,_,_,hv0,_⟩:=R_getM HRB.out (show builtV[0]?=some (.inl ⟨sObject,⟨#[]⟩,mObject⟩) from rfl)
 obtain rfl:Ab=some ⟨gb,0,none⟩:=by injection hv0
 clear hv0
 go_loopw [22] (fun v22 wr => ∃ (i n:Nat) (D:DataW Unit) (v:Value),v22=.int .i64 (i:Int)∧Aside0 (i≤13)∧Aside0 (PSt w wr pb w.heap.size n D v ((builtV.take i).map entOf))∧Aside0 (Kd.R kSrc 58 wr w4.heap.size (fun _ => True) (.slice (some ⟨gb,0,none⟩) 13 cb) builtV)) (fun v22 _ => ((13:Int) - intOf v22).toNat)
 case atStart => exact ⟨0,0,_,_,rfl,⟨Nat.zero_le _⟩,HP5,HRB⟩
 case round =>
  clear HP5 HRB
  obtain ⟨i,n,D,v,rfl,HI,HP,HRB⟩:=hrel
  by_cases hx:(i:Int) < 13
  case pos =>
   have hpx:decide ((i:Int) < 13)=true:=decide_eq_true hx
   have hpn:i < 13:=by omega
   have HX:=Aside0.mk hpn
   obtain ⟨s,hs⟩:∃ s,builtV[i]?=some s:=⟨builtV[i]'(by rw [builtV_len];exact hpn),List.getElem?_eq_getElem _⟩
   have HSI:=Aside0.mk hs
   obtain ⟨g',c',cs,hv,_,hM,hcell⟩:=R_getM HRB.out hs
   have eg:gb=g':=by injection hv with e1;injection e1 with e1;injection e1
   subst eg
   obtain ⟨sv,rfl⟩:=kSrc_oneM hM
   obtain ⟨T,sw,rfl⟩:=kSrc_iface (kSrc.K_of_M hM)
   have z0:=hcell 0 _ rfl
   rw [show i * kSrc.sz + 0=i by show i * 1 + 0=i;omega] at z0
   have HM:Aside0 (kSrc.M wr w.heap.size (fun _ => True) s [.iface T sw]):=⟨kSrc.M_lower H4.out (kSrc.M_mono (fun _ _ => trivial) hM)⟩
   have HSB:=Aside0.mk (small_built s (List.mem_of_getElem? hs))
   have p1:0≤(i:Int):=by omega
   replace p1:=eq_true p1
   replace hx:=eq_true hx
   clear hM hcell hv hs
   go_wp2_with fail
   refine (link_add.calls HP.out.P HM.out HSB.out.2.2 (Nat.le_trans HSB.out.1.name (by decide)) (by rw [List.length_map,List.length_take];have:=HI.out;omega) HP.out.B.size).mono ?_
   rintro _ w8 ⟨rfl,n',D',v',hP8,hB8,hs8,hf8⟩
   have HP8:Aside0 (PSt w w8 pb w.heap.size n' D' v' ((builtV.take (i + 1)).map entOf)):=⟨⟨by rw [List.take_add_one,HSI.out,List.map_append];exact hP8,HP.out.B.trans hB8⟩⟩
   have HRB8:=Aside0.mk (built_kept HRB.out HP.out.P hs8 hf8)
   clear hP8 hB8 hs8 hf8 HP HRB z0
   go_wp2
   go_roundw
   case measure =>
    rw [intOf_i64,intOf_i64]
    have h1:=HX.out
    first|omega|(unfold wrap64;omega)
   case rel =>
    have h1:=HX.out
    exact ⟨i + 1,n',D',v',congrArg (Value.int .i64) (by first|omega|(unfold wrap64;omega)),⟨h1⟩,HP8,HRB8⟩
  have hpx:decide ((i:Int) < 13)=false:=decide_eq_false hx
  have e:i=13:=by have:=HI.out;omega
  have HP9:Aside0 (PSt w wr pb w.heap.size n D v (l0V (l.take 0))):=⟨by have h:=HP.out;rw [e,List.take_of_length_le (by rw [builtV_len];exact Nat.le_refl _)] at h;unfold l0V;rw [List.take_zero,List.map_nil,List.append_nil];exact h⟩
  clear hx HRB HP HI e
  go_wp2_with fail
  go_loopw [32] (fun v32 wq => ∃ (i n:Nat) (D:DataW Unit) (v:Value),v32=.int .i64 (i:Int)∧Aside0 (i≤l.length)∧Aside0 (PSt w wq pb w.heap.size n D v (l0V (l.take i)))∧Aside0 (checksV (l.take i)=0)) (fun v32 _ => ((l.length:Int) - intOf v32).toNat)
  case atStart => exact ⟨0,_,_,_,rfl,⟨Nat.zero_le _⟩,HP9,⟨rfl⟩⟩
  case round =>
   clear HP9
   clear n D v
   obtain ⟨i,n,D,v,rfl,HI,HP,HCK⟩:=hrel
   by_cases hx:(i:Int) < (l.length:Int)
   case pos =>
    have hpx:decide ((i:Int) < (l.length:Int))=true:=decide_eq_true hx
    have hpn:i < l.length:=by omega
    have HX:=Aside0.mk hpn
    obtain ⟨c,hc⟩:∃ c,l[i]?=some c:=⟨l[i],List.getElem?_eq_getElem hpn⟩
    have HCI:=Aside0.mk hc
    have HFC:=Aside0.mk (HF.out c (List.mem_of_getElem? hc))
    have p1:0≤(i:Int):=by omega
    obtain ⟨ad,B0,d0,B3,d3,B4,d4,e1,y0,y1,y2,y3,y4,g0,k0,g3,k3,g4,k4⟩:=at_T43 HC.out (i:Int) p1 hx
    have hia:∀ W:World,(Instr.indexAt 22 (.slice A l.length cc) (.int .i64 (i:Int))).run Tryd.prog W=.ok (.pointer (some (ad.add (i * 5)))) W:=by
     intro W
     subst e1
     have hx2:=eq_true hx
     go_simp
    clear e1
    rw [rd_cl hc] at y0 y1 y2 y3 y4 g0 k0 g3 k3 g4 k4
    rw [Int.toNat_natCast] at y0 y1 y2 y3 y4
    have HBW:=Aside0.mk HP.out.B
    have x0:=hb_ HBW y0
    have x1:=hb_ HBW y1
    have x2:=hb_ HBW y2
    have x3:=hb_ HBW y3
    have x4:=hb_ HBW y4
    have G0:=Aside0.mk g0
    have G3:=Aside0.mk g3
    have G4:=Aside0.mk g4
    have K0:=Aside0.mk k0
    have K3:=Aside0.mk k3
    have K4:=Aside0.mk k4
    obtain ⟨kn,hkn⟩:=(class_Check.ev c.f0 HFC.out.l0 c.f1 c.f2 c.f3 c.f4 HFC.out.l3 HFC.out.l4 HFC.out.f HFC.out.m HFC.out.p).rounds
    have HKN:Aside0 (class_Check.f kn c.f0 c.f1 c.f2 c.f3 c.f4=some (checkC c)):=⟨hkn⟩
    replace p1:=eq_true p1
    replace hx:=eq_true hx
    clear hc y0 y1 y2 y3 y4 g0 g3 g4 k0 k3 k4 hkn
    go_upto_region 12 with ((with_reducible refine gate_dst (N:=8) rfl ?_);refine box_event ?hg (N:=8) ?hd (cs:=#[.slice none 0 0,.int .i64 0,.int .i64 0,.slice none 0 0,.slice none 0 0]) (t:=43) ?hr ?_;(case hd => rfl);(case hg => rfl);(case hr => first|(go_simp;done)|(go_simp;rfl));intro b8 hg w8 hbox hb;have BKb8:=Aside0.mk hbox;have BLb8:=Aside0.mk hb;have Gb8:=Aside0.mk (show wr.heap.size≤b8 by rw [hg];exact Nat.le_refl _);clear hb hbox hg;obtain ⟨z0,z1,z2,z3,z4,y0,y1,y2,y3,y4⟩:=blk5_ BKb8.out)
    obtain ⟨W8,hW8⟩:∃ W8,W8=(((((w8.setCell ⟨b8,0,none⟩ (.slice B0 c.f0.length d0)).setCell ⟨b8,1,none⟩ (.int .i64 c.f1)).setCell ⟨b8,2,none⟩ (.int .i64 c.f2)).setCell ⟨b8,3,none⟩ (.slice B3 c.f3.length d3)).setCell ⟨b8,4,none⟩ (.slice B4 c.f4.length d4)):=⟨_,rfl⟩
    rw [← hW8]
    have K8:Aside0 (W8.heap[b8]?=some (.cells #[.slice B0 c.f0.length d0,.int .i64 c.f1,.int .i64 c.f2,.slice B3 c.f3.length d3,.slice B4 c.f4.length d4] 43 (0,0))):=⟨by rw [hW8];exact st5_ BKb8.out⟩
    have HP8:Aside0 (PSt w W8 pb w.heap.size n D v (l0V (l.take i))):=⟨HP.out.below (by rw [hW8];exact be5_ BLb8.out Gb8.out _ _ _ _ _)⟩
    clear hW8 BKb8 BLb8 Gb8 x0 x1 x2 x3 x4 HP HBW z0 z1 z2 z3 z4 y0 y1 y2 y3 y4
    obtain ⟨z0,z1,z2,z3,z4,_,_,_,_,_⟩:=blk5_ K8.out
    go_wp2_with fail
    refine (class_Check.calls kn B0 d0 c.f0 c.f1 c.f2 B3 d3 c.f3 B4 d4 c.f4 _ W8 ⟨HG.out.below HP8.out.B⟩ (Kd.C_below K0.out HP8.out.B) G0.out (Kd.C_below K3.out HP8.out.B) G3.out (Kd.C_below K4.out HP8.out.B) G4.out HKN.out).mono ?_
    rintro _ w9 ⟨rfl,hB9⟩
    obtain ⟨ce,hce⟩:∃ ce,ce=checkC c:=⟨_,rfl⟩
    rw [← hce]
    have HCE:=Aside0.mk hce
    have HP9:=Aside0.mk (HP8.out.below hB9)
    have K9:=Aside0.mk ((hB9.block _ (blk_lt K8.out)).trans K8.out)
    clear hce hB9 HP8 K8 z0 z1 z2 z3 z4
    obtain ⟨z0,z1,z2,z3,z4,_,_,_,_,_⟩:=blk5_ K9.out
    by_cases h0:ce=0
    case neg =>
     have hn1:(ce==0)=false:=beq_eq_false_iff_ne.mpr h0
     have hn2:(ce != 0)=true:=by unfold bne;rw [hn1];rfl
     have hr2:r=(none,ce):=by
      have h:=checks_at HCI.out HCK.out
      rw [← HCE.out] at h
      rw [HR2.out,h.2 h0,if_neg h0]
     clear HR2
     subst hr2
     go_wp2
     go_ret2
     exact ⟨_,rfl,rfl,HP9.out.B⟩
    have hn1:(ce==0)=true:=beq_iff_eq.mpr h0
    have hn2:(ce != 0)=false:=by unfold bne;rw [hn1];rfl
    go_wp2_with fail
    refine (link_copied.calls (Kd.C_below K0.out HP9.out.B) (Kd.C_below K3.out HP9.out.B) (Kd.C_below K4.out HP9.out.B) HFC.out.small).mono ?_
    rintro _ w10 ⟨cs,rfl,hM,hB10⟩
    have HM:Aside0 (kSrc.M w10 w.heap.size (fun _ => True) (.inr c) [.iface 63 (.agg cs.toArray)]):=⟨kSrc.M_lower HP9.out.B.size (show kSrc.M w10 w9.heap.size (fun _ => True) (.inr c) [.iface 63 (.agg cs.toArray)] from ⟨cs,hM,rfl⟩)⟩
    obtain ⟨v0,v3,v4,rfl,_,_,_⟩:=k43_openM hM
    have HP10:=Aside0.mk (HP9.out.below hB10)
    have HCK2:Aside0 (checksV (l.take (i + 1))=0):=⟨by rw [(checks_at HCI.out HCK.out).1,← HCE.out];exact h0⟩
    clear hM hB10 HP9 K9 z0 z1 z2 z3 z4 HCK HCE hn1 hn2 h0
    go_wp2_with fail
    refine (link_add.calls HP10.out.P HM.out HFC.out.small (Nat.le_trans (small_class HFC.out).1.name (by decide)) (by rw [l0V_len,List.length_take];have:=H16.out;omega) HP10.out.B.size).mono ?_
    rintro _ w11 ⟨rfl,n',D',v',hP11,hB11,_,_⟩
    have HP11:Aside0 (PSt w w11 pb w.heap.size n' D' v' (l0V (l.take (i + 1)))):=⟨⟨by rw [List.take_add_one,HCI.out];show IsP _ _ _ _ _ _ _ (l0V (l.take i++[c]));rw [l0V_snoc];exact hP11,HP10.out.B.trans hB11⟩⟩
    clear hP11 hB11 HP10 HM
    go_wp2
    go_roundw
    case measure =>
     rw [intOf_i64,intOf_i64]
     have h1:=HX.out
     have h2:=HL.out
     first|exact fewerN h1 h2|omega
    case rel =>
     have h1:=HX.out
     have h2:=HL.out
     exact ⟨i + 1,n',D',v',congrArg (Value.int .i64) (by first|exact wrapS h1 h2|omega),⟨HX.out⟩,HP11,HCK2⟩
   have hpx:decide ((i:Int) < (l.length:Int))=false:=decide_eq_false hx
   have e:i=l.length:=by have:=HI.out;omega
   have HP12:Aside0 (PSt w wr pb w.heap.size n D v (l0V l)):=⟨by have h:=HP.out;rw [e,List.take_length] at h;exact h⟩
   have HR3:Aside0 (r=fromL (ruleL (l0V l))):=⟨by have h:=HCK.out;rw [e,List.take_length] at h;rw [HR2.out,if_pos h]⟩
   have HMD:=Aside0.mk (made_of HF.out H16.out)
   clear hx HP HCK HR2 HC HL H4
   obtain ⟨L0,hL0⟩:∃ L0,L0=l0V l:=⟨_,rfl⟩
   rw [← hL0] at HP12 HR3 HMD
   have HL0:=Aside0.mk hL0
   clear hL0
   go_wp2_with fail
   refine (link_rules.calls wr).mono ?_
   rintro _ w13 ⟨rfl,hB13⟩
   have HP13:=Aside0.mk (HP12.out.below hB13)
   clear hB13 HP12 hpx e HI
   go_wp2_with fail
   go_loopw [49] (fun v49 wq => ∃ (i n:Nat) (D:DataW Unit) (v:Value) (L:List Ent),v49=.int .i64 (i:Int)∧Aside0 (i≤5)∧Aside0 (PSt w wq pb w.heap.size n D v L)∧Aside0 (rulesTo L0 i=some L)) (fun v49 _ => ((5:Int) - intOf v49).toNat)
   case atStart => exact ⟨0,_,_,_,L0,rfl,⟨Nat.zero_le _⟩,HP13,⟨rfl⟩⟩
   case round =>
    clear HP13
    obtain ⟨i,n,D,v,L,rfl,HI,HP,HRT⟩:=hrel
    by_cases hx:(i:Int) < 5
    case pos =>
     have hpx:decide ((i:Int) < 5)=true:=decide_eq_true hx
     have hpn:i < 5:=by omega
     have HX:=Aside0.mk hpn
     have hidx:=rule_idx i hpn
     obtain ⟨fn,hf,hn,hb⟩:=rule_fn i hpn
     have hcf:=fun W => enters_ hf hn hb #[pp pb] W
     clear hf hn hb
     replace hx:=eq_true hx
     go_upto_region 20 with ((with_reducible refine gate_dst (N:=11) rfl ?_);refine box_event ?hg (N:=11) ?hd (cs:=#[.nilFunc]) (t:=66) ?hr ?_;(case hd => rfl);(case hg => rfl);(case hr => first|(go_simp;done)|(go_simp;rfl));intro b hg w14 hbox hb;have BK:=Aside0.mk hbox;have BL:=Aside0.mk hb;have GW:=Aside0.mk (show wr.heap.size≤b by rw [hg];exact Nat.le_refl _);clear hb hbox hg;have z0:w14.cell? ⟨b,0,none⟩=some .nilFunc:=(blk_cell BK.out 0).trans rfl;have y0:=blk_frozen BK.out 0)
     obtain ⟨W14,hW⟩:∃ W14,W14=w14.setCell ⟨b,0,none⟩ (fnV (ruleF i)):=⟨_,rfl⟩
     rw [← hW]
     have K14:Aside0 (W14.heap[b]?=some (.cells #[fnV (ruleF i)] 66 (0,0))):=⟨by rw [hW];exact blk_set BK.out 0 _⟩
     have HP14:Aside0 (PSt w W14 pb w.heap.size n D v L):=⟨HP.out.below (by rw [hW];exact below_set BL.out GW.out)⟩
     clear hW BK BL GW z0 y0 hidx HP
     have z0:W14.cell? ⟨b,0,none⟩=some (fnV (ruleF i)):=(blk_cell K14.out 0).trans rfl
     go_wp2_with fail
     refine (rule_calls HX.out HG.out HMD.out HP14.out HRT.out).mono ?_
     rintro _ w15 ⟨rfl,hQ,hB15⟩
     have HQ:=Aside0.mk hQ
     have HB15:=Aside0.mk hB15
     obtain ⟨s,hs⟩:∃ s,s=ruleStep i L:=⟨_,rfl⟩
     rw [← hs]
     have HS:=Aside0.mk hs
     clear hcf z0 hQ hB15 hs HP14
     cases s with
     | none =>
      have hr2:r=(none,90):=by
       have h5:ruleL L0=none:=rules_none (i + 1) 5 HX.out (by simp only [rulesTo];rw [HRT.out];exact HS.out.symm)
       rw [HR3.out,h5]
       rfl
      clear HR3
      subst hr2
      rw [show (none:Option (List Ent)).isSome=false from rfl]
      go_wp2
      go_ret2
      exact ⟨_,rfl,rfl,HB15.out⟩
     | some L' =>
      have HP15:=Aside0.mk (HQ.out L' HS.out.symm)
      have HRT2:Aside0 (rulesTo L0 (i + 1)=some L'):=⟨by simp only [rulesTo];rw [HRT.out];exact HS.out.symm⟩
      rw [show (some L').isSome=true from rfl]
      clear HQ HS HRT
      go_wp2
      go_roundw
      case measure =>
       rw [intOf_i64,intOf_i64]
       have h1:=HX.out
       first|omega|(unfold wrap64;omega)
      case rel =>
       have h1:=HX.out
       exact ⟨i + 1,n,D,v,L',congrArg (Value.int .i64) (by first|omega|(unfold wrap64;omega)),⟨h1⟩,HP15,HRT2⟩
    have hpx:decide ((i:Int) < 5)=false:=decide_eq_false hx
    have e:i=5:=by have:=HI.out;omega
    have HRL:Aside0 (ruleL L0=some L):=⟨by have h:=HRT.out;rw [e] at h;exact h⟩
    have HR4:Aside0 (r=(some (finV L),0)):=⟨by rw [HR3.out,HRL.out];rfl⟩
    have HCH:=Aside0.mk (HMD.out.topped (rules_behind 5 (by omega) HRL.out))
    have HLN:Aside0 (13≤L.length∧L.length≤1048575):=⟨by rw [HCH.out.2.2];exact ⟨HMD.out.l13,HMD.out.len⟩⟩
    obtain ⟨A',c',rfl⟩:=Kd.R_slice HP.out.P.rows
    obtain ⟨x0,hx0⟩:∃ x0,L[0]?=some x0:=⟨L[0]'(by have:=HLN.out;omega),List.getElem?_eq_getElem _⟩
    obtain ⟨g,_,_,hv0,_⟩:=R_getM HP.out.P.rows hx0
    obtain ⟨ad,had⟩:∃ ad:Addr,ad=⟨g,0,none⟩:=⟨_,rfl⟩
    obtain rfl:A'=some ad:=by rw [had];injection hv0
    have HAD:=Aside0.mk had
    have z0:=(blk_cell HP.out.P.blk 0).trans rfl
    clear hx e HRT HR3 HMD HI hv0 hx0 had
    go_wp2_with fail
    go_loopw [63] (fun v63 wq => ∃ i:Nat,v63=.int .i64 (i:Int)∧Aside0 (i≤L.length)∧Aside0 (PSt w wq pb w.heap.size n D (.slice (some ad) L.length c') (statV L i))) (fun v63 _ => ((L.length:Int) - intOf v63).toNat)
    case atStart => exact ⟨0,rfl,⟨Nat.zero_le _⟩,HP⟩
    case round =>
     clear HP z0 hpx
     rename_i i5
     obtain ⟨i,rfl,HI,HP⟩:=hrel
     by_cases hx:(i:Int) < (L.length:Int)
     case pos =>
      have hpx:decide ((i:Int) < (L.length:Int))=true:=decide_eq_true hx
      have hpn:i < L.length:=by omega
      have HX:=Aside0.mk hpn
      by_cases h0:(i:Int) > 0
      case neg =>
       have h0b:decide ((i:Int) > 0)=false:=decide_eq_false h0
       have h0n:¬ 0 < i:=by omega
       have h0e:i=0:=by omega
       have H0E:=Aside0.mk h0e
       clear h0e
       have HP2:Aside0 (PSt w wr pb w.heap.size n D (.slice (some ad) L.length c') (statV L (i + 1))):=⟨by simp only [statV];rw [if_neg (by omega)];exact HP.out⟩
       clear HP h0
       go_wp2
       go_roundw
       case measure =>
        rw [intOf_i64,intOf_i64]
        have h1:=HX.out
        have h2:=HLN.out
        first|omega|(unfold wrap64;omega)
       case rel =>
        have h1:=HX.out
        have h2:=HLN.out
        exact ⟨i + 1,congrArg (Value.int .i64) (by first|omega|(unfold wrap64;omega)),⟨h1⟩,HP2⟩
      have h0b:decide ((i:Int) > 0)=true:=decide_eq_true h0
      have h0n:0 < i:=by omega
      obtain ⟨j,hj⟩:∃ j,i=j + 1:=⟨i - 1,by omega⟩
      have HJ:=Aside0.mk hj
      obtain ⟨M,hM⟩:∃ M,M=statV L i:=⟨_,rfl⟩
      rw [← hM] at HP
      have HM:=Aside0.mk hM
      have HSE:Aside0 (SameE L M):=⟨by rw [hM];exact statV_same L i⟩
      have HML:Aside0 (M.length=L.length):=⟨HSE.out.len⟩
      have HSM:Aside0 (SmallL M):=⟨HSE.out.small HCH.out.2.1⟩
      have hjl:(j:Int) < (M.length:Int):=by rw [HML.out];omega
      have hsub:wrap64 ((i:Int) - 1)=(j:Int):=by have:=HLN.out;unfold wrap64;omega
      obtain ⟨A1,c1,hv1,hl1,hC1⟩:=Kd.R_reads HP.out.P.rows
      obtain ⟨a1,s1,A3,c3,A4,c4,e1,hE⟩:=at_Ent hC1 (j:Int) (by omega) hjl
      have ea:ad=a1:=by injection hv1 with q1;rw [e1] at q1;injection q1
      subst ea
      rw [Int.toNat_natCast] at hE
      have HE:=Aside0.mk hE
      have HSMJ:=Aside0.mk (HSM.out _ (rd_Ent_in M (j:Int) (by omega) hjl))
      obtain ⟨kn,hkn⟩:=(count.ev (rd_Ent M (j:Int)).fields HSMJ.out.fl true).rounds
      have HKN:=Aside0.mk hkn
      have p1:0≤(i:Int):=by omega
      have p2:0≤(j:Int):=by omega
      have p3:(j:Int) < (L.length:Int):=by omega
      replace p1:=eq_true p1
      replace p2:=eq_true p2
      replace p3:=eq_true p3
      replace hx:=eq_true hx
      clear hM hjl hv1 hl1 hC1 e1 hE hkn hj h0
      go_upto_region 27 with fail
      have HPD:=Aside0.mk (HP.out.below (below_drew (Below.refl wr.heap.size wr)))
      have HBD:=Aside0.mk (below_drew (Below.refl wr.heap.size wr))
      have q0:wr.drew.cell? ⟨pb,0,none⟩=some (.slice (some ad) L.length c'):=(blk_cell HPD.out.P.blk 0).trans rfl
      have q1:=bl_cell HBD.out HE.out.e6
      have q2:=bl_cell HBD.out HE.out.e3
      refine start_ (n:=28) (S:=fun w' => w'.cell? ⟨pb,0,none⟩=some (.slice (some ad) L.length c')∧w'.cell? ⟨(ad.add (j * 7)).block,(ad.add (j * 7)).off + 6,none⟩=some (.int .i64 (rd_Ent M (j:Int)).statics)∧w'.cell? ⟨(ad.add (j * 7)).block,(ad.add (j * 7)).off + 3,none⟩=some (.slice A3 (rd_Ent M (j:Int)).fields.length c3)) (ds:=[27]) #[false,false,false,false,false,false,false,false,false,false,false,false,false,false,false,false,false,false,false,false,false,false,false,false,false,false,false,false] (by kernel_rfl) rfl rfl ⟨q0,q1,q2⟩ (fun hHeld => ?_)
      refine pure_ (i:=0) (N:=some 68) (v:=?_) (a':=?_) #[true,false,false,false,false,false,false,false,false,false,false,false,false,false,false,false,false,false,false,false,false,false,false,false,false,false,false,false] rfl rfl (by kernel_rfl) (fun _ _ _ h => h) (Or.inl ⟨by rfl,?_⟩) ?_ ?_
      rotate_left
      ·intro w'
       go_simp
       with_reducible rfl
      rotate_left
      ·simp only [Act.put,List.setIfInBounds_toArray,List.set_cons_zero,List.set_cons_succ,i64_w,i32_w]
       rfl
      refine pure_ (i:=1) (N:=some 69) (v:=?_) (a':=?_) #[true,true,false,false,false,false,false,false,false,false,false,false,false,false,false,false,false,false,false,false,false,false,false,false,false,false,false,false] rfl rfl (by kernel_rfl) (fun _ _ _ h => h) (Or.inl ⟨by rfl,?_⟩) ?_ ?_
      rotate_left
      ·intro w'
       go_simp
       with_reducible rfl
      rotate_left
      ·simp only [Act.put,List.setIfInBounds_toArray,List.set_cons_zero,List.set_cons_succ,i64_w,i32_w]
       rfl
      refine pure_ (i:=2) (N:=some 70) (v:=?_) (a':=?_) #[true,true,true,false,false,false,false,false,false,false,false,false,false,false,false,false,false,false,false,false,false,false,false,false,false,false,false,false] rfl rfl (by kernel_rfl) (fun _ _ _ h => h) (Or.inl ⟨by rfl,?_⟩) ?_ ?_
      rotate_left
      ·intro w'
       go_simp
       with_reducible rfl
      rotate_left
      ·simp only [Act.put,List.setIfInBounds_toArray,List.set_cons_zero,List.set_cons_succ,i64_w,i32_w]
       rfl
      refine pure_ (i:=4) (N:=some 72) (v:=?_) (a':=?_) #[true,true,true,false,true,false,false,false,false,false,false,false,false,false,false,false,false,false,false,false,false,false,false,false,false,false,false,false] rfl rfl (by kernel_rfl) (fun _ _ _ h => h) (Or.inl ⟨by rfl,?_⟩) ?_ ?_
      rotate_left
      ·intro w'
       go_simp
       with_reducible rfl
      rotate_left
      ·simp only [Act.put,List.setIfInBounds_toArray,List.set_cons_zero,List.set_cons_succ,i64_w,i32_w]
       rfl
      refine pure_ (i:=5) (N:=some 73) (v:=?_) (a':=?_) #[true,true,true,false,true,true,false,false,false,false,false,false,false,false,false,false,false,false,false,false,false,false,false,false,false,false,false,false] rfl rfl (by kernel_rfl) (fun _ _ _ h => h) (Or.inl ⟨by rfl,?_⟩) ?_ ?_
      rotate_left
      ·intro w'
       go_simp
       with_reducible rfl
      rotate_left
      ·simp only [Act.put,List.setIfInBounds_toArray,List.set_cons_zero,List.set_cons_succ,i64_w,i32_w]
       rfl
      refine pure_ (i:=6) (N:=some 74) (v:=?_) (a':=?_) #[true,true,true,false,true,true,true,false,false,false,false,false,false,false,false,false,false,false,false,false,false,false,false,false,false,false,false,false] rfl rfl (by kernel_rfl) (fun _ _ _ h => h) (Or.inl ⟨by rfl,?_⟩) ?_ ?_
      rotate_left
      ·intro w'
       go_simp
       with_reducible rfl
      rotate_left
      ·simp only [Act.put,List.setIfInBounds_toArray,List.set_cons_zero,List.set_cons_succ,i64_w,i32_w]
       rfl
      refine pure_ (i:=7) (N:=some 75) (v:=?_) (a':=?_) #[true,true,true,false,true,true,true,true,false,false,false,false,false,false,false,false,false,false,false,false,false,false,false,false,false,false,false,false] rfl rfl (by kernel_rfl) (fun _ _ _ h => h) (Or.inl ⟨by rfl,?_⟩) ?_ ?_
      rotate_left
      ·intro w'
       go_simp
       with_reducible rfl
      rotate_left
      ·simp only [Act.put,List.setIfInBounds_toArray,List.set_cons_zero,List.set_cons_succ,i64_w,i32_w]
       rfl
      refine pure_ (i:=9) (N:=some 77) (v:=?_) (a':=?_) #[true,true,true,false,true,true,true,true,false,true,false,false,false,false,false,false,false,false,false,false,false,false,false,false,false,false,false,false] rfl rfl (by kernel_rfl) (fun _ _ _ h => h) (Or.inl ⟨by rfl,?_⟩) ?_ ?_
      rotate_left
      ·intro w'
       go_simp
       with_reducible rfl
      rotate_left
      ·simp only [Act.put,List.setIfInBounds_toArray,List.set_cons_zero,List.set_cons_succ,i64_w,i32_w]
       rfl
      refine pure_ (i:=10) (N:=some 78) (v:=?_) (a':=?_) #[true,true,true,false,true,true,true,true,false,true,true,false,false,false,false,false,false,false,false,false,false,false,false,false,false,false,false,false] rfl rfl (by kernel_rfl) (fun _ _ _ h => h) (Or.inl ⟨by rfl,?_⟩) ?_ ?_
      rotate_left
      ·intro w'
       go_simp
       with_reducible rfl
      rotate_left
      ·simp only [Act.put,List.setIfInBounds_toArray,List.set_cons_zero,List.set_cons_succ,i64_w,i32_w]
       rfl
      refine pure_ (i:=14) (N:=some 82) (v:=?_) (a':=?_) #[true,true,true,false,true,true,true,true,false,true,true,false,false,false,true,false,false,false,false,false,false,false,false,false,false,false,false,false] rfl rfl (by kernel_rfl) (fun _ _ _ h => h) (Or.inl ⟨by rfl,?_⟩) ?_ ?_
      rotate_left
      ·intro w'
       go_simp
       with_reducible rfl
      rotate_left
      ·simp only [Act.put,List.setIfInBounds_toArray,List.set_cons_zero,List.set_cons_succ,i64_w,i32_w]
       rfl
      refine pure_ (i:=15) (N:=some 83) (v:=?_) (a':=?_) #[true,true,true,false,true,true,true,true,false,true,true,false,false,false,true,true,false,false,false,false,false,false,false,false,false,false,false,false] rfl rfl (by kernel_rfl) (fun _ _ _ h => h) (Or.inl ⟨by rfl,?_⟩) ?_ ?_
      rotate_left
      ·intro w'
       go_simp
       with_reducible rfl
      rotate_left
      ·simp only [Act.put,List.setIfInBounds_toArray,List.set_cons_zero,List.set_cons_succ,i64_w,i32_w]
       rfl
      refine pure_ (i:=16) (N:=some 84) (v:=?_) (a':=?_) #[true,true,true,false,true,true,true,true,false,true,true,false,false,false,true,true,true,false,false,false,false,false,false,false,false,false,false,false] rfl rfl (by kernel_rfl) (fun _ _ _ h => h) (Or.inl ⟨by rfl,?_⟩) ?_ ?_
      rotate_left
      ·intro w'
       go_simp
       with_reducible rfl
      rotate_left
      ·simp only [Act.put,List.setIfInBounds_toArray,List.set_cons_zero,List.set_cons_succ,i64_w,i32_w]
       rfl
      refine pure_ (i:=18) (N:=some 86) (v:=?_) (a':=?_) #[true,true,true,false,true,true,true,true,false,true,true,false,false,false,true,true,true,false,true,false,false,false,false,false,false,false,false,false] rfl rfl (by kernel_rfl) (fun _ _ _ h => h) (Or.inl ⟨by rfl,?_⟩) ?_ ?_
      rotate_left
      ·intro w'
       go_simp
       with_reducible rfl
      rotate_left
      ·simp only [Act.put,List.setIfInBounds_toArray,List.set_cons_zero,List.set_cons_succ,i64_w,i32_w]
       rfl
      refine pure_ (i:=19) (N:=some 87) (v:=?_) (a':=?_) #[true,true,true,false,true,true,true,true,false,true,true,false,false,false,true,true,true,false,true,true,false,false,false,false,false,false,false,false] rfl rfl (by kernel_rfl) (fun _ _ _ h => h) (Or.inl ⟨by rfl,?_⟩) ?_ ?_
      rotate_left
      ·intro w'
       go_simp
       with_reducible rfl
      rotate_left
      ·simp only [Act.put,List.setIfInBounds_toArray,List.set_cons_zero,List.set_cons_succ,i64_w,i32_w]
       rfl
      refine take_ (i:=3) (N:=some 71) (v:=?_) (a':=?_) #[true,true,true,true,true,true,true,true,false,true,true,false,false,false,true,true,true,false,true,true,false,false,false,false,false,false,false,false] rfl rfl (by kernel_rfl) (fun _ _ _ h => h) (Or.inl ⟨by rfl,?_⟩) hHeld ?_ ?_
      rotate_left
      ·rintro w' ⟨s0,s1,s2⟩
       go_simp
       with_reducible rfl
      rotate_left
      ·simp only [Act.put,List.setIfInBounds_toArray,List.set_cons_zero,List.set_cons_succ,i64_w,i32_w]
       rfl
      refine take_ (i:=8) (N:=some 76) (v:=?_) (a':=?_) #[true,true,true,true,true,true,true,true,true,true,true,false,false,false,true,true,true,false,true,true,false,false,false,false,false,false,false,false] rfl rfl (by kernel_rfl) (fun _ _ _ h => h) (Or.inl ⟨by rfl,?_⟩) hHeld ?_ ?_
      rotate_left
      ·rintro w' ⟨s0,s1,s2⟩
       go_simp
       with_reducible rfl
      rotate_left
      ·simp only [Act.put,List.setIfInBounds_toArray,List.set_cons_zero,List.set_cons_succ,i64_w,i32_w]
       rfl
      refine pure_ (i:=11) (N:=some 79) (v:=?_) (a':=?_) #[true,true,true,true,true,true,true,true,true,true,true,true,false,false,true,true,true,false,true,true,false,false,false,false,false,false,false,false] rfl rfl (by kernel_rfl) (fun _ _ _ h => h) (Or.inl ⟨by rfl,?_⟩) ?_ ?_
      rotate_left
      ·intro w'
       go_simp
       with_reducible rfl
      rotate_left
      ·simp only [Act.put,List.setIfInBounds_toArray,List.set_cons_zero,List.set_cons_succ,i64_w,i32_w]
       rfl
      refine pure_ (i:=12) (N:=some 80) (v:=?_) (a':=?_) #[true,true,true,true,true,true,true,true,true,true,true,true,true,false,true,true,true,false,true,true,false,false,false,false,false,false,false,false] rfl rfl (by kernel_rfl) (fun _ _ _ h => h) (Or.inl ⟨by rfl,?_⟩) ?_ ?_
      rotate_left
      ·intro w'
       go_simp
       with_reducible rfl
      rotate_left
      ·simp only [Act.put,List.setIfInBounds_toArray,List.set_cons_zero,List.set_cons_succ,i64_w,i32_w]
       rfl
      refine take_ (i:=13) (N:=some 81) (v:=?_) (a':=?_) #[true,true,true,true,true,true,true,true,true,true,true,true,true,true,true,true,true,false,true,true,false,false,false,false,false,false,false,false] rfl rfl (by kernel_rfl) (fun _ _ _ h => h) (Or.inl ⟨by rfl,?_⟩) hHeld ?_ ?_
      rotate_left
      ·rintro w' ⟨s0,s1,s2⟩
       go_simp
       with_reducible rfl
      rotate_left
      ·simp only [Act.put,List.setIfInBounds_toArray,List.set_cons_zero,List.set_cons_succ,i64_w,i32_w]
       rfl
      refine take_ (i:=17) (N:=some 85) (v:=?_) (a':=?_) #[true,true,true,true,true,true,true,true,true,true,true,true,true,true,true,true,true,true,true,true,false,false,false,false,false,false,false,false] rfl rfl (by kernel_rfl) (fun _ _ _ h => h) (Or.inl ⟨by rfl,?_⟩) hHeld ?_ ?_
      rotate_left
      ·rintro w' ⟨s0,s1,s2⟩
       go_simp
       with_reducible rfl
      rotate_left
      ·simp only [Act.put,List.setIfInBounds_toArray,List.set_cons_zero,List.set_cons_succ,i64_w,i32_w]
       rfl
      refine pure_ (i:=20) (N:=some 88) (v:=?_) (a':=?_) #[true,true,true,true,true,true,true,true,true,true,true,true,true,true,true,true,true,true,true,true,true,false,false,false,false,false,false,false] rfl rfl (by kernel_rfl) (fun _ _ _ h => h) (Or.inl ⟨by rfl,?_⟩) ?_ ?_
      rotate_left
      ·intro w'
       go_simp
       with_reducible rfl
      rotate_left
      ·simp only [Act.put,List.setIfInBounds_toArray,List.set_cons_zero,List.set_cons_succ,i64_w,i32_w]
       rfl
      refine pure_ (i:=21) (N:=some 89) (v:=?_) (a':=?_) #[true,true,true,true,true,true,true,true,true,true,true,true,true,true,true,true,true,true,true,true,true,true,false,false,false,false,false,false] rfl rfl (by kernel_rfl) (fun _ _ _ h => h) (Or.inl ⟨by rfl,?_⟩) ?_ ?_
      rotate_left
      ·intro w'
       go_simp
       with_reducible rfl
      rotate_left
      ·simp only [Act.put,List.setIfInBounds_toArray,List.set_cons_zero,List.set_cons_succ,i64_w,i32_w]
       rfl
      refine take_ (i:=22) (N:=some 90) (v:=?_) (a':=?_) #[true,true,true,true,true,true,true,true,true,true,true,true,true,true,true,true,true,true,true,true,true,true,true,false,false,false,false,false] rfl rfl (by kernel_rfl) (fun _ _ _ h => h) (Or.inl ⟨by rfl,?_⟩) hHeld ?_ ?_
      rotate_left
      ·rintro w' ⟨s0,s1,s2⟩
       go_simp
       with_reducible rfl
      rotate_left
      ·simp only [Act.put,List.setIfInBounds_toArray,List.set_cons_zero,List.set_cons_succ,i64_w,i32_w]
       rfl
      refine one_ (i:=23) (N:=some 91) #[true,true,true,true,true,true,true,true,true,true,true,true,true,true,true,true,true,true,true,true,true,true,true,true,false,false,false,false] rfl rfl (by kernel_rfl) (by decide) (fun K hK => ?_)
      refine goes_ Tryd.func24 (by kernel_rfl) rfl #[.slice A3 (rd_Ent M (j:Int)).fields.length c3,.bool true] (by rfl) rfl rfl (by simp only [List.map_toArray,List.map_cons,List.map_nil];rfl) ?_
      refine (link_count.calls kn A3 c3 (rd_Ent M (j:Int)).fields true _ wr.drew (Kd.C_below HE.out.g3 HBD.out) HE.out.l3 HKN.out).mono ?_
      rintro _ w8 ⟨rfl,hb8⟩
      refine ⟨_,rfl,?_⟩
      have HP8:=Aside0.mk (HPD.out.below hb8)
      have HB8:=Aside0.mk (HBD.out.trans (hb8.mono HBD.out.size))
      clear hb8
      have r0:w8.cell? ⟨pb,0,none⟩=some (.slice (some ad) L.length c'):=(blk_cell HP8.out.P.blk 0).trans rfl
      have r1:=bl_cell HB8.out HE.out.e6
      have r2:=bl_cell HB8.out HE.out.e3
      obtain ⟨st,hst⟩:∃ st,st=wrap64 ((rd_Ent M (j:Int)).statics + countV (rd_Ent M (j:Int)).fields true):=⟨_,rfl⟩
      have HST:=Aside0.mk hst
      clear hst
      obtain ⟨g2,cc2,hvv,hBg,hfr,⟨ov,hov⟩,hset⟩:=HP8.out.P.setE (rd_at (L:=M) (i:=i) (by rw [HML.out];exact HX.out)) 6 (by decide) (.int .i64 st) (x':={ rd_Ent M (i:Int) with statics:=st }) rfl (fun w1 ok1 cs h => ent_statics _ h)
      have had2:ad=⟨g2,0,none⟩:=by injection hvv with h1 _ _;injection h1
      have t0:w8.cell? ⟨(ad.add (i * 7)).block,(ad.add (i * 7)).off + 6,none⟩=some ov:=by rw [adr had2];exact hov
      have t1:w8.frozen? ⟨(ad.add (i * 7)).block,(ad.add (i * 7)).off + 6,none⟩=false:=by rw [adr had2];exact hfr
      have HSET:Aside0 (PSt w (w8.setCell ⟨(ad.add (i * 7)).block,(ad.add (i * 7)).off + 6,none⟩ (.int .i64 st)) pb w.heap.size n D (.slice (some ad) L.length c') (M.set i { rd_Ent M (i:Int) with statics:=st })):=⟨by rw [adr had2];exact ⟨hset,HP8.out.B.setCell (p:=⟨g2,i * 7 + 6,none⟩) hBg _⟩⟩
      rw [HST.out] at HSET
      clear hvv hBg hfr hov hset had2 HST
      refine hK.out _ _ ⟨r0,r1,r2⟩ (fun hHeld => ?_)
      clear hK K
      refine norm_ (a':=?_) ?_ ?_
      rotate_left
      ·show Act.put _ (some 91) _=_
       simp only [Act.put,List.setIfInBounds_toArray,List.set_cons_zero,List.set_cons_succ,i64_w,i32_w]
       rfl
      refine pure_ (i:=24) (N:=some 92) (v:=?_) (a':=?_) #[true,true,true,true,true,true,true,true,true,true,true,true,true,true,true,true,true,true,true,true,true,true,true,true,true,false,false,false] rfl rfl (by kernel_rfl) (fun _ _ _ h => h) (Or.inl ⟨by rfl,?_⟩) ?_ ?_
      rotate_left
      ·intro w'
       go_simp
       with_reducible rfl
      rotate_left
      ·simp only [Act.put,List.setIfInBounds_toArray,List.set_cons_zero,List.set_cons_succ,i64_w,i32_w]
       rfl
      refine pure_ (i:=25) (N:=some 93) (v:=?_) (a':=?_) #[true,true,true,true,true,true,true,true,true,true,true,true,true,true,true,true,true,true,true,true,true,true,true,true,true,true,false,false] rfl rfl (by kernel_rfl) (fun _ _ _ h => h) (Or.inl ⟨by rfl,?_⟩) ?_ ?_
      rotate_left
      ·intro w'
       go_simp
       with_reducible rfl
      rotate_left
      ·simp only [Act.put,List.setIfInBounds_toArray,List.set_cons_zero,List.set_cons_succ,i64_w,i32_w]
       rfl
      refine pure_ (i:=26) (N:=some 94) (v:=?_) (a':=?_) #[true,true,true,true,true,true,true,true,true,true,true,true,true,true,true,true,true,true,true,true,true,true,true,true,true,true,true,false] rfl rfl (by kernel_rfl) (fun _ _ _ h => h) (Or.inl ⟨by rfl,?_⟩) ?_ ?_
      rotate_left
      ·intro w'
       go_simp
       with_reducible rfl
      rotate_left
      ·simp only [Act.put,List.setIfInBounds_toArray,List.set_cons_zero,List.set_cons_succ,i64_w,i32_w]
       rfl
      refine last_ (i:=27) (N:=none) #[true,true,true,true,true,true,true,true,true,true,true,true,true,true,true,true,true,true,true,true,true,true,true,true,true,true,true,true] rfl rfl (by kernel_rfl) (by decide) (fun K hK => ?_)
      refine skip_ (w1:=?_) (by rfl) rfl ?_ ?_
      rotate_left
      ·go_simp
       rfl
      refine hK.out _ _ ?_
      clear hK K
      refine done_ (by kernel_rfl) ?_
      clear hHeld q0 q1 q2 r0 r1 r2 t0 t1
      have HNEW:Aside0 (PSt w (w8.setCell ⟨(ad.add (i * 7)).block,(ad.add (i * 7)).off + 6,none⟩ (.int .i64 (wrap64 ((rd_Ent M (j:Int)).statics + countV (rd_Ent M (j:Int)).fields true)))) pb w.heap.size n D (.slice (some ad) L.length c') (statV L (i + 1))):=⟨by
       have e:statV L (i + 1)=M.set i { rd_Ent M (i:Int) with statics:=wrap64 ((rd_Ent M (j:Int)).statics + countV (rd_Ent M (j:Int)).fields true) }:=by
        simp only [statV]
        rw [if_pos h0n,← HM.out]
        unfold statS
        rw [show ((i:Int) - 1)=(j:Int) by have:=HJ.out;omega]
       rw [e]
       exact HSET.out⟩
      clear HSET HP8 HB8 HPD HBD HP hsub
      go_wp2
      go_roundw
      case measure =>
       rw [intOf_i64,intOf_i64]
       have h1:=HX.out
       have h2:=HLN.out
       first|omega|(unfold wrap64;omega)
      case rel =>
       have h1:=HX.out
       have h2:=HLN.out
       exact ⟨i + 1,congrArg (Value.int .i64) (by first|omega|(unfold wrap64;omega)),⟨h1⟩,HNEW⟩
     have hpx:decide ((i:Int) < (L.length:Int))=false:=decide_eq_false hx
     have hpn:¬ i < L.length:=by omega
     have e:i=L.length:=by have:=HI.out;omega
     obtain ⟨M0,hM0⟩:∃ M0,M0=statV L L.length:=⟨_,rfl⟩
     have HM0:=Aside0.mk hM0
     have HP1:Aside0 (PSt w wr pb w.heap.size n D (.slice (some ad) L.length c') (slotW M0 (dOf L) 0)):=⟨by have h:=HP.out;rw [e,← hM0] at h;exact h⟩
     have HSL:Aside0 (SameE L M0):=⟨by rw [hM0];exact statV_same L _⟩
     have z0:=(blk_cell HP1.out.P.blk 0).trans rfl
     clear hx e HP HI hM0
     go_wp2_with fail
     clear z0 hpx hpn
     go_loopw [101] (fun v101 wq => ∃ i:Nat,v101=.int .i64 (i:Int)∧Aside0 (i≤L.length)∧Aside0 (PSt w wq pb w.heap.size n D (.slice (some ad) L.length c') (slotW M0 (dOf L) i))) (fun v101 _ => ((L.length:Int) - intOf v101).toNat)
     case atStart => exact ⟨0,rfl,⟨Nat.zero_le _⟩,HP1⟩
     case round =>
      clear HP1
      rename_i i6
      obtain ⟨i,rfl,HI,HP⟩:=hrel
      by_cases hx:(i:Int) < (L.length:Int)
      case neg =>
       have hpx:decide ((i:Int) < (L.length:Int))=false:=decide_eq_false hx
       have hpn:¬ i < L.length:=by omega
       have e:i=L.length:=by have:=HI.out;omega
       have hr2:=HR4.out
       have HPF:Aside0 (PSt w wr pb w.heap.size n D (.slice (some ad) L.length c') (finV L)):=⟨by have h:=HP.out;rw [e,HM0.out] at h;exact h⟩
       clear HR4 hx e HP HI
       subst hr2
       go_wp2
       go_ret2
       exact ⟨_,rfl,⟨pb,rfl,HPF.out.P.pc⟩,HPF.out.B⟩
      have hpx:decide ((i:Int) < (L.length:Int))=true:=decide_eq_true hx
      have hpn:i < L.length:=by omega
      have HX:=Aside0.mk hpn
      obtain ⟨M,hM⟩:∃ M,M=slotW M0 (dOf L) i:=⟨_,rfl⟩
      rw [← hM] at HP
      have HM:=Aside0.mk hM
      have HSE:Aside0 (SameE L M):=⟨by rw [hM];exact HSL.out.trans (slotW_same M0 _ i)⟩
      have HML:Aside0 (M.length=L.length):=⟨HSE.out.len⟩
      have HSM:Aside0 (SmallL M):=⟨HSE.out.small HCH.out.2.1⟩
      have HCM:Aside0 (Chain M (dOf L)):=⟨HSE.out.chain HCH.out.1⟩
      have hjl:(i:Int) < (M.length:Int):=by rw [HML.out];exact hx
      obtain ⟨A1,c1,hv1,hl1,hC1⟩:=Kd.R_reads HP.out.P.rows
      obtain ⟨a1,s1,A3,c3,A4,c4,e1,hE⟩:=at_Ent hC1 (i:Int) (by omega) hjl
      have ea:ad=a1:=by injection hv1 with q1;rw [e1] at q1;injection q1
      subst ea
      rw [Int.toNat_natCast] at hE
      have HE:=Aside0.mk hE
      have p1:0≤(i:Int):=by omega
      replace p1:=eq_true p1
      replace hx:=eq_true hx
      clear hM hjl hv1 hl1 hC1 e1 hE
      go_upto_region 32 with fail
      have HPD:=Aside0.mk (HP.out.below (below_drew (Below.refl wr.heap.size wr)))
      have HBD:=Aside0.mk (below_drew (Below.refl wr.heap.size wr))
      have q0:wr.drew.cell? ⟨pb,0,none⟩=some (.slice (some ad) L.length c'):=(blk_cell HPD.out.P.blk 0).trans rfl
      have q1:=bl_cell HBD.out HE.out.e2
      refine start_ (n:=19) (S:=fun w' => w'.cell? ⟨pb,0,none⟩=some (.slice (some ad) L.length c')∧w'.cell? ⟨(ad.add (i * 7)).block,(ad.add (i * 7)).off + 2,none⟩=some (.int .i64 (rd_Ent M (i:Int)).super)) (ds:=[18]) #[false,false,false,false,false,false,false,false,false,false,false,false,false,false,false,false,false,false,false] (by kernel_rfl) rfl rfl ⟨q0,q1⟩ (fun hHeld => ?_)
      refine pure_ (i:=0) (N:=some 104) (v:=?_) (a':=?_) #[true,false,false,false,false,false,false,false,false,false,false,false,false,false,false,false,false,false,false] rfl rfl (by kernel_rfl) (fun _ _ _ h => h) (Or.inl ⟨by rfl,?_⟩) ?_ ?_
      rotate_left
      ·intro w'
       go_simp
       with_reducible rfl
      rotate_left
      ·simp only [Act.put,List.setIfInBounds_toArray,List.set_cons_zero,List.set_cons_succ,i64_w,i32_w]
       rfl
      refine pure_ (i:=1) (N:=some 105) (v:=?_) (a':=?_) #[true,true,false,false,false,false,false,false,false,false,false,false,false,false,false,false,false,false,false] rfl rfl (by kernel_rfl) (fun _ _ _ h => h) (Or.inl ⟨by rfl,?_⟩) ?_ ?_
      rotate_left
      ·intro w'
       go_simp
       with_reducible rfl
      rotate_left
      ·simp only [Act.put,List.setIfInBounds_toArray,List.set_cons_zero,List.set_cons_succ,i64_w,i32_w]
       rfl
      refine pure_ (i:=2) (N:=some 106) (v:=?_) (a':=?_) #[true,true,true,false,false,false,false,false,false,false,false,false,false,false,false,false,false,false,false] rfl rfl (by kernel_rfl) (fun _ _ _ h => h) (Or.inl ⟨by rfl,?_⟩) ?_ ?_
      rotate_left
      ·intro w'
       go_simp
       with_reducible rfl
      rotate_left
      ·simp only [Act.put,List.setIfInBounds_toArray,List.set_cons_zero,List.set_cons_succ,i64_w,i32_w]
       rfl
      refine pure_ (i:=4) (N:=some 108) (v:=?_) (a':=?_) #[true,true,true,false,true,false,false,false,false,false,false,false,false,false,false,false,false,false,false] rfl rfl (by kernel_rfl) (fun _ _ _ h => h) (Or.inl ⟨by rfl,?_⟩) ?_ ?_
      rotate_left
      ·intro w'
       go_simp
       with_reducible rfl
      rotate_left
      ·simp only [Act.put,List.setIfInBounds_toArray,List.set_cons_zero,List.set_cons_succ,i64_w,i32_w]
       rfl
      refine pure_ (i:=5) (N:=some 109) (v:=?_) (a':=?_) #[true,true,true,false,true,true,false,false,false,false,false,false,false,false,false,false,false,false,false] rfl rfl (by kernel_rfl) (fun _ _ _ h => h) (Or.inl ⟨by rfl,?_⟩) ?_ ?_
      rotate_left
      ·intro w'
       go_simp
       with_reducible rfl
      rotate_left
      ·simp only [Act.put,List.setIfInBounds_toArray,List.set_cons_zero,List.set_cons_succ,i64_w,i32_w]
       rfl
      refine pure_ (i:=6) (N:=some 110) (v:=?_) (a':=?_) #[true,true,true,false,true,true,true,false,false,false,false,false,false,false,false,false,false,false,false] rfl rfl (by kernel_rfl) (fun _ _ _ h => h) (Or.inl ⟨by rfl,?_⟩) ?_ ?_
      rotate_left
      ·intro w'
       go_simp
       with_reducible rfl
      rotate_left
      ·simp only [Act.put,List.setIfInBounds_toArray,List.set_cons_zero,List.set_cons_succ,i64_w,i32_w]
       rfl
      refine pure_ (i:=7) (N:=some 111) (v:=?_) (a':=?_) #[true,true,true,false,true,true,true,true,false,false,false,false,false,false,false,false,false,false,false] rfl rfl (by kernel_rfl) (fun _ _ _ h => h) (Or.inl ⟨by rfl,?_⟩) ?_ ?_
      rotate_left
      ·intro w'
       go_simp
       with_reducible rfl
      rotate_left
      ·simp only [Act.put,List.setIfInBounds_toArray,List.set_cons_zero,List.set_cons_succ,i64_w,i32_w]
       rfl
      refine pure_ (i:=8) (N:=some 112) (v:=?_) (a':=?_) #[true,true,true,false,true,true,true,true,true,false,false,false,false,false,false,false,false,false,false] rfl rfl (by kernel_rfl) (fun _ _ _ h => h) (Or.inl ⟨by rfl,?_⟩) ?_ ?_
      rotate_left
      ·intro w'
       go_simp
       with_reducible rfl
      rotate_left
      ·simp only [Act.put,List.setIfInBounds_toArray,List.set_cons_zero,List.set_cons_succ,i64_w,i32_w]
       rfl
      refine pure_ (i:=10) (N:=some 114) (v:=?_) (a':=?_) #[true,true,true,false,true,true,true,true,true,false,true,false,false,false,false,false,false,false,false] rfl rfl (by kernel_rfl) (fun _ _ _ h => h) (Or.inl ⟨by rfl,?_⟩) ?_ ?_
      rotate_left
      ·intro w'
       go_simp
       with_reducible rfl
      rotate_left
      ·simp only [Act.put,List.setIfInBounds_toArray,List.set_cons_zero,List.set_cons_succ,i64_w,i32_w]
       rfl
      refine take_ (i:=3) (N:=some 107) (v:=?_) (a':=?_) #[true,true,true,true,true,true,true,true,true,false,true,false,false,false,false,false,false,false,false] rfl rfl (by kernel_rfl) (fun _ _ _ h => h) (Or.inl ⟨by rfl,?_⟩) hHeld ?_ ?_
      rotate_left
      ·rintro w' ⟨s0,s1⟩
       go_simp
       with_reducible rfl
      rotate_left
      ·simp only [Act.put,List.setIfInBounds_toArray,List.set_cons_zero,List.set_cons_succ,i64_w,i32_w]
       rfl
      refine take_ (i:=9) (N:=some 113) (v:=?_) (a':=?_) #[true,true,true,true,true,true,true,true,true,true,true,false,false,false,false,false,false,false,false] rfl rfl (by kernel_rfl) (fun _ _ _ h => h) (Or.inl ⟨by rfl,?_⟩) hHeld ?_ ?_
      rotate_left
      ·rintro w' ⟨s0,s1⟩
       go_simp
       with_reducible rfl
      rotate_left
      ·simp only [Act.put,List.setIfInBounds_toArray,List.set_cons_zero,List.set_cons_succ,i64_w,i32_w]
       rfl
      refine pure_ (i:=11) (N:=some 115) (v:=?_) (a':=?_) #[true,true,true,true,true,true,true,true,true,true,true,true,false,false,false,false,false,false,false] rfl rfl (by kernel_rfl) (fun _ _ _ h => h) (Or.inl ⟨by rfl,?_⟩) ?_ ?_
      rotate_left
      ·intro w'
       go_simp
       with_reducible rfl
      rotate_left
      ·simp only [Act.put,List.setIfInBounds_toArray,List.set_cons_zero,List.set_cons_succ,i64_w,i32_w]
       rfl
      refine pure_ (i:=12) (N:=some 116) (v:=?_) (a':=?_) #[true,true,true,true,true,true,true,true,true,true,true,true,true,false,false,false,false,false,false] rfl rfl (by kernel_rfl) (fun _ _ _ h => h) (Or.inl ⟨by rfl,?_⟩) ?_ ?_
      rotate_left
      ·intro w'
       go_simp
       with_reducible rfl
      rotate_left
      ·simp only [Act.put,List.setIfInBounds_toArray,List.set_cons_zero,List.set_cons_succ,i64_w,i32_w]
       rfl
      refine take_ (i:=13) (N:=some 117) (v:=?_) (a':=?_) #[true,true,true,true,true,true,true,true,true,true,true,true,true,true,false,false,false,false,false] rfl rfl (by kernel_rfl) (fun _ _ _ h => h) (Or.inl ⟨by rfl,?_⟩) hHeld ?_ ?_
      rotate_left
      ·rintro w' ⟨s0,s1⟩
       go_simp
       with_reducible rfl
      rotate_left
      ·simp only [Act.put,List.setIfInBounds_toArray,List.set_cons_zero,List.set_cons_succ,i64_w,i32_w]
       rfl
      refine one_ (i:=14) (N:=some 118) #[true,true,true,true,true,true,true,true,true,true,true,true,true,true,true,false,false,false,false] rfl rfl (by kernel_rfl) (by decide) (fun K hK => ?_)
      refine goes_ Tryd.func10 (by kernel_rfl) rfl #[pp pb,.int .i64 (rd_Ent M (i:Int)).super] (by rfl) rfl rfl (by simp only [List.map_toArray,List.map_cons,List.map_nil];rfl) ?_
      refine (link_Slots.calls HCM.out (dOf_le HLN.out.2) HSM.out (rd_Ent M (i:Int)).super (HG.out.below HPD.out.B) HPD.out.P.pc).mono ?_
      rintro _ w8 ⟨vs,rfl,hR8,hb8⟩
      refine ⟨_,rfl,?_⟩
      obtain ⟨A8,c8,rfl⟩:=Kd.R_slice hR8
      have HP8:=Aside0.mk (HPD.out.below hb8)
      have HB8:=Aside0.mk (HBD.out.trans (hb8.mono HBD.out.size))
      clear hb8 hR8
      have r0:w8.cell? ⟨pb,0,none⟩=some (.slice (some ad) L.length c'):=(blk_cell HP8.out.P.blk 0).trans rfl
      have r1:=bl_cell HB8.out HE.out.e2
      obtain ⟨g2,cc2,hvv,hBg,hfr,⟨ov,hov⟩,hset⟩:=HP8.out.P.setE (rd_at (L:=M) (i:=i) (by rw [HML.out];exact HX.out)) 5 (by decide) (.int .i64 ((slotsV M (dOf L) (rd_Ent M (i:Int)).super).length:Int)) (x':={ rd_Ent M (i:Int) with slots:=((slotsV M (dOf L) (rd_Ent M (i:Int)).super).length:Int) }) rfl (fun w1 ok1 cs h => ent_slots _ h)
      have had2:ad=⟨g2,0,none⟩:=by injection hvv with h1 _ _;injection h1
      have t0:w8.cell? ⟨(ad.add (i * 7)).block,(ad.add (i * 7)).off + 5,none⟩=some ov:=by rw [adr had2];exact hov
      have t1:w8.frozen? ⟨(ad.add (i * 7)).block,(ad.add (i * 7)).off + 5,none⟩=false:=by rw [adr had2];exact hfr
      have HSET:Aside0 (PSt w (w8.setCell ⟨(ad.add (i * 7)).block,(ad.add (i * 7)).off + 5,none⟩ (.int .i64 ((slotsV M (dOf L) (rd_Ent M (i:Int)).super).length:Int))) pb w.heap.size n D (.slice (some ad) L.length c') (M.set i { rd_Ent M (i:Int) with slots:=((slotsV M (dOf L) (rd_Ent M (i:Int)).super).length:Int) })):=⟨by rw [adr had2];exact ⟨hset,HP8.out.B.setCell (p:=⟨g2,i * 7 + 5,none⟩) hBg _⟩⟩
      clear hvv hBg hfr hov hset had2
      refine hK.out _ _ ⟨r0,r1⟩ (fun hHeld => ?_)
      clear hK K
      refine norm_ (a':=?_) ?_ ?_
      rotate_left
      ·show Act.put _ (some 118) _=_
       simp only [Act.put,List.setIfInBounds_toArray,List.set_cons_zero,List.set_cons_succ,i64_w,i32_w]
       rfl
      refine pure_ (i:=15) (N:=some 119) (v:=?_) (a':=?_) #[true,true,true,true,true,true,true,true,true,true,true,true,true,true,true,true,false,false,false] rfl rfl (by kernel_rfl) (fun _ _ _ h => h) (Or.inl ⟨by rfl,?_⟩) ?_ ?_
      rotate_left
      ·intro w'
       go_simp
       with_reducible rfl
      rotate_left
      ·simp only [Act.put,List.setIfInBounds_toArray,List.set_cons_zero,List.set_cons_succ,i64_w,i32_w]
       rfl
      refine pure_ (i:=16) (N:=some 120) (v:=?_) (a':=?_) #[true,true,true,true,true,true,true,true,true,true,true,true,true,true,true,true,true,false,false] rfl rfl (by kernel_rfl) (fun _ _ _ h => h) (Or.inl ⟨by rfl,?_⟩) ?_ ?_
      rotate_left
      ·intro w'
       go_simp
       with_reducible rfl
      rotate_left
      ·simp only [Act.put,List.setIfInBounds_toArray,List.set_cons_zero,List.set_cons_succ,i64_w,i32_w]
       rfl
      refine pure_ (i:=17) (N:=some 121) (v:=?_) (a':=?_) #[true,true,true,true,true,true,true,true,true,true,true,true,true,true,true,true,true,true,false] rfl rfl (by kernel_rfl) (fun _ _ _ h => h) (Or.inl ⟨by rfl,?_⟩) ?_ ?_
      rotate_left
      ·intro w'
       go_simp
       with_reducible rfl
      rotate_left
      ·simp only [Act.put,List.setIfInBounds_toArray,List.set_cons_zero,List.set_cons_succ,i64_w,i32_w]
       rfl
      refine last_ (i:=18) (N:=none) #[true,true,true,true,true,true,true,true,true,true,true,true,true,true,true,true,true,true,true] rfl rfl (by kernel_rfl) (by decide) (fun K hK => ?_)
      refine skip_ (w1:=?_) (by rfl) rfl ?_ ?_
      rotate_left
      ·go_simp
       rfl
      refine hK.out _ _ ?_
      clear hK K
      refine done_ (by kernel_rfl) ?_
      clear hHeld q0 q1 r0 r1 t0 t1
      have HNEW:Aside0 (PSt w (w8.setCell ⟨(ad.add (i * 7)).block,(ad.add (i * 7)).off + 5,none⟩ (.int .i64 ((slotsV M (dOf L) (rd_Ent M (i:Int)).super).length:Int))) pb w.heap.size n D (.slice (some ad) L.length c') (slotW M0 (dOf L) (i + 1))):=⟨by
       have e:slotW M0 (dOf L) (i + 1)=M.set i { rd_Ent M (i:Int) with slots:=((slotsV M (dOf L) (rd_Ent M (i:Int)).super).length:Int) }:=by
        simp only [slotW]
        rw [← HM.out]
       rw [e]
       exact HSET.out⟩
      clear HSET HP8 HB8 HPD HBD HP
      go_wp2
      go_roundw
      case measure =>
       rw [intOf_i64,intOf_i64]
       have h1:=HX.out
       have h2:=HLN.out
       first|omega|(unfold wrap64;omega)
      case rel =>
       have h1:=HX.out
       have h2:=HLN.out
       exact ⟨i + 1,congrArg (Value.int .i64) (by first|omega|(unfold wrap64;omega)),⟨h1⟩,HNEW⟩
end Go.Proofs.YtoonhpcjcimecaaDoor.Px
namespace Go.Proofs.YtoonhpcjcimecaaDoor.Px
open Go.RowKit Go.Maps Go.Proofs.YtoonhpcjcimecaaDoorW.PrintWords Go.Proofs.YtoonhpcjcimecaaDoorW.PrintLast Go.Proofs.YtoonhpcjcimecaaDoorW.PrintMore
set_option linter.unusedVariables false
set_option linter.unusedSimpArgs false
def upG (s:ByteArray):List Pai→ByteArray × Bool
 | [] => (⟨#[]⟩,false)
 | q :: l => if q.f0.toList=s.toList then (q.f1,true) else upG s l
theorem rd_pai (l:List Pai) (i:Nat) (h:i < l.length):rd_T74 l (i:Int)=l[i]:=by
 unfold rd_T74
 rw [Int.toNat_natCast,List.getD_eq_getElem?_getD,List.getElem?_eq_getElem h]
 rfl
set_option maxHeartbeats 8000000 in
set_option maxRecDepth 100000 in
theorem below_up.calls {w:World} {b:Nat} {A:Option Addr} {c:Nat} {l:List Pai} (s:ByteArray) (hl:l.length≤1048576) (hc:w.cell? ⟨b,0,none⟩=some (.slice A l.length c)) (hC:Kd.C kPai w A l.length l) :
  Calls Tryd.prog 29 #[.string s,.pointer (some ⟨b,0,none⟩)] w fun e w' => e=.returned (.tuple #[.string (upG s l).1,.bool (upG s l).2])∧Below w.heap.size w w':=by
 have HC:=Aside0.mk hC
 have HL:=Aside0.mk hl
 clear hC hl
 obtain ⟨r,hr⟩:∃ r,r=upG s l:=⟨_,rfl⟩
 rw [← hr]
 have HR:=Aside0.mk hr
 have HB:=Aside0.mk (Below.refl w.heap.size w)
 clear hr
 go_enter Tryd.func29,Tryd.ntmps29
 go_wp2_with fail
 go_loopw [9] (fun v9 wr => ∃ i:Nat,v9=.int .i64 (i:Int)∧Aside0 (i≤l.length)∧Aside0 (r=upG s (l.drop i))∧Aside0 (Below w.heap.size w wr)) (fun v9 _ => ((l.length:Int) - intOf v9).toNat)
 case atStart => exact ⟨0,rfl,⟨Nat.zero_le _⟩,⟨HR.out⟩,HB⟩
 case round =>
  clear HR HB
  obtain ⟨i,rfl,HI,HR,HB⟩:=hrel
  by_cases hx:(i:Int) < (l.length:Int)
  ·have hpx:decide ((i:Int) < (l.length:Int))=true:=decide_eq_true hx
   have hpn:i < l.length:=by omega
   have HX:=Aside0.mk hpn
   have p1:0≤(i:Int):=by omega
   obtain ⟨ad,e1,x0,x1⟩:=at_T74 HC.out (i:Int) p1 hx
   rw [rd_pai l i hpn,Int.toNat_natCast] at x0 x1
   cases e1
   replace x0:=hb_ HB x0
   replace x1:=hb_ HB x1
   replace p1:=eq_true p1
   replace hx:=eq_true hx
   have hr:=HR.out
   rw [List.drop_eq_getElem_cons hpn] at hr
   unfold upG at hr
   by_cases hq:(l[i]).f0.toList=s.toList
   ·rw [if_pos hq] at hr
    subst hr
    have hqb:((l[i]).f0.toList==s.toList)=true:=beq_iff_eq.mpr hq
    clear HR
    go_wp2_with (first|((with_reducible refine gate_dst (N:=6) rfl ?_);refine box_event ?hg (N:=6) ?hd (cs:=#[.string (⟨#[]⟩:ByteArray),.string (⟨#[]⟩:ByteArray)]) (t:=74) ?hr ?_;(case hd => rfl);(case hg => rfl);(case hr => first|(go_simp;done)|(go_simp;rfl));intro gb hg w7 hbox hb;have n0_:=Aside0.mk (below_step bl_ hb);have BK:=Aside0.mk hbox;have GW:=Aside0.mk ((by rw [hg];exact (below_size bl_):w.heap.size≤gb));clear HB;have HB:=n0_;clear n0_ hb hbox hg;have z0:=(blk_cell BK.out 0).trans rfl;have z1:=(blk_cell BK.out 1).trans rfl;have y0:=blk_frozen BK.out 0;have y1:=blk_frozen BK.out 1))
    go_ret2
    exact ⟨rfl,bl_⟩
   ·rw [if_neg hq] at hr
    have HR2:=Aside0.mk hr
    have hqb:((l[i]).f0.toList==s.toList)=false:=beq_eq_false_iff_ne.mpr hq
    clear HR hr
    go_wp2_with (first|((with_reducible refine gate_dst (N:=6) rfl ?_);refine box_event ?hg (N:=6) ?hd (cs:=#[.string (⟨#[]⟩:ByteArray),.string (⟨#[]⟩:ByteArray)]) (t:=74) ?hr ?_;(case hd => rfl);(case hg => rfl);(case hr => first|(go_simp;done)|(go_simp;rfl));intro gb hg w7 hbox hb;have n0_:=Aside0.mk (below_step bl_ hb);have BK:=Aside0.mk hbox;have GW:=Aside0.mk ((by rw [hg];exact (below_size bl_):w.heap.size≤gb));clear HB;have HB:=n0_;clear n0_ hb hbox hg;have z0:=(blk_cell BK.out 0).trans rfl;have z1:=(blk_cell BK.out 1).trans rfl;have y0:=blk_frozen BK.out 0;have y1:=blk_frozen BK.out 1))
    go_roundw
    case measure => rw [intOf_i64,intOf_i64];exact fewerN HX.out HL.out
    case rel => exact ⟨i + 1,congrArg (Value.int .i64) (wrapS HX.out HL.out),⟨HX.out⟩,HR2,⟨bl_⟩⟩
  ·have hpx:decide ((i:Int) < (l.length:Int))=false:=decide_eq_false hx
   have hpn:¬ i < l.length:=by omega
   have hr:=HR.out
   rw [List.drop_eq_nil_of_le (by omega)] at hr
   subst hr
   clear hx HR
   go_wp2
   go_ret2
   exact ⟨rfl,bl_⟩
def belowV (l:List Pai):Nat→ByteArray→ByteArray→Bool
 | 0,_,_ => false
 | m + 1,a,b => if a.toList=b.toList then true else if (upG a l).2=true then belowV l m (upG a l).1 b else false
set_option maxHeartbeats 8000000 in
set_option maxRecDepth 100000 in
theorem kind_Below.calls {w:World} {A:Option Addr} {c:Nat} {l:List Pai} (a b:ByteArray) (hl:l.length≤1048576) (hC:Kd.C kPai w A l.length l) :
  Calls Tryd.prog 13 #[.slice A l.length c,.string a,.string b] w fun e w' => e=.returned (.bool (belowV l (l.length + 1) a b))∧Below w.heap.size w w':=by
 have HC:=Aside0.mk hC
 have HL:=Aside0.mk hl
 clear hC hl
 obtain ⟨r,hr⟩:∃ r,r=belowV l (l.length + 1) a b:=⟨_,rfl⟩
 rw [← hr]
 have HR:=Aside0.mk hr
 clear hr
 go_enter Tryd.func13,Tryd.ntmps13
 go_upto_region 1 with fail
 obtain ⟨W,hW⟩:∃ W,W=w.alloc (.cells #[.slice A l.length c] 28 (0,0)):=⟨_,rfl⟩
 obtain ⟨g,hg⟩:∃ g,g=w.heap.size:=⟨_,rfl⟩
 rw [← hW,← hg]
 have HK:Aside0 (W.heap[g]?=some (.cells #[.slice A l.length c] 28 (0,0))):=⟨by rw [hW,hg];exact blk_new _ _⟩
 have HBW:Aside0 (Below w.heap.size w W):=⟨by rw [hW];exact below_alloc (Below.refl _ _) _⟩
 clear hW hg
 go_wp2_with fail
 go_loopw [1,8,9] (fun v1 v8 v9 wr => ∃ (x:ByteArray) (th:Bool) (n:Nat),v1=.string x∧v8=.bool th∧v9=.int .i64 (n:Int)∧Aside0 (n≤l.length + 1)∧Aside0 (r=if th=true then belowV l (l.length + 1 - n) x b else false)∧Aside0 (Below W.heap.size W wr)) (fun _ _ v9 _ => ((l.length:Int) + 1 - intOf v9).toNat)
 case atStart => exact ⟨a,true,0,rfl,rfl,rfl,⟨Nat.zero_le _⟩,⟨by rw [if_pos rfl];exact HR.out⟩,⟨Below.refl _ _⟩⟩
 case round =>
  clear HR
  obtain ⟨x,th,n,rfl,rfl,rfl,HN,HR,HB⟩:=hrel
  have ct:wr.cell? ⟨g,0,none⟩=some (.slice A l.length c):=(blk_cell ((HB.out.block _ (blk_lt HK.out)).trans HK.out) 0).trans rfl
  have CT:=Aside0.mk ct
  cases th with
  | false =>
   have hr:=HR.out
   simp only [Bool.false_eq_true,if_false] at hr
   subst hr
   clear HR
   go_wp2
   go_ret
   exact ⟨rfl,HBW.out.trans (HB.out.mono HBW.out.size)⟩
  | true =>
   have hr:=HR.out
   rw [if_pos rfl] at hr
   by_cases hx:(n:Int)≤(l.length:Int)
   ·have hpx:decide ((n:Int)≤(l.length:Int))=true:=decide_eq_true hx
    have hpn:n≤l.length:=by omega
    have HX:=Aside0.mk hpn
    rw [show l.length + 1 - n=(l.length - n) + 1 by omega] at hr
    unfold belowV at hr
    clear hx
    by_cases hq:x.toList=b.toList
    ·rw [if_pos hq] at hr
     subst hr
     have hqb:(x.toList==b.toList)=true:=beq_iff_eq.mpr hq
     clear HR
     go_wp2
     go_ret
     exact ⟨rfl,HBW.out.trans (HB.out.mono HBW.out.size)⟩
    ·rw [if_neg hq] at hr
     have HR2:=Aside0.mk hr
     have hqb:(x.toList==b.toList)=false:=beq_eq_false_iff_ne.mpr hq
     clear HR hr
     go_wp2_with fail
     refine (below_up.calls x HL.out CT.out (Kd.C_below HC.out (HBW.out.trans (HB.out.mono HBW.out.size)))).mono ?_
     rintro _ W2 ⟨rfl,hB2⟩
     have HB2:=Aside0.mk (HB.out.trans (hB2.mono HB.out.size))
     clear hB2 HB ct CT
     go_wp2
     go_roundw
     case measure =>
      rw [intOf_i64,intOf_i64]
      have h1:=HX.out
      have h2:=HL.out
      have e:wrap64 ((n:Int) + 1)=(n:Int) + 1:=by unfold wrap64;omega
      rw [e]
      omega
     case rel =>
      have h1:=HX.out
      have h2:=HL.out
      refine ⟨_,_,n + 1,rfl,rfl,congrArg (Value.int .i64) (by unfold wrap64;omega),⟨by omega⟩,⟨?_⟩,HB2⟩
      rw [HR2.out,show l.length + 1 - (n + 1)=l.length - n by omega]
   ·have hpx:decide ((n:Int)≤(l.length:Int))=false:=decide_eq_false hx
    have hpn:¬ n≤l.length:=by omega
    rw [show l.length + 1 - n=0 by omega] at hr
    subst hr
    clear HR hx
    go_wp2
    go_ret
    exact ⟨rfl,HBW.out.trans (HB.out.mono HBW.out.size)⟩
end Go.Proofs.YtoonhpcjcimecaaDoor.Px
namespace Go.Proofs.YtoonhpcjcimecaaDoor.Px
open Go.RowKit Go.Maps Go.Proofs.YtoonhpcjcimecaaDoorW.PrintWords Go.Proofs.YtoonhpcjcimecaaDoorW.PrintLast Go.Proofs.YtoonhpcjcimecaaDoorW.PrintMore
set_option linter.unusedVariables false
set_option linter.unusedSimpArgs false
theorem sup1_nonneg {ns:List ByteArray} {L0:List Ent}:∀ (i:Nat) (L:List Ent),sup1 ns L0 i=some L→∀ (j:Nat) (x:Ent),0 < j→j < i→L[j]?=some x→0≤x.super:=by
 intro i
 induction i with
 | zero => intro L _ j x _ hj _;omega
 | succ i ih =>
  intro L h j x hj0 hj hx
  have hst:=sup1_st (i + 1) L h
  simp only [sup1] at h
  obtain ⟨L1,h1,h⟩:=Option.bind_eq_some_iff.mp h
  cases hx0:L0[i]? with
  | none =>
   rw [hx0] at h
   obtain rfl:=Option.some.inj h
   by_cases e:j=i
   ·subst e
    have h2:=(List.getElem?_eq_some_iff.1 hx).1
    have h3:=List.getElem?_eq_none_iff.1 hx0
    have:=hst.len
    omega
   ·exact ih L1 h1 j x hj0 (by omega) hx
  | some x0 =>
   rw [hx0] at h
   simp only [] at h
   by_cases h0:i=0
   ·omega
   ·rw [if_neg h0] at h
    cases hu:idxN ns (ownV x0.src).2 with
    | none => rw [hu] at h;cases h
    | some u =>
     rw [hu] at h
     simp only [] at h
     split at h
     ·cases h
     ·obtain rfl:=Option.some.inj h
      unfold setS at hx
      by_cases e:i=j
      ·subst e
       rw [List.getElem?_set_self (by have h2:=(List.getElem?_eq_some_iff.1 hx).1;rwa [List.length_set] at h2)] at hx
       obtain rfl:=Option.some.inj hx
       exact Int.natCast_nonneg u
      ·rw [List.getElem?_set_ne e] at hx
       exact ih L1 h1 j x hj0 (by omega) hx
theorem rd_at_ {L:List Ent} {i:Nat} (h:i < L.length):L[i]?=some (rd_Ent L (i:Int)):=by
 rw [rd_Ent_eq (List.getElem?_eq_getElem h)]
 exact List.getElem?_eq_getElem h
theorem namesG_all {ns:List ByteArray}:∀ (l:List Ent) (i:Nat),namesG ns l i=true→∀ (j:Nat) (x:Ent),l[j]?=some x→numZ ns x.name=((i + j:Nat):Int)∧typedV x.name=true
 | [],_,_,j,x,hx => by simp at hx
 | y :: l,i,h,j,x,hx => by
  simp only [namesG] at h
  split at h
  ·rename_i h1
   split at h
   ·rename_i h2
    cases j with
    | zero =>
     obtain rfl:y=x:=Option.some.inj hx
     exact ⟨h1,h2⟩
    | succ j =>
     have:=namesG_all l (i + 1) h j x hx
     rw [show i + 1 + j=i + (j + 1) by omega] at this
     exact this
   ·cases h
  ·cases h
theorem nil_list:(⟨#[]⟩:ByteArray).toList=[]:=by rw [Lib.toList_data]
theorem typed_empty:typedV ⟨#[]⟩=false:=by decide
structure Good (L:List Ent) (d:Int→Nat):Prop where
 chain:Chain L d
 pos:∀ a,0 < a→a < (L.length:Int)→0≤(rd_Ent L a).super
 one:∀ a b,0≤a→a < (L.length:Int)→0≤b→b < (L.length:Int)→(rd_Ent L a).name.toList=(rd_Ent L b).name.toList→a=b
 full:∀ a,0≤a→a < (L.length:Int)→(rd_Ent L a).name.toList ≠ []
 l13:13≤L.length
 len:L.length≤29
 small:SmallL L
 dle:∀ n,d n≤1048576
 root:(rd_Ent L 0).super=-1
theorem toList_inj {a b:ByteArray} (h:a.data.toList=b.data.toList):a=b:=by
 cases a with|mk x => cases b with|mk y => exact congrArg ByteArray.mk (Array.toList_inj.mp h)
theorem good_of {l:List Cl} {L:List Ent} (hF:∀ c ∈ l,FitCl c) (h:(buildV l).1=some L):∃ d,Good L d:=by
 unfold buildV at h
 split at h
 ·cases h
 rename_i hl
 split at h
 case isFalse => cases h
 cases hr:ruleL (l0V l) with
 | none => rw [hr] at h;cases h
 | some K =>
  rw [hr] at h
  obtain rfl:finV K=L:=Option.some.inj h
  have hM:SmallL (l0V l):=fun x hx => (l0V_all hF x hx).1
  have hlen:=l0V_len l
  have hsup:∀ x ∈ l0V l,x.super=-1:=entOf_super
  have ht:=rules_behind 5 (by omega) hr
  obtain ⟨c1,c2,c3,c4,c5,c6⟩:=tops_facts hsup (by omega) (by omega) ht
  have hS:SameE K (finV K):=finV_same K
  have hn1:∃ M,rulesTo (l0V l) 1=some M:=by
   cases h1:rulesTo (l0V l) 1 with
   | some M => exact ⟨M,rfl⟩
   | none =>
    have:=rules_none 1 5 (by omega) h1
    unfold ruleL at hr
    rw [this] at hr
    cases hr
  have hnm:namesV (l0V l)=true:=by
   obtain ⟨M,h1⟩:=hn1
   have h2:ruleStep 0 (l0V l)=some M:=h1
   simp only [ruleStep] at h2
   split at h2
   ·assumption
   ·cases h2
  have hnames:(finV K).map (·.name)=(l0V l).map (·.name):=hS.names.trans c2.names
  have hfl:(finV K).length=(l0V l).length:=hS.len.trans c3
  have hnum:∀ a:Int,0≤a→a < ((finV K).length:Int)→numZ ((l0V l).map (·.name)) (rd_Ent (finV K) a).name=a∧typedV (rd_Ent (finV K) a).name=true:=by
   intro a h0 h1
   obtain ⟨i,rfl⟩:∃ i:Nat,a=(i:Int):=⟨a.toNat,by omega⟩
   have hi:i < (finV K).length:=by omega
   have e1:((finV K).map (·.name))[i]?=some (rd_Ent (finV K) (i:Int)).name:=by
    rw [List.getElem?_map,List.getElem?_eq_getElem hi,rd_Ent_eq (List.getElem?_eq_getElem hi)]
    rfl
   rw [hnames,List.getElem?_map,List.getElem?_eq_getElem (by omega)] at e1
   have e2:((l0V l)[i]'(by omega)).name=(rd_Ent (finV K) (i:Int)).name:=Option.some.inj e1
   have:=namesG_all (l0V l) 0 hnm i _ (List.getElem?_eq_getElem (by omega))
   rw [e2,Nat.zero_add] at this
   exact this
  refine ⟨dOf K,hS.chain c1,?_,?_,?_,by omega,by omega,hS.small (c2.small hM),dOf_le (by omega),by rw [hS.super];exact c6⟩
  ·intro a h0 h1
   rw [hS.super]
   unfold topsV at ht
   obtain ⟨K1,hK,ht⟩:=Option.bind_eq_some_iff.mp ht
   split at ht
   ·obtain rfl:=Option.some.inj ht
    obtain ⟨i,rfl⟩:∃ i:Nat,a=(i:Int):=⟨a.toNat,by omega⟩
    exact sup1_nonneg _ _ hK i _ (by omega) (by omega) (rd_at_ (by omega))
   ·cases ht
  ·intro a b a0 a1 b0 b1 he
   have h1:=(hnum a a0 a1).1
   have h2:=(hnum b b0 b1).1
   have:(rd_Ent (finV K) a).name=(rd_Ent (finV K) b).name:=toList_inj (by rw [← Lib.toList_data,← Lib.toList_data];exact he)
   rw [this,h2] at h1
   exact h1.symm
  ·intro a h0 h1 he
   have h2:=(hnum a h0 h1).2
   have:(rd_Ent (finV K) a).name=⟨#[]⟩:=toList_inj (by rw [← Lib.toList_data,he])
   rw [this,typed_empty] at h2
   cases h2
section
variable {L:List Ent} {d:Int→Nat} (G:Good L d)
include G
theorem climb_zero:∀ (m:Nat) (a:Int),dUp d a≤m→0≤a→a < (L.length:Int)→climb L (dUp d a) a 0=0:=by
 intro m
 induction m with
 | zero => intro a hm h0 _;unfold dUp at hm;rw [if_pos h0] at hm;omega
 | succ m ih =>
  intro a hm h0 h1
  by_cases e:a=0
  ·subst e
   rw [show dUp d 0=d 0 + 1 from if_pos (by omega)]
   exact if_neg (fun h => h.2 rfl)
  ·rw [← climb_step G.chain h0 h1 e]
   obtain ⟨_,u2,u3⟩:=G.chain.up a h0 h1
   have up:=G.pos a (by omega) h1
   refine ih _ ?_ up u2
   have e1:dUp d a=d a + 1:=if_pos h0
   have e2:dUp d (rd_Ent L a).super=d (rd_Ent L a).super + 1:=if_pos up
   have:=u3 up
   omega
theorem climb_self (a:Int) (h0:0≤a):climb L (dUp d a) a a=a:=by
 rw [show dUp d a=d a + 1 from if_pos h0]
 exact if_neg (fun h => h.2 rfl)
theorem sub_zero (a:Int) (h0:0≤a) (h1:a < (L.length:Int)):subV L d a 0=true:=by
 unfold subV hasV
 rw [climb_zero G _ a (Nat.le_refl _) h0 h1]
 have:=G.l13
 simp
 omega
theorem sub_self (a:Int) (h0:0≤a) (h1:a < (L.length:Int)):subV L d a a=true:=by
 unfold subV hasV
 rw [climb_self G a h0]
 simp
 omega
theorem sub_super (a:Int) (h0:0 < a) (h1:a < (L.length:Int)):subV L d a (superV L a)=true:=by
 have hh:hasV L a=true:=decide_eq_true ⟨by omega,h1⟩
 have e:superV L a=(rd_Ent L a).super:=if_pos hh
 obtain ⟨_,u2,u3⟩:=G.chain.up a (by omega) h1
 have up:=G.pos a h0 h1
 have hne:a ≠ (rd_Ent L a).super:=fun h => by have:=u3 up;rw [← h] at this;omega
 rw [e]
 unfold subV
 rw [← climb_step G.chain (by omega) h1 hne,climb_self G _ up,hh,show hasV L (rd_Ent L a).super=true from decide_eq_true ⟨up,u2⟩]
 simp
theorem slots_super (a:Int) (h0:0≤a) (h1:a < (L.length:Int)):∃ t,slotsV L d a=slotsV L d (superV L a)++t:=by
 have hh:hasV L a=true:=decide_eq_true ⟨h0,h1⟩
 rw [show superV L a=(rd_Ent L a).super from if_pos hh,slots_eq G.chain hh]
 exact ⟨_,rfl⟩
def rk (L:List Ent) (d:Int→Nat) (a:Int):Nat:=(List.range L.length).countP (fun m:Nat => decide (d (m:Int) < d a))
omit G in
theorem countP_lt {l:List Nat} {p q:Nat→Bool} (hpq:∀ x,p x=true→q x=true) {y:Nat} (hy:y ∈ l) (hq:q y=true) (hp:p y=false):l.countP p < l.countP q:=by
 induction l with
 | nil => cases hy
 | cons x l ih =>
  have hle:l.countP p≤l.countP q:=List.countP_mono_left (fun z _ => hpq z)
  rw [List.countP_cons,List.countP_cons]
  rcases List.mem_cons.mp hy with rfl|hy
  ·rw [hq,hp]
   simp
   omega
  ·have:=ih hy
   by_cases h:p x=true
   ·rw [h,hpq x h];simp;omega
   ·rw [if_neg h];split <;> omega
theorem rk_super (a:Int) (h0:0≤a) (h1:a < (L.length:Int)) (up:0≤(rd_Ent L a).super):rk L d (rd_Ent L a).super < rk L d a:=by
 obtain ⟨_,u2,u3⟩:=G.chain.up a h0 h1
 have hd:=u3 up
 unfold rk
 refine countP_lt (y:=(rd_Ent L a).super.toNat) (fun x hx => ?_) (List.mem_range.mpr (by omega)) ?_ ?_
 ·have:=of_decide_eq_true hx
  exact decide_eq_true (by omega)
 ·rw [Int.toNat_of_nonneg up]
  exact decide_eq_true hd
 ·rw [Int.toNat_of_nonneg up]
  exact decide_eq_false (Nat.lt_irrefl _)
theorem rk_lt (a:Int) (h0:0≤a) (h1:a < (L.length:Int)):rk L d a < L.length:=by
 unfold rk
 have:=countP_lt (l:=List.range L.length) (p:=fun m:Nat => decide (d (m:Int) < d a)) (q:=fun _ => true) (y:=a.toNat) (fun _ _ => rfl) (List.mem_range.mpr (by omega)) rfl (by rw [Int.toNat_of_nonneg h0];exact decide_eq_false (Nat.lt_irrefl _))
 rw [List.countP_true,List.length_range] at this
 exact this
omit G in
theorem nameV_in {a:Int} (h0:0≤a) (h1:a < (L.length:Int)):nameV L a=(rd_Ent L a).name:=if_pos (decide_eq_true ⟨h0,h1⟩)
theorem up_at (x:Nat) (hx:x < L.length):∀ (n a:Nat),a≤x→x < a + n→a + n≤L.length→upG (rd_Ent L (x:Int)).name ((List.range' a n).map (fun n:Nat => (⟨nameV L (n:Int),nameV L (superV L (n:Int))⟩:Pai)))=(nameV L (superV L (x:Int)),true):=by
 intro n
 induction n with
 | zero => intro a h1 h2 _;omega
 | succ n ih =>
  intro a h1 h2 h3
  rw [List.range'_succ,List.map_cons]
  simp only [upG]
  by_cases e:a=x
  ·subst e
   rw [if_pos (by rw [nameV_in (by omega) (by omega)])]
  ·rw [if_neg (fun he => e (by
    rw [nameV_in (by omega) (by omega)] at he
    have:=G.one (a:Int) (x:Int) (by omega) (by omega) (by omega) (by omega) he
    omega))]
   exact ih (a + 1) (by omega) (by omega) (by omega)
theorem up_none:∀ (n a:Nat),a + n≤L.length→upG ⟨#[]⟩ ((List.range' a n).map (fun n:Nat => (⟨nameV L (n:Int),nameV L (superV L (n:Int))⟩:Pai)))=(⟨#[]⟩,false):=by
 intro n
 induction n with
 | zero => intro a _;rfl
 | succ n ih =>
  intro a h3
  rw [List.range'_succ,List.map_cons]
  simp only [upG]
  rw [if_neg (fun he => by
   rw [nameV_in (by omega) (by omega)] at he
   exact G.full (a:Int) (by omega) (by omega) (he.trans nil_list))]
  exact ih (a + 1) (by omega)
theorem below_sub (y:Int) (y0:0≤y) (y1:y < (L.length:Int)):∀ (m:Nat) (x:Int),0≤x→x < (L.length:Int)→rk L d x < m→belowV (treeN L L.length) m (nameV L x) (nameV L y)=decide (climb L (dUp d x) x y=y):=by
 intro m
 induction m with
 | zero => intro x _ _ h;omega
 | succ m ih =>
  intro x x0 x1 hr
  simp only [belowV]
  rw [nameV_in x0 x1,nameV_in y0 y1]
  by_cases e:x=y
  ·subst e
   rw [if_pos rfl,climb_self G x x0]
   simp
  ·rw [if_neg (fun h => e (G.one x y x0 x1 y0 y1 h))]
   have hu:upG (rd_Ent L x).name (treeN L L.length)=(nameV L (superV L x),true):=by
    have:=up_at G x.toNat (by omega) L.length 0 (by omega) (by omega) (by omega)
    rw [Int.toNat_of_nonneg x0] at this
    unfold treeN
    rw [List.range_eq_range']
    exact this
   rw [hu]
   simp only [if_true]
   have es:superV L x=(rd_Ent L x).super:=if_pos (decide_eq_true ⟨x0,x1⟩)
   rw [es,← climb_step G.chain x0 x1 e]
   obtain ⟨u1,u2,_⟩:=G.chain.up x x0 x1
   by_cases up:0≤(rd_Ent L x).super
   ·rw [← nameV_in y0 y1]
    exact ih _ up u2 (by have:=rk_super G x x0 x1 up;omega)
   ·rw [climb_neg L _ y up,decide_eq_false (by omega)]
    have en:nameV L (rd_Ent L x).super=⟨#[]⟩:=if_neg (fun h => up (of_decide_eq_true h).1)
    rw [en]
    cases m with
    | zero => rfl
    | succ m =>
     simp only [belowV]
     rw [if_neg (fun h => G.full y y0 y1 (h.symm.trans nil_list))]
     have:=up_none G L.length 0 (by omega)
     unfold treeN
     rw [List.range_eq_range',this]
     rfl
theorem sub_below (x y:Int) (x0:0≤x) (x1:x < (L.length:Int)) (y0:0≤y) (y1:y < (L.length:Int)):belowV (treeN L L.length) ((treeN L L.length).length + 1) (nameV L x) (nameV L y)=subV L d x y:=by
 rw [below_sub G y y0 y1 _ x x0 x1 (by rw [treeN_len];have:=rk_lt G x x0 x1;omega)]
 unfold subV
 rw [show hasV L x=true from decide_eq_true ⟨x0,x1⟩,show hasV L y=true from decide_eq_true ⟨y0,y1⟩]
 rfl
end
end Go.Proofs.YtoonhpcjcimecaaDoor.Px
namespace Go.Proofs.YtoonhpcjcimecaaDoor.Px
open Go.RowKit Go.Maps Go.Proofs.YtoonhpcjcimecaaDoorW.PrintWords Go.Proofs.YtoonhpcjcimecaaDoorW.PrintLast Go.Proofs.YtoonhpcjcimecaaDoorW.PrintMore
set_option linter.unusedVariables false
set_option linter.unusedSimpArgs false
set_option linter.unusedSectionVars false
theorem awake.calls (w:World):Calls Tryd.prog 6 #[] w fun e w' => e=.returned (.bool true)∧Below w.heap.size w w':=by
 go_enter Tryd.func6,Tryd.ntmps6
 go_wp2_with fail
 refine (link_Built.calls w).mono ?_
 rintro _ w1 ⟨rfl,hB⟩
 have HB:=Aside0.mk hB
 clear hB
 go_wp2
 go_ret
 exact ⟨rfl,HB.out⟩
theorem build_cases {l:List Cl} (hF:∀ c ∈ l,FitCl c):(∃ e,buildV l=(none,e)∧e ≠ 0) ∨ (∃ L d,buildV l=(some L,0)∧Good L d):=by
 cases h:buildV l with
 | mk r e =>
  cases r with
  | some L =>
   have h2:(buildV l).1=some L:=by rw [h]
   obtain ⟨d,hd⟩:=good_of hF h2
   refine .inr ⟨L,d,?_,hd⟩
   unfold buildV at h
   split at h
   ·cases h
   ·split at h
    ·cases hr:ruleL (l0V l) with
     | none => rw [hr] at h;cases h
     | some K => rw [hr] at h;cases h;rfl
    ·cases h
  | none =>
   refine .inl ⟨e,rfl,?_⟩
   unfold buildV at h
   split at h
   ·cases h;decide
   ·split at h
    ·cases hr:ruleL (l0V l) with
     | none => rw [hr] at h;cases h;decide
     | some K => rw [hr] at h;cases h
    ·rename_i hne;cases h;exact hne
theorem types_l0 (l:List Ty5) (hl:l.length≤4611686018427387904):∀ (m i:Nat),l.length≤i + m→∃ k,understudylaw09_types.l0 k l l (i:Int)=some true:=by
 intro m
 induction m with
 | zero =>
  intro i hi
  refine ⟨1,?_⟩
  simp only [understudylaw09_types.l0]
  rw [if_neg (by omega)]
 | succ m ih =>
  intro i hi
  by_cases h:i < l.length
  ·obtain ⟨k,hk⟩:=ih (i + 1) (by omega)
   refine ⟨k + 1,?_⟩
   simp only [understudylaw09_types.l0]
   rw [if_pos (by omega),if_pos (by omega),if_pos (by omega),if_neg (by simp),show wrap64 ((i:Int) + 1)=((i + 1:Nat):Int) by unfold wrap64;omega]
   exact hk
  ·refine ⟨1,?_⟩
   simp only [understudylaw09_types.l0]
   rw [if_neg (by omega)]
theorem types_ev (l:List Ty5) (hl:l.length≤4611686018427387904):∃ k,understudylaw09_types.f k l l=some true:=by
 obtain ⟨k,hk⟩:=types_l0 l hl l.length 0 (by omega)
 exact ⟨k,by unfold understudylaw09_types.f;rw [if_pos rfl];exact hk⟩
theorem below_calls {w:World} {At:Option Addr} {ct:Nat} {L:List Ent} {d:Int→Nat} (G:Good L d) (hC:Kd.C kPai w At L.length (treeN L L.length)) (x y:Int) (x0:0≤x) (x1:x < (L.length:Int)) (y0:0≤y) (y1:y < (L.length:Int)) :
  Calls Tryd.prog 13 #[.slice At L.length ct,.string (nameV L x),.string (nameV L y)] w fun e w' => e=.returned (.bool (subV L d x y))∧Below w.heap.size w w':=by
 have h:=kind_Below.calls (c:=ct) (nameV L x) (nameV L y) (l:=treeN L L.length) (by rw [treeN_len];have:=G.len;omega) (by rw [treeN_len];exact hC)
 rw [sub_below G x y x0 x1 y0 y1,treeN_len] at h
 exact h
theorem rem_range (a n:Int) (h0:0≤a) (h1:a < 256) (hn:0 < n):0≤(wrap64 a).tmod n∧(wrap64 a).tmod n < n:=by
 have e:wrap64 a=a:=by unfold wrap64;omega
 rw [e]
 exact ⟨Int.tmod_nonneg n h0,Int.tmod_lt_of_pos a hn⟩
def LinkTreeOk (l:List Cl) (a b:Int):Prop:=(∀ c ∈ l,FitCl c)∧l.length≤1048576∧0≤a∧a < 256∧0≤b∧b < 256
open Classical in
noncomputable def understudylaw09_LinkTree.f (k:Nat) (l:List Cl) (a b:Int):Option Bool:=if LinkTreeOk l a b then some true else none
set_option maxHeartbeats 80000000 in
set_option maxRecDepth 100000 in
theorem link_tree.ok {A:Option Addr} {cc:Nat} {l:List Cl} {a b:Int} {w:World} (hG:Aside0 (GG w)) (hC:Kd.C kCl w A l.length l) (h:LinkTreeOk l a b) :
  Calls Tryd.prog 3 #[.slice A l.length cc,.int .u8 a,.int .u8 b] w fun e w' => e=.returned (.bool true)∧Below w.heap.size w w':=by
 obtain ⟨hF,hl,a0,a1,b0,b1⟩:=h
 have HF:=Aside0.mk hF
 have HC:=Aside0.mk hC
 have HL:=Aside0.mk hl
 have HA0:=Aside0.mk a0
 have HA1:=Aside0.mk a1
 have HB0:=Aside0.mk b0
 have HB1:=Aside0.mk b1
 clear hF hC hl a0 a1 b0 b1
 go_enter Tryd.func3,Tryd.ntmps3
 go_wp2_with fail
 refine (link_Build.calls hG.out HC.out HF.out HL.out).mono ?_
 rintro _ w1 ⟨pv,rfl,hP,hB⟩
 have HB:=Aside0.mk hB
 rcases build_cases HF.out with ⟨e,he,hne⟩|⟨L,d,he,hgood⟩
 ·rw [he] at hP
  rw [he]
  obtain rfl:=hP
  have hn1:(e==0)=false:=beq_eq_false_iff_ne.mpr hne
  have hn2:(e != 0)=true:=by unfold bne;rw [hn1];rfl
  clear hB he
  go_wp2_with fail
  refine (awake.calls w1).mono ?_
  rintro _ w2 ⟨rfl,hB2⟩
  have HB2:=Aside0.mk (HB.out.trans (hB2.mono HB.out.size))
  clear hB2
  go_wp2
  go_ret
  exact ⟨rfl,HB2.out⟩
 rw [he] at hP
 rw [he]
 obtain ⟨p,rfl,hI⟩:=hP
 have HI:=Aside0.mk hI
 have HGD:=Aside0.mk hgood
 clear hB he hI hgood
 go_wp2_with fail
 refine (link_Tree.calls HI.out (by have:=HGD.out.len;omega)).mono ?_
 rintro _ w2 ⟨vt,rfl,hT,hB2⟩
 obtain ⟨At,ct,rfl,hlt,hCt⟩:=Kd.R_reads hT
 rw [treeN_len] at hlt hCt ⊢
 have HLT:=Aside0.mk hlt
 have HT:=Aside0.mk hCt
 have HI2:=Aside0.mk (HI.out.below hB2)
 have HB2:=Aside0.mk (HB.out.trans (hB2.mono HB.out.size))
 clear hT hlt hCt hB2 HI HB
 go_wp2_with fail
 go_loopw [10] (fun v10 wq => ∃ i:Nat,v10=.int .i64 (i:Int)∧Aside0 (i≤L.length)∧Aside0 (IsPC wq p L)∧Aside0 (Kd.C kPai wq At L.length (treeN L L.length))∧Aside0 (Below w.heap.size w wq)) (fun v10 _ => ((L.length:Int) - intOf v10).toNat)
 case atStart => exact ⟨0,rfl,⟨Nat.zero_le _⟩,HI2,HT,HB2⟩
 case round =>
  clear HI2 HT HB2
  obtain ⟨i,rfl,HN,HI,HT,HB⟩:=hrel
  have hlen:=HGD.out.len
  have HLN:=Aside0.mk hlen
  clear hlen
  by_cases hx:(i:Int) < (L.length:Int)
  case pos =>
   have hpx:decide ((i:Int) < (L.length:Int))=true:=decide_eq_true hx
   have hpn:i < L.length:=by omega
   have HX:=Aside0.mk hpn
   clear hx
   go_wp2_with fail
   refine (link_Len.calls HI.out).mono ?_
   rintro _ _ ⟨rfl,rfl⟩
   go_wp2_with fail
   refine (link_Super.calls (i:Int) HI.out).mono ?_
   rintro _ _ ⟨rfl,rfl⟩
   go_wp2_with fail
   refine (link_Slots.calls HGD.out.chain HGD.out.dle HGD.out.small (superV L (i:Int)) (hG.out.below HB.out) HI.out).mono ?_
   rintro _ w3 ⟨vs,rfl,hR3,hb3⟩
   obtain ⟨A3,c3,rfl,hl3,hC3⟩:=Kd.R_reads hR3
   have HI3:=Aside0.mk (HI.out.below hb3)
   have HT3:=Aside0.mk (Kd.C_below HT.out hb3)
   have HB3:=Aside0.mk (HB.out.trans (hb3.mono HB.out.size))
   have HC3:=Aside0.mk hC3
   have HL3:=Aside0.mk hl3
   clear hR3 hb3 hl3 hC3 HI HT HB
   go_wp2_with fail
   refine (link_Slots.calls HGD.out.chain HGD.out.dle HGD.out.small (i:Int) (hG.out.below HB3.out) HI3.out).mono ?_
   rintro _ w4 ⟨va,rfl,hR4,hb4⟩
   obtain ⟨A4,c4,rfl,hl4,hC4⟩:=Kd.R_reads hR4
   have HI4:=Aside0.mk (HI3.out.below hb4)
   have HT4:=Aside0.mk (Kd.C_below HT3.out hb4)
   have HC34:=Aside0.mk (Kd.C_below HC3.out hb4)
   have HB4:=Aside0.mk (HB3.out.trans (hb4.mono HB3.out.size))
   obtain ⟨tt,htt⟩:=slots_super HGD.out (i:Int) (by omega) (by omega)
   obtain ⟨s,hs⟩:∃ s,s=slotsV L d (superV L (i:Int)):=⟨_,rfl⟩
   obtain ⟨u,hu⟩:∃ u,u=slotsV L d (i:Int):=⟨_,rfl⟩
   have HSB:Aside0 (s.length≤4611686018427387904):=⟨by
    rw [hs]
    have h1:=slots_len HGD.out.chain HGD.out.small _ (superV L (i:Int)) (Nat.le_refl _)
    have h2:dUp d (superV L (i:Int))≤1048577:=by
     unfold dUp
     have:=HGD.out.dle (superV L (i:Int))
     split <;> omega
    have h3:=Nat.mul_le_mul_right 1048576 h2
    omega⟩
   rw [← hs] at HL3 HC34 htt ⊢
   rw [← hu] at hl4 hC4 htt ⊢
   have hsu:s.length≤u.length:=by rw [htt,List.length_append];omega
   have hCs:Kd.C kTy w4 A4 s.length s:=by
    have h:=Kd.C_take (m:=s.length) hC4 hsu
    rw [htt,List.take_left] at h
    exact h
   have HSU:=Aside0.mk hsu
   have HL4:=Aside0.mk hl4
   have HCS:=Aside0.mk hCs
   clear hR4 hb4 hl4 hC4 hCs htt hs hu HI3 HT3 HC3 HB3 hsu
   go_wp2_with fail
   refine (link_Sub.calls (i:Int) 0 HI4.out HGD.out.chain).mono ?_
   rintro _ _ ⟨rfl,rfl⟩
   rw [sub_zero HGD.out (i:Int) (by omega) (by omega)]
   go_wp2_with fail
   refine (link_Sub.calls (i:Int) (i:Int) HI4.out HGD.out.chain).mono ?_
   rintro _ _ ⟨rfl,rfl⟩
   rw [sub_self HGD.out (i:Int) (by omega) (by omega)]
   by_cases h0:0 < i
   case pos =>
    have h0b:decide ((i:Int) > 0)=true:=decide_eq_true (by omega)
    go_wp2_with fail
    refine (link_Sub.calls (i:Int) (superV L (i:Int)) HI4.out HGD.out.chain).mono ?_
    rintro _ _ ⟨rfl,rfl⟩
    rw [sub_super HGD.out (i:Int) (by omega) (by omega)]
    have hns:¬ u.length < s.length:=by have:=HSU.out;omega
    have hnd:decide ((s.length:Int) > (u.length:Int))=false:=decide_eq_false (by have:=HSU.out;omega)
    have hn1:(s.length:Int)≤(u.length:Int):=by have:=HSU.out;omega
    have hn2:(u.length:Int)≤(c4:Int):=by have:=HL4.out;omega
    have hn3:s.length≤c4:=by have:=HL4.out;have:=HSU.out;omega
    have hn4:(s.length:Int)≤(c4:Int):=by omega
    have hn5:0≤(s.length:Int):=by omega
    go_wp2_with fail
    obtain ⟨kt,hkt⟩:=types_ev s HSB.out
    refine (understudylaw09_types.calls kt A4 c4 s A3 c3 s true _ HCS.out hn3 HC34.out HL3.out hkt).mono ?_
    rintro _ w5 ⟨rfl,hd5⟩
    have HI5:=Aside0.mk (HI4.out.below hd5.below)
    have HT5:=Aside0.mk (Kd.C_below HT4.out hd5.below)
    have HB5:=Aside0.mk (HB4.out.trans (hd5.below.mono HB4.out.size))
    clear hd5 hkt HI4 HT4 HB4 HCS HC34 hns hnd hn1 hn2 hn3 hn4 hn5
    go_wp2
    go_roundw
    case measure =>
     rw [intOf_i64,intOf_i64]
     have h1:=HX.out
     have h2:=HLN.out
     first|omega|(unfold wrap64;omega)
    case rel =>
     have h1:=HX.out
     have h2:=HLN.out
     exact ⟨i + 1,congrArg (Value.int .i64) (by first|omega|(unfold wrap64;omega)),⟨h1⟩,HI5,HT5,HB5⟩
   have h0b:decide ((i:Int) > 0)=false:=decide_eq_false (by omega)
   have hns:¬ u.length < s.length:=by have:=HSU.out;omega
   have hnd:decide ((s.length:Int) > (u.length:Int))=false:=decide_eq_false (by have:=HSU.out;omega)
   have hn1:(s.length:Int)≤(u.length:Int):=by have:=HSU.out;omega
   have hn2:(u.length:Int)≤(c4:Int):=by have:=HL4.out;omega
   have hn3:s.length≤c4:=by have:=HL4.out;have:=HSU.out;omega
   have hn4:(s.length:Int)≤(c4:Int):=by omega
   have hn5:0≤(s.length:Int):=by omega
   go_wp2_with fail
   obtain ⟨kt,hkt⟩:=types_ev s HSB.out
   refine (understudylaw09_types.calls kt A4 c4 s A3 c3 s true _ HCS.out hn3 HC34.out HL3.out hkt).mono ?_
   rintro _ w5 ⟨rfl,hd5⟩
   have HI5:=Aside0.mk (HI4.out.below hd5.below)
   have HT5:=Aside0.mk (Kd.C_below HT4.out hd5.below)
   have HB5:=Aside0.mk (HB4.out.trans (hd5.below.mono HB4.out.size))
   clear hd5 hkt HI4 HT4 HB4 HCS HC34 hns hnd hn1 hn2 hn3 hn4 hn5
   go_wp2
   go_roundw
   case measure =>
    rw [intOf_i64,intOf_i64]
    have h1:=HX.out
    have h2:=HLN.out
    first|omega|(unfold wrap64;omega)
   case rel =>
    have h1:=HX.out
    have h2:=HLN.out
    exact ⟨i + 1,congrArg (Value.int .i64) (by first|omega|(unfold wrap64;omega)),⟨h1⟩,HI5,HT5,HB5⟩
  have hpx:decide ((i:Int) < (L.length:Int))=false:=decide_eq_false hx
  have hpn:¬ i < L.length:=by omega
  clear hx
  go_wp2_with fail
  refine (link_Len.calls HI.out).mono ?_
  rintro _ _ ⟨rfl,rfl⟩
  have h13:=HGD.out.l13
  have hz:¬ (L.length:Int)=0:=by omega
  go_wp2_with fail
  refine (link_Len.calls HI.out).mono ?_
  rintro _ _ ⟨rfl,rfl⟩
  go_wp2_with fail
  have hX:=rem_range a (L.length:Int) HA0.out HA1.out (by omega)
  have hY:=rem_range b (L.length:Int) HB0.out HB1.out (by omega)
  obtain ⟨x,hx⟩:∃ x,x=(wrap64 a).tmod (L.length:Int):=⟨_,rfl⟩
  rw [← hx] at hX ⊢
  obtain ⟨y,hy⟩:∃ y,y=(wrap64 b).tmod (L.length:Int):=⟨_,rfl⟩
  rw [← hy] at hY
  have HX:=Aside0.mk hX
  have HY:=Aside0.mk hY
  have HYE:=Aside0.mk hy
  clear hx hX hY hy
  refine (link_Len.calls HI.out).mono ?_
  rintro _ _ ⟨rfl,rfl⟩
  go_wp2_with fail
  rw [← HYE.out]
  clear HYE
  refine (link_Sub.calls x y HI.out HGD.out.chain).mono ?_
  rintro _ _ ⟨rfl,rfl⟩
  go_wp2_with fail
  refine (link_Name.calls x HI.out).mono ?_
  rintro _ _ ⟨rfl,rfl⟩
  go_wp2_with fail
  refine (link_Name.calls y HI.out).mono ?_
  rintro _ _ ⟨rfl,rfl⟩
  go_wp2_with fail
  refine (below_calls HGD.out HT.out x y HX.out.1 HX.out.2 HY.out.1 HY.out.2).mono ?_
  rintro _ w6 ⟨rfl,hb6⟩
  have HI6:=Aside0.mk (HI.out.below hb6)
  have HB6:=Aside0.mk (HB.out.trans (hb6.mono HB.out.size))
  obtain ⟨q,hq⟩:∃ q,q=subV L d x y:=⟨_,rfl⟩
  rw [← hq]
  have hqq:(q==q)=true:=beq_iff_eq.mpr rfl
  clear hb6 hq HI HB
  go_wp2_with fail
  refine (link_Len.calls HI6.out).mono ?_
  rintro _ _ ⟨rfl,rfl⟩
  go_wp2
  go_ret
  exact ⟨rfl,HB6.out⟩
theorem understudylaw09_LinkTree.calls (k:Nat) (A0:Option Addr) (c0:Nat) (l0:List Cl) (a1 a2:Int) (r:Bool) (w:World) (hG:Aside0 (GG w)) (hr0:Kd.C kCl w A0 l0.length l0) (hc0:l0.length≤c0) (h:understudylaw09_LinkTree.f k l0 a1 a2=some r) :
  Calls Tryd.prog 3 #[.slice A0 l0.length c0,.int .u8 a1,.int .u8 a2] w fun e w' => e=.returned (.bool r)∧Below w.heap.size w w':=by
 unfold understudylaw09_LinkTree.f at h
 split at h
 ·rename_i hk
  obtain rfl:=Option.some.inj h
  exact link_tree.ok hG hr0 hk
 ·cases h
theorem u8_range {a:Int} (h:(Lit.int .u8 a).wf=true):0≤a∧a < 256:=by
 simp only [Lit.wf,Bool.and_eq_true,decide_eq_true_eq] at h
 have h1:IntKind.u8.min=0:=by decide
 have h2:IntKind.u8.max=255:=by decide
 omega
theorem LinkTree_pure (l:List Cl) (a b:Int) (h:LinkTreeOk l a b):∃ k,understudylaw09_LinkTree.f k l a b=some true:=⟨0,if_pos h⟩
end Go.Proofs.YtoonhpcjcimecaaDoor.Px
