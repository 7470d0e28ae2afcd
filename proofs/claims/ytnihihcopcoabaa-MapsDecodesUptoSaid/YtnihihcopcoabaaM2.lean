/- maps.Decode's closure some: some types of bytes. -/
/- maps.Decode: what it computes, and the walk: the closures' panics of an errno are caught. -/
/- understudylaw10.same, of maps that are alike: true. -/
/- understudyref10.reader: num, bad, walked by hand. -/
/- understudyref10.reader.kind: a type, walked by hand. -/
/- understudyref10.reader.kinds: some types, walked by hand. -/
import Derived.Test.YtnihihcopcoabaaM1
import Derived.Deep.DeepCutAuto
import Derived.Deep.CutBlock
import Derived.Recover
import Derived.Laws.Pointers
import Derived.Laws.EntriesVeiled
namespace Go.Proofs.Ytnihihcopcoabaa.Px
open Go.RowKit Go.Proofs.YtnihihcopcoabaaW.PrintWords Go.Proofs.YtnihihcopcoabaaW.PrintLast Go.Proofs.YtnihihcopcoabaaW.PrintMore
set_option linter.unusedVariables false
set_option linter.unusedSimpArgs false
abbrev fOne (bn bp bm:Nat):Value:=.func (.func 13) #[] #[.pointer (some ⟨bn,0,none⟩),.pointer (some ⟨bp,0,none⟩),.pointer (some ⟨bm,0,none⟩)]
theorem infoTyp:(Try.prog.info? 41).map (fun i => (i.zero,i.size,i.bytes))=some (some (.agg #[.int .i64 0,.string (⟨#[]⟩:ByteArray),.int .i64 0,.int .i64 0,.int .i64 0]),5,48):=by kernel_rfl
def ms_list.f (k:Nat) (pl:List Cst) (bs:List Int):Nat→Nat→List Typ→Option (Rdo (List Typ))
 | 0,p,l => some (.ok l p)
 | n + 1,p,l => (ms_one.f k pl bs p).bind fun o => o.bind fun t q => ms_list.f k pl bs n q (l++[t])
def ms_some.f (k:Nat) (pl:List Cst) (bs:List Int) (p:Nat):Option (Rdo (List Typ)) :=
 (ms_num.f k bs p 2).bind fun o => o.bind fun n q => if n≤64 then ms_list.f k pl bs n.toNat q [] else some (.er 100)
def SomePost (B:Nat) (w:World) (br g:Nat) (bs:List Int) (o:Rdo (List Typ)) (e:Ending) (w':World):Prop:=match o with
 | .ok l p => ∃ v:Value,e=.returned v∧Kd.R k41 41 w' w.heap.size (fun _ => True) v l∧MsPost B w br g bs p w'
 | .er n => Dies B w n e w'
structure SmSt (B:Nat) (w W:World) (br g:Nat) (bs:List Int) (p bn bm bp:Nat) (vp:Value) (bo:Nat):Prop where
 I:IsMe B W br g bs p bn bm bp vp
 O:W.heap[bo]?=some (.cells #[fOne bn bp bm] 46 (0,0))
 C:RdStep B w W g
 lt:g < w.heap.size
 hB:B≤w.heap.size
section
variable {B:Nat} {w W W':World} {br g:Nat} {bs:List Int} {p p' bn bm bp bo:Nat} {vp:Value}
theorem SmSt.step (h:SmSt B w W br g bs p bn bm bp vp bo) (hR:MsPost B W br g bs p' W'):SmSt B w W' br g bs p' bn bm bp vp bo:=by
 obtain ⟨v,hb,_⟩:=id h.I.M.R.blk
 exact ⟨h.I.step hR,hR.2.blk (blk_ne h.O hb (by decide)) h.O,h.C.trans hR.2,h.lt,h.hB⟩
theorem SmSt.new (h:SmSt B w W br g bs p bn bm bp vp bo) (hb:Below W.heap.size W W'):SmSt B w W' br g bs p bn bm bp vp bo :=
 ⟨h.I.below hb,(hb.block _ (blk_lt h.O)).trans h.O,h.C.trans (RdStep.of_below hb h.I.M.R.base_le),h.lt,h.hB⟩
theorem SmSt.co (h:SmSt B w W br g bs p bn bm bp vp bo):W.cell? ⟨bo,0,none⟩=some (fOne bn bp bm):=(blk_cell h.O 0).trans rfl
theorem SmSt.hN (h:SmSt B w W br g bs p bn bm bp vp bo):w.heap.size≤W.heap.size:=h.C.keep.1
theorem IsMe.grown {α:Type} {d:Kd α} {N e:Nat} {u:Value} {ok:Nat→Prop} {l:List α} (h:IsMe B W br g bs p bn bm bp vp) (hR:d.R e W N ok u l) (he:e ≠ 5∧e ≠ 64∧e ≠ 33∧e ≠ 38∧e ≠ 39∧e ≠ 22) (hg:W.grownBy W' u.ownBlock):IsMe B W' br g bs p bn bm bp vp:=by
 obtain ⟨v,hb,hr⟩:=h.M.R.blk
 exact ⟨⟨⟨h.M.R.ge,⟨v,(hg.block _ (blk_lt hb) (Kd.R_ne hR hb he.2.1)).trans hb,Kd.R_drop (Kd.R_grown (Kd.R_apartR hr hR (fun q hq => by rcases List.mem_cons.mp hq with rfl|hq;exact fun x => he.1 x.symm;exact absurd hq (by simp [Kd.int,Kd.scalar]))) hg (fun _ hk => hk.2))⟩,h.M.R.hi⟩,
  (hg.block _ (blk_lt h.M.blk) (Kd.R_ne hR h.M.blk he.2.2.1)).trans h.M.blk⟩,⟨(hg.block _ (blk_lt h.E.kn) (Kd.R_ne hR h.E.kn he.2.2.2.1)).trans h.E.kn,(hg.block _ (blk_lt h.E.km) (Kd.R_ne hR h.E.km he.2.2.2.2.1)).trans h.E.km,(hg.block _ (blk_lt h.E.kp) (Kd.R_ne hR h.E.kp he.2.2.2.2.2)).trans h.E.kp⟩⟩
theorem RdStep.grown (h:RdStep B w W g) (hB:Below w.heap.size W W') (hw:B≤w.heap.size):RdStep B w W' g :=
 ⟨h.below.trans (hB.mono hw),⟨Nat.le_trans h.keep.1 hB.size,fun i hi hg1 hr1 => (hB.block i hi).trans (h.keep.2 i hi hg1 hr1)⟩⟩
theorem SmSt.grown {u:Value} {ok:Nat→Prop} {l:List Typ} (h:SmSt B w W br g bs p bn bm bp vp bo) (hR:Kd.R k41 41 W w.heap.size ok u l) (hB:Below w.heap.size W W') (hg:W.grownBy W' u.ownBlock):SmSt B w W' br g bs p bn bm bp vp bo :=
 ⟨h.I.grown hR (by decide) hg,(hg.block _ (blk_lt h.O) (Kd.R_ne hR h.O (by decide))).trans h.O,h.C.grown hB h.hB,h.lt,h.hB⟩
end
theorem intOf_int (k:IntKind) (n:Int):RowKit.intOf (.int k n)=n:=rfl
theorem fewer {i:Nat} {n:Int} (h:(i:Int) < n) (hn:n≤64):(n - wrap64 ((i:Int) + 1)).toNat < (n - (i:Int)).toNat:=by
 have e:wrap64 ((i:Int) + 1)=(i:Int) + 1:=by unfold wrap64;omega
 rw [e]
 omega
set_option maxHeartbeats 16000000 in
set_option maxRecDepth 100000 in
theorem ms_some.calls {k B br g:Nat} {bs:List Int} {p bn bm bp bo:Nat} {Ap:Option Addr} {cp:Nat} {pl:List Cst} {o:Rdo (List Typ)} {w:World} (hG:Aside0 (∀ w',Below B w w'→GG w')) (hI:IsMe B w br g bs p bn bm bp (.slice Ap pl.length cp)) (hO:w.heap[bo]?=some (.cells #[fOne bn bp bm] 46 (0,0))) (hl:bs.length≤140737488355328) (hP:∀ w',RdStep B w w' g→Kd.C k70 w' Ap pl.length pl) (hPC:pl.length≤cp) (h:ms_some.f k pl bs p=some o) :
  Calls Try.prog 16 #[.pointer (some ⟨bn,0,none⟩),.pointer (some ⟨bm,0,none⟩),.pointer (some ⟨bo,0,none⟩)] w fun e w' => SomePost B w br g bs o e w':=by
 have hu:=Try.underlying41
 have HS:Aside0 (SmSt B w w br g bs p bn bm bp (.slice Ap pl.length cp) bo):=⟨hI,hO,RdStep.refl _ _ _,hI.M.R.lt,hI.M.R.base_le⟩
 have HL:=Aside0.mk hl
 have HP:=Aside0.mk hP
 have HPC:=Aside0.mk hPC
 obtain ⟨ot,ht,h⟩:=Option.bind_eq_some_iff.mp h
 have HT:=Aside0.mk ht
 have HH:=Aside0.mk h
 clear hI hO hl hP hPC ht h
 have cn:=HS.out.I.cn
 go_enter Try.func16,Try.ntmps16
 go_wp2_with fail
 refine (ms_num.calls (n:=2) HS.out.I.M (by decide) (by decide) HL.out HT.out).mono ?_
 clear HT
 cases ot with
 | er n =>
  obtain rfl:=Option.some.inj HH.out
  rintro _ W1 ⟨rfl,hb1⟩
  have HB1:=Aside0.mk hb1
  clear hb1 HH HS cn
  go_wp2
  exact ⟨rfl,rfl,HB1.out⟩
 | ok n q =>
 rintro _ W1 ⟨rfl,hR⟩
 have HS1:=Aside0.mk (HS.out.step hR)
 have h:(if n≤64 then ms_list.f k pl bs n.toNat q [] else some (.er 100))=some o:=HH.out
 clear hR HS HH cn
 have cm:=HS1.out.I.cm
 by_cases hn:n≤64
 case neg =>
  rw [if_neg hn] at h
  obtain rfl:=Option.some.inj h
  have bn':decide (n≤64)=false:=decide_eq_false hn
  clear h hn
  go_wp2_with fail
  refine (must_dies _).mono ?_
  rintro _ W6 ⟨rfl,rfl⟩
  go_wp2
  exact ⟨rfl,rfl,HS1.out.C.below⟩
 rw [if_pos hn] at h
 have bn':decide (n≤64)=true:=decide_eq_true hn
 have HN:=Aside0.mk hn
 have H0:=Aside0.mk h
 clear hn h
 go_wp2_with fail
 refine (must_ok _).mono ?_
 rintro _ W2 ⟨rfl,rfl⟩
 clear cm bn'
 go_wp2_with fail
 go_loopw [5,13] (fun v5 v13 wr => ∃ (A:Option Addr) (l:List Typ) (c q:Nat),v5=.slice A l.length c∧v13=.int .i64 (l.length:Int)∧Aside0 (ms_list.f k pl bs (n - l.length).toNat q l=some o)∧Aside0 (SmSt B w wr br g bs q bn bm bp (.slice Ap pl.length cp) bo)∧Aside0 (Kd.R k41 41 wr w.heap.size (fun _ => True) (.slice A l.length c) l)) (fun _ v13 _ => (n - intOf v13).toNat)
 case atStart => exact ⟨none,[],0,q,rfl,rfl,⟨by have:=H0.out;simpa using this⟩,HS1,⟨Kd.R_nil _ _ _ _ _⟩⟩
 case round =>
  obtain ⟨A,l,c,q,rfl,rfl,HT,HS,HR⟩:=hrel
  clear HS1 H0
  by_cases hx:(l.length:Int) < n
  ·have hpx:decide ((l.length:Int) < n)=true:=decide_eq_true hx
   obtain ⟨m,hm⟩:∃ m,(n - (l.length:Int)).toNat=m + 1:=⟨(n - (l.length:Int)).toNat - 1,by omega⟩
   have hT:=HT.out
   rw [hm] at hT
   simp only [ms_list.f] at hT
   obtain ⟨ot,ht,hT⟩:=Option.bind_eq_some_iff.mp hT
   have HX:=Aside0.mk ht
   have HH:=Aside0.mk hT
   have HM:=Aside0.mk hm
   have HLT:=Aside0.mk hx
   have co:=HS.out.co
   clear hT HT hm hx ht
   go_wp2_with fail
   refine (ms_one.calls (Ap:=Ap) (cp:=cp) (pl:=pl) ⟨fun w' hb => hG.out _ (HS.out.C.below.trans hb)⟩ HS.out.I HL.out (fun w' hS => HP.out w' (HS.out.C.trans hS)) HPC.out HX.out).mono ?_
   clear HX
   cases ot with
   | er e =>
    obtain rfl:=Option.some.inj HH.out
    rintro _ W1 ⟨rfl,hb1⟩
    have HB1:=Aside0.mk (HS.out.C.below.trans hb1)
    clear hb1 HH HS HR co
    go_wp2
    exact ⟨rfl,rfl,HB1.out⟩
   | ok t q2 =>
   rintro _ W3 ⟨rfl,hR⟩
   have HS3:=Aside0.mk (HS.out.step hR)
   have HR3:=Aside0.mk (hR.2.R HR.out HS.out.lt)
   have HT2:Aside0 (ms_list.f k pl bs m q2 (l++[t])=some o):=⟨HH.out⟩
   clear hR HS HR HH co
   go_wp2_with (at_builtin;refine Kd.R_append k41 (w0:=W3) w.heap.size rfl (.tmp 15) (.tmp 18) 47 41 (.agg #[(.int .i64 0),(.string ⟨#[]⟩),(.int .i64 0),(.int .i64 0),(.int .i64 0)]) 48 rfl Try.underlying47 infoTyp rfl (by decide) (by omega) (.slice A l.length c) l t [.int .i64 t.f0,.string t.f1,.int .i64 t.f2,.int .i64 t.f3,.int .i64 t.f4] (fun _ => True) (fun _ => False) rfl rfl (k41_mkM _ _ _ _) (fun _ hk => hk.elim) (fun _ _ => trivial) HR3.out (Below.refl _ _) HS3.out.hN ?aL ?_)
   case aL => have:=HLT.out;have:=HN.out;omega
   intro v1 w5 hR5 hB5 hg5 ho5
   obtain ⟨A5,c5,hv5⟩:=Kd.R_slice hR5
   subst hv5
   have HR5:=Aside0.mk hR5
   have HS5:=Aside0.mk (HS3.out.grown HR3.out hB5 hg5)
   clear hR5 hB5 hg5 ho5 HR3 HS3
   go_wp2
   go_roundw
   case measure => rw [intOf_int,intOf_int];exact fewer HLT.out HN.out
   case rel =>
    have hx:=HLT.out
    have hn:=HN.out
    have hm:=HM.out
    refine ⟨A5,l++[t],c5,q2,rfl,congrArg (Value.int .i64) (by rw [List.length_append,List.length_singleton];unfold wrap64;omega),⟨?_⟩,HS5,HR5⟩
    rw [List.length_append,List.length_singleton,show (n - ((l.length + 1:Nat):Int)).toNat=m from by omega]
    exact HT2.out
  ·have hpx:decide ((l.length:Int) < n)=false:=decide_eq_false hx
   have hT:=HT.out
   rw [show (n - (l.length:Int)).toNat=0 from by omega] at hT
   simp only [ms_list.f] at hT
   obtain rfl:=Option.some.inj hT
   clear hT HT hx
   go_wp2
   go_ret
   exact ⟨_,rfl,HR.out,HS.out.I.M,HS.out.C⟩
end Go.Proofs.Ytnihihcopcoabaa.Px
namespace Go.Proofs.Ytnihihcopcoabaa.Px
open Go.RowKit Go.Proofs.YtnihihcopcoabaaW.PrintWords Go.Proofs.YtnihihcopcoabaaW.PrintLast Go.Proofs.YtnihihcopcoabaaW.PrintMore
set_option linter.unusedVariables false
set_option linter.unusedSimpArgs false
abbrev Mp:=S53
def md_maps.f (k:Nat) (pl:List Cst) (bs:List Int):Nat→Int→Nat→List Mp→Option (Rdo (List Mp))
 | 0,_,p,l => some (.ok l p)
 | n + 1,a,p,l => (ms_num.f k bs p 1).bind fun o => o.bind fun t p1 => if t=255 then (ms_num.f k bs p1 2).bind fun o => o.bind fun s p2 => if wrap64 (a + wrap64 (s + 1))≤4096 then (ms_some.f k pl bs p2).bind fun o => o.bind fun l1 p3 => (ms_some.f k pl bs p3).bind fun o => o.bind fun l2 p4 => (maps_fresh.f k l1 l2 false).bind fun fr => md_maps.f k pl bs n (wrap64 (a + wrap64 (s + 1))) p4 (l++[⟨wrap64 (a + wrap64 (s + 1)),⟨l1,l2,fr⟩⟩]) else some (.er 100) else some (.er 100)
def md_all.f (k:Nat) (pl:List Cst) (bs:List Int):Option (Rdo (List Mp)) :=
 (ms_num.f k bs 0 2).bind fun o => o.bind fun n p => if n≤65536 then (md_maps.f k pl bs n.toNat (-1) p []).bind fun o => o.bind fun l q => some (if q=bs.length then .ok l q else .er 100) else none
def decM (o:Rdo (List Mp)):List Mp × Int:=match o with
 | .ok l _ => (l,0)
 | .er e => ([],e)
def maps_Decode.f (k:Nat) (pl:List Cst) (bs:List Int):Option (List Mp × Int):=if bs.length=0 then some ([],0) else if bs.length≤140737488351232 then (md_all.f k pl bs).bind fun o => some (decM o) else none
def MdPost (w:World) (r:List Mp × Int) (e:Ending) (w':World):Prop:=∃ v:Value,e=.returned (.tuple #[v,.int .i64 r.2])∧Kd.R k53 53 w' w.heap.size (fun _ => True) v r.1∧Below w.heap.size w w'
theorem md_nil:∀ w:World,(binOp BinOp.eql 20 .nilIface .nilIface).run Try.prog w=.ok (.bool true) w:=fun _ => by kernel_rfl
set_option maxHeartbeats 4000000 in
set_option maxRecDepth 100000 in
theorem md_idle (p q:Addr) (w:World):CallsD Try.prog 8 #[.pointer (some p),.pointer (some q)] .returning w fun e u' w' => e=.returned (.tuple #[])∧u'=.returning∧w'=w:=by
 refine callsD_of_wpS Try.func8 rfl fun c₀ cs hu => ?_
 apply wpS_seq
 apply wpS_region
 simp [wpOpsS,go_sem,recoverD,hu,Try.ntmps8,Exit.thenS]
 refine wpS_of_wp ?_
 have hn:=md_nil
 go_wp2
 cases c₀
 simp_all [bodyPostS,results,Try.results8]
set_option maxHeartbeats 4000000 in
set_option maxRecDepth 100000 in
theorem md_panicking (b0 b1 B:Nat) (er:Int) (vl:Value) (older:List PanicEntry) (w:World) (hn:b0 ≠ b1) (hB0:B≤b0) (hB1:B≤b1) (k0:w.heap[b0]?=some (.cells #[vl] 24 (0,0))) (k1:w.heap[b1]?=some (.cells #[.int .i64 0] 25 (0,0))) :
  CallsD Try.prog 8 #[.pointer (some ⟨b0,0,none⟩),.pointer (some ⟨b1,0,none⟩)] (.panicking ({ v:=.iface 25 (.int .i64 er),recovered:=false } :: older)) w fun e u' w' =>
   e=.returned (.tuple #[])∧u'=.panicking ({ v:=.iface 25 (.int .i64 er),recovered:=true } :: older)∧w'.heap[b0]?=some (.cells #[.slice none 0 0] 24 (0,0))∧w'.heap[b1]?=some (.cells #[.int .i64 er] 25 (0,0))∧Below B w w':=by
 refine callsD_of_wpS Try.func8 rfl fun c₀ cs hu => ?_
 apply wpS_seq
 apply wpS_region
 simp [wpOpsS,go_sem,recoverD,hu,Try.ntmps8,Exit.thenS]
 refine wpS_of_wp ?_
 have hta:∀ w:World,(Instr.typeAssert (.iface 25 (.int .i64 er)) 20 25 true).run Try.prog w=.ok (.tuple #[.int .i64 er,.bool true]) w:=fun _ => by kernel_rfl
 have hF:=Aside0.mk (show Below B w ((w.setCell ⟨b0,0,none⟩ (.slice none 0 0)).setCell ⟨b1,0,none⟩ (.int .i64 er)) from ((Below.refl B w).setCell (p:=⟨b0,0,none⟩) hB0 _).setCell (p:=⟨b1,0,none⟩) hB1 _)
 have hk0:=Aside0.mk (blk_far (p:=⟨b1,0,none⟩) (blk_set k0 0 (.slice none 0 0)) hn (.int .i64 er))
 have hk1:=Aside0.mk (blk_set (blk_far (p:=⟨b0,0,none⟩) k1 (Ne.symm hn) (.slice none 0 0)) 0 (.int .i64 er))
 have HNE:=Aside0.mk hn
 have g0:=(blk_cell k0 0).trans rfl
 have f0:=blk_frozen k0 0
 have g5:=(blk_cell k1 0).trans rfl
 have f5:=blk_frozen k1 0
 have hn1:¬ b1=b0:=fun h => hn h.symm
 clear k0 k1 hB0 hB1
 go_wp2
 cases c₀
 simp_all [bodyPostS,results,Try.results8]
 exact ⟨hk0.out,hk1.out,hF.out⟩
abbrev dfr (bl be:Nat):Deferred:={ target:=.fn (.func 8) #[.pointer (some ⟨bl,0,none⟩),.pointer (some ⟨be,0,none⟩)],args:=#[] }
def MdDies (w:World) (r:List Mp × Int) (bl be:Nat) (c:List PanicEntry) (W:World):Prop :=
 ∃ n vl,c=[{ v:=.iface 25 (.int .i64 n),recovered:=false }]∧r=([],n)∧W.heap[bl]?=some (.cells #[vl] 24 (0,0))∧W.heap[be]?=some (.cells #[.int .i64 0] 25 (0,0))∧Below w.heap.size w W
def PD (w:World) (r:List Mp × Int) (bl be:Nat):Exit→Act→World→Prop
 | .panic c,a,W => a.defers=[dfr bl be]∧a.tmps.getD 4 undef=.pointer (some ⟨bl,0,none⟩)∧a.tmps.getD 5 undef=.pointer (some ⟨be,0,none⟩)∧MdDies w r bl be c W
 | e,a,W => bodyPostD Try.prog Try.f4 (MdPost w r) e a W
theorem PD.mk {w W:World} {r:List Mp × Int} {bl be:Nat} {c:List PanicEntry} {a:Act} (h1:a.defers=[dfr bl be]) (h2:a.tmps.getD 4 undef=.pointer (some ⟨bl,0,none⟩)) (h3:a.tmps.getD 5 undef=.pointer (some ⟨be,0,none⟩)) (h4:MdDies w r bl be c W):PD w r bl be (.panic c) a W:=⟨h1,h2,h3,h4⟩
theorem PD.put {w W:World} {r:List Mp × Int} {bl be d:Nat} {v:Value} {c:List PanicEntry} {a:Act} (h4:d ≠ 4) (h5:d ≠ 5) (h:PD w r bl be (.panic c) (a.put (some d) v) W):PD w r bl be (.panic c) a W:=by
 obtain ⟨h1,h2,h3,hd⟩:=h
 have e:∀ j,d ≠ j→(a.put (some d) v).tmps.getD j undef=a.tmps.getD j undef:=fun j hj => by
  simp [Act.put,Array.getElem?_setIfInBounds_ne hj]
 exact ⟨h1,(e 4 h4).symm.trans h2,(e 5 h5).symm.trans h3,hd⟩
set_option maxHeartbeats 4000000 in
set_option maxRecDepth 100000 in
theorem PD.out {w:World} {r:List Mp × Int} {bl be:Nat} (hl:w.heap.size≤bl) (he:w.heap.size≤be) (hn:bl ≠ be):∀ e a W,PD w r bl be e a W→bodyPostD Try.prog Try.f4 (MdPost w r) e a W:=by
 intro e a W h
 cases e with
 | panic c =>
  obtain ⟨h1,h2,h3,n,vl,rfl,rfl,k0,k1,hb⟩:=h
  show Leaves _ _ a.tmps _ a.defers _ W
  rw [h1]
  refine leaves_cons (f:=8) (args:=#[.pointer (some ⟨bl,0,none⟩),.pointer (some ⟨be,0,none⟩)]) (by simp) (by simp [go_sem]) ?_
  refine (md_panicking bl be w.heap.size n vl [] W hn hl he k0 k1).mono ?_
  rintro e u' W5 ⟨rfl,rfl,k0,k1,hb5⟩
  have r0:=(blk_cell k0 0).trans rfl
  have r5:=(blk_cell k1 0).trans rfl
  have HF:=Aside0.mk (hb.trans hb5)
  have h2':a.tmps[4]?.getD undef=.pointer (some ⟨bl,0,none⟩):=by simpa using h2
  have h3':a.tmps[5]?.getD undef=.pointer (some ⟨be,0,none⟩):=by simpa using h3
  clear k0 k1 hb5
  simp [Leaves,settle,results,Try.results4,go_sem,r0,r5,h2',h3']
  exact ⟨_,rfl,Kd.R_nil _ _ _ _ _,HF.out⟩
 | _ => exact h
structure MdSt (w W:World) (B N br g:Nat) (bs:List Int) (p bn bm bp:Nat) (vp:Value) (bo bl be:Nat) (vl:Value):Prop where
 I:IsMe B W br g bs p bn bm bp vp
 O:W.heap[bo]?=some (.cells #[fOne bn bp bm] 46 (0,0))
 kl:W.heap[bl]?=some (.cells #[vl] 24 (0,0))
 ke:W.heap[be]?=some (.cells #[.int .i64 0] 25 (0,0))
 b:Below w.heap.size w W
 lb:bl < B
 eb:be < B
 hB:w.heap.size≤B
 hl:w.heap.size≤bl
 nl:g < N
 nB:B≤N
 nW:N≤W.heap.size
section
variable {w W W':World} {B N br g:Nat} {bs:List Int} {p p' bn bm bp bo bl be:Nat} {vp vl:Value} {r:List Mp × Int}
theorem MdSt.step (h:MdSt w W B N br g bs p bn bm bp vp bo bl be vl) (hR:MsPost B W br g bs p' W'):MdSt w W' B N br g bs p' bn bm bp vp bo bl be vl:=by
 obtain ⟨v,hb,_⟩:=id h.I.M.R.blk
 exact ⟨h.I.step hR,hR.2.blk (blk_ne h.O hb (by decide)) h.O,(hR.2.below.block _ h.lb).trans h.kl,(hR.2.below.block _ h.eb).trans h.ke,h.b.trans (hR.2.below.mono h.hB),h.lb,h.eb,h.hB,h.hl,h.nl,h.nB,Nat.le_trans h.nW hR.2.keep.1⟩
theorem MdSt.new (h:MdSt w W B N br g bs p bn bm bp vp bo bl be vl) (hb:Below W.heap.size W W'):MdSt w W' B N br g bs p bn bm bp vp bo bl be vl :=
 ⟨h.I.below hb,(hb.block _ (blk_lt h.O)).trans h.O,(hb.block _ (blk_lt h.kl)).trans h.kl,(hb.block _ (blk_lt h.ke)).trans h.ke,h.b.trans (hb.mono h.b.size),h.lb,h.eb,h.hB,h.hl,h.nl,h.nB,Nat.le_trans h.nW hb.size⟩
theorem MdSt.cl (h:MdSt w W B N br g bs p bn bm bp vp bo bl be vl):W.cell? ⟨bl,0,none⟩=some vl:=(blk_cell h.kl 0).trans rfl
theorem MdSt.cr (h:MdSt w W B N br g bs p bn bm bp vp bo bl be vl):W.cell? ⟨br,0,none⟩=some (.pointer (some ⟨g,0,none⟩)):=h.I.M.c0
theorem MdSt.dies (h:MdSt w W B N br g bs p bn bm bp vp bo bl be vl) {n:Int} {c:List PanicEntry} (hc:c=[{ v:=.iface 25 (.int .i64 n),recovered:=false }]) (hr:r=([],n)) (hb:Below B W W'):MdDies w r bl be c W' :=
 ⟨n,vl,hc,hr,(hb.block _ h.lb).trans h.kl,(hb.block _ h.eb).trans h.ke,h.b.trans (hb.mono h.hB)⟩
theorem MdSt.setL (h:MdSt w W B N br g bs p bn bm bp vp bo bl be vl) (hne:bl ≠ be) (v:Value):MdSt w (W.setCell ⟨bl,0,none⟩ v) B N br g bs p bn bm bp vp bo bl be v:=by
 have hk:=h.kl
 exact ⟨⟨⟨h.I.M.R.far hk (by decide) (by decide) 0 v,blk_far h.I.M.blk (blk_ne h.I.M.blk hk (by decide)) v⟩,⟨blk_far h.I.E.kn (blk_ne h.I.E.kn hk (by decide)) v,blk_far h.I.E.km (blk_ne h.I.E.km hk (by decide)) v,blk_far h.I.E.kp (blk_ne h.I.E.kp hk (by decide)) v⟩⟩,blk_far h.O (blk_ne h.O hk (by decide)) v,blk_set hk 0 v,blk_far h.ke (Ne.symm hne) v,h.b.setCell (p:=⟨bl,0,none⟩) h.hl v,h.lb,h.eb,h.hB,h.hl,h.nl,h.nB,by simpa using h.nW⟩
theorem MdSt.setF (h:MdSt w W B N br g bs p bn bm bp vp bo bl be vl) {k:Nat} {cs:Array Value} (hk:W.heap[k]?=some (.cells cs 50 (0,0))) (hb:w.heap.size≤k) (j:Nat) (v:Value):MdSt w (W.setCell ⟨k,j,none⟩ v) B N br g bs p bn bm bp vp bo bl be vl :=
 ⟨⟨⟨h.I.M.R.far hk (by decide) (by decide) j v,blk_far h.I.M.blk (blk_ne h.I.M.blk hk (by decide)) v⟩,⟨blk_far h.I.E.kn (blk_ne h.I.E.kn hk (by decide)) v,blk_far h.I.E.km (blk_ne h.I.E.km hk (by decide)) v,blk_far h.I.E.kp (blk_ne h.I.E.kp hk (by decide)) v⟩⟩,blk_far h.O (blk_ne h.O hk (by decide)) v,blk_far h.kl (blk_ne h.kl hk (by decide)) v,blk_far h.ke (blk_ne h.ke hk (by decide)) v,h.b.setCell (p:=⟨k,j,none⟩) hb v,h.lb,h.eb,h.hB,h.hl,h.nl,h.nB,by simpa using h.nW⟩
theorem MdSt.grown {u:Value} {ok:Nat→Prop} {l:List Mp} (h:MdSt w W B N br g bs p bn bm bp vp bo bl be vl) (hR:Kd.R k53 53 W N ok u l) (hB:Below N W W') (hg:W.grownBy W' u.ownBlock):MdSt w W' B N br g bs p bn bm bp vp bo bl be vl :=
 ⟨h.I.grown hR (by decide) hg,(hg.block _ (blk_lt h.O) (Kd.R_ne hR h.O (by decide))).trans h.O,(hB.block _ (Nat.lt_of_lt_of_le h.lb h.nB)).trans h.kl,(hB.block _ (Nat.lt_of_lt_of_le h.eb h.nB)).trans h.ke,h.b.trans (hB.mono (Nat.le_trans h.hB h.nB)),h.lb,h.eb,h.hB,h.hl,h.nl,h.nB,Nat.le_trans h.nW hB.size⟩
theorem MdSt.lt (h:MdSt w W B N br g bs p bn bm bp vp bo bl be vl):g < W.heap.size:=h.I.M.R.lt
end
theorem md_start {w Wa Wb Wc:World} {A0:Option Addr} {c0 n0 g:Nat} {bs:List Int} {bp bl be br bn bm bo:Nat} (hWa:Wa=((w.alloc (.cells #[.slice A0 n0 c0] 22 (0,0))).alloc (.cells #[.slice none 0 0] 24 (0,0))).alloc (.cells #[.int .i64 0] 25 (0,0))) (hbp:bp=w.heap.size) (hbl:bl=w.heap.size + 1) (hbe:be=w.heap.size + 1 + 1)
  (hI:IsRd Wa.heap.size Wb g bs 0) (hb:Below Wa.heap.size Wa Wb) (hbr:br=Wb.heap.size) (hbn:bn=Wb.heap.size + 1) (hbm:bm=Wb.heap.size + 1 + 1) (hbo:bo=Wb.heap.size + 1 + 1 + 1)
  (hWc:Wc=(((Wb.alloc (.cells #[.pointer (some ⟨g,0,none⟩)] 33 (0,0))).alloc (.cells #[fNum br] 38 (0,0))).alloc (.cells #[fMust] 39 (0,0))).alloc (.cells #[fOne bn bp bm] 46 (0,0))) :
  MdSt w Wc Wa.heap.size Wc.heap.size br g bs 0 bn bm bp (.slice A0 n0 c0) bo bl be (.slice none 0 0):=by
 obtain ⟨W1,h1⟩:∃ W1,W1=w.alloc (.cells #[.slice A0 n0 c0] 22 (0,0)):=⟨_,rfl⟩
 obtain ⟨W2,h2⟩:∃ W2,W2=W1.alloc (.cells #[.slice none 0 0] 24 (0,0)):=⟨_,rfl⟩
 rw [← h1,← h2] at hWa
 have s1:W1.heap.size=w.heap.size + 1:=by rw [h1];simp
 have s2:W2.heap.size=w.heap.size + 1 + 1:=by rw [h2];simp [s1]
 have s3:Wa.heap.size=w.heap.size + 1 + 1 + 1:=by rw [hWa];simp [s2]
 have b1:Below w.heap.size w W1:=by rw [h1];exact below_alloc (Below.refl _ _) _
 have b2:Below W1.heap.size W1 W2:=by rw [h2];exact below_alloc (Below.refl _ _) _
 have b3:Below W2.heap.size W2 Wa:=by rw [hWa];exact below_alloc (Below.refl _ _) _
 have k1:W1.heap[bp]?=some (.cells #[.slice A0 n0 c0] 22 (0,0)):=by rw [h1,hbp];exact blk_new _ _
 have k2:W2.heap[bl]?=some (.cells #[.slice none 0 0] 24 (0,0)):=by rw [h2,hbl,← s1];exact blk_new _ _
 have k3:Wa.heap[be]?=some (.cells #[.int .i64 0] 25 (0,0)):=by rw [hWa,hbe,← s2];exact blk_new _ _
 have B1:=b1.trans ((b2.mono b1.size).trans (b3.mono (Nat.le_trans b1.size b2.size)))
 obtain ⟨X1,e1⟩:∃ X1,X1=Wb.alloc (.cells #[.pointer (some ⟨g,0,none⟩)] 33 (0,0)):=⟨_,rfl⟩
 obtain ⟨X2,e2⟩:∃ X2,X2=X1.alloc (.cells #[fNum br] 38 (0,0)):=⟨_,rfl⟩
 obtain ⟨X3,e3⟩:∃ X3,X3=X2.alloc (.cells #[fMust] 39 (0,0)):=⟨_,rfl⟩
 rw [← e1,← e2,← e3] at hWc
 have t1:X1.heap.size=Wb.heap.size + 1:=by rw [e1];simp
 have t2:X2.heap.size=Wb.heap.size + 1 + 1:=by rw [e2];simp [t1]
 have t3:X3.heap.size=Wb.heap.size + 1 + 1 + 1:=by rw [e3];simp [t2]
 have d1:Below Wb.heap.size Wb X1:=by rw [e1];exact below_alloc (Below.refl _ _) _
 have d2:Below X1.heap.size X1 X2:=by rw [e2];exact below_alloc (Below.refl _ _) _
 have d3:Below X2.heap.size X2 X3:=by rw [e3];exact below_alloc (Below.refl _ _) _
 have d4:Below X3.heap.size X3 Wc:=by rw [hWc];exact below_alloc (Below.refl _ _) _
 have q1:X1.heap[br]?=some (.cells #[.pointer (some ⟨g,0,none⟩)] 33 (0,0)):=by rw [e1,hbr];exact blk_new _ _
 have q2:X2.heap[bn]?=some (.cells #[fNum br] 38 (0,0)):=by rw [e2,hbn,← t1];exact blk_new _ _
 have q3:X3.heap[bm]?=some (.cells #[fMust] 39 (0,0)):=by rw [e3,hbm,← t2];exact blk_new _ _
 have q4:Wc.heap[bo]?=some (.cells #[fOne bn bp bm] 46 (0,0)):=by rw [hWc,hbo,← t3];exact blk_new _ _
 have D:=d1.trans ((d2.mono d1.size).trans ((d3.mono (Nat.le_trans d1.size d2.size)).trans (d4.mono (Nat.le_trans d1.size (Nat.le_trans d2.size d3.size)))))
 have up:∀ (i:Nat) (o:Obj),i < Wa.heap.size→Wa.heap[i]?=some o→Wc.heap[i]?=some o:=fun i o hi h => (D.block _ (Nat.lt_of_lt_of_le hi hb.size)).trans ((hb.block _ hi).trans h)
 refine ⟨⟨⟨hI.below D,(d4.block _ (by omega)).trans ((d3.block _ (by omega)).trans ((d2.block _ (by omega)).trans q1))⟩,⟨(d4.block _ (by omega)).trans ((d3.block _ (by omega)).trans q2),(d4.block _ (by omega)).trans q3,up _ _ (by omega) ((b3.block _ (by omega)).trans ((b2.block _ (by omega)).trans k1))⟩⟩,q4,up _ _ (by omega) ((b3.block _ (by omega)).trans k2),up _ _ (by omega) k3,B1.trans ((hb.mono B1.size).trans (D.mono (Nat.le_trans B1.size hb.size))),by omega,by omega,B1.size,by omega,Nat.lt_of_lt_of_le hI.lt D.size,Nat.le_trans hb.size D.size,Nat.le_refl _⟩
theorem md_fewer {i:Nat} {n:Int} (h:(i:Int) < n) (hn:n≤65536):(n - wrap64 ((i:Int) + 1)).toNat < (n - (i:Int)).toNat:=by
 have e:wrap64 ((i:Int) + 1)=(i:Int) + 1:=by unfold wrap64;omega
 rw [e]
 omega
set_option maxHeartbeats 80000000 in
set_option maxRecDepth 100000 in
theorem maps_Decode.calls (k:Nat) (A0:Option Addr) (c0:Nat) (pl:List Cst) (A1:Option Addr) (c1:Nat) (bs:List Int) (r:List Mp × Int) (w:World) (hG:Aside0 (GG w)) (hP:Kd.C k70 w A0 pl.length pl) (hpc:pl.length≤c0) (hC:(Kd.int .u8).C w A1 bs.length bs) (hc:bs.length≤c1) (h:maps_Decode.f k pl bs=some r) :
  Calls Try.prog 4 #[.slice A0 pl.length c0,.slice A1 bs.length c1] w fun e w' => MdPost w r e w':=by
 have hmf:∀ (fn:Fn) (first cap:Array Value) (w:World),(Instr.makeFunc fn first cap).run Try.prog w=.ok (.func fn first cap) w:=fun _ _ _ _ => rfl
 have hu:=Try.underlying50
 have hu2:=Try.underlying53
 unfold maps_Decode.f at h
 have HP:=Aside0.mk hP
 have HPC:=Aside0.mk hpc
 have HC:=Aside0.mk hC
 have HCC:=Aside0.mk hc
 clear hP hpc hC hc
 by_cases h0:bs.length=0
 ·rw [if_pos h0] at h
  obtain rfl:=Option.some.inj h
  have hb:((bs.length:Int)==0)=true:=beq_iff_eq.mpr (by omega)
  have hb2:(bs.length==0)=true:=beq_iff_eq.mpr h0
  clear h h0
  go_enter Try.func4,Try.ntmps4
  go_wp2
  refine bodyPost_ret (v:=.tuple #[.slice none 0 0,.int .i64 0]) ?_ rfl ?_
  ·simp [results,Try.results4,go_sem]
  ·exact ⟨_,rfl,Kd.R_nil _ _ _ _ _,below_alloc (below_alloc (below_alloc (Below.refl _ _) _) _) _⟩
 rw [if_neg h0] at h
 by_cases hl:bs.length≤140737488351232
 case neg => rw [if_neg hl] at h;cases h
 rw [if_pos hl] at h
 obtain ⟨o,ho,h⟩:=Option.bind_eq_some_iff.mp h
 obtain rfl:=Option.some.inj h
 have HO:=Aside0.mk ho
 have HL:Aside0 (bs.length≤140737488355328):=⟨by omega⟩
 have hb:((bs.length:Int)==0)=false:=beq_eq_false_iff_ne.mpr (by omega)
 have hb2:(bs.length==0)=false:=beq_eq_false_iff_ne.mpr h0
 clear h h0 hl ho
 obtain ⟨bl,hbl⟩:∃ bl,bl=w.heap.size + 1:=⟨_,rfl⟩
 obtain ⟨be,hbe⟩:∃ be,be=w.heap.size + 1 + 1:=⟨_,rfl⟩
 obtain ⟨bp,hbp⟩:∃ bp,bp=w.heap.size:=⟨_,rfl⟩
 have HBL:=Aside0.mk hbl
 have HBE:=Aside0.mk hbe
 have HBP:=Aside0.mk hbp
 refine calls_of_wp_defers Try.func4 rfl ?_
 refine Code.wp_mono (PD.out (bl:=bl) (be:=be) (by omega) (by omega) (by omega)) ?_
 clear hbl hbe hbp
 simp only [Try.ntmps4,List.size_toArray,List.length_cons,List.length_nil,Nat.reduceAdd,Nat.reduceSub,Array.replicate_succ,Array.replicate_zero,List.push_toArray,List.append_toArray,List.nil_append,List.cons_append]
 go_wp2_with fail
 obtain ⟨Wa,hWa⟩:∃ Wa,Wa=((w.alloc (.cells #[.slice A0 pl.length c0] 22 (0,0))).alloc (.cells #[.slice none 0 0] 24 (0,0))).alloc (.cells #[.int .i64 0] 25 (0,0)):=⟨_,rfl⟩
 have HWA:=Aside0.mk hWa
 have hba:Below w.heap.size w Wa:=by rw [hWa];exact below_alloc (below_alloc (below_alloc (Below.refl _ _) _) _) _
 have HBA:=Aside0.mk hba
 rw [← hWa,← HBE.out,← HBL.out,← HBP.out]
 clear hWa hba hb hb2
 refine (rd_New.calls A1 c1 bs Wa (Kd.C_below HC.out HBA.out) HL.out).mono ?_
 rintro _ Wb ⟨g,rfl,hge,hI,hb⟩
 have HIR:=Aside0.mk hI
 have HBB:=Aside0.mk hb
 clear hge hI hb
 go_upto_region 9 with fail
 obtain ⟨br,hbr⟩:∃ br,br=Wb.heap.size:=⟨_,rfl⟩
 obtain ⟨bn,hbn⟩:∃ bn,bn=Wb.heap.size + 1:=⟨_,rfl⟩
 obtain ⟨bm,hbm⟩:∃ bm,bm=Wb.heap.size + 1 + 1:=⟨_,rfl⟩
 obtain ⟨bo,hbo⟩:∃ bo,bo=Wb.heap.size + 1 + 1 + 1:=⟨_,rfl⟩
 obtain ⟨Wc,hWc⟩:∃ Wc,Wc=(((Wb.alloc (.cells #[.pointer (some ⟨g,0,none⟩)] 33 (0,0))).alloc (.cells #[fNum Wb.heap.size] 38 (0,0))).alloc (.cells #[fMust] 39 (0,0))).alloc (.cells #[fOne (Wb.heap.size + 1) bp (Wb.heap.size + 1 + 1)] 46 (0,0)):=⟨_,rfl⟩
 rw [← hWc,← hbo,← hbm,← hbn,← hbr]
 have hst:=md_start (Wc:=Wc) HWA.out HBP.out HBL.out HBE.out HIR.out HBB.out hbr hbn hbm hbo (by rw [hWc,hbr,hbn,hbm])
 have HEE:Aside0 (w.heap.size≤be):=⟨by have:=HBE.out;omega⟩
 have HNE:Aside0 (bl ≠ be):=⟨by have:=HBL.out;have:=HBE.out;omega⟩
 generalize Wc.heap.size=N at hst
 generalize Wa.heap.size=B at hst
 have HS:=Aside0.mk hst
 clear hst hbr hbn hbm hbo hWc HWA HBA HBB HIR HBP HBL HBE
 have hO:=HO.out
 clear HO
 unfold md_all.f at hO
 obtain ⟨on,hn,hO⟩:=Option.bind_eq_some_iff.mp hO
 have HX:=Aside0.mk hn
 have HH:=Aside0.mk hO
 clear hn hO
 have cn:=HS.out.I.cn
 go_wp2_with fail
 refine (ms_num.calls (n:=2) HS.out.I.M (by decide) (by decide) HL.out HX.out).mono ?_
 clear HX
 cases on with
 | er n =>
  obtain rfl:=Option.some.inj HH.out
  rintro _ W1 ⟨rfl,hb1⟩
  have HB1:=Aside0.mk hb1
  clear hb1 HH cn
  go_wp2
  exact PD.mk rfl rfl rfl (HS.out.dies rfl rfl HB1.out)
 | ok n q =>
 rintro _ W1 ⟨rfl,hR⟩
 have HS1:=Aside0.mk (HS.out.step hR)
 have h:(if n≤65536 then (md_maps.f k pl bs n.toNat (-1) q []).bind fun o => o.bind fun l q => some (if q=bs.length then .ok l q else .er 100) else none)=some o:=HH.out
 clear hR HS HH cn
 by_cases hn:n≤65536
 case neg => rw [if_neg hn] at h;cases h
 rw [if_pos hn] at h
 have HN:=Aside0.mk hn
 obtain ⟨ol,hol,h⟩:=Option.bind_eq_some_iff.mp h
 have H0:=Aside0.mk hol
 have HH:=Aside0.mk h
 clear hn hol h
 go_wp2_with fail
 go_loopw [11,24] (fun v11 v24 wr => ∃ (a:Int) (l:List Mp) (vl:Value) (q:Nat),v11=.int .i64 a∧v24=.int .i64 (l.length:Int)∧Aside0 (md_maps.f k pl bs (n - l.length).toNat a q l=some ol)∧Aside0 (MdSt w wr B N br g bs q bn bm bp (.slice A0 pl.length c0) bo bl be vl)∧Aside0 (Kd.R k53 53 wr N (fun _ => True) vl l)) (fun _ v24 _ => (n - intOf v24).toNat)
 case atStart => exact ⟨-1,[],.slice none 0 0,q,rfl,rfl,⟨by have:=H0.out;simpa using this⟩,HS1,⟨Kd.R_nil _ _ _ _ _⟩⟩
 case round =>
  obtain ⟨a,l,vl,q,rfl,rfl,HT,HS,HR⟩:=hrel
  clear HS1 H0
  by_cases hx:(l.length:Int) < n
  ·have hpx:decide ((l.length:Int) < n)=true:=decide_eq_true hx
   obtain ⟨m,hm⟩:∃ m,(n - (l.length:Int)).toNat=m + 1:=⟨(n - (l.length:Int)).toNat - 1,by omega⟩
   have hT:=HT.out
   rw [hm] at hT
   simp only [md_maps.f] at hT
   obtain ⟨ot,ht,hT⟩:=Option.bind_eq_some_iff.mp hT
   have HX:=Aside0.mk ht
   have HT1:=Aside0.mk hT
   have HM:=Aside0.mk hm
   have HLT:=Aside0.mk hx
   clear hT HT hm hx ht
   go_wp2
   have G0:=Aside0.mk (HS.out.new (below_drew (Below.refl _ _)))
   have Q0:=Aside0.mk (Kd.R_below HR.out (below_drew (Below.refl _ _)))
   have cn0:=G0.out.I.cn
   have cm0:=G0.out.I.cm
   clear HS HR
   cases ot with
   | er e =>
    obtain rfl:=Option.some.inj HT1.out
    obtain rfl:=Option.some.inj HH.out
    clear HT1 HH
    refine start_ (n:=5) (S:=fun w' => w'.cell? ⟨bn,0,none⟩=some (fNum br)∧w'.cell? ⟨bm,0,none⟩=some fMust) (ds:=[]) #[false,false,false,false,false] (by kernel_rfl) rfl rfl ⟨cn0,cm0⟩ (fun hHeld => ?_)
    refine take_ (i:=0) (N:=some 26) (v:=?_) (a':=?_) #[true,false,false,false,false] rfl rfl (by kernel_rfl) (fun _ _ _ h => PD.put (by decide) (by decide) h) (Or.inl ⟨by rfl,?_⟩) hHeld ?_ ?_
    rotate_left
    ·rintro w' ⟨s0,s1⟩
     go_simp
     with_reducible rfl
    rotate_left
    ·simp only [Act.put,List.setIfInBounds_toArray,List.set_cons_zero,List.set_cons_succ,i64_w,i32_w]
     rfl
    refine take_ (i:=1) (N:=some 27) (v:=?_) (a':=?_) #[true,true,false,false,false] rfl rfl (by kernel_rfl) (fun _ _ _ h => PD.put (by decide) (by decide) h) (Or.inl ⟨by rfl,?_⟩) hHeld ?_ ?_
    rotate_left
    ·rintro w' ⟨s0,s1⟩
     go_simp
     with_reducible rfl
    rotate_left
    ·simp only [Act.put,List.setIfInBounds_toArray,List.set_cons_zero,List.set_cons_succ,i64_w,i32_w]
     rfl
    refine one_ (i:=2) (N:=some 28) #[true,true,true,false,false] rfl rfl (by kernel_rfl) (by decide) (fun K hK => ?_)
    refine diesV_ Try.func10 (by kernel_rfl) rfl #[.int .i64 1,.pointer (some ⟨br,0,none⟩)] (by rfl) rfl rfl (by rfl) (by simp only [List.map_toArray,List.map_cons,List.map_nil];rfl) ?_
    refine (ms_num.calls (n:=1) G0.out.I.M (by decide) (by decide) HL.out HX.out).mono ?_
    rintro _ W2 ⟨rfl,hR⟩
    refine ⟨_,rfl,?_⟩
    exact PD.mk rfl rfl rfl (G0.out.dies rfl rfl hR)
   | ok t p1 =>
   have hT:(if t=255 then (ms_num.f k bs p1 2).bind fun o => o.bind fun s p2 => if wrap64 (a + wrap64 (s + 1))≤4096 then (ms_some.f k pl bs p2).bind fun o => o.bind fun l1 p3 => (ms_some.f k pl bs p3).bind fun o => o.bind fun l2 p4 => (maps_fresh.f k l1 l2 false).bind fun fr => md_maps.f k pl bs m (wrap64 (a + wrap64 (s + 1))) p4 (l++[⟨wrap64 (a + wrap64 (s + 1)),⟨l1,l2,fr⟩⟩]) else some (.er 100) else some (.er 100))=some ol:=HT1.out
   clear HT1
   by_cases q1:t=255
   case neg =>
    rw [if_neg q1] at hT
    obtain rfl:=Option.some.inj hT
    obtain rfl:=Option.some.inj HH.out
    have b1:(t==255)=false:=beq_eq_false_iff_ne.mpr q1
    clear hT HH q1
    refine start_ (n:=5) (S:=fun w' => w'.cell? ⟨bn,0,none⟩=some (fNum br)∧w'.cell? ⟨bm,0,none⟩=some fMust) (ds:=[]) #[false,false,false,false,false] (by kernel_rfl) rfl rfl ⟨cn0,cm0⟩ (fun hHeld => ?_)
    refine take_ (i:=0) (N:=some 26) (v:=?_) (a':=?_) #[true,false,false,false,false] rfl rfl (by kernel_rfl) (fun _ _ _ h => PD.put (by decide) (by decide) h) (Or.inl ⟨by rfl,?_⟩) hHeld ?_ ?_
    rotate_left
    ·rintro w' ⟨s0,s1⟩
     go_simp
     with_reducible rfl
    rotate_left
    ·simp only [Act.put,List.setIfInBounds_toArray,List.set_cons_zero,List.set_cons_succ,i64_w,i32_w]
     rfl
    refine take_ (i:=1) (N:=some 27) (v:=?_) (a':=?_) #[true,true,false,false,false] rfl rfl (by kernel_rfl) (fun _ _ _ h => PD.put (by decide) (by decide) h) (Or.inl ⟨by rfl,?_⟩) hHeld ?_ ?_
    rotate_left
    ·rintro w' ⟨s0,s1⟩
     go_simp
     with_reducible rfl
    rotate_left
    ·simp only [Act.put,List.setIfInBounds_toArray,List.set_cons_zero,List.set_cons_succ,i64_w,i32_w]
     rfl
    refine one_ (i:=2) (N:=some 28) #[true,true,true,false,false] rfl rfl (by kernel_rfl) (by decide) (fun K hK => ?_)
    refine goesV_ Try.func10 (by kernel_rfl) rfl #[.int .i64 1,.pointer (some ⟨br,0,none⟩)] (by rfl) rfl rfl (by rfl) (by simp only [List.map_toArray,List.map_cons,List.map_nil];rfl) ?_
    refine (ms_num.calls (n:=1) G0.out.I.M (by decide) (by decide) HL.out HX.out).mono ?_
    rintro _ W2 ⟨rfl,hR⟩
    refine ⟨_,rfl,?_⟩
    have G1:=Aside0.mk (G0.out.step hR)
    have Q1:=Aside0.mk (hR.2.R Q0.out G0.out.nl)
    have cn1:=G1.out.I.cn
    have cm1:=G1.out.I.cm
    clear hR
    refine hK.out _ _ ⟨cn1,cm1⟩ (fun hHeld => ?_)
    clear hK K
    refine norm_ (a':=?_) ?_ ?_
    rotate_left
    ·show Act.put _ (some 28) _=_
     simp only [Act.put,List.setIfInBounds_toArray,List.set_cons_zero,List.set_cons_succ,i64_w,i32_w]
     rfl
    refine pure_ (i:=3) (N:=some 29) (v:=?_) (a':=?_) #[true,true,true,true,false] rfl rfl (by kernel_rfl) (fun _ _ _ h => PD.put (by decide) (by decide) h) (Or.inl ⟨by rfl,?_⟩) ?_ ?_
    rotate_left
    ·intro w'
     go_simp
     with_reducible rfl
    rotate_left
    ·simp only [Act.put,List.setIfInBounds_toArray,List.set_cons_zero,List.set_cons_succ,i64_w,i32_w]
     rfl
    refine one_ (i:=4) (N:=some 30) #[true,true,true,true,true] rfl rfl (by kernel_rfl) (by decide) (fun K hK => ?_)
    refine diesV_ Try.func12 (by kernel_rfl) rfl #[.bool false] (by rfl) rfl rfl (by rfl) (by simp only [List.map_toArray,List.map_cons,List.map_nil,Act.eval];first|rfl|(simp [b1];done)) ?_
    refine (must_dies W2).mono ?_
    rintro _ _ ⟨rfl,rfl⟩
    refine ⟨_,rfl,?_⟩
    exact PD.mk rfl rfl rfl (G1.out.dies rfl rfl (Below.refl _ _))
   rw [if_pos q1] at hT
   have b1:(t==255)=true:=beq_iff_eq.mpr q1
   clear q1
   obtain ⟨os,hs,hT⟩:=Option.bind_eq_some_iff.mp hT
   have HY:=Aside0.mk hs
   have HT1:=Aside0.mk hT
   clear hs hT
   refine start_ (n:=5) (S:=fun w' => w'.cell? ⟨bn,0,none⟩=some (fNum br)∧w'.cell? ⟨bm,0,none⟩=some fMust) (ds:=[]) #[false,false,false,false,false] (by kernel_rfl) rfl rfl ⟨cn0,cm0⟩ (fun hHeld => ?_)
   refine take_ (i:=0) (N:=some 26) (v:=?_) (a':=?_) #[true,false,false,false,false] rfl rfl (by kernel_rfl) (fun _ _ _ h => PD.put (by decide) (by decide) h) (Or.inl ⟨by rfl,?_⟩) hHeld ?_ ?_
   rotate_left
   ·rintro w' ⟨s0,s1⟩
    go_simp
    with_reducible rfl
   rotate_left
   ·simp only [Act.put,List.setIfInBounds_toArray,List.set_cons_zero,List.set_cons_succ,i64_w,i32_w]
    rfl
   refine take_ (i:=1) (N:=some 27) (v:=?_) (a':=?_) #[true,true,false,false,false] rfl rfl (by kernel_rfl) (fun _ _ _ h => PD.put (by decide) (by decide) h) (Or.inl ⟨by rfl,?_⟩) hHeld ?_ ?_
   rotate_left
   ·rintro w' ⟨s0,s1⟩
    go_simp
    with_reducible rfl
   rotate_left
   ·simp only [Act.put,List.setIfInBounds_toArray,List.set_cons_zero,List.set_cons_succ,i64_w,i32_w]
    rfl
   refine one_ (i:=2) (N:=some 28) #[true,true,true,false,false] rfl rfl (by kernel_rfl) (by decide) (fun K hK => ?_)
   refine goesV_ Try.func10 (by kernel_rfl) rfl #[.int .i64 1,.pointer (some ⟨br,0,none⟩)] (by rfl) rfl rfl (by rfl) (by simp only [List.map_toArray,List.map_cons,List.map_nil];rfl) ?_
   refine (ms_num.calls (n:=1) G0.out.I.M (by decide) (by decide) HL.out HX.out).mono ?_
   rintro _ W2 ⟨rfl,hR⟩
   refine ⟨_,rfl,?_⟩
   have G1:=Aside0.mk (G0.out.step hR)
   have Q1:=Aside0.mk (hR.2.R Q0.out G0.out.nl)
   have cn1:=G1.out.I.cn
   have cm1:=G1.out.I.cm
   clear hR
   refine hK.out _ _ ⟨cn1,cm1⟩ (fun hHeld => ?_)
   clear hK K
   refine norm_ (a':=?_) ?_ ?_
   rotate_left
   ·show Act.put _ (some 28) _=_
    simp only [Act.put,List.setIfInBounds_toArray,List.set_cons_zero,List.set_cons_succ,i64_w,i32_w]
    rfl
   refine pure_ (i:=3) (N:=some 29) (v:=?_) (a':=?_) #[true,true,true,true,false] rfl rfl (by kernel_rfl) (fun _ _ _ h => PD.put (by decide) (by decide) h) (Or.inl ⟨by rfl,?_⟩) ?_ ?_
   rotate_left
   ·intro w'
    go_simp
    with_reducible rfl
   rotate_left
   ·simp only [Act.put,List.setIfInBounds_toArray,List.set_cons_zero,List.set_cons_succ,i64_w,i32_w]
    rfl
   refine one_ (i:=4) (N:=some 30) #[true,true,true,true,true] rfl rfl (by kernel_rfl) (by decide) (fun K hK => ?_)
   refine goesV_ Try.func12 (by kernel_rfl) rfl #[.bool true] (by rfl) rfl rfl (by rfl) (by simp only [List.map_toArray,List.map_cons,List.map_nil];rfl) ?_
   refine (must_ok W2).mono ?_
   rintro _ _ ⟨rfl,rfl⟩
   refine ⟨_,rfl,?_⟩
   refine hK.out _ _ ⟨cn1,cm1⟩ (fun hHeld => ?_)
   clear hK K
   refine norm_ (a':=?_) ?_ ?_
   rotate_left
   ·show Act.put _ (some 30) _=_
    simp only [Act.put,List.setIfInBounds_toArray,List.set_cons_zero,List.set_cons_succ,i64_w,i32_w]
    rfl
   refine done_ (by kernel_rfl) ?_
   clear hHeld cn0 cm0 cn1 cm1 G0 Q0 b1 HX
   have cn:=G1.out.I.cn
   go_wp2_with fail
   refine (ms_num.calls (n:=2) G1.out.I.M (by decide) (by decide) HL.out HY.out).mono ?_
   clear HY
   cases os with
   | er e =>
    obtain rfl:=Option.some.inj HT1.out
    obtain rfl:=Option.some.inj HH.out
    rintro _ W3 ⟨rfl,hb1⟩
    have HB1:=Aside0.mk hb1
    clear hb1 HH cn HT1
    go_wp2
    exact PD.mk rfl rfl rfl (G1.out.dies rfl rfl HB1.out)
   | ok s p2 =>
   rintro _ W3 ⟨rfl,hR⟩
   have G2:=Aside0.mk (G1.out.step hR)
   have Q2:=Aside0.mk (hR.2.R Q1.out G1.out.nl)
   have hT:(if wrap64 (a + wrap64 (s + 1))≤4096 then (ms_some.f k pl bs p2).bind fun o => o.bind fun l1 p3 => (ms_some.f k pl bs p3).bind fun o => o.bind fun l2 p4 => (maps_fresh.f k l1 l2 false).bind fun fr => md_maps.f k pl bs m (wrap64 (a + wrap64 (s + 1))) p4 (l++[⟨wrap64 (a + wrap64 (s + 1)),⟨l1,l2,fr⟩⟩]) else some (.er 100))=some ol:=HT1.out
   obtain ⟨a',ha'⟩:∃ a',a'=wrap64 (a + wrap64 (s + 1)):=⟨_,rfl⟩
   rw [← ha'] at hT
   have HA:=Aside0.mk ha'
   clear hR G1 Q1 cn HT1 ha'
   have cm:=G2.out.I.cm
   go_upto_region 14 with fail
   rw [← HA.out]
   clear HA
   by_cases q2:a'≤4096
   case neg =>
    rw [if_neg q2] at hT
    obtain rfl:=Option.some.inj hT
    obtain rfl:=Option.some.inj HH.out
    have b2:decide (a'≤4096)=false:=decide_eq_false q2
    clear hT HH q2
    go_wp2_with fail
    refine (must_dies _).mono ?_
    rintro _ _ ⟨rfl,rfl⟩
    go_wp2
    exact PD.mk rfl rfl rfl (G2.out.dies rfl rfl (Below.refl _ _))
   rw [if_pos q2] at hT
   have b2:decide (a'≤4096)=true:=decide_eq_true q2
   obtain ⟨o1,h1,hT⟩:=Option.bind_eq_some_iff.mp hT
   have HY:=Aside0.mk h1
   have HT1:=Aside0.mk hT
   clear h1 hT q2
   go_wp2_with fail
   refine (must_ok _).mono ?_
   rintro _ W4 ⟨rfl,rfl⟩
   clear b2 cm
   go_wp2_with fail
   refine (ms_some.calls (Ap:=A0) (cp:=c0) (pl:=pl) ⟨fun w' hb => GG.below hG.out (G2.out.b.trans (hb.mono G2.out.hB))⟩ G2.out.I G2.out.O HL.out (fun w' hS => Kd.C_below HP.out (G2.out.b.trans (hS.below.mono G2.out.hB))) HPC.out HY.out).mono ?_
   clear HY
   cases o1 with
   | er e =>
    obtain rfl:=Option.some.inj HT1.out
    obtain rfl:=Option.some.inj HH.out
    rintro _ W5 ⟨rfl,hb1⟩
    have HB1:=Aside0.mk hb1
    clear hb1 HH HT1
    go_wp2
    exact PD.mk rfl rfl rfl (G2.out.dies rfl rfl HB1.out)
   | ok l1 p3 =>
   rintro _ W5 ⟨v1,rfl,hR1,hR⟩
   have G3:=Aside0.mk (G2.out.step hR)
   have Q3:=Aside0.mk (hR.2.R Q2.out G2.out.nl)
   have Xv1:=Aside0.mk (Kd.R_lower hR1 G2.out.nW)
   clear hR hR1 G2 Q2 
   obtain ⟨o2,h1,hT⟩:=Option.bind_eq_some_iff.mp HT1.out
   have HY:=Aside0.mk h1
   have HT2:=Aside0.mk hT
   clear h1 hT HT1
   have HT1:=HT2
   clear HT2
   obtain ⟨A5,c5,hv5⟩:=Kd.R_slice Xv1.out
   subst hv5
   go_wp2_with fail
   refine (ms_some.calls (Ap:=A0) (cp:=c0) (pl:=pl) ⟨fun w' hb => GG.below hG.out (G3.out.b.trans (hb.mono G3.out.hB))⟩ G3.out.I G3.out.O HL.out (fun w' hS => Kd.C_below HP.out (G3.out.b.trans (hS.below.mono G3.out.hB))) HPC.out HY.out).mono ?_
   clear HY
   cases o2 with
   | er e =>
    obtain rfl:=Option.some.inj HT1.out
    obtain rfl:=Option.some.inj HH.out
    rintro _ W6 ⟨rfl,hb1⟩
    have HB1:=Aside0.mk hb1
    clear hb1 HH HT1
    go_wp2
    exact PD.mk rfl rfl rfl (G3.out.dies rfl rfl HB1.out)
   | ok l2 p4 =>
   rintro _ W6 ⟨v2,rfl,hR1,hR⟩
   have G4:=Aside0.mk (G3.out.step hR)
   have Q4:=Aside0.mk (hR.2.R Q3.out G3.out.nl)
   have Xv2:=Aside0.mk (Kd.R_lower hR1 G3.out.nW)
   have Xv1n:=Aside0.mk (hR.2.R Xv1.out G3.out.nl)
   clear hR hR1 G3 Q3 Xv1
   obtain ⟨fr,h1,hT⟩:=Option.bind_eq_some_iff.mp HT1.out
   have HY:=Aside0.mk h1
   have HT2:Aside0 (md_maps.f k pl bs m a' p4 (l++[⟨a',⟨l1,l2,fr⟩⟩])=some ol):=⟨hT⟩
   clear h1 hT HT1
   obtain ⟨A6,c6,hv6⟩:=Kd.R_slice Xv2.out
   subst hv6
   go_upto_region 16 with fail
   obtain ⟨W7,hW7⟩:∃ W7,W7=W6.alloc (.cells #[.slice A5 l1.length c5,.slice A6 l2.length c6,.bool false] 50 (0,0)):=⟨_,rfl⟩
   obtain ⟨bf,hbf⟩:∃ bf,bf=W6.heap.size:=⟨_,rfl⟩
   rw [← hW7,← hbf]
   have hb7:Below W6.heap.size W6 W7:=by rw [hW7];exact below_alloc (Below.refl _ _) _
   have HK7:=Aside0.mk (show W7.heap[bf]?=some (.cells #[.slice A5 l1.length c5,.slice A6 l2.length c6,.bool false] 50 (0,0)) from by rw [hW7,hbf];exact blk_new _ _)
   have HBF:Aside0 (w.heap.size≤bf):=⟨by rw [hbf];exact G4.out.b.size⟩
   have G7:=Aside0.mk (G4.out.new hb7)
   have Q7:=Aside0.mk (Kd.R_below Q4.out hb7)
   have X1:=Aside0.mk (Kd.R_below Xv1n.out hb7)
   have X2:=Aside0.mk (Kd.R_below Xv2.out hb7)
   clear hW7 hbf hb7 G4 Q4 Xv1n Xv2
   have d0:=(blk_cell HK7.out 0).trans rfl
   have d1:=(blk_cell HK7.out 1).trans rfl
   have d2:=(blk_cell HK7.out 2).trans rfl
   go_wp2_with fail
   obtain ⟨_,z5,hz5,hl5,hC5⟩:=Kd.R_reads X1.out
   obtain ⟨_,z6,hz6,hl6,hC6⟩:=Kd.R_reads X2.out
   injection hz5 with hz5 _ hy5
   injection hz6 with hz6 _ hy6
   subst hz5 hz6 hy5 hy6
   refine (maps_fresh.calls k _ _ l1 _ _ l2 false fr W7 hC5 hl5 hC6 hl6 HY.out).mono ?_
   rintro _ W8 ⟨rfl,hb8⟩
   have G8:=Aside0.mk (G7.out.new hb8)
   have Q8:=Aside0.mk (Kd.R_below Q7.out hb8)
   have Y1:=Aside0.mk (Kd.R_below X1.out hb8)
   have Y2:=Aside0.mk (Kd.R_below X2.out hb8)
   have HK8:=Aside0.mk ((hb8.block _ (blk_lt HK7.out)).trans HK7.out)
   clear hb8 hC5 hC6 hl5 hl6 d0 d1 d2 G7 Q7 X1 X2 HK7 HY
   have d2:=(blk_cell HK8.out 2).trans rfl
   have f2:=blk_frozen HK8.out 2
   go_upto_region 17 with fail
   have G9:=Aside0.mk (G8.out.setF HK8.out HBF.out 2 (.bool fr))
   have Q9:=Aside0.mk (Kd.R_set Q8.out HK8.out (by decide) 2 (.bool fr))
   have Z1:=Aside0.mk (Kd.R_set Y1.out HK8.out (by decide) 2 (.bool fr))
   have Z2:=Aside0.mk (Kd.R_set Y2.out HK8.out (by decide) 2 (.bool fr))
   have HK9:=Aside0.mk ((blk_set HK8.out 2 (.bool fr)).trans rfl)
   obtain ⟨W9,hW9⟩:∃ W9,W9=W8.setCell ⟨bf,2,none⟩ (.bool fr):=⟨_,rfl⟩
   rw [← hW9] at G9 Q9 Z1 Z2 HK9
   rw [← hW9]
   clear hW9 d2 f2 G8 Q8 Y1 Y2 HK8 HBF
   have cl:=G9.out.cl
   have d0:=(blk_cell HK9.out 0).trans rfl
   have d1:=(blk_cell HK9.out 1).trans rfl
   have d2:=(blk_cell HK9.out 2).trans rfl
   obtain ⟨Al,cll,hvl⟩:=Kd.R_slice Q9.out
   subst hvl
   have fl:=blk_frozen G9.out.kl 0
   go_wp2_with (at_builtin;refine Kd.R_append k53 (w0:=W9) N rfl (.tmp 48) (.tmp 52) 24 53 (.agg #[(.int .i64 0),(.slice none 0 0),(.slice none 0 0),(.bool false)]) 64 rfl Try.underlying24 info53 rfl (by decide) (by omega) (.slice Al l.length cll) l (⟨a',⟨l1,l2,fr⟩⟩:Mp) [.int .i64 a',.slice _ l1.length _,.slice _ l2.length _,.bool fr] (fun _ => True) (fun k_ => True∧some k_ ≠ (Value.slice Al l.length cll).ownBlock) rfl rfl (k53_mkM _ _ _ (⟨a',⟨l1,l2,fr⟩⟩:Mp) (Kd.R_apartR Z1.out Q9.out (by decide)) (Kd.R_apartR Z2.out Q9.out (by decide))) (fun _ hk => hk) (fun _ _ => trivial) Q9.out (Below.refl _ _) G9.out.nW ?aL ?_)
   case aL => have:=HLT.out;have:=HN.out;omega
   intro v1 w5 hR5 hB5 hg5 ho5
   obtain ⟨A7,c7,hv7⟩:=Kd.R_slice hR5
   simp only [List.length_append,List.length_singleton] at hv7
   subst hv7
   have G10:=Aside0.mk (G9.out.grown Q9.out hB5 hg5)
   have Q10:=Aside0.mk hR5
   clear hR5 hB5 hg5 ho5 cl fl d0 d1 d2 Z1 Z2 HK9 G9 Q9
   have cl:=G10.out.cl
   have fl:=blk_frozen G10.out.kl 0
   have HSe:=Aside0.mk (G10.out.setL HNE.out (.slice A7 (l.length + 1) c7))
   have HQe:=Aside0.mk (Kd.R_set Q10.out G10.out.kl (by decide) 0 (.slice A7 (l.length + 1) c7))
   go_wp2
   clear cl fl G10 Q10
   go_roundw
   case measure => rw [intOf_int,intOf_int];exact md_fewer HLT.out HN.out
   case rel =>
    have hx:=HLT.out
    have hn:=HN.out
    have hm:=HM.out
    refine ⟨a',l++[⟨a',⟨l1,l2,fr⟩⟩],_,p4,rfl,congrArg (Value.int .i64) (by rw [List.length_append,List.length_singleton];unfold wrap64;omega),⟨?_⟩,HSe,HQe⟩
    rw [List.length_append,List.length_singleton,show (n - ((l.length + 1:Nat):Int)).toNat=m from by omega]
    exact HT2.out
  ·have hpx:decide ((l.length:Int) < n)=false:=decide_eq_false hx
   have hT:=HT.out
   rw [show (n - (l.length:Int)).toNat=0 from by omega] at hT
   simp only [md_maps.f] at hT
   obtain rfl:=Option.some.inj hT
   have ho:(if q=bs.length then Rdo.ok l q else .er 100)=o:=Option.some.inj HH.out
   clear hT HT hx HH
   have hqi:=HS.out.I.M.R.hi
   go_wp2
   have G0:=Aside0.mk (HS.out.new (below_drew (Below.refl _ _)))
   have Q0:=Aside0.mk (Kd.R_below HR.out (below_drew (Below.refl _ _)))
   have cm0:=G0.out.I.cm
   have cr0:=G0.out.cr
   clear HS HR hpx
   by_cases hq:q=bs.length
   case neg =>
    rw [if_neg hq] at ho
    subst ho
    have b1:(((bs.length:Int) - (q:Int))==0)=false:=beq_eq_false_iff_ne.mpr (by omega)
    clear hq hqi
    refine start_ (n:=5) (S:=fun w' => w'.cell? ⟨bm,0,none⟩=some fMust∧w'.cell? ⟨br,0,none⟩=some (.pointer (some ⟨g,0,none⟩))) (ds:=[]) #[false,false,false,false,false] (by kernel_rfl) rfl rfl ⟨cm0,cr0⟩ (fun hHeld => ?_)
    refine take_ (i:=0) (N:=some 55) (v:=?_) (a':=?_) #[true,false,false,false,false] rfl rfl (by kernel_rfl) (fun _ _ _ h => PD.put (by decide) (by decide) h) (Or.inl ⟨by rfl,?_⟩) hHeld ?_ ?_
    rotate_left
    ·rintro w' ⟨s0,s1⟩
     go_simp
     with_reducible rfl
    rotate_left
    ·simp only [Act.put,List.setIfInBounds_toArray,List.set_cons_zero,List.set_cons_succ,i64_w,i32_w]
     rfl
    refine take_ (i:=1) (N:=some 56) (v:=?_) (a':=?_) #[true,true,false,false,false] rfl rfl (by kernel_rfl) (fun _ _ _ h => PD.put (by decide) (by decide) h) (Or.inl ⟨by rfl,?_⟩) hHeld ?_ ?_
    rotate_left
    ·rintro w' ⟨s0,s1⟩
     go_simp
     with_reducible rfl
    rotate_left
    ·simp only [Act.put,List.setIfInBounds_toArray,List.set_cons_zero,List.set_cons_succ,i64_w,i32_w]
     rfl
    refine one_ (i:=2) (N:=some 57) #[true,true,true,false,false] rfl rfl (by kernel_rfl) (by decide) (fun K hK => ?_)
    refine goes_ Try.func18 (by kernel_rfl) rfl #[.pointer (some ⟨g,0,none⟩)] (by rfl) rfl rfl (by simp only [List.map_toArray,List.map_cons,List.map_nil];rfl) ?_
    refine (rd_Left.calls B g bs q _ G0.out.I.M.R HL.out).mono ?_
    rintro _ W2 ⟨rfl,hdr⟩
    refine ⟨_,rfl,?_⟩
    have hbw:Below wr.drew.heap.size wr.drew W2:=by rw [← hdr];exact below_drew (Below.refl _ _)
    have G1:=Aside0.mk (G0.out.new hbw)
    have Q1:=Aside0.mk (Kd.R_below Q0.out hbw)
    have cm1:=G1.out.I.cm
    have cr1:=G1.out.cr
    clear hdr hbw
    refine hK.out _ _ ⟨cm1,cr1⟩ (fun hHeld => ?_)
    clear hK K
    refine norm_ (a':=?_) ?_ ?_
    rotate_left
    ·show Act.put _ (some 57) _=_
     simp only [Act.put,List.setIfInBounds_toArray,List.set_cons_zero,List.set_cons_succ,i64_w,i32_w]
     rfl
    refine pure_ (i:=3) (N:=some 58) (v:=?_) (a':=?_) #[true,true,true,true,false] rfl rfl (by kernel_rfl) (fun _ _ _ h => PD.put (by decide) (by decide) h) (Or.inl ⟨by rfl,?_⟩) ?_ ?_
    rotate_left
    ·intro w'
     go_simp
     with_reducible rfl
    rotate_left
    ·simp only [Act.put,List.setIfInBounds_toArray,List.set_cons_zero,List.set_cons_succ,i64_w,i32_w]
     rfl
    refine one_ (i:=4) (N:=some 59) #[true,true,true,true,true] rfl rfl (by kernel_rfl) (by decide) (fun K hK => ?_)
    refine diesV_ Try.func12 (by kernel_rfl) rfl #[.bool false] (by rfl) rfl rfl (by rfl) (by simp only [List.map_toArray,List.map_cons,List.map_nil,Act.eval];first|rfl|(simp [b1];done)) ?_
    refine (must_dies W2).mono ?_
    rintro _ _ ⟨rfl,rfl⟩
    refine ⟨_,rfl,?_⟩
    exact PD.mk rfl rfl rfl (G1.out.dies rfl rfl (Below.refl _ _))
   rw [if_pos hq] at ho
   subst ho
   have b1:(((bs.length:Int) - (q:Int))==0)=true:=beq_iff_eq.mpr (by omega)
   clear hq hqi
   refine start_ (n:=5) (S:=fun w' => w'.cell? ⟨bm,0,none⟩=some fMust∧w'.cell? ⟨br,0,none⟩=some (.pointer (some ⟨g,0,none⟩))) (ds:=[]) #[false,false,false,false,false] (by kernel_rfl) rfl rfl ⟨cm0,cr0⟩ (fun hHeld => ?_)
   refine take_ (i:=0) (N:=some 55) (v:=?_) (a':=?_) #[true,false,false,false,false] rfl rfl (by kernel_rfl) (fun _ _ _ h => PD.put (by decide) (by decide) h) (Or.inl ⟨by rfl,?_⟩) hHeld ?_ ?_
   rotate_left
   ·rintro w' ⟨s0,s1⟩
    go_simp
    with_reducible rfl
   rotate_left
   ·simp only [Act.put,List.setIfInBounds_toArray,List.set_cons_zero,List.set_cons_succ,i64_w,i32_w]
    rfl
   refine take_ (i:=1) (N:=some 56) (v:=?_) (a':=?_) #[true,true,false,false,false] rfl rfl (by kernel_rfl) (fun _ _ _ h => PD.put (by decide) (by decide) h) (Or.inl ⟨by rfl,?_⟩) hHeld ?_ ?_
   rotate_left
   ·rintro w' ⟨s0,s1⟩
    go_simp
    with_reducible rfl
   rotate_left
   ·simp only [Act.put,List.setIfInBounds_toArray,List.set_cons_zero,List.set_cons_succ,i64_w,i32_w]
    rfl
   refine one_ (i:=2) (N:=some 57) #[true,true,true,false,false] rfl rfl (by kernel_rfl) (by decide) (fun K hK => ?_)
   refine goes_ Try.func18 (by kernel_rfl) rfl #[.pointer (some ⟨g,0,none⟩)] (by rfl) rfl rfl (by simp only [List.map_toArray,List.map_cons,List.map_nil];rfl) ?_
   refine (rd_Left.calls B g bs q _ G0.out.I.M.R HL.out).mono ?_
   rintro _ W2 ⟨rfl,hdr⟩
   refine ⟨_,rfl,?_⟩
   have hbw:Below wr.drew.heap.size wr.drew W2:=by rw [← hdr];exact below_drew (Below.refl _ _)
   have G1:=Aside0.mk (G0.out.new hbw)
   have Q1:=Aside0.mk (Kd.R_below Q0.out hbw)
   have cm1:=G1.out.I.cm
   have cr1:=G1.out.cr
   clear hdr hbw
   refine hK.out _ _ ⟨cm1,cr1⟩ (fun hHeld => ?_)
   clear hK K
   refine norm_ (a':=?_) ?_ ?_
   rotate_left
   ·show Act.put _ (some 57) _=_
    simp only [Act.put,List.setIfInBounds_toArray,List.set_cons_zero,List.set_cons_succ,i64_w,i32_w]
    rfl
   refine pure_ (i:=3) (N:=some 58) (v:=?_) (a':=?_) #[true,true,true,true,false] rfl rfl (by kernel_rfl) (fun _ _ _ h => PD.put (by decide) (by decide) h) (Or.inl ⟨by rfl,?_⟩) ?_ ?_
   rotate_left
   ·intro w'
    go_simp
    with_reducible rfl
   rotate_left
   ·simp only [Act.put,List.setIfInBounds_toArray,List.set_cons_zero,List.set_cons_succ,i64_w,i32_w]
    rfl
   refine one_ (i:=4) (N:=some 59) #[true,true,true,true,true] rfl rfl (by kernel_rfl) (by decide) (fun K hK => ?_)
   refine goesV_ Try.func12 (by kernel_rfl) rfl #[.bool true] (by rfl) rfl rfl (by rfl) (by simp only [List.map_toArray,List.map_cons,List.map_nil];rfl) ?_
   refine (must_ok W2).mono ?_
   rintro _ _ ⟨rfl,rfl⟩
   refine ⟨_,rfl,?_⟩
   refine hK.out _ _ ⟨cm1,cr1⟩ (fun hHeld => ?_)
   clear hK K
   refine norm_ (a':=?_) ?_ ?_
   rotate_left
   ·show Act.put _ (some 59) _=_
    simp only [Act.put,List.setIfInBounds_toArray,List.set_cons_zero,List.set_cons_succ,i64_w,i32_w]
    rfl
   refine done_ (by kernel_rfl) ?_
   clear hHeld cm0 cr0 cm1 cr1 G0 Q0 b1
   obtain ⟨Al,cll,hvl⟩:=Kd.R_slice Q1.out
   subst hvl
   have kl:=G1.out.kl
   have ke:=G1.out.ke
   have HKl:=Aside0.mk (blk_far (p:=⟨be,0,none⟩) (blk_set kl 0 (.slice Al l.length cll)) HNE.out (.int .i64 0))
   have HKe:=Aside0.mk (blk_set (blk_far (p:=⟨bl,0,none⟩) ke (Ne.symm HNE.out) (.slice Al l.length cll)) 0 (.int .i64 0))
   have HF:=Aside0.mk ((G1.out.b.setCell (p:=⟨bl,0,none⟩) G1.out.hl (.slice Al l.length cll)).setCell (p:=⟨be,0,none⟩) HEE.out (.int .i64 0))
   have HRf:=Aside0.mk (Kd.R_lower (Kd.R_set (Kd.R_set Q1.out kl (by decide) 0 (.slice Al l.length cll)) (blk_far (p:=⟨bl,0,none⟩) ke (Ne.symm HNE.out) (.slice Al l.length cll)) (by decide) 0 (.int .i64 0)) (Nat.le_trans G1.out.hB G1.out.nB))
   have g0:=(blk_cell kl 0).trans rfl
   have g5:=(blk_cell ke 0).trans rfl
   have f0:=blk_frozen kl 0
   have f5:=blk_frozen ke 0
   have hn1:¬ be=bl:=fun h => HNE.out h.symm
   clear kl ke G1 Q1
   go_wp2
   refine leaves_cons (f:=8) (args:=#[.pointer (some ⟨bl,0,none⟩),.pointer (some ⟨be,0,none⟩)]) (by simp) (by simp [go_sem]) ?_
   refine (md_idle ⟨bl,0,none⟩ ⟨be,0,none⟩ _).mono ?_
   rintro e u' w'' ⟨rfl,rfl,rfl⟩
   have r0:=(blk_cell HKl.out 0).trans rfl
   have r5:=(blk_cell HKe.out 0).trans rfl
   clear g0 g5 f0 f5
   simp [Leaves,settle,results,Try.results4,go_sem,r0,r5]
   exact ⟨_,rfl,HRf.out,HF.out⟩
end Go.Proofs.Ytnihihcopcoabaa.Px
namespace Go.Proofs.Ytnihihcopcoabaa.Px
open Go.RowKit Go.Proofs.YtnihihcopcoabaaW.PrintWords Go.Proofs.YtnihihcopcoabaaW.PrintLast Go.Proofs.YtnihihcopcoabaaW.PrintMore
attribute [local go_sem] max2_int min2_int max_two min_two max_three min_three max_four min_four
set_option linter.unusedVariables false
set_option linter.unusedSimpArgs false
theorem eqA41 (d:Nat) (w:World) (x0 y0:Int) (x1 y1:ByteArray) (x2 y2:Int) (x3 y3:Int) (x4 y4:Int) :
  (Op.equalIn (d + 2) 41 (.agg #[.int .i64 x0,.string x1,.int .i64 x2,.int .i64 x3,.int .i64 x4]) (.agg #[.int .i64 y0,.string y1,.int .i64 y2,.int .i64 y3,.int .i64 y4])).run Try.prog w=.ok (x0==y0 && (x1.toList==y1.toList && (x2==y2 && (x3==y3 && (x4==y4))))) w:=by
 refine eqA_of Try.underlying41 (by kernel_rfl) ?_
 refine eqf_cons (by rfl) (by go_simp;rfl) (by go_simp;rfl) (by go_simp) ?_
 refine eqf_cons (by rfl) (by go_simp;rfl) (by go_simp;rfl) (by go_simp) ?_
 refine eqf_cons (by rfl) (by go_simp;rfl) (by go_simp;rfl) (by go_simp) ?_
 refine eqf_cons (by rfl) (by go_simp;rfl) (by go_simp;rfl) (by go_simp) ?_
 exact eqf_last (by rfl) (by go_simp;rfl) (by go_simp;rfl) (by go_simp)
end Go.Proofs.Ytnihihcopcoabaa.Px
namespace Go.Proofs.Ytnihihcopcoabaa.Px
open Go.RowKit Go.Proofs.YtnihihcopcoabaaW.PrintWords Go.Proofs.YtnihihcopcoabaaW.PrintLast Go.Proofs.YtnihihcopcoabaaW.PrintMore
attribute [local go_sem] max2_int min2_int max_two min_two max_three min_three max_four min_four
set_option linter.unusedVariables false
set_option linter.unusedSimpArgs false
attribute [local go_sem high] eqA41
def understudylaw10_types.l0:Nat→List (S41)→List (S41)→Int→Option (Bool)
 | 0,_,_,_ => none
 | k + 1,x0,x1,x5 => if x5 < (x0.length:Int) then (if 0≤x5 then (if x5 < (x1.length:Int) then (if (!(((rd_T41 x0 x5).f0)==((rd_T41 x1 x5).f0)) || (!((((rd_T41 x0 x5).f1).toList)==(((rd_T41 x1 x5).f1).toList)) || (!(((rd_T41 x0 x5).f2)==((rd_T41 x1 x5).f2)) || (!(((rd_T41 x0 x5).f3)==((rd_T41 x1 x5).f3)) || (!(((rd_T41 x0 x5).f4)==((rd_T41 x1 x5).f4)))))))=true then (some false) else (understudylaw10_types.l0 k x0 x1 (wrap64 (x5 + 1)))) else (none)) else (none)) else (some true)
def understudylaw10_types.f (k:Nat) (l0:List (S41)) (l1:List (S41)):Option (Bool):=if (l0.length:Int)=(l1.length:Int) then (understudylaw10_types.l0 k l0 l1 0) else (some false)
set_option maxHeartbeats 80000000 in
set_option maxRecDepth 100000 in
theorem understudylaw10_types.calls (k:Nat) (A0:Option Addr) (c0:Nat) (l0:List (S41)) (A1:Option Addr) (c1:Nat) (l1:List (S41)) (r:Bool) (w:World) (hr0:Kd.C k41 w A0 l0.length l0) (hc0:l0.length≤c0) (hr1:Kd.C k41 w A1 l1.length l1) (hc1:l1.length≤c1) (h:understudylaw10_types.f k l0 l1=some r) :
  Calls Try.prog 23 #[.slice A0 l0.length c0,.slice A1 l1.length c1] w fun e w' => e=.returned (.bool r)∧Drawn0 w w':=by
 have hu41:=Try.underlying41
 have HR0:=Aside0.mk hr0
 have HC0:=Aside0.mk hc0
 clear hr0 hc0
 have HR1:=Aside0.mk hr1
 have HC1:=Aside0.mk hc1
 clear hr1 hc1
 have H:(if (l0.length:Int)=(l1.length:Int) then (understudylaw10_types.l0 k l0 l1 0) else (some false))=some r:=h
 clear h
 by_cases c3:(l0.length:Int)=(l1.length:Int)
 ·rw [if_pos c3] at H
  have c3b0:((l0.length:Int)==(l1.length:Int))=true:=beq_iff_eq.mpr c3
  have c3b1:((l0.length:Int) != (l1.length:Int))=false:=bne_eq_false_iff_eq.mpr c3
  have c3b2:(l0.length==l1.length)=true:=by first|simpa using c3|(simp at c3 ⊢;omega)
  clear c3
  have H':=Aside0.mk H
  clear H
  go_enter Try.func23,Try.ntmps23
  go_wp2
  repeat (go_quiet (fail);try go_wp2)
  go_loopg [5] k (fun kq v5 w' => ∃ (x5_1:Int),v5=.int .i64 x5_1∧Aside0 (understudylaw10_types.l0 kq l0 l1 x5_1=some r)∧Aside0 (kq≤k)∧Drawn0 w w')
  case atStart => exact ⟨(0),r3_,H',⟨Nat.le_refl _⟩,by repeat (first|exact Drawn0.refl _|apply Drawn0.step)⟩
  case round =>
   clear H'
   try clear c1;try clear c3;try clear c3b0;try clear c3b1;try clear c3b2
   obtain ⟨x5_1,rfl,HA,HK1,⟨m1,rfl⟩⟩:=hrel
   cases gk with
   | zero => exact absurd HA.out (by simp [understudylaw10_types.l0])
   | succ k1 =>
    have H:=HA.out
    clear HA
    simp only [understudylaw10_types.l0] at H
    by_cases c4:x5_1 < (l0.length:Int)
    ·rw [if_pos c4] at H
     have c4b0:decide (x5_1 < (l0.length:Int))=true:=decide_eq_true c4
     clear c4
     by_cases c5:0≤x5_1
     ·rw [if_pos c5] at H
      have c5b0:decide (0≤x5_1)=true:=decide_eq_true c5
      clear c5
      by_cases c6:x5_1 < (l1.length:Int)
      ·rw [if_pos c6] at H
       have c6b0:decide (x5_1 < (l1.length:Int))=true:=decide_eq_true c6
       clear c6
       by_cases c7:(!(((rd_T41 l0 x5_1).f0)==((rd_T41 l1 x5_1).f0)) || (!((((rd_T41 l0 x5_1).f1).toList)==(((rd_T41 l1 x5_1).f1).toList)) || (!(((rd_T41 l0 x5_1).f2)==((rd_T41 l1 x5_1).f2)) || (!(((rd_T41 l0 x5_1).f3)==((rd_T41 l1 x5_1).f3)) || (!(((rd_T41 l0 x5_1).f4)==((rd_T41 l1 x5_1).f4)))))))=true
       ·rw [if_pos c7] at H
        have c7b0:(!(((rd_T41 l0 x5_1).f0)==((rd_T41 l1 x5_1).f0)) || (!((((rd_T41 l0 x5_1).f1).toList)==(((rd_T41 l1 x5_1).f1).toList)) || (!(((rd_T41 l0 x5_1).f2)==((rd_T41 l1 x5_1).f2)) || (!(((rd_T41 l0 x5_1).f3)==((rd_T41 l1 x5_1).f3)) || (!(((rd_T41 l0 x5_1).f4)==((rd_T41 l1 x5_1).f4)))))))=true:=c7
        clear c7
        obtain rfl:=Option.some.inj H
        have p198:0≤(x5_1:Int):=od_
        have q198:x5_1 < (l0.length:Int):=od_
        obtain ⟨ad198,e198,hx198_0,hx198_1,hx198_2,hx198_3,hx198_4⟩:=at_T41 HR0.out x5_1 p198 q198
        cases e198
        replace p198:=eq_true p198
        replace q198:=eq_true q198
        have p199:0≤(x5_1:Int):=od_
        have q199:x5_1 < (l1.length:Int):=od_
        obtain ⟨ad199,e199,hx199_0,hx199_1,hx199_2,hx199_3,hx199_4⟩:=at_T41 HR1.out x5_1 p199 q199
        cases e199
        replace p199:=eq_true p199
        replace q199:=eq_true q199
        go_wp2
        repeat (go_quiet (fail);try go_wp2)
        go_ret
        exact ⟨by first|rfl|(simp;done)|(simp [*];done),by repeat (first|exact Drawn0.refl _|apply Drawn0.step)⟩
       ·rw [if_neg c7] at H
        have c7b0:(!(((rd_T41 l0 x5_1).f0)==((rd_T41 l1 x5_1).f0)) || (!((((rd_T41 l0 x5_1).f1).toList)==(((rd_T41 l1 x5_1).f1).toList)) || (!(((rd_T41 l0 x5_1).f2)==((rd_T41 l1 x5_1).f2)) || (!(((rd_T41 l0 x5_1).f3)==((rd_T41 l1 x5_1).f3)) || (!(((rd_T41 l0 x5_1).f4)==((rd_T41 l1 x5_1).f4)))))))=false:=by simpa using c7
        clear c7
        have H':=Aside0.mk H
        clear H
        have p198:0≤(x5_1:Int):=od_
        have q198:x5_1 < (l0.length:Int):=od_
        obtain ⟨ad198,e198,hx198_0,hx198_1,hx198_2,hx198_3,hx198_4⟩:=at_T41 HR0.out x5_1 p198 q198
        cases e198
        replace p198:=eq_true p198
        replace q198:=eq_true q198
        have p199:0≤(x5_1:Int):=od_
        have q199:x5_1 < (l1.length:Int):=od_
        obtain ⟨ad199,e199,hx199_0,hx199_1,hx199_2,hx199_3,hx199_4⟩:=at_T41 HR1.out x5_1 p199 q199
        cases e199
        replace p199:=eq_true p199
        replace q199:=eq_true q199
        go_wp2
        repeat (go_quiet (fail);try go_wp2)
        go_roundg k1
        case measure => have:=HK1.out;omega
        case rel => exact ⟨(wrap64 (x5_1 + 1)),r3_,H',⟨by have:=HK1.out;omega⟩,by repeat (first|exact Drawn0.refl _|apply Drawn0.step)⟩
      ·rw [if_neg c6] at H
       exact absurd H (by simp)
     ·rw [if_neg c5] at H
      exact absurd H (by simp)
    ·rw [if_neg c4] at H
     have c4b0:decide (x5_1 < (l0.length:Int))=false:=decide_eq_false c4
     clear c4
     obtain rfl:=Option.some.inj H
     go_wp2
     repeat (go_quiet (fail);try go_wp2)
     go_ret
     exact ⟨by first|rfl|(simp;done)|(simp [*];done),by repeat (first|exact Drawn0.refl _|apply Drawn0.step)⟩
 ·rw [if_neg c3] at H
  have c3b0:((l0.length:Int)==(l1.length:Int))=false:=beq_eq_false_iff_ne.mpr c3
  have c3b1:((l0.length:Int) != (l1.length:Int))=true:=bne_iff_ne.mpr c3
  have c3b2:(l0.length==l1.length)=false:=by first|simpa using c3|(simp at c3 ⊢;omega)
  obtain rfl:=Option.some.inj H
  go_enter Try.func23,Try.ntmps23
  go_wp2
  repeat (go_quiet (fail);try go_wp2)
  go_ret
  exact ⟨by first|rfl|(simp;done)|(simp [*];done),by repeat (first|exact Drawn0.refl _|apply Drawn0.step)⟩
end Go.Proofs.Ytnihihcopcoabaa.Px
namespace Go.Proofs.Ytnihihcopcoabaa.Px
open Go.RowKit Go.Proofs.YtnihihcopcoabaaW.PrintWords Go.Proofs.YtnihihcopcoabaaW.PrintLast Go.Proofs.YtnihihcopcoabaaW.PrintMore
set_option linter.unusedVariables false
set_option linter.unusedSimpArgs false
theorem types_l0_eq {l:List Typ} (hl:l.length≤1048576):∀ (k:Nat) (i:Int),0≤i→i≤l.length→((l.length:Int) - i).toNat < k→understudylaw10_types.l0 k l l i=some true
 | 0,i,_,_,h => by omega
 | k + 1,i,h0,h1,h => by
  unfold understudylaw10_types.l0
  by_cases hi:i < (l.length:Int)
  ·have hw:wrap64 (i + 1)=i + 1:=by unfold wrap64;omega
   simp only [hi,h0,if_true,beq_self_eq_true,Bool.not_true,Bool.or_self,Bool.false_eq_true,if_false,hw]
   exact types_l0_eq hl k (i + 1) (by omega) (by omega) (by omega)
  ·simp only [hi,if_false]
theorem types_eq {l:List Typ} (hl:l.length≤1048576):understudylaw10_types.f (l.length + 1) l l=some true:=by
 unfold understudylaw10_types.f
 rw [if_pos rfl]
 exact types_l0_eq hl _ 0 (Int.le_refl _) (by omega) (by omega)
theorem rd_mem_Mp {l:List Mp} {x:Int} (h0:0≤x) (h1:x < (l.length:Int)):rd_T53 l x ∈ l:=by
 unfold rd_T53
 rw [List.getD_eq_getElem?_getD,List.getElem?_eq_getElem (by omega:x.toNat < l.length)]
 exact List.getElem_mem _
theorem bl_cell {w W:World} {ad:Addr} {v:Value} (h:Below w.heap.size w W) (hc:w.cell? ad=some v):W.cell? ad=some v:=(h.cell (World.block_lt_of_cell? w _ hc)).trans hc
theorem ms_fewer {n:Nat} {x:Int} (h0:0≤x) (h1:x < (n:Int)) (hn:n≤1048576):(n - intOf (.int .i64 (wrap64 (x + 1)))).toNat < (n - intOf (.int .i64 x)).toNat:=by
 rw [show intOf (.int .i64 (wrap64 (x + 1)))=wrap64 (x + 1) from rfl,show intOf (.int .i64 x)=x from rfl,show wrap64 (x + 1)=x + 1 from by unfold wrap64;omega]
 omega
set_option maxHeartbeats 80000000 in
set_option maxRecDepth 100000 in
theorem msame_eq.calls {A B:Option Addr} {c d:Nat} {l:List Mp} {w:World} (ha:Kd.C k53 w A l.length l) (hb:Kd.C k53 w B l.length l) (hl:l.length≤1048576) (hm:∀ m ∈ l,m.f1.f0.length≤1048576∧m.f1.f1.length≤1048576) :
  Calls Try.prog 6 #[.slice A l.length c,.slice B l.length d] w fun e w' => e=.returned (.bool true)∧Below w.heap.size w w':=by
 have hu:=Try.underlying50
 have hu2:=Try.underlying53
 have HA:=Aside0.mk ha
 have HB:=Aside0.mk hb
 have HL:=Aside0.mk hl
 have HM:=Aside0.mk hm
 have HS:Aside0 (Below w.heap.size w w):=⟨Below.refl _ _⟩
 clear ha hb hl hm
 have q3:((l.length:Int) != (l.length:Int))=false:=bne_eq_false_iff_eq.mpr rfl
 go_enter Try.func6,Try.ntmps6
 go_wp2_with fail
 go_loopw [5] (fun v W => ∃ x:Int,v=.int .i64 x∧Aside0 (0≤x∧x≤(l.length:Int))∧Aside0 (Below w.heap.size w W)) (fun v _ => ((l.length:Nat) - intOf v).toNat)
 case atStart => exact ⟨0,rfl,⟨by omega⟩,HS⟩
 case round =>
  clear HS
  obtain ⟨x,rfl,HI,HS⟩:=hrel
  by_cases hi:x < (l.length:Int)
  ·have hd:decide (x < (l.length:Int))=true:=decide_eq_true hi
   have HLT:=Aside0.mk hi
   have p0:0≤x:=HI.out.1
   have p1:x < (l.length:Int):=hi
   clear hi
   obtain ⟨ad,A1,a1,A2,a2,ead,x0,x1,x2,x3,i1,i2,i3,i4⟩:=at_T53 HA.out x p0 p1
   cases ead
   obtain ⟨bd,B1,b1,B2,b2,ebd,y0,y1,y2,y3,j1,j2,j3,j4⟩:=at_T53 HB.out x p0 p1
   cases ebd
   have HMM:=Aside0.mk (HM.out _ (rd_mem_Mp p0 p1))
   have X0:=Aside0.mk x0
   have X1:=Aside0.mk x1
   have X2:=Aside0.mk x2
   have X3:=Aside0.mk x3
   have Y0:=Aside0.mk y0
   have Y1:=Aside0.mk y1
   have Y2:=Aside0.mk y2
   have Y3:=Aside0.mk y3
   have I2:=Aside0.mk i2
   have I4:=Aside0.mk i4
   have J2:=Aside0.mk j2
   have J4:=Aside0.mk j4
   have I1:=Aside0.mk i1
   have I3:=Aside0.mk i3
   have J1:=Aside0.mk j1
   have J3:=Aside0.mk j3
   clear x0 x1 x2 x3 y0 y1 y2 y3 i1 i2 i3 i4 j1 j2 j3 j4
   replace p0:=eq_true p0
   replace p1:=eq_true p1
   generalize rd_T53 l x=m at *
   have x1:=bl_cell HS.out X1.out
   have x2:=bl_cell HS.out X2.out
   have x3:=bl_cell HS.out X3.out
   have y1:=bl_cell HS.out Y1.out
   have y2:=bl_cell HS.out Y2.out
   have y3:=bl_cell HS.out Y3.out
   go_upto_region 7 with fail
   obtain ⟨W1,hW1⟩:∃ W1,W1=wr.alloc (.cells #[.slice A1 m.f1.f0.length a1,.slice A2 m.f1.f1.length a2,.bool m.f1.f2] 50 (0,0)):=⟨_,rfl⟩
   obtain ⟨b6,hb6⟩:∃ b6,b6=wr.heap.size:=⟨_,rfl⟩
   rw [← hW1,← hb6]
   have K6:=Aside0.mk (show W1.heap[b6]?=some (.cells #[.slice A1 m.f1.f0.length a1,.slice A2 m.f1.f1.length a2,.bool m.f1.f2] 50 (0,0)) from by rw [hW1,hb6];exact blk_new _ _)
   have G1:Aside0 (Below w.heap.size w W1):=⟨by rw [hW1];exact below_alloc HS.out _⟩
   clear hW1 hb6 x1 x2 x3 y1 y2 y3 HS
   have y1:=bl_cell G1.out Y1.out
   have y2:=bl_cell G1.out Y2.out
   have y3:=bl_cell G1.out Y3.out
   go_upto_region 8 with fail
   obtain ⟨W2,hW2⟩:∃ W2,W2=W1.alloc (.cells #[.slice B1 m.f1.f0.length b1,.slice B2 m.f1.f1.length b2,.bool m.f1.f2] 50 (0,0)):=⟨_,rfl⟩
   obtain ⟨b7,hb7⟩:∃ b7,b7=W1.heap.size:=⟨_,rfl⟩
   rw [← hW2,← hb7]
   have K7:=Aside0.mk (show W2.heap[b7]?=some (.cells #[.slice B1 m.f1.f0.length b1,.slice B2 m.f1.f1.length b2,.bool m.f1.f2] 50 (0,0)) from by rw [hW2,hb7];exact blk_new _ _)
   have hbb:Below W1.heap.size W1 W2:=by rw [hW2];exact below_alloc (Below.refl _ _) _
   have K62:=Aside0.mk ((hbb.block _ (blk_lt K6.out)).trans K6.out)
   have G2:Aside0 (Below w.heap.size w W2):=⟨G1.out.trans (hbb.mono G1.out.size)⟩
   clear hW2 hb7 hbb y1 y2 y3 G1 K6
   have G3:Aside0 (Below w.heap.size w W2.drew):=⟨below_drew G2.out⟩
   have c0:W2.drew.cell? _=_:=bl_cell G3.out X0.out
   have c1:W2.drew.cell? _=_:=bl_cell G3.out Y0.out
   have c2:W2.drew.cell? ⟨b6,2,none⟩=some (.bool m.f1.f2):=(blk_cell K62.out 2).trans rfl
   have c3:W2.drew.cell? ⟨b7,2,none⟩=some (.bool m.f1.f2):=(blk_cell K7.out 2).trans rfl
   have c4:W2.drew.cell? ⟨b6,0,none⟩=some (.slice A1 m.f1.f0.length a1):=(blk_cell K62.out 0).trans rfl
   have c5:W2.drew.cell? ⟨b7,0,none⟩=some (.slice B1 m.f1.f0.length b1):=(blk_cell K7.out 0).trans rfl
   have c6:W2.drew.cell? ⟨b6,1,none⟩=some (.slice A2 m.f1.f1.length a2):=(blk_cell K62.out 1).trans rfl
   have c7:W2.drew.cell? ⟨b7,1,none⟩=some (.slice B2 m.f1.f1.length b2):=(blk_cell K7.out 1).trans rfl
   have q1:(m.f0 != m.f0)=false:=bne_eq_false_iff_eq.mpr rfl
   have q2:(m.f1.f2 != m.f1.f2)=false:=bne_eq_false_iff_eq.mpr rfl
   clear hd K62 K7
   refine start_ (n:=34) (S:=fun w' => w'.cell? (ad.add (x.toNat * 4))=some (.int .i64 m.f0)∧w'.cell? (bd.add (x.toNat * 4))=some (.int .i64 m.f0)∧w'.cell? ⟨b6,2,none⟩=some (.bool m.f1.f2)∧w'.cell? ⟨b7,2,none⟩=some (.bool m.f1.f2)∧w'.cell? ⟨b6,0,none⟩=some (.slice A1 m.f1.f0.length a1)∧w'.cell? ⟨b7,0,none⟩=some (.slice B1 m.f1.f0.length b1)∧w'.cell? ⟨b6,1,none⟩=some (.slice A2 m.f1.f1.length a2)∧w'.cell? ⟨b7,1,none⟩=some (.slice B2 m.f1.f1.length b2)) (ds:=[]) #[false,false,false,false,false,false,false,false,false,false,false,false,false,false,false,false,false,false,false,false,false,false,false,false,false,false,false,false,false,false,false,false,false,false] (by kernel_rfl) rfl rfl ⟨c0,c1,c2,c3,c4,c5,c6,c7⟩ (fun hHeld => ?_)
   refine pure_ (i:=0) (N:=some 29) (v:=?_) (a':=?_) #[true,false,false,false,false,false,false,false,false,false,false,false,false,false,false,false,false,false,false,false,false,false,false,false,false,false,false,false,false,false,false,false,false,false] rfl rfl (by kernel_rfl) (fun _ _ _ h => h) (Or.inl ⟨by rfl,?_⟩) ?_ ?_
   rotate_left
   ·intro w'
    go_simp
    with_reducible rfl
   rotate_left
   ·simp only [Act.put,List.setIfInBounds_toArray,List.set_cons_zero,List.set_cons_succ,i64_w,i32_w]
    rfl
   refine pure_ (i:=1) (N:=some 30) (v:=?_) (a':=?_) #[true,true,false,false,false,false,false,false,false,false,false,false,false,false,false,false,false,false,false,false,false,false,false,false,false,false,false,false,false,false,false,false,false,false] rfl rfl (by kernel_rfl) (fun _ _ _ h => h) (Or.inl ⟨by rfl,?_⟩) ?_ ?_
   rotate_left
   ·intro w'
    go_simp
    with_reducible rfl
   rotate_left
   ·simp only [Act.put,List.setIfInBounds_toArray,List.set_cons_zero,List.set_cons_succ,i64_w,i32_w]
    rfl
   refine pure_ (i:=2) (N:=some 31) (v:=?_) (a':=?_) #[true,true,true,false,false,false,false,false,false,false,false,false,false,false,false,false,false,false,false,false,false,false,false,false,false,false,false,false,false,false,false,false,false,false] rfl rfl (by kernel_rfl) (fun _ _ _ h => h) (Or.inl ⟨by rfl,?_⟩) ?_ ?_
   rotate_left
   ·intro w'
    go_simp
    with_reducible rfl
   rotate_left
   ·simp only [Act.put,List.setIfInBounds_toArray,List.set_cons_zero,List.set_cons_succ,i64_w,i32_w]
    rfl
   refine pure_ (i:=3) (N:=some 32) (v:=?_) (a':=?_) #[true,true,true,true,false,false,false,false,false,false,false,false,false,false,false,false,false,false,false,false,false,false,false,false,false,false,false,false,false,false,false,false,false,false] rfl rfl (by kernel_rfl) (fun _ _ _ h => h) (Or.inl ⟨by rfl,?_⟩) ?_ ?_
   rotate_left
   ·intro w'
    go_simp
    with_reducible rfl
   rotate_left
   ·simp only [Act.put,List.setIfInBounds_toArray,List.set_cons_zero,List.set_cons_succ,i64_w,i32_w]
    rfl
   refine pure_ (i:=5) (N:=some 34) (v:=?_) (a':=?_) #[true,true,true,true,false,true,false,false,false,false,false,false,false,false,false,false,false,false,false,false,false,false,false,false,false,false,false,false,false,false,false,false,false,false] rfl rfl (by kernel_rfl) (fun _ _ _ h => h) (Or.inl ⟨by rfl,?_⟩) ?_ ?_
   rotate_left
   ·intro w'
    go_simp
    with_reducible rfl
   rotate_left
   ·simp only [Act.put,List.setIfInBounds_toArray,List.set_cons_zero,List.set_cons_succ,i64_w,i32_w]
    rfl
   refine pure_ (i:=6) (N:=some 35) (v:=?_) (a':=?_) #[true,true,true,true,false,true,true,false,false,false,false,false,false,false,false,false,false,false,false,false,false,false,false,false,false,false,false,false,false,false,false,false,false,false] rfl rfl (by kernel_rfl) (fun _ _ _ h => h) (Or.inl ⟨by rfl,?_⟩) ?_ ?_
   rotate_left
   ·intro w'
    go_simp
    with_reducible rfl
   rotate_left
   ·simp only [Act.put,List.setIfInBounds_toArray,List.set_cons_zero,List.set_cons_succ,i64_w,i32_w]
    rfl
   refine pure_ (i:=7) (N:=some 36) (v:=?_) (a':=?_) #[true,true,true,true,false,true,true,true,false,false,false,false,false,false,false,false,false,false,false,false,false,false,false,false,false,false,false,false,false,false,false,false,false,false] rfl rfl (by kernel_rfl) (fun _ _ _ h => h) (Or.inl ⟨by rfl,?_⟩) ?_ ?_
   rotate_left
   ·intro w'
    go_simp
    with_reducible rfl
   rotate_left
   ·simp only [Act.put,List.setIfInBounds_toArray,List.set_cons_zero,List.set_cons_succ,i64_w,i32_w]
    rfl
   refine pure_ (i:=8) (N:=some 37) (v:=?_) (a':=?_) #[true,true,true,true,false,true,true,true,true,false,false,false,false,false,false,false,false,false,false,false,false,false,false,false,false,false,false,false,false,false,false,false,false,false] rfl rfl (by kernel_rfl) (fun _ _ _ h => h) (Or.inl ⟨by rfl,?_⟩) ?_ ?_
   rotate_left
   ·intro w'
    go_simp
    with_reducible rfl
   rotate_left
   ·simp only [Act.put,List.setIfInBounds_toArray,List.set_cons_zero,List.set_cons_succ,i64_w,i32_w]
    rfl
   refine take_ (i:=4) (N:=some 33) (v:=?_) (a':=?_) #[true,true,true,true,true,true,true,true,true,false,false,false,false,false,false,false,false,false,false,false,false,false,false,false,false,false,false,false,false,false,false,false,false,false] rfl rfl (by kernel_rfl) (fun _ _ _ h => h) (Or.inl ⟨by rfl,?_⟩) hHeld ?_ ?_
   rotate_left
   ·rintro w' ⟨s0,s1,s2,s3,s4,s5,s6,s7⟩
    go_simp
    with_reducible rfl
   rotate_left
   ·simp only [Act.put,List.setIfInBounds_toArray,List.set_cons_zero,List.set_cons_succ,i64_w,i32_w]
    rfl
   refine take_ (i:=9) (N:=some 38) (v:=?_) (a':=?_) #[true,true,true,true,true,true,true,true,true,true,false,false,false,false,false,false,false,false,false,false,false,false,false,false,false,false,false,false,false,false,false,false,false,false] rfl rfl (by kernel_rfl) (fun _ _ _ h => h) (Or.inl ⟨by rfl,?_⟩) hHeld ?_ ?_
   rotate_left
   ·rintro w' ⟨s0,s1,s2,s3,s4,s5,s6,s7⟩
    go_simp
    with_reducible rfl
   rotate_left
   ·simp only [Act.put,List.setIfInBounds_toArray,List.set_cons_zero,List.set_cons_succ,i64_w,i32_w]
    rfl
   refine pure_ (i:=10) (N:=some 39) (v:=?_) (a':=?_) #[true,true,true,true,true,true,true,true,true,true,true,false,false,false,false,false,false,false,false,false,false,false,false,false,false,false,false,false,false,false,false,false,false,false] rfl rfl (by kernel_rfl) (fun _ _ _ h => h) (Or.inl ⟨by rfl,?_⟩) ?_ ?_
   rotate_left
   ·intro w'
    go_simp
    with_reducible rfl
   rotate_left
   ·simp only [Act.put,List.setIfInBounds_toArray,List.set_cons_zero,List.set_cons_succ,i64_w,i32_w]
    rfl
   refine pure_ (i:=11) (N:=some 40) (v:=?_) (a':=?_) #[true,true,true,true,true,true,true,true,true,true,true,true,false,false,false,false,false,false,false,false,false,false,false,false,false,false,false,false,false,false,false,false,false,false] rfl rfl (by kernel_rfl) (fun _ _ _ h => h) (Or.inl ⟨by rfl,?_⟩) ?_ ?_
   rotate_left
   ·intro w'
    go_simp
    with_reducible rfl
   rotate_left
   ·simp only [Act.put,List.setIfInBounds_toArray,List.set_cons_zero,List.set_cons_succ,i64_w,i32_w]
    rfl
   refine pure_ (i:=12) (N:=some 41) (v:=?_) (a':=?_) #[true,true,true,true,true,true,true,true,true,true,true,true,true,false,false,false,false,false,false,false,false,false,false,false,false,false,false,false,false,false,false,false,false,false] rfl rfl (by kernel_rfl) (fun _ _ _ h => h) (Or.inl ⟨by rfl,?_⟩) ?_ ?_
   rotate_left
   ·intro w'
    go_simp
    with_reducible rfl
   rotate_left
   ·simp only [Act.put,List.setIfInBounds_toArray,List.set_cons_zero,List.set_cons_succ,i64_w,i32_w]
    rfl
   refine pure_ (i:=14) (N:=some 43) (v:=?_) (a':=?_) #[true,true,true,true,true,true,true,true,true,true,true,true,true,false,true,false,false,false,false,false,false,false,false,false,false,false,false,false,false,false,false,false,false,false] rfl rfl (by kernel_rfl) (fun _ _ _ h => h) (Or.inl ⟨by rfl,?_⟩) ?_ ?_
   rotate_left
   ·intro w'
    go_simp
    with_reducible rfl
   rotate_left
   ·simp only [Act.put,List.setIfInBounds_toArray,List.set_cons_zero,List.set_cons_succ,i64_w,i32_w]
    rfl
   refine take_ (i:=13) (N:=some 42) (v:=?_) (a':=?_) #[true,true,true,true,true,true,true,true,true,true,true,true,true,true,true,false,false,false,false,false,false,false,false,false,false,false,false,false,false,false,false,false,false,false] rfl rfl (by kernel_rfl) (fun _ _ _ h => h) (Or.inl ⟨by rfl,?_⟩) hHeld ?_ ?_
   rotate_left
   ·rintro w' ⟨s0,s1,s2,s3,s4,s5,s6,s7⟩
    go_simp
    with_reducible rfl
   rotate_left
   ·simp only [Act.put,List.setIfInBounds_toArray,List.set_cons_zero,List.set_cons_succ,i64_w,i32_w]
    rfl
   refine take_ (i:=15) (N:=some 44) (v:=?_) (a':=?_) #[true,true,true,true,true,true,true,true,true,true,true,true,true,true,true,true,false,false,false,false,false,false,false,false,false,false,false,false,false,false,false,false,false,false] rfl rfl (by kernel_rfl) (fun _ _ _ h => h) (Or.inl ⟨by rfl,?_⟩) hHeld ?_ ?_
   rotate_left
   ·rintro w' ⟨s0,s1,s2,s3,s4,s5,s6,s7⟩
    go_simp
    with_reducible rfl
   rotate_left
   ·simp only [Act.put,List.setIfInBounds_toArray,List.set_cons_zero,List.set_cons_succ,i64_w,i32_w]
    rfl
   refine pure_ (i:=16) (N:=some 45) (v:=?_) (a':=?_) #[true,true,true,true,true,true,true,true,true,true,true,true,true,true,true,true,true,false,false,false,false,false,false,false,false,false,false,false,false,false,false,false,false,false] rfl rfl (by kernel_rfl) (fun _ _ _ h => h) (Or.inl ⟨by rfl,?_⟩) ?_ ?_
   rotate_left
   ·intro w'
    go_simp
    with_reducible rfl
   rotate_left
   ·simp only [Act.put,List.setIfInBounds_toArray,List.set_cons_zero,List.set_cons_succ,i64_w,i32_w]
    rfl
   refine pure_ (i:=17) (N:=some 46) (v:=?_) (a':=?_) #[true,true,true,true,true,true,true,true,true,true,true,true,true,true,true,true,true,true,false,false,false,false,false,false,false,false,false,false,false,false,false,false,false,false] rfl rfl (by kernel_rfl) (fun _ _ _ h => h) (Or.inl ⟨by rfl,?_⟩) ?_ ?_
   rotate_left
   ·intro w'
    go_simp
    with_reducible rfl
   rotate_left
   ·simp only [Act.put,List.setIfInBounds_toArray,List.set_cons_zero,List.set_cons_succ,i64_w,i32_w]
    rfl
   refine pure_ (i:=18) (N:=some 47) (v:=?_) (a':=?_) #[true,true,true,true,true,true,true,true,true,true,true,true,true,true,true,true,true,true,true,false,false,false,false,false,false,false,false,false,false,false,false,false,false,false] rfl rfl (by kernel_rfl) (fun _ _ _ h => h) (Or.inl ⟨by rfl,?_⟩) ?_ ?_
   rotate_left
   ·intro w'
    go_simp
    with_reducible rfl
   rotate_left
   ·simp only [Act.put,List.setIfInBounds_toArray,List.set_cons_zero,List.set_cons_succ,i64_w,i32_w]
    rfl
   refine pure_ (i:=19) (N:=some 48) (v:=?_) (a':=?_) #[true,true,true,true,true,true,true,true,true,true,true,true,true,true,true,true,true,true,true,true,false,false,false,false,false,false,false,false,false,false,false,false,false,false] rfl rfl (by kernel_rfl) (fun _ _ _ h => h) (Or.inl ⟨by rfl,?_⟩) ?_ ?_
   rotate_left
   ·intro w'
    go_simp
    with_reducible rfl
   rotate_left
   ·simp only [Act.put,List.setIfInBounds_toArray,List.set_cons_zero,List.set_cons_succ,i64_w,i32_w]
    rfl
   refine pure_ (i:=21) (N:=some 50) (v:=?_) (a':=?_) #[true,true,true,true,true,true,true,true,true,true,true,true,true,true,true,true,true,true,true,true,false,true,false,false,false,false,false,false,false,false,false,false,false,false] rfl rfl (by kernel_rfl) (fun _ _ _ h => h) (Or.inl ⟨by rfl,?_⟩) ?_ ?_
   rotate_left
   ·intro w'
    go_simp
    with_reducible rfl
   rotate_left
   ·simp only [Act.put,List.setIfInBounds_toArray,List.set_cons_zero,List.set_cons_succ,i64_w,i32_w]
    rfl
   refine take_ (i:=20) (N:=some 49) (v:=?_) (a':=?_) #[true,true,true,true,true,true,true,true,true,true,true,true,true,true,true,true,true,true,true,true,true,true,false,false,false,false,false,false,false,false,false,false,false,false] rfl rfl (by kernel_rfl) (fun _ _ _ h => h) (Or.inl ⟨by rfl,?_⟩) hHeld ?_ ?_
   rotate_left
   ·rintro w' ⟨s0,s1,s2,s3,s4,s5,s6,s7⟩
    go_simp
    with_reducible rfl
   rotate_left
   ·simp only [Act.put,List.setIfInBounds_toArray,List.set_cons_zero,List.set_cons_succ,i64_w,i32_w]
    rfl
   refine take_ (i:=22) (N:=some 51) (v:=?_) (a':=?_) #[true,true,true,true,true,true,true,true,true,true,true,true,true,true,true,true,true,true,true,true,true,true,true,false,false,false,false,false,false,false,false,false,false,false] rfl rfl (by kernel_rfl) (fun _ _ _ h => h) (Or.inl ⟨by rfl,?_⟩) hHeld ?_ ?_
   rotate_left
   ·rintro w' ⟨s0,s1,s2,s3,s4,s5,s6,s7⟩
    go_simp
    with_reducible rfl
   rotate_left
   ·simp only [Act.put,List.setIfInBounds_toArray,List.set_cons_zero,List.set_cons_succ,i64_w,i32_w]
    rfl
   refine one_ (i:=23) (N:=some 52) #[true,true,true,true,true,true,true,true,true,true,true,true,true,true,true,true,true,true,true,true,true,true,true,true,false,false,false,false,false,false,false,false,false,false] rfl rfl (by kernel_rfl) (by decide) (fun K hK => ?_)
   refine goes_ Try.func23 (by kernel_rfl) rfl #[.slice A1 m.f1.f0.length a1,.slice B1 m.f1.f0.length b1] (by rfl) rfl rfl (by simp only [List.map_toArray,List.map_cons,List.map_nil];rfl) ?_
   refine (understudylaw10_types.calls (m.f1.f0.length + 1) A1 a1 m.f1.f0 B1 b1 m.f1.f0 true _ (Kd.C_below I2.out G3.out) I1.out (Kd.C_below J2.out G3.out) J1.out (types_eq HMM.out.1)).mono ?_
   rintro _ wn1' ⟨rfl,⟨⟨n1,rfl⟩⟩⟩
   refine ⟨_,rfl,?_⟩
   have G4:=Aside0.mk (pw_below_drewN G3.out n1)
   refine hK.out _ _ ⟨(by exact c0),(by exact c1),(by exact c2),(by exact c3),(by exact c4),(by exact c5),(by exact c6),(by exact c7)⟩ (fun hHeld => ?_)
   clear hK K
   refine norm_ (a':=?_) ?_ ?_
   rotate_left
   ·show Act.put _ (some 52) _=_
    simp only [Act.put,List.setIfInBounds_toArray,List.set_cons_zero,List.set_cons_succ,i64_w,i32_w]
    rfl
   refine pure_ (i:=24) (N:=some 53) (v:=?_) (a':=?_) #[true,true,true,true,true,true,true,true,true,true,true,true,true,true,true,true,true,true,true,true,true,true,true,true,true,false,false,false,false,false,false,false,false,false] rfl rfl (by kernel_rfl) (fun _ _ _ h => h) (Or.inl ⟨by rfl,?_⟩) ?_ ?_
   rotate_left
   ·intro w'
    go_simp
    with_reducible rfl
   rotate_left
   ·simp only [Act.put,List.setIfInBounds_toArray,List.set_cons_zero,List.set_cons_succ,i64_w,i32_w]
    rfl
   refine pure_ (i:=25) (N:=some 54) (v:=?_) (a':=?_) #[true,true,true,true,true,true,true,true,true,true,true,true,true,true,true,true,true,true,true,true,true,true,true,true,true,true,false,false,false,false,false,false,false,false] rfl rfl (by kernel_rfl) (fun _ _ _ h => h) (Or.inl ⟨by rfl,?_⟩) ?_ ?_
   rotate_left
   ·intro w'
    go_simp
    with_reducible rfl
   rotate_left
   ·simp only [Act.put,List.setIfInBounds_toArray,List.set_cons_zero,List.set_cons_succ,i64_w,i32_w]
    rfl
   refine pure_ (i:=26) (N:=some 55) (v:=?_) (a':=?_) #[true,true,true,true,true,true,true,true,true,true,true,true,true,true,true,true,true,true,true,true,true,true,true,true,true,true,true,false,false,false,false,false,false,false] rfl rfl (by kernel_rfl) (fun _ _ _ h => h) (Or.inl ⟨by rfl,?_⟩) ?_ ?_
   rotate_left
   ·intro w'
    go_simp
    with_reducible rfl
   rotate_left
   ·simp only [Act.put,List.setIfInBounds_toArray,List.set_cons_zero,List.set_cons_succ,i64_w,i32_w]
    rfl
   refine pure_ (i:=27) (N:=some 56) (v:=?_) (a':=?_) #[true,true,true,true,true,true,true,true,true,true,true,true,true,true,true,true,true,true,true,true,true,true,true,true,true,true,true,true,false,false,false,false,false,false] rfl rfl (by kernel_rfl) (fun _ _ _ h => h) (Or.inl ⟨by rfl,?_⟩) ?_ ?_
   rotate_left
   ·intro w'
    go_simp
    with_reducible rfl
   rotate_left
   ·simp only [Act.put,List.setIfInBounds_toArray,List.set_cons_zero,List.set_cons_succ,i64_w,i32_w]
    rfl
   refine pure_ (i:=29) (N:=some 58) (v:=?_) (a':=?_) #[true,true,true,true,true,true,true,true,true,true,true,true,true,true,true,true,true,true,true,true,true,true,true,true,true,true,true,true,false,true,false,false,false,false] rfl rfl (by kernel_rfl) (fun _ _ _ h => h) (Or.inl ⟨by rfl,?_⟩) ?_ ?_
   rotate_left
   ·intro w'
    go_simp
    with_reducible rfl
   rotate_left
   ·simp only [Act.put,List.setIfInBounds_toArray,List.set_cons_zero,List.set_cons_succ,i64_w,i32_w]
    rfl
   refine take_ (i:=28) (N:=some 57) (v:=?_) (a':=?_) #[true,true,true,true,true,true,true,true,true,true,true,true,true,true,true,true,true,true,true,true,true,true,true,true,true,true,true,true,true,true,false,false,false,false] rfl rfl (by kernel_rfl) (fun _ _ _ h => h) (Or.inl ⟨by rfl,?_⟩) hHeld ?_ ?_
   rotate_left
   ·rintro w' ⟨s0,s1,s2,s3,s4,s5,s6,s7⟩
    go_simp
    with_reducible rfl
   rotate_left
   ·simp only [Act.put,List.setIfInBounds_toArray,List.set_cons_zero,List.set_cons_succ,i64_w,i32_w]
    rfl
   refine take_ (i:=30) (N:=some 59) (v:=?_) (a':=?_) #[true,true,true,true,true,true,true,true,true,true,true,true,true,true,true,true,true,true,true,true,true,true,true,true,true,true,true,true,true,true,true,false,false,false] rfl rfl (by kernel_rfl) (fun _ _ _ h => h) (Or.inl ⟨by rfl,?_⟩) hHeld ?_ ?_
   rotate_left
   ·rintro w' ⟨s0,s1,s2,s3,s4,s5,s6,s7⟩
    go_simp
    with_reducible rfl
   rotate_left
   ·simp only [Act.put,List.setIfInBounds_toArray,List.set_cons_zero,List.set_cons_succ,i64_w,i32_w]
    rfl
   refine one_ (i:=31) (N:=some 60) #[true,true,true,true,true,true,true,true,true,true,true,true,true,true,true,true,true,true,true,true,true,true,true,true,true,true,true,true,true,true,true,true,false,false] rfl rfl (by kernel_rfl) (by decide) (fun K hK => ?_)
   refine goes_ Try.func23 (by kernel_rfl) rfl #[.slice A2 m.f1.f1.length a2,.slice B2 m.f1.f1.length b2] (by rfl) rfl rfl (by simp only [List.map_toArray,List.map_cons,List.map_nil];rfl) ?_
   refine (understudylaw10_types.calls (m.f1.f1.length + 1) A2 a2 m.f1.f1 B2 b2 m.f1.f1 true _ (Kd.C_below I4.out G4.out) I3.out (Kd.C_below J4.out G4.out) J3.out (types_eq HMM.out.2)).mono ?_
   rintro _ wn2' ⟨rfl,⟨⟨n2,rfl⟩⟩⟩
   refine ⟨_,rfl,?_⟩
   have G5:=Aside0.mk (pw_below_drewN G4.out n2)
   refine hK.out _ _ ⟨(by exact c0),(by exact c1),(by exact c2),(by exact c3),(by exact c4),(by exact c5),(by exact c6),(by exact c7)⟩ (fun hHeld => ?_)
   clear hK K
   refine norm_ (a':=?_) ?_ ?_
   rotate_left
   ·show Act.put _ (some 60) _=_
    simp only [Act.put,List.setIfInBounds_toArray,List.set_cons_zero,List.set_cons_succ,i64_w,i32_w]
    rfl
   refine pure_ (i:=32) (N:=some 61) (v:=?_) (a':=?_) #[true,true,true,true,true,true,true,true,true,true,true,true,true,true,true,true,true,true,true,true,true,true,true,true,true,true,true,true,true,true,true,true,true,false] rfl rfl (by kernel_rfl) (fun _ _ _ h => h) (Or.inl ⟨by rfl,?_⟩) ?_ ?_
   rotate_left
   ·intro w'
    go_simp
    with_reducible rfl
   rotate_left
   ·simp only [Act.put,List.setIfInBounds_toArray,List.set_cons_zero,List.set_cons_succ,i64_w,i32_w]
    rfl
   refine pure_ (i:=33) (N:=some 62) (v:=?_) (a':=?_) #[true,true,true,true,true,true,true,true,true,true,true,true,true,true,true,true,true,true,true,true,true,true,true,true,true,true,true,true,true,true,true,true,true,true] rfl rfl (by kernel_rfl) (fun _ _ _ h => h) (Or.inl ⟨by rfl,?_⟩) ?_ ?_
   rotate_left
   ·intro w'
    go_simp
    with_reducible rfl
   rotate_left
   ·simp only [Act.put,List.setIfInBounds_toArray,List.set_cons_zero,List.set_cons_succ,i64_w,i32_w]
    rfl
   refine done_ (by kernel_rfl) ?_
   clear hHeld c0 c1 c2 c3 c4 c5 c6 c7 q1 q2
   go_wp2
   go_roundw
   case measure => exact ms_fewer HI.out.1 HLT.out HL.out
   case rel =>
    have h1:=HLT.out
    have h2:=HL.out
    have h3:=HI.out.1
    exact ⟨x + 1,congrArg (Value.int .i64) (by unfold wrap64;omega),⟨by omega⟩,⟨pw_below_drewN G2.out _⟩⟩
  ·have hd:decide (x < (l.length:Int))=false:=decide_eq_false hi
   clear hi
   go_wp2_with fail
   go_ret
   exact ⟨rfl,HS.out⟩
end Go.Proofs.Ytnihihcopcoabaa.Px
namespace Go.Proofs.Ytnihihcopcoabaa.Px
open Go.RowKit Go.Proofs.YtnihihcopcoabaaW.PrintWords Go.Proofs.YtnihihcopcoabaaW.PrintLast Go.Proofs.YtnihihcopcoabaaW.PrintMore
attribute [local go_sem] max2_int min2_int max_two min_two max_three min_three max_four min_four
set_option linter.unusedVariables false
set_option linter.unusedSimpArgs false
def understudyref10_fresh.l0:Nat→List (S41)→Int→Option (Bool)
 | 0,_,_ => none
 | k + 1,x0,x3 => if x3 < (x0.length:Int) then (if 0≤x3 then (if ((rd_T41 x0 x3).f0)=7 then (some true) else (understudyref10_fresh.l0 k x0 (wrap64 (x3 + 1)))) else (none)) else (some false)
def understudyref10_fresh.f (k:Nat) (l0:List (S41)):Option (Bool):=understudyref10_fresh.l0 k l0 0
set_option maxHeartbeats 80000000 in
set_option maxRecDepth 100000 in
theorem understudyref10_fresh.calls (k:Nat) (A0:Option Addr) (c0:Nat) (l0:List (S41)) (r:Bool) (w:World) (hr0:Kd.C k41 w A0 l0.length l0) (hc0:l0.length≤c0) (h:understudyref10_fresh.f k l0=some r) :
  Calls Try.prog 22 #[.slice A0 l0.length c0] w fun e w' => e=.returned (.bool r)∧Drawn0 w w':=by
 have HR0:=Aside0.mk hr0
 have HC0:=Aside0.mk hc0
 clear hr0 hc0
 have H:(understudyref10_fresh.l0 k l0 0)=some r:=h
 clear h
 have H':=Aside0.mk H
 clear H
 go_enter Try.func22,Try.ntmps22
 go_wp2
 go_loopg [3] k (fun kq v3 w' => ∃ (x3_1:Int),v3=.int .i64 x3_1∧Aside0 (understudyref10_fresh.l0 kq l0 x3_1=some r)∧Aside0 (kq≤k)∧Drawn0 w w')
 case atStart => exact ⟨(0),r3_,H',⟨Nat.le_refl _⟩,by repeat (first|exact Drawn0.refl _|apply Drawn0.step)⟩
 case round =>
  clear H'
  obtain ⟨x3_1,rfl,HA,HK1,⟨m1,rfl⟩⟩:=hrel
  cases gk with
  | zero => exact absurd HA.out (by simp [understudyref10_fresh.l0])
  | succ k1 =>
   have H:=HA.out
   clear HA
   simp only [understudyref10_fresh.l0] at H
   by_cases c2:x3_1 < (l0.length:Int)
   ·rw [if_pos c2] at H
    have c2b0:decide (x3_1 < (l0.length:Int))=true:=decide_eq_true c2
    clear c2
    by_cases c3:0≤x3_1
    ·rw [if_pos c3] at H
     have c3b0:decide (0≤x3_1)=true:=decide_eq_true c3
     clear c3
     by_cases c4:((rd_T41 l0 x3_1).f0)=7
     ·rw [if_pos c4] at H
      have c4b0:(((rd_T41 l0 x3_1).f0)==7)=true:=beq_iff_eq.mpr c4
      have c4b1:(((rd_T41 l0 x3_1).f0) != 7)=false:=bne_eq_false_iff_eq.mpr c4
      clear c4
      obtain rfl:=Option.some.inj H
      have p168:0≤(x3_1:Int):=od_
      have q168:x3_1 < (l0.length:Int):=od_
      obtain ⟨ad168,e168,hx168_0,hx168_1,hx168_2,hx168_3,hx168_4⟩:=at_T41 HR0.out x3_1 p168 q168
      cases e168
      replace p168:=eq_true p168
      replace q168:=eq_true q168
      go_wp2
      go_ret
      exact ⟨by first|rfl|(simp;done)|(simp [*];done),by repeat (first|exact Drawn0.refl _|apply Drawn0.step)⟩
     ·rw [if_neg c4] at H
      have c4b0:(((rd_T41 l0 x3_1).f0)==7)=false:=beq_eq_false_iff_ne.mpr c4
      have c4b1:(((rd_T41 l0 x3_1).f0) != 7)=true:=bne_iff_ne.mpr c4
      have H':=Aside0.mk H
      clear H
      have p168:0≤(x3_1:Int):=od_
      have q168:x3_1 < (l0.length:Int):=od_
      obtain ⟨ad168,e168,hx168_0,hx168_1,hx168_2,hx168_3,hx168_4⟩:=at_T41 HR0.out x3_1 p168 q168
      cases e168
      replace p168:=eq_true p168
      replace q168:=eq_true q168
      go_wp2
      go_roundg k1
      case measure => have:=HK1.out;omega
      case rel => exact ⟨(wrap64 (x3_1 + 1)),r3_,H',⟨by have:=HK1.out;omega⟩,by repeat (first|exact Drawn0.refl _|apply Drawn0.step)⟩
    ·rw [if_neg c3] at H
     exact absurd H (by simp)
   ·rw [if_neg c2] at H
    have c2b0:decide (x3_1 < (l0.length:Int))=false:=decide_eq_false c2
    clear c2
    obtain rfl:=Option.some.inj H
    go_wp2
    go_ret
    exact ⟨by first|rfl|(simp;done)|(simp [*];done),by repeat (first|exact Drawn0.refl _|apply Drawn0.step)⟩
def IsS58 (w0 W:World) (g:Nat) (f0:List Int) (f1:Int):Prop:=∃ A0 c0,W.heap[g]?=some (.cells #[.slice A0 f0.length c0,.int .i64 f1] 58 (0,0))∧w0.heap.size≤g∧Kd.C (Kd.int .u8) w0 A0 f0.length f0∧f0.length≤c0
theorem IsS58.grown {w0 W:World} {g:Nat} {f0:List Int} {f1:Int} {W1:World} {row:Option Nat} (h:IsS58 w0 W g f0 f1) (hw:W.grownBy W1 row) (hne:some g ≠ row):IsS58 w0 W1 g f0 f1:=by
 obtain ⟨A0,c0,hb,hg,hr0,hc0⟩:=h
 exact ⟨A0,c0,blk_grown hb hw hne,hg,hr0,hc0⟩
theorem IsS58.kept {w0 W:World} {g:Nat} {f0:List Int} {f1:Int} {W1:World} {S:Nat→Prop} (h:IsS58 w0 W g f0 f1) (hk:Kept W W1 S) (hne:¬ S g):IsS58 w0 W1 g f0 f1:=by
 obtain ⟨A0,c0,hb,hg,hr0,hc0⟩:=h
 exact ⟨A0,c0,blk_kept hb hk hne,hg,hr0,hc0⟩
theorem IsS58.below {w0 W:World} {g:Nat} {f0:List Int} {f1:Int} {W1:World} (h:IsS58 w0 W g f0 f1) (hw:Below W.heap.size W W1):IsS58 w0 W1 g f0 f1:=h.grown (grown_of_below hw none) (by simp)
theorem IsS58.alloc {w0 W:World} {g:Nat} {f0:List Int} {f1:Int} (h:IsS58 w0 W g f0 f1) (o:Obj):IsS58 w0 (W.alloc o) g f0 f1:=h.below (below_alloc (Below.refl _ _) o)
theorem IsS58.drewN {w0 W:World} {g:Nat} {f0:List Int} {f1:Int} (h:IsS58 w0 W g f0 f1) (m:Nat):IsS58 w0 (W.drewN m) g f0 f1:=h
theorem IsS58.drew {w0 W:World} {g:Nat} {f0:List Int} {f1:Int} (h:IsS58 w0 W g f0 f1):IsS58 w0 W.drew g f0 f1:=h
theorem IsS58.at_ {w0 W:World} {g:Nat} {f0:List Int} {f1:Int} {w':World} {m:Nat} (hq:W.drewN m=w') (h:IsS58 w0 W g f0 f1):IsS58 w0 w' g f0 f1:=by subst hq;exact IsS58.drewN h m
theorem IsS58.apart {w0 W:World} {g:Nat} {f0:List Int} {f1:Int} {α:Type} {d:Kd α} {e:Nat} {base:Nat} {ok:Nat→Prop} {v:Value} {xs:List α} (h:IsS58 w0 W g f0 f1) (ho:d.R e W base ok v xs) (ht:∀ q,q ∈ e :: d.E→q ≠ 58):d.R e W base (fun k => ok k∧k ≠ g) v xs:=by
 obtain ⟨A0,c0,hb,hg,hr0,hc0⟩:=h
 exact Kd.R_types ho hb ht
theorem IsS58.own_ne {w0 W:World} {g:Nat} {f0:List Int} {f1:Int} {α:Type} {d:Kd α} {e:Nat} {base:Nat} {ok:Nat→Prop} {v:Value} {xs:List α} (h:IsS58 w0 W g f0 f1) (ho:d.R e W base ok v xs) (ht:e ≠ 58):some g ≠ v.ownBlock:=by
 obtain ⟨A0,c0,hb,hg,hr0,hc0⟩:=h
 exact Kd.R_ne ho hb ht
theorem IsS58.lt {w0 W:World} {g:Nat} {f0:List Int} {f1:Int} (h:IsS58 w0 W g f0 f1):g < W.heap.size:=by
 obtain ⟨A0,c0,hb,hg,hr0,hc0⟩:=h
 exact blk_lt hb
theorem IsS58.ge {w0 W:World} {g:Nat} {f0:List Int} {f1:Int} (h:IsS58 w0 W g f0 f1):w0.heap.size≤g:=by
 obtain ⟨A0,c0,hb,hg,hr0,hc0⟩:=h
 exact hg
theorem IsS58.far {w0 W:World} {g:Nat} {f0:List Int} {f1:Int} {p:Addr} (h:IsS58 w0 W g f0 f1) (hne:g ≠ p.block) (u:Value):IsS58 w0 (W.setCell p u) g f0 f1:=by
 obtain ⟨A0,c0,hb,hg,hr0,hc0⟩:=h
 exact ⟨A0,c0,blk_far hb hne u,hg,hr0,hc0⟩
theorem cellS58_0 {W:World} {g:Nat} {A0:Option Addr} {c0:Nat} {f0:List Int} {f1:Int} (h:W.heap[g]?=some (.cells #[.slice A0 f0.length c0,.int .i64 f1] 58 (0,0))):W.cell? ⟨g,0,none⟩=some (.slice A0 f0.length c0):=(blk_cell h 0).trans rfl
theorem cellS58_1 {W:World} {g:Nat} {A0:Option Addr} {c0:Nat} {f0:List Int} {f1:Int} (h:W.heap[g]?=some (.cells #[.slice A0 f0.length c0,.int .i64 f1] 58 (0,0))):W.cell? ⟨g,1,none⟩=some (.int .i64 f1):=(blk_cell h 1).trans rfl
theorem IsS58.set_1 {w0 W:World} {g:Nat} {f0:List Int} {f1:Int} (h:IsS58 w0 W g f0 f1) (x:Int):IsS58 w0 (W.setCell ⟨g,1,none⟩ (.int .i64 x)) g f0 x:=by
 obtain ⟨A0,c0,hb,hg,hr0,hc0⟩:=h
 exact ⟨A0,c0,by simpa using blk_set hb 1 (.int .i64 x),hg,hr0,hc0⟩
theorem IsS58.new (w0 W:World) (A0:Option Addr) (c0:Nat) (f0:List Int) (f1:Int) (hB:Below w0.heap.size w0 W) (hr0:Kd.C (Kd.int .u8) w0 A0 f0.length f0) (hc0:f0.length≤c0):IsS58 w0 (W.alloc (.cells #[.slice A0 f0.length c0,.int .i64 f1] 58)) W.heap.size f0 f1:=⟨A0,c0,by simpa using heap_alloc_new W _,hB.size,hr0,hc0⟩
mutual
def understudyref01_Reader_Uint.j0:Nat→Int→Bool→List Int→Int→Option (Int × Int × Int)
 | 0,_,_,_,_ => none
 | k + 1,x1,x13,x1000,x1001 => if x13=true then (some (0,1,x1001)) else (if (wrap64 ((x1000.length:Int) - x1001)) < x1 then (some (0,3,x1001)) else (understudyref01_Reader_Uint.l0 k x1 0 0 x1000 x1001))
def understudyref01_Reader_Uint.l0:Nat→Int→Int→Int→List Int→Int→Option (Int × Int × Int)
 | 0,_,_,_,_,_ => none
 | k + 1,x1,x6,x7,x1000,x1001 => if x7 < x1 then (if 0≤(wrap64 (x1001 + x7)) then (if (wrap64 (x1001 + x7)) < (x1000.length:Int) then (understudyref01_Reader_Uint.l0 k x1 (Go.bits .or .u64 (IntKind.u64.wrap (x6 * 256)) (IntKind.u64.wrap (rd x1000 (wrap64 (x1001 + x7))))) (wrap64 (x7 + 1)) x1000 x1001) else (none)) else (none)) else (some (x6,0,wrap64 (x1001 + x1)))
end
def understudyref01_Reader_Uint.f (k:Nat) (s0_0:List Int) (s0_1:Int) (a1:Int):Option (Int × Int × Int):=if a1 < 1 then (understudyref01_Reader_Uint.j0 k a1 true s0_0 s0_1) else (understudyref01_Reader_Uint.j0 k a1 (decide (a1 > 8)) s0_0 s0_1)
set_option maxHeartbeats 80000000 in
set_option maxRecDepth 100000 in
theorem understudyref01_Reader_Uint.calls (k:Nat) (g:Nat) (s0_0:List Int) (s0_1:Int) (a1:Int) (r1:Int) (r2:Int) (r3:Int) (w0 w:World) (hI:IsS58 w0 w g s0_0 s0_1) (hB:Below w0.heap.size w0 w) (h:understudyref01_Reader_Uint.f k s0_0 s0_1 a1=some (r1,r2,r3)) :
  Calls Try.prog 30 #[.pointer (some ⟨g,0,none⟩),.int .i64 a1] w fun e w' => e=.returned (.tuple #[.int .u64 r1,.int .i64 r2])∧IsS58 w0 w' g s0_0 r3∧Below w0.heap.size w0 w'∧KeepBut w w' g none:=by
 have HI0:=Aside0.mk hI
 have HK:=Aside0.mk (KeepBut.refl w g none)
 have HL:=Aside0.mk hB.size
 clear hI
 have HW0:=Aside0.mk hB.size
 have HB:=Aside0.mk hB
 clear hB
 have H:(if a1 < 1 then (understudyref01_Reader_Uint.j0 k a1 true s0_0 s0_1) else (understudyref01_Reader_Uint.j0 k a1 (decide (a1 > 8)) s0_0 s0_1))=some (r1,r2,r3):=h
 clear h
 have HC3:=Aside0.mk H
 clear H
 go_enter Try.func30,Try.ntmps30
 go_upto_region 1 with (fail)
 repeat (go_quiet (fail);go_upto_region 1 with (fail))
 go_cut [13] (fun v13 wc => ∃ (kq:Nat) (x13_2:Bool),v13=.bool x13_2∧Aside0 (understudyref01_Reader_Uint.j0 kq a1 x13_2 s0_0 s0_1=some (r1,r2,r3))∧Aside0 (kq≤k)∧Aside0 (IsS58 w0 wc g s0_0 s0_1)∧Aside0 (KeepBut w wc g none)∧Aside0 (Below w0.heap.size w0 wc))
 case first =>
  have H:=HC3.out
  clear HC3
  by_cases c4:a1 < 1
  ·rw [if_pos c4] at H
   have c4b0:decide (a1 < 1)=true:=decide_eq_true c4
   clear c4
   (first|rw [c4b0]|(simp only [i64_w,i32_w];rw [c4b0])|skip)
   have H':=Aside0.mk H
   clear H
   go_wp2
   repeat (go_quiet (fail);try go_wp2)
   go_meet
   case rel => exact ⟨_,(true),r3_,H',⟨by first|omega|exact Nat.le_refl _⟩,⟨by repeat (first|(with_reducible first|exact HI0.out|apply IsS58.alloc|apply IsS58.drewN|apply IsS58.drew|apply IsS58.set_1)|exact HI0.out|apply IsS58.set_1)⟩,⟨by repeat (first|(with_reducible first|exact HK.out|apply KeepBut.set_|apply keep_drewN|apply keep_drew|apply keep_alloc)|exact HK.out)⟩,⟨by repeat (first|(with_reducible first|exact HB.out|apply below_alloc|apply pw_below_drewN|apply below_drew1|refine below_set ?_ (IsS58.ge HI0.out))|exact HB.out)⟩⟩
  ·rw [if_neg c4] at H
   have c4b0:decide (a1 < 1)=false:=decide_eq_false c4
   clear c4
   (first|rw [c4b0]|(simp only [i64_w,i32_w];rw [c4b0])|skip)
   have H':=Aside0.mk H
   clear H
   go_wp2
   repeat (go_quiet (fail);try go_wp2)
   go_meet
   case rel => exact ⟨_,(decide (a1 > 8)),r3_,H',⟨by first|omega|exact Nat.le_refl _⟩,⟨by repeat (first|(with_reducible first|exact HI0.out|apply IsS58.alloc|apply IsS58.drewN|apply IsS58.drew|apply IsS58.set_1)|exact HI0.out|apply IsS58.set_1)⟩,⟨by repeat (first|(with_reducible first|exact HK.out|apply KeepBut.set_|apply keep_drewN|apply keep_drew|apply keep_alloc)|exact HK.out)⟩,⟨by repeat (first|(with_reducible first|exact HB.out|apply below_alloc|apply pw_below_drewN|apply below_drew1|refine below_set ?_ (IsS58.ge HI0.out))|exact HB.out)⟩⟩
 case rest =>
  clear HC3
  obtain ⟨kq,x13_2,rfl,HA,HJ2,HI0,HK,HB⟩:=hcut
  cases kq with
  | zero => exact absurd HA.out (by simp [understudyref01_Reader_Uint.j0])
  | succ kj2 =>
   have H:=HA.out
   clear HA
   simp only [understudyref01_Reader_Uint.j0] at H
   by_cases c5:x13_2=true
   ·subst c5
    rw [if_pos rfl] at H
    simp only [Option.some.injEq,Prod.mk.injEq] at H
    obtain ⟨rfl,rfl,rfl⟩:=H
    go_wp2
    repeat (go_quiet (fail);try go_wp2)
    go_ret2
    exact ⟨ew_,by repeat (first|(with_reducible first|exact HI0.out|apply IsS58.alloc|apply IsS58.drewN|apply IsS58.drew|apply IsS58.set_1)|exact HI0.out|apply IsS58.set_1),by repeat (first|(with_reducible first|exact HB.out|apply below_alloc|apply pw_below_drewN|apply below_drew1|refine below_set ?_ (IsS58.ge HI0.out))|exact HB.out),by repeat (first|(with_reducible first|exact HK.out|apply KeepBut.set_|apply keep_drewN|apply keep_drew|apply keep_alloc)|exact HK.out)⟩
   ·replace c5:=Bool.eq_false_iff.mpr c5
    subst c5
    rw [if_neg (show ¬ (false=true) by decide)] at H
    by_cases c6:(wrap64 ((s0_0.length:Int) - s0_1)) < a1
    ·rw [if_pos c6] at H
     have c6b0:decide ((wrap64 ((s0_0.length:Int) - s0_1)) < a1)=true:=decide_eq_true c6
     clear c6
     simp only [Option.some.injEq,Prod.mk.injEq] at H
     obtain ⟨rfl,rfl,rfl⟩:=H
     obtain ⟨ASz7_0,cSz7_0,HGz7,hgz7,HSz7_0,HVz7_0⟩:=HI0.out
     have hcz7_0:=cellS58_0 HGz7
     have hcz7_1:=cellS58_1 HGz7
     have hfz7_1:=blk_frozen HGz7 1
     clear HGz7 hgz7 HVz7_0
     go_wp2
     repeat (go_quiet (fail);try go_wp2)
     go_ret2
     exact ⟨ew_,by repeat (first|(with_reducible first|exact HI0.out|apply IsS58.alloc|apply IsS58.drewN|apply IsS58.drew|apply IsS58.set_1)|exact HI0.out|apply IsS58.set_1),by repeat (first|(with_reducible first|exact HB.out|apply below_alloc|apply pw_below_drewN|apply below_drew1|refine below_set ?_ (IsS58.ge HI0.out))|exact HB.out),by repeat (first|(with_reducible first|exact HK.out|apply KeepBut.set_|apply keep_drewN|apply keep_drew|apply keep_alloc)|exact HK.out)⟩
    ·rw [if_neg c6] at H
     have c6b0:decide ((wrap64 ((s0_0.length:Int) - s0_1)) < a1)=false:=decide_eq_false c6
     clear c6
     have H':=Aside0.mk H
     clear H
     obtain ⟨ASz8_0,cSz8_0,HGz8,hgz8,HSz8_0,HVz8_0⟩:=HI0.out
     have hcz8_0:=cellS58_0 HGz8
     have hcz8_1:=cellS58_1 HGz8
     have hfz8_1:=blk_frozen HGz8 1
     clear HGz8 hgz8 HVz8_0
     go_wp2
     repeat (go_quiet (fail);try go_wp2)
     go_loopg [6,7] kj2 (fun kq v6 v7 w' => ∃ (x6_2:Int) (x7_2:Int),v6=.int .u64 x6_2∧v7=.int .i64 x7_2∧Aside0 (understudyref01_Reader_Uint.l0 kq a1 x6_2 x7_2 s0_0 s0_1=some (r1,r2,r3))∧Aside0 (kq≤kj2)∧Aside0 (IsS58 w0 w' g s0_0 s0_1)∧Aside0 (KeepBut w w' g none)∧Aside0 (Below w0.heap.size w0 w'))
     case atStart => exact ⟨(0),(0),r3_,r3_,H',⟨Nat.le_refl _⟩,⟨by repeat (first|(with_reducible first|exact HI0.out|apply IsS58.alloc|apply IsS58.drewN|apply IsS58.drew|apply IsS58.set_1)|exact HI0.out|apply IsS58.set_1)⟩,⟨by repeat (first|(with_reducible first|exact HK.out|apply KeepBut.set_|apply keep_drewN|apply keep_drew|apply keep_alloc)|exact HK.out)⟩,⟨by repeat (first|(with_reducible first|exact HB.out|apply below_alloc|apply pw_below_drewN|apply below_drew1|refine below_set ?_ (IsS58.ge HI0.out))|exact HB.out)⟩⟩
     case round =>
      clear H'
      try clear c5;try clear c6;try clear c6b0;try clear hcz8_0;try clear hcz8_1;try clear hfz8_1
      obtain ⟨x6_2,x7_2,rfl,rfl,HA,HK2,HI0,HK,HB⟩:=hrel
      cases gk with
      | zero => exact absurd HA.out (by simp [understudyref01_Reader_Uint.l0])
      | succ k2 =>
       have H:=HA.out
       clear HA
       simp only [understudyref01_Reader_Uint.l0] at H
       by_cases c9:x7_2 < a1
       ·rw [if_pos c9] at H
        have c9b0:decide (x7_2 < a1)=true:=decide_eq_true c9
        clear c9
        obtain ⟨ji10,hji10⟩:∃ j_:Int,(wrap64 (s0_1 + x7_2))=j_:=⟨_,rfl⟩
        replace H:(if 0≤(ji10) then (if (ji10) < (s0_0.length:Int) then (understudyref01_Reader_Uint.l0 k2 a1 (Go.bits .or .u64 (IntKind.u64.wrap (x6_2 * 256)) (IntKind.u64.wrap (rd s0_0 (ji10)))) (wrap64 (x7_2 + 1)) s0_0 s0_1) else (none)) else (none))=some (r1,r2,r3):=by first|(rw [hji10] at H;exact H)|(simp only [hji10] at H ⊢;exact H)
        have hji10w:(IntKind.i64.wrap (s0_1 + x7_2))=ji10:=(i64_w _).trans hji10
        by_cases c11:0≤(ji10)
        ·rw [if_pos c11] at H
         have c11b0:decide (0≤(ji10))=true:=decide_eq_true c11
         clear c11
         by_cases c12:(ji10) < (s0_0.length:Int)
         ·rw [if_pos c12] at H
          have c12b0:decide ((ji10) < (s0_0.length:Int))=true:=decide_eq_true c12
          clear c12
          have H':=Aside0.mk H
          clear H
          obtain ⟨ASz13_0,cSz13_0,HGz13,hgz13,HSz13_0,HVz13_0⟩:=HI0.out
          have hcz13_0:=cellS58_0 HGz13
          have hcz13_1:=cellS58_1 HGz13
          have hfz13_1:=blk_frozen HGz13 1
          clear HGz13 hgz13 HVz13_0
          have p169:0≤((ji10):Int):=od_
          have q169:(ji10) < (s0_0.length:Int):=od_
          obtain ⟨ad169,e169,hx169_0⟩:=Kd.at_int HSz13_0 (ji10) p169 q169
          cases e169
          replace hx169_0:=pw_cell_below HB.out hx169_0
          replace p169:=eq_true p169
          replace q169:=eq_true q169
          go_wp2
          repeat (go_quiet (fail);try go_wp2)
          go_roundg k2
          case measure => have:=HJ2.out;have:=HK2.out;omega
          case rel => exact ⟨(Go.bits .or .u64 (IntKind.u64.wrap (x6_2 * 256)) (IntKind.u64.wrap (rd s0_0 (ji10)))),(wrap64 (x7_2 + 1)),(by first|rfl|(simp;done)|(simp only [← hji10] <;> (first|rfl|simp))|(simp [*];done)),r3_,H',⟨by have:=HJ2.out;have:=HK2.out;omega⟩,⟨by repeat (first|(with_reducible first|exact HI0.out|apply IsS58.alloc|apply IsS58.drewN|apply IsS58.drew|apply IsS58.set_1)|exact HI0.out|apply IsS58.set_1)⟩,⟨by repeat (first|(with_reducible first|exact HK.out|apply KeepBut.set_|apply keep_drewN|apply keep_drew|apply keep_alloc)|exact HK.out)⟩,⟨by repeat (first|(with_reducible first|exact HB.out|apply below_alloc|apply pw_below_drewN|apply below_drew1|refine below_set ?_ (IsS58.ge HI0.out))|exact HB.out)⟩⟩
         ·rw [if_neg c12] at H
          exact absurd H (by simp)
        ·rw [if_neg c11] at H
         exact absurd H (by simp)
       ·rw [if_neg c9] at H
        have c9b0:decide (x7_2 < a1)=false:=decide_eq_false c9
        clear c9
        simp only [Option.some.injEq,Prod.mk.injEq] at H
        obtain ⟨rfl,rfl,rfl⟩:=H
        obtain ⟨ASz14_0,cSz14_0,HGz14,hgz14,HSz14_0,HVz14_0⟩:=HI0.out
        have hcz14_0:=cellS58_0 HGz14
        have hcz14_1:=cellS58_1 HGz14
        have hfz14_1:=blk_frozen HGz14 1
        clear HGz14 hgz14 HVz14_0
        go_wp2
        repeat (go_quiet (fail);try go_wp2)
        go_ret2
        exact ⟨ew_,by repeat (first|(with_reducible first|exact HI0.out|apply IsS58.alloc|apply IsS58.drewN|apply IsS58.drew|apply IsS58.set_1)|exact HI0.out|apply IsS58.set_1),by repeat (first|(with_reducible first|exact HB.out|apply below_alloc|apply pw_below_drewN|apply below_drew1|refine below_set ?_ (IsS58.ge HI0.out))|exact HB.out),by repeat (first|(with_reducible first|exact HK.out|apply KeepBut.set_|apply keep_drewN|apply keep_drew|apply keep_alloc)|exact HK.out)⟩
def understudyref04_is.f (l0:List (S70)) (a1:Int) (a2:Int):Option (Bool):=if a1 ≥ 1 then (if a1 < (l0.length:Int) then (if 0≤a1 then (some (((rd_T70 l0 a1).f0)==a2)) else (none)) else (some false)) else (some false)
set_option maxHeartbeats 80000000 in
set_option maxRecDepth 100000 in
theorem understudyref04_is.calls (A0:Option Addr) (c0:Nat) (l0:List (S70)) (a1:Int) (a2:Int) (r:Bool) (w:World) (hr0:Kd.C k70 w A0 l0.length l0) (hc0:l0.length≤c0) (h:understudyref04_is.f l0 a1 a2=some r) :
  Calls Try.prog 39 #[.slice A0 l0.length c0,.int .i64 a1,.int .i64 a2] w fun e w' => e=.returned (.bool r)∧Drawn0 w w':=by
 have HR0:=Aside0.mk hr0
 have HC0:=Aside0.mk hc0
 clear hr0 hc0
 have H:(if a1 ≥ 1 then (if a1 < (l0.length:Int) then (if 0≤a1 then (some (((rd_T70 l0 a1).f0)==a2)) else (none)) else (some false)) else (some false))=some r:=h
 clear h
 by_cases c4:a1 ≥ 1
 ·rw [if_pos c4] at H
  have c4b0:decide (1≤a1)=true:=decide_eq_true c4
  clear c4
  by_cases c5:a1 < (l0.length:Int)
  ·rw [if_pos c5] at H
   have c5b0:decide (a1 < (l0.length:Int))=true:=decide_eq_true c5
   clear c5
   by_cases c6:0≤a1
   ·rw [if_pos c6] at H
    have c6b0:decide (0≤a1)=true:=decide_eq_true c6
    clear c6
    obtain rfl:=Option.some.inj H
    have p170:0≤(a1:Int):=od_
    have q170:a1 < (l0.length:Int):=od_
    obtain ⟨ad170,e170,hx170_0,hx170_1,hx170_2,hx170_3,hx170_4⟩:=at_T70 HR0.out a1 p170 q170
    cases e170
    replace p170:=eq_true p170
    replace q170:=eq_true q170
    go_enter Try.func39,Try.ntmps39
    go_wp2
    go_ret
    exact ⟨by first|rfl|(simp;done)|(simp [*];done),by repeat (first|exact Drawn0.refl _|apply Drawn0.step)⟩
   ·rw [if_neg c6] at H
    exact absurd H (by simp)
  ·rw [if_neg c5] at H
   have c5b0:decide (a1 < (l0.length:Int))=false:=decide_eq_false c5
   clear c5
   obtain rfl:=Option.some.inj H
   go_enter Try.func39,Try.ntmps39
   go_wp2
   go_ret
   exact ⟨by first|rfl|(simp;done)|(simp [*];done),by repeat (first|exact Drawn0.refl _|apply Drawn0.step)⟩
 ·rw [if_neg c4] at H
  have c4b0:decide (1≤a1)=false:=decide_eq_false c4
  clear c4
  obtain rfl:=Option.some.inj H
  go_enter Try.func39,Try.ntmps39
  go_wp2
  go_ret
  exact ⟨by first|rfl|(simp;done)|(simp [*];done),by repeat (first|exact Drawn0.refl _|apply Drawn0.step)⟩
def understudyref04_Text.f (l0:List (S70)) (a1:Int):Option (ByteArray × Bool):=(understudyref04_is.f l0 a1 1).bind fun t171 => (if t171=true then (if 0≤a1 then (if a1 < (l0.length:Int) then (some ((rd_T70 l0 a1).f1,true)) else (none)) else (none)) else (some ((⟨#[]⟩:ByteArray),false)))
set_option maxHeartbeats 80000000 in
set_option maxRecDepth 100000 in
theorem understudyref04_Text.calls (A0:Option Addr) (c0:Nat) (l0:List (S70)) (a1:Int) (r1:ByteArray) (r2:Bool) (w:World) (hr0:Kd.C k70 w A0 l0.length l0) (hc0:l0.length≤c0) (h:understudyref04_Text.f l0 a1=some (r1,r2)) :
  Calls Try.prog 40 #[.slice A0 l0.length c0,.int .i64 a1] w fun e w' => e=.returned (.tuple #[.string r1,.bool r2])∧Drawn0 w w':=by
 have HR0:=Aside0.mk hr0
 have HC0:=Aside0.mk hc0
 clear hr0 hc0
 have H:((understudyref04_is.f l0 a1 1).bind fun t171 => (if t171=true then (if 0≤a1 then (if a1 < (l0.length:Int) then (some ((rd_T70 l0 a1).f1,true)) else (none)) else (none)) else (some ((⟨#[]⟩:ByteArray),false))))=some (r1,r2):=h
 clear h
 replace H:=Option.bind_eq_some_iff.mp H
 obtain ⟨t171,A30,H⟩:=H
 try dsimp only at H
 have A3:=Aside0.mk A30
 clear A30
 by_cases c4:t171=true
 ·subst c4
  rw [if_pos rfl] at H
  by_cases c5:0≤a1
  ·rw [if_pos c5] at H
   have c5b0:decide (0≤a1)=true:=decide_eq_true c5
   clear c5
   by_cases c6:a1 < (l0.length:Int)
   ·rw [if_pos c6] at H
    have c6b0:decide (a1 < (l0.length:Int))=true:=decide_eq_true c6
    clear c6
    simp only [Option.some.injEq,Prod.mk.injEq] at H
    obtain ⟨rfl,rfl⟩:=H
    go_enter Try.func40,Try.ntmps40
    go_wp2_with (first|(refine callA_ (f:=39) (some 8) Try.func39 #[.slice A0 l0.length c0,.int .i64 a1,.int .i64 1] ?_;(with_reducible refine (understudyref04_is.calls _ _ l0 a1 1 true _ ?side1 ?side2 A3.out).mono ?_);(case side1 => exact kc_ HR0.out);(case side2 => exact HC0.out);rintro e w' ⟨rfl,⟨nd,rfl⟩⟩;refine ⟨_,rfl,?_⟩;have p172:0≤(a1:Int):=od_;have q172:a1 < (l0.length:Int):=od_;obtain ⟨ad172,e172,hx172_0,hx172_1,hx172_2,hx172_3,hx172_4⟩:=at_T70 HR0.out a1 p172 q172;cases e172;replace p172:=eq_true p172;replace q172:=eq_true q172))
    go_ret2
    exact ⟨by first|rfl|(simp;done)|(simp [*];done),by repeat (first|exact Drawn0.refl _|apply Drawn0.step)⟩
   ·rw [if_neg c6] at H
    exact absurd H (by simp)
  ·rw [if_neg c5] at H
   exact absurd H (by simp)
 ·replace c4:=Bool.eq_false_iff.mpr c4
  subst c4
  rw [if_neg (show ¬ (false=true) by decide)] at H
  simp only [Option.some.injEq,Prod.mk.injEq] at H
  obtain ⟨rfl,rfl⟩:=H
  go_enter Try.func40,Try.ntmps40
  go_wp2_with (first|(refine callA_ (f:=39) (some 8) Try.func39 #[.slice A0 l0.length c0,.int .i64 a1,.int .i64 1] ?_;(with_reducible refine (understudyref04_is.calls _ _ l0 a1 1 false _ ?side1 ?side2 A3.out).mono ?_);(case side1 => exact kc_ HR0.out);(case side2 => exact HC0.out);rintro e w' ⟨rfl,⟨nd,rfl⟩⟩;refine ⟨_,rfl,?_⟩))
  go_ret2
  exact ⟨by first|rfl|(simp;done)|(simp [*];done),by repeat (first|exact Drawn0.refl _|apply Drawn0.step)⟩
def understudyref04_Class.f (l0:List (S70)) (a1:Int):Option (ByteArray × Bool):=(understudyref04_is.f l0 a1 7).bind fun t173 => (if t173=true then (if 0≤a1 then (if a1 < (l0.length:Int) then ((understudyref04_Text.f l0 ((rd_T70 l0 a1).f3)).bind fun bt175 => (some (bt175.1,bt175.2))) else (none)) else (none)) else (some ((⟨#[]⟩:ByteArray),false)))
set_option maxHeartbeats 80000000 in
set_option maxRecDepth 100000 in
theorem understudyref04_Class.calls (A0:Option Addr) (c0:Nat) (l0:List (S70)) (a1:Int) (r1:ByteArray) (r2:Bool) (w:World) (hr0:Kd.C k70 w A0 l0.length l0) (hc0:l0.length≤c0) (h:understudyref04_Class.f l0 a1=some (r1,r2)) :
  Calls Try.prog 34 #[.slice A0 l0.length c0,.int .i64 a1] w fun e w' => e=.returned (.tuple #[.string r1,.bool r2])∧Drawn0 w w':=by
 have HR0:=Aside0.mk hr0
 have HC0:=Aside0.mk hc0
 clear hr0 hc0
 have H:((understudyref04_is.f l0 a1 7).bind fun t173 => (if t173=true then (if 0≤a1 then (if a1 < (l0.length:Int) then ((understudyref04_Text.f l0 ((rd_T70 l0 a1).f3)).bind fun bt175 => (some (bt175.1,bt175.2))) else (none)) else (none)) else (some ((⟨#[]⟩:ByteArray),false))))=some (r1,r2):=h
 clear h
 replace H:=Option.bind_eq_some_iff.mp H
 obtain ⟨t173,A30,H⟩:=H
 try dsimp only at H
 have A3:=Aside0.mk A30
 clear A30
 by_cases c4:t173=true
 ·subst c4
  rw [if_pos rfl] at H
  by_cases c5:0≤a1
  ·rw [if_pos c5] at H
   have c5b0:decide (0≤a1)=true:=decide_eq_true c5
   clear c5
   by_cases c6:a1 < (l0.length:Int)
   ·rw [if_pos c6] at H
    have c6b0:decide (a1 < (l0.length:Int))=true:=decide_eq_true c6
    clear c6
    replace H:=Option.bind_eq_some_iff.mp H
    obtain ⟨⟨t175,t176⟩,A70,H⟩:=H
    try dsimp only at H
    have A7:=Aside0.mk A70
    clear A70
    simp only [Option.some.injEq,Prod.mk.injEq] at H
    obtain ⟨rfl,rfl⟩:=H
    go_enter Try.func34,Try.ntmps34
    go_wp2_with (first|(refine callA_ (f:=39) (some 8) Try.func39 #[.slice A0 l0.length c0,.int .i64 a1,.int .i64 7] ?_;(with_reducible refine (understudyref04_is.calls _ _ l0 a1 7 true _ ?side1 ?side2 A3.out).mono ?_);(case side1 => exact kc_ HR0.out);(case side2 => exact HC0.out);rintro e w' ⟨rfl,⟨nd,rfl⟩⟩;refine ⟨_,rfl,?_⟩;have p174:0≤(a1:Int):=od_;have q174:a1 < (l0.length:Int):=od_;obtain ⟨ad174,e174,hx174_0,hx174_1,hx174_2,hx174_3,hx174_4⟩:=at_T70 HR0.out a1 p174 q174;cases e174;replace p174:=eq_true p174;replace q174:=eq_true q174)|(refine callA_ (f:=40) (some 16) Try.func40 #[.slice (some ad174) l0.length c0,.int .i64 ((rd_T70 l0 a1).f3)] ?_;(with_reducible refine (understudyref04_Text.calls _ _ l0 ((rd_T70 l0 a1).f3) t175 t176 _ ?side1 ?side2 A7.out).mono ?_);(case side1 => exact kc_ HR0.out);(case side2 => exact HC0.out);rintro e w' ⟨rfl,⟨nd,rfl⟩⟩;refine ⟨_,rfl,?_⟩))
    go_ret2
    exact ⟨by first|rfl|(simp;done)|(simp [*];done),by repeat (first|exact Drawn0.refl _|apply Drawn0.step)⟩
   ·rw [if_neg c6] at H
    exact absurd H (by simp)
  ·rw [if_neg c5] at H
   exact absurd H (by simp)
 ·replace c4:=Bool.eq_false_iff.mpr c4
  subst c4
  rw [if_neg (show ¬ (false=true) by decide)] at H
  simp only [Option.some.injEq,Prod.mk.injEq] at H
  obtain ⟨rfl,rfl⟩:=H
  go_enter Try.func34,Try.ntmps34
  go_wp2_with (first|(refine callA_ (f:=39) (some 8) Try.func39 #[.slice A0 l0.length c0,.int .i64 a1,.int .i64 7] ?_;(with_reducible refine (understudyref04_is.calls _ _ l0 a1 7 false _ ?side1 ?side2 A3.out).mono ?_);(case side1 => exact kc_ HR0.out);(case side2 => exact HC0.out);rintro e w' ⟨rfl,⟨nd,rfl⟩⟩;refine ⟨_,rfl,?_⟩))
  go_ret2
  exact ⟨by first|rfl|(simp;done)|(simp [*];done),by repeat (first|exact Drawn0.refl _|apply Drawn0.step)⟩
mutual
def understudyref08_Plain.j0:Nat→ByteArray→Bool→Option (Bool)
 | 0,_,_ => none
 | k + 1,x0,x11 => if x11=true then (some false) else (understudyref08_Plain.l0 k x0 0)
def understudyref08_Plain.l0:Nat→ByteArray→Int→Option (Bool)
 | 0,_,_ => none
 | k + 1,x0,x3 => if x3 < (x0.size:Int) then (if 0≤x3 then (if (bt x0 x3)=46 then (some false) else (if (bt x0 x3)=59 then (some false) else (if (bt x0 x3)=91 then (some false) else (if (bt x0 x3)=47 then (some false) else (if (bt x0 x3)=60 then (some false) else (if (bt x0 x3)=62 then (some false) else (understudyref08_Plain.l0 k x0 (wrap64 (x3 + 1))))))))) else (none)) else (some true)
end
def understudyref08_Plain.f (k:Nat) (a0:ByteArray):Option (Bool):=if (a0.size:Int) < 1 then (understudyref08_Plain.j0 k a0 true) else (understudyref08_Plain.j0 k a0 (decide ((a0.size:Int) > 256)))
set_option maxHeartbeats 80000000 in
set_option maxRecDepth 100000 in
theorem understudyref08_Plain.calls (k:Nat) (a0:ByteArray) (r:Bool) (w:World) (h:understudyref08_Plain.f k a0=some r) :
  Calls Try.prog 42 #[.string a0] w fun e w' => e=.returned (.bool r)∧Drawn0 w w':=by
 have H:(if (a0.size:Int) < 1 then (understudyref08_Plain.j0 k a0 true) else (understudyref08_Plain.j0 k a0 (decide ((a0.size:Int) > 256))))=some r:=h
 clear h
 have HC2:=Aside0.mk H
 clear H
 go_enter Try.func42,Try.ntmps42
 go_upto_region 1 with (fail)
 go_cut [11] (fun v11 wc => ∃ (kq:Nat) (x11_1:Bool),v11=.bool x11_1∧Aside0 (understudyref08_Plain.j0 kq a0 x11_1=some r)∧Aside0 (kq≤k)∧Drawn0 w wc)
 case first =>
  have H:=HC2.out
  clear HC2
  by_cases c3:(a0.size:Int) < 1
  ·rw [if_pos c3] at H
   have c3b0:decide ((a0.size:Int) < 1)=true:=decide_eq_true c3
   have c3b1:decide (a0.size < 1)=true:=decide_eq_true (by omega)
   clear c3
   (first|rw [c3b0]|(simp only [i64_w,i32_w];rw [c3b0])|skip)
   have H':=Aside0.mk H
   clear H
   go_wp2
   go_meet
   case rel => exact ⟨_,(true),r3_,H',⟨by first|omega|exact Nat.le_refl _⟩,by repeat (first|exact Drawn0.refl _|apply Drawn0.step)⟩
  ·rw [if_neg c3] at H
   have c3b0:decide ((a0.size:Int) < 1)=false:=decide_eq_false c3
   have c3b1:decide (a0.size < 1)=false:=decide_eq_false (by omega)
   clear c3
   (first|rw [c3b0]|(simp only [i64_w,i32_w];rw [c3b0])|skip)
   have H':=Aside0.mk H
   clear H
   go_wp2
   go_meet
   case rel => exact ⟨_,(decide ((a0.size:Int) > 256)),r3_,H',⟨by first|omega|exact Nat.le_refl _⟩,by repeat (first|exact Drawn0.refl _|apply Drawn0.step)⟩
 case rest =>
  clear HC2
  obtain ⟨kq,x11_1,rfl,HA,HJ1,⟨mc1,rfl⟩⟩:=hcut
  cases kq with
  | zero => exact absurd HA.out (by simp [understudyref08_Plain.j0])
  | succ kj1 =>
   have H:=HA.out
   clear HA
   simp only [understudyref08_Plain.j0] at H
   by_cases c4:x11_1=true
   ·subst c4
    rw [if_pos rfl] at H
    obtain rfl:=Option.some.inj H
    go_wp2
    go_ret
    exact ⟨by first|rfl|(simp;done)|(simp [*];done),by repeat (first|exact Drawn0.refl _|apply Drawn0.step)⟩
   ·replace c4:=Bool.eq_false_iff.mpr c4
    subst c4
    rw [if_neg (show ¬ (false=true) by decide)] at H
    have H':=Aside0.mk H
    clear H
    go_wp2
    go_loopg [3] kj1 (fun kq v3 w' => ∃ (x3_2:Int),v3=.int .i64 x3_2∧Aside0 (understudyref08_Plain.l0 kq a0 x3_2=some r)∧Aside0 (kq≤kj1)∧Drawn0 w w')
    case atStart => exact ⟨(0),r3_,H',⟨Nat.le_refl _⟩,by repeat (first|exact Drawn0.refl _|apply Drawn0.step)⟩
    case round =>
     clear H'
     try clear c4
     obtain ⟨x3_2,rfl,HA,HK2,⟨m2,rfl⟩⟩:=hrel
     cases gk with
     | zero => exact absurd HA.out (by simp [understudyref08_Plain.l0])
     | succ k2 =>
      have H:=HA.out
      clear HA
      simp only [understudyref08_Plain.l0] at H
      by_cases c5:x3_2 < (a0.size:Int)
      ·rw [if_pos c5] at H
       have c5b0:decide (x3_2 < (a0.size:Int))=true:=decide_eq_true c5
       clear c5
       by_cases c6:0≤x3_2
       ·rw [if_pos c6] at H
        have c6b0:decide (0≤x3_2)=true:=decide_eq_true c6
        clear c6
        by_cases c8:(bt a0 x3_2)=46
        ·rw [if_pos c8] at H
         have c8b0:((bt a0 x3_2)==46)=true:=beq_iff_eq.mpr c8
         have c8b1:((bt a0 x3_2) != 46)=false:=bne_eq_false_iff_eq.mpr c8
         clear c8
         obtain rfl:=Option.some.inj H
         have p7:0≤(x3_2:Int):=od_
         have q7:x3_2 < (a0.size:Int):=od_
         have hx7:=bt_at a0 x3_2
         replace p7:=eq_true p7
         replace q7:=eq_true q7
         go_wp2
         go_ret
         exact ⟨by first|rfl|(simp;done)|(simp [*];done),by repeat (first|exact Drawn0.refl _|apply Drawn0.step)⟩
        ·rw [if_neg c8] at H
         have c8b0:((bt a0 x3_2)==46)=false:=beq_eq_false_iff_ne.mpr c8
         have c8b1:((bt a0 x3_2) != 46)=true:=bne_iff_ne.mpr c8
         by_cases c9:(bt a0 x3_2)=59
         ·rw [if_pos c9] at H
          have c9b0:((bt a0 x3_2)==59)=true:=beq_iff_eq.mpr c9
          have c9b1:((bt a0 x3_2) != 59)=false:=bne_eq_false_iff_eq.mpr c9
          clear c9
          obtain rfl:=Option.some.inj H
          have p7:0≤(x3_2:Int):=od_
          have q7:x3_2 < (a0.size:Int):=od_
          have hx7:=bt_at a0 x3_2
          replace p7:=eq_true p7
          replace q7:=eq_true q7
          go_wp2
          go_ret
          exact ⟨by first|rfl|(simp;done)|(simp [*];done),by repeat (first|exact Drawn0.refl _|apply Drawn0.step)⟩
         ·rw [if_neg c9] at H
          have c9b0:((bt a0 x3_2)==59)=false:=beq_eq_false_iff_ne.mpr c9
          have c9b1:((bt a0 x3_2) != 59)=true:=bne_iff_ne.mpr c9
          by_cases c10:(bt a0 x3_2)=91
          ·rw [if_pos c10] at H
           have c10b0:((bt a0 x3_2)==91)=true:=beq_iff_eq.mpr c10
           have c10b1:((bt a0 x3_2) != 91)=false:=bne_eq_false_iff_eq.mpr c10
           clear c10
           obtain rfl:=Option.some.inj H
           have p7:0≤(x3_2:Int):=od_
           have q7:x3_2 < (a0.size:Int):=od_
           have hx7:=bt_at a0 x3_2
           replace p7:=eq_true p7
           replace q7:=eq_true q7
           go_wp2
           go_ret
           exact ⟨by first|rfl|(simp;done)|(simp [*];done),by repeat (first|exact Drawn0.refl _|apply Drawn0.step)⟩
          ·rw [if_neg c10] at H
           have c10b0:((bt a0 x3_2)==91)=false:=beq_eq_false_iff_ne.mpr c10
           have c10b1:((bt a0 x3_2) != 91)=true:=bne_iff_ne.mpr c10
           by_cases c11:(bt a0 x3_2)=47
           ·rw [if_pos c11] at H
            have c11b0:((bt a0 x3_2)==47)=true:=beq_iff_eq.mpr c11
            have c11b1:((bt a0 x3_2) != 47)=false:=bne_eq_false_iff_eq.mpr c11
            clear c11
            obtain rfl:=Option.some.inj H
            have p7:0≤(x3_2:Int):=od_
            have q7:x3_2 < (a0.size:Int):=od_
            have hx7:=bt_at a0 x3_2
            replace p7:=eq_true p7
            replace q7:=eq_true q7
            go_wp2
            go_ret
            exact ⟨by first|rfl|(simp;done)|(simp [*];done),by repeat (first|exact Drawn0.refl _|apply Drawn0.step)⟩
           ·rw [if_neg c11] at H
            have c11b0:((bt a0 x3_2)==47)=false:=beq_eq_false_iff_ne.mpr c11
            have c11b1:((bt a0 x3_2) != 47)=true:=bne_iff_ne.mpr c11
            by_cases c12:(bt a0 x3_2)=60
            ·rw [if_pos c12] at H
             have c12b0:((bt a0 x3_2)==60)=true:=beq_iff_eq.mpr c12
             have c12b1:((bt a0 x3_2) != 60)=false:=bne_eq_false_iff_eq.mpr c12
             clear c12
             obtain rfl:=Option.some.inj H
             have p7:0≤(x3_2:Int):=od_
             have q7:x3_2 < (a0.size:Int):=od_
             have hx7:=bt_at a0 x3_2
             replace p7:=eq_true p7
             replace q7:=eq_true q7
             go_wp2
             go_ret
             exact ⟨by first|rfl|(simp;done)|(simp [*];done),by repeat (first|exact Drawn0.refl _|apply Drawn0.step)⟩
            ·rw [if_neg c12] at H
             have c12b0:((bt a0 x3_2)==60)=false:=beq_eq_false_iff_ne.mpr c12
             have c12b1:((bt a0 x3_2) != 60)=true:=bne_iff_ne.mpr c12
             by_cases c13:(bt a0 x3_2)=62
             ·rw [if_pos c13] at H
              have c13b0:((bt a0 x3_2)==62)=true:=beq_iff_eq.mpr c13
              have c13b1:((bt a0 x3_2) != 62)=false:=bne_eq_false_iff_eq.mpr c13
              clear c13
              obtain rfl:=Option.some.inj H
              have p7:0≤(x3_2:Int):=od_
              have q7:x3_2 < (a0.size:Int):=od_
              have hx7:=bt_at a0 x3_2
              replace p7:=eq_true p7
              replace q7:=eq_true q7
              go_wp2
              go_ret
              exact ⟨by first|rfl|(simp;done)|(simp [*];done),by repeat (first|exact Drawn0.refl _|apply Drawn0.step)⟩
             ·rw [if_neg c13] at H
              have c13b0:((bt a0 x3_2)==62)=false:=beq_eq_false_iff_ne.mpr c13
              have c13b1:((bt a0 x3_2) != 62)=true:=bne_iff_ne.mpr c13
              have H':=Aside0.mk H
              clear H
              have p7:0≤(x3_2:Int):=od_
              have q7:x3_2 < (a0.size:Int):=od_
              have hx7:=bt_at a0 x3_2
              replace p7:=eq_true p7
              replace q7:=eq_true q7
              go_wp2
              go_roundg k2
              case measure => have:=HJ1.out;have:=HK2.out;omega
              case rel => exact ⟨(wrap64 (x3_2 + 1)),r3_,H',⟨by have:=HJ1.out;have:=HK2.out;omega⟩,by repeat (first|exact Drawn0.refl _|apply Drawn0.step)⟩
       ·rw [if_neg c6] at H
        exact absurd H (by simp)
      ·rw [if_neg c5] at H
       have c5b0:decide (x3_2 < (a0.size:Int))=false:=decide_eq_false c5
       clear c5
       obtain rfl:=Option.some.inj H
       go_wp2
       go_ret
       exact ⟨by first|rfl|(simp;done)|(simp [*];done),by repeat (first|exact Drawn0.refl _|apply Drawn0.step)⟩
end Go.Proofs.Ytnihihcopcoabaa.Px
namespace Go.Proofs.Ytnihihcopcoabaa.Px
open Go.RowKit Go.Proofs.YtnihihcopcoabaaW.PrintWords Go.Proofs.YtnihihcopcoabaaW.PrintLast Go.Proofs.YtnihihcopcoabaaW.PrintMore
attribute [local go_sem] max2_int min2_int max_two min_two max_three min_three max_four min_four
set_option linter.unusedVariables false
set_option linter.unusedSimpArgs false
mutual
def understudyref08_field.j1:Nat→ByteArray→Int→Option (Int × ByteArray × Int × Int × Int × ByteArray × Bool)
 | 0,_,_ => none
 | k + 1,x0,x5 => if x0.toList=([]:List UInt8) then (understudyref08_field.j2 k x0 x5 true) else (understudyref08_field.j2 k x0 x5 (decide (x5 > 4)))
def understudyref08_field.j2:Nat→ByteArray→Int→Bool→Option (Int × ByteArray × Int × Int × Int × ByteArray × Bool)
 | 0,_,_,_ => none
 | k + 1,x0,x5,x25 => if x25=true then (some (0,(⟨#[]⟩:ByteArray),0,0,0,(⟨#[]⟩:ByteArray),false)) else (if 0 < (x0.size:Int) then (if (bt x0 0)=73 then (if 1≤(x0.size:Int) then (if x5 > 0 then (some (5,(⟨#[]⟩:ByteArray),x5,1,0,x0.extract 1 x0.size,true)) else (some (1,(⟨#[]⟩:ByteArray),0,0,0,x0.extract 1 x0.size,true))) else (none)) else (if (bt x0 0)=74 then (if 1≤(x0.size:Int) then (if x5 > 0 then (some (5,(⟨#[]⟩:ByteArray),x5,2,0,x0.extract 1 x0.size,true)) else (some (2,(⟨#[]⟩:ByteArray),0,0,0,x0.extract 1 x0.size,true))) else (none)) else (if (bt x0 0)=76 then (understudyref08_field.l1 k x0 x5 1 0 (⟨#[]⟩:ByteArray) 0 0 0) else (some (0,(⟨#[]⟩:ByteArray),0,0,0,(⟨#[]⟩:ByteArray),false))))) else (none))
def understudyref08_field.j4:Nat→ByteArray→Int→Int→Int→ByteArray→Int→Int→Int→Option (Int × ByteArray × Int × Int × Int × ByteArray × Bool)
 | 0,_,_,_,_,_,_,_,_ => none
 | k + 1,x0,x5,x7,x179000,x179001,x179002,x179003,x179004 => if x7=(x0.size:Int) then (understudyref08_field.j5 k x0 x5 x7 true x179000 x179001 x179002 x179003 x179004) else (if 1≤x7 then (if x7≤(x0.size:Int) then ((understudyref08_Plain.f k (x0.extract 1 (x7:Int).toNat)).bind fun t179 => (understudyref08_field.j5 k x0 x5 x7 (!t179) x179000 x179001 x179002 x179003 x179004)) else (none)) else (none))
def understudyref08_field.j5:Nat→ByteArray→Int→Int→Bool→Int→ByteArray→Int→Int→Int→Option (Int × ByteArray × Int × Int × Int × ByteArray × Bool)
 | 0,_,_,_,_,_,_,_,_,_ => none
 | k + 1,x0,x5,x7,x65,x179000,x179001,x179002,x179003,x179004 => if x65=true then (some (0,(⟨#[]⟩:ByteArray),0,0,0,(⟨#[]⟩:ByteArray),false)) else (if 1≤x7 then (if x7≤(x0.size:Int) then (if 0≤(wrap64 (x7 + 1)) then (if (wrap64 (x7 + 1))≤(x0.size:Int) then (if x5 > 0 then (some (5,x0.extract 1 (x7:Int).toNat,x5,4,0,x0.extract ((wrap64 (x7 + 1)):Int).toNat x0.size,true)) else (some (4,x0.extract 1 (x7:Int).toNat,x179002,x179003,x179004,x0.extract ((wrap64 (x7 + 1)):Int).toNat x0.size,true))) else (none)) else (none)) else (none)) else (none))
def understudyref08_field.l1:Nat→ByteArray→Int→Int→Int→ByteArray→Int→Int→Int→Option (Int × ByteArray × Int × Int × Int × ByteArray × Bool)
 | 0,_,_,_,_,_,_,_,_ => none
 | k + 1,x0,x5,x7,x179000,x179001,x179002,x179003,x179004 => if x7 < (x0.size:Int) then (if 0≤x7 then (if (bt x0 x7)=59 then (understudyref08_field.j4 k x0 x5 x7 x179000 x179001 x179002 x179003 x179004) else (understudyref08_field.l1 k x0 x5 (wrap64 (x7 + 1)) x179000 x179001 x179002 x179003 x179004)) else (none)) else (understudyref08_field.j4 k x0 x5 x7 x179000 x179001 x179002 x179003 x179004)
def understudyref08_field.l0:Nat→ByteArray→Int→Option (Int × ByteArray × Int × Int × Int × ByteArray × Bool)
 | 0,_,_ => none
 | k + 1,x0,x5 => if (x0.size:Int) > 0 then (if 0 < (x0.size:Int) then (if (bt x0 0)=91 then (if 1≤(x0.size:Int) then (understudyref08_field.l0 k (x0.extract 1 x0.size) (wrap64 (x5 + 1))) else (none)) else (understudyref08_field.j1 k x0 x5)) else (none)) else (understudyref08_field.j1 k x0 x5)
end
def understudyref08_field.f (k:Nat) (a0:ByteArray):Option (Int × ByteArray × Int × Int × Int × ByteArray × Bool):=understudyref08_field.l0 k a0 0
set_option maxHeartbeats 80000000 in
set_option maxRecDepth 100000 in
theorem understudyref08_field.calls (k:Nat) (a0:ByteArray) (r1:Int) (r2:ByteArray) (r3:Int) (r4:Int) (r5:Int) (r6:ByteArray) (r7:Bool) (w:World) (h:understudyref08_field.f k a0=some (r1,r2,r3,r4,r5,r6,r7)) :
  Calls Try.prog 45 #[.string a0] w fun e w' => e=.returned (.tuple #[.agg #[.int .i64 r1,.string r2,.int .i64 r3,.int .i64 r4,.int .i64 r5],.string r6,.bool r7])∧Below w.heap.size w w':=by
 have hu41:=Try.underlying41
 have HB:=Aside0.mk (Below.refl w.heap.size w)
 have H:(understudyref08_field.l0 k a0 0)=some (r1,r2,r3,r4,r5,r6,r7):=h
 clear h
 have HC2:=Aside0.mk H
 clear H
 go_enter Try.func45,Try.ntmps45
 go_upto_block 0 with (first|((with_reducible refine gate_dst (N:=2) rfl ?_);refine box_event ?hg (N:=2) ?hd (cs:=#[.int .i64 0,.string (⟨#[]⟩:ByteArray),.int .i64 0,.int .i64 0,.int .i64 0]) (t:=41) ?hr ?_;(case hd => rfl);(case hg => rfl);(case hr => first|(go_simp;done)|(go_simp;rfl));intro gb177 hg w3 hbox hb;have n0_:=Aside0.mk (below_step bl_ hb);have n1_:=Aside0.mk (hbox);have n2_:=Aside0.mk ((by rw [hg];exact (below_size bl_):w.heap.size≤gb177));have n3_:=Aside0.mk ((by rw [hg];exact (below_size bl_):w.heap.size≤gb177));clear HB;have HB:=n0_;have BK177:=n1_;have GW177:=n2_;have GE177:=n3_;clear n0_ n1_ n2_ n3_;clear hb hbox hg))
 (try simp only [Act.put,List.setIfInBounds_toArray,List.set_cons_zero,List.set_cons_succ])
 go_cut [0,5] (fun v0 v5 wc => ∃ (kq:Nat) (x0_1:ByteArray) (x5_1:Int),v0=.string x0_1∧v5=.int .i64 x5_1∧Aside0 (understudyref08_field.j1 kq x0_1 x5_1=some (r1,r2,r3,r4,r5,r6,r7))∧Aside0 (kq≤k)∧Aside0 (wc.heap[gb177]?=some (.cells #[.int .i64 0,.string (⟨#[]⟩:ByteArray),.int .i64 0,.int .i64 0,.int .i64 0] 41 (0,0)))∧Aside0 (Below w.heap.size w wc))
 case first =>
  have H:=HC2.out
  clear HC2
  have H':=Aside0.mk H
  clear H
  go_wp2
  go_loopg [0,5] k (fun kq v0 v5 w' => ∃ (x0_1:ByteArray) (x5_1:Int),v0=.string x0_1∧v5=.int .i64 x5_1∧Aside0 (understudyref08_field.l0 kq x0_1 x5_1=some (r1,r2,r3,r4,r5,r6,r7))∧Aside0 (kq≤k)∧Aside0 (w'.heap[gb177]?=some (.cells #[.int .i64 0,.string (⟨#[]⟩:ByteArray),.int .i64 0,.int .i64 0,.int .i64 0] 41 (0,0)))∧Aside0 (Below w.heap.size w w'))
  case atStart => exact ⟨(a0),(0),r3_,r3_,H',⟨Nat.le_refl _⟩,⟨bk_⟩,⟨bl_⟩⟩
  case round =>
   clear H'
   obtain ⟨x0_1,x5_1,rfl,rfl,HA,HK1,BK177,HB⟩:=hrel
   cases gk with
   | zero => exact absurd HA.out (by simp [understudyref08_field.l0])
   | succ k1 =>
    have H:=HA.out
    clear HA
    simp only [understudyref08_field.l0] at H
    by_cases c4:(x0_1.size:Int) > 0
    ·rw [if_pos c4] at H
     have c4b0:decide (0 < (x0_1.size:Int))=true:=decide_eq_true c4
     have c4b1:decide (0 < x0_1.size)=true:=decide_eq_true (by omega)
     clear c4
     (first|rw [c4b0]|(simp only [i64_w,i32_w];rw [c4b0])|skip)
     by_cases c5:0 < (x0_1.size:Int)
     ·rw [if_pos c5] at H
      have c5b0:decide (0 < (x0_1.size:Int))=true:=decide_eq_true c5
      have c5b1:decide (0 < x0_1.size)=true:=decide_eq_true (by omega)
      clear c5
      by_cases c7:(bt x0_1 0)=91
      ·rw [if_pos c7] at H
       have c7b0:((bt x0_1 0)==91)=true:=beq_iff_eq.mpr c7
       have c7b1:((bt x0_1 0) != 91)=false:=bne_eq_false_iff_eq.mpr c7
       clear c7
       by_cases c8:1≤(x0_1.size:Int)
       ·rw [if_pos c8] at H
        have c8b0:=eq_true c8
        have c8b1:decide (1≤(x0_1.size:Int))=true:=decide_eq_true c8
        clear c8
        have H':=Aside0.mk H
        clear H
        have p6:0≤(0:Int):=(by omega)
        have q6:0 < x0_1.size:=(by have:(0:Int) < (x0_1.size:Int):=od_;omega)
        have hx6:∀ h:0 < x0_1.size,((x0_1[0]'h).toNat:Int)=bt x0_1 0:=bt_at x0_1 0
        clear p6
        have qi6:(0 < (x0_1.size:Int))=True:=eq_true (od_)
        replace q6:=eq_true q6
        go_wp2
        go_roundg k1
        case measure => have:=HK1.out;omega
        case rel => exact ⟨(x0_1.extract 1 x0_1.size),(wrap64 (x5_1 + 1)),r3_,r3_,H',⟨by have:=HK1.out;omega⟩,⟨bk_⟩,⟨bl_⟩⟩
       ·rw [if_neg c8] at H
        exact absurd H (by simp)
      ·rw [if_neg c7] at H
       have c7b0:((bt x0_1 0)==91)=false:=beq_eq_false_iff_ne.mpr c7
       have c7b1:((bt x0_1 0) != 91)=true:=bne_iff_ne.mpr c7
       have H':=Aside0.mk H
       clear H
       have p6:0≤(0:Int):=(by omega)
       have q6:0 < x0_1.size:=(by have:(0:Int) < (x0_1.size:Int):=od_;omega)
       have hx6:∀ h:0 < x0_1.size,((x0_1[0]'h).toNat:Int)=bt x0_1 0:=bt_at x0_1 0
       clear p6
       have qi6:(0 < (x0_1.size:Int))=True:=eq_true (od_)
       replace q6:=eq_true q6
       go_wp2
       go_meet
       case rel => exact ⟨_,(x0_1),(x5_1),r3_,r3_,H',⟨by have:=HK1.out;first|omega|exact Nat.le_refl _⟩,⟨bk_⟩,⟨bl_⟩⟩
     ·rw [if_neg c5] at H
      exact absurd H (by simp)
    ·rw [if_neg c4] at H
     have c4b0:decide (0 < (x0_1.size:Int))=false:=decide_eq_false c4
     have c4b1:decide (0 < x0_1.size)=false:=decide_eq_false (by omega)
     clear c4
     (first|rw [c4b0]|(simp only [i64_w,i32_w];rw [c4b0])|skip)
     have H':=Aside0.mk H
     clear H
     go_wp2
     go_meet
     case rel => exact ⟨_,(x0_1),(x5_1),r3_,r3_,H',⟨by have:=HK1.out;first|omega|exact Nat.le_refl _⟩,⟨bk_⟩,⟨bl_⟩⟩
 case rest =>
  clear HC2
  obtain ⟨kq,x0_1,x5_1,rfl,rfl,HA,HJ1,BK177,HB⟩:=hcut
  cases kq with
  | zero => exact absurd HA.out (by simp [understudyref08_field.j1])
  | succ kj1 =>
   have H:=HA.out
   clear HA
   simp only [understudyref08_field.j1] at H
   have HC9:=Aside0.mk H
   clear H
   go_upto_region 5 with (fail)
   go_cut [25] (fun v25 wc => ∃ (kq:Nat) (x25_8:Bool),v25=.bool x25_8∧Aside0 (understudyref08_field.j2 kq x0_1 x5_1 x25_8=some (r1,r2,r3,r4,r5,r6,r7))∧Aside0 (kq≤kj1)∧Aside0 (wc.heap[gb177]?=some (.cells #[.int .i64 0,.string (⟨#[]⟩:ByteArray),.int .i64 0,.int .i64 0,.int .i64 0] 41 (0,0)))∧Aside0 (Below w.heap.size w wc))
   case first =>
    have H:=HC9.out
    clear HC9
    by_cases c10:x0_1.toList=([]:List UInt8)
    ·rw [if_pos c10] at H
     have c10b0:(x0_1.toList==([]:List UInt8))=true:=beq_iff_eq.mpr c10
     have c10b1:(x0_1.toList != ([]:List UInt8))=false:=bne_eq_false_iff_eq.mpr c10
     clear c10
     (first|rw [c10b0]|(simp only [i64_w,i32_w];rw [c10b0])|skip)
     have H':=Aside0.mk H
     clear H
     go_wp2
     go_meet
     case rel => exact ⟨_,(true),r3_,H',⟨by have:=HJ1.out;first|omega|exact Nat.le_refl _⟩,⟨bk_⟩,⟨bl_⟩⟩
    ·rw [if_neg c10] at H
     have c10b0:(x0_1.toList==([]:List UInt8))=false:=beq_eq_false_iff_ne.mpr c10
     have c10b1:(x0_1.toList != ([]:List UInt8))=true:=bne_iff_ne.mpr c10
     (first|rw [c10b0]|(simp only [i64_w,i32_w];rw [c10b0])|skip)
     have H':=Aside0.mk H
     clear H
     go_wp2
     go_meet
     case rel => exact ⟨_,(decide (x5_1 > 4)),r3_,H',⟨by have:=HJ1.out;first|omega|exact Nat.le_refl _⟩,⟨bk_⟩,⟨bl_⟩⟩
   case rest =>
    clear HC9
    obtain ⟨kq,x25_8,rfl,HA,HJ8,BK177,HB⟩:=hcut
    cases kq with
    | zero => exact absurd HA.out (by simp [understudyref08_field.j2])
    | succ kj8 =>
     have H:=HA.out
     clear HA
     simp only [understudyref08_field.j2] at H
     by_cases c11:x25_8=true
     ·subst c11
      rw [if_pos rfl] at H
      simp only [Option.some.injEq,Prod.mk.injEq] at H
      obtain ⟨rfl,rfl,rfl,rfl,rfl,rfl,rfl⟩:=H
      obtain ⟨hcz12_0,hcz12_1,hcz12_2,hcz12_3,hcz12_4,hfz12_0,hfz12_1,hfz12_2,hfz12_3,hfz12_4⟩:=blk5_ BK177.out
      go_wp2_with (first|((with_reducible refine gate_store (t:=41) (p:=2) rfl ?_);refine store_event (t:=41) (p:=2) (v:=?vo_w13) (w1:=(((((wc.setCell ⟨gb177,0,none⟩ (.int .i64 0)).setCell ⟨gb177,1,none⟩ (.string (⟨#[]⟩:ByteArray))).setCell ⟨gb177,2,none⟩ (.int .i64 0)).setCell ⟨gb177,3,none⟩ (.int .i64 0)).setCell ⟨gb177,4,none⟩ (.int .i64 0))) ?hg ?ho ?hn ?hr ?_;(case ho => rfl);(case hg => rfl);(case hn => rfl);(case hr => first|(go_simp;done)|(go_simp;rfl));intro w13 hw;have n0_:Aside0 (w13.heap[gb177]?=some (.cells #[.int .i64 0,.string (⟨#[]⟩:ByteArray),.int .i64 0,.int .i64 0,.int .i64 0] 41 (0,0))):=⟨(by rw [hw];exact (st5_ BK177.out))⟩;have n1_:Aside0 (Below w.heap.size w w13):=⟨(by rw [hw];exact bl_)⟩;clear hw;clear BK177;clear HB;have BK177:=n0_;have HB:=n1_;clear n0_ n1_))
      refine bodyPost_ret (results_ctt rfl _ _ gb177 41 #[.int .i64 0,.string (⟨#[]⟩:ByteArray),.int .i64 0,.int .i64 0,.int .i64 0] (0,0) _ rfl bk_ Try.underlying41 rfl (by kernel_rfl)) rfl ?_
      exact ⟨ew_,bl_⟩
     ·replace c11:=Bool.eq_false_iff.mpr c11
      subst c11
      rw [if_neg (show ¬ (false=true) by decide)] at H
      by_cases c14:0 < (x0_1.size:Int)
      ·rw [if_pos c14] at H
       have c14b0:decide (0 < (x0_1.size:Int))=true:=decide_eq_true c14
       have c14b1:decide (0 < x0_1.size)=true:=decide_eq_true (by omega)
       clear c14
       by_cases c16:(bt x0_1 0)=73
       ·rw [if_pos c16] at H
        have c16b0:((bt x0_1 0)==73)=true:=beq_iff_eq.mpr c16
        have c16b1:((bt x0_1 0) != 73)=false:=bne_eq_false_iff_eq.mpr c16
        clear c16
        by_cases c17:1≤(x0_1.size:Int)
        ·rw [if_pos c17] at H
         have c17b0:=eq_true c17
         have c17b1:decide (1≤(x0_1.size:Int))=true:=decide_eq_true c17
         clear c17
         by_cases c18:x5_1 > 0
         ·rw [if_pos c18] at H
          have c18b0:decide (0 < x5_1)=true:=decide_eq_true c18
          clear c18
          simp only [Option.some.injEq,Prod.mk.injEq] at H
          obtain ⟨rfl,rfl,rfl,rfl,rfl,rfl,rfl⟩:=H
          go_wp2_with (first|((with_reducible refine gate_dst (N:=6) rfl ?_);refine box_event ?hg (N:=6) ?hd (cs:=#[.int .i64 0,.string (⟨#[]⟩:ByteArray),.int .i64 0,.int .i64 0,.int .i64 0]) (t:=41) ?hr ?_;(case hd => rfl);(case hg => rfl);(case hr => first|(go_simp;done)|(go_simp;rfl));intro gb178 hg w19 hbox hb;have n0_:=Aside0.mk (blk_below (g:=gb177) (o:=.cells #[.int .i64 0,.string (⟨#[]⟩:ByteArray),.int .i64 0,.int .i64 0,.int .i64 0] 41 (0,0)) bk_ hb);have n1_:=Aside0.mk (below_step bl_ hb);have n2_:=Aside0.mk (hbox);have n3_:=Aside0.mk ((by rw [hg];exact (below_size bl_):w.heap.size≤gb178));have n4_:=Aside0.mk ((by rw [hg];exact (below_size bl_):w.heap.size≤gb178));have n5_:=Aside0.mk ((by rw [hg];exact Nat.ne_of_lt (blk_lt (g:=gb177) (o:=.cells #[.int .i64 0,.string (⟨#[]⟩:ByteArray),.int .i64 0,.int .i64 0,.int .i64 0] 41 (0,0)) bk_):gb177 ≠ gb178));have n6_:=Aside0.mk ((by rw [hg];exact Nat.ne_of_gt (blk_lt (g:=gb177) (o:=.cells #[.int .i64 0,.string (⟨#[]⟩:ByteArray),.int .i64 0,.int .i64 0,.int .i64 0] 41 (0,0)) bk_):gb178 ≠ gb177));clear BK177;clear HB;have BK177:=n0_;have HB:=n1_;have BK178:=n2_;have GW178:=n3_;have GE178:=n4_;have NB177_178:=n5_;have NB178_177:=n6_;clear n0_ n1_ n2_ n3_ n4_ n5_ n6_;clear hb hbox hg;have hnb20:=NB178_177.out;have hnc20:=NB177_178.out;obtain ⟨hcz21_0,hcz21_1,hcz21_2,hcz21_3,hcz21_4,hfz21_0,hfz21_1,hfz21_2,hfz21_3,hfz21_4⟩:=blk5_ BK178.out)|((with_reducible refine gate_store (t:=41) (p:=6) rfl ?_);refine store_event (t:=41) (p:=6) (v:=?vo_w22) (w1:=(((((w19.setCell ⟨gb178,0,none⟩ (.int .i64 0)).setCell ⟨gb178,1,none⟩ (.string (⟨#[]⟩:ByteArray))).setCell ⟨gb178,2,none⟩ (.int .i64 0)).setCell ⟨gb178,3,none⟩ (.int .i64 0)).setCell ⟨gb178,4,none⟩ (.int .i64 0))) ?hg ?ho ?hn ?hr ?_;(case ho => rfl);(case hg => rfl);(case hn => rfl);(case hr => first|(go_simp;done)|(go_simp;rfl));intro w22 hw;have n0_:Aside0 (w22.heap[gb177]?=some (.cells #[.int .i64 0,.string (⟨#[]⟩:ByteArray),.int .i64 0,.int .i64 0,.int .i64 0] 41 (0,0))):=⟨(by rw [hw];exact bk_)⟩;have n1_:Aside0 (w22.heap[gb178]?=some (.cells #[.int .i64 0,.string (⟨#[]⟩:ByteArray),.int .i64 0,.int .i64 0,.int .i64 0] 41 (0,0))):=⟨(by rw [hw];exact (st5_ BK178.out))⟩;have n2_:Aside0 (Below w.heap.size w w22):=⟨(by rw [hw];exact bl_)⟩;clear hw;clear BK177;clear BK178;clear HB;have BK177:=n0_;have BK178:=n1_;have HB:=n2_;clear n0_ n1_ n2_;have p15:0≤(0:Int):=(by omega);have q15:0 < x0_1.size:=(by have:(0:Int) < (x0_1.size:Int):=od_;omega);have hx15:∀ h:0 < x0_1.size,((x0_1[0]'h).toNat:Int)=bt x0_1 0:=bt_at x0_1 0;clear p15;have qi15:(0 < (x0_1.size:Int))=True:=eq_true (od_);replace q15:=eq_true q15;obtain ⟨hcz23_0,hcz23_1,hcz23_2,hcz23_3,hcz23_4,hfz23_0,hfz23_1,hfz23_2,hfz23_3,hfz23_4⟩:=blk5_ BK178.out)|((with_reducible refine gate_store (t:=41) (p:=6) rfl ?_);refine store_event (t:=41) (p:=6) (v:=?vo_w24) (w1:=((((((w22.setCell ⟨gb178,0,none⟩ (.int .i64 1)).setCell ⟨gb178,0,none⟩ (.int .i64 5)).setCell ⟨gb178,1,none⟩ (.string (⟨#[]⟩:ByteArray))).setCell ⟨gb178,2,none⟩ (.int .i64 x5_1)).setCell ⟨gb178,3,none⟩ (.int .i64 1)).setCell ⟨gb178,4,none⟩ (.int .i64 0))) ?hg ?ho ?hn ?hr ?_;(case ho => rfl);(case hg => rfl);(case hn => rfl);(case hr => first|(go_simp;done)|(go_simp;rfl));intro w24 hw;have n0_:Aside0 (w24.heap[gb177]?=some (.cells #[.int .i64 0,.string (⟨#[]⟩:ByteArray),.int .i64 0,.int .i64 0,.int .i64 0] 41 (0,0))):=⟨(by rw [hw];exact bk_)⟩;have n1_:Aside0 (w24.heap[gb178]?=some (.cells #[.int .i64 5,.string (⟨#[]⟩:ByteArray),.int .i64 x5_1,.int .i64 1,.int .i64 0] 41 (0,0))):=⟨(by rw [hw];exact (by (with_reducible repeat (first|refine blk_drewN ?_ _|refine blk_drew ?_|refine blk_alloc ?_ _));refine blk_put (cs:=#[.int .i64 5,.string (⟨#[]⟩:ByteArray),.int .i64 x5_1,.int .i64 1,.int .i64 0]) ?_ 4 _ rfl;(with_reducible repeat (first|refine blk_drewN ?_ _|refine blk_drew ?_|refine blk_alloc ?_ _));refine blk_put (cs:=#[.int .i64 5,.string (⟨#[]⟩:ByteArray),.int .i64 x5_1,.int .i64 0,.int .i64 0]) ?_ 3 _ rfl;(with_reducible repeat (first|refine blk_drewN ?_ _|refine blk_drew ?_|refine blk_alloc ?_ _));refine blk_put (cs:=#[.int .i64 5,.string (⟨#[]⟩:ByteArray),.int .i64 0,.int .i64 0,.int .i64 0]) ?_ 2 _ rfl;(with_reducible repeat (first|refine blk_drewN ?_ _|refine blk_drew ?_|refine blk_alloc ?_ _));refine blk_put (cs:=#[.int .i64 5,.string (⟨#[]⟩:ByteArray),.int .i64 0,.int .i64 0,.int .i64 0]) ?_ 1 _ rfl;(with_reducible repeat (first|refine blk_drewN ?_ _|refine blk_drew ?_|refine blk_alloc ?_ _));refine blk_put (cs:=#[.int .i64 1,.string (⟨#[]⟩:ByteArray),.int .i64 0,.int .i64 0,.int .i64 0]) ?_ 0 _ rfl;(with_reducible repeat (first|refine blk_drewN ?_ _|refine blk_drew ?_|refine blk_alloc ?_ _));refine blk_put (cs:=#[.int .i64 0,.string (⟨#[]⟩:ByteArray),.int .i64 0,.int .i64 0,.int .i64 0]) ?_ 0 _ rfl;(with_reducible repeat (first|refine blk_drewN ?_ _|refine blk_drew ?_|refine blk_alloc ?_ _));exact BK178.out))⟩;have n2_:Aside0 (Below w.heap.size w w24):=⟨(by rw [hw];exact bl_)⟩;clear hw;clear BK177;clear BK178;clear HB;have BK177:=n0_;have BK178:=n1_;have HB:=n2_;clear n0_ n1_ n2_;obtain ⟨hcz25_0,hcz25_1,hcz25_2,hcz25_3,hcz25_4,hfz25_0,hfz25_1,hfz25_2,hfz25_3,hfz25_4⟩:=blk5_ BK178.out;obtain ⟨hcz26_0,hcz26_1,hcz26_2,hcz26_3,hcz26_4,hfz26_0,hfz26_1,hfz26_2,hfz26_3,hfz26_4⟩:=blk5_ BK177.out)|((with_reducible refine gate_store (t:=41) (p:=2) rfl ?_);refine store_event (t:=41) (p:=2) (v:=?vo_w27) (w1:=(((((w24.setCell ⟨gb177,0,none⟩ (.int .i64 5)).setCell ⟨gb177,1,none⟩ (.string (⟨#[]⟩:ByteArray))).setCell ⟨gb177,2,none⟩ (.int .i64 x5_1)).setCell ⟨gb177,3,none⟩ (.int .i64 1)).setCell ⟨gb177,4,none⟩ (.int .i64 0))) ?hg ?ho ?hn ?hr ?_;(case ho => rfl);(case hg => rfl);(case hn => rfl);(case hr => first|(go_simp;done)|(go_simp;rfl));intro w27 hw;have n0_:Aside0 (w27.heap[gb177]?=some (.cells #[.int .i64 5,.string (⟨#[]⟩:ByteArray),.int .i64 x5_1,.int .i64 1,.int .i64 0] 41 (0,0))):=⟨(by rw [hw];exact (st5_ BK177.out))⟩;have n1_:Aside0 (w27.heap[gb178]?=some (.cells #[.int .i64 5,.string (⟨#[]⟩:ByteArray),.int .i64 x5_1,.int .i64 1,.int .i64 0] 41 (0,0))):=⟨(by rw [hw];exact bk_)⟩;have n2_:Aside0 (Below w.heap.size w w27):=⟨(by rw [hw];exact bl_)⟩;clear hw;clear BK177;clear BK178;clear HB;have BK177:=n0_;have BK178:=n1_;have HB:=n2_;clear n0_ n1_ n2_))
          refine bodyPost_ret (results_ctt rfl _ _ gb177 41 #[.int .i64 5,.string (⟨#[]⟩:ByteArray),.int .i64 x5_1,.int .i64 1,.int .i64 0] (0,0) _ rfl bk_ Try.underlying41 rfl (by kernel_rfl)) rfl ?_
          exact ⟨ew_,bl_⟩
         ·rw [if_neg c18] at H
          have c18b0:decide (0 < x5_1)=false:=decide_eq_false c18
          clear c18
          simp only [Option.some.injEq,Prod.mk.injEq] at H
          obtain ⟨rfl,rfl,rfl,rfl,rfl,rfl,rfl⟩:=H
          go_wp2_with (first|((with_reducible refine gate_dst (N:=6) rfl ?_);refine box_event ?hg (N:=6) ?hd (cs:=#[.int .i64 0,.string (⟨#[]⟩:ByteArray),.int .i64 0,.int .i64 0,.int .i64 0]) (t:=41) ?hr ?_;(case hd => rfl);(case hg => rfl);(case hr => first|(go_simp;done)|(go_simp;rfl));intro gb178 hg w28 hbox hb;have n0_:=Aside0.mk (blk_below (g:=gb177) (o:=.cells #[.int .i64 0,.string (⟨#[]⟩:ByteArray),.int .i64 0,.int .i64 0,.int .i64 0] 41 (0,0)) bk_ hb);have n1_:=Aside0.mk (below_step bl_ hb);have n2_:=Aside0.mk (hbox);have n3_:=Aside0.mk ((by rw [hg];exact (below_size bl_):w.heap.size≤gb178));have n4_:=Aside0.mk ((by rw [hg];exact (below_size bl_):w.heap.size≤gb178));have n5_:=Aside0.mk ((by rw [hg];exact Nat.ne_of_lt (blk_lt (g:=gb177) (o:=.cells #[.int .i64 0,.string (⟨#[]⟩:ByteArray),.int .i64 0,.int .i64 0,.int .i64 0] 41 (0,0)) bk_):gb177 ≠ gb178));have n6_:=Aside0.mk ((by rw [hg];exact Nat.ne_of_gt (blk_lt (g:=gb177) (o:=.cells #[.int .i64 0,.string (⟨#[]⟩:ByteArray),.int .i64 0,.int .i64 0,.int .i64 0] 41 (0,0)) bk_):gb178 ≠ gb177));clear BK177;clear HB;have BK177:=n0_;have HB:=n1_;have BK178:=n2_;have GW178:=n3_;have GE178:=n4_;have NB177_178:=n5_;have NB178_177:=n6_;clear n0_ n1_ n2_ n3_ n4_ n5_ n6_;clear hb hbox hg;have hnb29:=NB178_177.out;have hnc29:=NB177_178.out;obtain ⟨hcz30_0,hcz30_1,hcz30_2,hcz30_3,hcz30_4,hfz30_0,hfz30_1,hfz30_2,hfz30_3,hfz30_4⟩:=blk5_ BK178.out)|((with_reducible refine gate_store (t:=41) (p:=6) rfl ?_);refine store_event (t:=41) (p:=6) (v:=?vo_w31) (w1:=(((((w28.setCell ⟨gb178,0,none⟩ (.int .i64 0)).setCell ⟨gb178,1,none⟩ (.string (⟨#[]⟩:ByteArray))).setCell ⟨gb178,2,none⟩ (.int .i64 0)).setCell ⟨gb178,3,none⟩ (.int .i64 0)).setCell ⟨gb178,4,none⟩ (.int .i64 0))) ?hg ?ho ?hn ?hr ?_;(case ho => rfl);(case hg => rfl);(case hn => rfl);(case hr => first|(go_simp;done)|(go_simp;rfl));intro w31 hw;have n0_:Aside0 (w31.heap[gb177]?=some (.cells #[.int .i64 0,.string (⟨#[]⟩:ByteArray),.int .i64 0,.int .i64 0,.int .i64 0] 41 (0,0))):=⟨(by rw [hw];exact bk_)⟩;have n1_:Aside0 (w31.heap[gb178]?=some (.cells #[.int .i64 0,.string (⟨#[]⟩:ByteArray),.int .i64 0,.int .i64 0,.int .i64 0] 41 (0,0))):=⟨(by rw [hw];exact (st5_ BK178.out))⟩;have n2_:Aside0 (Below w.heap.size w w31):=⟨(by rw [hw];exact bl_)⟩;clear hw;clear BK177;clear BK178;clear HB;have BK177:=n0_;have BK178:=n1_;have HB:=n2_;clear n0_ n1_ n2_;have p15:0≤(0:Int):=(by omega);have q15:0 < x0_1.size:=(by have:(0:Int) < (x0_1.size:Int):=od_;omega);have hx15:∀ h:0 < x0_1.size,((x0_1[0]'h).toNat:Int)=bt x0_1 0:=bt_at x0_1 0;clear p15;have qi15:(0 < (x0_1.size:Int))=True:=eq_true (od_);replace q15:=eq_true q15;obtain ⟨hcz32_0,hcz32_1,hcz32_2,hcz32_3,hcz32_4,hfz32_0,hfz32_1,hfz32_2,hfz32_3,hfz32_4⟩:=blk5_ BK178.out;obtain ⟨hcz33_0,hcz33_1,hcz33_2,hcz33_3,hcz33_4,hfz33_0,hfz33_1,hfz33_2,hfz33_3,hfz33_4⟩:=blk5_ BK177.out)|((with_reducible refine gate_store (t:=41) (p:=2) rfl ?_);refine store_event (t:=41) (p:=2) (v:=?vo_w34) (w1:=((((((w31.setCell ⟨gb178,0,none⟩ (.int .i64 1)).setCell ⟨gb177,0,none⟩ (.int .i64 1)).setCell ⟨gb177,1,none⟩ (.string (⟨#[]⟩:ByteArray))).setCell ⟨gb177,2,none⟩ (.int .i64 0)).setCell ⟨gb177,3,none⟩ (.int .i64 0)).setCell ⟨gb177,4,none⟩ (.int .i64 0))) ?hg ?ho ?hn ?hr ?_;(case ho => rfl);(case hg => rfl);(case hn => rfl);(case hr => first|(go_simp;done)|(go_simp;rfl));intro w34 hw;have n0_:Aside0 (w34.heap[gb177]?=some (.cells #[.int .i64 1,.string (⟨#[]⟩:ByteArray),.int .i64 0,.int .i64 0,.int .i64 0] 41 (0,0))):=⟨(by rw [hw];exact (by (with_reducible repeat (first|refine blk_drewN ?_ _|refine blk_drew ?_|refine blk_alloc ?_ _));refine blk_put (cs:=#[.int .i64 1,.string (⟨#[]⟩:ByteArray),.int .i64 0,.int .i64 0,.int .i64 0]) ?_ 4 _ rfl;(with_reducible repeat (first|refine blk_drewN ?_ _|refine blk_drew ?_|refine blk_alloc ?_ _));refine blk_put (cs:=#[.int .i64 1,.string (⟨#[]⟩:ByteArray),.int .i64 0,.int .i64 0,.int .i64 0]) ?_ 3 _ rfl;(with_reducible repeat (first|refine blk_drewN ?_ _|refine blk_drew ?_|refine blk_alloc ?_ _));refine blk_put (cs:=#[.int .i64 1,.string (⟨#[]⟩:ByteArray),.int .i64 0,.int .i64 0,.int .i64 0]) ?_ 2 _ rfl;(with_reducible repeat (first|refine blk_drewN ?_ _|refine blk_drew ?_|refine blk_alloc ?_ _));refine blk_put (cs:=#[.int .i64 1,.string (⟨#[]⟩:ByteArray),.int .i64 0,.int .i64 0,.int .i64 0]) ?_ 1 _ rfl;(with_reducible repeat (first|refine blk_drewN ?_ _|refine blk_drew ?_|refine blk_alloc ?_ _));refine blk_put (cs:=#[.int .i64 0,.string (⟨#[]⟩:ByteArray),.int .i64 0,.int .i64 0,.int .i64 0]) ?_ 0 _ rfl;(with_reducible repeat (first|refine blk_drewN ?_ _|refine blk_drew ?_|refine blk_alloc ?_ _));refine blk_far ?_ NB177_178.out _;(with_reducible repeat (first|refine blk_drewN ?_ _|refine blk_drew ?_|refine blk_alloc ?_ _));exact BK177.out))⟩;have n1_:Aside0 (w34.heap[gb178]?=some (.cells #[.int .i64 1,.string (⟨#[]⟩:ByteArray),.int .i64 0,.int .i64 0,.int .i64 0] 41 (0,0))):=⟨(by rw [hw];exact (by (with_reducible repeat (first|refine blk_drewN ?_ _|refine blk_drew ?_|refine blk_alloc ?_ _));refine blk_far ?_ NB178_177.out _;(with_reducible repeat (first|refine blk_drewN ?_ _|refine blk_drew ?_|refine blk_alloc ?_ _));refine blk_far ?_ NB178_177.out _;(with_reducible repeat (first|refine blk_drewN ?_ _|refine blk_drew ?_|refine blk_alloc ?_ _));refine blk_far ?_ NB178_177.out _;(with_reducible repeat (first|refine blk_drewN ?_ _|refine blk_drew ?_|refine blk_alloc ?_ _));refine blk_far ?_ NB178_177.out _;(with_reducible repeat (first|refine blk_drewN ?_ _|refine blk_drew ?_|refine blk_alloc ?_ _));refine blk_far ?_ NB178_177.out _;(with_reducible repeat (first|refine blk_drewN ?_ _|refine blk_drew ?_|refine blk_alloc ?_ _));refine blk_put (cs:=#[.int .i64 0,.string (⟨#[]⟩:ByteArray),.int .i64 0,.int .i64 0,.int .i64 0]) ?_ 0 _ rfl;(with_reducible repeat (first|refine blk_drewN ?_ _|refine blk_drew ?_|refine blk_alloc ?_ _));exact BK178.out))⟩;have n2_:Aside0 (Below w.heap.size w w34):=⟨(by rw [hw];exact bl_)⟩;clear hw;clear BK177;clear BK178;clear HB;have BK177:=n0_;have BK178:=n1_;have HB:=n2_;clear n0_ n1_ n2_))
          refine bodyPost_ret (results_ctt rfl _ _ gb177 41 #[.int .i64 1,.string (⟨#[]⟩:ByteArray),.int .i64 0,.int .i64 0,.int .i64 0] (0,0) _ rfl bk_ Try.underlying41 rfl (by kernel_rfl)) rfl ?_
          exact ⟨ew_,bl_⟩
        ·rw [if_neg c17] at H
         exact absurd H (by simp)
       ·rw [if_neg c16] at H
        have c16b0:((bt x0_1 0)==73)=false:=beq_eq_false_iff_ne.mpr c16
        have c16b1:((bt x0_1 0) != 73)=true:=bne_iff_ne.mpr c16
        by_cases c35:(bt x0_1 0)=74
        ·rw [if_pos c35] at H
         have c35b0:((bt x0_1 0)==74)=true:=beq_iff_eq.mpr c35
         have c35b1:((bt x0_1 0) != 74)=false:=bne_eq_false_iff_eq.mpr c35
         clear c35
         by_cases c36:1≤(x0_1.size:Int)
         ·rw [if_pos c36] at H
          have c36b0:=eq_true c36
          have c36b1:decide (1≤(x0_1.size:Int))=true:=decide_eq_true c36
          clear c36
          by_cases c37:x5_1 > 0
          ·rw [if_pos c37] at H
           have c37b0:decide (0 < x5_1)=true:=decide_eq_true c37
           clear c37
           simp only [Option.some.injEq,Prod.mk.injEq] at H
           obtain ⟨rfl,rfl,rfl,rfl,rfl,rfl,rfl⟩:=H
           go_wp2_with (first|((with_reducible refine gate_dst (N:=6) rfl ?_);refine box_event ?hg (N:=6) ?hd (cs:=#[.int .i64 0,.string (⟨#[]⟩:ByteArray),.int .i64 0,.int .i64 0,.int .i64 0]) (t:=41) ?hr ?_;(case hd => rfl);(case hg => rfl);(case hr => first|(go_simp;done)|(go_simp;rfl));intro gb178 hg w38 hbox hb;have n0_:=Aside0.mk (blk_below (g:=gb177) (o:=.cells #[.int .i64 0,.string (⟨#[]⟩:ByteArray),.int .i64 0,.int .i64 0,.int .i64 0] 41 (0,0)) bk_ hb);have n1_:=Aside0.mk (below_step bl_ hb);have n2_:=Aside0.mk (hbox);have n3_:=Aside0.mk ((by rw [hg];exact (below_size bl_):w.heap.size≤gb178));have n4_:=Aside0.mk ((by rw [hg];exact (below_size bl_):w.heap.size≤gb178));have n5_:=Aside0.mk ((by rw [hg];exact Nat.ne_of_lt (blk_lt (g:=gb177) (o:=.cells #[.int .i64 0,.string (⟨#[]⟩:ByteArray),.int .i64 0,.int .i64 0,.int .i64 0] 41 (0,0)) bk_):gb177 ≠ gb178));have n6_:=Aside0.mk ((by rw [hg];exact Nat.ne_of_gt (blk_lt (g:=gb177) (o:=.cells #[.int .i64 0,.string (⟨#[]⟩:ByteArray),.int .i64 0,.int .i64 0,.int .i64 0] 41 (0,0)) bk_):gb178 ≠ gb177));clear BK177;clear HB;have BK177:=n0_;have HB:=n1_;have BK178:=n2_;have GW178:=n3_;have GE178:=n4_;have NB177_178:=n5_;have NB178_177:=n6_;clear n0_ n1_ n2_ n3_ n4_ n5_ n6_;clear hb hbox hg;have hnb39:=NB178_177.out;have hnc39:=NB177_178.out;obtain ⟨hcz40_0,hcz40_1,hcz40_2,hcz40_3,hcz40_4,hfz40_0,hfz40_1,hfz40_2,hfz40_3,hfz40_4⟩:=blk5_ BK178.out)|((with_reducible refine gate_store (t:=41) (p:=6) rfl ?_);refine store_event (t:=41) (p:=6) (v:=?vo_w41) (w1:=(((((w38.setCell ⟨gb178,0,none⟩ (.int .i64 0)).setCell ⟨gb178,1,none⟩ (.string (⟨#[]⟩:ByteArray))).setCell ⟨gb178,2,none⟩ (.int .i64 0)).setCell ⟨gb178,3,none⟩ (.int .i64 0)).setCell ⟨gb178,4,none⟩ (.int .i64 0))) ?hg ?ho ?hn ?hr ?_;(case ho => rfl);(case hg => rfl);(case hn => rfl);(case hr => first|(go_simp;done)|(go_simp;rfl));intro w41 hw;have n0_:Aside0 (w41.heap[gb177]?=some (.cells #[.int .i64 0,.string (⟨#[]⟩:ByteArray),.int .i64 0,.int .i64 0,.int .i64 0] 41 (0,0))):=⟨(by rw [hw];exact bk_)⟩;have n1_:Aside0 (w41.heap[gb178]?=some (.cells #[.int .i64 0,.string (⟨#[]⟩:ByteArray),.int .i64 0,.int .i64 0,.int .i64 0] 41 (0,0))):=⟨(by rw [hw];exact (st5_ BK178.out))⟩;have n2_:Aside0 (Below w.heap.size w w41):=⟨(by rw [hw];exact bl_)⟩;clear hw;clear BK177;clear BK178;clear HB;have BK177:=n0_;have BK178:=n1_;have HB:=n2_;clear n0_ n1_ n2_;have p15:0≤(0:Int):=(by omega);have q15:0 < x0_1.size:=(by have:(0:Int) < (x0_1.size:Int):=od_;omega);have hx15:∀ h:0 < x0_1.size,((x0_1[0]'h).toNat:Int)=bt x0_1 0:=bt_at x0_1 0;clear p15;have qi15:(0 < (x0_1.size:Int))=True:=eq_true (od_);replace q15:=eq_true q15;obtain ⟨hcz42_0,hcz42_1,hcz42_2,hcz42_3,hcz42_4,hfz42_0,hfz42_1,hfz42_2,hfz42_3,hfz42_4⟩:=blk5_ BK178.out)|((with_reducible refine gate_store (t:=41) (p:=6) rfl ?_);refine store_event (t:=41) (p:=6) (v:=?vo_w43) (w1:=((((((w41.setCell ⟨gb178,0,none⟩ (.int .i64 2)).setCell ⟨gb178,0,none⟩ (.int .i64 5)).setCell ⟨gb178,1,none⟩ (.string (⟨#[]⟩:ByteArray))).setCell ⟨gb178,2,none⟩ (.int .i64 x5_1)).setCell ⟨gb178,3,none⟩ (.int .i64 2)).setCell ⟨gb178,4,none⟩ (.int .i64 0))) ?hg ?ho ?hn ?hr ?_;(case ho => rfl);(case hg => rfl);(case hn => rfl);(case hr => first|(go_simp;done)|(go_simp;rfl));intro w43 hw;have n0_:Aside0 (w43.heap[gb177]?=some (.cells #[.int .i64 0,.string (⟨#[]⟩:ByteArray),.int .i64 0,.int .i64 0,.int .i64 0] 41 (0,0))):=⟨(by rw [hw];exact bk_)⟩;have n1_:Aside0 (w43.heap[gb178]?=some (.cells #[.int .i64 5,.string (⟨#[]⟩:ByteArray),.int .i64 x5_1,.int .i64 2,.int .i64 0] 41 (0,0))):=⟨(by rw [hw];exact (by (with_reducible repeat (first|refine blk_drewN ?_ _|refine blk_drew ?_|refine blk_alloc ?_ _));refine blk_put (cs:=#[.int .i64 5,.string (⟨#[]⟩:ByteArray),.int .i64 x5_1,.int .i64 2,.int .i64 0]) ?_ 4 _ rfl;(with_reducible repeat (first|refine blk_drewN ?_ _|refine blk_drew ?_|refine blk_alloc ?_ _));refine blk_put (cs:=#[.int .i64 5,.string (⟨#[]⟩:ByteArray),.int .i64 x5_1,.int .i64 0,.int .i64 0]) ?_ 3 _ rfl;(with_reducible repeat (first|refine blk_drewN ?_ _|refine blk_drew ?_|refine blk_alloc ?_ _));refine blk_put (cs:=#[.int .i64 5,.string (⟨#[]⟩:ByteArray),.int .i64 0,.int .i64 0,.int .i64 0]) ?_ 2 _ rfl;(with_reducible repeat (first|refine blk_drewN ?_ _|refine blk_drew ?_|refine blk_alloc ?_ _));refine blk_put (cs:=#[.int .i64 5,.string (⟨#[]⟩:ByteArray),.int .i64 0,.int .i64 0,.int .i64 0]) ?_ 1 _ rfl;(with_reducible repeat (first|refine blk_drewN ?_ _|refine blk_drew ?_|refine blk_alloc ?_ _));refine blk_put (cs:=#[.int .i64 2,.string (⟨#[]⟩:ByteArray),.int .i64 0,.int .i64 0,.int .i64 0]) ?_ 0 _ rfl;(with_reducible repeat (first|refine blk_drewN ?_ _|refine blk_drew ?_|refine blk_alloc ?_ _));refine blk_put (cs:=#[.int .i64 0,.string (⟨#[]⟩:ByteArray),.int .i64 0,.int .i64 0,.int .i64 0]) ?_ 0 _ rfl;(with_reducible repeat (first|refine blk_drewN ?_ _|refine blk_drew ?_|refine blk_alloc ?_ _));exact BK178.out))⟩;have n2_:Aside0 (Below w.heap.size w w43):=⟨(by rw [hw];exact bl_)⟩;clear hw;clear BK177;clear BK178;clear HB;have BK177:=n0_;have BK178:=n1_;have HB:=n2_;clear n0_ n1_ n2_;obtain ⟨hcz44_0,hcz44_1,hcz44_2,hcz44_3,hcz44_4,hfz44_0,hfz44_1,hfz44_2,hfz44_3,hfz44_4⟩:=blk5_ BK178.out;obtain ⟨hcz45_0,hcz45_1,hcz45_2,hcz45_3,hcz45_4,hfz45_0,hfz45_1,hfz45_2,hfz45_3,hfz45_4⟩:=blk5_ BK177.out)|((with_reducible refine gate_store (t:=41) (p:=2) rfl ?_);refine store_event (t:=41) (p:=2) (v:=?vo_w46) (w1:=(((((w43.setCell ⟨gb177,0,none⟩ (.int .i64 5)).setCell ⟨gb177,1,none⟩ (.string (⟨#[]⟩:ByteArray))).setCell ⟨gb177,2,none⟩ (.int .i64 x5_1)).setCell ⟨gb177,3,none⟩ (.int .i64 2)).setCell ⟨gb177,4,none⟩ (.int .i64 0))) ?hg ?ho ?hn ?hr ?_;(case ho => rfl);(case hg => rfl);(case hn => rfl);(case hr => first|(go_simp;done)|(go_simp;rfl));intro w46 hw;have n0_:Aside0 (w46.heap[gb177]?=some (.cells #[.int .i64 5,.string (⟨#[]⟩:ByteArray),.int .i64 x5_1,.int .i64 2,.int .i64 0] 41 (0,0))):=⟨(by rw [hw];exact (st5_ BK177.out))⟩;have n1_:Aside0 (w46.heap[gb178]?=some (.cells #[.int .i64 5,.string (⟨#[]⟩:ByteArray),.int .i64 x5_1,.int .i64 2,.int .i64 0] 41 (0,0))):=⟨(by rw [hw];exact bk_)⟩;have n2_:Aside0 (Below w.heap.size w w46):=⟨(by rw [hw];exact bl_)⟩;clear hw;clear BK177;clear BK178;clear HB;have BK177:=n0_;have BK178:=n1_;have HB:=n2_;clear n0_ n1_ n2_))
           refine bodyPost_ret (results_ctt rfl _ _ gb177 41 #[.int .i64 5,.string (⟨#[]⟩:ByteArray),.int .i64 x5_1,.int .i64 2,.int .i64 0] (0,0) _ rfl bk_ Try.underlying41 rfl (by kernel_rfl)) rfl ?_
           exact ⟨ew_,bl_⟩
          ·rw [if_neg c37] at H
           have c37b0:decide (0 < x5_1)=false:=decide_eq_false c37
           clear c37
           simp only [Option.some.injEq,Prod.mk.injEq] at H
           obtain ⟨rfl,rfl,rfl,rfl,rfl,rfl,rfl⟩:=H
           go_wp2_with (first|((with_reducible refine gate_dst (N:=6) rfl ?_);refine box_event ?hg (N:=6) ?hd (cs:=#[.int .i64 0,.string (⟨#[]⟩:ByteArray),.int .i64 0,.int .i64 0,.int .i64 0]) (t:=41) ?hr ?_;(case hd => rfl);(case hg => rfl);(case hr => first|(go_simp;done)|(go_simp;rfl));intro gb178 hg w47 hbox hb;have n0_:=Aside0.mk (blk_below (g:=gb177) (o:=.cells #[.int .i64 0,.string (⟨#[]⟩:ByteArray),.int .i64 0,.int .i64 0,.int .i64 0] 41 (0,0)) bk_ hb);have n1_:=Aside0.mk (below_step bl_ hb);have n2_:=Aside0.mk (hbox);have n3_:=Aside0.mk ((by rw [hg];exact (below_size bl_):w.heap.size≤gb178));have n4_:=Aside0.mk ((by rw [hg];exact (below_size bl_):w.heap.size≤gb178));have n5_:=Aside0.mk ((by rw [hg];exact Nat.ne_of_lt (blk_lt (g:=gb177) (o:=.cells #[.int .i64 0,.string (⟨#[]⟩:ByteArray),.int .i64 0,.int .i64 0,.int .i64 0] 41 (0,0)) bk_):gb177 ≠ gb178));have n6_:=Aside0.mk ((by rw [hg];exact Nat.ne_of_gt (blk_lt (g:=gb177) (o:=.cells #[.int .i64 0,.string (⟨#[]⟩:ByteArray),.int .i64 0,.int .i64 0,.int .i64 0] 41 (0,0)) bk_):gb178 ≠ gb177));clear BK177;clear HB;have BK177:=n0_;have HB:=n1_;have BK178:=n2_;have GW178:=n3_;have GE178:=n4_;have NB177_178:=n5_;have NB178_177:=n6_;clear n0_ n1_ n2_ n3_ n4_ n5_ n6_;clear hb hbox hg;have hnb48:=NB178_177.out;have hnc48:=NB177_178.out;obtain ⟨hcz49_0,hcz49_1,hcz49_2,hcz49_3,hcz49_4,hfz49_0,hfz49_1,hfz49_2,hfz49_3,hfz49_4⟩:=blk5_ BK178.out)|((with_reducible refine gate_store (t:=41) (p:=6) rfl ?_);refine store_event (t:=41) (p:=6) (v:=?vo_w50) (w1:=(((((w47.setCell ⟨gb178,0,none⟩ (.int .i64 0)).setCell ⟨gb178,1,none⟩ (.string (⟨#[]⟩:ByteArray))).setCell ⟨gb178,2,none⟩ (.int .i64 0)).setCell ⟨gb178,3,none⟩ (.int .i64 0)).setCell ⟨gb178,4,none⟩ (.int .i64 0))) ?hg ?ho ?hn ?hr ?_;(case ho => rfl);(case hg => rfl);(case hn => rfl);(case hr => first|(go_simp;done)|(go_simp;rfl));intro w50 hw;have n0_:Aside0 (w50.heap[gb177]?=some (.cells #[.int .i64 0,.string (⟨#[]⟩:ByteArray),.int .i64 0,.int .i64 0,.int .i64 0] 41 (0,0))):=⟨(by rw [hw];exact bk_)⟩;have n1_:Aside0 (w50.heap[gb178]?=some (.cells #[.int .i64 0,.string (⟨#[]⟩:ByteArray),.int .i64 0,.int .i64 0,.int .i64 0] 41 (0,0))):=⟨(by rw [hw];exact (st5_ BK178.out))⟩;have n2_:Aside0 (Below w.heap.size w w50):=⟨(by rw [hw];exact bl_)⟩;clear hw;clear BK177;clear BK178;clear HB;have BK177:=n0_;have BK178:=n1_;have HB:=n2_;clear n0_ n1_ n2_;have p15:0≤(0:Int):=(by omega);have q15:0 < x0_1.size:=(by have:(0:Int) < (x0_1.size:Int):=od_;omega);have hx15:∀ h:0 < x0_1.size,((x0_1[0]'h).toNat:Int)=bt x0_1 0:=bt_at x0_1 0;clear p15;have qi15:(0 < (x0_1.size:Int))=True:=eq_true (od_);replace q15:=eq_true q15;obtain ⟨hcz51_0,hcz51_1,hcz51_2,hcz51_3,hcz51_4,hfz51_0,hfz51_1,hfz51_2,hfz51_3,hfz51_4⟩:=blk5_ BK178.out;obtain ⟨hcz52_0,hcz52_1,hcz52_2,hcz52_3,hcz52_4,hfz52_0,hfz52_1,hfz52_2,hfz52_3,hfz52_4⟩:=blk5_ BK177.out)|((with_reducible refine gate_store (t:=41) (p:=2) rfl ?_);refine store_event (t:=41) (p:=2) (v:=?vo_w53) (w1:=((((((w50.setCell ⟨gb178,0,none⟩ (.int .i64 2)).setCell ⟨gb177,0,none⟩ (.int .i64 2)).setCell ⟨gb177,1,none⟩ (.string (⟨#[]⟩:ByteArray))).setCell ⟨gb177,2,none⟩ (.int .i64 0)).setCell ⟨gb177,3,none⟩ (.int .i64 0)).setCell ⟨gb177,4,none⟩ (.int .i64 0))) ?hg ?ho ?hn ?hr ?_;(case ho => rfl);(case hg => rfl);(case hn => rfl);(case hr => first|(go_simp;done)|(go_simp;rfl));intro w53 hw;have n0_:Aside0 (w53.heap[gb177]?=some (.cells #[.int .i64 2,.string (⟨#[]⟩:ByteArray),.int .i64 0,.int .i64 0,.int .i64 0] 41 (0,0))):=⟨(by rw [hw];exact (by (with_reducible repeat (first|refine blk_drewN ?_ _|refine blk_drew ?_|refine blk_alloc ?_ _));refine blk_put (cs:=#[.int .i64 2,.string (⟨#[]⟩:ByteArray),.int .i64 0,.int .i64 0,.int .i64 0]) ?_ 4 _ rfl;(with_reducible repeat (first|refine blk_drewN ?_ _|refine blk_drew ?_|refine blk_alloc ?_ _));refine blk_put (cs:=#[.int .i64 2,.string (⟨#[]⟩:ByteArray),.int .i64 0,.int .i64 0,.int .i64 0]) ?_ 3 _ rfl;(with_reducible repeat (first|refine blk_drewN ?_ _|refine blk_drew ?_|refine blk_alloc ?_ _));refine blk_put (cs:=#[.int .i64 2,.string (⟨#[]⟩:ByteArray),.int .i64 0,.int .i64 0,.int .i64 0]) ?_ 2 _ rfl;(with_reducible repeat (first|refine blk_drewN ?_ _|refine blk_drew ?_|refine blk_alloc ?_ _));refine blk_put (cs:=#[.int .i64 2,.string (⟨#[]⟩:ByteArray),.int .i64 0,.int .i64 0,.int .i64 0]) ?_ 1 _ rfl;(with_reducible repeat (first|refine blk_drewN ?_ _|refine blk_drew ?_|refine blk_alloc ?_ _));refine blk_put (cs:=#[.int .i64 0,.string (⟨#[]⟩:ByteArray),.int .i64 0,.int .i64 0,.int .i64 0]) ?_ 0 _ rfl;(with_reducible repeat (first|refine blk_drewN ?_ _|refine blk_drew ?_|refine blk_alloc ?_ _));refine blk_far ?_ NB177_178.out _;(with_reducible repeat (first|refine blk_drewN ?_ _|refine blk_drew ?_|refine blk_alloc ?_ _));exact BK177.out))⟩;have n1_:Aside0 (w53.heap[gb178]?=some (.cells #[.int .i64 2,.string (⟨#[]⟩:ByteArray),.int .i64 0,.int .i64 0,.int .i64 0] 41 (0,0))):=⟨(by rw [hw];exact (by (with_reducible repeat (first|refine blk_drewN ?_ _|refine blk_drew ?_|refine blk_alloc ?_ _));refine blk_far ?_ NB178_177.out _;(with_reducible repeat (first|refine blk_drewN ?_ _|refine blk_drew ?_|refine blk_alloc ?_ _));refine blk_far ?_ NB178_177.out _;(with_reducible repeat (first|refine blk_drewN ?_ _|refine blk_drew ?_|refine blk_alloc ?_ _));refine blk_far ?_ NB178_177.out _;(with_reducible repeat (first|refine blk_drewN ?_ _|refine blk_drew ?_|refine blk_alloc ?_ _));refine blk_far ?_ NB178_177.out _;(with_reducible repeat (first|refine blk_drewN ?_ _|refine blk_drew ?_|refine blk_alloc ?_ _));refine blk_far ?_ NB178_177.out _;(with_reducible repeat (first|refine blk_drewN ?_ _|refine blk_drew ?_|refine blk_alloc ?_ _));refine blk_put (cs:=#[.int .i64 0,.string (⟨#[]⟩:ByteArray),.int .i64 0,.int .i64 0,.int .i64 0]) ?_ 0 _ rfl;(with_reducible repeat (first|refine blk_drewN ?_ _|refine blk_drew ?_|refine blk_alloc ?_ _));exact BK178.out))⟩;have n2_:Aside0 (Below w.heap.size w w53):=⟨(by rw [hw];exact bl_)⟩;clear hw;clear BK177;clear BK178;clear HB;have BK177:=n0_;have BK178:=n1_;have HB:=n2_;clear n0_ n1_ n2_))
           refine bodyPost_ret (results_ctt rfl _ _ gb177 41 #[.int .i64 2,.string (⟨#[]⟩:ByteArray),.int .i64 0,.int .i64 0,.int .i64 0] (0,0) _ rfl bk_ Try.underlying41 rfl (by kernel_rfl)) rfl ?_
           exact ⟨ew_,bl_⟩
         ·rw [if_neg c36] at H
          exact absurd H (by simp)
        ·rw [if_neg c35] at H
         have c35b0:((bt x0_1 0)==74)=false:=beq_eq_false_iff_ne.mpr c35
         have c35b1:((bt x0_1 0) != 74)=true:=bne_iff_ne.mpr c35
         by_cases c54:(bt x0_1 0)=76
         ·rw [if_pos c54] at H
          have c54b0:((bt x0_1 0)==76)=true:=beq_iff_eq.mpr c54
          have c54b1:((bt x0_1 0) != 76)=false:=bne_eq_false_iff_eq.mpr c54
          clear c54
          have HC55:=Aside0.mk H
          clear H
          go_upto_block 3 with (first|((with_reducible refine gate_dst (N:=6) rfl ?_);refine box_event ?hg (N:=6) ?hd (cs:=#[.int .i64 0,.string (⟨#[]⟩:ByteArray),.int .i64 0,.int .i64 0,.int .i64 0]) (t:=41) ?hr ?_;(case hd => rfl);(case hg => rfl);(case hr => first|(go_simp;done)|(go_simp;rfl));intro gb178 hg w56 hbox hb;have n0_:=Aside0.mk (blk_below (g:=gb177) (o:=.cells #[.int .i64 0,.string (⟨#[]⟩:ByteArray),.int .i64 0,.int .i64 0,.int .i64 0] 41 (0,0)) bk_ hb);have n1_:=Aside0.mk (below_step bl_ hb);have n2_:=Aside0.mk (hbox);have n3_:=Aside0.mk ((by rw [hg];exact (below_size bl_):w.heap.size≤gb178));have n4_:=Aside0.mk ((by rw [hg];exact (below_size bl_):w.heap.size≤gb178));have n5_:=Aside0.mk ((by rw [hg];exact Nat.ne_of_lt (blk_lt (g:=gb177) (o:=.cells #[.int .i64 0,.string (⟨#[]⟩:ByteArray),.int .i64 0,.int .i64 0,.int .i64 0] 41 (0,0)) bk_):gb177 ≠ gb178));have n6_:=Aside0.mk ((by rw [hg];exact Nat.ne_of_gt (blk_lt (g:=gb177) (o:=.cells #[.int .i64 0,.string (⟨#[]⟩:ByteArray),.int .i64 0,.int .i64 0,.int .i64 0] 41 (0,0)) bk_):gb178 ≠ gb177));clear BK177;clear HB;have BK177:=n0_;have HB:=n1_;have BK178:=n2_;have GW178:=n3_;have GE178:=n4_;have NB177_178:=n5_;have NB178_177:=n6_;clear n0_ n1_ n2_ n3_ n4_ n5_ n6_;clear hb hbox hg;have hnb57:=NB178_177.out;have hnc57:=NB177_178.out;obtain ⟨hcz58_0,hcz58_1,hcz58_2,hcz58_3,hcz58_4,hfz58_0,hfz58_1,hfz58_2,hfz58_3,hfz58_4⟩:=blk5_ BK178.out)|((with_reducible refine gate_store (t:=41) (p:=6) rfl ?_);refine store_event (t:=41) (p:=6) (v:=?vo_w59) (w1:=(((((w56.setCell ⟨gb178,0,none⟩ (.int .i64 0)).setCell ⟨gb178,1,none⟩ (.string (⟨#[]⟩:ByteArray))).setCell ⟨gb178,2,none⟩ (.int .i64 0)).setCell ⟨gb178,3,none⟩ (.int .i64 0)).setCell ⟨gb178,4,none⟩ (.int .i64 0))) ?hg ?ho ?hn ?hr ?_;(case ho => rfl);(case hg => rfl);(case hn => rfl);(case hr => first|(go_simp;done)|(go_simp;rfl));intro w59 hw;have n0_:Aside0 (w59.heap[gb177]?=some (.cells #[.int .i64 0,.string (⟨#[]⟩:ByteArray),.int .i64 0,.int .i64 0,.int .i64 0] 41 (0,0))):=⟨(by rw [hw];exact bk_)⟩;have n1_:Aside0 (w59.heap[gb178]?=some (.cells #[.int .i64 0,.string (⟨#[]⟩:ByteArray),.int .i64 0,.int .i64 0,.int .i64 0] 41 (0,0))):=⟨(by rw [hw];exact (st5_ BK178.out))⟩;have n2_:Aside0 (Below w.heap.size w w59):=⟨(by rw [hw];exact bl_)⟩;clear hw;clear BK177;clear BK178;clear HB;have BK177:=n0_;have BK178:=n1_;have HB:=n2_;clear n0_ n1_ n2_;have p15:0≤(0:Int):=(by omega);have q15:0 < x0_1.size:=(by have:(0:Int) < (x0_1.size:Int):=od_;omega);have hx15:∀ h:0 < x0_1.size,((x0_1[0]'h).toNat:Int)=bt x0_1 0:=bt_at x0_1 0;clear p15;have qi15:(0 < (x0_1.size:Int))=True:=eq_true (od_);replace q15:=eq_true q15))
          (try simp only [Act.put,List.setIfInBounds_toArray,List.set_cons_zero,List.set_cons_succ])
          go_cut [7] (fun v7 wc => ∃ (kq:Nat) (x7_54:Int),v7=.int .i64 x7_54∧Aside0 (understudyref08_field.j4 kq x0_1 x5_1 x7_54 0 (⟨#[]⟩:ByteArray) 0 0 0=some (r1,r2,r3,r4,r5,r6,r7))∧Aside0 (kq≤kj8)∧Aside0 (wc.heap[gb177]?=some (.cells #[.int .i64 0,.string (⟨#[]⟩:ByteArray),.int .i64 0,.int .i64 0,.int .i64 0] 41 (0,0)))∧Aside0 (wc.heap[gb178]?=some (.cells #[.int .i64 0,.string (⟨#[]⟩:ByteArray),.int .i64 0,.int .i64 0,.int .i64 0] 41 (0,0)))∧Aside0 (Below w.heap.size w wc))
          case first =>
           have H:=HC55.out
           clear HC55
           have H':=Aside0.mk H
           clear H
           go_wp2
           go_loopg [7] kj8 (fun kq v7 w' => ∃ (x7_3:Int),v7=.int .i64 x7_3∧Aside0 (understudyref08_field.l1 kq x0_1 x5_1 x7_3 0 (⟨#[]⟩:ByteArray) 0 0 0=some (r1,r2,r3,r4,r5,r6,r7))∧Aside0 (kq≤kj8)∧Aside0 (w'.heap[gb177]?=some (.cells #[.int .i64 0,.string (⟨#[]⟩:ByteArray),.int .i64 0,.int .i64 0,.int .i64 0] 41 (0,0)))∧Aside0 (w'.heap[gb178]?=some (.cells #[.int .i64 0,.string (⟨#[]⟩:ByteArray),.int .i64 0,.int .i64 0,.int .i64 0] 41 (0,0)))∧Aside0 (Below w.heap.size w w'))
           case atStart => exact ⟨(1),r3_,H',⟨Nat.le_refl _⟩,⟨bk_⟩,⟨bk_⟩,⟨bl_⟩⟩
           case round =>
            clear H'
            try clear c11;try clear c14;try clear c14b0;try clear c14b1;try clear p15;try clear q15;try clear hx15;try clear qi15;try clear c16;try clear c16b0;try clear c16b1;try clear c35;try clear c35b0;try clear c35b1;try clear c54;try clear c54b0;try clear c54b1;try clear hcz58_0;try clear hcz58_1;try clear hcz58_2;try clear hcz58_3;try clear hcz58_4;try clear hfz58_0;try clear hfz58_1;try clear hfz58_2;try clear hfz58_3;try clear hfz58_4
            obtain ⟨x7_3,rfl,HA,HK3,BK177,BK178,HB⟩:=hrel
            cases gk with
            | zero => exact absurd HA.out (by simp [understudyref08_field.l1])
            | succ k3 =>
             have H:=HA.out
             clear HA
             simp only [understudyref08_field.l1] at H
             by_cases c60:x7_3 < (x0_1.size:Int)
             ·rw [if_pos c60] at H
              have c60b0:decide (x7_3 < (x0_1.size:Int))=true:=decide_eq_true c60
              clear c60
              (first|rw [c60b0]|(simp only [i64_w,i32_w];rw [c60b0])|skip)
              by_cases c61:0≤x7_3
              ·rw [if_pos c61] at H
               have c61b0:decide (0≤x7_3)=true:=decide_eq_true c61
               clear c61
               by_cases c63:(bt x0_1 x7_3)=59
               ·rw [if_pos c63] at H
                have c63b0:((bt x0_1 x7_3)==59)=true:=beq_iff_eq.mpr c63
                have c63b1:((bt x0_1 x7_3) != 59)=false:=bne_eq_false_iff_eq.mpr c63
                clear c63
                have H':=Aside0.mk H
                clear H
                have p62:0≤(x7_3:Int):=od_
                have q62:x7_3 < (x0_1.size:Int):=od_
                have hx62:=bt_at x0_1 x7_3
                replace p62:=eq_true p62
                replace q62:=eq_true q62
                go_wp2
                go_meet
                case rel => exact ⟨_,(x7_3),r3_,H',⟨by have:=HJ1.out;have:=HJ8.out;have:=HK3.out;first|omega|exact Nat.le_refl _⟩,⟨bk_⟩,⟨bk_⟩,⟨bl_⟩⟩
               ·rw [if_neg c63] at H
                have c63b0:((bt x0_1 x7_3)==59)=false:=beq_eq_false_iff_ne.mpr c63
                have c63b1:((bt x0_1 x7_3) != 59)=true:=bne_iff_ne.mpr c63
                have H':=Aside0.mk H
                clear H
                have p62:0≤(x7_3:Int):=od_
                have q62:x7_3 < (x0_1.size:Int):=od_
                have hx62:=bt_at x0_1 x7_3
                replace p62:=eq_true p62
                replace q62:=eq_true q62
                go_wp2
                go_roundg k3
                case measure => have:=HJ1.out;have:=HJ8.out;have:=HK3.out;omega
                case rel => exact ⟨(wrap64 (x7_3 + 1)),r3_,H',⟨by have:=HJ1.out;have:=HJ8.out;have:=HK3.out;omega⟩,⟨bk_⟩,⟨bk_⟩,⟨bl_⟩⟩
              ·rw [if_neg c61] at H
               exact absurd H (by simp)
             ·rw [if_neg c60] at H
              have c60b0:decide (x7_3 < (x0_1.size:Int))=false:=decide_eq_false c60
              clear c60
              (first|rw [c60b0]|(simp only [i64_w,i32_w];rw [c60b0])|skip)
              have H':=Aside0.mk H
              clear H
              go_wp2
              go_meet
              case rel => exact ⟨_,(x7_3),r3_,H',⟨by have:=HJ1.out;have:=HJ8.out;have:=HK3.out;first|omega|exact Nat.le_refl _⟩,⟨bk_⟩,⟨bk_⟩,⟨bl_⟩⟩
          case rest =>
           clear HC55
           obtain ⟨kq,x7_54,rfl,HA,HJ54,BK177,BK178,HB⟩:=hcut
           cases kq with
           | zero => exact absurd HA.out (by simp [understudyref08_field.j4])
           | succ kj54 =>
            have H:=HA.out
            clear HA
            simp only [understudyref08_field.j4] at H
            have HC64:=Aside0.mk H
            clear H
            go_upto_region 20 with (fail)
            go_cut [65] (fun v65 wc => ∃ (kq:Nat) (x65_63:Bool),v65=.bool x65_63∧Aside0 (understudyref08_field.j5 kq x0_1 x5_1 x7_54 x65_63 0 (⟨#[]⟩:ByteArray) 0 0 0=some (r1,r2,r3,r4,r5,r6,r7))∧Aside0 (kq≤kj54)∧Aside0 (wc.heap[gb177]?=some (.cells #[.int .i64 0,.string (⟨#[]⟩:ByteArray),.int .i64 0,.int .i64 0,.int .i64 0] 41 (0,0)))∧Aside0 (wc.heap[gb178]?=some (.cells #[.int .i64 0,.string (⟨#[]⟩:ByteArray),.int .i64 0,.int .i64 0,.int .i64 0] 41 (0,0)))∧Aside0 (Below w.heap.size w wc))
            case first =>
             have H:=HC64.out
             clear HC64
             by_cases c65:x7_54=(x0_1.size:Int)
             ·rw [if_pos c65] at H
              have c65b0:(x7_54==(x0_1.size:Int))=true:=beq_iff_eq.mpr c65
              have c65b1:(x7_54 != (x0_1.size:Int))=false:=bne_eq_false_iff_eq.mpr c65
              clear c65
              (first|rw [c65b0]|(simp only [i64_w,i32_w];rw [c65b0])|skip)
              have H':=Aside0.mk H
              clear H
              go_wp2
              go_meet
              case rel => exact ⟨_,(true),r3_,H',⟨by have:=HJ1.out;have:=HJ8.out;have:=HJ54.out;first|omega|exact Nat.le_refl _⟩,⟨bk_⟩,⟨bk_⟩,⟨bl_⟩⟩
             ·rw [if_neg c65] at H
              have c65b0:(x7_54==(x0_1.size:Int))=false:=beq_eq_false_iff_ne.mpr c65
              have c65b1:(x7_54 != (x0_1.size:Int))=true:=bne_iff_ne.mpr c65
              (first|rw [c65b0]|(simp only [i64_w,i32_w];rw [c65b0])|skip)
              by_cases c66:1≤x7_54
              ·rw [if_pos c66] at H
               have c66b0:=eq_true c66
               have c66b1:decide (1≤x7_54)=true:=decide_eq_true c66
               clear c66
               by_cases c67:x7_54≤(x0_1.size:Int)
               ·rw [if_pos c67] at H
                have c67b0:=eq_true c67
                have c67b1:decide (x7_54≤(x0_1.size:Int))=true:=decide_eq_true c67
                clear c67
                replace H:=Option.bind_eq_some_iff.mp H
                obtain ⟨t179,A680,H⟩:=H
                try dsimp only at H
                have A68:=Aside0.mk A680
                clear A680
                have H':=Aside0.mk H
                clear H
                go_wp2_with (first|(go_at_call 42;(with_reducible refine (understudyref08_Plain.calls kj54 (x0_1.extract 1 (x7_54:Int).toNat) t179 _ A68.out).mono ?_);rintro e w' ⟨rfl,⟨nd,rfl⟩⟩))
                go_meet
                case rel => exact ⟨_,(!t179),r3_,H',⟨by have:=HJ1.out;have:=HJ8.out;have:=HJ54.out;first|omega|exact Nat.le_refl _⟩,⟨bk_⟩,⟨bk_⟩,⟨bl_⟩⟩
               ·rw [if_neg c67] at H
                exact absurd H (by simp)
              ·rw [if_neg c66] at H
               exact absurd H (by simp)
            case rest =>
             clear HC64
             obtain ⟨kq,x65_63,rfl,HA,HJ63,BK177,BK178,HB⟩:=hcut
             cases kq with
             | zero => exact absurd HA.out (by simp [understudyref08_field.j5])
             | succ kj63 =>
              have H:=HA.out
              clear HA
              simp only [understudyref08_field.j5] at H
              by_cases c69:x65_63=true
              ·subst c69
               rw [if_pos rfl] at H
               simp only [Option.some.injEq,Prod.mk.injEq] at H
               obtain ⟨rfl,rfl,rfl,rfl,rfl,rfl,rfl⟩:=H
               have hnb70:=NB177_178.out
               have hnc70:=NB178_177.out
               obtain ⟨hcz71_0,hcz71_1,hcz71_2,hcz71_3,hcz71_4,hfz71_0,hfz71_1,hfz71_2,hfz71_3,hfz71_4⟩:=blk5_ BK177.out
               go_wp2_with (first|((with_reducible refine gate_store (t:=41) (p:=2) rfl ?_);refine store_event (t:=41) (p:=2) (v:=?vo_w72) (w1:=(((((wc.setCell ⟨gb177,0,none⟩ (.int .i64 0)).setCell ⟨gb177,1,none⟩ (.string (⟨#[]⟩:ByteArray))).setCell ⟨gb177,2,none⟩ (.int .i64 0)).setCell ⟨gb177,3,none⟩ (.int .i64 0)).setCell ⟨gb177,4,none⟩ (.int .i64 0))) ?hg ?ho ?hn ?hr ?_;(case ho => rfl);(case hg => rfl);(case hn => rfl);(case hr => first|(go_simp;done)|(go_simp;rfl));intro w72 hw;have n0_:Aside0 (w72.heap[gb177]?=some (.cells #[.int .i64 0,.string (⟨#[]⟩:ByteArray),.int .i64 0,.int .i64 0,.int .i64 0] 41 (0,0))):=⟨(by rw [hw];exact (st5_ BK177.out))⟩;have n1_:Aside0 (w72.heap[gb178]?=some (.cells #[.int .i64 0,.string (⟨#[]⟩:ByteArray),.int .i64 0,.int .i64 0,.int .i64 0] 41 (0,0))):=⟨(by rw [hw];exact bk_)⟩;have n2_:Aside0 (Below w.heap.size w w72):=⟨(by rw [hw];exact bl_)⟩;clear hw;clear BK177;clear BK178;clear HB;have BK177:=n0_;have BK178:=n1_;have HB:=n2_;clear n0_ n1_ n2_))
               refine bodyPost_ret (results_ctt rfl _ _ gb177 41 #[.int .i64 0,.string (⟨#[]⟩:ByteArray),.int .i64 0,.int .i64 0,.int .i64 0] (0,0) _ rfl bk_ Try.underlying41 rfl (by kernel_rfl)) rfl ?_
               exact ⟨ew_,bl_⟩
              ·replace c69:=Bool.eq_false_iff.mpr c69
               subst c69
               rw [if_neg (show ¬ (false=true) by decide)] at H
               by_cases c73:1≤x7_54
               ·rw [if_pos c73] at H
                have c73b0:=eq_true c73
                have c73b1:decide (1≤x7_54)=true:=decide_eq_true c73
                clear c73
                by_cases c74:x7_54≤(x0_1.size:Int)
                ·rw [if_pos c74] at H
                 have c74b0:=eq_true c74
                 have c74b1:decide (x7_54≤(x0_1.size:Int))=true:=decide_eq_true c74
                 clear c74
                 obtain ⟨ji75,hji75⟩:∃ j_:Int,(wrap64 (x7_54 + 1))=j_:=⟨_,rfl⟩
                 replace H:(if 0≤(ji75) then (if (ji75)≤(x0_1.size:Int) then (if x5_1 > 0 then (some (5,x0_1.extract 1 (x7_54:Int).toNat,x5_1,4,0,x0_1.extract ((ji75):Int).toNat x0_1.size,true)) else (some (4,x0_1.extract 1 (x7_54:Int).toNat,0,0,0,x0_1.extract ((ji75):Int).toNat x0_1.size,true))) else (none)) else (none))=some (r1,r2,r3,r4,r5,r6,r7):=by first|(rw [hji75] at H;exact H)|(simp only [hji75] at H ⊢;exact H)
                 have hji75w:(IntKind.i64.wrap (x7_54 + 1))=ji75:=(i64_w _).trans hji75
                 by_cases c76:0≤(ji75)
                 ·rw [if_pos c76] at H
                  have c76b0:=eq_true c76
                  have c76b1:decide (0≤(ji75))=true:=decide_eq_true c76
                  clear c76
                  by_cases c77:(ji75)≤(x0_1.size:Int)
                  ·rw [if_pos c77] at H
                   have c77b0:=eq_true c77
                   have c77b1:decide ((ji75)≤(x0_1.size:Int))=true:=decide_eq_true c77
                   clear c77
                   by_cases c78:x5_1 > 0
                   ·rw [if_pos c78] at H
                    have c78b0:decide (0 < x5_1)=true:=decide_eq_true c78
                    clear c78
                    simp only [Option.some.injEq,Prod.mk.injEq] at H
                    obtain ⟨rfl,rfl,rfl,rfl,rfl,rfl,rfl⟩:=H
                    have hnb79:=NB178_177.out
                    have hnc79:=NB177_178.out
                    obtain ⟨hcz80_0,hcz80_1,hcz80_2,hcz80_3,hcz80_4,hfz80_0,hfz80_1,hfz80_2,hfz80_3,hfz80_4⟩:=blk5_ BK178.out
                    go_wp2_with (first|((with_reducible refine gate_store (t:=41) (p:=6) rfl ?_);refine store_event (t:=41) (p:=6) (v:=?vo_w81) (w1:=(((((((wc.setCell ⟨gb178,0,none⟩ (.int .i64 4)).setCell ⟨gb178,1,none⟩ (.string (x0_1.extract 1 (x7_54:Int).toNat))).setCell ⟨gb178,0,none⟩ (.int .i64 5)).setCell ⟨gb178,1,none⟩ (.string (x0_1.extract 1 (x7_54:Int).toNat))).setCell ⟨gb178,2,none⟩ (.int .i64 x5_1)).setCell ⟨gb178,3,none⟩ (.int .i64 4)).setCell ⟨gb178,4,none⟩ (.int .i64 0))) ?hg ?ho ?hn ?hr ?_;(case ho => rfl);(case hg => rfl);(case hn => rfl);(case hr => first|(go_simp;done)|(go_simp;rfl));intro w81 hw;have n0_:Aside0 (w81.heap[gb177]?=some (.cells #[.int .i64 0,.string (⟨#[]⟩:ByteArray),.int .i64 0,.int .i64 0,.int .i64 0] 41 (0,0))):=⟨(by rw [hw];exact bk_)⟩;have n1_:Aside0 (w81.heap[gb178]?=some (.cells #[.int .i64 5,.string (x0_1.extract 1 (x7_54:Int).toNat),.int .i64 x5_1,.int .i64 4,.int .i64 0] 41 (0,0))):=⟨(by rw [hw];exact (by (with_reducible repeat (first|refine blk_drewN ?_ _|refine blk_drew ?_|refine blk_alloc ?_ _));refine blk_put (cs:=#[.int .i64 5,.string (x0_1.extract 1 (x7_54:Int).toNat),.int .i64 x5_1,.int .i64 4,.int .i64 0]) ?_ 4 _ rfl;(with_reducible repeat (first|refine blk_drewN ?_ _|refine blk_drew ?_|refine blk_alloc ?_ _));refine blk_put (cs:=#[.int .i64 5,.string (x0_1.extract 1 (x7_54:Int).toNat),.int .i64 x5_1,.int .i64 0,.int .i64 0]) ?_ 3 _ rfl;(with_reducible repeat (first|refine blk_drewN ?_ _|refine blk_drew ?_|refine blk_alloc ?_ _));refine blk_put (cs:=#[.int .i64 5,.string (x0_1.extract 1 (x7_54:Int).toNat),.int .i64 0,.int .i64 0,.int .i64 0]) ?_ 2 _ rfl;(with_reducible repeat (first|refine blk_drewN ?_ _|refine blk_drew ?_|refine blk_alloc ?_ _));refine blk_put (cs:=#[.int .i64 5,.string (x0_1.extract 1 (x7_54:Int).toNat),.int .i64 0,.int .i64 0,.int .i64 0]) ?_ 1 _ rfl;(with_reducible repeat (first|refine blk_drewN ?_ _|refine blk_drew ?_|refine blk_alloc ?_ _));refine blk_put (cs:=#[.int .i64 4,.string (x0_1.extract 1 (x7_54:Int).toNat),.int .i64 0,.int .i64 0,.int .i64 0]) ?_ 0 _ rfl;(with_reducible repeat (first|refine blk_drewN ?_ _|refine blk_drew ?_|refine blk_alloc ?_ _));refine blk_put (cs:=#[.int .i64 4,.string (⟨#[]⟩:ByteArray),.int .i64 0,.int .i64 0,.int .i64 0]) ?_ 1 _ rfl;(with_reducible repeat (first|refine blk_drewN ?_ _|refine blk_drew ?_|refine blk_alloc ?_ _));refine blk_put (cs:=#[.int .i64 0,.string (⟨#[]⟩:ByteArray),.int .i64 0,.int .i64 0,.int .i64 0]) ?_ 0 _ rfl;(with_reducible repeat (first|refine blk_drewN ?_ _|refine blk_drew ?_|refine blk_alloc ?_ _));exact BK178.out))⟩;have n2_:Aside0 (Below w.heap.size w w81):=⟨(by rw [hw];exact bl_)⟩;clear hw;clear BK177;clear BK178;clear HB;have BK177:=n0_;have BK178:=n1_;have HB:=n2_;clear n0_ n1_ n2_;obtain ⟨hcz82_0,hcz82_1,hcz82_2,hcz82_3,hcz82_4,hfz82_0,hfz82_1,hfz82_2,hfz82_3,hfz82_4⟩:=blk5_ BK178.out;obtain ⟨hcz83_0,hcz83_1,hcz83_2,hcz83_3,hcz83_4,hfz83_0,hfz83_1,hfz83_2,hfz83_3,hfz83_4⟩:=blk5_ BK177.out)|((with_reducible refine gate_store (t:=41) (p:=2) rfl ?_);refine store_event (t:=41) (p:=2) (v:=?vo_w84) (w1:=(((((w81.setCell ⟨gb177,0,none⟩ (.int .i64 5)).setCell ⟨gb177,1,none⟩ (.string (x0_1.extract 1 (x7_54:Int).toNat))).setCell ⟨gb177,2,none⟩ (.int .i64 x5_1)).setCell ⟨gb177,3,none⟩ (.int .i64 4)).setCell ⟨gb177,4,none⟩ (.int .i64 0))) ?hg ?ho ?hn ?hr ?_;(case ho => rfl);(case hg => rfl);(case hn => rfl);(case hr => first|(go_simp;done)|(go_simp;rfl));intro w84 hw;have n0_:Aside0 (w84.heap[gb177]?=some (.cells #[.int .i64 5,.string (x0_1.extract 1 (x7_54:Int).toNat),.int .i64 x5_1,.int .i64 4,.int .i64 0] 41 (0,0))):=⟨(by rw [hw];exact (st5_ BK177.out))⟩;have n1_:Aside0 (w84.heap[gb178]?=some (.cells #[.int .i64 5,.string (x0_1.extract 1 (x7_54:Int).toNat),.int .i64 x5_1,.int .i64 4,.int .i64 0] 41 (0,0))):=⟨(by rw [hw];exact bk_)⟩;have n2_:Aside0 (Below w.heap.size w w84):=⟨(by rw [hw];exact bl_)⟩;clear hw;clear BK177;clear BK178;clear HB;have BK177:=n0_;have BK178:=n1_;have HB:=n2_;clear n0_ n1_ n2_))
                    refine bodyPost_ret (results_ctt rfl _ _ gb177 41 #[.int .i64 5,.string (x0_1.extract 1 (x7_54:Int).toNat),.int .i64 x5_1,.int .i64 4,.int .i64 0] (0,0) _ rfl bk_ Try.underlying41 rfl (by kernel_rfl)) rfl ?_
                    exact ⟨by first|rfl|(simp [errW_none,errW_some] <;> rfl)|(simp only [← hji75];first|rfl|(simp [errW_none,errW_some] <;> rfl))|(simp [*,errW_none,errW_some] <;> rfl),bl_⟩
                   ·rw [if_neg c78] at H
                    have c78b0:decide (0 < x5_1)=false:=decide_eq_false c78
                    clear c78
                    simp only [Option.some.injEq,Prod.mk.injEq] at H
                    obtain ⟨rfl,rfl,rfl,rfl,rfl,rfl,rfl⟩:=H
                    have hnb85:=NB178_177.out
                    have hnc85:=NB177_178.out
                    obtain ⟨hcz86_0,hcz86_1,hcz86_2,hcz86_3,hcz86_4,hfz86_0,hfz86_1,hfz86_2,hfz86_3,hfz86_4⟩:=blk5_ BK178.out
                    obtain ⟨hcz87_0,hcz87_1,hcz87_2,hcz87_3,hcz87_4,hfz87_0,hfz87_1,hfz87_2,hfz87_3,hfz87_4⟩:=blk5_ BK177.out
                    go_wp2_with (first|((with_reducible refine gate_store (t:=41) (p:=2) rfl ?_);refine store_event (t:=41) (p:=2) (v:=?vo_w88) (w1:=(((((((wc.setCell ⟨gb178,0,none⟩ (.int .i64 4)).setCell ⟨gb178,1,none⟩ (.string (x0_1.extract 1 (x7_54:Int).toNat))).setCell ⟨gb177,0,none⟩ (.int .i64 4)).setCell ⟨gb177,1,none⟩ (.string (x0_1.extract 1 (x7_54:Int).toNat))).setCell ⟨gb177,2,none⟩ (.int .i64 0)).setCell ⟨gb177,3,none⟩ (.int .i64 0)).setCell ⟨gb177,4,none⟩ (.int .i64 0))) ?hg ?ho ?hn ?hr ?_;(case ho => rfl);(case hg => rfl);(case hn => rfl);(case hr => first|(go_simp;done)|(go_simp;rfl));intro w88 hw;have n0_:Aside0 (w88.heap[gb177]?=some (.cells #[.int .i64 4,.string (x0_1.extract 1 (x7_54:Int).toNat),.int .i64 0,.int .i64 0,.int .i64 0] 41 (0,0))):=⟨(by rw [hw];exact (by (with_reducible repeat (first|refine blk_drewN ?_ _|refine blk_drew ?_|refine blk_alloc ?_ _));refine blk_put (cs:=#[.int .i64 4,.string (x0_1.extract 1 (x7_54:Int).toNat),.int .i64 0,.int .i64 0,.int .i64 0]) ?_ 4 _ rfl;(with_reducible repeat (first|refine blk_drewN ?_ _|refine blk_drew ?_|refine blk_alloc ?_ _));refine blk_put (cs:=#[.int .i64 4,.string (x0_1.extract 1 (x7_54:Int).toNat),.int .i64 0,.int .i64 0,.int .i64 0]) ?_ 3 _ rfl;(with_reducible repeat (first|refine blk_drewN ?_ _|refine blk_drew ?_|refine blk_alloc ?_ _));refine blk_put (cs:=#[.int .i64 4,.string (x0_1.extract 1 (x7_54:Int).toNat),.int .i64 0,.int .i64 0,.int .i64 0]) ?_ 2 _ rfl;(with_reducible repeat (first|refine blk_drewN ?_ _|refine blk_drew ?_|refine blk_alloc ?_ _));refine blk_put (cs:=#[.int .i64 4,.string (⟨#[]⟩:ByteArray),.int .i64 0,.int .i64 0,.int .i64 0]) ?_ 1 _ rfl;(with_reducible repeat (first|refine blk_drewN ?_ _|refine blk_drew ?_|refine blk_alloc ?_ _));refine blk_put (cs:=#[.int .i64 0,.string (⟨#[]⟩:ByteArray),.int .i64 0,.int .i64 0,.int .i64 0]) ?_ 0 _ rfl;(with_reducible repeat (first|refine blk_drewN ?_ _|refine blk_drew ?_|refine blk_alloc ?_ _));refine blk_far ?_ NB177_178.out _;(with_reducible repeat (first|refine blk_drewN ?_ _|refine blk_drew ?_|refine blk_alloc ?_ _));refine blk_far ?_ NB177_178.out _;(with_reducible repeat (first|refine blk_drewN ?_ _|refine blk_drew ?_|refine blk_alloc ?_ _));exact BK177.out))⟩;have n1_:Aside0 (w88.heap[gb178]?=some (.cells #[.int .i64 4,.string (x0_1.extract 1 (x7_54:Int).toNat),.int .i64 0,.int .i64 0,.int .i64 0] 41 (0,0))):=⟨(by rw [hw];exact (by (with_reducible repeat (first|refine blk_drewN ?_ _|refine blk_drew ?_|refine blk_alloc ?_ _));refine blk_far ?_ NB178_177.out _;(with_reducible repeat (first|refine blk_drewN ?_ _|refine blk_drew ?_|refine blk_alloc ?_ _));refine blk_far ?_ NB178_177.out _;(with_reducible repeat (first|refine blk_drewN ?_ _|refine blk_drew ?_|refine blk_alloc ?_ _));refine blk_far ?_ NB178_177.out _;(with_reducible repeat (first|refine blk_drewN ?_ _|refine blk_drew ?_|refine blk_alloc ?_ _));refine blk_far ?_ NB178_177.out _;(with_reducible repeat (first|refine blk_drewN ?_ _|refine blk_drew ?_|refine blk_alloc ?_ _));refine blk_far ?_ NB178_177.out _;(with_reducible repeat (first|refine blk_drewN ?_ _|refine blk_drew ?_|refine blk_alloc ?_ _));refine blk_put (cs:=#[.int .i64 4,.string (⟨#[]⟩:ByteArray),.int .i64 0,.int .i64 0,.int .i64 0]) ?_ 1 _ rfl;(with_reducible repeat (first|refine blk_drewN ?_ _|refine blk_drew ?_|refine blk_alloc ?_ _));refine blk_put (cs:=#[.int .i64 0,.string (⟨#[]⟩:ByteArray),.int .i64 0,.int .i64 0,.int .i64 0]) ?_ 0 _ rfl;(with_reducible repeat (first|refine blk_drewN ?_ _|refine blk_drew ?_|refine blk_alloc ?_ _));exact BK178.out))⟩;have n2_:Aside0 (Below w.heap.size w w88):=⟨(by rw [hw];exact bl_)⟩;clear hw;clear BK177;clear BK178;clear HB;have BK177:=n0_;have BK178:=n1_;have HB:=n2_;clear n0_ n1_ n2_))
                    refine bodyPost_ret (results_ctt rfl _ _ gb177 41 #[.int .i64 4,.string (x0_1.extract 1 (x7_54:Int).toNat),.int .i64 0,.int .i64 0,.int .i64 0] (0,0) _ rfl bk_ Try.underlying41 rfl (by kernel_rfl)) rfl ?_
                    exact ⟨by first|rfl|(simp [errW_none,errW_some] <;> rfl)|(simp only [← hji75];first|rfl|(simp [errW_none,errW_some] <;> rfl))|(simp [*,errW_none,errW_some] <;> rfl),bl_⟩
                  ·rw [if_neg c77] at H
                   exact absurd H (by simp)
                 ·rw [if_neg c76] at H
                  exact absurd H (by simp)
                ·rw [if_neg c74] at H
                 exact absurd H (by simp)
               ·rw [if_neg c73] at H
                exact absurd H (by simp)
         ·rw [if_neg c54] at H
          have c54b0:((bt x0_1 0)==76)=false:=beq_eq_false_iff_ne.mpr c54
          have c54b1:((bt x0_1 0) != 76)=true:=bne_iff_ne.mpr c54
          simp only [Option.some.injEq,Prod.mk.injEq] at H
          obtain ⟨rfl,rfl,rfl,rfl,rfl,rfl,rfl⟩:=H
          go_wp2_with (first|((with_reducible refine gate_dst (N:=6) rfl ?_);refine box_event ?hg (N:=6) ?hd (cs:=#[.int .i64 0,.string (⟨#[]⟩:ByteArray),.int .i64 0,.int .i64 0,.int .i64 0]) (t:=41) ?hr ?_;(case hd => rfl);(case hg => rfl);(case hr => first|(go_simp;done)|(go_simp;rfl));intro gb178 hg w89 hbox hb;have n0_:=Aside0.mk (blk_below (g:=gb177) (o:=.cells #[.int .i64 0,.string (⟨#[]⟩:ByteArray),.int .i64 0,.int .i64 0,.int .i64 0] 41 (0,0)) bk_ hb);have n1_:=Aside0.mk (below_step bl_ hb);have n2_:=Aside0.mk (hbox);have n3_:=Aside0.mk ((by rw [hg];exact (below_size bl_):w.heap.size≤gb178));have n4_:=Aside0.mk ((by rw [hg];exact (below_size bl_):w.heap.size≤gb178));have n5_:=Aside0.mk ((by rw [hg];exact Nat.ne_of_lt (blk_lt (g:=gb177) (o:=.cells #[.int .i64 0,.string (⟨#[]⟩:ByteArray),.int .i64 0,.int .i64 0,.int .i64 0] 41 (0,0)) bk_):gb177 ≠ gb178));have n6_:=Aside0.mk ((by rw [hg];exact Nat.ne_of_gt (blk_lt (g:=gb177) (o:=.cells #[.int .i64 0,.string (⟨#[]⟩:ByteArray),.int .i64 0,.int .i64 0,.int .i64 0] 41 (0,0)) bk_):gb178 ≠ gb177));clear BK177;clear HB;have BK177:=n0_;have HB:=n1_;have BK178:=n2_;have GW178:=n3_;have GE178:=n4_;have NB177_178:=n5_;have NB178_177:=n6_;clear n0_ n1_ n2_ n3_ n4_ n5_ n6_;clear hb hbox hg;have hnb90:=NB178_177.out;have hnc90:=NB177_178.out;obtain ⟨hcz91_0,hcz91_1,hcz91_2,hcz91_3,hcz91_4,hfz91_0,hfz91_1,hfz91_2,hfz91_3,hfz91_4⟩:=blk5_ BK178.out)|((with_reducible refine gate_store (t:=41) (p:=6) rfl ?_);refine store_event (t:=41) (p:=6) (v:=?vo_w92) (w1:=(((((w89.setCell ⟨gb178,0,none⟩ (.int .i64 0)).setCell ⟨gb178,1,none⟩ (.string (⟨#[]⟩:ByteArray))).setCell ⟨gb178,2,none⟩ (.int .i64 0)).setCell ⟨gb178,3,none⟩ (.int .i64 0)).setCell ⟨gb178,4,none⟩ (.int .i64 0))) ?hg ?ho ?hn ?hr ?_;(case ho => rfl);(case hg => rfl);(case hn => rfl);(case hr => first|(go_simp;done)|(go_simp;rfl));intro w92 hw;have n0_:Aside0 (w92.heap[gb177]?=some (.cells #[.int .i64 0,.string (⟨#[]⟩:ByteArray),.int .i64 0,.int .i64 0,.int .i64 0] 41 (0,0))):=⟨(by rw [hw];exact bk_)⟩;have n1_:Aside0 (w92.heap[gb178]?=some (.cells #[.int .i64 0,.string (⟨#[]⟩:ByteArray),.int .i64 0,.int .i64 0,.int .i64 0] 41 (0,0))):=⟨(by rw [hw];exact (st5_ BK178.out))⟩;have n2_:Aside0 (Below w.heap.size w w92):=⟨(by rw [hw];exact bl_)⟩;clear hw;clear BK177;clear BK178;clear HB;have BK177:=n0_;have BK178:=n1_;have HB:=n2_;clear n0_ n1_ n2_;have p15:0≤(0:Int):=(by omega);have q15:0 < x0_1.size:=(by have:(0:Int) < (x0_1.size:Int):=od_;omega);have hx15:∀ h:0 < x0_1.size,((x0_1[0]'h).toNat:Int)=bt x0_1 0:=bt_at x0_1 0;clear p15;have qi15:(0 < (x0_1.size:Int))=True:=eq_true (od_);replace q15:=eq_true q15;obtain ⟨hcz93_0,hcz93_1,hcz93_2,hcz93_3,hcz93_4,hfz93_0,hfz93_1,hfz93_2,hfz93_3,hfz93_4⟩:=blk5_ BK177.out)|((with_reducible refine gate_store (t:=41) (p:=2) rfl ?_);refine store_event (t:=41) (p:=2) (v:=?vo_w94) (w1:=(((((w92.setCell ⟨gb177,0,none⟩ (.int .i64 0)).setCell ⟨gb177,1,none⟩ (.string (⟨#[]⟩:ByteArray))).setCell ⟨gb177,2,none⟩ (.int .i64 0)).setCell ⟨gb177,3,none⟩ (.int .i64 0)).setCell ⟨gb177,4,none⟩ (.int .i64 0))) ?hg ?ho ?hn ?hr ?_;(case ho => rfl);(case hg => rfl);(case hn => rfl);(case hr => first|(go_simp;done)|(go_simp;rfl));intro w94 hw;have n0_:Aside0 (w94.heap[gb177]?=some (.cells #[.int .i64 0,.string (⟨#[]⟩:ByteArray),.int .i64 0,.int .i64 0,.int .i64 0] 41 (0,0))):=⟨(by rw [hw];exact (st5_ BK177.out))⟩;have n1_:Aside0 (w94.heap[gb178]?=some (.cells #[.int .i64 0,.string (⟨#[]⟩:ByteArray),.int .i64 0,.int .i64 0,.int .i64 0] 41 (0,0))):=⟨(by rw [hw];exact bk_)⟩;have n2_:Aside0 (Below w.heap.size w w94):=⟨(by rw [hw];exact bl_)⟩;clear hw;clear BK177;clear BK178;clear HB;have BK177:=n0_;have BK178:=n1_;have HB:=n2_;clear n0_ n1_ n2_))
          refine bodyPost_ret (results_ctt rfl _ _ gb177 41 #[.int .i64 0,.string (⟨#[]⟩:ByteArray),.int .i64 0,.int .i64 0,.int .i64 0] (0,0) _ rfl bk_ Try.underlying41 rfl (by kernel_rfl)) rfl ?_
          exact ⟨ew_,bl_⟩
      ·rw [if_neg c14] at H
       exact absurd H (by simp)
end Go.Proofs.Ytnihihcopcoabaa.Px
namespace Go.Proofs.Ytnihihcopcoabaa.Px
open Go.RowKit Go.Proofs.YtnihihcopcoabaaW.PrintWords Go.Proofs.YtnihihcopcoabaaW.PrintLast Go.Proofs.YtnihihcopcoabaaW.PrintMore
attribute [local go_sem] max2_int min2_int max_two min_two max_three min_three max_four min_four
set_option linter.unusedVariables false
set_option linter.unusedSimpArgs false
def understudyref08_Field.f (k:Nat) (a0:ByteArray):Option (Int × ByteArray × Int × Int × Int × Int):=(understudyref08_field.f k a0).bind fun bt181 => (if bt181.2.2.2.2.2.2=true then (if bt181.2.2.2.2.2.1.toList=([]:List UInt8) then (some (bt181.1,bt181.2.1,bt181.2.2.1,bt181.2.2.2.1,bt181.2.2.2.2.1,0)) else (some (0,(⟨#[]⟩:ByteArray),0,0,0,80))) else (some (0,(⟨#[]⟩:ByteArray),0,0,0,80)))
set_option maxHeartbeats 80000000 in
set_option maxRecDepth 100000 in
theorem understudyref08_Field.calls (k:Nat) (a0:ByteArray) (r1:Int) (r2:ByteArray) (r3:Int) (r4:Int) (r5:Int) (r6:Int) (w:World) (h:understudyref08_Field.f k a0=some (r1,r2,r3,r4,r5,r6)) :
  Calls Try.prog 41 #[.string a0] w fun e w' => e=.returned (.tuple #[.agg #[.int .i64 r1,.string r2,.int .i64 r3,.int .i64 r4,.int .i64 r5],.int .i64 r6])∧Below w.heap.size w w':=by
 have hu41:=Try.underlying41
 have HB:=Aside0.mk (Below.refl w.heap.size w)
 have H:((understudyref08_field.f k a0).bind fun bt181 => (if bt181.2.2.2.2.2.2=true then (if bt181.2.2.2.2.2.1.toList=([]:List UInt8) then (some (bt181.1,bt181.2.1,bt181.2.2.1,bt181.2.2.2.1,bt181.2.2.2.2.1,0)) else (some (0,(⟨#[]⟩:ByteArray),0,0,0,80))) else (some (0,(⟨#[]⟩:ByteArray),0,0,0,80))))=some (r1,r2,r3,r4,r5,r6):=h
 clear h
 replace H:=Option.bind_eq_some_iff.mp H
 obtain ⟨⟨t181,t182,t183,t184,t185,t186,t187⟩,A20,H⟩:=H
 try dsimp only at H
 have A2:=Aside0.mk A20
 clear A20
 by_cases c3:t187=true
 ·subst c3
  rw [if_pos rfl] at H
  by_cases c4:t186.toList=([]:List UInt8)
  ·rw [if_pos c4] at H
   have c4b0:(t186.toList==([]:List UInt8))=true:=beq_iff_eq.mpr c4
   have c4b1:(t186.toList != ([]:List UInt8))=false:=bne_eq_false_iff_eq.mpr c4
   clear c4
   simp only [Option.some.injEq,Prod.mk.injEq] at H
   obtain ⟨rfl,rfl,rfl,rfl,rfl,rfl⟩:=H
   go_enter Try.func41,Try.ntmps41
   go_wp2_with (first|((with_reducible refine gate_dst (N:=2) rfl ?_);refine box_event ?hg (N:=2) ?hd (cs:=#[.int .i64 0,.string (⟨#[]⟩:ByteArray),.int .i64 0,.int .i64 0,.int .i64 0]) (t:=41) ?hr ?_;(case hd => rfl);(case hg => rfl);(case hr => first|(go_simp;done)|(go_simp;rfl));intro gb180 hg w5 hbox hb;have n0_:=Aside0.mk (below_step bl_ hb);have n1_:=Aside0.mk (hbox);have n2_:=Aside0.mk ((by rw [hg];exact (below_size bl_):w.heap.size≤gb180));have n3_:=Aside0.mk ((by rw [hg];exact (below_size bl_):w.heap.size≤gb180));clear HB;have HB:=n0_;have BK180:=n1_;have GW180:=n2_;have GE180:=n3_;clear n0_ n1_ n2_ n3_;clear hb hbox hg)|(refine callA_ (f:=45) (some 9) Try.func45 #[.string a0] ?_;(with_reducible refine (understudyref08_field.calls k a0 t181 t182 t183 t184 t185 t186 true _ A2.out).mono ?_);rintro e w6 ⟨rfl,hb⟩;refine ⟨_,rfl,?_⟩;have n0_:=Aside0.mk (blk_below (g:=gb180) (o:=.cells #[.int .i64 0,.string (⟨#[]⟩:ByteArray),.int .i64 0,.int .i64 0,.int .i64 0] 41 (0,0)) bk_ hb);have n1_:=Aside0.mk (below_step bl_ hb);clear BK180;clear HB;have BK180:=n0_;have HB:=n1_;clear n0_ n1_;(try clear hb);(try clear hb2);(try clear hk);(try clear hi))|((with_reducible refine gate_dst (N:=4) rfl ?_);refine box_event ?hg (N:=4) ?hd (cs:=#[.int .i64 0,.string (⟨#[]⟩:ByteArray),.int .i64 0,.int .i64 0,.int .i64 0]) (t:=41) ?hr ?_;(case hd => rfl);(case hg => rfl);(case hr => first|(go_simp;done)|(go_simp;rfl));intro gb188 hg w7 hbox hb;have n0_:=Aside0.mk (blk_below (g:=gb180) (o:=.cells #[.int .i64 0,.string (⟨#[]⟩:ByteArray),.int .i64 0,.int .i64 0,.int .i64 0] 41 (0,0)) bk_ hb);have n1_:=Aside0.mk (below_step bl_ hb);have n2_:=Aside0.mk (hbox);have n3_:=Aside0.mk ((by rw [hg];exact (below_size bl_):w.heap.size≤gb188));have n4_:=Aside0.mk ((by rw [hg];exact (below_size bl_):w.heap.size≤gb188));have n5_:=Aside0.mk ((by rw [hg];exact Nat.ne_of_lt (blk_lt (g:=gb180) (o:=.cells #[.int .i64 0,.string (⟨#[]⟩:ByteArray),.int .i64 0,.int .i64 0,.int .i64 0] 41 (0,0)) bk_):gb180 ≠ gb188));have n6_:=Aside0.mk ((by rw [hg];exact Nat.ne_of_gt (blk_lt (g:=gb180) (o:=.cells #[.int .i64 0,.string (⟨#[]⟩:ByteArray),.int .i64 0,.int .i64 0,.int .i64 0] 41 (0,0)) bk_):gb188 ≠ gb180));clear BK180;clear HB;have BK180:=n0_;have HB:=n1_;have BK188:=n2_;have GW188:=n3_;have GE188:=n4_;have NB180_188:=n5_;have NB188_180:=n6_;clear n0_ n1_ n2_ n3_ n4_ n5_ n6_;clear hb hbox hg;have hnb8:=NB188_180.out;have hnc8:=NB180_188.out;obtain ⟨hcz9_0,hcz9_1,hcz9_2,hcz9_3,hcz9_4,hfz9_0,hfz9_1,hfz9_2,hfz9_3,hfz9_4⟩:=blk5_ BK188.out)|((with_reducible refine gate_store (t:=41) (p:=4) rfl ?_);refine store_event (t:=41) (p:=4) (v:=?vo_w10) (w1:=(((((w7.setCell ⟨gb188,0,none⟩ (.int .i64 t181)).setCell ⟨gb188,1,none⟩ (.string t182)).setCell ⟨gb188,2,none⟩ (.int .i64 t183)).setCell ⟨gb188,3,none⟩ (.int .i64 t184)).setCell ⟨gb188,4,none⟩ (.int .i64 t185))) ?hg ?ho ?hn ?hr ?_;(case ho => rfl);(case hg => rfl);(case hn => rfl);(case hr => first|(go_simp;done)|(go_simp;rfl));intro w10 hw;have n0_:Aside0 (w10.heap[gb180]?=some (.cells #[.int .i64 0,.string (⟨#[]⟩:ByteArray),.int .i64 0,.int .i64 0,.int .i64 0] 41 (0,0))):=⟨(by rw [hw];exact bk_)⟩;have n1_:Aside0 (w10.heap[gb188]?=some (.cells #[.int .i64 t181,.string t182,.int .i64 t183,.int .i64 t184,.int .i64 t185] 41 (0,0))):=⟨(by rw [hw];exact (st5_ BK188.out))⟩;have n2_:Aside0 (Below w.heap.size w w10):=⟨(by rw [hw];exact bl_)⟩;clear hw;clear BK180;clear BK188;clear HB;have BK180:=n0_;have BK188:=n1_;have HB:=n2_;clear n0_ n1_ n2_;obtain ⟨hcz11_0,hcz11_1,hcz11_2,hcz11_3,hcz11_4,hfz11_0,hfz11_1,hfz11_2,hfz11_3,hfz11_4⟩:=blk5_ BK188.out;obtain ⟨hcz12_0,hcz12_1,hcz12_2,hcz12_3,hcz12_4,hfz12_0,hfz12_1,hfz12_2,hfz12_3,hfz12_4⟩:=blk5_ BK180.out)|((with_reducible refine gate_store (t:=41) (p:=2) rfl ?_);refine store_event (t:=41) (p:=2) (v:=?vo_w13) (w1:=(((((w10.setCell ⟨gb180,0,none⟩ (.int .i64 t181)).setCell ⟨gb180,1,none⟩ (.string t182)).setCell ⟨gb180,2,none⟩ (.int .i64 t183)).setCell ⟨gb180,3,none⟩ (.int .i64 t184)).setCell ⟨gb180,4,none⟩ (.int .i64 t185))) ?hg ?ho ?hn ?hr ?_;(case ho => rfl);(case hg => rfl);(case hn => rfl);(case hr => first|(go_simp;done)|(go_simp;rfl));intro w13 hw;have n0_:Aside0 (w13.heap[gb180]?=some (.cells #[.int .i64 t181,.string t182,.int .i64 t183,.int .i64 t184,.int .i64 t185] 41 (0,0))):=⟨(by rw [hw];exact (st5_ BK180.out))⟩;have n1_:Aside0 (w13.heap[gb188]?=some (.cells #[.int .i64 t181,.string t182,.int .i64 t183,.int .i64 t184,.int .i64 t185] 41 (0,0))):=⟨(by rw [hw];exact bk_)⟩;have n2_:Aside0 (Below w.heap.size w w13):=⟨(by rw [hw];exact bl_)⟩;clear hw;clear BK180;clear BK188;clear HB;have BK180:=n0_;have BK188:=n1_;have HB:=n2_;clear n0_ n1_ n2_))
   refine bodyPost_ret (results_ct rfl _ _ gb180 41 #[.int .i64 t181,.string t182,.int .i64 t183,.int .i64 t184,.int .i64 t185] (0,0) _ rfl bk_ Try.underlying41 rfl (by kernel_rfl)) rfl ?_
   exact ⟨ew_,bl_⟩
  ·rw [if_neg c4] at H
   have c4b0:(t186.toList==([]:List UInt8))=false:=beq_eq_false_iff_ne.mpr c4
   have c4b1:(t186.toList != ([]:List UInt8))=true:=bne_iff_ne.mpr c4
   simp only [Option.some.injEq,Prod.mk.injEq] at H
   obtain ⟨rfl,rfl,rfl,rfl,rfl,rfl⟩:=H
   go_enter Try.func41,Try.ntmps41
   go_wp2_with (first|((with_reducible refine gate_dst (N:=2) rfl ?_);refine box_event ?hg (N:=2) ?hd (cs:=#[.int .i64 0,.string (⟨#[]⟩:ByteArray),.int .i64 0,.int .i64 0,.int .i64 0]) (t:=41) ?hr ?_;(case hd => rfl);(case hg => rfl);(case hr => first|(go_simp;done)|(go_simp;rfl));intro gb180 hg w14 hbox hb;have n0_:=Aside0.mk (below_step bl_ hb);have n1_:=Aside0.mk (hbox);have n2_:=Aside0.mk ((by rw [hg];exact (below_size bl_):w.heap.size≤gb180));have n3_:=Aside0.mk ((by rw [hg];exact (below_size bl_):w.heap.size≤gb180));clear HB;have HB:=n0_;have BK180:=n1_;have GW180:=n2_;have GE180:=n3_;clear n0_ n1_ n2_ n3_;clear hb hbox hg)|(refine callA_ (f:=45) (some 9) Try.func45 #[.string a0] ?_;(with_reducible refine (understudyref08_field.calls k a0 t181 t182 t183 t184 t185 t186 true _ A2.out).mono ?_);rintro e w15 ⟨rfl,hb⟩;refine ⟨_,rfl,?_⟩;have n0_:=Aside0.mk (blk_below (g:=gb180) (o:=.cells #[.int .i64 0,.string (⟨#[]⟩:ByteArray),.int .i64 0,.int .i64 0,.int .i64 0] 41 (0,0)) bk_ hb);have n1_:=Aside0.mk (below_step bl_ hb);clear BK180;clear HB;have BK180:=n0_;have HB:=n1_;clear n0_ n1_;(try clear hb);(try clear hb2);(try clear hk);(try clear hi))|((with_reducible refine gate_dst (N:=4) rfl ?_);refine box_event ?hg (N:=4) ?hd (cs:=#[.int .i64 0,.string (⟨#[]⟩:ByteArray),.int .i64 0,.int .i64 0,.int .i64 0]) (t:=41) ?hr ?_;(case hd => rfl);(case hg => rfl);(case hr => first|(go_simp;done)|(go_simp;rfl));intro gb188 hg w16 hbox hb;have n0_:=Aside0.mk (blk_below (g:=gb180) (o:=.cells #[.int .i64 0,.string (⟨#[]⟩:ByteArray),.int .i64 0,.int .i64 0,.int .i64 0] 41 (0,0)) bk_ hb);have n1_:=Aside0.mk (below_step bl_ hb);have n2_:=Aside0.mk (hbox);have n3_:=Aside0.mk ((by rw [hg];exact (below_size bl_):w.heap.size≤gb188));have n4_:=Aside0.mk ((by rw [hg];exact (below_size bl_):w.heap.size≤gb188));have n5_:=Aside0.mk ((by rw [hg];exact Nat.ne_of_lt (blk_lt (g:=gb180) (o:=.cells #[.int .i64 0,.string (⟨#[]⟩:ByteArray),.int .i64 0,.int .i64 0,.int .i64 0] 41 (0,0)) bk_):gb180 ≠ gb188));have n6_:=Aside0.mk ((by rw [hg];exact Nat.ne_of_gt (blk_lt (g:=gb180) (o:=.cells #[.int .i64 0,.string (⟨#[]⟩:ByteArray),.int .i64 0,.int .i64 0,.int .i64 0] 41 (0,0)) bk_):gb188 ≠ gb180));clear BK180;clear HB;have BK180:=n0_;have HB:=n1_;have BK188:=n2_;have GW188:=n3_;have GE188:=n4_;have NB180_188:=n5_;have NB188_180:=n6_;clear n0_ n1_ n2_ n3_ n4_ n5_ n6_;clear hb hbox hg;have hnb17:=NB188_180.out;have hnc17:=NB180_188.out;obtain ⟨hcz18_0,hcz18_1,hcz18_2,hcz18_3,hcz18_4,hfz18_0,hfz18_1,hfz18_2,hfz18_3,hfz18_4⟩:=blk5_ BK188.out)|((with_reducible refine gate_store (t:=41) (p:=4) rfl ?_);refine store_event (t:=41) (p:=4) (v:=?vo_w19) (w1:=(((((w16.setCell ⟨gb188,0,none⟩ (.int .i64 t181)).setCell ⟨gb188,1,none⟩ (.string t182)).setCell ⟨gb188,2,none⟩ (.int .i64 t183)).setCell ⟨gb188,3,none⟩ (.int .i64 t184)).setCell ⟨gb188,4,none⟩ (.int .i64 t185))) ?hg ?ho ?hn ?hr ?_;(case ho => rfl);(case hg => rfl);(case hn => rfl);(case hr => first|(go_simp;done)|(go_simp;rfl));intro w19 hw;have n0_:Aside0 (w19.heap[gb180]?=some (.cells #[.int .i64 0,.string (⟨#[]⟩:ByteArray),.int .i64 0,.int .i64 0,.int .i64 0] 41 (0,0))):=⟨(by rw [hw];exact bk_)⟩;have n1_:Aside0 (w19.heap[gb188]?=some (.cells #[.int .i64 t181,.string t182,.int .i64 t183,.int .i64 t184,.int .i64 t185] 41 (0,0))):=⟨(by rw [hw];exact (st5_ BK188.out))⟩;have n2_:Aside0 (Below w.heap.size w w19):=⟨(by rw [hw];exact bl_)⟩;clear hw;clear BK180;clear BK188;clear HB;have BK180:=n0_;have BK188:=n1_;have HB:=n2_;clear n0_ n1_ n2_;obtain ⟨hcz20_0,hcz20_1,hcz20_2,hcz20_3,hcz20_4,hfz20_0,hfz20_1,hfz20_2,hfz20_3,hfz20_4⟩:=blk5_ BK180.out)|((with_reducible refine gate_store (t:=41) (p:=2) rfl ?_);refine store_event (t:=41) (p:=2) (v:=?vo_w21) (w1:=(((((w19.setCell ⟨gb180,0,none⟩ (.int .i64 0)).setCell ⟨gb180,1,none⟩ (.string (⟨#[]⟩:ByteArray))).setCell ⟨gb180,2,none⟩ (.int .i64 0)).setCell ⟨gb180,3,none⟩ (.int .i64 0)).setCell ⟨gb180,4,none⟩ (.int .i64 0))) ?hg ?ho ?hn ?hr ?_;(case ho => rfl);(case hg => rfl);(case hn => rfl);(case hr => first|(go_simp;done)|(go_simp;rfl));intro w21 hw;have n0_:Aside0 (w21.heap[gb180]?=some (.cells #[.int .i64 0,.string (⟨#[]⟩:ByteArray),.int .i64 0,.int .i64 0,.int .i64 0] 41 (0,0))):=⟨(by rw [hw];exact (st5_ BK180.out))⟩;have n1_:Aside0 (w21.heap[gb188]?=some (.cells #[.int .i64 t181,.string t182,.int .i64 t183,.int .i64 t184,.int .i64 t185] 41 (0,0))):=⟨(by rw [hw];exact bk_)⟩;have n2_:Aside0 (Below w.heap.size w w21):=⟨(by rw [hw];exact bl_)⟩;clear hw;clear BK180;clear BK188;clear HB;have BK180:=n0_;have BK188:=n1_;have HB:=n2_;clear n0_ n1_ n2_))
   refine bodyPost_ret (results_ct rfl _ _ gb180 41 #[.int .i64 0,.string (⟨#[]⟩:ByteArray),.int .i64 0,.int .i64 0,.int .i64 0] (0,0) _ rfl bk_ Try.underlying41 rfl (by kernel_rfl)) rfl ?_
   exact ⟨ew_,bl_⟩
 ·replace c3:=Bool.eq_false_iff.mpr c3
  subst c3
  rw [if_neg (show ¬ (false=true) by decide)] at H
  simp only [Option.some.injEq,Prod.mk.injEq] at H
  obtain ⟨rfl,rfl,rfl,rfl,rfl,rfl⟩:=H
  go_enter Try.func41,Try.ntmps41
  go_wp2_with (first|((with_reducible refine gate_dst (N:=2) rfl ?_);refine box_event ?hg (N:=2) ?hd (cs:=#[.int .i64 0,.string (⟨#[]⟩:ByteArray),.int .i64 0,.int .i64 0,.int .i64 0]) (t:=41) ?hr ?_;(case hd => rfl);(case hg => rfl);(case hr => first|(go_simp;done)|(go_simp;rfl));intro gb180 hg w22 hbox hb;have n0_:=Aside0.mk (below_step bl_ hb);have n1_:=Aside0.mk (hbox);have n2_:=Aside0.mk ((by rw [hg];exact (below_size bl_):w.heap.size≤gb180));have n3_:=Aside0.mk ((by rw [hg];exact (below_size bl_):w.heap.size≤gb180));clear HB;have HB:=n0_;have BK180:=n1_;have GW180:=n2_;have GE180:=n3_;clear n0_ n1_ n2_ n3_;clear hb hbox hg)|(refine callA_ (f:=45) (some 9) Try.func45 #[.string a0] ?_;(with_reducible refine (understudyref08_field.calls k a0 t181 t182 t183 t184 t185 t186 false _ A2.out).mono ?_);rintro e w23 ⟨rfl,hb⟩;refine ⟨_,rfl,?_⟩;have n0_:=Aside0.mk (blk_below (g:=gb180) (o:=.cells #[.int .i64 0,.string (⟨#[]⟩:ByteArray),.int .i64 0,.int .i64 0,.int .i64 0] 41 (0,0)) bk_ hb);have n1_:=Aside0.mk (below_step bl_ hb);clear BK180;clear HB;have BK180:=n0_;have HB:=n1_;clear n0_ n1_;(try clear hb);(try clear hb2);(try clear hk);(try clear hi))|((with_reducible refine gate_dst (N:=4) rfl ?_);refine box_event ?hg (N:=4) ?hd (cs:=#[.int .i64 0,.string (⟨#[]⟩:ByteArray),.int .i64 0,.int .i64 0,.int .i64 0]) (t:=41) ?hr ?_;(case hd => rfl);(case hg => rfl);(case hr => first|(go_simp;done)|(go_simp;rfl));intro gb188 hg w24 hbox hb;have n0_:=Aside0.mk (blk_below (g:=gb180) (o:=.cells #[.int .i64 0,.string (⟨#[]⟩:ByteArray),.int .i64 0,.int .i64 0,.int .i64 0] 41 (0,0)) bk_ hb);have n1_:=Aside0.mk (below_step bl_ hb);have n2_:=Aside0.mk (hbox);have n3_:=Aside0.mk ((by rw [hg];exact (below_size bl_):w.heap.size≤gb188));have n4_:=Aside0.mk ((by rw [hg];exact (below_size bl_):w.heap.size≤gb188));have n5_:=Aside0.mk ((by rw [hg];exact Nat.ne_of_lt (blk_lt (g:=gb180) (o:=.cells #[.int .i64 0,.string (⟨#[]⟩:ByteArray),.int .i64 0,.int .i64 0,.int .i64 0] 41 (0,0)) bk_):gb180 ≠ gb188));have n6_:=Aside0.mk ((by rw [hg];exact Nat.ne_of_gt (blk_lt (g:=gb180) (o:=.cells #[.int .i64 0,.string (⟨#[]⟩:ByteArray),.int .i64 0,.int .i64 0,.int .i64 0] 41 (0,0)) bk_):gb188 ≠ gb180));clear BK180;clear HB;have BK180:=n0_;have HB:=n1_;have BK188:=n2_;have GW188:=n3_;have GE188:=n4_;have NB180_188:=n5_;have NB188_180:=n6_;clear n0_ n1_ n2_ n3_ n4_ n5_ n6_;clear hb hbox hg;have hnb25:=NB188_180.out;have hnc25:=NB180_188.out;obtain ⟨hcz26_0,hcz26_1,hcz26_2,hcz26_3,hcz26_4,hfz26_0,hfz26_1,hfz26_2,hfz26_3,hfz26_4⟩:=blk5_ BK188.out)|((with_reducible refine gate_store (t:=41) (p:=4) rfl ?_);refine store_event (t:=41) (p:=4) (v:=?vo_w27) (w1:=(((((w24.setCell ⟨gb188,0,none⟩ (.int .i64 t181)).setCell ⟨gb188,1,none⟩ (.string t182)).setCell ⟨gb188,2,none⟩ (.int .i64 t183)).setCell ⟨gb188,3,none⟩ (.int .i64 t184)).setCell ⟨gb188,4,none⟩ (.int .i64 t185))) ?hg ?ho ?hn ?hr ?_;(case ho => rfl);(case hg => rfl);(case hn => rfl);(case hr => first|(go_simp;done)|(go_simp;rfl));intro w27 hw;have n0_:Aside0 (w27.heap[gb180]?=some (.cells #[.int .i64 0,.string (⟨#[]⟩:ByteArray),.int .i64 0,.int .i64 0,.int .i64 0] 41 (0,0))):=⟨(by rw [hw];exact bk_)⟩;have n1_:Aside0 (w27.heap[gb188]?=some (.cells #[.int .i64 t181,.string t182,.int .i64 t183,.int .i64 t184,.int .i64 t185] 41 (0,0))):=⟨(by rw [hw];exact (st5_ BK188.out))⟩;have n2_:Aside0 (Below w.heap.size w w27):=⟨(by rw [hw];exact bl_)⟩;clear hw;clear BK180;clear BK188;clear HB;have BK180:=n0_;have BK188:=n1_;have HB:=n2_;clear n0_ n1_ n2_;obtain ⟨hcz28_0,hcz28_1,hcz28_2,hcz28_3,hcz28_4,hfz28_0,hfz28_1,hfz28_2,hfz28_3,hfz28_4⟩:=blk5_ BK180.out)|((with_reducible refine gate_store (t:=41) (p:=2) rfl ?_);refine store_event (t:=41) (p:=2) (v:=?vo_w29) (w1:=(((((w27.setCell ⟨gb180,0,none⟩ (.int .i64 0)).setCell ⟨gb180,1,none⟩ (.string (⟨#[]⟩:ByteArray))).setCell ⟨gb180,2,none⟩ (.int .i64 0)).setCell ⟨gb180,3,none⟩ (.int .i64 0)).setCell ⟨gb180,4,none⟩ (.int .i64 0))) ?hg ?ho ?hn ?hr ?_;(case ho => rfl);(case hg => rfl);(case hn => rfl);(case hr => first|(go_simp;done)|(go_simp;rfl));intro w29 hw;have n0_:Aside0 (w29.heap[gb180]?=some (.cells #[.int .i64 0,.string (⟨#[]⟩:ByteArray),.int .i64 0,.int .i64 0,.int .i64 0] 41 (0,0))):=⟨(by rw [hw];exact (st5_ BK180.out))⟩;have n1_:Aside0 (w29.heap[gb188]?=some (.cells #[.int .i64 t181,.string t182,.int .i64 t183,.int .i64 t184,.int .i64 t185] 41 (0,0))):=⟨(by rw [hw];exact bk_)⟩;have n2_:Aside0 (Below w.heap.size w w29):=⟨(by rw [hw];exact bl_)⟩;clear hw;clear BK180;clear BK188;clear HB;have BK180:=n0_;have BK188:=n1_;have HB:=n2_;clear n0_ n1_ n2_))
  refine bodyPost_ret (results_ct rfl _ _ gb180 41 #[.int .i64 0,.string (⟨#[]⟩:ByteArray),.int .i64 0,.int .i64 0,.int .i64 0] (0,0) _ rfl bk_ Try.underlying41 rfl (by kernel_rfl)) rfl ?_
  exact ⟨ew_,bl_⟩
def understudyref10_Type.j0:Nat→ByteArray→Bool→Option (Int × ByteArray × Int × Int × Int × Bool)
 | 0,_,_ => none
 | k + 1,x0,x12 => if x12=true then ((understudyref08_Field.f k x0).bind fun bt190 => (some (bt190.1,bt190.2.1,bt190.2.2.1,bt190.2.2.2.1,bt190.2.2.2.2.1,(bt190.2.2.2.2.2==0)))) else ((understudyref08_Plain.f k x0).bind fun t197 => (if t197=true then (some (4,x0,0,0,0,true)) else (some (0,(⟨#[]⟩:ByteArray),0,0,0,false))))
def understudyref10_Type.f (k:Nat) (a0:ByteArray):Option (Int × ByteArray × Int × Int × Int × Bool):=if a0.toList=([]:List UInt8) then (understudyref10_Type.j0 k a0 false) else (if 0 < (a0.size:Int) then (understudyref10_Type.j0 k a0 ((bt a0 0)==91)) else (none))
set_option maxHeartbeats 80000000 in
set_option maxRecDepth 100000 in
theorem understudyref10_Type.calls (k:Nat) (a0:ByteArray) (r1:Int) (r2:ByteArray) (r3:Int) (r4:Int) (r5:Int) (r6:Bool) (w:World) (h:understudyref10_Type.f k a0=some (r1,r2,r3,r4,r5,r6)) :
  Calls Try.prog 35 #[.string a0] w fun e w' => e=.returned (.tuple #[.agg #[.int .i64 r1,.string r2,.int .i64 r3,.int .i64 r4,.int .i64 r5],.bool r6])∧Below w.heap.size w w':=by
 have hu41:=Try.underlying41
 have HB:=Aside0.mk (Below.refl w.heap.size w)
 have H:(if a0.toList=([]:List UInt8) then (understudyref10_Type.j0 k a0 false) else (if 0 < (a0.size:Int) then (understudyref10_Type.j0 k a0 ((bt a0 0)==91)) else (none)))=some (r1,r2,r3,r4,r5,r6):=h
 clear h
 have HC2:=Aside0.mk H
 clear H
 go_enter Try.func35,Try.ntmps35
 go_upto_region 1 with (first|((with_reducible refine gate_dst (N:=2) rfl ?_);refine box_event ?hg (N:=2) ?hd (cs:=#[.int .i64 0,.string (⟨#[]⟩:ByteArray),.int .i64 0,.int .i64 0,.int .i64 0]) (t:=41) ?hr ?_;(case hd => rfl);(case hg => rfl);(case hr => first|(go_simp;done)|(go_simp;rfl));intro gb189 hg w3 hbox hb;have n0_:=Aside0.mk (below_step bl_ hb);have n1_:=Aside0.mk (hbox);have n2_:=Aside0.mk ((by rw [hg];exact (below_size bl_):w.heap.size≤gb189));have n3_:=Aside0.mk ((by rw [hg];exact (below_size bl_):w.heap.size≤gb189));clear HB;have HB:=n0_;have BK189:=n1_;have GW189:=n2_;have GE189:=n3_;clear n0_ n1_ n2_ n3_;clear hb hbox hg))
 (try simp only [Act.put,List.setIfInBounds_toArray,List.set_cons_zero,List.set_cons_succ])
 go_cut [12] (fun v12 wc => ∃ (kq:Nat) (x12_1:Bool),v12=.bool x12_1∧Aside0 (understudyref10_Type.j0 kq a0 x12_1=some (r1,r2,r3,r4,r5,r6))∧Aside0 (kq≤k)∧Aside0 (wc.heap[gb189]?=some (.cells #[.int .i64 0,.string (⟨#[]⟩:ByteArray),.int .i64 0,.int .i64 0,.int .i64 0] 41 (0,0)))∧Aside0 (Below w.heap.size w wc))
 case first =>
  have H:=HC2.out
  clear HC2
  by_cases c4:a0.toList=([]:List UInt8)
  ·rw [if_pos c4] at H
   have c4b0:(a0.toList==([]:List UInt8))=true:=beq_iff_eq.mpr c4
   have c4b1:(a0.toList != ([]:List UInt8))=false:=bne_eq_false_iff_eq.mpr c4
   clear c4
   (first|rw [c4b0]|(simp only [i64_w,i32_w];rw [c4b0])|skip)
   have H':=Aside0.mk H
   clear H
   go_wp2
   go_meet
   case rel => exact ⟨_,(false),r3_,H',⟨by first|omega|exact Nat.le_refl _⟩,⟨bk_⟩,⟨bl_⟩⟩
  ·rw [if_neg c4] at H
   have c4b0:(a0.toList==([]:List UInt8))=false:=beq_eq_false_iff_ne.mpr c4
   have c4b1:(a0.toList != ([]:List UInt8))=true:=bne_iff_ne.mpr c4
   (first|rw [c4b0]|(simp only [i64_w,i32_w];rw [c4b0])|skip)
   by_cases c5:0 < (a0.size:Int)
   ·rw [if_pos c5] at H
    have c5b0:decide (0 < (a0.size:Int))=true:=decide_eq_true c5
    have c5b1:decide (0 < a0.size)=true:=decide_eq_true (by omega)
    clear c5
    have H':=Aside0.mk H
    clear H
    have p6:0≤(0:Int):=(by omega)
    have q6:0 < a0.size:=(by have:(0:Int) < (a0.size:Int):=od_;omega)
    have hx6:∀ h:0 < a0.size,((a0[0]'h).toNat:Int)=bt a0 0:=bt_at a0 0
    clear p6
    have qi6:(0 < (a0.size:Int))=True:=eq_true (od_)
    replace q6:=eq_true q6
    go_wp2
    go_meet
    case rel => exact ⟨_,(((bt a0 0)==91)),r3_,H',⟨by first|omega|exact Nat.le_refl _⟩,⟨bk_⟩,⟨bl_⟩⟩
   ·rw [if_neg c5] at H
    exact absurd H (by simp)
 case rest =>
  clear HC2
  obtain ⟨kq,x12_1,rfl,HA,HJ1,BK189,HB⟩:=hcut
  cases kq with
  | zero => exact absurd HA.out (by simp [understudyref10_Type.j0])
  | succ kj1 =>
   have H:=HA.out
   clear HA
   simp only [understudyref10_Type.j0] at H
   by_cases c7:x12_1=true
   ·subst c7
    rw [if_pos rfl] at H
    replace H:=Option.bind_eq_some_iff.mp H
    obtain ⟨⟨t190,t191,t192,t193,t194,t195⟩,A80,H⟩:=H
    try dsimp only at H
    have A8:=Aside0.mk A80
    clear A80
    simp only [Option.some.injEq,Prod.mk.injEq] at H
    obtain ⟨rfl,rfl,rfl,rfl,rfl,rfl⟩:=H
    go_wp2_with (first|(refine callA_ (f:=41) (some 15) Try.func41 #[.string a0] ?_;(with_reducible refine (understudyref08_Field.calls kj1 a0 t190 t191 t192 t193 t194 t195 _ A8.out).mono ?_);rintro e w9 ⟨rfl,hb⟩;refine ⟨_,rfl,?_⟩;have n0_:=Aside0.mk (blk_below (g:=gb189) (o:=.cells #[.int .i64 0,.string (⟨#[]⟩:ByteArray),.int .i64 0,.int .i64 0,.int .i64 0] 41 (0,0)) bk_ hb);have n1_:=Aside0.mk (below_step bl_ hb);clear BK189;clear HB;have BK189:=n0_;have HB:=n1_;clear n0_ n1_;(try clear hb);(try clear hb2);(try clear hk);(try clear hi))|((with_reducible refine gate_dst (N:=4) rfl ?_);refine box_event ?hg (N:=4) ?hd (cs:=#[.int .i64 0,.string (⟨#[]⟩:ByteArray),.int .i64 0,.int .i64 0,.int .i64 0]) (t:=41) ?hr ?_;(case hd => rfl);(case hg => rfl);(case hr => first|(go_simp;done)|(go_simp;rfl));intro gb196 hg w10 hbox hb;have n0_:=Aside0.mk (blk_below (g:=gb189) (o:=.cells #[.int .i64 0,.string (⟨#[]⟩:ByteArray),.int .i64 0,.int .i64 0,.int .i64 0] 41 (0,0)) bk_ hb);have n1_:=Aside0.mk (below_step bl_ hb);have n2_:=Aside0.mk (hbox);have n3_:=Aside0.mk ((by rw [hg];exact (below_size bl_):w.heap.size≤gb196));have n4_:=Aside0.mk ((by rw [hg];exact (below_size bl_):w.heap.size≤gb196));have n5_:=Aside0.mk ((by rw [hg];exact Nat.ne_of_lt (blk_lt (g:=gb189) (o:=.cells #[.int .i64 0,.string (⟨#[]⟩:ByteArray),.int .i64 0,.int .i64 0,.int .i64 0] 41 (0,0)) bk_):gb189 ≠ gb196));have n6_:=Aside0.mk ((by rw [hg];exact Nat.ne_of_gt (blk_lt (g:=gb189) (o:=.cells #[.int .i64 0,.string (⟨#[]⟩:ByteArray),.int .i64 0,.int .i64 0,.int .i64 0] 41 (0,0)) bk_):gb196 ≠ gb189));clear BK189;clear HB;have BK189:=n0_;have HB:=n1_;have BK196:=n2_;have GW196:=n3_;have GE196:=n4_;have NB189_196:=n5_;have NB196_189:=n6_;clear n0_ n1_ n2_ n3_ n4_ n5_ n6_;clear hb hbox hg;have hnb11:=NB196_189.out;have hnc11:=NB189_196.out;obtain ⟨hcz12_0,hcz12_1,hcz12_2,hcz12_3,hcz12_4,hfz12_0,hfz12_1,hfz12_2,hfz12_3,hfz12_4⟩:=blk5_ BK196.out)|((with_reducible refine gate_store (t:=41) (p:=4) rfl ?_);refine store_event (t:=41) (p:=4) (v:=?vo_w13) (w1:=(((((w10.setCell ⟨gb196,0,none⟩ (.int .i64 t190)).setCell ⟨gb196,1,none⟩ (.string t191)).setCell ⟨gb196,2,none⟩ (.int .i64 t192)).setCell ⟨gb196,3,none⟩ (.int .i64 t193)).setCell ⟨gb196,4,none⟩ (.int .i64 t194))) ?hg ?ho ?hn ?hr ?_;(case ho => rfl);(case hg => rfl);(case hn => rfl);(case hr => first|(go_simp;done)|(go_simp;rfl));intro w13 hw;have n0_:Aside0 (w13.heap[gb189]?=some (.cells #[.int .i64 0,.string (⟨#[]⟩:ByteArray),.int .i64 0,.int .i64 0,.int .i64 0] 41 (0,0))):=⟨(by rw [hw];exact bk_)⟩;have n1_:Aside0 (w13.heap[gb196]?=some (.cells #[.int .i64 t190,.string t191,.int .i64 t192,.int .i64 t193,.int .i64 t194] 41 (0,0))):=⟨(by rw [hw];exact (st5_ BK196.out))⟩;have n2_:Aside0 (Below w.heap.size w w13):=⟨(by rw [hw];exact bl_)⟩;clear hw;clear BK189;clear BK196;clear HB;have BK189:=n0_;have BK196:=n1_;have HB:=n2_;clear n0_ n1_ n2_;obtain ⟨hcz14_0,hcz14_1,hcz14_2,hcz14_3,hcz14_4,hfz14_0,hfz14_1,hfz14_2,hfz14_3,hfz14_4⟩:=blk5_ BK196.out;obtain ⟨hcz15_0,hcz15_1,hcz15_2,hcz15_3,hcz15_4,hfz15_0,hfz15_1,hfz15_2,hfz15_3,hfz15_4⟩:=blk5_ BK189.out)|((with_reducible refine gate_store (t:=41) (p:=2) rfl ?_);refine store_event (t:=41) (p:=2) (v:=?vo_w16) (w1:=(((((w13.setCell ⟨gb189,0,none⟩ (.int .i64 t190)).setCell ⟨gb189,1,none⟩ (.string t191)).setCell ⟨gb189,2,none⟩ (.int .i64 t192)).setCell ⟨gb189,3,none⟩ (.int .i64 t193)).setCell ⟨gb189,4,none⟩ (.int .i64 t194))) ?hg ?ho ?hn ?hr ?_;(case ho => rfl);(case hg => rfl);(case hn => rfl);(case hr => first|(go_simp;done)|(go_simp;rfl));intro w16 hw;have n0_:Aside0 (w16.heap[gb189]?=some (.cells #[.int .i64 t190,.string t191,.int .i64 t192,.int .i64 t193,.int .i64 t194] 41 (0,0))):=⟨(by rw [hw];exact (st5_ BK189.out))⟩;have n1_:Aside0 (w16.heap[gb196]?=some (.cells #[.int .i64 t190,.string t191,.int .i64 t192,.int .i64 t193,.int .i64 t194] 41 (0,0))):=⟨(by rw [hw];exact bk_)⟩;have n2_:Aside0 (Below w.heap.size w w16):=⟨(by rw [hw];exact bl_)⟩;clear hw;clear BK189;clear BK196;clear HB;have BK189:=n0_;have BK196:=n1_;have HB:=n2_;clear n0_ n1_ n2_))
    refine bodyPost_ret (results_ct rfl _ _ gb189 41 #[.int .i64 t190,.string t191,.int .i64 t192,.int .i64 t193,.int .i64 t194] (0,0) _ rfl bk_ Try.underlying41 rfl (by kernel_rfl)) rfl ?_
    exact ⟨ew_,bl_⟩
   ·replace c7:=Bool.eq_false_iff.mpr c7
    subst c7
    rw [if_neg (show ¬ (false=true) by decide)] at H
    replace H:=Option.bind_eq_some_iff.mp H
    obtain ⟨t197,A170,H⟩:=H
    try dsimp only at H
    have A17:=Aside0.mk A170
    clear A170
    by_cases c18:t197=true
    ·subst c18
     rw [if_pos rfl] at H
     simp only [Option.some.injEq,Prod.mk.injEq] at H
     obtain ⟨rfl,rfl,rfl,rfl,rfl,rfl⟩:=H
     go_wp2_with (first|(refine callA_ (f:=42) (some 22) Try.func42 #[.string a0] ?_;(with_reducible refine (understudyref08_Plain.calls kj1 a0 true _ A17.out).mono ?_);rintro e w' ⟨rfl,⟨nd,rfl⟩⟩;refine ⟨_,rfl,?_⟩;(try (rw [drewN_self wc];generalize hq_:World.drewN wc _=wc;have n0_:Aside0 (wc.heap[gb189]?=some (.cells #[.int .i64 0,.string (⟨#[]⟩:ByteArray),.int .i64 0,.int .i64 0,.int .i64 0] 41 (0,0))):=⟨by rw [← hq_];exact bk_⟩;have n1_:Aside0 (Below w.heap.size w wc):=⟨by rw [← hq_];exact bl_⟩;clear BK189 HB hq_;have BK189:=n0_;have HB:=n1_;clear n0_ n1_));obtain ⟨hcz19_0,hcz19_1,hcz19_2,hcz19_3,hcz19_4,hfz19_0,hfz19_1,hfz19_2,hfz19_3,hfz19_4⟩:=blk5_ BK189.out)|((with_reducible refine gate_store (t:=41) (p:=2) rfl ?_);refine store_event (t:=41) (p:=2) (v:=?vo_w20) (w1:=(((((wc.setCell ⟨gb189,0,none⟩ (.int .i64 4)).setCell ⟨gb189,1,none⟩ (.string a0)).setCell ⟨gb189,2,none⟩ (.int .i64 0)).setCell ⟨gb189,3,none⟩ (.int .i64 0)).setCell ⟨gb189,4,none⟩ (.int .i64 0))) ?hg ?ho ?hn ?hr ?_;(case ho => rfl);(case hg => rfl);(case hn => rfl);(case hr => first|(go_simp;done)|(go_simp;rfl));intro w20 hw;have n0_:Aside0 (w20.heap[gb189]?=some (.cells #[.int .i64 4,.string a0,.int .i64 0,.int .i64 0,.int .i64 0] 41 (0,0))):=⟨(by rw [hw];exact (st5_ BK189.out))⟩;have n1_:Aside0 (Below w.heap.size w w20):=⟨(by rw [hw];exact bl_)⟩;clear hw;clear BK189;clear HB;have BK189:=n0_;have HB:=n1_;clear n0_ n1_))
     refine bodyPost_ret (results_ct rfl _ _ gb189 41 #[.int .i64 4,.string a0,.int .i64 0,.int .i64 0,.int .i64 0] (0,0) _ rfl bk_ Try.underlying41 rfl (by kernel_rfl)) rfl ?_
     exact ⟨ew_,bl_⟩
    ·replace c18:=Bool.eq_false_iff.mpr c18
     subst c18
     rw [if_neg (show ¬ (false=true) by decide)] at H
     simp only [Option.some.injEq,Prod.mk.injEq] at H
     obtain ⟨rfl,rfl,rfl,rfl,rfl,rfl⟩:=H
     go_wp2_with (first|(refine callA_ (f:=42) (some 22) Try.func42 #[.string a0] ?_;(with_reducible refine (understudyref08_Plain.calls kj1 a0 false _ A17.out).mono ?_);rintro e w' ⟨rfl,⟨nd,rfl⟩⟩;refine ⟨_,rfl,?_⟩;(try (rw [drewN_self wc];generalize hq_:World.drewN wc _=wc;have n0_:Aside0 (wc.heap[gb189]?=some (.cells #[.int .i64 0,.string (⟨#[]⟩:ByteArray),.int .i64 0,.int .i64 0,.int .i64 0] 41 (0,0))):=⟨by rw [← hq_];exact bk_⟩;have n1_:Aside0 (Below w.heap.size w wc):=⟨by rw [← hq_];exact bl_⟩;clear BK189 HB hq_;have BK189:=n0_;have HB:=n1_;clear n0_ n1_));obtain ⟨hcz21_0,hcz21_1,hcz21_2,hcz21_3,hcz21_4,hfz21_0,hfz21_1,hfz21_2,hfz21_3,hfz21_4⟩:=blk5_ BK189.out)|((with_reducible refine gate_store (t:=41) (p:=2) rfl ?_);refine store_event (t:=41) (p:=2) (v:=?vo_w22) (w1:=(((((wc.setCell ⟨gb189,0,none⟩ (.int .i64 0)).setCell ⟨gb189,1,none⟩ (.string (⟨#[]⟩:ByteArray))).setCell ⟨gb189,2,none⟩ (.int .i64 0)).setCell ⟨gb189,3,none⟩ (.int .i64 0)).setCell ⟨gb189,4,none⟩ (.int .i64 0))) ?hg ?ho ?hn ?hr ?_;(case ho => rfl);(case hg => rfl);(case hn => rfl);(case hr => first|(go_simp;done)|(go_simp;rfl));intro w22 hw;have n0_:Aside0 (w22.heap[gb189]?=some (.cells #[.int .i64 0,.string (⟨#[]⟩:ByteArray),.int .i64 0,.int .i64 0,.int .i64 0] 41 (0,0))):=⟨(by rw [hw];exact (st5_ BK189.out))⟩;have n1_:Aside0 (Below w.heap.size w w22):=⟨(by rw [hw];exact bl_)⟩;clear hw;clear BK189;clear HB;have BK189:=n0_;have HB:=n1_;clear n0_ n1_))
     refine bodyPost_ret (results_ct rfl _ _ gb189 41 #[.int .i64 0,.string (⟨#[]⟩:ByteArray),.int .i64 0,.int .i64 0,.int .i64 0] (0,0) _ rfl bk_ Try.underlying41 rfl (by kernel_rfl)) rfl ?_
     exact ⟨ew_,bl_⟩
end Go.Proofs.Ytnihihcopcoabaa.Px
namespace Go.Proofs.Ytnihihcopcoabaa.Px
open Go.RowKit Go.Proofs.YtnihihcopcoabaaW.PrintWords Go.Proofs.YtnihihcopcoabaaW.PrintLast Go.Proofs.YtnihihcopcoabaaW.PrintMore
set_option linter.unusedVariables false
set_option linter.unusedSimpArgs false
structure IsXr (w0 w:World) (fb g:Nat) (vp:Value) (bs:List Int) (p e:Int):Prop where
 R:IsS58 w0 w g bs p
 blk:w.heap[fb]?=some (.cells #[.pointer (some ⟨g,0,none⟩),vp,.int .i64 e] 60 (0,0))
 bel:Below w0.heap.size w0 w
 ge:w0.heap.size≤fb
section
variable {w0 w w1 w2:World} {fb g:Nat} {vp:Value} {bs:List Int} {p e q f:Int}
theorem IsXr.ne (h:IsXr w0 w fb g vp bs p e):fb ≠ g:=by
 rintro rfl
 obtain ⟨A0,c0,hb,_⟩:=h.R
 have:=hb.symm.trans h.blk
 injection this with e
 injection e with _ e
 exact absurd e (by decide)
theorem IsXr.c0 (h:IsXr w0 w fb g vp bs p e):w.cell? ⟨fb,0,none⟩=some (.pointer (some ⟨g,0,none⟩)):=(blk_cell h.blk 0).trans rfl
theorem IsXr.c1 (h:IsXr w0 w fb g vp bs p e):w.cell? ⟨fb,1,none⟩=some vp:=(blk_cell h.blk 1).trans rfl
theorem IsXr.c2 (h:IsXr w0 w fb g vp bs p e):w.cell? ⟨fb,2,none⟩=some (.int .i64 e):=(blk_cell h.blk 2).trans rfl
theorem IsXr.f2 (h:IsXr w0 w fb g vp bs p e):w.frozen? ⟨fb,2,none⟩=false:=blk_frozen h.blk 2
theorem IsXr.drewN (h:IsXr w0 w fb g vp bs p e) (n:Nat):IsXr w0 (w.drewN n) fb g vp bs p e:=⟨h.R.drewN n,h.blk,pw_below_drewN h.bel n,h.ge⟩
theorem IsXr.lt (h:IsXr w0 w fb g vp bs p e):fb < w.heap.size:=blk_lt h.blk
theorem IsXr.setE (h:IsXr w0 w fb g vp bs p e) (x:Int):IsXr w0 (w.setCell ⟨fb,2,none⟩ (.int .i64 x)) fb g vp bs p x:=⟨h.R.far h.ne.symm _,blk_put h.blk 2 _ rfl,below_set h.bel h.ge,h.ge⟩
theorem IsXr.below (h:IsXr w0 w fb g vp bs p e) (hb:Below w.heap.size w w1):IsXr w0 w1 fb g vp bs p e:=⟨h.R.below hb,(hb.block _ h.lt).trans h.blk,h.bel.trans (hb.mono h.bel.size),h.ge⟩
theorem kb_setRow {row:Nat} (h:KeepBut w w1 g (some row)) (j:Nat) (u:Value):KeepBut w (w1.setCell ⟨row,j,none⟩ u) g (some row) :=
 ⟨by simpa [World.setCell] using h.1,fun i hi hg hr => (Below.heap_setCell w1 ⟨row,j,none⟩ u i (fun e => hr (by rw [e]))).trans (h.2 i hi hg hr)⟩
theorem kb_wide (h:KeepBut w w1 g none) (row:Option Nat):KeepBut w w1 g row:=⟨h.1,fun i hi hg _ => h.2 i hi hg (by simp)⟩
theorem kb_R2 {α:Type} {d:Kd α} {t base:Nat} {u:Value} {ok:Nat→Prop} {xs:List α} {row:Nat} (h:KeepBut w w1 g (some row)) (hr:d.R t w base ok u xs) (hg:g < base) (hf:row < base):d.R t w1 base ok u xs :=
 Kd.R_mono (Kd.R_step (Kd.R_bound hr) (fun k hk hl => h.2 k hl (by have:=hk.2.1;omega) (fun e => by injection e with e;have:=hk.2.1;omega))) (fun k hk => hk.1)
theorem KeepBut.blkR {row:Nat} {o:Obj} {i:Nat} (h:KeepBut w w1 g (some row)) (hb:w.heap[i]?=some o) (hg:i ≠ g) (hr:i ≠ row):w1.heap[i]?=some o:=(h.2 i (blk_lt hb) hg (fun x => hr (Option.some.inj x))).trans hb
end
def XrPost (w0 w:World) (fb g:Nat) (vp:Value) (bs:List Int) (p e:Int) (w':World):Prop:=IsXr w0 w' fb g vp bs p e∧KeepBut w w' g (some fb)
section
variable {w0 w w1 w2:World} {fb g:Nat} {vp:Value} {bs:List Int} {p e q f:Int}
theorem XrPost.from (h:KeepBut w w1 g (some fb)) (k:XrPost w0 w1 fb g vp bs p e w2):XrPost w0 w fb g vp bs p e w2:=⟨k.1,h.trans k.2 (.inl rfl)⟩
theorem XrPost.below (h:IsXr w0 w fb g vp bs p e) (hb:Below w.heap.size w w1):XrPost w0 w fb g vp bs p e w1:=⟨h.below hb,KeepBut.of_below hb _ _⟩
end
def xr_num.f (k:Nat) (bs:List Int) (p e n:Int):Option (Int × Int × Int):=if e=0 then (understudyref01_Reader_Uint.f k bs p n).bind fun x => some (if x.2.1=0 then (wrap64 x.1,x.2.2,0) else (0,x.2.2,3)) else some (0,p,e)
set_option maxHeartbeats 8000000 in
set_option maxRecDepth 100000 in
theorem xr_num.calls {k:Nat} {w0 w:World} {fb g:Nat} {vp:Value} {bs:List Int} {p e n x p' e':Int} (hI:IsXr w0 w fb g vp bs p e) (h:xr_num.f k bs p e n=some (x,p',e')) :
  Calls Try.prog 19 #[.pointer (some ⟨fb,0,none⟩),.int .i64 n] w fun r w' => r=.returned (.int .i64 x)∧XrPost w0 w fb g vp bs p' e' w':=by
 have c0:=hI.c0
 have c2:=hI.c2
 unfold xr_num.f at h
 by_cases he:e=0
 ·rw [if_pos he] at h
  have hb:(e != 0)=false:=bne_eq_false_iff_eq.mpr he
  obtain ⟨⟨y,er,q⟩,hx,h⟩:=Option.bind_eq_some_iff.mp h
  have HC:=Aside0.mk (understudyref01_Reader_Uint.calls k g bs p n y er q w0 w hI.R hI.bel hx)
  have HI:=Aside0.mk hI
  clear hI hx
  subst he
  have hv:=Option.some.inj h
  clear h
  dsimp only at hv
  go_enter Try.func19,Try.ntmps19
  go_wp2_with fail
  refine HC.out.mono ?_
  rintro r w2 ⟨rfl,hS,hB,hK⟩
  have HF:Aside0 (XrPost w0 w fb g vp bs q 0 w2):=⟨⟨⟨hS,hK.blk HI.out.blk HI.out.ne (by simp),hB,HI.out.ge⟩,kb_wide hK _⟩⟩
  clear hS hB hK HC HI c0 c2
  by_cases her:er=0
  ·have heb:(er != 0)=false:=bne_eq_false_iff_eq.mpr her
   rw [if_pos her] at hv
   simp only [Prod.mk.injEq] at hv
   obtain ⟨rfl,rfl,rfl⟩:=hv
   subst her
   go_wp2
   go_ret
   exact ⟨rfl,HF.out⟩
  ·have heb:(er != 0)=true:=bne_iff_ne.mpr her
   rw [if_neg her] at hv
   simp only [Prod.mk.injEq] at hv
   obtain ⟨rfl,rfl,rfl⟩:=hv
   clear her
   have f2:=HF.out.1.f2
   have c2:=HF.out.1.c2
   go_wp2
   go_ret
   exact ⟨rfl,HF.out.1.setE _,kb_setRow HF.out.2 2 _⟩
 ·rw [if_neg he] at h
  simp only [Option.some.injEq,Prod.mk.injEq] at h
  obtain ⟨rfl,rfl,rfl⟩:=h
  have hb:(e != 0)=true:=bne_iff_ne.mpr he
  have HI:=Aside0.mk hI
  clear hI he c0
  go_enter Try.func19,Try.ntmps19
  go_wp2
  go_ret
  exact ⟨rfl,HI.out,KeepBut.refl _ _ _⟩
def badE (e:Int) (is:Bool):Int:=if is=true∧e=0 then 100 else e
theorem xr_bad.calls {w0 w:World} {fb g:Nat} {vp:Value} {bs:List Int} {p e:Int} (is:Bool) (hI:IsXr w0 w fb g vp bs p e) :
  Calls Try.prog 20 #[.pointer (some ⟨fb,0,none⟩),.bool is] w fun r w' => r=.returned (.tuple #[])∧XrPost w0 w fb g vp bs p (badE e is) w':=by
 have c2:=hI.c2
 have f2:=hI.f2
 have HI:=Aside0.mk hI
 clear hI
 unfold badE
 cases is with
 | false =>
  rw [if_neg (by simp)]
  go_enter Try.func20,Try.ntmps20
  go_wp2
  go_end0
  exact ⟨rfl,HI.out,KeepBut.refl _ _ _⟩
 | true =>
  by_cases he:e=0
  ·rw [if_pos ⟨rfl,he⟩]
   have hb:(e==0)=true:=beq_iff_eq.mpr he
   clear he
   go_enter Try.func20,Try.ntmps20
   go_wp2
   go_end0
   exact ⟨rfl,HI.out.setE _,kb_setRow (KeepBut.refl _ _ _) 2 _⟩
  ·rw [if_neg (fun h => he h.2)]
   have hb:(e==0)=false:=beq_eq_false_iff_ne.mpr he
   clear he
   go_enter Try.func20,Try.ntmps20
   go_wp2
   go_end0
   exact ⟨rfl,HI.out,KeepBut.refl _ _ _⟩
end Go.Proofs.Ytnihihcopcoabaa.Px
namespace Go.Proofs.Ytnihihcopcoabaa.Px
open Go.RowKit Go.Proofs.YtnihihcopcoabaaW.PrintWords Go.Proofs.YtnihihcopcoabaaW.PrintLast Go.Proofs.YtnihihcopcoabaaW.PrintMore
set_option linter.unusedVariables false
set_option linter.unusedSimpArgs false
def xr_tag.f (k:Nat) (pl:List Cst) (bs:List Int) (t p:Int):Option (Typ × Int × Int) :=
 if t=0 then some (z41,p,0) else if t=1 then some (⟨1,⟨#[]⟩,0,0,0⟩,p,0) else if t=4 then some (⟨2,⟨#[]⟩,0,0,0⟩,p,0) else if t=5 then some (⟨3,⟨#[]⟩,0,0,0⟩,p,0) else if t=6 then some (⟨7,⟨#[]⟩,0,0,0⟩,p,0)
 else if t=7 then (xr_num.f k bs p 0 2).bind fun i => (understudyref04_Class.f pl i.1).bind fun c => (understudyref10_Type.f k c.1).bind fun y => some (⟨y.1,y.2.1,y.2.2.1,y.2.2.2.1,y.2.2.2.2.1⟩,i.2.1,badE i.2.2 (!c.2 || !y.2.2.2.2.2))
 else if t=8 then (xr_num.f k bs p 0 2).bind fun i => some (⟨6,⟨#[]⟩,0,0,i.1⟩,i.2.1,badE i.2.2 (decide (i.1 > 4096)))
 else some (z41,p,100)
def xr_kind.f (k:Nat) (pl:List Cst) (bs:List Int) (p e:Int):Option (Typ × Int × Int):=(xr_num.f k bs p e 1).bind fun t => if t.2.2=0 then xr_tag.f k pl bs t.1 t.2.1 else some (z41,t.2.1,t.2.2)
structure XkSt (w0 w W:World) (fb g:Nat) (vp:Value) (bs:List Int) (p e:Int) (gr:Nat):Prop where
 C:XrPost w0 w fb g vp bs p e W
 k:W.heap[gr]?=some (.cells Z5t 41 (0,0))
 h:w.heap.size≤gr
 lg:g < w.heap.size
 lf:fb < w.heap.size
 hw:w0.heap.size≤w.heap.size
section
variable {w0 w W W':World} {fb g gr:Nat} {vp:Value} {bs:List Int} {p e p' e':Int}
theorem XkSt.step (h:XkSt w0 w W fb g vp bs p e gr) (hR:XrPost w0 W fb g vp bs p' e' W'):XkSt w0 w W' fb g vp bs p' e' gr :=
 ⟨XrPost.from h.C.2 hR,KeepBut.blkR hR.2 h.k (by have:=h.h;have:=h.lg;omega) (by have:=h.h;have:=h.lf;omega),h.h,h.lg,h.lf,h.hw⟩
theorem XkSt.new (h:XkSt w0 w W fb g vp bs p e gr) (hb:Below W.heap.size W W'):XkSt w0 w W' fb g vp bs p e gr:=h.step (XrPost.below h.C.1 hb)
theorem XkSt.one (h:XrPost w0 w fb g vp bs p e W) (hg:w.heap.size≤gr) (lg:g < w.heap.size) (lf:fb < w.heap.size) (hw:w0.heap.size≤w.heap.size) (j:Nat) (u:Value):XrPost w0 w fb g vp bs p e (W.setCell ⟨gr,j,none⟩ u) :=
 ⟨⟨h.1.R.far (by show g ≠ gr;omega) _,blk_far h.1.blk (by show fb ≠ gr;omega) u,below_set h.1.bel (by omega),h.1.ge⟩,keep_far h.2 hg _⟩
theorem XkSt.fin (h:XkSt w0 w W fb g vp bs p e gr) (u0 u1 u2 u3 u4:Value):XrPost w0 w fb g vp bs p e (((((W.setCell ⟨gr,0,none⟩ u0).setCell ⟨gr,1,none⟩ u1).setCell ⟨gr,2,none⟩ u2).setCell ⟨gr,3,none⟩ u3).setCell ⟨gr,4,none⟩ u4):=by
 have one:=fun W (hW:XrPost w0 w fb g vp bs p e W) j u => XkSt.one (W:=W) hW h.h h.lg h.lf h.hw j u
 exact one _ (one _ (one _ (one _ (one _ h.C 0 u0) 1 u1) 2 u2) 3 u3) 4 u4
end
set_option maxHeartbeats 16000000 in
set_option maxRecDepth 100000 in
theorem xr_kind.calls {k:Nat} {w0 w:World} {fb g:Nat} {bs:List Int} {p e p' e':Int} {Ap:Option Addr} {cp:Nat} {pl:List Cst} {x:Typ} (hI:IsXr w0 w fb g (.slice Ap pl.length cp) bs p e) (hP:Kd.C k70 w0 Ap pl.length pl) (hPC:pl.length≤cp) (h:xr_kind.f k pl bs p e=some (x,p',e')) :
  Calls Try.prog 31 #[.pointer (some ⟨fb,0,none⟩)] w fun r w' => r=.returned (typV x)∧XrPost w0 w fb g (.slice Ap pl.length cp) bs p' e' w':=by
 have hu:=Try.underlying41
 have HI:=Aside0.mk hI
 have HP:=Aside0.mk hP
 have HPC:=Aside0.mk hPC
 obtain ⟨⟨t,q,et⟩,ht,h⟩:=Option.bind_eq_some_iff.mp h
 have HT:=Aside0.mk ht
 have HH:=Aside0.mk h
 clear hI hP hPC ht h
 go_enter Try.func31,Try.ntmps31
 go_upto_region 1 with fail
 obtain ⟨W,hW⟩:∃ W,W=w.alloc (.cells Z5t 41 (0,0)):=⟨_,rfl⟩
 obtain ⟨gr,hgr⟩:∃ gr,gr=w.heap.size:=⟨_,rfl⟩
 rw [← hW,← hgr]
 have hb:Below w.heap.size w W:=by rw [hW];exact below_alloc (Below.refl _ _) _
 have HS:Aside0 (XkSt w0 w W fb g (.slice Ap pl.length cp) bs p e gr):=⟨XrPost.below HI.out hb,by rw [hW,hgr];exact blk_new _ _,by rw [hgr];exact Nat.le_refl _,HI.out.R.lt,HI.out.lt,HI.out.bel.size⟩
 clear hW hgr hb HI
 go_wp2_with fail
 refine (xr_num.calls HS.out.C.1 HT.out).mono ?_
 clear HT
 rintro _ W1 ⟨rfl,hR⟩
 have HS1:=Aside0.mk (HS.out.step hR)
 have h:=HH.out
 clear hR HS HH
 try dsimp only at h
 have c2:=HS1.out.C.1.c2
 by_cases he:et=0
 case neg =>
  rw [if_neg he] at h
  simp only [Option.some.injEq,Prod.mk.injEq] at h
  obtain ⟨rfl,rfl,rfl⟩:=h
  have be:(et != 0)=true:=bne_iff_ne.mpr he
  clear he
  obtain ⟨g0,g1,g2,g3,g4,f0,f1,f2,f3,f4⟩:=blk5_ HS1.out.k
  go_wp2
  refine bodyPost_ret (results_cell_row rfl _ _ gr 41 _ (0,0) _ rfl (st5_ HS1.out.k) hu rfl (by kernel_rfl)) rfl ?_
  exact ⟨rfl,HS1.out.fin _ _ _ _ _⟩
 rw [if_pos he] at h
 subst he
 have be:((0:Int) != 0)=false:=rfl
 unfold xr_tag.f at h
 by_cases q0:t=0
 ·rw [if_pos q0] at h
  simp only [Option.some.injEq,Prod.mk.injEq] at h
  obtain ⟨rfl,rfl,rfl⟩:=h
  have b0:(t==0)=true:=beq_iff_eq.mpr q0
  clear q0 
  obtain ⟨g0,g1,g2,g3,g4,f0,f1,f2,f3,f4⟩:=blk5_ HS1.out.k
  go_wp2
  refine bodyPost_ret (results_cell_row rfl _ _ gr 41 _ (0,0) _ rfl (st5_ HS1.out.k) hu rfl (by kernel_rfl)) rfl ?_
  exact ⟨rfl,HS1.out.fin _ _ _ _ _⟩
 rw [if_neg q0] at h
 have b0:(t==0)=false:=beq_eq_false_iff_ne.mpr q0
 by_cases q1:t=1
 ·rw [if_pos q1] at h
  simp only [Option.some.injEq,Prod.mk.injEq] at h
  obtain ⟨rfl,rfl,rfl⟩:=h
  have b1:(t==1)=true:=beq_iff_eq.mpr q1
  clear q1 q0
  obtain ⟨g0,g1,g2,g3,g4,f0,f1,f2,f3,f4⟩:=blk5_ HS1.out.k
  go_wp2
  refine bodyPost_ret (results_cell_row rfl _ _ gr 41 _ (0,0) _ rfl (st5_ HS1.out.k) hu rfl (by kernel_rfl)) rfl ?_
  exact ⟨rfl,HS1.out.fin _ _ _ _ _⟩
 rw [if_neg q1] at h
 have b1:(t==1)=false:=beq_eq_false_iff_ne.mpr q1
 by_cases q4:t=4
 ·rw [if_pos q4] at h
  simp only [Option.some.injEq,Prod.mk.injEq] at h
  obtain ⟨rfl,rfl,rfl⟩:=h
  have b4:(t==4)=true:=beq_iff_eq.mpr q4
  clear q4 q0 q1
  obtain ⟨g0,g1,g2,g3,g4,f0,f1,f2,f3,f4⟩:=blk5_ HS1.out.k
  go_wp2
  refine bodyPost_ret (results_cell_row rfl _ _ gr 41 _ (0,0) _ rfl (st5_ HS1.out.k) hu rfl (by kernel_rfl)) rfl ?_
  exact ⟨rfl,HS1.out.fin _ _ _ _ _⟩
 rw [if_neg q4] at h
 have b4:(t==4)=false:=beq_eq_false_iff_ne.mpr q4
 by_cases q5:t=5
 ·rw [if_pos q5] at h
  simp only [Option.some.injEq,Prod.mk.injEq] at h
  obtain ⟨rfl,rfl,rfl⟩:=h
  have b5:(t==5)=true:=beq_iff_eq.mpr q5
  clear q5 q0 q1 q4
  obtain ⟨g0,g1,g2,g3,g4,f0,f1,f2,f3,f4⟩:=blk5_ HS1.out.k
  go_wp2
  refine bodyPost_ret (results_cell_row rfl _ _ gr 41 _ (0,0) _ rfl (st5_ HS1.out.k) hu rfl (by kernel_rfl)) rfl ?_
  exact ⟨rfl,HS1.out.fin _ _ _ _ _⟩
 rw [if_neg q5] at h
 have b5:(t==5)=false:=beq_eq_false_iff_ne.mpr q5
 by_cases q6:t=6
 ·rw [if_pos q6] at h
  simp only [Option.some.injEq,Prod.mk.injEq] at h
  obtain ⟨rfl,rfl,rfl⟩:=h
  have b6:(t==6)=true:=beq_iff_eq.mpr q6
  clear q6 q0 q1 q4 q5
  obtain ⟨g0,g1,g2,g3,g4,f0,f1,f2,f3,f4⟩:=blk5_ HS1.out.k
  go_wp2
  refine bodyPost_ret (results_cell_row rfl _ _ gr 41 _ (0,0) _ rfl (st5_ HS1.out.k) hu rfl (by kernel_rfl)) rfl ?_
  exact ⟨rfl,HS1.out.fin _ _ _ _ _⟩
 rw [if_neg q6] at h
 have b6:(t==6)=false:=beq_eq_false_iff_ne.mpr q6
 by_cases q7:t=7
 ·rw [if_pos q7] at h
  have b7:(t==7)=true:=beq_iff_eq.mpr q7
  clear q7 q0 q1 q4 q5 q6
  obtain ⟨⟨i,p2,e2⟩,hi,h⟩:=Option.bind_eq_some_iff.mp h
  obtain ⟨⟨c1,cb⟩,hc,h⟩:=Option.bind_eq_some_iff.mp h
  obtain ⟨⟨y1,y2,y3,y4,y5,y6⟩,hy,h⟩:=Option.bind_eq_some_iff.mp h
  have HT:=Aside0.mk hi
  have HC:=Aside0.mk hc
  have HY:=Aside0.mk hy
  have HO:=Aside0.mk (Option.some.inj h)
  clear hi hc hy h
  go_upto_region 16 with fail
  clear b0 b1 b4 b5 b6 b7 c2 be
  have G0:=Aside0.mk (HS1.out.new (below_drew (Below.refl _ _)))
  have cp0:=G0.out.C.1.c1
  clear HS1
  refine start_ (n:=12) (S:=fun w' => w'.cell? ⟨fb,1,none⟩=some (.slice Ap pl.length cp)) (ds:=[]) #[false,false,false,false,false,false,false,false,false,false,false,false] (by kernel_rfl) rfl rfl (cp0) (fun hHeld => ?_)
  refine pure_ (i:=0) (N:=some 36) (v:=?_) (a':=?_) #[true,false,false,false,false,false,false,false,false,false,false,false] rfl rfl (by kernel_rfl) (fun _ _ _ h => h) (Or.inl ⟨by rfl,?_⟩) ?_ ?_
  rotate_left
  ·intro w'
   go_simp
   with_reducible rfl
  rotate_left
  ·simp only [Act.put,List.setIfInBounds_toArray,List.set_cons_zero,List.set_cons_succ,i64_w,i32_w]
   rfl
  refine pure_ (i:=1) (N:=some 37) (v:=?_) (a':=?_) #[true,true,false,false,false,false,false,false,false,false,false,false] rfl rfl (by kernel_rfl) (fun _ _ _ h => h) (Or.inl ⟨by rfl,?_⟩) ?_ ?_
  rotate_left
  ·intro w'
   go_simp
   with_reducible rfl
  rotate_left
  ·simp only [Act.put,List.setIfInBounds_toArray,List.set_cons_zero,List.set_cons_succ,i64_w,i32_w]
   rfl
  refine pure_ (i:=2) (N:=some 38) (v:=?_) (a':=?_) #[true,true,true,false,false,false,false,false,false,false,false,false] rfl rfl (by kernel_rfl) (fun _ _ _ h => h) (Or.inl ⟨by rfl,?_⟩) ?_ ?_
  rotate_left
  ·intro w'
   go_simp
   with_reducible rfl
  rotate_left
  ·simp only [Act.put,List.setIfInBounds_toArray,List.set_cons_zero,List.set_cons_succ,i64_w,i32_w]
   rfl
  refine pure_ (i:=4) (N:=some 40) (v:=?_) (a':=?_) #[true,true,true,false,true,false,false,false,false,false,false,false] rfl rfl (by kernel_rfl) (fun _ _ _ h => h) (Or.inl ⟨by rfl,?_⟩) ?_ ?_
  rotate_left
  ·intro w'
   go_simp
   with_reducible rfl
  rotate_left
  ·simp only [Act.put,List.setIfInBounds_toArray,List.set_cons_zero,List.set_cons_succ,i64_w,i32_w]
   rfl
  refine take_ (i:=3) (N:=some 39) (v:=?_) (a':=?_) #[true,true,true,true,true,false,false,false,false,false,false,false] rfl rfl (by kernel_rfl) (fun _ _ _ h => h) (Or.inl ⟨by rfl,?_⟩) hHeld ?_ ?_
  rotate_left
  ·intro w' s0
   go_simp
   with_reducible rfl
  rotate_left
  ·simp only [Act.put,List.setIfInBounds_toArray,List.set_cons_zero,List.set_cons_succ,i64_w,i32_w]
   rfl
  refine one_ (i:=5) (N:=some 41) #[true,true,true,true,true,true,false,false,false,false,false,false] rfl rfl (by kernel_rfl) (by decide) (fun K hK => ?_)
  refine goes_ Try.func19 (by kernel_rfl) rfl #[.pointer (some ⟨fb,0,none⟩),.int .i64 2] (by rfl) rfl rfl (by simp only [List.map_toArray,List.map_cons,List.map_nil];rfl) ?_
  refine (xr_num.calls G0.out.C.1 HT.out).mono ?_
  rintro _ W2 ⟨rfl,hR⟩
  refine ⟨_,rfl,?_⟩
  have G1:=Aside0.mk (G0.out.step hR)
  have cp1:=G1.out.C.1.c1
  clear hR
  refine hK.out _ _ (cp1) (fun hHeld => ?_)
  clear hK K
  refine norm_ (a':=?_) ?_ ?_
  rotate_left
  ·show Act.put _ (some 41) _=_
   simp only [Act.put,List.setIfInBounds_toArray,List.set_cons_zero,List.set_cons_succ,i64_w,i32_w]
   rfl
  refine one_ (i:=6) (N:=some 42) #[true,true,true,true,true,true,true,false,false,false,false,false] rfl rfl (by kernel_rfl) (by decide) (fun K hK => ?_)
  refine goes_ Try.func34 (by kernel_rfl) rfl #[.slice Ap pl.length cp,.int .i64 i] (by rfl) rfl rfl (by simp only [List.map_toArray,List.map_cons,List.map_nil];rfl) ?_
  refine (understudyref04_Class.calls Ap cp pl i c1 cb W2 (Kd.C_below HP.out G1.out.C.1.bel) HPC.out HC.out).mono ?_
  rintro _ W3 ⟨rfl,⟨⟨n,rfl⟩⟩⟩
  refine ⟨_,rfl,?_⟩
  have G2:=Aside0.mk (G1.out.new (pw_below_drewN (Below.refl _ _) n))
  have cp2:=G2.out.C.1.c1
  refine hK.out _ _ (cp2) (fun hHeld => ?_)
  clear hK K
  refine norm_ (a':=?_) ?_ ?_
  rotate_left
  ·show Act.put _ (some 42) _=_
   simp only [Act.put,List.setIfInBounds_toArray,List.set_cons_zero,List.set_cons_succ,i64_w,i32_w]
   rfl
  refine pure_ (i:=7) (N:=some 35) (v:=?_) (a':=?_) #[true,true,true,true,true,true,true,true,false,false,false,false] rfl rfl (by kernel_rfl) (fun _ _ _ h => h) (Or.inl ⟨by rfl,?_⟩) ?_ ?_
  rotate_left
  ·intro w'
   go_simp
   with_reducible rfl
  rotate_left
  ·simp only [Act.put,List.setIfInBounds_toArray,List.set_cons_zero,List.set_cons_succ,i64_w,i32_w]
   rfl
  refine pure_ (i:=8) (N:=some 43) (v:=?_) (a':=?_) #[true,true,true,true,true,true,true,true,true,false,false,false] rfl rfl (by kernel_rfl) (fun _ _ _ h => h) (Or.inl ⟨by rfl,?_⟩) ?_ ?_
  rotate_left
  ·intro w'
   go_simp
   with_reducible rfl
  rotate_left
  ·simp only [Act.put,List.setIfInBounds_toArray,List.set_cons_zero,List.set_cons_succ,i64_w,i32_w]
   rfl
  refine pure_ (i:=9) (N:=some 44) (v:=?_) (a':=?_) #[true,true,true,true,true,true,true,true,true,true,false,false] rfl rfl (by kernel_rfl) (fun _ _ _ h => h) (Or.inl ⟨by rfl,?_⟩) ?_ ?_
  rotate_left
  ·intro w'
   go_simp
   with_reducible rfl
  rotate_left
  ·simp only [Act.put,List.setIfInBounds_toArray,List.set_cons_zero,List.set_cons_succ,i64_w,i32_w]
   rfl
  refine pure_ (i:=10) (N:=some 4) (v:=?_) (a':=?_) #[true,true,true,true,true,true,true,true,true,true,true,false] rfl rfl (by kernel_rfl) (fun _ _ _ h => h) (Or.inl ⟨by rfl,?_⟩) ?_ ?_
  rotate_left
  ·intro w'
   go_simp
   with_reducible rfl
  rotate_left
  ·simp only [Act.put,List.setIfInBounds_toArray,List.set_cons_zero,List.set_cons_succ,i64_w,i32_w]
   rfl
  refine pure_ (i:=11) (N:=some 5) (v:=?_) (a':=?_) #[true,true,true,true,true,true,true,true,true,true,true,true] rfl rfl (by kernel_rfl) (fun _ _ _ h => h) (Or.inl ⟨by rfl,?_⟩) ?_ ?_
  rotate_left
  ·intro w'
   go_simp
   with_reducible rfl
  rotate_left
  ·simp only [Act.put,List.setIfInBounds_toArray,List.set_cons_zero,List.set_cons_succ,i64_w,i32_w]
   rfl
  refine done_ (by kernel_rfl) ?_
  clear hHeld cp0 cp1 cp2 G0 G1 HC HT
  go_wp2_with fail
  refine (understudyref10_Type.calls k c1 y1 y2 y3 y4 y5 y6 _ HY.out).mono ?_
  rintro _ W4 ⟨rfl,hb4⟩
  have HS4:=Aside0.mk (G2.out.new hb4)
  clear hb4 G2 HY
  go_upto_region 18 with fail
  obtain ⟨W5,hW⟩:∃ W5,W5=W4.alloc (.cells #[.int .i64 y1,.string y2,.int .i64 y3,.int .i64 y4,.int .i64 y5] 41 (0,0)):=⟨_,rfl⟩
  obtain ⟨gt,hgt⟩:∃ gt,gt=W4.heap.size:=⟨_,rfl⟩
  rw [← hW,← hgt]
  have hb5:Below W4.heap.size W4 W5:=by rw [hW];exact below_alloc (Below.refl _ _) _
  have HS5:=Aside0.mk (HS4.out.new hb5)
  have HK5:=Aside0.mk (show W5.heap[gt]?=some (.cells #[.int .i64 y1,.string y2,.int .i64 y3,.int .i64 y4,.int .i64 y5] 41 (0,0)) from by rw [hW,hgt];exact blk_new _ _)
  have HG5:Aside0 (w.heap.size≤gt):=⟨by rw [hgt];exact HS4.out.C.2.1⟩
  have HN5:Aside0 (gt ≠ fb∧gt ≠ g):=⟨by have:=HG5.out;have:=HS5.out.lf;have:=HS5.out.lg;omega⟩
  clear hW hgt hb5 HS4
  have ho:=HO.out
  clear HO
  simp only [Prod.mk.injEq] at ho
  obtain ⟨rfl,rfl,rfl⟩:=ho
  have hend:∀ W6,XrPost w0 W5 fb g (.slice Ap pl.length cp) bs p2 (badE e2 (!cb || !y6)) W6→XkSt w0 w W6 fb g (.slice Ap pl.length cp) bs p2 (badE e2 (!cb || !y6)) gr∧W6.heap[gt]?=some (.cells #[.int .i64 y1,.string y2,.int .i64 y3,.int .i64 y4,.int .i64 y5] 41 (0,0)):=fun W6 hR => ⟨HS5.out.step hR,KeepBut.blkR hR.2 HK5.out HN5.out.2 HN5.out.1⟩
  have HE:=Aside0.mk hend
  clear hend
  cases cb <;> cases y6
  all_goals
   go_wp2_with fail
   refine (xr_bad.calls _ HS5.out.C.1).mono ?_
   rintro _ W6 ⟨rfl,hR⟩
   obtain ⟨hs6,hk6⟩:=HE.out W6 hR
   have HS6:=Aside0.mk hs6
   clear hs6 hR HE HS5 HK5
   obtain ⟨t0,t1,t2,t3,t4,_⟩:=blk5_ hk6
   clear hk6
   obtain ⟨g0,g1,g2,g3,g4,f0,f1,f2,f3,f4⟩:=blk5_ HS6.out.k
   go_wp2
   refine bodyPost_ret (results_cell_row rfl _ _ gr 41 _ (0,0) _ rfl (st5_ HS6.out.k) hu rfl (by kernel_rfl)) rfl ?_
   exact ⟨rfl,HS6.out.fin _ _ _ _ _⟩
 rw [if_neg q7] at h
 have b7:(t==7)=false:=beq_eq_false_iff_ne.mpr q7
 by_cases q8:t=8
 ·rw [if_pos q8] at h
  have b8:(t==8)=true:=beq_iff_eq.mpr q8
  clear q8 q0 q1 q4 q5 q6 q7
  obtain ⟨⟨i,p2,e2⟩,hi,h⟩:=Option.bind_eq_some_iff.mp h
  have HT:=Aside0.mk hi
  have HO:=Aside0.mk (Option.some.inj h)
  clear hi h
  go_wp2_with fail
  clear b0 b1 b4 b5 b6 b7 b8 c2 be
  refine (xr_num.calls HS1.out.C.1 HT.out).mono ?_
  clear HT
  rintro _ W2 ⟨rfl,hR⟩
  have HS2:=Aside0.mk (HS1.out.step hR)
  have ho:=HO.out
  clear hR HS1 HO
  simp only [Prod.mk.injEq] at ho
  obtain ⟨rfl,rfl,ho⟩:=ho
  obtain ⟨B,hB⟩:∃ B,decide (i > 4096)=B:=⟨_,rfl⟩
  rw [hB] at ho
  subst ho
  cases B
  all_goals
   go_wp2_with fail
   refine (xr_bad.calls _ HS2.out.C.1).mono ?_
   rintro _ W6 ⟨rfl,hR⟩
   have HS6:=Aside0.mk (HS2.out.step hR)
   clear hR HS2 hB
   obtain ⟨g0,g1,g2,g3,g4,f0,f1,f2,f3,f4⟩:=blk5_ HS6.out.k
   go_wp2
   refine bodyPost_ret (results_cell_row rfl _ _ gr 41 _ (0,0) _ rfl (st5_ HS6.out.k) hu rfl (by kernel_rfl)) rfl ?_
   exact ⟨rfl,HS6.out.fin _ _ _ _ _⟩
 rw [if_neg q8] at h
 have b8:(t==8)=false:=beq_eq_false_iff_ne.mpr q8
 simp only [Option.some.injEq,Prod.mk.injEq] at h
 obtain ⟨rfl,rfl,rfl⟩:=h
 clear q8 q0 q1 q4 q5 q6 q7
 go_wp2_with fail
 clear b0 b1 b4 b5 b6 b7 b8 c2 be
 refine (xr_bad.calls true HS1.out.C.1).mono ?_
 rintro _ W6 ⟨rfl,hR⟩
 have HS6:=Aside0.mk (HS1.out.step hR)
 clear hR HS1
 obtain ⟨g0,g1,g2,g3,g4,f0,f1,f2,f3,f4⟩:=blk5_ HS6.out.k
 go_wp2
 refine bodyPost_ret (results_cell_row rfl _ _ gr 41 _ (0,0) _ rfl (st5_ HS6.out.k) hu rfl (by kernel_rfl)) rfl ?_
 exact ⟨rfl,HS6.out.fin _ _ _ _ _⟩
end Go.Proofs.Ytnihihcopcoabaa.Px
namespace Go.Proofs.Ytnihihcopcoabaa.Px
open Go.RowKit Go.Proofs.YtnihihcopcoabaaW.PrintWords Go.Proofs.YtnihihcopcoabaaW.PrintLast Go.Proofs.YtnihihcopcoabaaW.PrintMore
set_option linter.unusedVariables false
set_option linter.unusedSimpArgs false
def xr_list.f (k:Nat) (pl:List Cst) (bs:List Int):Nat→List Typ→Int→Int→Option (List Typ × Int × Int)
 | 0,l,p,e => some (l,p,e)
 | m + 1,l,p,e => if e=0 then (if l.length≤64 then (xr_kind.f k pl bs p e).bind fun t => xr_list.f k pl bs m (l++[t.1]) t.2.1 t.2.2 else none) else some (l,p,e)
def xr_kinds.f (k:Nat) (pl:List Cst) (bs:List Int) (p e:Int):Option (List Typ × Int × Int):=(xr_num.f k bs p e 2).bind fun n => xr_list.f k pl bs n.1.toNat [] n.2.1 (badE n.2.2 (decide (n.1 > 64)))
structure XlSt (w0 w W:World) (fb g:Nat) (vp:Value) (bs:List Int) (p e:Int):Prop where
 C:XrPost w0 w fb g vp bs p e W
 lg:g < w.heap.size
 lf:fb < w.heap.size
 hw:w0.heap.size≤w.heap.size
section
variable {w0 w W W':World} {fb g gr:Nat} {vp:Value} {bs:List Int} {p e p' e':Int}
theorem XlSt.step (h:XlSt w0 w W fb g vp bs p e) (hR:XrPost w0 W fb g vp bs p' e' W'):XlSt w0 w W' fb g vp bs p' e':=⟨XrPost.from h.C.2 hR,h.lg,h.lf,h.hw⟩
theorem XlSt.new (h:XlSt w0 w W fb g vp bs p e) (hb:Below W.heap.size W W'):XlSt w0 w W' fb g vp bs p e:=h.step (XrPost.below h.C.1 hb)
theorem XlSt.grown {α:Type} {d:Kd α} {t N:Nat} {u:Value} {ok:Nat→Prop} {l:List α} (h:XlSt w0 w W fb g vp bs p e) (hR:d.R t W N ok u l) (ht:t ≠ 58∧t ≠ 60) (hN:w.heap.size≤N) (hB:Below N W W') (hg:W.grownBy W' u.ownBlock):XlSt w0 w W' fb g vp bs p e :=
 ⟨⟨⟨h.C.1.R.grown hg (h.C.1.R.own_ne hR ht.1),(hg.block _ (blk_lt h.C.1.blk) (Kd.R_ne hR h.C.1.blk ht.2)).trans h.C.1.blk,h.C.1.bel.trans (hB.mono (Nat.le_trans h.hw hN)),h.C.1.ge⟩,⟨Nat.le_trans h.C.2.1 hB.size,fun i hi hg1 hr1 => (hB.block i (Nat.lt_of_lt_of_le hi hN)).trans (h.C.2.2 i hi hg1 hr1)⟩⟩,h.lg,h.lf,h.hw⟩
end
theorem fewer2 {i:Nat} {n:Int} (h:(i:Int) < n) (hn:i≤64):(n - wrap64 ((i:Int) + 1)).toNat < (n - (i:Int)).toNat:=by
 have e:wrap64 ((i:Int) + 1)=(i:Int) + 1:=by unfold wrap64;omega
 rw [e]
 omega
set_option maxHeartbeats 16000000 in
set_option maxRecDepth 100000 in
theorem xr_kinds.calls {k:Nat} {w0 w:World} {fb g:Nat} {bs:List Int} {p e p' e':Int} {Ap:Option Addr} {cp:Nat} {pl:List Cst} {x:List Typ} (hI:IsXr w0 w fb g (.slice Ap pl.length cp) bs p e) (hP:Kd.C k70 w0 Ap pl.length pl) (hPC:pl.length≤cp) (h:xr_kinds.f k pl bs p e=some (x,p',e')) :
  Calls Try.prog 21 #[.pointer (some ⟨fb,0,none⟩)] w fun r w' => ∃ v:Value,r=.returned v∧Kd.R k41 41 w' w.heap.size (fun _ => True) v x∧XrPost w0 w fb g (.slice Ap pl.length cp) bs p' e' w':=by
 have hu:=Try.underlying41
 have HS:Aside0 (XlSt w0 w w fb g (.slice Ap pl.length cp) bs p e):=⟨⟨hI,KeepBut.refl _ _ _⟩,hI.R.lt,hI.lt,hI.bel.size⟩
 have HP:=Aside0.mk hP
 have HPC:=Aside0.mk hPC
 obtain ⟨⟨n,q,et⟩,ht,h⟩:=Option.bind_eq_some_iff.mp h
 have HT:=Aside0.mk ht
 try dsimp only at h
 obtain ⟨B,hB⟩:∃ B,decide (n > 64)=B:=⟨_,rfl⟩
 rw [hB] at h
 have HH:=Aside0.mk h
 clear hI hP hPC ht h
 go_enter Try.func21,Try.ntmps21
 go_wp2_with fail
 refine (xr_num.calls HS.out.C.1 HT.out).mono ?_
 clear HT
 rintro _ W1 ⟨rfl,hR⟩
 have HS1:=Aside0.mk (HS.out.step hR)
 clear hR HS
 go_wp2_with fail
 clear hB
 refine (xr_bad.calls _ HS1.out.C.1).mono ?_
 rintro _ W2 ⟨rfl,hR⟩
 have HS2:=Aside0.mk (HS1.out.step hR)
 clear hR HS1
 obtain ⟨e2,he2⟩:∃ e2,badE et B=e2:=⟨_,rfl⟩
 rw [he2] at HS2 HH
 clear he2
 go_wp2_with fail
 go_loopw [4,5] (fun v4 v5 wr => ∃ (A:Option Addr) (l:List Typ) (c:Nat) (q f:Int),v4=.slice A l.length c∧v5=.int .i64 (l.length:Int)∧Aside0 (xr_list.f k pl bs (n - l.length).toNat l q f=some (x,p',e'))∧Aside0 (XlSt w0 w wr fb g (.slice Ap pl.length cp) bs q f)∧Aside0 (Kd.R k41 41 wr w.heap.size (fun _ => True) (.slice A l.length c) l)) (fun _ v5 _ => (n - intOf v5).toNat)
 case atStart => exact ⟨none,[],0,q,e2,rfl,rfl,⟨by have:=HH.out;simpa using this⟩,HS2,⟨Kd.R_nil _ _ _ _ _⟩⟩
 case round =>
  obtain ⟨A,l,c,q,f,rfl,rfl,HT,HS,HR⟩:=hrel
  clear HS2 HH
  have cf:=HS.out.C.1.c2
  by_cases hx:(l.length:Int) < n
  ·have hpx:decide ((l.length:Int) < n)=true:=decide_eq_true hx
   obtain ⟨m,hm⟩:∃ m,(n - (l.length:Int)).toNat=m + 1:=⟨(n - (l.length:Int)).toNat - 1,by omega⟩
   have hT:=HT.out
   rw [hm] at hT
   simp only [xr_list.f] at hT
   by_cases hf:f=0
   ·rw [if_pos hf] at hT
    have hfb:(f==0)=true:=beq_iff_eq.mpr hf
    by_cases hll:l.length≤64
    case neg => rw [if_neg hll] at hT;cases hT
    rw [if_pos hll] at hT
    obtain ⟨⟨t,q2,f2⟩,ht,hT⟩:=Option.bind_eq_some_iff.mp hT
    have HX:=Aside0.mk ht
    have HT2:=Aside0.mk hT
    have HM:=Aside0.mk hm
    have HLT:=Aside0.mk hx
    have HN:=Aside0.mk hll
    clear hT HT hm hx ht hf hll
    go_wp2_with fail
    refine (xr_kind.calls HS.out.C.1 HP.out HPC.out HX.out).mono ?_
    clear HX
    rintro _ W3 ⟨rfl,hR⟩
    have HS3:=Aside0.mk (HS.out.step hR)
    have HR3:=Aside0.mk (kb_R2 hR.2 HR.out HS.out.lg HS.out.lf)
    clear hR HS HR cf hfb hpx
    go_wp2_with (at_builtin;refine Kd.R_append k41 (w0:=W3) w.heap.size rfl (.tmp 24) (.tmp 27) 47 41 (.agg #[(.int .i64 0),(.string ⟨#[]⟩),(.int .i64 0),(.int .i64 0),(.int .i64 0)]) 48 rfl Try.underlying47 infoTyp rfl (by decide) (by omega) (.slice A l.length c) l t [.int .i64 t.f0,.string t.f1,.int .i64 t.f2,.int .i64 t.f3,.int .i64 t.f4] (fun _ => True) (fun _ => False) rfl rfl (k41_mkM _ _ _ _) (fun _ hk => hk.elim) (fun _ _ => trivial) HR3.out (Below.refl _ _) HS3.out.C.2.1 ?aL ?_)
    case aL => have:=HN.out;omega
    intro v1 w5 hR5 hB5 hg5 ho5
    obtain ⟨A5,c5,hv5⟩:=Kd.R_slice hR5
    subst hv5
    have HR5:=Aside0.mk hR5
    have HS5:=Aside0.mk (HS3.out.grown HR3.out (by decide) (Nat.le_refl _) hB5 hg5)
    clear hR5 hB5 hg5 ho5 HR3 HS3
    go_wp2
    go_roundw
    case measure => rw [intOf_int,intOf_int];exact fewer2 HLT.out HN.out
    case rel =>
     have hx:=HLT.out
     have hn:=HN.out
     have hm:=HM.out
     refine ⟨A5,l++[t],c5,q2,f2,rfl,congrArg (Value.int .i64) (by rw [List.length_append,List.length_singleton];unfold wrap64;omega),⟨?_⟩,HS5,HR5⟩
     rw [List.length_append,List.length_singleton,show (n - ((l.length + 1:Nat):Int)).toNat=m from by omega]
     exact HT2.out
   ·rw [if_neg hf] at hT
    have hfb:(f==0)=false:=beq_eq_false_iff_ne.mpr hf
    simp only [Option.some.injEq,Prod.mk.injEq] at hT
    obtain ⟨rfl,rfl,rfl⟩:=hT
    clear HT hx hf hm
    go_wp2
    go_ret
    exact ⟨_,rfl,HR.out,HS.out.C⟩
  ·have hpx:decide ((l.length:Int) < n)=false:=decide_eq_false hx
   have hT:=HT.out
   rw [show (n - (l.length:Int)).toNat=0 from by omega] at hT
   simp only [xr_list.f,Option.some.injEq,Prod.mk.injEq] at hT
   obtain ⟨rfl,rfl,rfl⟩:=hT
   clear HT hx
   go_wp2
   go_ret
   exact ⟨_,rfl,HR.out,HS.out.C⟩
end Go.Proofs.Ytnihihcopcoabaa.Px
