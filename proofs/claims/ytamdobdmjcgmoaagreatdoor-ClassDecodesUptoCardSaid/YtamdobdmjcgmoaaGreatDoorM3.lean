/- class.reader.method: a method of bytes. -/
/- text.Decode's inner function: the next unit of the bytes that are left; the walk of it. -/
/- strings.Builder: copyCheck, at a builder that lies where it was made; WriteRune, by the printed contract of utf8.AppendRune. -/
/- text.Decode: what it computes, as a Lean function, and the walk of it. -/
/- pool.constant and its closure: what they compute, as Lean functions, and the walks over wire.Reader's contracts. -/
/- pool.Decode: what it computes, as a Lean function, and the walk over wire.Reader's, pool.constant's and pool.Check's contracts. -/
import Derived.Test.YtamdobdmjcgmoaaGreatDoorM2
import Derived.Test.YtamdobdmjcgmoaaGreatDoorM1
import Derived.Lib.Bytes
import Derived.Deep.CutBlock
import Derived.Shelf.Strings.Builder1
import Derived.Lib.Builder
import Derived.BigCall
import Derived.Laws.Closers25b
import Derived.Deep.DeepCutAuto
namespace Go.Proofs.YtamdobdmjcgmoaaGreatDoor.Px
open Go.RowKit Go.Proofs.YtamdobdmjcgmoaaGreatDoorW.PrintWords Go.Proofs.YtamdobdmjcgmoaaGreatDoorW.PrintLast Go.Proofs.YtamdobdmjcgmoaaGreatDoorW.PrintMore
set_option linter.unusedVariables false
set_option linter.unusedSimpArgs false
def cr_trap.f (k:Nat) (bs:List Int) (p:Nat):Option (Rdo Trp) :=
 (cr_num.f k bs p 2).bind fun o => o.bind fun x1 p1 => (cr_num.f k bs p1 2).bind fun o => o.bind fun x2 p2 => (cr_num.f k bs p2 2).bind fun o => o.bind fun x3 p3 => (cr_num.f k bs p3 2).bind fun o => o.bind fun x4 p4 => some (.ok ⟨x1,x2,x3,x4⟩ p4)
def cr_traps.f (k:Nat) (bs:List Int):Nat→Nat→List Trp→Option (Rdo (List Trp))
 | 0,p,l => some (.ok l p)
 | n + 1,p,l => (cr_trap.f k bs p).bind fun o => o.bind fun t p1 => cr_traps.f k bs n p1 (l++[t])
def cr_maps.f (k:Nat) (l0:List Cst) (bs:List Int) (p:Nat):Option (Rdo (List Int)) :=
 (cr_num.f k bs p 2).bind fun o => o.bind fun x q => if x=0 then some (.ok [] q) else if x=1 then
  (cr_named.f k l0 bs q sMaps).bind fun o => o.bind fun _ q1 => (cr_long.f k bs q1).bind fun o => o.bind fun ys q2 => some (if 0 < ys.length then .ok ys q2 else .er 50) else some (.er 50)
def cr_method.f (k:Nat) (l0:List Cst) (bs:List Int) (p:Nat):Option (Rdo Mth) :=
 (cr_num.f k bs p 2).bind fun o => o.bind fun x1 p1 => (cr_num.f k bs p1 2).bind fun o => o.bind fun x2 p2 => (cr_num.f k bs p2 2).bind fun o => o.bind fun x3 p3 =>
 (cr_same.f k bs p3 2 1).bind fun o => o.bind fun _ p4 => (cr_named.f k l0 bs p4 sCode).bind fun o => o.bind fun _ p5 => (cr_num.f k bs p5 4).bind fun o => o.bind fun n p6 =>
 (cr_num.f k bs p6 2).bind fun o => o.bind fun x7 p7 => (cr_num.f k bs p7 2).bind fun o => o.bind fun x8 p8 => (cr_long.f k bs p8).bind fun o => o.bind fun code p9 =>
 (cr_count.f k bs p9 2 64).bind fun o => o.bind fun c p10 => (cr_traps.f k bs c.toNat p10 []).bind fun o => o.bind fun traps p11 => (cr_maps.f k l0 bs p11).bind fun o => o.bind fun maps p12 =>
 some (if (p12:Int)=wrap64 (n + p6) then .ok ⟨x1,x2,x3,x7,x8,code,traps,maps⟩ p12 else .er 50)
def MthPost (B:Nat) (w:World) (br g:Nat) (vp:Value) (bs:List Int) (o:Rdo Mth) (e:Ending) (w':World):Prop:=match o with
 | .ok m p => ∃ v5 v6 v7:Value,e=.returned (.agg #[.int .i64 m.f0,.int .i64 m.f1,.int .i64 m.f2,.int .i64 m.f3,.int .i64 m.f4,v5,v6,v7])∧Kd.R (Kd.int .u8) 5 w' w.heap.size (fun _ => True) v5 m.f5∧Kd.R k63 63 w' w.heap.size (fun _ => True) v6 m.f6∧Kd.R (Kd.int .u8) 5 w' w.heap.size (fun _ => True) v7 m.f7∧CrPost B w br g vp bs p w'
 | .er n => Dies B w n e w'
theorem cr_count_le {k:Nat} {bs:List Int} {p n:Nat} {most x:Int} {q:Nat} (h:cr_count.f k bs p n most=some (.ok x q)):x≤most:=by
 obtain ⟨o2,_,h2⟩:=Option.bind_eq_some_iff.mp h
 cases o2 with
 | ok y r =>
  have h3:=Option.some.inj h2
  by_cases hy:most < y
  ·rw [if_pos hy] at h3;cases h3
  rw [if_neg hy] at h3
  injection h3 with h4
  omega
 | er e => have h3:=Option.some.inj h2;cases h3
section
variable {P:Program} {Q:Exit→Act→World→Prop} {ops:Array Oper} {oi:Oper} {N:Option Tmp} {a:Act} {w:World} {K:Act→World→Prop} {f:FuncId} {fn:Func} {t:Operand} {ts:Array TypeId}
theorem runsV_ (hf : P.funcs[f]? = some fn) (hname : (fn.name == "runtime.NumGoroutine") = false) (hb : fn.body.isSome = true) (r : Value) (hop : oi.op = .call { callee := .value t, args := #[], argTypes := ts }) (ht : a.eval t = .func (.func f) #[r] #[]) : (execOp a.eval oi).run P w = .ok (.enter f #[r]) w := by
 have he:=enters_ hf hname hb #[r] w
 unfold execOp
 simp [hop,resolve,Deferred.ofValue,invoke,ht,he]
theorem goesV_ (hf : P.funcs[f]? = some fn) (hname : (fn.name == "runtime.NumGoroutine") = false) (hb : fn.body.isSome = true) (r : Value) (hw : Region.wanted oi (yielded ops a.tmps) = true) (hN : oi.dst = N) (hop : oi.op = .call { callee := .value t, args := #[], argTypes := ts }) (ht : a.eval t = .func (.func f) #[r] #[])
  (h:Calls P f #[r] w fun e w' => ∃ v,e=.returned v∧K (a.put N v) w'):if Region.wanted oi (yielded ops a.tmps)=true then Oper.wp P oi a w K Q else K (a.put N undef) w :=
 call_ f #[r] hw hN (runsV_ hf hname hb r hop ht) h
theorem diesV_ (hf : P.funcs[f]? = some fn) (hname : (fn.name == "runtime.NumGoroutine") = false) (hb : fn.body.isSome = true) (r : Value) (hw : Region.wanted oi (yielded ops a.tmps) = true) (hop : oi.op = .call { callee := .value t, args := #[], argTypes := ts }) (ht : a.eval t = .func (.func f) #[r] #[])
  (h:Calls P f #[r] w fun e w' => ∃ c,e=.panicked c∧Q (.panic c) a w'):if Region.wanted oi (yielded ops a.tmps)=true then Oper.wp P oi a w K Q else K (a.put N undef) w:=by
 rw [if_pos hw]
 unfold Oper.wp
 rw [runsV_ hf hname hb r hop ht,Oper.upon_enter]
 refine h.mono fun e w'' hh => ?_
 obtain ⟨v,rfl,hk⟩:=hh
 exact hk
end
theorem infoTrp:(Tryz.prog.info? 63).map (fun i => (i.zero,i.size,i.bytes))=some (some (.agg #[.int .i64 0,.int .i64 0,.int .i64 0,.int .i64 0]),4,32):=by kernel_rfl
abbrev M0:Array Value:=#[.int .i64 0,.int .i64 0,.int .i64 0,.int .i64 0,.int .i64 0,.slice none 0 0,.slice none 0 0,.slice none 0 0]
structure MthSt (B:Nat) (w W:World) (br g:Nat) (vp:Value) (bs:List Int) (p bm0 bm:Nat) (cs:Array Value):Prop where
 C:CrPost B w br g vp bs p W
 k0:W.heap[bm0]?=some (.cells M0 57 (0,0))
 km:W.heap[bm]?=some (.cells cs 57 (0,0))
 h0:w.heap.size≤bm0
 hm:w.heap.size≤bm
 lt:g < w.heap.size
theorem MthSt.step {B:Nat} {w W W':World} {br g:Nat} {vp:Value} {bs:List Int} {p p' bm0 bm:Nat} {cs:Array Value} (h:MthSt B w W br g vp bs p bm0 bm cs) (hR:CrPost B W br g vp bs p' W'):MthSt B w W' br g vp bs p' bm0 bm cs :=
 ⟨⟨hR.1,h.C.2.trans hR.2⟩,hR.2.blk (by have:=h.h0;have:=h.lt;omega) h.k0,hR.2.blk (by have:=h.hm;have:=h.lt;omega) h.km,h.h0,h.hm,h.lt⟩
theorem IsCr.below {B:Nat} {w W:World} {br g:Nat} {vp:Value} {bs:List Int} {p:Nat} (h:IsCr B w br g vp bs p) (hb:Below w.heap.size w W):IsCr B W br g vp bs p:=⟨h.R.below hb,(hb.block _ (blk_lt h.blk)).trans h.blk⟩
theorem CrPost.new {B:Nat} {w W W':World} {br g:Nat} {vp:Value} {bs:List Int} {p:Nat} (h:CrPost B w br g vp bs p W) (hb:Below W.heap.size W W'):CrPost B w br g vp bs p W' :=
 ⟨h.1.below hb,h.2.trans ⟨hb.mono h.1.R.base_le,KeepBut.of_below hb _ _⟩⟩
theorem MthSt.new {B:Nat} {w W W':World} {br g:Nat} {vp:Value} {bs:List Int} {p bm0 bm:Nat} {cs:Array Value} (h:MthSt B w W br g vp bs p bm0 bm cs) (hb:Below W.heap.size W W'):MthSt B w W' br g vp bs p bm0 bm cs :=
 ⟨h.C.new hb,(hb.block _ (blk_lt h.k0)).trans h.k0,(hb.block _ (blk_lt h.km)).trans h.km,h.h0,h.hm,h.lt⟩
theorem MthSt.set {B:Nat} {w W:World} {br g:Nat} {vp:Value} {bs:List Int} {p bm0 bm:Nat} {cs:Array Value} (h:MthSt B w W br g vp bs p bm0 bm cs) (hn:bm0 ≠ bm) (j:Nat) (v:Value):MthSt B w (W.setCell ⟨bm,j,none⟩ v) br g vp bs p bm0 bm (cs.setIfInBounds j v) :=
 ⟨⟨⟨h.C.1.R.far h.km (by decide) (by decide) j v,blk_far h.C.1.blk (blk_ne h.C.1.blk h.km (by decide)) v⟩,⟨h.C.2.below.setCell (p:=⟨bm,j,none⟩) (by have:=h.C.1.R.ge;have:=h.lt;have:=h.hm;show B≤bm;omega) v,⟨by simpa using h.C.2.keep.1,fun i hi hg hr => (Below.heap_setCell W ⟨bm,j,none⟩ v i (by have:=h.hm;show i ≠ bm;omega)).trans (h.C.2.keep.2 i hi hg hr)⟩⟩⟩,blk_far h.k0 hn v,blk_set h.km j v,h.h0,h.hm,h.lt⟩
theorem MthSt.grown {α:Type} {d:Kd α} {B e:Nat} {w W W':World} {br g:Nat} {vp:Value} {bs:List Int} {p bm0 bm:Nat} {cs:Array Value} {u:Value} {ok:Nat→Prop} {l:List α} (h:MthSt B w W br g vp bs p bm0 bm cs) (hR:d.R e W w.heap.size ok u l) (he:e ≠ 5∧e ≠ 67∧e ≠ 40∧e ≠ 57) (hB:Below w.heap.size W W') (hg:W.grownBy W' u.ownBlock):MthSt B w W' br g vp bs p bm0 bm cs:=by
 have hgl:=h.lt
 have hBw:B≤w.heap.size:=by have:=h.C.1.R.ge;omega
 obtain ⟨v,hb,hr⟩:=h.C.1.R.blk
 refine ⟨⟨⟨⟨h.C.1.R.ge,⟨v,(hg.block _ (blk_lt hb) (Kd.R_ne hR hb he.2.1)).trans hb,Kd.R_drop (Kd.R_grown (Kd.R_apartR hr hR (fun q hq => by rcases List.mem_cons.mp hq with rfl|hq;exact fun x => he.1 x.symm;exact absurd hq (by simp [Kd.int,Kd.scalar]))) hg (fun _ hk => hk.2))⟩,h.C.1.R.hi⟩,(hg.block _ (blk_lt h.C.1.blk) (Kd.R_ne hR h.C.1.blk he.2.2.1)).trans h.C.1.blk⟩,⟨h.C.2.below.trans (hB.mono hBw),⟨Nat.le_trans h.C.2.keep.1 hB.size,fun i hi hg1 hr1 => (hB.block i hi).trans (h.C.2.keep.2 i hi hg1 hr1)⟩⟩⟩,(hg.block _ (blk_lt h.k0) (Kd.R_ne hR h.k0 he.2.2.2)).trans h.k0,(hg.block _ (blk_lt h.km) (Kd.R_ne hR h.km he.2.2.2)).trans h.km,h.h0,h.hm,h.lt⟩
theorem out_sets {B:Nat} {w:World} {br g bm0:Nat} {vp v5 v6 v7:Value} {bs l5 l7:List Int} {l6:List Trp} {p:Nat} (h0:w.heap.size≤bm0) (hg:g < w.heap.size):∀ (L:List (Nat × Value)) (W:World) (cs:Array Value),W.heap[bm0]?=some (.cells cs 57 (0,0))→CrPost B w br g vp bs p W→Kd.R (Kd.int .u8) 5 W w.heap.size (fun _ => True) v5 l5→Kd.R k63 63 W w.heap.size (fun _ => True) v6 l6→Kd.R (Kd.int .u8) 5 W w.heap.size (fun _ => True) v7 l7 →
  CrPost B w br g vp bs p (L.foldl (fun W x => W.setCell ⟨bm0,x.1,none⟩ x.2) W)∧Kd.R (Kd.int .u8) 5 (L.foldl (fun W x => W.setCell ⟨bm0,x.1,none⟩ x.2) W) w.heap.size (fun _ => True) v5 l5∧Kd.R k63 63 (L.foldl (fun W x => W.setCell ⟨bm0,x.1,none⟩ x.2) W) w.heap.size (fun _ => True) v6 l6∧Kd.R (Kd.int .u8) 5 (L.foldl (fun W x => W.setCell ⟨bm0,x.1,none⟩ x.2) W) w.heap.size (fun _ => True) v7 l7
 | [],_,_,_,hC,h5,h6,h7 => ⟨hC,h5,h6,h7⟩
 | (j,v) :: L,W,cs,hb,hC,h5,h6,h7 => by
  refine out_sets h0 hg L (W.setCell ⟨bm0,j,none⟩ v) _ (blk_set hb j v) ⟨⟨hC.1.R.far hb (by decide) (by decide) j v,blk_far hC.1.blk (blk_ne hC.1.blk hb (by decide)) v⟩,⟨hC.2.below.setCell (p:=⟨bm0,j,none⟩) (by have:=hC.1.R.ge;show B≤bm0;omega) v,⟨by simpa using hC.2.keep.1,fun i hi hg1 hr => (Below.heap_setCell W ⟨bm0,j,none⟩ v i (by show i ≠ bm0;omega)).trans (hC.2.keep.2 i hi hg1 hr)⟩⟩⟩ (Kd.R_set h5 hb (by decide) j v) (Kd.R_set h6 hb (by decide) j v) (Kd.R_set h7 hb (by decide) j v)
set_option maxHeartbeats 80000000 in
set_option maxRecDepth 100000 in
theorem cr_method.calls {k B br g:Nat} {A0:Option Addr} {c0:Nat} {l0:List Cst} {bs:List Int} {p:Nat} {o:Rdo Mth} {w:World} (hI:IsCr B w br g (.slice A0 l0.length c0) bs p) (hl:bs.length≤140737488355328) (hP:∀ w',RdStep B w w' g→Kd.C k61 w' A0 l0.length l0) (hPC:l0.length≤c0) (h:cr_method.f k l0 bs p=some o) :
  Calls Tryz.prog 27 #[.pointer (some ⟨br,0,none⟩)] w fun e w' => MthPost B w br g (.slice A0 l0.length c0) bs o e w':=by
 have hmf:∀ (fn:Fn) (first cap:Array Value) (w:World),(Instr.makeFunc fn first cap).run Tryz.prog w=.ok (.func fn first cap) w:=fun _ _ _ _ => rfl
 have hu:=Tryz.underlying57
 have hu2:=Tryz.underlying63
 obtain ⟨o1,h1,h⟩:=Option.bind_eq_some_iff.mp h
 have H1:=am_ h1
 have HH:=am_ h
 have HI:=am_ hI
 have HL:=am_ hl
 have HP:=am_ hP
 have HPC:=am_ hPC
 clear h1 h hI hl hP hPC
 go_enter Tryz.func27,Tryz.ntmps27
 go_wp2_with fail
 obtain ⟨W0,hW0⟩:∃ W0,W0=w.alloc (.cells M0 57 (0,0)):=⟨_,rfl⟩
 obtain ⟨bm0,hm0⟩:∃ bm0,bm0=w.heap.size:=⟨_,rfl⟩
 rw [← hW0,← hm0]
 have hb0:Below w.heap.size w W0:=by rw [hW0];exact below_alloc (Below.refl _ _) _
 have HC0:Aside0 (CrPost B w br g (.slice A0 l0.length c0) bs p W0):=⟨⟨HI.out.below hb0,⟨hb0.mono HI.out.R.base_le,KeepBut.of_below hb0 _ _⟩⟩⟩
 have HK0:Aside0 (W0.heap[bm0]?=some (.cells M0 57 (0,0))):=⟨by rw [hW0,hm0];exact blk_new _ _⟩
 have HM0:=am_ hm0
 have HLT:=am_ HI.out.R.lt
 clear hW0 hm0 hb0 HI
 have HC1:=am_ (cr_two.calls HC0.out.1 HL.out H1.out)
 clear H1
 refine HC1.out.mono ?_
 clear HC1
 cases o1 with
 | er n =>
  have h:=Option.some.inj HH.out
  subst h
  rintro e w1 ⟨rfl,hR⟩
  have HR:=am_ (HC0.out.below.trans hR)
  clear hR HH
  go_wp2
  exact ⟨rfl,rfl,HR.out⟩
 | ok x1 p1 =>
 replace HH:=bnd_ HH
 obtain ⟨o2,H2,HH⟩:=HH
 rintro e W1 ⟨rfl,hR⟩
 have HCC:=am_ (CrPost.from HC0.out.2 hR)
 have HKK:=am_ (hR.2.blk (by have:=HM0.out;have:=HLT.out;omega) HK0.out)
 clear hR HK0 HC0
 go_wp2_with fail
 have HC2:=am_ (cr_two.calls HCC.out.1 HL.out H2.out)
 clear H2
 refine HC2.out.mono ?_
 clear HC2
 cases o2 with
 | er n =>
  have h:=Option.some.inj HH.out
  subst h
  rintro e wd ⟨rfl,hR⟩
  have HR:=am_ (HCC.out.below.trans hR)
  clear hR HH
  go_wp2
  exact ⟨rfl,rfl,HR.out⟩
 | ok x2 p2 =>
 rintro e W2 ⟨rfl,hR⟩
 replace HCC:=am_ (CrPost.from HCC.out.2 hR)
 replace HKK:=am_ (hR.2.blk (by have:=HM0.out;have:=HLT.out;omega) HKK.out)
 clear hR
 replace HH:=bnd_ HH
 obtain ⟨o3,H3,HH⟩:=HH
 go_wp2_with fail
 have HC3:=am_ (cr_two.calls HCC.out.1 HL.out H3.out)
 clear H3
 refine HC3.out.mono ?_
 clear HC3
 cases o3 with
 | er n =>
  have h:=Option.some.inj HH.out
  subst h
  rintro e wd ⟨rfl,hR⟩
  have HR:=am_ (HCC.out.below.trans hR)
  clear hR HH
  go_wp2
  exact ⟨rfl,rfl,HR.out⟩
 | ok x3 p3 =>
 rintro e W3 ⟨rfl,hR⟩
 replace HCC:=am_ (CrPost.from HCC.out.2 hR)
 replace HKK:=am_ (hR.2.blk (by have:=HM0.out;have:=HLT.out;omega) HKK.out)
 clear hR
 replace HH:=bnd_ HH
 obtain ⟨o4,H4,HH⟩:=HH
 go_wp2_with fail
 obtain ⟨bm,hbm⟩:∃ bm,bm=W3.heap.size:=⟨_,rfl⟩
 obtain ⟨Wm,hWm⟩:∃ Wm,Wm=W3.alloc (.cells #[.int .i64 x1,.int .i64 x2,.int .i64 x3,.int .i64 0,.int .i64 0,.slice none 0 0,.slice none 0 0,.slice none 0 0] 57 (0,0)):=⟨_,rfl⟩
 rw [← hWm,← hbm]
 have hbm2:Below W3.heap.size W3 Wm:=by rw [hWm];exact below_alloc (Below.refl _ _) _
 have hltk:=blk_lt HKK.out
 have HN:Aside0 (bm0 ≠ bm):=⟨by omega⟩
 have HM:Aside0 (MthSt B w Wm br g (.slice A0 l0.length c0) bs p3 bm0 bm #[.int .i64 x1,.int .i64 x2,.int .i64 x3,.int .i64 0,.int .i64 0,.slice none 0 0,.slice none 0 0,.slice none 0 0]):=⟨⟨HCC.out.new hbm2,(hbm2.block _ (blk_lt HKK.out)).trans HKK.out,by rw [hWm,hbm];exact blk_new _ _,by rw [HM0.out];exact Nat.le_refl _,by rw [hbm];exact HCC.out.2.keep.1,HLT.out⟩⟩
 clear hWm hbm hbm2 hltk HCC HKK
 have HC4:=am_ (cr_same.calls (n:=2) HM.out.C.1 (by decide) (by decide) HL.out H4.out)
 clear H4
 refine HC4.out.mono ?_
 clear HC4
 cases o4 with
 | er n =>
  have h:=Option.some.inj HH.out
  subst h
  rintro e wd ⟨rfl,hR⟩
  have HR:=am_ (HM.out.C.below.trans hR)
  clear hR HH
  go_wp2
  exact ⟨rfl,rfl,HR.out⟩
 | ok _ p4 =>
 rintro e W4 ⟨rfl,hR⟩
 replace HM:=am_ (HM.out.step hR)
 clear hR
 replace HH:=bnd_ HH
 obtain ⟨o5,H5,HH⟩:=HH
 go_wp2_with fail
 have HC5:=am_ (cr_named.calls HM.out.C.1 HL.out (fun w' hS => HP.out w' (HM.out.C.2.trans hS)) HPC.out H5.out)
 clear H5
 refine HC5.out.mono ?_
 clear HC5
 cases o5 with
 | er n =>
  have h:=Option.some.inj HH.out
  subst h
  rintro e wd ⟨rfl,hR⟩
  have HR:=am_ (HM.out.C.below.trans hR)
  clear hR HH
  go_wp2
  exact ⟨rfl,rfl,HR.out⟩
 | ok _ p5 =>
 rintro e W5 ⟨rfl,hR⟩
 replace HM:=am_ (HM.out.step hR)
 clear hR
 replace HH:=bnd_ HH
 obtain ⟨o6,H6,HH⟩:=HH
 go_wp2_with fail
 have HC6:=am_ (cr_num.calls (n:=4) HM.out.C.1 (by decide) (by decide) HL.out H6.out)
 clear H6
 refine HC6.out.mono ?_
 clear HC6
 cases o6 with
 | er n =>
  have h:=Option.some.inj HH.out
  subst h
  rintro e wd ⟨rfl,hR⟩
  have HR:=am_ (HM.out.C.below.trans hR)
  clear hR HH
  go_wp2
  exact ⟨rfl,rfl,HR.out⟩
 | ok n p6 =>
 rintro e W6 ⟨rfl,hR⟩
 replace HM:=am_ (HM.out.step hR)
 clear hR
 replace HH:=bnd_ HH
 obtain ⟨o7,H7,HH⟩:=HH
 have cq:=HM.out.C.1.c0
 go_wp2_with fail
 refine (rd_At.calls B g bs p6 W6 HM.out.C.1.R).mono ?_
 rintro e wx ⟨rfl,rfl⟩
 go_wp2_with fail
 have HC7:=am_ (cr_two.calls HM.out.C.1 HL.out H7.out)
 clear H7
 refine HC7.out.mono ?_
 clear HC7
 cases o7 with
 | er n =>
  have h:=Option.some.inj HH.out
  subst h
  rintro e wd ⟨rfl,hR⟩
  have HR:=am_ (HM.out.C.below.trans hR)
  clear hR HH
  go_wp2
  exact ⟨rfl,rfl,HR.out⟩
 | ok x7 p7 =>
 clear cq
 rintro e W7 ⟨rfl,hR⟩
 replace HM:=am_ (HM.out.step hR)
 clear hR
 replace HH:=bnd_ HH
 obtain ⟨o8,H8,HH⟩:=HH
 go_wp2_with fail
 have HC8:=am_ (cr_two.calls HM.out.C.1 HL.out H8.out)
 clear H8
 refine HC8.out.mono ?_
 clear HC8
 cases o8 with
 | er n =>
  have h:=Option.some.inj HH.out
  subst h
  rintro e wd ⟨rfl,hR⟩
  have HR:=am_ (HM.out.C.below.trans hR)
  clear hR HH
  go_wp2
  exact ⟨rfl,rfl,HR.out⟩
 | ok x8 p8 =>
 rintro e W8 ⟨rfl,hR⟩
 replace HM:=am_ (HM.out.step hR)
 clear hR
 replace HH:=bnd_ HH
 obtain ⟨o9,H9,HH⟩:=HH
 have cq3:=(blk_cell HM.out.km 3).trans rfl
 have cq4:=(blk_cell HM.out.km 4).trans rfl
 have fq3:=blk_frozen HM.out.km 3
 have fq4:=blk_frozen HM.out.km 4
 go_wp2_with fail
 have HMs:Aside0 (MthSt B w ((W8.setCell ⟨bm,3,none⟩ (.int .i64 x7)).setCell ⟨bm,4,none⟩ (.int .i64 x8)) br g (.slice A0 l0.length c0) bs p8 bm0 bm #[.int .i64 x1,.int .i64 x2,.int .i64 x3,.int .i64 x7,.int .i64 x8,.slice none 0 0,.slice none 0 0,.slice none 0 0]):=⟨(HM.out.set HN.out 3 _).set HN.out 4 _⟩
 clear cq3 cq4 fq3 fq4 HM
 have HM:=HMs
 clear HMs
 have HC9:=am_ (cr_long.calls HM.out.C.1 HL.out H9.out)
 clear H9
 refine HC9.out.mono ?_
 clear HC9
 cases o9 with
 | er n =>
  have h:=Option.some.inj HH.out
  subst h
  rintro e wd ⟨rfl,hR⟩
  have HR:=am_ (HM.out.C.below.trans hR)
  clear hR HH
  go_wp2
  exact ⟨rfl,rfl,HR.out⟩
 | ok code p9 =>
 rintro e W9 ⟨v5,rfl,hR5,hR⟩
 have HR5:=am_ (Kd.R_lower hR5 HM.out.C.2.keep.1)
 replace HM:=am_ (HM.out.step hR)
 clear hR hR5
 obtain ⟨A5,c5,hv5⟩:=Kd.R_slice HR5.out
 subst hv5
 have cq5:=(blk_cell HM.out.km 5).trans rfl
 have fq5:=blk_frozen HM.out.km 5
 replace HH:=bnd_ HH
 obtain ⟨o10,H10,HH⟩:=HH
 go_wp2_with fail
 replace HR5:=am_ (Kd.R_set HR5.out HM.out.km (by decide) 5 (.slice A5 code.length c5))
 replace HM:=am_ (HM.out.set HN.out 5 (.slice A5 code.length c5))
 clear cq5 fq5
 have HK10:=am_ H10.out
 have HC10:=am_ (cr_count.calls (n:=2) HM.out.C.1 (by decide) (by decide) HL.out H10.out)
 clear H10
 refine HC10.out.mono ?_
 clear HC10
 cases o10 with
 | er n =>
  have h:=Option.some.inj HH.out
  subst h
  rintro e wd ⟨rfl,hR⟩
  have HR:=am_ (HM.out.C.below.trans hR)
  clear hR HH
  go_wp2
  exact ⟨rfl,rfl,HR.out⟩
 | ok c p10 =>
 rintro e W10 ⟨rfl,hR⟩
 replace HR5:=am_ (hR.2.R HR5.out HLT.out)
 replace HM:=am_ (HM.out.step hR)
 clear hR
 replace HH:=bnd_ HH
 obtain ⟨o11,H11,HH⟩:=HH
 have HCL:=am_ (cr_count_le HK10.out)
 clear HK10
 go_wp2
 go_loopw [6] (fun vi wr => ∃ (x:Int) (q:Nat) (l:List Trp) (v6:Value),vi=.int .i64 x∧Aside0 (x≤64)∧Aside0 (l.length + x.toNat≤64)∧Aside0 (cr_traps.f k bs x.toNat q l=some o11)∧Aside0 (MthSt B w wr br g (.slice A0 l0.length c0) bs q bm0 bm #[.int .i64 x1,.int .i64 x2,.int .i64 x3,.int .i64 x7,.int .i64 x8,.slice A5 code.length c5,v6,.slice none 0 0])∧Aside0 (Kd.R (Kd.int .u8) 5 wr w.heap.size (fun _ => True) (.slice A5 code.length c5) code)∧Aside0 (Kd.R k63 63 wr w.heap.size (fun _ => True) v6 l)) (fun vi _ => (intOf vi).toNat)
 case atStart => exact ⟨c,p10,[],.slice none 0 0,rfl,HCL,⟨by have:=HCL.out;simp only [List.length_nil];omega⟩,H11,HM,HR5,⟨Kd.R_nil _ _ _ _ _⟩⟩
 obtain ⟨x,q,l,v6,rfl,HX,HLN,HT,HMr,HP5,HQ6⟩:=hrel
 clear HM HR5 H11
 by_cases hx:0 < x
 rotate_left
 ·have hpx:decide (0 < x)=false:=decide_eq_false hx
  have hT:=HT.out
  rw [show x.toNat=0 from by omega] at hT
  simp only [cr_traps.f] at hT
  obtain rfl:=Option.some.inj hT
  clear hT HT hx
  go_wp2_with fail
  obtain ⟨o12,h12,h⟩:=Option.bind_eq_some_iff.mp HH.out
  have HZ:=am_ h
  unfold cr_maps.f at h12
  obtain ⟨om,hm,h12⟩:=Option.bind_eq_some_iff.mp h12
  have H12:=am_ hm
  have HE12:=am_ h12
  clear HH h hm h12
  have HM:=HMr
  have HR5:=HP5
  have HR6:=HQ6
  clear HMr HP5 HQ6
  obtain ⟨A6,c6,hv6⟩:=Kd.R_slice HR6.out
  subst hv6
  have HC12:=am_ (cr_two.calls HM.out.C.1 HL.out H12.out)
  refine HC12.out.mono ?_
  clear HC12
  cases om with
  | er en =>
   have h:=Option.some.inj HE12.out
   subst h
   have h:=Option.some.inj HZ.out
   subst h
   rintro e wd ⟨rfl,hR⟩
   have HR:=am_ (HM.out.C.below.trans hR)
   clear hR HZ
   go_wp2
   exact ⟨rfl,rfl,HR.out⟩
  | ok y q1 =>
  rintro e W12 ⟨rfl,hR⟩
  replace HR5:=am_ (hR.2.R HR5.out HLT.out)
  replace HR6:=am_ (hR.2.R HR6.out HLT.out)
  replace HM:=am_ (HM.out.step hR)
  clear hR
  have hE:(if y=0 then some (Rdo.ok [] q1) else if y=1 then (cr_named.f k l0 bs q1 sMaps).bind fun o => o.bind fun _ q1 => (cr_long.f k bs q1).bind fun o => o.bind fun ys q2 => some (if 0 < ys.length then Rdo.ok ys q2 else .er 50) else some (Rdo.er 50))=some o12:=HE12.out
  clear HE12
  by_cases y0:y=0
  case pos =>
   rw [if_pos y0] at hE
   obtain rfl:=Option.some.inj hE
   have hyb:(y==0)=true:=beq_iff_eq.mpr y0
   clear y0 hE
   have cq:=HM.out.C.1.c0
   go_wp2_with fail
   refine (rd_At.calls B g bs q1 _ HM.out.C.1.R).mono ?_
   rintro e wx ⟨rfl,rfl⟩
   have hz:=Option.some.inj HZ.out
   clear HZ
   by_cases hp:(q1:Int)=wrap64 (n + p6)
   rotate_left
   ·rw [if_neg hp] at hz
    subst hz
    have hpb:((q1:Int) != wrap64 (n + p6))=true:=bne_iff_ne.mpr hp
    clear hp
    go_wp2_with fail
    refine (cr_must_dies _ 50 (by decide) _).mono ?_
    rintro e w3 ⟨rfl,rfl⟩
    go_wp2
    exact ⟨rfl,rfl,HM.out.C.below⟩
   rw [if_pos hp] at hz
   subst hz
   have hpb:((q1:Int) != wrap64 (n + p6))=false:=bne_eq_false_iff_eq.mpr hp
   clear hp cq
   have km:=HM.out.km
   have k0:=HM.out.k0
   have e0:=(blk_cell km 0).trans rfl
   have e1:=(blk_cell km 1).trans rfl
   have e2:=(blk_cell km 2).trans rfl
   have e3:=(blk_cell km 3).trans rfl
   have e4:=(blk_cell km 4).trans rfl
   have e5:=(blk_cell km 5).trans rfl
   have e6:=(blk_cell km 6).trans rfl
   have e7:=(blk_cell km 7).trans rfl
   have g0:=(blk_cell k0 0).trans rfl
   have g1:=(blk_cell k0 1).trans rfl
   have g2:=(blk_cell k0 2).trans rfl
   have g3:=(blk_cell k0 3).trans rfl
   have g4:=(blk_cell k0 4).trans rfl
   have g5:=(blk_cell k0 5).trans rfl
   have g6:=(blk_cell k0 6).trans rfl
   have g7:=(blk_cell k0 7).trans rfl
   have f0:=blk_frozen k0 0
   have f1:=blk_frozen k0 1
   have f2:=blk_frozen k0 2
   have f3:=blk_frozen k0 3
   have f4:=blk_frozen k0 4
   have f5:=blk_frozen k0 5
   have f6:=blk_frozen k0 6
   have f7:=blk_frozen k0 7
   clear km
   go_wp2
   have hF:=out_sets (B:=B) (w:=w) (br:=br) (g:=g) (vp:=.slice A0 l0.length c0) (bs:=bs) (p:=q1) HM.out.h0 HLT.out [(0,.int .i64 x1),(1,.int .i64 x2),(2,.int .i64 x3),(3,.int .i64 x7),(4,.int .i64 x8),(5,.slice A5 code.length c5),(6,.slice A6 l.length c6),(7,.slice none 0 0)] _ _ k0 HM.out.C HR5.out HR6.out (Kd.R_nil _ _ _ _ _)
   have HF:=am_ hF
   have hk:=blk_set (blk_set (blk_set (blk_set (blk_set (blk_set (blk_set (blk_set k0 0 (.int .i64 x1)) 1 (.int .i64 x2)) 2 (.int .i64 x3)) 3 (.int .i64 x7)) 4 (.int .i64 x8)) 5 (.slice A5 code.length c5)) 6 (.slice A6 l.length c6)) 7 (.slice none 0 0)
   have r0:=(blk_cell hk 0).trans rfl
   have r1:=(blk_cell hk 1).trans rfl
   have r2:=(blk_cell hk 2).trans rfl
   have r3:=(blk_cell hk 3).trans rfl
   have r4:=(blk_cell hk 4).trans rfl
   have r5:=(blk_cell hk 5).trans rfl
   have r6:=(blk_cell hk 6).trans rfl
   have r7:=(blk_cell hk 7).trans rfl
   clear hF k0 hk e0 e1 e2 e3 e4 e5 e6 e7 g0 g1 g2 g3 g4 g5 g6 g7 f0 f1 f2 f3 f4 f5 f6 f7
   refine bodyPost_ret (v:=.agg #[.int .i64 x1,.int .i64 x2,.int .i64 x3,.int .i64 x7,.int .i64 x8,.slice A5 code.length c5,.slice A6 l.length c6,.slice none 0 0]) ?_ rfl ?_
   ·simp [results,Tryz.results27,go_sem,r0,r1,r2,r3,r4,r5,r6,r7]
   exact ⟨_,_,_,rfl,HF.out.2.1,HF.out.2.2.1,HF.out.2.2.2,HF.out.1⟩
  rw [if_neg y0] at hE
  have hyb:(y==0)=false:=beq_eq_false_iff_ne.mpr y0
  by_cases y1:y=1
  case neg =>
   rw [if_neg y1] at hE
   obtain rfl:=Option.some.inj hE
   have hyb1:(y==1)=false:=beq_eq_false_iff_ne.mpr y1
   have hz:=Option.some.inj HZ.out
   subst hz
   clear y0 y1 hE HZ
   go_wp2_with fail
   refine (cr_must_dies _ 50 (by decide) _).mono ?_
   rintro e w3 ⟨rfl,rfl⟩
   go_wp2
   exact ⟨rfl,rfl,HM.out.C.below⟩
  rw [if_pos y1] at hE
  have hyb1:(y==1)=true:=beq_iff_eq.mpr y1
  obtain ⟨on,hn,hE⟩:=Option.bind_eq_some_iff.mp hE
  have HN1:=am_ hn
  have HE:=am_ hE
  clear y0 y1 hE hn
  go_wp2_with fail
  have HC13:=am_ (cr_named.calls HM.out.C.1 HL.out (fun w' hS => HP.out w' (HM.out.C.2.trans hS)) HPC.out HN1.out)
  refine HC13.out.mono ?_
  clear HC13
  cases on with
  | er en =>
   have h:=Option.some.inj HE.out
   subst h
   have h:=Option.some.inj HZ.out
   subst h
   rintro e wd ⟨rfl,hR⟩
   have HR:=am_ (HM.out.C.below.trans hR)
   clear hR HZ
   go_wp2
   exact ⟨rfl,rfl,HR.out⟩
  | ok _ q2 =>
  rintro e W13 ⟨rfl,hR⟩
  replace HR5:=am_ (hR.2.R HR5.out HLT.out)
  replace HR6:=am_ (hR.2.R HR6.out HLT.out)
  replace HM:=am_ (HM.out.step hR)
  clear hR
  obtain ⟨ol,hn,hE⟩:=Option.bind_eq_some_iff.mp HE.out
  have HN2:=am_ hn
  clear HE
  have HE:=am_ hE
  clear hE hn
  go_wp2_with fail
  have HC14:=am_ (cr_long.calls HM.out.C.1 HL.out HN2.out)
  refine HC14.out.mono ?_
  clear HC14
  cases ol with
  | er en =>
   have h:=Option.some.inj HE.out
   subst h
   have h:=Option.some.inj HZ.out
   subst h
   rintro e wd ⟨rfl,hR⟩
   have HR:=am_ (HM.out.C.below.trans hR)
   clear hR HZ
   go_wp2
   exact ⟨rfl,rfl,HR.out⟩
  | ok ys q3 =>
  rintro e W14 ⟨v7,rfl,hR7,hR⟩
  have HR7:=am_ (Kd.R_lower hR7 HM.out.C.2.keep.1)
  clear hR7
  replace HR5:=am_ (hR.2.R HR5.out HLT.out)
  replace HR6:=am_ (hR.2.R HR6.out HLT.out)
  replace HM:=am_ (HM.out.step hR)
  clear hR
  obtain ⟨A7,c7,hv7⟩:=Kd.R_slice HR7.out
  subst hv7
  have cq7:=(blk_cell HM.out.km 7).trans rfl
  have fq7:=blk_frozen HM.out.km 7
  have hE:=Option.some.inj HE.out
  clear HE
  by_cases hy:0 < ys.length
  case neg =>
   rw [if_neg hy] at hE
   subst hE
   have hz:=Option.some.inj HZ.out
   subst hz
   have hyb2:decide ((0:Int) < (ys.length:Int))=false:=decide_eq_false (by omega)
   have hyb3:decide (0 < ys.length)=false:=decide_eq_false (by omega)
   have HMs:=am_ (HM.out.set HN.out 7 (.slice A7 ys.length c7))
   clear HZ hy
   go_wp2_with fail
   refine (cr_must_dies _ 50 (by decide) _).mono ?_
   rintro e w3 ⟨rfl,rfl⟩
   go_wp2
   exact ⟨rfl,rfl,HMs.out.C.below⟩
  rw [if_pos hy] at hE
  subst hE
  have hyb2:decide ((0:Int) < (ys.length:Int))=true:=decide_eq_true (by omega)
  have hyb3:decide (0 < ys.length)=true:=decide_eq_true (by omega)
  have HMs:=am_ (HM.out.set HN.out 7 (.slice A7 ys.length c7))
  have HR5s:=am_ (Kd.R_set HR5.out HM.out.km (by decide) 7 (.slice A7 ys.length c7))
  have HR6s:=am_ (Kd.R_set HR6.out HM.out.km (by decide) 7 (.slice A7 ys.length c7))
  have HR7s:=am_ (Kd.R_set HR7.out HM.out.km (by decide) 7 (.slice A7 ys.length c7))
  have HM0':=HM
  clear HM HR5 HR6 HR7 hy
  have HM:=HMs
  have HR5:=HR5s
  have HR6:=HR6s
  have HR7:=HR7s
  clear HMs HR5s HR6s HR7s HM0'
  have cq:=HM.out.C.1.c0
  go_wp2_with fail
  refine (rd_At.calls B g bs q3 _ HM.out.C.1.R).mono ?_
  rintro e wx ⟨rfl,rfl⟩
  have hz:=Option.some.inj HZ.out
  clear HZ
  by_cases hp:(q3:Int)=wrap64 (n + p6)
  rotate_left
  ·rw [if_neg hp] at hz
   subst hz
   have hpb:((q3:Int) != wrap64 (n + p6))=true:=bne_iff_ne.mpr hp
   clear hp
   go_wp2_with fail
   refine (cr_must_dies _ 50 (by decide) _).mono ?_
   rintro e w3 ⟨rfl,rfl⟩
   go_wp2
   exact ⟨rfl,rfl,HM.out.C.below⟩
  rw [if_pos hp] at hz
  subst hz
  have hpb:((q3:Int) != wrap64 (n + p6))=false:=bne_eq_false_iff_eq.mpr hp
  clear hp cq
  have km:=HM.out.km
  have k0:=HM.out.k0
  have e0:=(blk_cell km 0).trans rfl
  have e1:=(blk_cell km 1).trans rfl
  have e2:=(blk_cell km 2).trans rfl
  have e3:=(blk_cell km 3).trans rfl
  have e4:=(blk_cell km 4).trans rfl
  have e5:=(blk_cell km 5).trans rfl
  have e6:=(blk_cell km 6).trans rfl
  have e7:=(blk_cell km 7).trans rfl
  have g0:=(blk_cell k0 0).trans rfl
  have g1:=(blk_cell k0 1).trans rfl
  have g2:=(blk_cell k0 2).trans rfl
  have g3:=(blk_cell k0 3).trans rfl
  have g4:=(blk_cell k0 4).trans rfl
  have g5:=(blk_cell k0 5).trans rfl
  have g6:=(blk_cell k0 6).trans rfl
  have g7:=(blk_cell k0 7).trans rfl
  have f0:=blk_frozen k0 0
  have f1:=blk_frozen k0 1
  have f2:=blk_frozen k0 2
  have f3:=blk_frozen k0 3
  have f4:=blk_frozen k0 4
  have f5:=blk_frozen k0 5
  have f6:=blk_frozen k0 6
  have f7:=blk_frozen k0 7
  clear km
  go_wp2
  have hF:=out_sets (B:=B) (w:=w) (br:=br) (g:=g) (vp:=.slice A0 l0.length c0) (bs:=bs) (p:=q3) HM.out.h0 HLT.out [(0,.int .i64 x1),(1,.int .i64 x2),(2,.int .i64 x3),(3,.int .i64 x7),(4,.int .i64 x8),(5,.slice A5 code.length c5),(6,.slice A6 l.length c6),(7,.slice A7 ys.length c7)] _ _ k0 HM.out.C HR5.out HR6.out HR7.out
  have HF:=am_ hF
  have hk:=blk_set (blk_set (blk_set (blk_set (blk_set (blk_set (blk_set (blk_set k0 0 (.int .i64 x1)) 1 (.int .i64 x2)) 2 (.int .i64 x3)) 3 (.int .i64 x7)) 4 (.int .i64 x8)) 5 (.slice A5 code.length c5)) 6 (.slice A6 l.length c6)) 7 (.slice A7 ys.length c7)
  have r0:=(blk_cell hk 0).trans rfl
  have r1:=(blk_cell hk 1).trans rfl
  have r2:=(blk_cell hk 2).trans rfl
  have r3:=(blk_cell hk 3).trans rfl
  have r4:=(blk_cell hk 4).trans rfl
  have r5:=(blk_cell hk 5).trans rfl
  have r6:=(blk_cell hk 6).trans rfl
  have r7:=(blk_cell hk 7).trans rfl
  clear hF k0 hk e0 e1 e2 e3 e4 e5 e6 e7 g0 g1 g2 g3 g4 g5 g6 g7 f0 f1 f2 f3 f4 f5 f6 f7
  refine bodyPost_ret (v:=.agg #[.int .i64 x1,.int .i64 x2,.int .i64 x3,.int .i64 x7,.int .i64 x8,.slice A5 code.length c5,.slice A6 l.length c6,.slice A7 ys.length c7]) ?_ rfl ?_
  ·simp [results,Tryz.results27,go_sem,r0,r1,r2,r3,r4,r5,r6,r7]
  exact ⟨_,_,_,rfl,HF.out.2.1,HF.out.2.2.1,HF.out.2.2.2,HF.out.1⟩
 have hpx:decide (0 < x)=true:=decide_eq_true hx
 obtain ⟨m,hm⟩:∃ m,x.toNat=m + 1:=⟨x.toNat - 1,by omega⟩
 have hT:=HT.out
 rw [hm] at hT
 simp only [cr_traps.f] at hT
 obtain ⟨ot,ht,hT⟩:=Option.bind_eq_some_iff.mp hT
 have HTN:=am_ hT
 have HMM:=am_ hm
 have HXX:=am_ hx
 clear hT HT hm hx
 go_wp2
 have G0:=am_ (HMr.out.new (below_drew (Below.refl _ _)))
 have P0:=am_ (Kd.R_below HP5.out (below_drew (Below.refl _ _)))
 have Q0:=am_ (Kd.R_below HQ6.out (below_drew (Below.refl _ _)))
 have cg0:=(blk_cell HMr.out.km 6).trans rfl
 clear HMr HP5 HQ6
 unfold cr_trap.f at ht
 obtain ⟨t0,hj,ht⟩:=Option.bind_eq_some_iff.mp ht
 have T0:=am_ hj
 clear hj
 cases t0 with
 | er n =>
  have ht2:=Option.some.inj ht
  subst ht2
  have h3:=Option.some.inj HTN.out
  subst h3
  have h4:=Option.some.inj HH.out
  subst h4
  clear ht HTN HH
  refine start_ (n:=15) (S:=fun w' => w'.cell? ⟨bm,6,none⟩=some v6) (ds:=[14]) #[false,false,false,false,false,false,false,false,false,false,false,false,false,false,false] (by kernel_rfl) rfl rfl (cg0) (fun hHeld => ?_)
  refine pr_ 0 (some 44) ?_
  refine pr_ 2 (some 46) ?_
  refine pr_ 4 (some 48) ?_
  refine pr_ 6 (some 50) ?_
  refine pr_ 8 (some 52) ?_
  refine tk_ 1 (some 45) hHeld ?_ (hy:=by intro w' s0;go_simp;with_reducible rfl)
  refine one_ (i:=3) (N:=some 47) #[true,true,true,true,true,false,true,false,true,false,false,false,false,false,false] rfl rfl (by kernel_rfl) (by decide) (fun K hK => ?_)
  refine diesV_ Tryz.func25 (by kernel_rfl) rfl (.pointer (some ⟨br,0,none⟩)) (by rfl) rfl (by rfl) ?_
  refine (cr_two.calls G0.out.C.1 HL.out T0.out).mono ?_
  rintro e wd ⟨rfl,hR⟩
  refine ⟨_,rfl,?_⟩
  exact ⟨rfl,rfl,G0.out.C.below.trans hR⟩
 | ok y0 q0 =>
 obtain ⟨t1,hj,ht⟩:=Option.bind_eq_some_iff.mp ht
 have T1:=am_ hj
 clear hj
 cases t1 with
 | er n =>
  have ht2:=Option.some.inj ht
  subst ht2
  have h3:=Option.some.inj HTN.out
  subst h3
  have h4:=Option.some.inj HH.out
  subst h4
  clear ht HTN HH
  refine start_ (n:=15) (S:=fun w' => w'.cell? ⟨bm,6,none⟩=some v6) (ds:=[14]) #[false,false,false,false,false,false,false,false,false,false,false,false,false,false,false] (by kernel_rfl) rfl rfl (cg0) (fun hHeld => ?_)
  refine pr_ 0 (some 44) ?_
  refine pr_ 2 (some 46) ?_
  refine pr_ 4 (some 48) ?_
  refine pr_ 6 (some 50) ?_
  refine pr_ 8 (some 52) ?_
  refine tk_ 1 (some 45) hHeld ?_ (hy:=by intro w' s0;go_simp;with_reducible rfl)
  refine one_ (i:=3) (N:=some 47) #[true,true,true,true,true,false,true,false,true,false,false,false,false,false,false] rfl rfl (by kernel_rfl) (by decide) (fun K hK => ?_)
  refine goesV_ Tryz.func25 (by kernel_rfl) rfl (.pointer (some ⟨br,0,none⟩)) (by rfl) rfl rfl (by rfl) ?_
  refine (cr_two.calls G0.out.C.1 HL.out T0.out).mono ?_
  rintro e w1' ⟨rfl,hR⟩
  refine ⟨_,rfl,?_⟩
  have G1:=am_ (G0.out.step hR)
  have P1:=am_ (hR.2.R P0.out HLT.out)
  have Q1:=am_ (hR.2.R Q0.out HLT.out)
  have cg1:=(blk_cell G1.out.km 6).trans rfl
  clear hR
  refine hK.out _ _ (cg1) (fun hHeld => ?_)
  clear hK K
  refine norm_ (a':=?_) ?_ ?_
  rotate_left
  ·show Act.put _ (some 47) _=_
   simp only [Act.put,List.setIfInBounds_toArray,List.set_cons_zero,List.set_cons_succ,i64_w,i32_w]
   rfl
  refine one_ (i:=5) (N:=some 49) #[true,true,true,true,true,true,true,false,true,false,false,false,false,false,false] rfl rfl (by kernel_rfl) (by decide) (fun K hK => ?_)
  refine diesV_ Tryz.func25 (by kernel_rfl) rfl (.pointer (some ⟨br,0,none⟩)) (by rfl) rfl (by rfl) ?_
  refine (cr_two.calls G1.out.C.1 HL.out T1.out).mono ?_
  rintro e wd ⟨rfl,hR⟩
  refine ⟨_,rfl,?_⟩
  exact ⟨rfl,rfl,G1.out.C.below.trans hR⟩
 | ok y1 q1 =>
 obtain ⟨t2,hj,ht⟩:=Option.bind_eq_some_iff.mp ht
 have T2:=am_ hj
 clear hj
 cases t2 with
 | er n =>
  have ht2:=Option.some.inj ht
  subst ht2
  have h3:=Option.some.inj HTN.out
  subst h3
  have h4:=Option.some.inj HH.out
  subst h4
  clear ht HTN HH
  refine start_ (n:=15) (S:=fun w' => w'.cell? ⟨bm,6,none⟩=some v6) (ds:=[14]) #[false,false,false,false,false,false,false,false,false,false,false,false,false,false,false] (by kernel_rfl) rfl rfl (cg0) (fun hHeld => ?_)
  refine pr_ 0 (some 44) ?_
  refine pr_ 2 (some 46) ?_
  refine pr_ 4 (some 48) ?_
  refine pr_ 6 (some 50) ?_
  refine pr_ 8 (some 52) ?_
  refine tk_ 1 (some 45) hHeld ?_ (hy:=by intro w' s0;go_simp;with_reducible rfl)
  refine one_ (i:=3) (N:=some 47) #[true,true,true,true,true,false,true,false,true,false,false,false,false,false,false] rfl rfl (by kernel_rfl) (by decide) (fun K hK => ?_)
  refine goesV_ Tryz.func25 (by kernel_rfl) rfl (.pointer (some ⟨br,0,none⟩)) (by rfl) rfl rfl (by rfl) ?_
  refine (cr_two.calls G0.out.C.1 HL.out T0.out).mono ?_
  rintro e w1' ⟨rfl,hR⟩
  refine ⟨_,rfl,?_⟩
  have G1:=am_ (G0.out.step hR)
  have P1:=am_ (hR.2.R P0.out HLT.out)
  have Q1:=am_ (hR.2.R Q0.out HLT.out)
  have cg1:=(blk_cell G1.out.km 6).trans rfl
  clear hR
  refine hK.out _ _ (cg1) (fun hHeld => ?_)
  clear hK K
  refine norm_ (a':=?_) ?_ ?_
  rotate_left
  ·show Act.put _ (some 47) _=_
   simp only [Act.put,List.setIfInBounds_toArray,List.set_cons_zero,List.set_cons_succ,i64_w,i32_w]
   rfl
  refine one_ (i:=5) (N:=some 49) #[true,true,true,true,true,true,true,false,true,false,false,false,false,false,false] rfl rfl (by kernel_rfl) (by decide) (fun K hK => ?_)
  refine goesV_ Tryz.func25 (by kernel_rfl) rfl (.pointer (some ⟨br,0,none⟩)) (by rfl) rfl rfl (by rfl) ?_
  refine (cr_two.calls G1.out.C.1 HL.out T1.out).mono ?_
  rintro e w2' ⟨rfl,hR⟩
  refine ⟨_,rfl,?_⟩
  have G2:=am_ (G1.out.step hR)
  have P2:=am_ (hR.2.R P1.out HLT.out)
  have Q2:=am_ (hR.2.R Q1.out HLT.out)
  have cg2:=(blk_cell G2.out.km 6).trans rfl
  clear hR
  refine hK.out _ _ (cg2) (fun hHeld => ?_)
  clear hK K
  refine norm_ (a':=?_) ?_ ?_
  rotate_left
  ·show Act.put _ (some 49) _=_
   simp only [Act.put,List.setIfInBounds_toArray,List.set_cons_zero,List.set_cons_succ,i64_w,i32_w]
   rfl
  refine one_ (i:=7) (N:=some 51) #[true,true,true,true,true,true,true,true,true,false,false,false,false,false,false] rfl rfl (by kernel_rfl) (by decide) (fun K hK => ?_)
  refine diesV_ Tryz.func25 (by kernel_rfl) rfl (.pointer (some ⟨br,0,none⟩)) (by rfl) rfl (by rfl) ?_
  refine (cr_two.calls G2.out.C.1 HL.out T2.out).mono ?_
  rintro e wd ⟨rfl,hR⟩
  refine ⟨_,rfl,?_⟩
  exact ⟨rfl,rfl,G2.out.C.below.trans hR⟩
 | ok y2 q2 =>
 obtain ⟨t3,hj,ht⟩:=Option.bind_eq_some_iff.mp ht
 have T3:=am_ hj
 clear hj
 cases t3 with
 | er n =>
  have ht2:=Option.some.inj ht
  subst ht2
  have h3:=Option.some.inj HTN.out
  subst h3
  have h4:=Option.some.inj HH.out
  subst h4
  clear ht HTN HH
  refine start_ (n:=15) (S:=fun w' => w'.cell? ⟨bm,6,none⟩=some v6) (ds:=[14]) #[false,false,false,false,false,false,false,false,false,false,false,false,false,false,false] (by kernel_rfl) rfl rfl (cg0) (fun hHeld => ?_)
  refine pr_ 0 (some 44) ?_
  refine pr_ 2 (some 46) ?_
  refine pr_ 4 (some 48) ?_
  refine pr_ 6 (some 50) ?_
  refine pr_ 8 (some 52) ?_
  refine tk_ 1 (some 45) hHeld ?_ (hy:=by intro w' s0;go_simp;with_reducible rfl)
  refine one_ (i:=3) (N:=some 47) #[true,true,true,true,true,false,true,false,true,false,false,false,false,false,false] rfl rfl (by kernel_rfl) (by decide) (fun K hK => ?_)
  refine goesV_ Tryz.func25 (by kernel_rfl) rfl (.pointer (some ⟨br,0,none⟩)) (by rfl) rfl rfl (by rfl) ?_
  refine (cr_two.calls G0.out.C.1 HL.out T0.out).mono ?_
  rintro e w1' ⟨rfl,hR⟩
  refine ⟨_,rfl,?_⟩
  have G1:=am_ (G0.out.step hR)
  have P1:=am_ (hR.2.R P0.out HLT.out)
  have Q1:=am_ (hR.2.R Q0.out HLT.out)
  have cg1:=(blk_cell G1.out.km 6).trans rfl
  clear hR
  refine hK.out _ _ (cg1) (fun hHeld => ?_)
  clear hK K
  refine norm_ (a':=?_) ?_ ?_
  rotate_left
  ·show Act.put _ (some 47) _=_
   simp only [Act.put,List.setIfInBounds_toArray,List.set_cons_zero,List.set_cons_succ,i64_w,i32_w]
   rfl
  refine one_ (i:=5) (N:=some 49) #[true,true,true,true,true,true,true,false,true,false,false,false,false,false,false] rfl rfl (by kernel_rfl) (by decide) (fun K hK => ?_)
  refine goesV_ Tryz.func25 (by kernel_rfl) rfl (.pointer (some ⟨br,0,none⟩)) (by rfl) rfl rfl (by rfl) ?_
  refine (cr_two.calls G1.out.C.1 HL.out T1.out).mono ?_
  rintro e w2' ⟨rfl,hR⟩
  refine ⟨_,rfl,?_⟩
  have G2:=am_ (G1.out.step hR)
  have P2:=am_ (hR.2.R P1.out HLT.out)
  have Q2:=am_ (hR.2.R Q1.out HLT.out)
  have cg2:=(blk_cell G2.out.km 6).trans rfl
  clear hR
  refine hK.out _ _ (cg2) (fun hHeld => ?_)
  clear hK K
  refine norm_ (a':=?_) ?_ ?_
  rotate_left
  ·show Act.put _ (some 49) _=_
   simp only [Act.put,List.setIfInBounds_toArray,List.set_cons_zero,List.set_cons_succ,i64_w,i32_w]
   rfl
  refine one_ (i:=7) (N:=some 51) #[true,true,true,true,true,true,true,true,true,false,false,false,false,false,false] rfl rfl (by kernel_rfl) (by decide) (fun K hK => ?_)
  refine goesV_ Tryz.func25 (by kernel_rfl) rfl (.pointer (some ⟨br,0,none⟩)) (by rfl) rfl rfl (by rfl) ?_
  refine (cr_two.calls G2.out.C.1 HL.out T2.out).mono ?_
  rintro e w3' ⟨rfl,hR⟩
  refine ⟨_,rfl,?_⟩
  have G3:=am_ (G2.out.step hR)
  have P3:=am_ (hR.2.R P2.out HLT.out)
  have Q3:=am_ (hR.2.R Q2.out HLT.out)
  have cg3:=(blk_cell G3.out.km 6).trans rfl
  clear hR
  refine hK.out _ _ (cg3) (fun hHeld => ?_)
  clear hK K
  refine norm_ (a':=?_) ?_ ?_
  rotate_left
  ·show Act.put _ (some 51) _=_
   simp only [Act.put,List.setIfInBounds_toArray,List.set_cons_zero,List.set_cons_succ,i64_w,i32_w]
   rfl
  refine one_ (i:=9) (N:=some 53) #[true,true,true,true,true,true,true,true,true,true,false,false,false,false,false] rfl rfl (by kernel_rfl) (by decide) (fun K hK => ?_)
  refine diesV_ Tryz.func25 (by kernel_rfl) rfl (.pointer (some ⟨br,0,none⟩)) (by rfl) rfl (by rfl) ?_
  refine (cr_two.calls G3.out.C.1 HL.out T3.out).mono ?_
  rintro e wd ⟨rfl,hR⟩
  refine ⟨_,rfl,?_⟩
  exact ⟨rfl,rfl,G3.out.C.below.trans hR⟩
 | ok y3 q3 =>
 have ht2:=Option.some.inj ht
 subst ht2
 have HT2:=am_ HTN.out
 clear ht HTN
 refine start_ (n:=15) (S:=fun w' => w'.cell? ⟨bm,6,none⟩=some v6) (ds:=[14]) #[false,false,false,false,false,false,false,false,false,false,false,false,false,false,false] (by kernel_rfl) rfl rfl (cg0) (fun hHeld => ?_)
 refine pr_ 0 (some 44) ?_
 refine pr_ 2 (some 46) ?_
 refine pr_ 4 (some 48) ?_
 refine pr_ 6 (some 50) ?_
 refine pr_ 8 (some 52) ?_
 refine tk_ 1 (some 45) hHeld ?_ (hy:=by intro w' s0;go_simp;with_reducible rfl)
 refine one_ (i:=3) (N:=some 47) #[true,true,true,true,true,false,true,false,true,false,false,false,false,false,false] rfl rfl (by kernel_rfl) (by decide) (fun K hK => ?_)
 refine goesV_ Tryz.func25 (by kernel_rfl) rfl (.pointer (some ⟨br,0,none⟩)) (by rfl) rfl rfl (by rfl) ?_
 refine (cr_two.calls G0.out.C.1 HL.out T0.out).mono ?_
 rintro e w1' ⟨rfl,hR⟩
 refine ⟨_,rfl,?_⟩
 have G1:=am_ (G0.out.step hR)
 have P1:=am_ (hR.2.R P0.out HLT.out)
 have Q1:=am_ (hR.2.R Q0.out HLT.out)
 have cg1:=(blk_cell G1.out.km 6).trans rfl
 clear hR
 refine hK.out _ _ (cg1) (fun hHeld => ?_)
 clear hK K
 refine norm_ (a':=?_) ?_ ?_
 rotate_left
 ·show Act.put _ (some 47) _=_
  simp only [Act.put,List.setIfInBounds_toArray,List.set_cons_zero,List.set_cons_succ,i64_w,i32_w]
  rfl
 refine one_ (i:=5) (N:=some 49) #[true,true,true,true,true,true,true,false,true,false,false,false,false,false,false] rfl rfl (by kernel_rfl) (by decide) (fun K hK => ?_)
 refine goesV_ Tryz.func25 (by kernel_rfl) rfl (.pointer (some ⟨br,0,none⟩)) (by rfl) rfl rfl (by rfl) ?_
 refine (cr_two.calls G1.out.C.1 HL.out T1.out).mono ?_
 rintro e w2' ⟨rfl,hR⟩
 refine ⟨_,rfl,?_⟩
 have G2:=am_ (G1.out.step hR)
 have P2:=am_ (hR.2.R P1.out HLT.out)
 have Q2:=am_ (hR.2.R Q1.out HLT.out)
 have cg2:=(blk_cell G2.out.km 6).trans rfl
 clear hR
 refine hK.out _ _ (cg2) (fun hHeld => ?_)
 clear hK K
 refine norm_ (a':=?_) ?_ ?_
 rotate_left
 ·show Act.put _ (some 49) _=_
  simp only [Act.put,List.setIfInBounds_toArray,List.set_cons_zero,List.set_cons_succ,i64_w,i32_w]
  rfl
 refine one_ (i:=7) (N:=some 51) #[true,true,true,true,true,true,true,true,true,false,false,false,false,false,false] rfl rfl (by kernel_rfl) (by decide) (fun K hK => ?_)
 refine goesV_ Tryz.func25 (by kernel_rfl) rfl (.pointer (some ⟨br,0,none⟩)) (by rfl) rfl rfl (by rfl) ?_
 refine (cr_two.calls G2.out.C.1 HL.out T2.out).mono ?_
 rintro e w3' ⟨rfl,hR⟩
 refine ⟨_,rfl,?_⟩
 have G3:=am_ (G2.out.step hR)
 have P3:=am_ (hR.2.R P2.out HLT.out)
 have Q3:=am_ (hR.2.R Q2.out HLT.out)
 have cg3:=(blk_cell G3.out.km 6).trans rfl
 clear hR
 refine hK.out _ _ (cg3) (fun hHeld => ?_)
 clear hK K
 refine norm_ (a':=?_) ?_ ?_
 rotate_left
 ·show Act.put _ (some 51) _=_
  simp only [Act.put,List.setIfInBounds_toArray,List.set_cons_zero,List.set_cons_succ,i64_w,i32_w]
  rfl
 refine one_ (i:=9) (N:=some 53) #[true,true,true,true,true,true,true,true,true,true,false,false,false,false,false] rfl rfl (by kernel_rfl) (by decide) (fun K hK => ?_)
 refine goesV_ Tryz.func25 (by kernel_rfl) rfl (.pointer (some ⟨br,0,none⟩)) (by rfl) rfl rfl (by rfl) ?_
 refine (cr_two.calls G3.out.C.1 HL.out T3.out).mono ?_
 rintro e w4' ⟨rfl,hR⟩
 refine ⟨_,rfl,?_⟩
 have G4:=am_ (G3.out.step hR)
 have P4:=am_ (hR.2.R P3.out HLT.out)
 have Q4:=am_ (hR.2.R Q3.out HLT.out)
 have cg4:=(blk_cell G4.out.km 6).trans rfl
 clear hR
 refine hK.out _ _ (cg4) (fun hHeld => ?_)
 clear hK K
 refine norm_ (a':=?_) ?_ ?_
 rotate_left
 ·show Act.put _ (some 53) _=_
  simp only [Act.put,List.setIfInBounds_toArray,List.set_cons_zero,List.set_cons_succ,i64_w,i32_w]
  rfl
 refine pr_ 10 (some 54) ?_
 refine one_ (i:=11) (N:=some 55) #[true,true,true,true,true,true,true,true,true,true,true,true,false,false,false] rfl rfl (by kernel_rfl) (by decide) (fun K hK => ?_)
 refine value_ (w1:=?_) (v:=?_) (by rfl) rfl ?_ ?_
 rotate_left 2
 ·go_simp
  constructor
  ·rfl
  rfl
 refine hK.out _ _ ((by exact pw_cell_below ((Below.refl _ _).alloc (Nat.le_refl _) _) hHeld)) (fun hHeld => ?_)
 clear hK K
 refine norm_ (a':=?_) ?_ ?_
 rotate_left
 ·show Act.put _ (some 55) _=_
  simp only [Act.put,List.setIfInBounds_toArray,List.set_cons_zero,List.set_cons_succ,i64_w,i32_w]
  rfl
 refine one_ (i:=12) (N:=some 56) #[true,true,true,true,true,true,true,true,true,true,true,true,true,false,false] rfl rfl (by kernel_rfl) (by decide) (fun K hK => ?_)
 refine Kd.R_append_step k63 (w0:=w4') w.heap.size (by rfl) (.tmp 45) (.tmp 55) 55 63 (.agg #[.int .i64 0,.int .i64 0,.int .i64 0,.int .i64 0]) 32 (by rfl) Tryz.underlying55 infoTrp rfl (by decide) (by decide) v6 l ⟨y0,y1,y2,y3⟩ [.int .i64 y0,.int .i64 y1,.int .i64 y2,.int .i64 y3] (fun _ => True) (fun _ => False) (by rfl) (by rfl) (k63_mkM _ _ _ ⟨y0,y1,y2,y3⟩) (fun _ hk => hk.elim) (fun _ _ => trivial) Q4.out (Below.refl _ _) G4.out.C.2.keep.1 (by have:=HLN.out;omega) ?_
 intro v1 w5' hR6 hB5 hg5 ho5
 obtain ⟨A6,c6,hv1⟩:=Kd.R_slice hR6
 simp only [List.length_append,List.length_singleton] at hv1
 subst hv1
 have G5:=am_ (G4.out.grown Q4.out (by decide) hB5 hg5)
 have P5:=am_ (Kd.R_drop (Kd.R_grown (Kd.R_apartR P4.out Q4.out (by decide)) hg5 (fun _ hk => hk.2)))
 have Q5:=am_ hR6
 have cg5:=(blk_cell G5.out.km 6).trans rfl
 have fg5:=blk_frozen G5.out.km 6
 clear hR6 hB5 hg5 ho5
 refine hK.out _ _ (cg5) (fun hHeld => ?_)
 clear hK K
 refine norm_ (a':=?_) ?_ ?_
 rotate_left
 ·show Act.put _ (some 56) _=_
  simp only [Act.put,List.setIfInBounds_toArray,List.set_cons_zero,List.set_cons_succ,i64_w,i32_w]
  rfl
 refine pr_ 13 (some 57) ?_
 refine last_ (i:=14) (N:=none) #[true,true,true,true,true,true,true,true,true,true,true,true,true,true,true] rfl rfl (by kernel_rfl) (by decide) (fun K hK => ?_)
 refine skip_ (w1:=?_) (by rfl) rfl ?_ ?_
 rotate_left
 ·go_simp
  rfl
 refine hK.out _ _ ?_
 clear hK K
 refine done_ (by kernel_rfl) ?_
 have HMe:=am_ (G5.out.set HN.out 6 (.slice A6 (l.length + 1) c6))
 have HPe:=am_ (Kd.R_set P5.out G5.out.km (by decide) 6 (.slice A6 (l.length + 1) c6))
 have HQe:=am_ (Kd.R_set Q5.out G5.out.km (by decide) 6 (.slice A6 (l.length + 1) c6))
 clear hHeld G0 G1 G2 G3 G4 G5 P0 P1 P2 P3 P4 P5 Q0 Q1 Q2 Q3 Q4 Q5 cg0 cg1 cg2 cg3 cg4 cg5 fg5 T0 T1 T2 T3
 have hwi:wrap64 (x - 1)=x - 1:=by have:=HX.out;have:=HXX.out;unfold wrap64;omega
 go_wp2
 go_roundw
 case measure =>
  have:=HXX.out
  show (wrap64 (x - 1)).toNat < x.toNat
  rw [hwi]
  omega
 rw [hwi]
 refine ⟨x - 1,q3,l++[⟨y0,y1,y2,y3⟩],_,rfl,⟨by have:=HX.out;omega⟩,⟨by have:=HLN.out;have:=HXX.out;simp only [List.length_append,List.length_singleton];omega⟩,⟨?_⟩,HMe,HPe,HQe⟩
 have h1:=HMM.out
 rw [show (x - 1).toNat=m from by omega]
 exact HT2.out
end Go.Proofs.YtamdobdmjcgmoaaGreatDoor.Px
namespace Go.Proofs.YtamdobdmjcgmoaaGreatDoor.Px
open Go.RowKit Go.Proofs.YtamdobdmjcgmoaaGreatDoorW.PrintWords Go.Proofs.YtamdobdmjcgmoaaGreatDoorW.PrintLast Go.Proofs.YtamdobdmjcgmoaaGreatDoorW.PrintMore
set_option linter.unusedVariables false
set_option linter.unusedSimpArgs false
def nxN (c:Int):Int:=if 224≤c then (if c < 240 then 3 else 1) else if 192≤c then 2 else 1
theorem nxN_cases (c:Int):nxN c=1 ∨ nxN c=2 ∨ nxN c=3:=by
 unfold nxN
 split
 ·split
  ·exact .inr (.inr rfl)
  exact .inl rfl
 split
 ·exact .inr (.inl rfl)
 exact .inl rfl
def u0V (L:List Int):Int:=if nxN (rd L 0)=1 then wrap32 (rd L 0) else if nxN (rd L 0)=2 then Go.bits .and .i32 (wrap32 (rd L 0)) 31 else Go.bits .and .i32 (wrap32 (rd L 0)) 15
theorem fits_add' (a:Addr) (x j:Nat):(a.add x).add j=a.add (x + j):=by
 unfold Addr.add
 by_cases h1:x=0 <;> by_cases h2:j=0 <;> simp [h1,h2,Nat.add_assoc]
def U2 (L:List Int):Int:=Go.bits .or .i32 (wrap32 (u0V L * 64)) (wrap32 (Go.bits .and .u8 (rd L 1) 63))
def U3 (L:List Int):Int:=Go.bits .or .i32 (wrap32 (U2 L * 64)) (wrap32 (Go.bits .and .u8 (rd L 2) 63))
def uniV (L:List Int):Option Int :=
 if (L.length:Int) < nxN (rd L 0) then none
 else if nxN (rd L 0)=1 then some (u0V L)
 else if rd L 1 / 64=2 then (if nxN (rd L 0)=2 then some (U2 L) else if rd L 2 / 64=2 then some (U3 L) else none) else none
def text_next.f (k:Nat) (L:List Int):Option (Int × Bool × Nat) :=
 match uniV L with
 | none => some (0,false,0)
 | some u => (text_unit.f k [] u).bind fun b => some (u,(strOfNums b).toList==(strOfNums (L.take (nxN (rd L 0)).toNat)).toList,(nxN (rd L 0)).toNat)
set_option maxHeartbeats 8000000 in
set_option maxRecDepth 100000 in
theorem next.calls (k:Nat) (w0 w:World) (gb:Nat) (A:Option Addr) (c:Nat) (L:List Int) (hB:Below w0.heap.size w0 w) (hg:w0.heap.size≤gb) (hb:w.heap[gb]?=some (.cells #[.slice A L.length c] 22 (0,0)))
  (hC:Kd.C (Kd.int .u8) w0 A L.length L) (hc:L.length≤c) (hne:0 < L.length) (r1:Int) (r2:Bool) (r3:Nat) (h:text_next.f k L=some (r1,r2,r3)) :
  Calls Tryz.prog 79 #[.pointer (some ⟨gb,0,none⟩)] w fun e w' => e=.returned (.tuple #[.int .i32 r1,.bool r2])∧(∃ A' c',w'.heap[gb]?=some (.cells #[.slice A' (L.drop r3).length c'] 22 (0,0))∧Kd.C (Kd.int .u8) w0 A' (L.drop r3).length (L.drop r3)∧(L.drop r3).length≤c')∧Below w0.heap.size w0 w'∧Kept w w' (fun j => j=gb):=by
 have HH:=am_ h
 clear h
 have HC:=am_ hC
 have HB:=am_ hB
 have HG:=am_ hg
 have HBK:=am_ hb
 have hcell:w.cell? ⟨gb,0,none⟩=some (.slice A L.length c):=(blk_cell hb 0).trans rfl
 have hCw:=Kd.C_below hC hB
 obtain ⟨ad,rfl,hx0⟩:=Kd.at_int hCw 0 (by omega) (by omega)
 rw [show ((0:Int)).toNat=0 from rfl,Addr.add_zero'] at hx0
 have qi:(0 < L.length)=True:=eq_true hne
 have u22:=Tryz.underlying22
 clear hC hB hg hb hCw
 go_enter Tryz.func79,Tryz.ntmps79
 go_upto_block 0 with (fail)
 go_cut [3] (fun v3 wc => v3=.int .i64 (nxN (rd L 0))∧wc=w)
 case first =>
  by_cases h1:224≤rd L 0
  ·have h1b:decide (224≤rd L 0)=true:=decide_eq_true h1
   by_cases h2:rd L 0 < 240
   ·have h2b:decide (rd L 0 < 240)=true:=decide_eq_true h2
    have hn:=am_ (show nxN (rd L 0)=3 by unfold nxN;rw [if_pos h1,if_pos h2])
    clear h1 h2
    go_wp2
    go_meet
    case rel => exact ⟨by rw [hn.out],rfl⟩
   have h2b:decide (rd L 0 < 240)=false:=decide_eq_false h2
   have h3b:decide (192≤rd L 0)=true:=decide_eq_true (by omega)
   have h4b:decide (rd L 0 < 224)=false:=decide_eq_false (by omega)
   have hn:=am_ (show nxN (rd L 0)=1 by unfold nxN;rw [if_pos h1,if_neg h2])
   clear h1 h2
   go_wp2
   go_meet
   case rel => exact ⟨by rw [hn.out],rfl⟩
  have h1b:decide (224≤rd L 0)=false:=decide_eq_false h1
  by_cases h2:192≤rd L 0
  ·have h2b:decide (192≤rd L 0)=true:=decide_eq_true h2
   have h4b:decide (rd L 0 < 224)=true:=decide_eq_true (by omega)
   have hn:=am_ (show nxN (rd L 0)=2 by unfold nxN;rw [if_neg h1,if_pos h2])
   clear h1 h2
   go_wp2
   go_meet
   case rel => exact ⟨by rw [hn.out],rfl⟩
  have h2b:decide (192≤rd L 0)=false:=decide_eq_false h2
  have hn:=am_ (show nxN (rd L 0)=1 by unfold nxN;rw [if_neg h1,if_neg h2])
  clear h1 h2
  go_wp2
  go_meet
  case rel => exact ⟨by rw [hn.out],rfl⟩
 obtain ⟨rfl,hww⟩:=hcut
 replace hww:=hww.symm
 subst hww
 by_cases hl:(L.length:Int) < nxN (rd L 0)
 ·have hlb:decide ((L.length:Int) < nxN (rd L 0))=true:=decide_eq_true hl
  have hU:uniV L=none:=if_pos hl
  have hH:=HH.out
  unfold text_next.f at hH
  rw [hU] at hH
  simp only [Option.some.injEq,Prod.mk.injEq] at hH
  obtain ⟨rfl,rfl,rfl⟩:=hH
  have HCC:=am_ hc
  clear hl hU
  go_wp2
  go_ret2
  exact ⟨rfl,⟨some ad,c,HBK.out,HC.out,HCC.out⟩,HB.out,Kept.refl _ _⟩
 have hlb:decide ((L.length:Int) < nxN (rd L 0))=false:=decide_eq_false hl
 have HL:=am_ hl
 clear hl
 go_upto_if 35 with (fail)
 go_cut [3,5] (fun v3 v5 wc => v3=.int .i64 (nxN (rd L 0))∧v5=.int .i32 (u0V L)∧wc=w)
 case first =>
  rcases nxN_cases (rd L 0) with hn|hn|hn
  ·rw [hn]
   have hN:=am_ hn
   clear hn
   go_wp2
   go_meet
   case rel => exact ⟨by rw [hN.out],by unfold u0V;rw [hN.out];rfl,rfl⟩
  ·rw [hn]
   have hN:=am_ hn
   clear hn
   go_wp2
   go_meet
   case rel => exact ⟨by rw [hN.out],by unfold u0V;rw [hN.out];rfl,rfl⟩
  rw [hn]
  have hN:=am_ hn
  clear hn
  go_wp2
  go_meet
  case rel => exact ⟨by rw [hN.out],by unfold u0V;rw [hN.out];rfl,rfl⟩
 case rest =>
 obtain ⟨rfl,rfl,hww⟩:=hcut
 replace hww:=hww.symm
 subst hww
 obtain ⟨i0,hi0,_,hsz,_⟩:=info_parts info5
 have hn1:1≤nxN (rd L 0):=by rcases nxN_cases (rd L 0) with hn|hn|hn <;> omega
 have hs1:=cut_mid (P:=Tryz.prog) 22 5 .i64 .i64 Tryz.underlying22 hi0 1 hsz (some ad) L.length c 1 (nxN (rd L 0)) (by decide) hn1 (by have:=HL.out;omega) hc
 obtain ⟨A1,hA1⟩:∃ A1,A1=(if c=(1:Int).toNat then some ad else (some ad).map (·.add ((1:Int).toNat * 1))):=⟨_,rfl⟩
 rw [← hA1] at hs1
 have HA1:=am_ hA1
 clear hA1 hn1 hlb
 go_upto_block 1 with (fail)
 have hr1:2≤nxN (rd L 0)→(∃ a1,A1=some a1∧w.cell? a1=some (.int .u8 (rd L 1))∧(3≤nxN (rd L 0)→w.cell? (a1.add 1)=some (.int .u8 (rd L 2)))):=by
  intro h2
  have hl:=HL.out
  have hCw:=Kd.C_below HC.out HB.out
  have hA:=HA1.out
  rw [if_neg (by rw [show ((1:Int)).toNat=1 from rfl];omega)] at hA
  obtain ⟨a',ea,hx⟩:=Kd.at_int hCw 1 (by omega) (by omega)
  cases ea
  refine ⟨ad.add 1,hA,hx,fun h3 => ?_⟩
  obtain ⟨a',ea,hx⟩:=Kd.at_int hCw 2 (by omega) (by omega)
  cases ea
  rw [fits_add']
  exact hx
 go_cut [3,5,42,43,44] (fun v3 v5 v42 v43 v44 wc => v3=.int .i64 (nxN (rd L 0))∧(∃ u,v5=.int .i32 u∧uniV L=some u)∧wc=w)
 case first =>
  rcases nxN_cases (rd L 0) with hn|hn|hn
  ·have hN:=am_ hn
   rw [hn]
   clear hn
   simp only [Int.reduceToNat,Nat.sub_self]
   go_wp2
   refine wp_loop_rounds 1 ?_
   rw [rounds_succ]
   go_wp2
   go_meet
   case rel => exact ⟨by rw [hN.out],⟨_,rfl,by unfold uniV;rw [if_neg (by have:=HL.out;omega),hN.out,if_pos rfl]⟩,rfl⟩
  ·have hN:=am_ hn
   obtain ⟨a1,rfl,hx1,_⟩:=hr1 (by omega)
   rw [hn]
   clear hn
   simp only [Int.reduceToNat,Nat.reduceSub]
   by_cases hb:rd L 1 / 64=2
   ·have hbb:(rd L 1 / 64 != 2)=false:=bne_eq_false_iff_eq.mpr hb
    have HBB:=am_ hb
    clear hb
    go_wp2
    refine wp_loop_rounds 2 ?_
    rw [rounds_succ]
    go_wp2
    rw [rounds_succ]
    go_wp2
    go_meet
    case rel => exact ⟨by rw [hN.out],⟨_,rfl,by unfold uniV;rw [if_neg (by have:=HL.out;omega),hN.out,if_neg (by decide),if_pos HBB.out,if_pos rfl];rfl⟩,rfl⟩
   have hU:uniV L=none:=by unfold uniV;rw [if_neg (by have:=HL.out;omega),hN.out,if_neg (by decide),if_neg hb]
   have hH:=HH.out
   unfold text_next.f at hH
   rw [hU] at hH
   simp only [Option.some.injEq,Prod.mk.injEq] at hH
   obtain ⟨rfl,rfl,rfl⟩:=hH
   have hbb:(rd L 1 / 64 != 2)=true:=bne_iff_ne.mpr hb
   have HCC:=am_ hc
   clear hb hU
   go_wp2
   refine wp_loop_rounds 1 ?_
   rw [rounds_succ]
   go_wp2
   go_ret2
   exact ⟨rfl,⟨some ad,c,HBK.out,HC.out,HCC.out⟩,HB.out,Kept.refl _ _⟩
  have hN:=am_ hn
  obtain ⟨a1,rfl,hx1,hx2⟩:=hr1 (by omega)
  have hx2:w.cell? ⟨a1.block,a1.off + 1,none⟩=some (.int .u8 (rd L 2)):=hx2 (by omega)
  rw [hn]
  clear hn
  simp only [Int.reduceToNat,Nat.reduceSub]
  by_cases hb:rd L 1 / 64=2
  ·have hbb:(rd L 1 / 64 != 2)=false:=bne_eq_false_iff_eq.mpr hb
   have HBB:=am_ hb
   clear hb
   by_cases hb:rd L 2 / 64=2
   ·have hbb:(rd L 2 / 64 != 2)=false:=bne_eq_false_iff_eq.mpr hb
    have HBB2:=am_ hb
    clear hb
    go_wp2
    refine wp_loop_rounds 3 ?_
    rw [rounds_succ]
    go_wp2
    rw [rounds_succ]
    go_wp2
    rw [rounds_succ]
    go_wp2
    go_meet
    case rel => exact ⟨by rw [hN.out],⟨_,rfl,by unfold uniV;rw [if_neg (by have:=HL.out;omega),hN.out,if_neg (by decide),if_pos HBB.out,if_neg (by decide),if_pos HBB2.out];rfl⟩,rfl⟩
   have hU:uniV L=none:=by unfold uniV;rw [if_neg (by have:=HL.out;omega),hN.out,if_neg (by decide),if_pos HBB.out,if_neg (by decide),if_neg hb]
   have hH:=HH.out
   unfold text_next.f at hH
   rw [hU] at hH
   simp only [Option.some.injEq,Prod.mk.injEq] at hH
   obtain ⟨rfl,rfl,rfl⟩:=hH
   have hbb:(rd L 2 / 64 != 2)=true:=bne_iff_ne.mpr hb
   have HCC:=am_ hc
   clear hb hU
   go_wp2
   refine wp_loop_rounds 2 ?_
   rw [rounds_succ]
   go_wp2
   rw [rounds_succ]
   go_wp2
   go_ret2
   exact ⟨rfl,⟨some ad,c,HBK.out,HC.out,HCC.out⟩,HB.out,Kept.refl _ _⟩
  have hU:uniV L=none:=by unfold uniV;rw [if_neg (by have:=HL.out;omega),hN.out,if_neg (by decide),if_neg hb]
  have hH:=HH.out
  unfold text_next.f at hH
  rw [hU] at hH
  simp only [Option.some.injEq,Prod.mk.injEq] at hH
  obtain ⟨rfl,rfl,rfl⟩:=hH
  have hbb:(rd L 1 / 64 != 2)=true:=bne_iff_ne.mpr hb
  have HCC:=am_ hc
  clear hb hU
  go_wp2
  refine wp_loop_rounds 1 ?_
  rw [rounds_succ]
  go_wp2
  go_ret2
  exact ⟨rfl,⟨some ad,c,HBK.out,HC.out,HCC.out⟩,HB.out,Kept.refl _ _⟩
 case rest =>
 obtain ⟨rfl,⟨u,rfl,hU⟩,hww⟩:=hcut
 replace hww:=hww.symm
 subst hww
 have hH:=HH.out
 unfold text_next.f at hH
 rw [hU] at hH
 obtain ⟨b,hb,hH⟩:=Option.bind_eq_some_iff.mp hH
 simp only [Option.some.injEq,Prod.mk.injEq] at hH
 obtain ⟨rfl,rfl,rfl⟩:=hH
 have HU:=am_ hU
 have HA:=am_ hb
 clear hb hU
 have hn1:1≤nxN (rd L 0):=by rcases nxN_cases (rd L 0) with hn|hn|hn <;> omega
 have hs2:=cut_to (P:=Tryz.prog) 22 5 .i64 Tryz.underlying22 hi0 (some ad) L.length c (nxN (rd L 0)) (by omega) (by have:=HL.out;omega) hc
 have hs3:=cut_from (P:=Tryz.prog) 22 5 .i64 Tryz.underlying22 hi0 1 hsz (some ad) L.length c (nxN (rd L 0)) (by omega) (by have:=HL.out;omega)
 obtain ⟨A2,hA2⟩:∃ A2,A2=(if c=(nxN (rd L 0)).toNat then some ad else (some ad).map (·.add ((nxN (rd L 0)).toNat * 1))):=⟨_,rfl⟩
 rw [← hA2] at hs3
 have HA2:=am_ hA2
 have HN1:=am_ hn1
 have hT:∀ W,Below w0.heap.size w0 W→(convert 22 9 (.slice (some ad) (nxN (rd L 0)).toNat c)).run Tryz.prog W=.ok (.string (strOfNums (L.take (nxN (rd L 0)).toNat))) W:=by
  intro W hW
  have hC1:=Kd.C_take (m:=(nxN (rd L 0)).toNat) (Kd.C_below HC.out hW) (by have:=HL.out;omega)
  rw [List.length_take,Nat.min_eq_left (by have:=HL.out;omega)] at hC1
  exact Kd.C_string Tryz.underlying22 Tryz.underlying5 Tryz.underlying9 hC1
 have HT:=am_ hT
 have hT1:∀ nq,(convert 22 9 (.slice (some ad) (nxN (rd L 0)).toNat c)).run Tryz.prog (w.drewN nq)=.ok (.string (strOfNums (L.take (nxN (rd L 0)).toNat))) (w.drewN nq):=fun nq => hT _ (pw_below_drewN HB.out nq)
 have hT3:(convert 22 9 (.slice (some ad) (nxN (rd L 0)).toNat c)).run Tryz.prog w.drew=.ok (.string (strOfNums (L.take (nxN (rd L 0)).toNat))) w.drew:=hT _ (below_drew1 HB.out)
 have hCC:=am_ hc
 clear hT hA2 hs1 HA1 hn1 hx0 hr1
 go_wp2_with (fail)
 go_region_with (first|(go_at_call 80;refine (text_unit.calls k (fun _ => False) _ [] u b w0 _ (by first|exact HB.out|exact pw_below_drewN HB.out _) (Kd.R_nil _ _ _ _ _) HA.out).mono ?_;rintro e w2 ⟨v2,rfl,hR2,hB2,hK2⟩;obtain ⟨A3,c3,hv3⟩:=Kd.R_slice hR2;subst hv3;have hC3:=(Kd.R_reads' hR2).2.2;have hcv:=Kd.C_string (P:=Tryz.prog) (src:=22) (dst:=9) (c:=c3) Tryz.underlying22 Tryz.underlying5 Tryz.underlying9 hC3;have hHB2:=(hK2.2 gb (by first|exact blk_lt HBK.out) (fun h => h)).trans (by first|exact HBK.out|exact blk_drewN HBK.out _);have hcell2:w2.cell? ⟨gb,0,none⟩=some (.slice (some ad) L.length c):=(blk_cell hHB2 0).trans rfl;have hfz2:=blk_frozen hHB2 0;have hT2:=HT.out w2 hB2;have HB2:=am_ hB2;have HHB2:=am_ hHB2;have HK2:=am_ hK2;clear hR2 hB2 hC3 hHB2 hK2))
 all_goals go_wp2
 all_goals go_ret2
 all_goals (
  refine ⟨rfl,⟨A2,c - (nxN (rd L 0)).toNat,by rw [List.length_drop];simpa using blk_set HHB2.out 0 (.slice A2 (L.length - (nxN (rd L 0)).toNat) (c - (nxN (rd L 0)).toNat)),?_,by rw [List.length_drop];have:=hCC.out;omega⟩,below_set HB2.out HG.out,?_⟩
  ·rw [HA2.out]
   exact Kd.C_drop (m:=(nxN (rd L 0)).toNat) (c:=c) HC.out (by have:=HL.out;omega) hCC.out
  exact Kept.setCell ((show Kept w w2 (fun _ => False) from HK2.out).mono (S':=fun j => j=gb) (fun _ h => h.elim)) (p:=⟨gb,0,none⟩) (.inl rfl) _)
end Go.Proofs.YtamdobdmjcgmoaaGreatDoor.Px
namespace Go.Proofs.YtamdobdmjcgmoaaGreatDoor.Px
open Go.RowKit Go.Proofs.YtamdobdmjcgmoaaGreatDoorW.PrintWords Go.Proofs.YtamdobdmjcgmoaaGreatDoorW.PrintLast Go.Proofs.YtamdobdmjcgmoaaGreatDoorW.PrintMore
set_option linter.unusedVariables false
set_option linter.unusedSimpArgs false
def IsB (ok:Nat→Prop) (w0 w:World) (g:Nat) (l:List Int):Prop :=
 ∃ p v,w.heap[g]?=some (.cells #[p,v] 147 (0,0))∧(p=.pointer none ∨ p=.pointer (some ⟨g,0,none⟩))∧Kd.R (Kd.int .u8) 5 w w0.heap.size ok v l
theorem B_size:(Tryz.prog.info? 147).map (·.size)=some 2:=by kernel_rfl
theorem B_lies:liesAt Tryz.prog Tryz.prog.depth 147 (2 / Tryz.prog.cellsOf 147) 0 147 1=true:=by kernel_rfl
set_option maxRecDepth 100000 in
theorem copyCheck_used (b:Nat) (w:World) (h0:w.cell? ⟨b,0,none⟩=some (.pointer (some ⟨b,0,none⟩))) :
  Calls Tryz.prog 91 #[.pointer (some ⟨b,0,none⟩)] w fun e w' => e=.returned (.tuple #[])∧w'=w:=by
 obtain ⟨j,hj,_⟩:=Option.map_eq_some_iff.1 B_size
 have u1:=Tryz.underlying145
 go_enter Tryz.func91,Tryz.ntmps91
 go_wp2
 rw [Lib.run_neq_ptr_same w _ Tryz.underlying145 hj]
 go_wp2
 go_end0
 exact ⟨rfl,rfl⟩
set_option maxRecDepth 100000 in
theorem copyCheck_fresh (b:Nat) (w:World) (h0:w.cell? ⟨b,0,none⟩=some (.pointer none)) (hsh:w.shape? b=some (147,2)) (hfz:w.frozen? ⟨b,0,none⟩=false) :
  Calls Tryz.prog 91 #[.pointer (some ⟨b,0,none⟩)] w fun e w' => e=.returned (.tuple #[])∧w'=w.setCell ⟨b,0,none⟩ (.pointer (some ⟨b,0,none⟩)):=by
 obtain ⟨j,hj,hjs⟩:=Option.map_eq_some_iff.1 B_size
 have u1:=Tryz.underlying145
 have u2:=Tryz.underlying130
 go_enter Tryz.func91,Tryz.ntmps91
 go_wp2
 rw [Lib.run_to_unsafe w ⟨b,0,none⟩ Tryz.underlying145 Tryz.underlying130 hj (by rw [hjs];decide) hsh (Nat.zero_lt_succ 1)]
 simp only [Result.andThen]
 rw [Oper.upon_value]
 go_wp2
 rw [run_callFunc_extern Tryz.func94 (by kernel_rfl) (by kernel_rfl) (by kernel_rfl) (e:=Extern.AbiNoEscape.same) (by kernel_rfl)]
 rw [Lib.run_noEscape]
 simp only [Result.andThen]
 rw [Oper.upon_value]
 go_wp2
 rw [Lib.run_from_unsafe w ⟨b,0,none⟩ Tryz.underlying130 Tryz.underlying145 hj hsh B_lies]
 simp only [Result.andThen]
 rw [Oper.upon_value]
 go_wp2
 go_end0
 exact ⟨rfl,rfl⟩
theorem copyCheck.calls (w0 w:World) (g:Nat) (p v:Value) (hB:Below w0.heap.size w0 w) (hg0:w0.heap.size≤g) (hb:w.heap[g]?=some (.cells #[p,v] 147 (0,0))) (hp:p=.pointer none ∨ p=.pointer (some ⟨g,0,none⟩)) :
  Calls Tryz.prog 91 #[.pointer (some ⟨g,0,none⟩)] w fun e w' => e=.returned (.tuple #[])∧w'.heap[g]?=some (.cells #[.pointer (some ⟨g,0,none⟩),v] 147 (0,0))∧Below w0.heap.size w0 w'∧Kept w w' (fun j => j=g)∧w'.heap.size=w.heap.size:=by
 have h0:w.cell? ⟨g,0,none⟩=some p:=(blk_cell hb 0).trans rfl
 rcases hp with rfl|rfl
 ·refine (copyCheck_fresh g w h0 (by simp [World.shape?,hb]) (blk_frozen hb 0)).mono ?_
  rintro e w' ⟨rfl,rfl⟩
  exact ⟨rfl,by simpa using blk_set hb 0 (.pointer (some ⟨g,0,none⟩)),below_set hB hg0,Kept.setCell (Kept.refl w (fun j => j=g)) (p:=⟨g,0,none⟩) (.inl rfl) _,by simp [World.setCell]⟩
 refine (copyCheck_used g w h0).mono ?_
 rintro e w' ⟨rfl,rfl⟩
 exact ⟨rfl,hb,hB,Kept.refl _ _,rfl⟩
set_option maxHeartbeats 8000000 in
set_option maxRecDepth 100000 in
theorem writeRune.calls (k:Nat) (ok:Nat→Prop) (w0 w:World) (g:Nat) (l r:List Int) (u:Int) (hB:Below w0.heap.size w0 w) (hg0:w0.heap.size≤g) (hI:IsB ok w0 w g l) (hok:∀ j,ok j→j ≠ g) (h:utf8_AppendRune.f k l u=some r) :
  Calls Tryz.prog 81 #[.pointer (some ⟨g,0,none⟩),.int .i32 u] w fun e w' => (∃ n:Int,e=.returned (.tuple #[.int .i64 n,.nilIface]))∧IsB (fun j => ok j ∨ w.heap.size≤j) w0 w' g r∧Below w0.heap.size w0 w'∧Kept w w' (fun j => ok j ∨ j=g):=by
 obtain ⟨p,v,hb,hp,hR⟩:=hI
 obtain ⟨Ao,co,rfl⟩:=Kd.R_slice hR
 have HCC:=am_ (copyCheck.calls w0 w g p _ hB hg0 hb hp)
 have HR:=am_ hR
 have HA:=am_ h
 have hlt:=blk_lt hb
 have HLT:=am_ hlt
 have HG:=am_ hg0
 have HOK:=am_ hok
 clear hb hp hR h hlt hB hok hg0
 have u1:=Tryz.underlying145
 have u2:=Tryz.underlying22
 go_enter Tryz.func81,Tryz.ntmps81
 go_wp2_with (first
  | (go_at_call 91;refine HCC.out.mono ?_;rintro e w1 ⟨rfl,hb1,hB1,hK1,hz1⟩;have HB1:=am_ hb1;have HW1:=am_ hB1;have HK1:=am_ hK1;have HZ1:=am_ hz1;have HR1:=am_ (Kd.R_step HR.out (fun j hj hl => HK1.out.2 j hl (HOK.out j hj)));have hc0:w1.cell? ⟨g,0,none⟩=some (.pointer (some ⟨g,0,none⟩)):=(blk_cell HB1.out 0).trans rfl;have hc1:w1.cell? ⟨g,1,none⟩=some (.slice Ao l.length co):=(blk_cell HB1.out 1).trans rfl;clear hb1 hB1 hK1 hz1)
  | (go_at_call 92;refine (utf8_AppendRune.calls k ok _ l u r w0 _ HW1.out HR1.out HA.out).mono ?_;rintro e w2 ⟨v2,rfl,hR2,hB2,hK2⟩;have HB2:=am_ ((hK2.2 g (blk_lt HB1.out) (fun h => HOK.out g h rfl)).trans HB1.out);have HR2:=am_ hR2;have HW2:=am_ hB2;have HK2:=am_ hK2;have hd0:w2.cell? ⟨g,0,none⟩=some (.pointer (some ⟨g,0,none⟩)):=(blk_cell HB2.out 0).trans rfl;have hd1:w2.cell? ⟨g,1,none⟩=some (.slice Ao l.length co):=(blk_cell HB2.out 1).trans rfl;have hf1:=blk_frozen HB2.out 1;obtain ⟨Ap,cp,hv2⟩:=Kd.R_slice hR2;subst hv2;clear hR2 hB2 hK2))
 go_ret2
 refine ⟨⟨_,rfl⟩,⟨.pointer (some ⟨g,0,none⟩),.slice Ap r.length cp,by simpa using blk_set HB2.out 1 (.slice Ap r.length cp),.inr rfl,?_⟩,below_set HW2.out HG.out,?_⟩
 ·have h1:Kd.R (Kd.int .u8) 5 (w2.setCell ⟨g,1,none⟩ (.slice Ap r.length cp)) w0.heap.size (fun j => ok j ∨ w1.heap.size≤j) (.slice Ap r.length cp) r:=by
   refine Kd.R_step HR2.out (fun j hj _ => Below.heap_setCell w2 ⟨g,1,none⟩ _ j ?_)
   intro e
   have e1:j=g:=e
   rcases hj with hj|hj
   ·exact HOK.out _ hj e1
   have h2:=HLT.out
   have h3:=HZ1.out
   omega
  rw [HZ1.out] at h1
  exact h1
 exact Kept.setCell ((HK1.out.mono (S':=fun j => ok j ∨ j=g) (fun j h => .inr h)).then_ (S2:=ok) HK2.out (fun j h => .inl (.inl h))) (p:=⟨g,1,none⟩) (.inl (.inr rfl)) _
end Go.Proofs.YtamdobdmjcgmoaaGreatDoor.Px
namespace Go.Proofs.YtamdobdmjcgmoaaGreatDoor.Px
open Go.RowKit Go.Proofs.YtamdobdmjcgmoaaGreatDoorW.PrintWords Go.Proofs.YtamdobdmjcgmoaaGreatDoorW.PrintLast Go.Proofs.YtamdobdmjcgmoaaGreatDoorW.PrintMore
set_option linter.unusedVariables false
set_option linter.unusedSimpArgs false
def pairV (a u:Int):Int:=wrap32 (wrap32 (wrap32 (65536 + wrap32 (wrap32 (a - 55296) * 1024)) + u) - 56320)
def text_Decode.l0:Nat→List Int→Int→List Int→Option (ByteArray × Int)
 | 0,_,_,_ => none
 | k + 1,L,a,o =>
  if 0 < L.length then (text_next.f k L).bind fun t =>
   if t.2.1=true then
    (if ((decide (56320≤t.1) && decide (t.1 < 57344)) != (a != 0))=true then some ((⟨#[]⟩:ByteArray),20)
    else if (a != 0)=true then (utf8_AppendRune.f k o (pairV a t.1)).bind fun o1 => text_Decode.l0 k (L.drop t.2.2) 0 o1
    else if (decide (55296≤t.1) && decide (t.1 < 56320))=true then text_Decode.l0 k (L.drop t.2.2) t.1 o
    else (utf8_AppendRune.f k o t.1).bind fun o1 => text_Decode.l0 k (L.drop t.2.2) a o1)
   else some ((⟨#[]⟩:ByteArray),20)
  else if (a != 0)=true then some ((⟨#[]⟩:ByteArray),20) else some (strOfNums o,0)
def text_Decode.f (k:Nat) (l0:List Int):Option (ByteArray × Int):=text_Decode.l0 k l0 0 []
def IsL (w0 w:World) (gb:Nat) (L:List Int):Prop :=
 ∃ A c,w.heap[gb]?=some (.cells #[.slice A L.length c] 22 (0,0))∧Kd.C (Kd.int .u8) w0 A L.length L∧L.length≤c
def Ok2 (g gb j:Nat):Prop:=j ≠ g∧j ≠ gb
theorem IsB.keep {ok:Nat→Prop} {w0 w w':World} {g gb:Nat} {l:List Int} (h:IsB ok w0 w g l) (hk:Kept w w' (fun j => j=gb)) (hok:∀ j,ok j→j ≠ gb) (hne:g ≠ gb):IsB ok w0 w' g l:=by
 obtain ⟨p,v,hb,hp,hR⟩:=h
 exact ⟨p,v,(hk.2 g (blk_lt hb) hne).trans hb,hp,Kd.R_step hR (fun j hj hl => hk.2 j hl (hok j hj))⟩
theorem IsB.mono {ok ok':Nat→Prop} {w0 w:World} {g:Nat} {l:List Int} (h:IsB ok w0 w g l) (hok:∀ j,ok j→ok' j):IsB ok' w0 w g l:=by
 obtain ⟨p,v,hb,hp,hR⟩:=h
 exact ⟨p,v,hb,hp,Kd.R_mono hR hok⟩
theorem IsL.keep {w0 w w':World} {gb:Nat} {L:List Int} {S:Nat→Prop} (h:IsL w0 w gb L) (hk:Kept w w' S) (hn:¬ S gb):IsL w0 w' gb L:=by
 obtain ⟨A,c,hb,hC,hc⟩:=h
 exact ⟨A,c,(hk.2 gb (blk_lt hb) hn).trans hb,hC,hc⟩
def IsBytes (l:List Int):Prop:=∀ x ∈ l,0≤x∧x < 256
theorem bits_byte (op:BinOp) (a b:Int):0≤Go.bits op .u8 a b∧Go.bits op .u8 a b < 256:=by
 have h1:=Go.bits_lo_u8 op a b
 have h2:=Go.bits_hi_u8 op a b
 exact ⟨h1,by omega⟩
theorem IsBytes.app {a b:List Int} (ha:IsBytes a) (hb:IsBytes b):IsBytes (a++b):=fun x hx => (List.mem_append.1 hx).elim (ha x) (hb x)
theorem IsBytes.cons {x:Int} {l:List Int} (hx:0≤x∧x < 256) (hl:IsBytes l):IsBytes (x :: l):=fun y hy => (List.mem_cons.1 hy).elim (fun e => e ▸ hx) (hl y)
theorem IsBytes.nil:IsBytes []:=fun x hx => by cases hx
theorem utf8_appendRuneNonASCII.bytes_j0 (k:Nat) (o:List Int) (x y:Int) (b:Bool) (r:List Int) (ho:IsBytes o) (h:utf8_appendRuneNonASCII.j0 k o x y b=some r):IsBytes r:=by
 cases k with
 | zero => cases h
 | succ k =>
  simp only [utf8_appendRuneNonASCII.j0] at h
  repeat' split at h
  all_goals simp only [Option.bind_some,Option.ite_none_right_eq_some,Option.some.injEq,reduceCtorEq] at h
  all_goals first
   | (obtain ⟨_,rfl⟩:=h;refine ho.app ?_;repeat (first|exact IsBytes.nil|refine IsBytes.cons (by first|exact bits_byte _ _ _|omega) ?_))
   | (cases h)
theorem utf8_AppendRune.bytes (k:Nat) (o:List Int) (x:Int) (r:List Int) (ho:IsBytes o) (h:utf8_AppendRune.f k o x=some r):IsBytes r:=by
 unfold utf8_AppendRune.f at h
 split at h
 ·split at h
  ·cases h
   exact ho.app (IsBytes.cons (by omega) IsBytes.nil)
  cases h
 obtain ⟨q,hq,h⟩:=Option.bind_eq_some_iff.mp h
 cases h
 unfold utf8_appendRuneNonASCII.f at hq
 repeat' split at hq
 all_goals first
  | (exact utf8_appendRuneNonASCII.bytes_j0 _ _ _ _ _ _ ho hq)
  | (simp only [Option.bind_some,Option.ite_none_right_eq_some,Option.some.injEq] at hq;obtain ⟨_,rfl⟩:=hq;refine ho.app ?_;repeat (first|exact IsBytes.nil|refine IsBytes.cons (by first|exact bits_byte _ _ _|omega) ?_))
theorem reps_nums {l:List Int} {inner:List Value} (h:Reps (fun x cs => cs=[Value.int .u8 x]) 1 l inner):inner=nums .u8 l:=by
 apply List.ext_getElem?
 intro j
 have hl:inner.length=l.length:=by have:=h.1;omega
 rcases Nat.lt_or_ge j l.length with hj|hj
 ·have h1:=h.2 j _ (List.getElem?_eq_getElem hj)
  rw [Nat.mul_one,List.drop_eq_getElem_cons (by omega)] at h1
  simp only [List.take_succ_cons,List.take_zero,List.cons.injEq,and_true] at h1
  rw [List.getElem?_eq_getElem (by omega),h1]
  unfold nums
  rw [List.getElem?_map,List.getElem?_eq_getElem hj]
  rfl
 rw [List.getElem?_eq_none (by omega),List.getElem?_eq_none (by rw [nums_length];omega)]
theorem byteCells_nums {l:List Int} (h:IsBytes l):Lib.byteCells (l.map fun n => UInt8.ofNat n.toNat)=nums .u8 l:=by
 unfold Lib.byteCells nums
 rw [List.map_map]
 refine List.map_congr_left fun x hx => ?_
 have:=h x hx
 simp only [Function.comp,UInt8.toNat_ofNat']
 rw [Nat.mod_eq_of_lt (by omega),Int.toNat_of_nonneg this.1]
theorem IsB.string {ok:Nat→Prop} {w0 w:World} {g:Nat} {l:List Int} (h:IsB ok w0 w g l) (hl:IsBytes l) (hg:w0.heap.size≤g) (hz:w0.heap.size≤w.heap.size) :
  Calls Tryz.prog 82 #[.pointer (some ⟨g,0,none⟩)] w fun e w' => e=.returned (.string (strOfNums l))∧Below w0.heap.size w w':=by
 obtain ⟨p,v,hb,hp,hR⟩:=h
 have hne:=Kd.R_ne hR hb (by decide)
 obtain ⟨_,inner,ho,hr⟩:=hR
 have hr:=reps_nums hr
 subst hr
 have hbb:Lib.BuilderAt 147 5 w0.heap.size g p (Lib.byteCells (l.map fun n => UInt8.ofNat n.toNat)) w:=by
  rw [byteCells_nums hl]
  exact ⟨hg,v,hb,by rw [nums_length];exact ho,hne.symm⟩
 refine (Tryz.Builder_String_any w0.heap.size g (l.map fun n => UInt8.ofNat n.toNat) w ?_ hz).mono ?_
 ·rcases hp with rfl|rfl
  ·exact .inl hbb
  exact .inr hbb
 rintro e w' ⟨rfl,hB⟩
 exact ⟨rfl,hB⟩
set_option maxHeartbeats 80000000 in
set_option maxRecDepth 100000 in
theorem text_Decode.calls (k:Nat) (A0:Option Addr) (c0:Nat) (l0:List Int) (r1:ByteArray) (r2:Int) (w:World) (hr0:Kd.C (Kd.int .u8) w A0 l0.length l0) (hc0:l0.length≤c0) (h:text_Decode.f k l0=some (r1,r2)) :
  Calls Tryz.prog 65 #[.slice A0 l0.length c0] w fun e w' => e=.returned (.tuple #[.string r1,.int .i64 r2])∧Below w.heap.size w w':=by
 have HR:=am_ hr0
 have HC:=am_ hc0
 have H0:=am_ h
 clear hr0 hc0 h
 have u22:=Tryz.underlying22
 have uB:=Tryz.underlying147
 go_enter Tryz.func65,Tryz.ntmps65
 go_wp2_with (first
  | ((with_reducible refine gate_dst (N:=1) rfl ?_);refine box_event ?hg (N:=1) ?hd (cs:=#[.slice A0 l0.length c0]) (t:=22) ?hr ?_;(case hd => rfl);(case hg => rfl);(case hr => first|(go_simp;done)|(go_simp;rfl));intro gb hg w1 hbox hb;have HB1:=am_ (below_step (Below.refl w.heap.size w) hb);have BK1:=am_ hbox;have GE1:=am_ (Nat.le_of_eq hg.symm);clear hb hbox hg)
  | ((with_reducible refine gate_dst (N:=4) rfl ?_);refine box_event ?hg (N:=4) ?hd (cs:=#[.pointer none,.slice none 0 0]) (t:=147) ?hr ?_;(case hd => rfl);(case hg => rfl);(case hr => first|(go_simp;done)|(go_simp;rfl));intro g hg w2 hbox hb;have HB2:=am_ (below_step HB1.out hb);have BK2:=am_ hbox;have BK1':=am_ (blk_below BK1.out hb);have GE2:=am_ (show w.heap.size≤g from by rw [hg];exact HB1.out.size);have NE:=am_ (show gb ≠ g from by rw [hg];exact Nat.ne_of_lt (blk_lt BK1.out));clear hb hbox hg))
 have HZ:=am_ HB2.out.size
 go_loopg [5] k (fun kq v5 wr => ∃ (L:List Int) (a:Int) (o:List Int),v5=.int .i32 a∧Aside0 (text_Decode.l0 kq L a o=some (r1,r2))∧Aside0 (kq≤k)∧Aside0 (IsL w wr gb L)∧Aside0 (IsB (Ok2 g gb) w wr g o)∧Aside0 (IsBytes o)∧Aside0 (Below w.heap.size w wr))
 case atStart => exact ⟨l0,0,[],rfl,H0,⟨Nat.le_refl _⟩,⟨A0,c0,BK1'.out,HR.out,HC.out⟩,⟨.pointer none,.slice none 0 0,BK2.out,.inl rfl,Kd.R_nil _ _ _ _ _⟩,⟨fun x hx => by cases hx⟩,HB2⟩
 obtain ⟨L,a,o,rfl,HA,HK,HL,HI,HW,HB⟩:=hrel
 cases gk with
 | zero => exact absurd HA.out (by simp [text_Decode.l0])
 | succ k1 =>
 have H:=HA.out
 clear HA
 simp only [text_Decode.l0] at H
 obtain ⟨A,c,hbk,hC,hc⟩:=HL.out
 have HBK:=am_ hbk
 have HCC:=am_ hC
 have Hc:=am_ hc
 have hcell:wr.cell? ⟨gb,0,none⟩=some (.slice A L.length c):=(blk_cell hbk 0).trans rfl
 clear hbk hC hc
 have hlt:g < wr.heap.size:=by obtain ⟨p,v,hp,_⟩:=HI.out;exact blk_lt hp
 have HLT:=am_ hlt
 have HLB:=am_ (blk_lt HBK.out)
 clear hlt
 by_cases hp:0 < L.length
 rotate_left
 ·rw [if_neg hp] at H
  have hpi:decide ((0:Int) < (L.length:Int))=false:=decide_eq_false (by omega)
  have hpb:decide (0 < L.length)=false:=decide_eq_false hp
  have hpe:(0 < L.length)=False:=eq_false hp
  clear hp
  by_cases ha:(a != 0)=true
  ·rw [if_pos ha] at H
   simp only [Option.some.injEq,Prod.mk.injEq] at H
   obtain ⟨rfl,rfl⟩:=H
   go_wp2
   go_ret2
   exact ⟨rfl,HB.out⟩
  have ha':(a != 0)=false:=by simpa using ha
  rw [if_neg ha] at H
  simp only [Option.some.injEq,Prod.mk.injEq] at H
  obtain ⟨rfl,rfl⟩:=H
  clear ha
  have hS:=IsB.string HI.out HW.out GE2.out HB.out.size
  go_wp2_with (go_at_call 82;refine hS.mono ?_;rintro e w3 ⟨rfl,hB3⟩;have HB3:=am_ hB3;clear hB3)
  go_ret2
  exact ⟨rfl,HB.out.trans HB3.out⟩
 rw [if_pos hp] at H
 obtain ⟨⟨u,t,m⟩,hn,H⟩:=Option.bind_eq_some_iff.mp H
 have HN:=am_ (next.calls k1 w wr gb A c L HB.out GE1.out HBK.out HCC.out Hc.out hp u t m hn)
 have hpb:decide (0 < L.length)=true:=decide_eq_true hp
 have hpi:decide ((0:Int) < (L.length:Int))=true:=decide_eq_true (by omega)
 clear hp hn
 cases t with
 | false =>
  rw [if_neg (by simp)] at H
  simp only [Option.some.injEq,Prod.mk.injEq] at H
  obtain ⟨rfl,rfl⟩:=H
  go_wp2_with (first|(go_at_call 79;refine HN.out.mono ?_;rintro e w3 ⟨rfl,hL3,hB3,hK3⟩;have HL3:=am_ hL3;have HB3:=am_ hB3;have HI3:=am_ (IsB.keep HI.out hK3 (fun j hj => hj.2) (Ne.symm NE.out));have HS3:=am_ hK3.1;clear hL3 hB3 hK3))
  go_ret2
  exact ⟨rfl,HB3.out⟩
 | true =>
  rw [if_pos rfl] at H
  by_cases h1:56320≤u
  rotate_left
  ·have h1b:decide (56320≤u)=false:=decide_eq_false h1
   clear h1
   by_cases ha:(a != 0)=true
   ·rw [if_pos (by simp [h1b,ha])] at H
    simp only [Option.some.injEq,Prod.mk.injEq] at H
    obtain ⟨rfl,rfl⟩:=H
    go_wp2_with (first|(go_at_call 79;refine HN.out.mono ?_;rintro e w3 ⟨rfl,hL3,hB3,hK3⟩;have HL3:=am_ hL3;have HB3:=am_ hB3;have HI3:=am_ (IsB.keep HI.out hK3 (fun j hj => hj.2) (Ne.symm NE.out));have HS3:=am_ hK3.1;clear hL3 hB3 hK3))
    go_ret2
    exact ⟨rfl,HB3.out⟩
   have ha':(a != 0)=false:=by simpa using ha
   clear ha
   rw [if_neg (by simp [h1b,ha']),if_neg (by simp [ha'])] at H
   by_cases h3:55296≤u
   ·have h3b:decide (55296≤u)=true:=decide_eq_true h3
    by_cases h4:u < 56320
    ·have h4b:decide (u < 56320)=true:=decide_eq_true h4
     rw [if_pos (by rw [h3b,h4b];rfl)] at H
     clear h3 h4
     have H':=am_ H
     clear H
     go_wp2_with (first|(go_at_call 79;refine HN.out.mono ?_;rintro e w3 ⟨rfl,hL3,hB3,hK3⟩;have HL3:=am_ hL3;have HB3:=am_ hB3;have HI3:=am_ (IsB.keep HI.out hK3 (fun j hj => hj.2) (Ne.symm NE.out));have HS3:=am_ hK3.1;clear hL3 hB3 hK3))
     go_roundg k1
     case measure => have:=HK.out;omega
     case rel => exact ⟨_,u,o,rfl,H',⟨by have:=HK.out;omega⟩,HL3,HI3,HW,HB3⟩
    have h4b:decide (u < 56320)=false:=decide_eq_false h4
    rw [if_neg (by rw [h3b,h4b];decide)] at H
    clear h3 h4
    obtain ⟨o1,ho1,H⟩:=Option.bind_eq_some_iff.mp H
    have H2:=am_ ho1
    have H':=am_ H
    clear ho1 H
    go_wp2_with (first|(go_at_call 79;refine HN.out.mono ?_;rintro e w3 ⟨rfl,hL3,hB3,hK3⟩;have HL3:=am_ hL3;have HB3:=am_ hB3;have HI3:=am_ (IsB.keep HI.out hK3 (fun j hj => hj.2) (Ne.symm NE.out));have HS3:=am_ hK3.1;clear hL3 hB3 hK3)|(go_at_call 81;refine (writeRune.calls k1 (Ok2 g gb) w w3 g o o1 u HB3.out GE2.out HI3.out (fun j hj => hj.1) H2.out).mono ?_;rintro e w4 ⟨⟨nn,rfl⟩,hI4,hB4,hK4⟩;have HI4:=am_ (IsB.mono hI4 (fun j hj => by rcases hj with hj|hj;exact hj;exact ⟨by have:=HLT.out;have:=HS3.out;omega,by have:=HLB.out;have:=HS3.out;omega⟩));have HB4:=am_ hB4;have HL4:=am_ (IsL.keep HL3.out hK4 (by rintro (h|h);exact h.2 rfl;exact NE.out h));clear hI4 hB4 hK4))
    go_roundg k1
    case measure => have:=HK.out;omega
    case rel => exact ⟨_,a,o1,by first|rfl|simp [*],H',⟨by have:=HK.out;omega⟩,HL4,HI4,⟨utf8_AppendRune.bytes _ _ _ _ HW.out H2.out⟩,HB4⟩
   have h3b:decide (55296≤u)=false:=decide_eq_false h3
   rw [if_neg (by rw [h3b];simp)] at H
   clear h3
   obtain ⟨o1,ho1,H⟩:=Option.bind_eq_some_iff.mp H
   have H2:=am_ ho1
   have H':=am_ H
   clear ho1 H
   go_wp2_with (first|(go_at_call 79;refine HN.out.mono ?_;rintro e w3 ⟨rfl,hL3,hB3,hK3⟩;have HL3:=am_ hL3;have HB3:=am_ hB3;have HI3:=am_ (IsB.keep HI.out hK3 (fun j hj => hj.2) (Ne.symm NE.out));have HS3:=am_ hK3.1;clear hL3 hB3 hK3)|(go_at_call 81;refine (writeRune.calls k1 (Ok2 g gb) w w3 g o o1 u HB3.out GE2.out HI3.out (fun j hj => hj.1) H2.out).mono ?_;rintro e w4 ⟨⟨nn,rfl⟩,hI4,hB4,hK4⟩;have HI4:=am_ (IsB.mono hI4 (fun j hj => by rcases hj with hj|hj;exact hj;exact ⟨by have:=HLT.out;have:=HS3.out;omega,by have:=HLB.out;have:=HS3.out;omega⟩));have HB4:=am_ hB4;have HL4:=am_ (IsL.keep HL3.out hK4 (by rintro (h|h);exact h.2 rfl;exact NE.out h));clear hI4 hB4 hK4))
   go_roundg k1
   case measure => have:=HK.out;omega
   case rel => exact ⟨_,a,o1,by first|rfl|simp [*],H',⟨by have:=HK.out;omega⟩,HL4,HI4,⟨utf8_AppendRune.bytes _ _ _ _ HW.out H2.out⟩,HB4⟩
  have h1b:decide (56320≤u)=true:=decide_eq_true h1
  by_cases h2:u < 57344
  ·have h2b:decide (u < 57344)=true:=decide_eq_true h2
   clear h1 h2
   by_cases ha:(a != 0)=true
   ·rw [if_neg (by simp [h1b,h2b,ha]),if_pos ha] at H
    obtain ⟨o1,ho1,H⟩:=Option.bind_eq_some_iff.mp H
    have H2:=am_ ho1
    have H':=am_ H
    clear ho1 H
    go_wp2_with (first|(go_at_call 79;refine HN.out.mono ?_;rintro e w3 ⟨rfl,hL3,hB3,hK3⟩;have HL3:=am_ hL3;have HB3:=am_ hB3;have HI3:=am_ (IsB.keep HI.out hK3 (fun j hj => hj.2) (Ne.symm NE.out));have HS3:=am_ hK3.1;clear hL3 hB3 hK3)|(go_at_call 81;refine (writeRune.calls k1 (Ok2 g gb) w w3 g o o1 (pairV a u) HB3.out GE2.out HI3.out (fun j hj => hj.1) H2.out).mono ?_;rintro e w4 ⟨⟨nn,rfl⟩,hI4,hB4,hK4⟩;have HI4:=am_ (IsB.mono hI4 (fun j hj => by rcases hj with hj|hj;exact hj;exact ⟨by have:=HLT.out;have:=HS3.out;omega,by have:=HLB.out;have:=HS3.out;omega⟩));have HB4:=am_ hB4;have HL4:=am_ (IsL.keep HL3.out hK4 (by rintro (h|h);exact h.2 rfl;exact NE.out h));clear hI4 hB4 hK4))
    go_roundg k1
    case measure => have:=HK.out;omega
    case rel => exact ⟨_,0,o1,by first|rfl|simp [*],H',⟨by have:=HK.out;omega⟩,HL4,HI4,⟨utf8_AppendRune.bytes _ _ _ _ HW.out H2.out⟩,HB4⟩
   have ha':(a != 0)=false:=by simpa using ha
   clear ha
   rw [if_pos (by simp [h1b,h2b,ha'])] at H
   simp only [Option.some.injEq,Prod.mk.injEq] at H
   obtain ⟨rfl,rfl⟩:=H
   go_wp2_with (first|(go_at_call 79;refine HN.out.mono ?_;rintro e w3 ⟨rfl,hL3,hB3,hK3⟩;have HL3:=am_ hL3;have HB3:=am_ hB3;have HI3:=am_ (IsB.keep HI.out hK3 (fun j hj => hj.2) (Ne.symm NE.out));have HS3:=am_ hK3.1;clear hL3 hB3 hK3))
   go_ret2
   exact ⟨rfl,HB3.out⟩
  have h2b:decide (u < 57344)=false:=decide_eq_false h2
  clear h1 h2
  by_cases ha:(a != 0)=true
  ·rw [if_pos (by simp [h1b,h2b,ha])] at H
   simp only [Option.some.injEq,Prod.mk.injEq] at H
   obtain ⟨rfl,rfl⟩:=H
   go_wp2_with (first|(go_at_call 79;refine HN.out.mono ?_;rintro e w3 ⟨rfl,hL3,hB3,hK3⟩;have HL3:=am_ hL3;have HB3:=am_ hB3;have HI3:=am_ (IsB.keep HI.out hK3 (fun j hj => hj.2) (Ne.symm NE.out));have HS3:=am_ hK3.1;clear hL3 hB3 hK3))
   go_ret2
   exact ⟨rfl,HB3.out⟩
  have ha':(a != 0)=false:=by simpa using ha
  clear ha
  rw [if_neg (by simp [h1b,h2b,ha']),if_neg (by simp [ha'])] at H
  by_cases h3:55296≤u
  ·have h3b:decide (55296≤u)=true:=decide_eq_true h3
   by_cases h4:u < 56320
   ·have h4b:decide (u < 56320)=true:=decide_eq_true h4
    rw [if_pos (by rw [h3b,h4b];rfl)] at H
    clear h3 h4
    have H':=am_ H
    clear H
    go_wp2_with (first|(go_at_call 79;refine HN.out.mono ?_;rintro e w3 ⟨rfl,hL3,hB3,hK3⟩;have HL3:=am_ hL3;have HB3:=am_ hB3;have HI3:=am_ (IsB.keep HI.out hK3 (fun j hj => hj.2) (Ne.symm NE.out));have HS3:=am_ hK3.1;clear hL3 hB3 hK3))
    go_roundg k1
    case measure => have:=HK.out;omega
    case rel => exact ⟨_,u,o,rfl,H',⟨by have:=HK.out;omega⟩,HL3,HI3,HW,HB3⟩
   have h4b:decide (u < 56320)=false:=decide_eq_false h4
   rw [if_neg (by rw [h3b,h4b];decide)] at H
   clear h3 h4
   obtain ⟨o1,ho1,H⟩:=Option.bind_eq_some_iff.mp H
   have H2:=am_ ho1
   have H':=am_ H
   clear ho1 H
   go_wp2_with (first|(go_at_call 79;refine HN.out.mono ?_;rintro e w3 ⟨rfl,hL3,hB3,hK3⟩;have HL3:=am_ hL3;have HB3:=am_ hB3;have HI3:=am_ (IsB.keep HI.out hK3 (fun j hj => hj.2) (Ne.symm NE.out));have HS3:=am_ hK3.1;clear hL3 hB3 hK3)|(go_at_call 81;refine (writeRune.calls k1 (Ok2 g gb) w w3 g o o1 u HB3.out GE2.out HI3.out (fun j hj => hj.1) H2.out).mono ?_;rintro e w4 ⟨⟨nn,rfl⟩,hI4,hB4,hK4⟩;have HI4:=am_ (IsB.mono hI4 (fun j hj => by rcases hj with hj|hj;exact hj;exact ⟨by have:=HLT.out;have:=HS3.out;omega,by have:=HLB.out;have:=HS3.out;omega⟩));have HB4:=am_ hB4;have HL4:=am_ (IsL.keep HL3.out hK4 (by rintro (h|h);exact h.2 rfl;exact NE.out h));clear hI4 hB4 hK4))
   go_roundg k1
   case measure => have:=HK.out;omega
   case rel => exact ⟨_,a,o1,by first|rfl|simp [*],H',⟨by have:=HK.out;omega⟩,HL4,HI4,⟨utf8_AppendRune.bytes _ _ _ _ HW.out H2.out⟩,HB4⟩
  have h3b:decide (55296≤u)=false:=decide_eq_false h3
  rw [if_neg (by rw [h3b];simp)] at H
  clear h3
  obtain ⟨o1,ho1,H⟩:=Option.bind_eq_some_iff.mp H
  have H2:=am_ ho1
  have H':=am_ H
  clear ho1 H
  go_wp2_with (first|(go_at_call 79;refine HN.out.mono ?_;rintro e w3 ⟨rfl,hL3,hB3,hK3⟩;have HL3:=am_ hL3;have HB3:=am_ hB3;have HI3:=am_ (IsB.keep HI.out hK3 (fun j hj => hj.2) (Ne.symm NE.out));have HS3:=am_ hK3.1;clear hL3 hB3 hK3)|(go_at_call 81;refine (writeRune.calls k1 (Ok2 g gb) w w3 g o o1 u HB3.out GE2.out HI3.out (fun j hj => hj.1) H2.out).mono ?_;rintro e w4 ⟨⟨nn,rfl⟩,hI4,hB4,hK4⟩;have HI4:=am_ (IsB.mono hI4 (fun j hj => by rcases hj with hj|hj;exact hj;exact ⟨by have:=HLT.out;have:=HS3.out;omega,by have:=HLB.out;have:=HS3.out;omega⟩));have HB4:=am_ hB4;have HL4:=am_ (IsL.keep HL3.out hK4 (by rintro (h|h);exact h.2 rfl;exact NE.out h));clear hI4 hB4 hK4))
  go_roundg k1
  case measure => have:=HK.out;omega
  case rel => exact ⟨_,a,o1,by first|rfl|simp [*],H',⟨by have:=HK.out;omega⟩,HL4,HI4,⟨utf8_AppendRune.bytes _ _ _ _ HW.out H2.out⟩,HB4⟩
end Go.Proofs.YtamdobdmjcgmoaaGreatDoor.Px
namespace Go.Proofs.YtamdobdmjcgmoaaGreatDoor.Px
open Go.RowKit Go.Proofs.YtamdobdmjcgmoaaGreatDoorW.PrintWords Go.Proofs.YtamdobdmjcgmoaaGreatDoorW.PrintLast Go.Proofs.YtamdobdmjcgmoaaGreatDoorW.PrintMore
set_option linter.unusedVariables false
set_option linter.unusedSimpArgs false
theorem RdStep.set {B:Nat} {w W:World} {g k:Nat} (h:RdStep B w W g) (hk:w.heap.size≤k) (hB:B≤k) (j:Nat) (u:Value):RdStep B w (W.setCell ⟨k,j,none⟩ u) g :=
 ⟨h.below.setCell (p:=⟨k,j,none⟩) hB u,⟨by rw [show (W.setCell ⟨k,j,none⟩ u).heap.size=W.heap.size from by simp];exact h.keep.1,fun i hi hg hr => (Below.heap_setCell W ⟨k,j,none⟩ u i (by show i ≠ k;omega)).trans (h.keep.2 i hi hg hr)⟩⟩
theorem RdStep.alloc {B:Nat} {w W:World} {g:Nat} (h:RdStep B w W g) (hB:B≤W.heap.size) (o:Obj):RdStep B w (W.alloc o) g :=
 ⟨h.below.alloc hB o,h.keep.trans (KeepBut.of_below (below_alloc (Below.refl _ _) o) g none) (.inl rfl)⟩
def pool_two.f (k:Nat) (bs:List Int) (p:Nat) (e:Int):Option (Int × Int × Nat) :=
 if e=0 then (rd_Uint.f k bs p 2).bind fun r => if 0≤r.1∧r.1 < 65536 then some r else none else some (0,e,p)
theorem two_range {k:Nat} {bs:List Int} {p:Nat} {e x e':Int} {p':Nat} (h:pool_two.f k bs p e=some (x,e',p')):0≤x∧x < 65536:=by
 unfold pool_two.f at h
 split at h
 ·obtain ⟨r,_,h⟩:=Option.bind_eq_some_iff.mp h
  split at h
  ·rename_i hh;obtain rfl:=Option.some.inj h;exact hh
  cases h
 simp only [Option.some.injEq,Prod.mk.injEq] at h;omega
def TwoPost (B:Nat) (w:World) (g ge:Nat) (bs:List Int) (e':Int) (p':Nat) (w':World):Prop :=
 IsRd B w' g bs p'∧w'.heap[ge]?=some (.cells #[.int .i64 e'] 28 (0,0))∧Below B w w'∧∀ k,k < w.heap.size→k ≠ g→k ≠ ge→w'.heap[k]?=w.heap[k]?
set_option maxHeartbeats 4000000 in
set_option maxRecDepth 100000 in
theorem pool_two.calls (k B g ge g1:Nat) (bs:List Int) (p:Nat) (e x e':Int) (p':Nat) (w:World) (hI:IsRd B w g bs p) (hl:bs.length≤140737488355328) (hBe:B≤ge) (hbe:w.heap[ge]?=some (.cells #[.int .i64 e] 28 (0,0))) (hb1:w.heap[g1]?=some (.cells #[.pointer (some ⟨g,0,none⟩)] 37 (0,0))) (h:pool_two.f k bs p e=some (x,e',p')) :
  Calls Tryz.prog 64 #[.pointer (some ⟨ge,0,none⟩),.pointer (some ⟨g1,0,none⟩)] w fun r w' => r=.returned (.int .i64 x)∧TwoPost B w g ge bs e' p' w':=by
 have ce:w.cell? ⟨ge,0,none⟩=some (.int .i64 e):=(blk_cell hbe 0).trans rfl
 have c1:w.cell? ⟨g1,0,none⟩=some (.pointer (some ⟨g,0,none⟩)):=(blk_cell hb1 0).trans rfl
 unfold pool_two.f at h
 by_cases he:e=0
 ·rw [if_pos he] at h
  obtain ⟨⟨y,e2,p2⟩,hU,h⟩:=Option.bind_eq_some_iff.mp h
  by_cases hb:0≤y∧y < 65536
  rotate_left
  ·rw [if_neg hb] at h
   cases h
  rw [if_pos hb] at h
  simp only [Option.some.injEq,Prod.mk.injEq] at h
  obtain ⟨rfl,rfl,rfl⟩:=h
  have HU:=am_ (rd_Uint.calls k B g bs p 2 y e2 p2 w hI (by decide) (by decide) hl hU)
  obtain ⟨y0,y1⟩:=hb
  have heb:(e != 0)=false:=bne_eq_false_iff_eq.mpr he
  have HBE:=am_ hbe
  have HBG:=am_ hBe
  have HNE:Aside0 (ge ≠ g):=⟨fun hh => by obtain ⟨v,hv,_⟩:=hI.blk;rw [hh] at hbe;rw [hbe] at hv;injection hv with hv;injection hv with _ ht;cases ht⟩
  clear hI hl hBe hbe hb1 hU he
  go_enter Tryz.func64,Tryz.ntmps64
  go_wp2_with fail
  refine HU.out.mono ?_
  rintro r w1 ⟨rfl,hP⟩
  have HP:=am_ hP
  have hbe1:=hP.2.blk HNE.out HBE.out
  have ce1:w1.cell? ⟨ge,0,none⟩=some (.int .i64 e):=(blk_cell hbe1 0).trans rfl
  have fe1:=blk_frozen hbe1 0
  have HBE1:=am_ hbe1
  clear hP hbe1 ce c1 HU
  go_wp2
  go_ret
  refine ⟨rfl,HP.out.1.far HBE1.out (by decide) (by decide) 0 _,blk_set HBE1.out 0 _,HP.out.2.below.setCell (p:=⟨ge,0,none⟩) HBG.out _,fun j hj hg he => ?_⟩
  exact (Below.heap_setCell w1 ⟨ge,0,none⟩ _ j he).trans (HP.out.2.keep.2 j hj hg (by simp))
 rw [if_neg he] at h
 simp only [Option.some.injEq,Prod.mk.injEq] at h
 obtain ⟨rfl,rfl,rfl⟩:=h
 have heb:(e != 0)=true:=bne_iff_ne.mpr he
 have HI:=am_ hI
 have HBE:=am_ hbe
 clear hI hbe hb1 he hl hBe
 go_enter Tryz.func64,Tryz.ntmps64
 go_wp2
 go_ret
 exact ⟨rfl,HI.out,HBE.out,Below.refl _ _,fun _ _ _ _ => rfl⟩
abbrev Cst2:=S61
def set5 (W:World) (k:Nat) (cc:Cst2):World:=(((((W.setCell ⟨k,0,none⟩ (.int .i64 cc.f0)).setCell ⟨k,1,none⟩ (.string cc.f1)).setCell ⟨k,2,none⟩ (.int .i64 cc.f2)).setCell ⟨k,3,none⟩ (.int .i64 cc.f3)).setCell ⟨k,4,none⟩ (.int .i64 cc.f4))
theorem set5_far {W:World} {k j:Nat} {cc:Cst2} {t:TypeId} {cs:Array Value} (h:W.heap[j]?=some (.cells cs t (0,0))) (hne:j ≠ k):(set5 W k cc).heap[j]?=some (.cells cs t (0,0)) :=
 blk_far (blk_far (blk_far (blk_far (blk_far h hne _) hne _) hne _) hne _) hne _
def constCells (cc:Cst2):Array Value:=#[.int .i64 cc.f0,.string cc.f1,.int .i64 cc.f2,.int .i64 cc.f3,.int .i64 cc.f4]
theorem set5_at {W:World} {k:Nat} {cc:Cst2} (h:W.heap[k]?=some (.cells #[.int .i64 0,.string (⟨#[]⟩:ByteArray),.int .i64 0,.int .i64 0,.int .i64 0] 61 (0,0))):(set5 W k cc).heap[k]?=some (.cells (constCells cc) 61 (0,0)):=by
 unfold set5 constCells
 refine blk_put (cs:=#[.int .i64 cc.f0,.string cc.f1,.int .i64 cc.f2,.int .i64 cc.f3,.int .i64 0]) ?_ 4 _ rfl
 refine blk_put (cs:=#[.int .i64 cc.f0,.string cc.f1,.int .i64 cc.f2,.int .i64 0,.int .i64 0]) ?_ 3 _ rfl
 refine blk_put (cs:=#[.int .i64 cc.f0,.string cc.f1,.int .i64 0,.int .i64 0,.int .i64 0]) ?_ 2 _ rfl
 refine blk_put (cs:=#[.int .i64 cc.f0,.string (⟨#[]⟩:ByteArray),.int .i64 0,.int .i64 0,.int .i64 0]) ?_ 1 _ rfl
 refine blk_put (cs:=#[.int .i64 0,.string (⟨#[]⟩:ByteArray),.int .i64 0,.int .i64 0,.int .i64 0]) ?_ 0 _ rfl
 exact h
theorem set5_cells {W:World} {k j:Nat} {cc c2:Cst2} (h:W.heap[j]?=some (.cells (constCells c2) 61 (0,0))) (hne:j ≠ k):(set5 W k cc).drew.cell? ⟨j,0,none⟩=some (.int .i64 c2.f0)∧(set5 W k cc).drew.cell? ⟨j,1,none⟩=some (.string c2.f1)∧(set5 W k cc).drew.cell? ⟨j,2,none⟩=some (.int .i64 c2.f2)∧(set5 W k cc).drew.cell? ⟨j,3,none⟩=some (.int .i64 c2.f3)∧(set5 W k cc).drew.cell? ⟨j,4,none⟩=some (.int .i64 c2.f4):=by
 have hb:(set5 W k cc).drew.heap[j]?=some (.cells (constCells c2) 61 (0,0)):=blk_drew (set5_far (cc:=cc) h hne)
 exact ⟨(blk_cell hb 0).trans rfl,(blk_cell hb 1).trans rfl,(blk_cell hb 2).trans rfl,(blk_cell hb 3).trans rfl,(blk_cell hb 4).trans rfl⟩
theorem set5_cell1 {W:World} {k j:Nat} {cc:Cst2} {e:Int} (h:W.heap[j]?=some (.cells #[.int .i64 e] 28 (0,0))) (hne:j ≠ k):(set5 W k cc).drew.cell? ⟨j,0,none⟩=some (.int .i64 e):=by
 have hb:(set5 W k cc).drew.heap[j]?=some (.cells #[.int .i64 e] 28 (0,0)):=blk_drew (set5_far (cc:=cc) h hne)
 exact (blk_cell hb 0).trans rfl
def pool_constant.f (k:Nat) (bs:List Int) (p:Nat):Option (Cst2 × Int × Nat) :=
 (rd_Uint.f k bs p 1).bind fun t =>
  if 0≤t.1∧t.1 < 256 then
   (if t.2.1=0 then
    (if t.1=1 then (pool_two.f k bs t.2.2 0).bind fun n =>
      if n.2.1=0 then
       (if n.1 > 256 then some (⟨t.1,⟨#[]⟩,0,0,0⟩,20,n.2.2)
        else if rdE bs n.2.2 n.1.toNat=0 then (text_Decode.f k (rdL bs n.2.2 n.1.toNat)).bind fun s => some (⟨t.1,s.1,0,0,0⟩,s.2,rdP bs n.2.2 n.1.toNat)
          else some (⟨t.1,⟨#[]⟩,0,0,0⟩,rdE bs n.2.2 n.1.toNat,rdP bs n.2.2 n.1.toNat))
      else some (⟨t.1,⟨#[]⟩,0,0,0⟩,n.2.1,n.2.2)
     else if t.1=3 then (rd_Int.f k bs t.2.2 4).bind fun n => some (⟨t.1,⟨#[]⟩,n.1,0,0⟩,n.2.1,n.2.2)
     else if t.1=5 then (rd_Int.f k bs t.2.2 8).bind fun n => some (⟨t.1,⟨#[]⟩,n.1,0,0⟩,n.2.1,n.2.2)
     else if t.1=7 then (pool_two.f k bs t.2.2 0).bind fun n => some (⟨t.1,⟨#[]⟩,0,n.1,0⟩,n.2.1,n.2.2)
     else if t.1=9 ∨ t.1=10 ∨ t.1=12 then (pool_two.f k bs t.2.2 0).bind fun n => (pool_two.f k bs n.2.2 n.2.1).bind fun m => some (⟨t.1,⟨#[]⟩,0,n.1,m.1⟩,m.2.1,m.2.2)
     else some (⟨t.1,⟨#[]⟩,0,0,0⟩,40,t.2.2))
    else some (⟨t.1,⟨#[]⟩,0,0,0⟩,t.2.1,t.2.2))
  else none
theorem set5_Rd {B:Nat} {W:World} {g k:Nat} {bs:List Int} {p:Nat} {cc:Cst2} {cs:Array Value} (h:IsRd B W g bs p) (hb:W.heap[k]?=some (.cells cs 61 (0,0))):IsRd B (set5 W k cc) g bs p:=by
 obtain ⟨v,hk,hr⟩:=h.blk
 have hne:g ≠ k:=blk_ne hk hb (by decide)
 have h1:=Kd.R_set hr hb (by decide) 0 (.int .i64 cc.f0)
 have b1:=blk_set hb 0 (.int .i64 cc.f0)
 have h2:=Kd.R_set h1 b1 (by decide) 1 (.string cc.f1)
 have b2:=blk_set b1 1 (.string cc.f1)
 have h3:=Kd.R_set h2 b2 (by decide) 2 (.int .i64 cc.f2)
 have b3:=blk_set b2 2 (.int .i64 cc.f2)
 have h4:=Kd.R_set h3 b3 (by decide) 3 (.int .i64 cc.f3)
 have b4:=blk_set b3 3 (.int .i64 cc.f3)
 exact ⟨h.ge,⟨v,set5_far hk hne,Kd.R_set h4 b4 (by decide) 4 (.int .i64 cc.f4)⟩,h.hi⟩
theorem set5_St {B:Nat} {w W:World} {g k:Nat} {cc:Cst2} (h:RdStep B w W g) (hk:w.heap.size≤k) (hB:B≤k):RdStep B w (set5 W k cc) g:=((((h.set hk hB 0 _).set hk hB 1 _).set hk hB 2 _).set hk hB 3 _).set hk hB 4 _
def ConstPost (B:Nat) (w:World) (g:Nat) (bs:List Int) (cc:Cst2) (ee:Int) (p':Nat) (r:Ending) (w':World):Prop :=
 r=.returned (.tuple #[.agg (constCells cc),.int .i64 ee])∧RdPost B w g bs p' w'
structure ConstMid (B:Nat) (w:World) (g g1 g2 ge gc:Nat) (bs:List Int) (cc:Cst2) (ee:Int) (p':Nat) (W:World):Prop where
 I:IsRd B W g bs p'
 S:RdStep B w W g
 b1:W.heap[g1]?=some (.cells #[.pointer (some ⟨g,0,none⟩)] 37 (0,0))
 b2:W.heap[g2]?=some (.cells #[.int .i64 0,.string (⟨#[]⟩:ByteArray),.int .i64 0,.int .i64 0,.int .i64 0] 61 (0,0))
 be:W.heap[ge]?=some (.cells #[.int .i64 ee] 28 (0,0))
 bc:W.heap[gc]?=some (.cells (constCells cc) 61 (0,0))
 lB:B≤g
 lg:g < w.heap.size
 l1:w.heap.size≤g1
 l2:g1 < g2
 le:g2 < ge
 lc:ge < gc
section
variable {B:Nat} {w:World} {g g1 g2 ge gc:Nat} {bs:List Int} {cc:Cst2} {ee e':Int} {p p':Nat} {W W':World}
theorem ConstMid.two (h:ConstMid B w g g1 g2 ge gc bs cc ee p W) (k:TwoPost B W g ge bs e' p' W'):ConstMid B w g g1 g2 ge gc bs cc e' p' W':=by
 obtain ⟨k1,k2,k3,k4⟩:=k
 obtain ⟨hI,hS,h1,h2,he,hc,lB,lg,l1,l2,le,lc⟩:=h
 refine ⟨k1,⟨hS.below.trans k3,⟨Nat.le_trans hS.keep.1 k3.size,fun i hi hg hr => ?_⟩⟩,(k4 g1 (blk_lt h1) (by omega) (by omega)).trans h1,(k4 g2 (blk_lt h2) (by omega) (by omega)).trans h2,k2,(k4 gc (blk_lt hc) (by omega) (by omega)).trans hc,lB,lg,l1,l2,le,lc⟩
 exact (k4 i (Nat.lt_of_lt_of_le hi hS.keep.1) hg (by omega)).trans (hS.keep.2 i hi hg hr)
theorem ConstMid.rd (h:ConstMid B w g g1 g2 ge gc bs cc ee p W) (k:RdPost B W g bs p' W'):ConstMid B w g g1 g2 ge gc bs cc ee p' W':=by
 obtain ⟨hI,hS,h1,h2,he,hc,lB,lg,l1,l2,le,lc⟩:=h
 exact ⟨k.1,hS.trans k.2,k.2.blk (by omega) h1,k.2.blk (by omega) h2,k.2.blk (by omega) he,k.2.blk (by omega) hc,lB,lg,l1,l2,le,lc⟩
theorem ConstMid.below (h:ConstMid B w g g1 g2 ge gc bs cc ee p W) (k:Below W.heap.size W W'):ConstMid B w g g1 g2 ge gc bs cc ee p W':=h.rd ⟨h.I.below k,⟨k.mono h.I.base_le,KeepBut.of_below k _ _⟩⟩
theorem ConstMid.setE (h:ConstMid B w g g1 g2 ge gc bs cc ee p W) (e':Int):ConstMid B w g g1 g2 ge gc bs cc e' p (W.setCell ⟨ge,0,none⟩ (.int .i64 e')):=by
 obtain ⟨hI,hS,h1,h2,he,hc,lB,lg,l1,l2,le,lc⟩:=h
 exact ⟨hI.far he (by decide) (by decide) 0 _,hS.set (by omega) (by omega) 0 _,blk_far h1 (show g1 ≠ ge by omega) _,blk_far h2 (show g2 ≠ ge by omega) _,blk_set he 0 _,blk_far hc (show gc ≠ ge by omega) _,lB,lg,l1,l2,le,lc⟩
theorem ConstMid.setC (h:ConstMid B w g g1 g2 ge gc bs cc ee p W) (j:Nat) (u:Value) (c2:Cst2) (hj:(constCells cc).setIfInBounds j u=constCells c2):ConstMid B w g g1 g2 ge gc bs c2 ee p (W.setCell ⟨gc,j,none⟩ u):=by
 obtain ⟨hI,hS,h1,h2,he,hc,lB,lg,l1,l2,le,lc⟩:=h
 exact ⟨hI.far hc (by decide) (by decide) j u,hS.set (by omega) (by omega) j u,blk_far h1 (show g1 ≠ gc by omega) _,blk_far h2 (show g2 ≠ gc by omega) _,blk_far he (show ge ≠ gc by omega) _,(blk_set hc j u).trans (by rw [hj]),lB,lg,l1,l2,le,lc⟩
end
theorem const_start {B:Nat} {w wA:World} {g:Nat} {bs:List Int} {p:Nat} (hI:IsRd B w g bs p) (hw:wA=(w.alloc (.cells #[.pointer (some ⟨g,0,none⟩)] 37 (0,0))).alloc (.cells #[.int .i64 0,.string (⟨#[]⟩:ByteArray),.int .i64 0,.int .i64 0,.int .i64 0] 61 (0,0))) :
  IsRd B wA g bs p∧RdStep B w wA g∧wA.heap[w.heap.size]?=some (.cells #[.pointer (some ⟨g,0,none⟩)] 37 (0,0))∧wA.heap[w.heap.size + 1]?=some (.cells #[.int .i64 0,.string (⟨#[]⟩:ByteArray),.int .i64 0,.int .i64 0,.int .i64 0] 61 (0,0))∧wA.heap.size=w.heap.size + 2:=by
 have hb:Below w.heap.size w wA:=by rw [hw];exact below_alloc (below_alloc (Below.refl _ _) _) _
 refine ⟨hI.below hb,⟨hb.mono hI.base_le,KeepBut.of_below hb _ _⟩,?_,?_,by rw [hw];simp⟩
 ·rw [hw,heap_alloc_old _ _ (by simp)]
  exact heap_alloc_new w _
 rw [hw]
 simpa using heap_alloc_new (w.alloc (.cells #[.pointer (some ⟨g,0,none⟩)] 37 (0,0))) (.cells #[.int .i64 0,.string (⟨#[]⟩:ByteArray),.int .i64 0,.int .i64 0,.int .i64 0] 61 (0,0))
theorem const_mid {B:Nat} {w w1 wM:World} {g g1 g2:Nat} {bs:List Int} {p:Nat} {e t:Int} (lB:B≤g) (lg:g < w.heap.size) (l1:w.heap.size≤g1) (l2:g1 < g2) (hI:IsRd B w1 g bs p) (hS:RdStep B w w1 g) (h1:w1.heap[g1]?=some (.cells #[.pointer (some ⟨g,0,none⟩)] 37 (0,0))) (h2:w1.heap[g2]?=some (.cells #[.int .i64 0,.string (⟨#[]⟩:ByteArray),.int .i64 0,.int .i64 0,.int .i64 0] 61 (0,0)))
  (hw:wM=(w1.alloc (.cells #[.int .i64 e] 28 (0,0))).alloc (.cells #[.int .i64 t,.string (⟨#[]⟩:ByteArray),.int .i64 0,.int .i64 0,.int .i64 0] 61 (0,0))) :
  ConstMid B w g g1 g2 w1.heap.size (w1.heap.size + 1) bs ⟨t,⟨#[]⟩,0,0,0⟩ e p wM:=by
 have hb:Below w1.heap.size w1 wM:=by rw [hw];exact below_alloc (below_alloc (Below.refl _ _) _) _
 refine ⟨hI.below hb,hS.trans ⟨hb.mono hI.base_le,KeepBut.of_below hb _ _⟩,(hb.block _ (blk_lt h1)).trans h1,(hb.block _ (blk_lt h2)).trans h2,?_,?_,lB,lg,l1,l2,blk_lt h2,Nat.lt_succ_self _⟩
 ·rw [hw,heap_alloc_old _ _ (by simp)]
  exact heap_alloc_new w1 _
 rw [hw]
 simpa [constCells] using heap_alloc_new (w1.alloc (.cells #[.int .i64 e] 28 (0,0))) (.cells #[.int .i64 t,.string (⟨#[]⟩:ByteArray),.int .i64 0,.int .i64 0,.int .i64 0] 61 (0,0))
set_option maxHeartbeats 40000000 in
set_option maxRecDepth 100000 in
theorem pool_constant.calls (k B g:Nat) (bs:List Int) (p:Nat) (cc:Cst2) (ee:Int) (p':Nat) (w:World) (hI:IsRd B w g bs p) (hl:bs.length≤140737488355328) (h:pool_constant.f k bs p=some (cc,ee,p')) :
  Calls Tryz.prog 45 #[.pointer (some ⟨g,0,none⟩)] w fun r w' => ConstPost B w g bs cc ee p' r w':=by
 unfold pool_constant.f at h
 obtain ⟨⟨t,e1,p1⟩,hU,h⟩:=Option.bind_eq_some_iff.mp h
 by_cases hb:0≤t∧t < 256
 rotate_left
 ·rw [if_neg hb] at h
  cases h
 rw [if_pos hb] at h
 obtain ⟨t0,t1⟩:=hb
 have HI0:=am_ hI
 have HLL:=am_ hl
 have HU:=am_ hU
 clear hI hl hU
 simp only at h
 go_enter Tryz.func45,Tryz.ntmps45
 go_wp2_with fail
 obtain ⟨wA,hwA⟩:∃ wA,wA=(w.alloc (.cells #[.pointer (some ⟨g,0,none⟩)] 37 (0,0))).alloc (.cells #[.int .i64 0,.string (⟨#[]⟩:ByteArray),.int .i64 0,.int .i64 0,.int .i64 0] 61 (0,0)):=⟨_,rfl⟩
 obtain ⟨hIA,hSA,hk1,hk2,hszA⟩:=const_start HI0.out hwA
 rw [← hwA]
 clear hwA
 obtain ⟨g1,hg1⟩:∃ g1,g1=w.heap.size:=⟨_,rfl⟩
 obtain ⟨g2,hg2⟩:∃ g2,g2=g1 + 1:=⟨_,rfl⟩
 rw [← hg1,← hg2] at hk2
 rw [← hg1] at hk1
 rw [← hg1,← hg2]
 have HG1:=am_ hg1
 have HG2:=am_ hg2
 have HSZ:=am_ hszA
 have BK1:=am_ hk1
 have BK2:=am_ hk2
 have HSA:=am_ hSA
 have HUC:=am_ (rd_Uint.calls k B g bs p 1 t e1 p1 wA hIA (by decide) (by decide) HLL.out HU.out)
 clear hg1 hg2 hszA hk1 hk2 hSA hIA
 refine HUC.out.mono ?_
 rintro r w1 ⟨rfl,hP⟩
 have HI1:=am_ hP.1
 have HS1:=am_ (HSA.out.trans hP.2)
 have NE1:Aside0 (g1 ≠ g):=⟨by have:=HI0.out.lt;rw [HG1.out];omega⟩
 have NE2:Aside0 (g2 ≠ g):=⟨by have:=HI0.out.lt;rw [HG2.out,HG1.out];omega⟩
 have BK1':=am_ (hP.2.blk NE1.out BK1.out)
 have BK2':=am_ (hP.2.blk NE2.out BK2.out)
 have HS2:Aside0 (g2 < w1.heap.size):=⟨blk_lt BK2'.out⟩
 clear hP BK1 BK2 HUC HSA
 by_cases he:e1=0
 rotate_left
 ·rw [if_neg he] at h
  have heb:(e1 != 0)=true:=bne_iff_ne.mpr he
  clear he
  simp only [Option.some.injEq,Prod.mk.injEq] at h
  obtain ⟨hcc,hee,hpp⟩:=h
  obtain rfl:ee=e1:=hee.symm
  obtain rfl:p'=p1:=hpp.symm
  go_upto_region 5 with (fail)
  obtain ⟨wM,hwM⟩:∃ wM,wM=(w1.alloc (.cells #[.int .i64 ee] 28 (0,0))).alloc (.cells #[.int .i64 t,.string (⟨#[]⟩:ByteArray),.int .i64 0,.int .i64 0,.int .i64 0] 61 (0,0)):=⟨_,rfl⟩
  have hM:=const_mid HI0.out.ge HI0.out.lt (Nat.le_of_eq HG1.out.symm) (by rw [HG2.out];exact Nat.lt_succ_self _) HI1.out HS1.out BK1'.out BK2'.out hwM
  rw [← hwM]
  clear hwM
  obtain ⟨ge,hge⟩:∃ ge,ge=w1.heap.size:=⟨_,rfl⟩
  obtain ⟨gc,hgc⟩:∃ gc,gc=ge + 1:=⟨_,rfl⟩
  rw [← hge,← hgc] at hM
  rw [← hge]
  (try rw [← hgc])
  have HM:=am_ hM
  clear hM hge hgc BK1' BK2' HS2
  replace HM:=am_ (hcc ▸ HM.out)
  clear hcc
  have BKc:=am_ HM.out.bc
  have BKe:=am_ HM.out.be
  have BK2:=am_ HM.out.b2
  have NE2c:Aside0 (g2 ≠ gc):=⟨by have:=HM.out.le;have:=HM.out.lc;omega⟩
  have NE2e:Aside0 (g2 ≠ ge):=⟨by have:=HM.out.le;omega⟩
  have G2LE:Aside0 (w.heap.size≤g2):=⟨by have:=HM.out.l1;have:=HM.out.l2;omega⟩
  have G2B:Aside0 (B≤g2):=⟨by have:=HM.out.lB;have:=HM.out.lg;have:=G2LE.out;omega⟩
  have hz0:wM.cell? ⟨g2,0,none⟩=some (.int .i64 0):=(blk_cell BK2.out 0).trans rfl
  have hz1:wM.cell? ⟨g2,1,none⟩=some (.string (⟨#[]⟩:ByteArray)):=(blk_cell BK2.out 1).trans rfl
  have hz2:wM.cell? ⟨g2,2,none⟩=some (.int .i64 0):=(blk_cell BK2.out 2).trans rfl
  have hz3:wM.cell? ⟨g2,3,none⟩=some (.int .i64 0):=(blk_cell BK2.out 3).trans rfl
  have hz4:wM.cell? ⟨g2,4,none⟩=some (.int .i64 0):=(blk_cell BK2.out 4).trans rfl
  have hfz0:wM.frozen? ⟨g2,0,none⟩=false:=blk_frozen BK2.out 0
  have hfz1:wM.frozen? ⟨g2,1,none⟩=false:=blk_frozen BK2.out 1
  have hfz2:wM.frozen? ⟨g2,2,none⟩=false:=blk_frozen BK2.out 2
  have hfz3:wM.frozen? ⟨g2,3,none⟩=false:=blk_frozen BK2.out 3
  have hfz4:wM.frozen? ⟨g2,4,none⟩=false:=blk_frozen BK2.out 4
  obtain ⟨hqc0,hqc1,hqc2,hqc3,hqc4⟩:=set5_cells (cc:=cc) BKc.out NE2c.out.symm
  have hqe:=set5_cell1 (cc:=cc) BKe.out NE2e.out.symm
  refine start_ (n:=4) (S:=fun w' => w'.cell? ⟨gc,0,none⟩=some (.int .i64 cc.f0)∧w'.cell? ⟨gc,1,none⟩=some (.string cc.f1)∧w'.cell? ⟨gc,2,none⟩=some (.int .i64 cc.f2)∧w'.cell? ⟨gc,3,none⟩=some (.int .i64 cc.f3)∧w'.cell? ⟨gc,4,none⟩=some (.int .i64 cc.f4)∧w'.cell? ⟨ge,0,none⟩=some (.int .i64 ee)) (ds:=[]) #[false,false,false,false] (by kernel_rfl) rfl rfl ⟨(blk_cell BKc.out 0).trans rfl,(blk_cell BKc.out 1).trans rfl,(blk_cell BKc.out 2).trans rfl,(blk_cell BKc.out 3).trans rfl,(blk_cell BKc.out 4).trans rfl,(blk_cell BKe.out 0).trans rfl⟩ (fun hHeld => ?_)
  refine tk_ 0 (some 21) hHeld ?_ (hy:=by rintro w' ⟨s0,s1,s2,s3,s4,s5⟩;go_simp;with_reducible rfl)
  refine tk_ 1 (some 22) hHeld ?_ (hy:=by rintro w' ⟨s0,s1,s2,s3,s4,s5⟩;go_simp;with_reducible rfl)
  refine one_ (i:=2) (N:=none) #[true,true,true,false] rfl rfl (by kernel_rfl) (by decide) (fun K hK => ?_)
  refine skip_ (w1:=(set5 wM g2 cc).drew) (by rfl) rfl ?_ ?_
  ·go_simp
   rfl
  refine hK.out _ _ ⟨hqc0,hqc1,hqc2,hqc3,hqc4,hqe⟩ (fun hHeld => ?_)
  clear hK K
  refine pr_ 3 (some 3) ?_
  refine done_ (by kernel_rfl) ?_
  go_wp2
  refine bodyPost_ret (results_ct rfl _ _ g2 61 (constCells cc) (0,0) _ rfl (blk_drew (set5_at (W:=wM) (cc:=cc) BK2.out)) Tryz.underlying61 rfl (by kernel_rfl)) rfl ?_
  exact ⟨rfl,(set5_Rd HM.out.I BK2.out).drewN 1,(set5_St HM.out.S G2LE.out G2B.out).trans (RdStep.drewN _ _ _ 1)⟩
 rw [if_pos he] at h
 have heb:(e1 != 0)=false:=bne_eq_false_iff_eq.mpr he
 subst he
 go_upto_block 0 with (fail)
 obtain ⟨wM,hwM⟩:∃ wM,wM=(w1.alloc (.cells #[.int .i64 0] 28 (0,0))).alloc (.cells #[.int .i64 t,.string (⟨#[]⟩:ByteArray),.int .i64 0,.int .i64 0,.int .i64 0] 61 (0,0)):=⟨_,rfl⟩
 have hM:=const_mid HI0.out.ge HI0.out.lt (Nat.le_of_eq HG1.out.symm) (by rw [HG2.out];exact Nat.lt_succ_self _) HI1.out HS1.out BK1'.out BK2'.out hwM
 rw [← hwM]
 clear hwM
 obtain ⟨ge,hge⟩:∃ ge,ge=w1.heap.size:=⟨_,rfl⟩
 obtain ⟨gc,hgc⟩:∃ gc,gc=ge + 1:=⟨_,rfl⟩
 rw [← hge,← hgc] at hM
 rw [← hge]
 (try rw [← hgc])
 have HM:=am_ hM
 clear hM hge hgc BK1' BK2' HS2
 go_cut [] (fun wc => Aside0 (ConstMid B w g g1 g2 ge gc bs cc ee p' wc))
 case first =>
  have two:=fun (W:World) (pp:Nat) (e0 x e2:Int) (p2:Nat) (c2:Cst2) (hm:ConstMid B w g g1 g2 ge gc bs c2 e0 pp W) (hh:pool_two.f k bs pp e0=some (x,e2,p2)) => pool_two.calls k B g ge g1 bs pp e0 x e2 p2 W hm.I HLL.out (by have:=hm.lB;have:=hm.lg;have:=hm.l1;have:=hm.l2;have:=hm.le;omega) hm.be hm.b1 hh
  have TWO:=am_ two
  clear two
  have ce:wM.cell? ⟨ge,0,none⟩=some (.int .i64 0):=(blk_cell HM.out.be 0).trans rfl
  have c1:wM.cell? ⟨g1,0,none⟩=some (.pointer (some ⟨g,0,none⟩)):=(blk_cell HM.out.b1 0).trans rfl
  by_cases q1:t=1
  rotate_left
  ·rw [if_neg q1] at h
   have k1:(t==1)=false:=beq_eq_false_iff_ne.mpr q1
   by_cases q3:t=3
   ·rw [if_pos q3] at h
    have k3:(t==3)=true:=beq_iff_eq.mpr q3
    obtain ⟨⟨x,e2,p2⟩,hN,h⟩:=Option.bind_eq_some_iff.mp h
    simp only [Option.some.injEq,Prod.mk.injEq] at h
    obtain ⟨hcc,hee,hpp⟩:=h
    obtain rfl:ee=e2:=hee.symm
    obtain rfl:p'=p2:=hpp.symm
    have HCE:=am_ hcc
    have HN:=am_ (rd_Int.calls k B g bs p1 4 x ee p' wM HM.out.I (by decide) (by decide) HLL.out hN)
    clear hN hcc q3
    go_wp2_with fail
    refine HN.out.mono ?_
    rintro r w2 ⟨rfl,hP⟩
    have HM2:=am_ (HM.out.rd hP)
    have ce4:w2.cell? ⟨ge,0,none⟩=some (.int .i64 0):=(blk_cell HM2.out.be 0).trans rfl
    have fe4:w2.frozen? ⟨ge,0,none⟩=false:=blk_frozen HM2.out.be 0
    have cc4:w2.cell? ⟨gc,2,none⟩=some (.int .i64 0):=(blk_cell HM2.out.bc 2).trans rfl
    have fc4:w2.frozen? ⟨gc,2,none⟩=false:=blk_frozen HM2.out.bc 2
    have hne:(ge=gc)=False:=eq_false (by have:=HM2.out.lc;omega)
    have hne2:(gc=ge)=False:=eq_false (by have:=HM2.out.lc;omega)
    clear hP HM HN ce c1
    go_wp2_with fail
    go_meet
    exact ⟨HCE.out ▸ (HM2.out.setC 2 (.int .i64 x) ⟨t,⟨#[]⟩,x,0,0⟩ rfl).setE ee⟩
   rw [if_neg q3] at h
   have k3:(t==3)=false:=beq_eq_false_iff_ne.mpr q3
   by_cases q5:t=5
   ·rw [if_pos q5] at h
    have k5:(t==5)=true:=beq_iff_eq.mpr q5
    obtain ⟨⟨x,e2,p2⟩,hN,h⟩:=Option.bind_eq_some_iff.mp h
    simp only [Option.some.injEq,Prod.mk.injEq] at h
    obtain ⟨hcc,hee,hpp⟩:=h
    obtain rfl:ee=e2:=hee.symm
    obtain rfl:p'=p2:=hpp.symm
    have HCE:=am_ hcc
    have HN:=am_ (rd_Int.calls k B g bs p1 8 x ee p' wM HM.out.I (by decide) (by decide) HLL.out hN)
    clear hN hcc q5
    go_wp2_with fail
    refine HN.out.mono ?_
    rintro r w2 ⟨rfl,hP⟩
    have HM2:=am_ (HM.out.rd hP)
    have ce4:w2.cell? ⟨ge,0,none⟩=some (.int .i64 0):=(blk_cell HM2.out.be 0).trans rfl
    have fe4:w2.frozen? ⟨ge,0,none⟩=false:=blk_frozen HM2.out.be 0
    have cc4:w2.cell? ⟨gc,2,none⟩=some (.int .i64 0):=(blk_cell HM2.out.bc 2).trans rfl
    have fc4:w2.frozen? ⟨gc,2,none⟩=false:=blk_frozen HM2.out.bc 2
    have hne:(ge=gc)=False:=eq_false (by have:=HM2.out.lc;omega)
    have hne2:(gc=ge)=False:=eq_false (by have:=HM2.out.lc;omega)
    clear hP HM HN ce c1
    go_wp2_with fail
    go_meet
    exact ⟨HCE.out ▸ (HM2.out.setC 2 (.int .i64 x) ⟨t,⟨#[]⟩,x,0,0⟩ rfl).setE ee⟩
   rw [if_neg q5] at h
   have k5:(t==5)=false:=beq_eq_false_iff_ne.mpr q5
   by_cases q7:t=7
   ·rw [if_pos q7] at h
    have k7:(t==7)=true:=beq_iff_eq.mpr q7
    obtain ⟨⟨x,e2,p2⟩,hT,h⟩:=Option.bind_eq_some_iff.mp h
    simp only [Option.some.injEq,Prod.mk.injEq] at h
    obtain ⟨hcc,hee,hpp⟩:=h
    obtain rfl:ee=e2:=hee.symm
    obtain rfl:p'=p2:=hpp.symm
    have HCE:=am_ hcc
    have HT:=am_ hT
    clear hT hcc q7 q1 q3 q5
    go_wp2_with fail
    refine (TWO.out _ _ _ _ _ _ _ HM.out HT.out).mono ?_
    rintro r w2 ⟨rfl,hP⟩
    have HM2:=am_ (HM.out.two hP)
    have cc4:w2.cell? ⟨gc,3,none⟩=some (.int .i64 0):=(blk_cell HM2.out.bc 3).trans rfl
    have fc4:w2.frozen? ⟨gc,3,none⟩=false:=blk_frozen HM2.out.bc 3
    clear hP HM ce c1
    go_wp2_with fail
    go_meet
    exact ⟨HCE.out ▸ HM2.out.setC 3 (.int .i64 x) ⟨t,⟨#[]⟩,0,x,0⟩ rfl⟩
   rw [if_neg q7] at h
   have k7:(t==7)=false:=beq_eq_false_iff_ne.mpr q7
   by_cases q9:t=9 ∨ t=10 ∨ t=12
   ·rw [if_pos q9] at h
    obtain ⟨⟨x,e2,p2⟩,hT,h⟩:=Option.bind_eq_some_iff.mp h
    obtain ⟨⟨y,e3,p3⟩,hT2,h⟩:=Option.bind_eq_some_iff.mp h
    simp only [Option.some.injEq,Prod.mk.injEq] at h
    obtain ⟨hcc,hee,hpp⟩:=h
    obtain rfl:ee=e3:=hee.symm
    obtain rfl:p'=p3:=hpp.symm
    have HCE:=am_ hcc
    have HT:=am_ hT
    have HT2:=am_ hT2
    clear hT hT2 hcc
    have walk:∀ (k9 k10 k12:Bool),(t==9)=k9→(t==10)=k10→(t==12)=k12→(k9 || k10 || k12)=true→True:=fun _ _ _ _ _ _ _ => trivial
    have key:(t==9)=true ∨ ((t==9)=false∧(t==10)=true) ∨ ((t==9)=false∧(t==10)=false∧(t==12)=true):=by
     rcases q9 with q|q|q
     ·exact .inl (beq_iff_eq.mpr q)
     ·exact .inr (.inl ⟨beq_eq_false_iff_ne.mpr (by omega),beq_iff_eq.mpr q⟩)
     exact .inr (.inr ⟨beq_eq_false_iff_ne.mpr (by omega),beq_eq_false_iff_ne.mpr (by omega),beq_iff_eq.mpr q⟩)
    clear walk q9 q7 q1 q3 q5
    rcases key with j9|⟨j9,j10⟩|⟨j9,j10,j12⟩
    all_goals
     go_wp2_with fail
     refine (TWO.out _ _ _ _ _ _ _ HM.out HT.out).mono ?_
     rintro r w2 ⟨rfl,hP⟩
     have HM2:=am_ (HM.out.two hP)
     clear hP HM ce c1
     go_wp2_with fail
     refine (TWO.out _ _ _ _ _ _ _ HM2.out HT2.out).mono ?_
     rintro r w3 ⟨rfl,hP⟩
     have HM3:=am_ (HM2.out.two hP)
     have cc3:w3.cell? ⟨gc,3,none⟩=some (.int .i64 0):=(blk_cell HM3.out.bc 3).trans rfl
     have fc3:w3.frozen? ⟨gc,3,none⟩=false:=blk_frozen HM3.out.bc 3
     have cc4:w3.cell? ⟨gc,4,none⟩=some (.int .i64 0):=(blk_cell HM3.out.bc 4).trans rfl
     have fc4:w3.frozen? ⟨gc,4,none⟩=false:=blk_frozen HM3.out.bc 4
     clear hP HM2
     go_wp2_with fail
     go_meet
     exact ⟨HCE.out ▸ (HM3.out.setC 3 (.int .i64 x) ⟨t,⟨#[]⟩,0,x,0⟩ rfl).setC 4 (.int .i64 y) ⟨t,⟨#[]⟩,0,x,y⟩ rfl⟩
   rw [if_neg q9] at h
   have j9:(t==9)=false:=beq_eq_false_iff_ne.mpr (by omega)
   have j10:(t==10)=false:=beq_eq_false_iff_ne.mpr (by omega)
   have j12:(t==12)=false:=beq_eq_false_iff_ne.mpr (by omega)
   simp only [Option.some.injEq,Prod.mk.injEq] at h
   obtain ⟨hcc,hee,hpp⟩:=h
   obtain rfl:p'=p1:=hpp.symm
   have HCE:=am_ hcc
   have HEE:=am_ hee
   have fe4:wM.frozen? ⟨ge,0,none⟩=false:=blk_frozen HM.out.be 0
   clear hcc hee q9 q7 q1 q3 q5
   go_wp2_with fail
   go_meet
   have hm:=HM.out.setE 40
   rw [HCE.out,HEE.out] at hm
   rw [HEE.out]
   exact ⟨hm⟩
  rw [if_pos q1] at h
  obtain ⟨⟨x,e2,p2⟩,hT,h⟩:=Option.bind_eq_some_iff.mp h
  have k1:(t==1)=true:=beq_iff_eq.mpr q1
  have HT:=am_ hT
  clear hT q1
  simp only at h
  have hx:=two_range HT.out
  obtain ⟨x0,x1⟩:=hx
  go_wp2_with fail
  refine (TWO.out _ _ _ _ _ _ _ HM.out HT.out).mono ?_
  rintro r w2 ⟨rfl,hP⟩
  have HM2:=am_ (HM.out.two hP)
  have ce2:w2.cell? ⟨ge,0,none⟩=some (.int .i64 e2):=(blk_cell HM2.out.be 0).trans rfl
  have fe2:w2.frozen? ⟨ge,0,none⟩=false:=blk_frozen HM2.out.be 0
  have c12:w2.cell? ⟨g1,0,none⟩=some (.pointer (some ⟨g,0,none⟩)):=(blk_cell HM2.out.b1 0).trans rfl
  clear hP HM ce c1
  by_cases q2:e2=0
  rotate_left
  ·rw [if_neg q2] at h
   have k2:(e2==0)=false:=beq_eq_false_iff_ne.mpr q2
   have k2n:(e2 != 0)=true:=bne_iff_ne.mpr q2
   simp only [Option.some.injEq,Prod.mk.injEq] at h
   obtain ⟨hcc,hee,hpp⟩:=h
   obtain rfl:ee=e2:=hee.symm
   obtain rfl:p'=p2:=hpp.symm
   have HM:=am_ (hcc ▸ HM2.out)
   clear q2 hcc HM2
   go_upto_region 13 with (fail)
   clear ce2 fe2 c12
   have BKc:=am_ HM.out.bc
   have BKe:=am_ HM.out.be
   have BK2:=am_ HM.out.b2
   have NE2c:Aside0 (g2 ≠ gc):=⟨by have:=HM.out.le;have:=HM.out.lc;omega⟩
   have NE2e:Aside0 (g2 ≠ ge):=⟨by have:=HM.out.le;omega⟩
   have G2LE:Aside0 (w.heap.size≤g2):=⟨by have:=HM.out.l1;have:=HM.out.l2;omega⟩
   have G2B:Aside0 (B≤g2):=⟨by have:=HM.out.lB;have:=HM.out.lg;have:=G2LE.out;omega⟩
   have hz0:w2.cell? ⟨g2,0,none⟩=some (.int .i64 0):=(blk_cell BK2.out 0).trans rfl
   have hz1:w2.cell? ⟨g2,1,none⟩=some (.string (⟨#[]⟩:ByteArray)):=(blk_cell BK2.out 1).trans rfl
   have hz2:w2.cell? ⟨g2,2,none⟩=some (.int .i64 0):=(blk_cell BK2.out 2).trans rfl
   have hz3:w2.cell? ⟨g2,3,none⟩=some (.int .i64 0):=(blk_cell BK2.out 3).trans rfl
   have hz4:w2.cell? ⟨g2,4,none⟩=some (.int .i64 0):=(blk_cell BK2.out 4).trans rfl
   have hfz0:w2.frozen? ⟨g2,0,none⟩=false:=blk_frozen BK2.out 0
   have hfz1:w2.frozen? ⟨g2,1,none⟩=false:=blk_frozen BK2.out 1
   have hfz2:w2.frozen? ⟨g2,2,none⟩=false:=blk_frozen BK2.out 2
   have hfz3:w2.frozen? ⟨g2,3,none⟩=false:=blk_frozen BK2.out 3
   have hfz4:w2.frozen? ⟨g2,4,none⟩=false:=blk_frozen BK2.out 4
   obtain ⟨hqc0,hqc1,hqc2,hqc3,hqc4⟩:=set5_cells (cc:=cc) BKc.out NE2c.out.symm
   have hqe:=set5_cell1 (cc:=cc) BKe.out NE2e.out.symm
   refine start_ (n:=4) (S:=fun w' => w'.cell? ⟨gc,0,none⟩=some (.int .i64 cc.f0)∧w'.cell? ⟨gc,1,none⟩=some (.string cc.f1)∧w'.cell? ⟨gc,2,none⟩=some (.int .i64 cc.f2)∧w'.cell? ⟨gc,3,none⟩=some (.int .i64 cc.f3)∧w'.cell? ⟨gc,4,none⟩=some (.int .i64 cc.f4)∧w'.cell? ⟨ge,0,none⟩=some (.int .i64 ee)) (ds:=[]) #[false,false,false,false] (by kernel_rfl) rfl rfl ⟨(blk_cell BKc.out 0).trans rfl,(blk_cell BKc.out 1).trans rfl,(blk_cell BKc.out 2).trans rfl,(blk_cell BKc.out 3).trans rfl,(blk_cell BKc.out 4).trans rfl,(blk_cell BKe.out 0).trans rfl⟩ (fun hHeld => ?_)
   refine tk_ 0 (some 37) hHeld ?_ (hy:=by rintro w' ⟨s0,s1,s2,s3,s4,s5⟩;go_simp;with_reducible rfl)
   refine tk_ 1 (some 38) hHeld ?_ (hy:=by rintro w' ⟨s0,s1,s2,s3,s4,s5⟩;go_simp;with_reducible rfl)
   refine one_ (i:=2) (N:=none) #[true,true,true,false] rfl rfl (by kernel_rfl) (by decide) (fun K hK => ?_)
   refine skip_ (w1:=(set5 w2 g2 cc).drew) (by rfl) rfl ?_ ?_
   ·go_simp
    rfl
   refine hK.out _ _ ⟨hqc0,hqc1,hqc2,hqc3,hqc4,hqe⟩ (fun hHeld => ?_)
   clear hK K
   refine pr_ 3 (some 3) ?_
   refine done_ (by kernel_rfl) ?_
   go_wp2
   refine bodyPost_ret (results_ct rfl _ _ g2 61 (constCells cc) (0,0) _ rfl (blk_drew (set5_at (W:=w2) (cc:=cc) BK2.out)) Tryz.underlying61 rfl (by kernel_rfl)) rfl ?_
   exact ⟨rfl,(set5_Rd HM.out.I BK2.out).drewN 1,(set5_St HM.out.S G2LE.out G2B.out).trans (RdStep.drewN _ _ _ 1)⟩
  rw [if_pos q2] at h
  have k2:(e2==0)=true:=beq_iff_eq.mpr q2
  have k2n:(e2 != 0)=false:=bne_eq_false_iff_eq.mpr q2
  by_cases q3:x > 256
  ·rw [if_pos q3] at h
   have k3:decide (256 < x)=true:=decide_eq_true q3
   simp only [Option.some.injEq,Prod.mk.injEq] at h
   obtain ⟨hcc,hee,hpp⟩:=h
   obtain rfl:p'=p2:=hpp.symm
   have HM:=am_ (HM2.out.setE 20)
   have HCE:=am_ hcc
   have HEE:=am_ hee
   clear q2 q3 HM2 hcc hee
   go_upto_region 13 with (fail)
   obtain ⟨wT,hwT⟩:∃ wT,wT=w2.setCell ⟨ge,0,none⟩ (.int .i64 20):=⟨_,rfl⟩
   rw [← hwT] at HM ⊢
   rw [HCE.out,HEE.out] at HM
   clear hwT ce2 fe2 c12 HCE HEE
   have BKc:=am_ HM.out.bc
   have BKe:=am_ HM.out.be
   have BK2:=am_ HM.out.b2
   have NE2c:Aside0 (g2 ≠ gc):=⟨by have:=HM.out.le;have:=HM.out.lc;omega⟩
   have NE2e:Aside0 (g2 ≠ ge):=⟨by have:=HM.out.le;omega⟩
   have G2LE:Aside0 (w.heap.size≤g2):=⟨by have:=HM.out.l1;have:=HM.out.l2;omega⟩
   have G2B:Aside0 (B≤g2):=⟨by have:=HM.out.lB;have:=HM.out.lg;have:=G2LE.out;omega⟩
   have hz0:wT.cell? ⟨g2,0,none⟩=some (.int .i64 0):=(blk_cell BK2.out 0).trans rfl
   have hz1:wT.cell? ⟨g2,1,none⟩=some (.string (⟨#[]⟩:ByteArray)):=(blk_cell BK2.out 1).trans rfl
   have hz2:wT.cell? ⟨g2,2,none⟩=some (.int .i64 0):=(blk_cell BK2.out 2).trans rfl
   have hz3:wT.cell? ⟨g2,3,none⟩=some (.int .i64 0):=(blk_cell BK2.out 3).trans rfl
   have hz4:wT.cell? ⟨g2,4,none⟩=some (.int .i64 0):=(blk_cell BK2.out 4).trans rfl
   have hfz0:wT.frozen? ⟨g2,0,none⟩=false:=blk_frozen BK2.out 0
   have hfz1:wT.frozen? ⟨g2,1,none⟩=false:=blk_frozen BK2.out 1
   have hfz2:wT.frozen? ⟨g2,2,none⟩=false:=blk_frozen BK2.out 2
   have hfz3:wT.frozen? ⟨g2,3,none⟩=false:=blk_frozen BK2.out 3
   have hfz4:wT.frozen? ⟨g2,4,none⟩=false:=blk_frozen BK2.out 4
   obtain ⟨hqc0,hqc1,hqc2,hqc3,hqc4⟩:=set5_cells (cc:=cc) BKc.out NE2c.out.symm
   have hqe:=set5_cell1 (cc:=cc) BKe.out NE2e.out.symm
   refine start_ (n:=4) (S:=fun w' => w'.cell? ⟨gc,0,none⟩=some (.int .i64 cc.f0)∧w'.cell? ⟨gc,1,none⟩=some (.string cc.f1)∧w'.cell? ⟨gc,2,none⟩=some (.int .i64 cc.f2)∧w'.cell? ⟨gc,3,none⟩=some (.int .i64 cc.f3)∧w'.cell? ⟨gc,4,none⟩=some (.int .i64 cc.f4)∧w'.cell? ⟨ge,0,none⟩=some (.int .i64 ee)) (ds:=[]) #[false,false,false,false] (by kernel_rfl) rfl rfl ⟨(blk_cell BKc.out 0).trans rfl,(blk_cell BKc.out 1).trans rfl,(blk_cell BKc.out 2).trans rfl,(blk_cell BKc.out 3).trans rfl,(blk_cell BKc.out 4).trans rfl,(blk_cell BKe.out 0).trans rfl⟩ (fun hHeld => ?_)
   refine tk_ 0 (some 37) hHeld ?_ (hy:=by rintro w' ⟨s0,s1,s2,s3,s4,s5⟩;go_simp;with_reducible rfl)
   refine tk_ 1 (some 38) hHeld ?_ (hy:=by rintro w' ⟨s0,s1,s2,s3,s4,s5⟩;go_simp;with_reducible rfl)
   refine one_ (i:=2) (N:=none) #[true,true,true,false] rfl rfl (by kernel_rfl) (by decide) (fun K hK => ?_)
   refine skip_ (w1:=(set5 wT g2 cc).drew) (by rfl) rfl ?_ ?_
   ·go_simp
    rfl
   refine hK.out _ _ ⟨hqc0,hqc1,hqc2,hqc3,hqc4,hqe⟩ (fun hHeld => ?_)
   clear hK K
   refine pr_ 3 (some 3) ?_
   refine done_ (by kernel_rfl) ?_
   go_wp2
   refine bodyPost_ret (results_ct rfl _ _ g2 61 (constCells cc) (0,0) _ rfl (blk_drew (set5_at (W:=wT) (cc:=cc) BK2.out)) Tryz.underlying61 rfl (by kernel_rfl)) rfl ?_
   exact ⟨rfl,(set5_Rd HM.out.I BK2.out).drewN 1,(set5_St HM.out.S G2LE.out G2B.out).trans (RdStep.drewN _ _ _ 1)⟩
  rw [if_neg q3] at h
  have k3:decide (256 < x)=false:=decide_eq_false q3
  have hxn:x=(x.toNat:Int):=by omega
  have HB:=am_ (rd_Bytes.calls B g bs p2 x.toNat w2 HM2.out.I HLL.out (by omega))
  rw [← hxn] at HB
  clear hxn
  go_wp2_with fail
  refine HB.out.mono ?_
  rintro r w3 ⟨v3,rfl,hR,hP⟩
  obtain ⟨A3,c3,rfl,hc3,hC3⟩:=Kd.R_reads hR
  have HC3:=am_ hC3
  have HCC3:=am_ hc3
  have HM3:=am_ (HM2.out.rd hP)
  have ce3:w3.cell? ⟨ge,0,none⟩=some (.int .i64 e2):=(blk_cell HM3.out.be 0).trans rfl
  have fe3:w3.frozen? ⟨ge,0,none⟩=false:=blk_frozen HM3.out.be 0
  have HR3:=am_ hR
  clear hR hP hC3 hc3 HB HM2 ce2 fe2 c12 q3
  obtain ⟨L,hL⟩:∃ L,L=rdL bs p2 x.toNat:=⟨_,rfl⟩
  obtain ⟨E,hE⟩:∃ E,E=rdE bs p2 x.toNat:=⟨_,rfl⟩
  obtain ⟨P3,hP3⟩:∃ P3,P3=rdP bs p2 x.toNat:=⟨_,rfl⟩
  rw [← hL] at HC3 HCC3 HR3 h ⊢
  rw [← hE] at h ⊢
  rw [← hP3] at HM3 h
  clear hL hE hP3
  by_cases q4:E=0
  ·rw [if_pos q4] at h
   obtain ⟨⟨s1,s2⟩,hD,h⟩:=Option.bind_eq_some_iff.mp h
   have k4:(E==0)=true:=beq_iff_eq.mpr q4
   simp only [Option.some.injEq,Prod.mk.injEq] at h
   obtain ⟨hcc,hee,hpp⟩:=h
   obtain rfl:p'=P3:=hpp.symm
   have HD:=am_ hD
   have HCE:=am_ hcc
   have HEE:=am_ hee
   have HC4:=am_ (row_C (Kd.R_set HR3.out HM3.out.be (by decide) 0 (.int .i64 E)))
   have HM4:=am_ (HM3.out.setE E)
   clear q4 hD hcc hee q2
   go_wp2_with fail
   refine (text_Decode.calls k A3 c3 L s1 s2 _ HC4.out HCC3.out HD.out).mono ?_
   rintro r w4 ⟨rfl,hb4⟩
   have HM5:=am_ (HM4.out.below hb4)
   have ce4:w4.cell? ⟨ge,0,none⟩=some (.int .i64 E):=(blk_cell HM5.out.be 0).trans rfl
   have fe4:w4.frozen? ⟨ge,0,none⟩=false:=blk_frozen HM5.out.be 0
   have cc4:w4.cell? ⟨gc,1,none⟩=some (.string (⟨#[]⟩:ByteArray)):=(blk_cell HM5.out.bc 1).trans rfl
   have fc4:w4.frozen? ⟨gc,1,none⟩=false:=blk_frozen HM5.out.bc 1
   have hne:(ge=gc)=False:=eq_false (by have:=HM5.out.lc;omega)
   have hne2:(gc=ge)=False:=eq_false (by have:=HM5.out.lc;omega)
   clear hb4 ce3 fe3
   go_wp2_with fail
   go_meet
   have hm:=((HM5.out.setC 1 (.string s1) ⟨t,s1,0,0,0⟩ rfl).setE s2)
   rw [HCE.out,HEE.out] at hm
   rw [HEE.out]
   exact ⟨hm⟩
  rw [if_neg q4] at h
  have k4:(E==0)=false:=beq_eq_false_iff_ne.mpr q4
  simp only [Option.some.injEq,Prod.mk.injEq] at h
  obtain ⟨hcc,hee,hpp⟩:=h
  obtain rfl:ee=E:=hee.symm
  obtain rfl:p'=P3:=hpp.symm
  have HCE:=am_ hcc
  clear q4 hcc q2
  go_wp2_with fail
  go_meet
  exact ⟨HCE.out ▸ HM3.out.setE ee⟩
 have HM':=hcut
 clear HM
 have HM:=HM'
 clear HM'
 go_wp2
 have BKc:=am_ HM.out.bc
 have BKe:=am_ HM.out.be
 have BK2:=am_ HM.out.b2
 have NE2c:Aside0 (g2 ≠ gc):=⟨by have:=HM.out.le;have:=HM.out.lc;omega⟩
 have NE2e:Aside0 (g2 ≠ ge):=⟨by have:=HM.out.le;omega⟩
 have G2LE:Aside0 (w.heap.size≤g2):=⟨by have:=HM.out.l1;have:=HM.out.l2;omega⟩
 have G2B:Aside0 (B≤g2):=⟨by have:=HM.out.lB;have:=HM.out.lg;have:=G2LE.out;omega⟩
 have hz0:wc.cell? ⟨g2,0,none⟩=some (.int .i64 0):=(blk_cell BK2.out 0).trans rfl
 have hz1:wc.cell? ⟨g2,1,none⟩=some (.string (⟨#[]⟩:ByteArray)):=(blk_cell BK2.out 1).trans rfl
 have hz2:wc.cell? ⟨g2,2,none⟩=some (.int .i64 0):=(blk_cell BK2.out 2).trans rfl
 have hz3:wc.cell? ⟨g2,3,none⟩=some (.int .i64 0):=(blk_cell BK2.out 3).trans rfl
 have hz4:wc.cell? ⟨g2,4,none⟩=some (.int .i64 0):=(blk_cell BK2.out 4).trans rfl
 have hfz0:wc.frozen? ⟨g2,0,none⟩=false:=blk_frozen BK2.out 0
 have hfz1:wc.frozen? ⟨g2,1,none⟩=false:=blk_frozen BK2.out 1
 have hfz2:wc.frozen? ⟨g2,2,none⟩=false:=blk_frozen BK2.out 2
 have hfz3:wc.frozen? ⟨g2,3,none⟩=false:=blk_frozen BK2.out 3
 have hfz4:wc.frozen? ⟨g2,4,none⟩=false:=blk_frozen BK2.out 4
 obtain ⟨hqc0,hqc1,hqc2,hqc3,hqc4⟩:=set5_cells (cc:=cc) BKc.out NE2c.out.symm
 have hqe:=set5_cell1 (cc:=cc) BKe.out NE2e.out.symm
 refine start_ (n:=4) (S:=fun w' => w'.cell? ⟨gc,0,none⟩=some (.int .i64 cc.f0)∧w'.cell? ⟨gc,1,none⟩=some (.string cc.f1)∧w'.cell? ⟨gc,2,none⟩=some (.int .i64 cc.f2)∧w'.cell? ⟨gc,3,none⟩=some (.int .i64 cc.f3)∧w'.cell? ⟨gc,4,none⟩=some (.int .i64 cc.f4)∧w'.cell? ⟨ge,0,none⟩=some (.int .i64 ee)) (ds:=[]) #[false,false,false,false] (by kernel_rfl) rfl rfl ⟨(blk_cell BKc.out 0).trans rfl,(blk_cell BKc.out 1).trans rfl,(blk_cell BKc.out 2).trans rfl,(blk_cell BKc.out 3).trans rfl,(blk_cell BKc.out 4).trans rfl,(blk_cell BKe.out 0).trans rfl⟩ (fun hHeld => ?_)
 refine tk_ 0 (some 84) hHeld ?_ (hy:=by rintro w' ⟨s0,s1,s2,s3,s4,s5⟩;go_simp;with_reducible rfl)
 refine tk_ 1 (some 85) hHeld ?_ (hy:=by rintro w' ⟨s0,s1,s2,s3,s4,s5⟩;go_simp;with_reducible rfl)
 refine one_ (i:=2) (N:=none) #[true,true,true,false] rfl rfl (by kernel_rfl) (by decide) (fun K hK => ?_)
 refine skip_ (w1:=(set5 wc g2 cc).drew) (by rfl) rfl ?_ ?_
 ·go_simp
  rfl
 refine hK.out _ _ ⟨hqc0,hqc1,hqc2,hqc3,hqc4,hqe⟩ (fun hHeld => ?_)
 clear hK K
 refine pr_ 3 (some 3) ?_
 refine done_ (by kernel_rfl) ?_
 go_wp2
 refine bodyPost_ret (results_ct rfl _ _ g2 61 (constCells cc) (0,0) _ rfl (blk_drew (set5_at (W:=wc) (cc:=cc) BK2.out)) Tryz.underlying61 rfl (by kernel_rfl)) rfl ?_
 exact ⟨rfl,(set5_Rd HM.out.I BK2.out).drewN 1,(set5_St HM.out.S G2LE.out G2B.out).trans (RdStep.drewN _ _ _ 1)⟩
end Go.Proofs.YtamdobdmjcgmoaaGreatDoor.Px
namespace Go.Proofs.YtamdobdmjcgmoaaGreatDoor.Px
open Go.RowKit Go.Proofs.YtamdobdmjcgmoaaGreatDoorW.PrintWords Go.Proofs.YtamdobdmjcgmoaaGreatDoorW.PrintLast Go.Proofs.YtamdobdmjcgmoaaGreatDoorW.PrintMore
set_option linter.unusedVariables false
set_option linter.unusedSimpArgs false
def pool_Decode.l0:Nat→List Int→Int→List Cst→Nat→Option (List Cst × Int × Int)
 | 0,_,_,_,_ => none
 | k + 1,bs,n,ps,p =>
  if (ps.length:Int) < n then (pool_constant.f k bs p).bind fun c => if c.2.1=0 then (if ps.length≤65536 then pool_Decode.l0 k bs n (ps++[c.1]) c.2.2 else none) else some ([],0,c.2.1)
  else (pool_Check.f k ps).bind fun e => if e=0 then some (ps,(p:Int),0) else some ([],0,e)
def pool_Decode.f (k:Nat) (bs:List Int):Option (List Cst × Int × Int) :=
 if bs.length≤140737488355328 then (rd_Uint.f k bs 0 2).bind fun n =>
  if 0≤n.1∧n.1 < 65536 then
   (if n.2.1=0 then (if n.1 > 1024 then some ([],0,2) else if n.1=0 then some ([],0,40) else pool_Decode.l0 k bs n.1 [z61] n.2.2) else some ([],0,n.2.1))
  else none
 else none
def zeroCells:Array Value:=#[.int .i64 0,.string (⟨#[]⟩:ByteArray),.int .i64 0,.int .i64 0,.int .i64 0]
theorem take_made (m:Nat) (h:1≤m):(madeCells zeroCells (m * 5)).toList.take 5=zeroCells.toList:=by
 apply List.ext_getElem?
 intro j
 by_cases hj:j < 5
 ·have h5:j < m * 5:=by omega
  have hm:j % 5=j:=Nat.mod_eq_of_lt hj
  have hz:zeroCells.size=5:=rfl
  rw [List.getElem?_take,if_pos hj]
  have hjz:j < zeroCells.size:=by omega
  simp [madeCells,h5,hz,hm]
  rw [Array.getElem?_eq_getElem hjz,getElem!_pos zeroCells j hjz]
 rw [List.getElem?_eq_none (by rw [List.length_take];omega),List.getElem?_eq_none (by show zeroCells.size≤j;have:zeroCells.size=5:=rfl;omega)]
theorem R_make1 (W:World) (m:Nat) (h:1≤m) (hm:m≤65536):Kd.R k61 61 (W.alloc (.cells (madeCells zeroCells (m * 5)) 61 (0,0))) W.heap.size (fun _ => True) (.slice (some ⟨W.heap.size,0,none⟩) 1 m) [z61]:=by
 refine ⟨fun _ _ => trivial,zeroCells.toList,⟨rfl,.inr ⟨W.heap.size,m,_,rfl,Nat.le_refl _,blk_new _ _,h,by simp only [maxLen];omega,by simp [madeCells];rfl,take_made m h⟩⟩,?_⟩
 exact (Reps.none _ 5).snoc (k61_mkM _ _ _ z61) rfl
theorem IsRd.grown_row {B B':Nat} {W W1:World} {g:Nat} {bs:List Int} {p:Nat} {ok:Nat→Prop} {v:Value} {ps:List Cst} (h:IsRd B W g bs p) (hr:Kd.R k61 61 W B' ok v ps) (hg:W.grownBy W1 v.ownBlock):IsRd B W1 g bs p:=by
 obtain ⟨u,hk,hu⟩:=h.blk
 obtain ⟨inner,ho⟩:=Kd.R_own hr
 refine ⟨h.ge,⟨u,blk_grown hk hg (Kd.R_ne hr hk (by decide)),?_⟩,h.hi⟩
 refine Kd.R_mono (Kd.R_grown (Kd.R_bound hu) hg (fun k hk2 e => ?_)) (fun k hk2 => hk2.1)
 obtain ⟨_,_,_,q,hq,cells,hc⟩:=hk2
 obtain ⟨c2,hc2⟩:=own_typed ho k e.symm
 rw [hc] at hc2
 injection hc2 with hc2
 injection hc2 with _ ht
 rcases List.mem_cons.1 hq with rfl|hq
 ·cases ht
 cases hq
theorem R_step_rd {B B':Nat} {W W1:World} {g:Nat} {bs:List Int} {p:Nat} {v:Value} {ps:List Cst} (h:IsRd B W g bs p) (hr:Kd.R k61 61 W B' (fun _ => True) v ps) (hs:RdStep B W W1 g):Kd.R k61 61 W1 B' (fun _ => True) v ps:=by
 obtain ⟨u,hk,hu⟩:=h.blk
 exact Kd.R_mono (Kd.R_keep (Kd.R_types hr hk (by intro q hq;rcases List.mem_cons.1 hq with rfl|hq;decide;cases hq)) hs.keep (fun k hk => hk.2)) (fun _ _ => trivial)
set_option maxHeartbeats 40000000 in
set_option maxRecDepth 100000 in
theorem pool_Decode.calls (k:Nat) (A0:Option Addr) (c0:Nat) (bs:List Int) (r1:List Cst) (r2 r3:Int) (w:World) (hG:Aside0 (GG w)) (hr0:Kd.C (Kd.int .u8) w A0 bs.length bs) (hc0:bs.length≤c0) (h:pool_Decode.f k bs=some (r1,r2,r3)) :
  Calls Tryz.prog 21 #[.slice A0 bs.length c0] w fun e w' => ∃ v0_:Value,e=.returned (.tuple #[v0_,.int .i64 r2,.int .i64 r3])∧Kd.R k61 61 w' w.heap.size (fun _ => True) v0_ r1∧Below w.heap.size w w':=by
 unfold pool_Decode.f at h
 by_cases hl:bs.length≤140737488355328
 rotate_left
 ·rw [if_neg hl] at h
  cases h
 rw [if_pos hl] at h
 obtain ⟨⟨n,e1,p1⟩,hU,h⟩:=Option.bind_eq_some_iff.mp h
 by_cases hb:0≤n∧n < 65536
 rotate_left
 ·rw [if_neg hb] at h
  cases h
 rw [if_pos hb] at h
 obtain ⟨n0,n1⟩:=hb
 have HU:=am_ hU
 have HLL:=am_ hl
 have HNew:=am_ (rd_New.calls A0 c0 bs w hr0 hl)
 clear hU hl hr0 hc0
 simp only at h
 go_enter Tryz.func21,Tryz.ntmps21
 go_wp2_with fail
 refine HNew.out.mono ?_
 rintro e w1 ⟨g,rfl,hgg,hI,hb1⟩
 have HU2:=am_ (rd_Uint.calls k _ g bs 0 2 n e1 p1 w1 hI (by decide) (by decide) HLL.out HU.out)
 have HB1:=am_ hb1
 have HGE:=am_ hgg
 clear hgg hI hb1 HNew HU
 go_wp2_with fail
 refine HU2.out.mono ?_
 rintro e w2 ⟨rfl,hP⟩
 have HI2:=am_ hP.1
 have HB2:=am_ (HB1.out.trans hP.2.below)
 clear hP HB1 HU2
 by_cases he:e1=0
 rotate_left
 ·rw [if_neg he] at h
  have k1:(e1 != 0)=true:=bne_iff_ne.mpr he
  simp only [Option.some.injEq,Prod.mk.injEq] at h
  obtain ⟨rfl,rfl,rfl⟩:=h
  clear he
  go_wp2
  go_ret3
  exact ⟨_,rfl,Kd.R_nil _ _ _ _ _,HB2.out⟩
 rw [if_pos he] at h
 have k1:(e1 != 0)=false:=bne_eq_false_iff_eq.mpr he
 clear he
 by_cases hn:n > 1024
 ·rw [if_pos hn] at h
  have k2:decide (1024 < n)=true:=decide_eq_true hn
  simp only [Option.some.injEq,Prod.mk.injEq] at h
  obtain ⟨rfl,rfl,rfl⟩:=h
  clear hn
  go_wp2
  go_ret3
  exact ⟨_,rfl,Kd.R_nil _ _ _ _ _,HB2.out⟩
 rw [if_neg hn] at h
 have k2:decide (1024 < n)=false:=decide_eq_false hn
 by_cases hz:n=0
 ·rw [if_pos hz] at h
  have k3:(n==0)=true:=beq_iff_eq.mpr hz
  simp only [Option.some.injEq,Prod.mk.injEq] at h
  obtain ⟨rfl,rfl,rfl⟩:=h
  clear hn hz
  go_wp2
  go_ret3
  exact ⟨_,rfl,Kd.R_nil _ _ _ _ _,HB2.out⟩
 rw [if_neg hz] at h
 have k3:(n==0)=false:=beq_eq_false_iff_ne.mpr hz
 obtain ⟨m,rfl⟩:=Int.eq_ofNat_of_zero_le n0
 obtain ⟨i0,hi0,hzz,hsz,hby⟩:=info_parts info61
 have hmk:∀ W:World,(Instr.makeSlice 23 (.int .i64 1) (.int .u64 (m:Int))).run Tryz.prog W=.ok (.slice (some ⟨W.heap.size,0,none⟩) 1 m) (W.alloc (.cells (madeCells zeroCells (m * 5)) 61 (0,0))):=by
  intro W
  have hr:=run_make (P:=Tryz.prog) W 23 61 i0 _ Tryz.underlying23 hi0 hzz .i64 .u64 1 (m:Int) (by omega) (by omega) (by rw [hby];omega) (by omega)
  rw [hsz] at hr
  exact hr
 have HM1:Aside0 (1≤m∧m≤1024):=⟨by omega⟩
 have H0:=am_ h
 clear hn hz hi0 hzz hsz hby h
 go_wp2
 have HRm:=am_ (Kd.R_lower (R_make1 w2 m HM1.out.1 (by have:=HM1.out.2;omega)) HB2.out.size)
 have HIm:=am_ (HI2.out.below (below_alloc (Below.refl _ _) (.cells (madeCells zeroCells (m * 5)) 61 (0,0))))
 have HBm:=am_ (below_alloc HB2.out (.cells (madeCells zeroCells (m * 5)) 61 (0,0)))
 clear HI2 HB2 hmk k1 k2 k3
 go_loopg [8] k (fun kq v8 wr => ∃ (A:Option Addr) (ps:List Cst) (c:Nat) (pos:Nat),v8=.slice A ps.length c∧Aside0 (pool_Decode.l0 kq bs (m:Int) ps pos=some (r1,r2,r3))∧Aside0 (kq≤k)∧Aside0 (Kd.R k61 61 wr w.heap.size (fun _ => True) (.slice A ps.length c) ps)∧Aside0 (IsRd w.heap.size wr g bs pos)∧Aside0 (Below w.heap.size w wr))
 case atStart => exact ⟨_,[z61],m,p1,rfl,H0,⟨Nat.le_refl _⟩,HRm,HIm,HBm⟩
 obtain ⟨A,ps,c,pos,rfl,HA,HK,HR,HI,HB⟩:=hrel
 cases gk with
 | zero => exact absurd HA.out (by simp [pool_Decode.l0])
 | succ k1 =>
 have H:=HA.out
 clear HA
 simp only [pool_Decode.l0] at H
 by_cases hlt:(ps.length:Int) < (m:Int)
 rotate_left
 ·rw [if_neg hlt] at H
  have hpi:decide ((ps.length:Int) < (m:Int))=false:=decide_eq_false hlt
  have hpn:decide (ps.length < m)=false:=decide_eq_false (by omega)
  obtain ⟨e9,hE,H⟩:=Option.bind_eq_some_iff.mp H
  have hcc:=(Kd.R_reads HR.out)
  obtain ⟨A',c',hv,hc',hC'⟩:=hcc
  injection hv with hv1 hv2 hv3
  subst hv1
  subst hv3
  have HCk:=am_ (pool_Check.calls k1 A c ps e9 wr ⟨GG.below hG.out HB.out⟩ hC' hc' hE)
  clear hE hlt hc' hC' hv2
  go_wp2_with fail
  refine HCk.out.mono ?_
  rintro e w3 ⟨rfl,hb3⟩
  have HR3:=am_ (Kd.R_below HR.out hb3)
  have HI3:=am_ (HI.out.below hb3)
  have HB3:=am_ (below_step HB.out hb3)
  clear hb3 HCk HR HI HB
  by_cases hee:e9=0
  ·rw [if_pos hee] at H
   have j1:(e9 != 0)=false:=bne_eq_false_iff_eq.mpr hee
   simp only [Option.some.injEq,Prod.mk.injEq] at H
   obtain ⟨rfl,rfl,rfl⟩:=H
   clear hee
   go_wp2_with fail
   refine (rd_At.calls _ g bs pos w3 HI3.out).mono ?_
   rintro e w4 ⟨rfl,rfl⟩
   go_wp2
   go_ret3
   exact ⟨_,rfl,HR3.out,HB3.out⟩
  rw [if_neg hee] at H
  have j1:(e9 != 0)=true:=bne_iff_ne.mpr hee
  simp only [Option.some.injEq,Prod.mk.injEq] at H
  obtain ⟨rfl,rfl,rfl⟩:=H
  clear hee
  go_wp2
  go_ret3
  exact ⟨_,rfl,Kd.R_nil _ _ _ _ _,HB3.out⟩
 rw [if_pos hlt] at H
 have hpi:decide ((ps.length:Int) < (m:Int))=true:=decide_eq_true hlt
 have hpn:decide (ps.length < m)=true:=decide_eq_true (by omega)
 obtain ⟨⟨cc,ee,p2⟩,hC,H⟩:=Option.bind_eq_some_iff.mp H
 have HC:=am_ (pool_constant.calls k1 w.heap.size g bs pos cc ee p2 wr HI.out HLL.out hC)
 clear hC hlt
 simp only at H
 go_wp2_with fail
 refine HC.out.mono ?_
 rintro e w3 ⟨rfl,hP⟩
 unfold constCells
 have HR3:=am_ (R_step_rd HI.out HR.out hP.2)
 have HI3:=am_ hP.1
 have HB3:=am_ (HB.out.trans hP.2.below)
 clear hP HC HR HI HB
 by_cases hee:ee=0
 rotate_left
 ·rw [if_neg hee] at H
  have j1:(ee != 0)=true:=bne_iff_ne.mpr hee
  simp only [Option.some.injEq,Prod.mk.injEq] at H
  obtain ⟨rfl,rfl,rfl⟩:=H
  clear hee
  go_wp2
  go_ret3
  exact ⟨_,rfl,Kd.R_nil _ _ _ _ _,below_alloc HB3.out _⟩
 rw [if_pos hee] at H
 have j1:(ee != 0)=false:=bne_eq_false_iff_eq.mpr hee
 by_cases hps:ps.length≤65536
 rotate_left
 ·rw [if_neg hps] at H
  cases H
 rw [if_pos hps] at H
 have HN:=am_ H
 have HPS:=am_ hps
 clear H hps hee
 obtain ⟨wb,hwb⟩:∃ wb,wb=w3.alloc (.cells #[.int .i64 cc.f0,.string cc.f1,.int .i64 cc.f2,.int .i64 cc.f3,.int .i64 cc.f4] 61 (0,0)):=⟨_,rfl⟩
 have hbw:Below w3.heap.size w3 wb:=by rw [hwb];exact below_alloc (Below.refl _ _) _
 have HRb:=am_ (Kd.R_below HR3.out hbw)
 have HIb:=am_ (HI3.out.below hbw)
 have HBb:=am_ (below_step HB3.out hbw)
 have HWB:=am_ hwb
 clear hwb hbw
 go_upto_region 14 with (fail)
 rw [← HWB.out]
 have hbx:wb.heap[w3.heap.size]?=some (.cells #[.int .i64 cc.f0,.string cc.f1,.int .i64 cc.f2,.int .i64 cc.f3,.int .i64 cc.f4] 61 (0,0)):=by rw [HWB.out];exact blk_new _ _
 have bx0:wb.cell? ⟨w3.heap.size,0,none⟩=some (.int .i64 cc.f0):=(blk_cell hbx 0).trans rfl
 have bx1:wb.cell? ⟨w3.heap.size,1,none⟩=some (.string cc.f1):=(blk_cell hbx 1).trans rfl
 have bx2:wb.cell? ⟨w3.heap.size,2,none⟩=some (.int .i64 cc.f2):=(blk_cell hbx 2).trans rfl
 have bx3:wb.cell? ⟨w3.heap.size,3,none⟩=some (.int .i64 cc.f3):=(blk_cell hbx 3).trans rfl
 have bx4:wb.cell? ⟨w3.heap.size,4,none⟩=some (.int .i64 cc.f4):=(blk_cell hbx 4).trans rfl
 clear hbx HWB HR3 HI3 HB3
 go_wp2_with (at_builtin;refine Kd.R_append k61 (w0:=w) (W:=wb) w.heap.size rfl (.tmp 44) (.tmp 46) 23 61 (.agg #[(.int .i64 0),(.string ⟨#[]⟩),(.int .i64 0),(.int .i64 0),(.int .i64 0)]) 48 rfl Tryz.underlying23 info61 rfl (by decide) (by omega) (.slice A ps.length c) ps cc [.int .i64 cc.f0,.string cc.f1,.int .i64 cc.f2,.int .i64 cc.f3,.int .i64 cc.f4] (fun _ => True) (fun _ => False) rfl rfl (k61_mkM _ _ _ cc) (fun _ hk => hk.elim) (fun _ _ => trivial) HRb.out HBb.out HBb.out.size ?aL ?_)
 case aL => have:=HPS.out;omega
 intro v1 w5 hR5 hB5 hg5 ho5
 obtain ⟨A5,c5,hv5⟩:=Kd.R_slice hR5
 subst hv5
 have HR5:=am_ hR5
 have HB5:=am_ hB5
 have HI5:=am_ (HIb.out.grown_row HRb.out hg5)
 clear hR5 hB5 hg5 ho5 bx0 bx1 bx2 bx3 bx4 HRb HIb HBb
 go_wp2
 go_roundg k1
 case measure => have:=HK.out;omega
 case rel => exact ⟨A5,ps++[cc],c5,p2,rfl,HN,⟨by have:=HK.out;omega⟩,HR5,HI5,HB5⟩
end Go.Proofs.YtamdobdmjcgmoaaGreatDoor.Px
namespace Go.Proofs.YtamdobdmjcgmoaaGreatDoor.Px
open Go.RowKit Go.Proofs.YtamdobdmjcgmoaaGreatDoorW.PrintWords Go.Proofs.YtamdobdmjcgmoaaGreatDoorW.PrintLast Go.Proofs.YtamdobdmjcgmoaaGreatDoorW.PrintMore
attribute [local go_sem] max2_int min2_int max_two min_two max_three min_three max_four min_four
set_option linter.unusedVariables false
set_option linter.unusedSimpArgs false
mutual
def class_rules_method.l0:Nat→Int→List (S63)→Int→Int→List (S61)→Int→Int→Int→Int→Int→List Int→List (S63)→List Int→Option (Bool)
 | 0,_,_,_,_,_,_,_,_,_,_,_,_,_ => none
 | k + 1,x5,x12,x13,x14,x143000,x144000,x144001,x144002,x144003,x144004,x144005,x144006,x144007 => if x14 < x13 then (if 0≤x14 then (if x14 < (x12.length:Int) then (if ((rd_T63 x12 x14).f0) < 0 then (class_rules_method.j1 k x5 x12 x13 x14 true x143000 x144000 x144001 x144002 x144003 x144004 x144005 x144006 x144007) else (if ((rd_T63 x12 x14).f0) ≥ ((rd_T63 x12 x14).f1) then (class_rules_method.j1 k x5 x12 x13 x14 true x143000 x144000 x144001 x144002 x144003 x144004 x144005 x144006 x144007) else (if ((rd_T63 x12 x14).f1) > x5 then (class_rules_method.j1 k x5 x12 x13 x14 true x143000 x144000 x144001 x144002 x144003 x144004 x144005 x144006 x144007) else ((class_within.f ((rd_T63 x12 x14).f2) (wrap64 (x5 - 1))).bind fun t146 => (if t146=true then (if ((rd_T63 x12 x14).f3)=0 then (class_rules_method.j1 k x5 x12 x13 x14 false x143000 x144000 x144001 x144002 x144003 x144004 x144005 x144006 x144007) else ((class_rules_class.f k x143000 (([(rd_T63 x12 x14).f3]:List Int))).bind fun t150 => (class_rules_method.j1 k x5 x12 x13 x14 (!t150) x143000 x144000 x144001 x144002 x144003 x144004 x144005 x144006 x144007))) else (class_rules_method.j1 k x5 x12 x13 x14 true x143000 x144000 x144001 x144002 x144003 x144004 x144005 x144006 x144007)))))) else (none)) else (none)) else ((class_flags.f x144000).bind fun t151 => (if t151=true then ((class_rules_text.f k x143000 (([x144001,x144002]:List Int))).bind fun t155 => (if t155=true then ((class_within.f x144003 64).bind fun t156 => (if t156=true then ((class_within.f x144004 64).bind fun t157 => (if t157=true then ((class_within.f (wrap64 (x5 - 1)) 4095).bind fun t158 => (if t158=true then (if (x144007.length:Int)≤4096 then ((class_place.f k x143000 (⟨#[67,111,100,101]⟩:ByteArray)).bind fun t159 => (if t159 > 0 then (if (x144007.length:Int)=0 then (some true) else ((class_place.f k x143000 (⟨#[83,116,97,99,107,77,97,112,84,97,98,108,101]⟩:ByteArray)).bind fun t160 => (some (decide (t160 > 0))))) else (some false))) else (some false)) else (some false))) else (some false))) else (some false))) else (some false))) else (some false)))
def class_rules_method.j1:Nat→Int→List (S63)→Int→Int→Bool→List (S61)→Int→Int→Int→Int→Int→List Int→List (S63)→List Int→Option (Bool)
 | 0,_,_,_,_,_,_,_,_,_,_,_,_,_,_ => none
 | k + 1,x5,x12,x13,x14,x54,x143000,x144000,x144001,x144002,x144003,x144004,x144005,x144006,x144007 => if x54=true then (some false) else (class_rules_method.l0 k x5 x12 x13 (wrap64 (x14 + 1)) x143000 x144000 x144001 x144002 x144003 x144004 x144005 x144006 x144007)
end
def class_rules_method.f (k:Nat) (l0_0:List (S61)) (a1_0:Int) (a1_1:Int) (a1_2:Int) (a1_3:Int) (a1_4:Int) (l1_5:List Int) (l1_6:List (S63)) (l1_7:List Int):Option (Bool):=class_rules_method.l0 k (l1_5.length:Int) l1_6 (l1_6.length:Int) 0 l0_0 a1_0 a1_1 a1_2 a1_3 a1_4 l1_5 l1_6 l1_7
set_option maxHeartbeats 80000000 in
set_option maxRecDepth 100000 in
theorem class_rules_method.calls (k:Nat) (A0_0:Option Addr) (c0_0:Nat) (l0_0:List (S61)) (a1_0:Int) (a1_1:Int) (a1_2:Int) (a1_3:Int) (a1_4:Int) (A1_5:Option Addr) (c1_5:Nat) (l1_5:List Int) (A1_6:Option Addr) (c1_6:Nat) (l1_6:List (S63)) (A1_7:Option Addr) (c1_7:Nat) (l1_7:List Int) (r:Bool) (w:World) (hr0_0:Kd.C k61 w A0_0 l0_0.length l0_0) (hc0_0:l0_0.length≤c0_0) (hr1_5:Kd.C (Kd.int .u8) w A1_5 l1_5.length l1_5) (hc1_5:l1_5.length≤c1_5) (hr1_6:Kd.C k63 w A1_6 l1_6.length l1_6) (hc1_6:l1_6.length≤c1_6) (hr1_7:Kd.C (Kd.int .u8) w A1_7 l1_7.length l1_7) (hc1_7:l1_7.length≤c1_7) (h:class_rules_method.f k l0_0 a1_0 a1_1 a1_2 a1_3 a1_4 l1_5 l1_6 l1_7=some r) :
  Calls Tryz.prog 41 #[.agg #[.slice A0_0 l0_0.length c0_0],.agg #[.int .i64 a1_0,.int .i64 a1_1,.int .i64 a1_2,.int .i64 a1_3,.int .i64 a1_4,.slice A1_5 l1_5.length c1_5,.slice A1_6 l1_6.length c1_6,.slice A1_7 l1_7.length c1_7]] w fun e w' => e=.returned (.bool r)∧Below w.heap.size w w':=by
 have hu88:=Tryz.underlying88
 have hu57:=Tryz.underlying57
 have hu63:=Tryz.underlying63
 have HR0_0:=am_ hr0_0
 have HC0_0:=am_ hc0_0
 clear hr0_0 hc0_0
 have HR1_5:=am_ hr1_5
 have HC1_5:=am_ hc1_5
 clear hr1_5 hc1_5
 have HR1_6:=am_ hr1_6
 have HC1_6:=am_ hc1_6
 clear hr1_6 hc1_6
 have HR1_7:=am_ hr1_7
 have HC1_7:=am_ hc1_7
 clear hr1_7 hc1_7
 have HB:=am_ (Below.refl w.heap.size w)
 have H:(class_rules_method.l0 k (l1_5.length:Int) l1_6 (l1_6.length:Int) 0 l0_0 a1_0 a1_1 a1_2 a1_3 a1_4 l1_5 l1_6 l1_7)=some r:=h
 clear h
 have H':=am_ H
 clear H
 go_enter Tryz.func41,Tryz.ntmps41
 go_wp2_with (first|((with_reducible refine gate_dst (N:=2) rfl ?_);(try (refine gate_guard (by rfl) ?_;dsimp only));refine box_event ?hg (N:=2) ?hd (cs:=#[.slice A0_0 l0_0.length c0_0]) (t:=88) ?hr ?_;(case hd => rfl);(case hg => rfl);(case hr => first|(go_simp;done)|(go_simp;rfl));intro gb142 hg w3 hbox hb;have n0_:=am_ (below_step bl_ hb);have n1_:=am_ (hbox);have n2_:=am_ ((by rw [hg];exact (below_size bl_):w.heap.size≤gb142));have n3_:=am_ ((by rw [hg];exact (below_size bl_):w.heap.size≤gb142));clear HB;have HB:=n0_;have BK142:=n1_;have GW142:=n2_;have GE142:=n3_;clear n0_ n1_ n2_ n3_;clear hb hbox hg)|((with_reducible refine gate_dst (N:=3) rfl ?_);(try (refine gate_guard (by rfl) ?_;dsimp only));refine box_event ?hg (N:=3) ?hd (cs:=#[.int .i64 a1_0,.int .i64 a1_1,.int .i64 a1_2,.int .i64 a1_3,.int .i64 a1_4,.slice A1_5 l1_5.length c1_5,.slice A1_6 l1_6.length c1_6,.slice A1_7 l1_7.length c1_7]) (t:=57) ?hr ?_;(case hd => rfl);(case hg => rfl);(case hr => first|(go_simp;done)|(go_simp;rfl));intro gb143 hg w4 hbox hb;have n0_:=am_ (blk_below (g:=gb142) (o:=.cells #[.slice A0_0 l0_0.length c0_0] 88 (0,0)) bk_ hb);have n1_:=am_ (below_step bl_ hb);have n2_:=am_ (hbox);have n3_:=am_ ((by rw [hg];exact (below_size bl_):w.heap.size≤gb143));have n4_:=am_ ((by rw [hg];exact (below_size bl_):w.heap.size≤gb143));have n5_:=am_ ((by rw [hg];exact Nat.ne_of_lt (blk_lt (g:=gb142) (o:=.cells #[.slice A0_0 l0_0.length c0_0] 88 (0,0)) bk_):gb142 ≠ gb143));have n6_:=am_ ((by rw [hg];exact Nat.ne_of_gt (blk_lt (g:=gb142) (o:=.cells #[.slice A0_0 l0_0.length c0_0] 88 (0,0)) bk_):gb143 ≠ gb142));clear BK142;clear HB;have BK142:=n0_;have HB:=n1_;have BK143:=n2_;have GW143:=n3_;have GE143:=n4_;have NB142_143:=n5_;have NB143_142:=n6_;clear n0_ n1_ n2_ n3_ n4_ n5_ n6_;clear hb hbox hg;have hnb5:=NB143_142.out;have hnc5:=NB142_143.out;obtain ⟨hcz6_0,hcz6_1,hcz6_2,hcz6_3,hcz6_4,hcz6_5,hcz6_6,hcz6_7,hfz6_0,hfz6_1,hfz6_2,hfz6_3,hfz6_4,hfz6_5,hfz6_6,hfz6_7⟩:=blk8_ BK143.out))
 go_loopg [14] k (fun kq v14 w' => ∃ (x14_1:Int),v14=.int .i64 x14_1∧Aside0 (class_rules_method.l0 kq (l1_5.length:Int) l1_6 (l1_6.length:Int) x14_1 l0_0 a1_0 a1_1 a1_2 a1_3 a1_4 l1_5 l1_6 l1_7=some r)∧Aside0 (kq≤k)∧Aside0 (w'.heap[gb142]?=some (.cells #[(.slice A0_0 l0_0.length c0_0)] 88 (0,0)))∧Aside0 (w'.heap[gb143]?=some (.cells #[.int .i64 a1_0,.int .i64 a1_1,.int .i64 a1_2,.int .i64 a1_3,.int .i64 a1_4,(.slice A1_5 l1_5.length c1_5),(.slice A1_6 l1_6.length c1_6),(.slice A1_7 l1_7.length c1_7)] 57 (0,0)))∧Aside0 (Below w.heap.size w w'))
 case atStart => exact ⟨(0),r3_,H',⟨Nat.le_refl _⟩,⟨bk_⟩,⟨bk_⟩,⟨bl_⟩⟩
 clear H'
 try clear hcz6_0;try clear hcz6_1;try clear hcz6_2;try clear hcz6_3;try clear hcz6_4;try clear hcz6_5;try clear hcz6_6;try clear hcz6_7;try clear hfz6_0;try clear hfz6_1;try clear hfz6_2;try clear hfz6_3;try clear hfz6_4;try clear hfz6_5;try clear hfz6_6;try clear hfz6_7
 obtain ⟨x14_1,rfl,HA,HK1,BK142,BK143,HB⟩:=hrel
 cases gk with
 | zero => exact absurd HA.out (by simp [class_rules_method.l0])
 | succ k1 =>
  have H:=HA.out
  clear HA
  simp only [class_rules_method.l0] at H
  by_cases c7:x14_1 < (l1_6.length:Int)
  ·rw [if_pos c7] at H
   have c7b0:decide (x14_1 < (l1_6.length:Int))=true:=decide_eq_true c7
   clear c7
   by_cases c8:0≤x14_1
   rotate_left
   ·rw [if_neg c8] at H
    exact absurd H (by simp)
   rw [if_pos c8] at H
   have c8b0:decide (0≤x14_1)=true:=decide_eq_true c8
   clear c8
   by_cases c9:x14_1 < (l1_6.length:Int)
   rotate_left
   ·rw [if_neg c9] at H
    exact absurd H (by simp)
   rw [if_pos c9] at H
   have c9b0:decide (x14_1 < (l1_6.length:Int))=true:=decide_eq_true c9
   clear c9
   have HC10:=am_ H
   clear H
   have p144:0≤(x14_1:Int):=od_
   have q144:x14_1 < (l1_6.length:Int):=od_
   obtain ⟨ad144,e144,hx144_0,hx144_1,hx144_2,hx144_3⟩:=at_T63 HR1_6.out x14_1 p144 q144
   cases e144
   replace hx144_0:=hb_ HB hx144_0
   replace hx144_1:=hb_ HB hx144_1
   replace hx144_2:=hb_ HB hx144_2
   replace hx144_3:=hb_ HB hx144_3
   replace p144:=eq_true p144
   replace q144:=eq_true q144
   go_upto_region 5 with (first|((with_reducible refine gate_dst (N:=7) rfl ?_);(try (refine gate_guard (by rfl) ?_;dsimp only));refine box_event ?hg (N:=7) ?hd (cs:=#[.int .i64 0,.int .i64 0,.int .i64 0,.int .i64 0]) (t:=63) ?hr ?_;(case hd => rfl);(case hg => rfl);(case hr => first|(go_simp;done)|(go_simp;rfl));intro gb145 hg w11 hbox hb;have n0_:=am_ (blk_below (g:=gb142) (o:=.cells #[.slice A0_0 l0_0.length c0_0] 88 (0,0)) bk_ hb);have n1_:=am_ (blk_below (g:=gb143) (o:=.cells #[.int .i64 a1_0,.int .i64 a1_1,.int .i64 a1_2,.int .i64 a1_3,.int .i64 a1_4,.slice A1_5 l1_5.length c1_5,.slice (some ad144) l1_6.length c1_6,.slice A1_7 l1_7.length c1_7] 57 (0,0)) bk_ hb);have n2_:=am_ (below_step bl_ hb);have n3_:=am_ (hbox);have n4_:=am_ ((by rw [hg];exact (below_size bl_):w.heap.size≤gb145));have n5_:=am_ ((by rw [hg];exact (below_size bl_):w.heap.size≤gb145));have n6_:=am_ ((by rw [hg];exact Nat.ne_of_lt (blk_lt (g:=gb142) (o:=.cells #[.slice A0_0 l0_0.length c0_0] 88 (0,0)) bk_):gb142 ≠ gb145));have n7_:=am_ ((by rw [hg];exact Nat.ne_of_gt (blk_lt (g:=gb142) (o:=.cells #[.slice A0_0 l0_0.length c0_0] 88 (0,0)) bk_):gb145 ≠ gb142));have n8_:=am_ ((by rw [hg];exact Nat.ne_of_lt (blk_lt (g:=gb143) (o:=.cells #[.int .i64 a1_0,.int .i64 a1_1,.int .i64 a1_2,.int .i64 a1_3,.int .i64 a1_4,.slice A1_5 l1_5.length c1_5,.slice (some ad144) l1_6.length c1_6,.slice A1_7 l1_7.length c1_7] 57 (0,0)) bk_):gb143 ≠ gb145));have n9_:=am_ ((by rw [hg];exact Nat.ne_of_gt (blk_lt (g:=gb143) (o:=.cells #[.int .i64 a1_0,.int .i64 a1_1,.int .i64 a1_2,.int .i64 a1_3,.int .i64 a1_4,.slice A1_5 l1_5.length c1_5,.slice (some ad144) l1_6.length c1_6,.slice A1_7 l1_7.length c1_7] 57 (0,0)) bk_):gb145 ≠ gb143));clear BK142;clear BK143;clear HB;have BK142:=n0_;have BK143:=n1_;have HB:=n2_;have BK145:=n3_;have GW145:=n4_;have GE145:=n5_;have NB142_145:=n6_;have NB145_142:=n7_;have NB143_145:=n8_;have NB145_143:=n9_;clear n0_ n1_ n2_ n3_ n4_ n5_ n6_ n7_ n8_ n9_;clear hb hbox hg;have hnb12:=NB145_142.out;have hnc12:=NB142_145.out;have hnb13:=NB145_143.out;have hnc13:=NB143_145.out;obtain ⟨hcz14_0,hcz14_1,hcz14_2,hcz14_3,hfz14_0,hfz14_1,hfz14_2,hfz14_3⟩:=blk4_ BK145.out))
   (try simp only [Act.put,List.setIfInBounds_toArray,List.set_cons_zero,List.set_cons_succ])
   go_cut [54] (fun v54 wc => ∃ (kq:Nat) (x54_9:Bool),v54=.bool x54_9∧Aside0 (class_rules_method.j1 kq (l1_5.length:Int) l1_6 (l1_6.length:Int) x14_1 x54_9 l0_0 a1_0 a1_1 a1_2 a1_3 a1_4 l1_5 l1_6 l1_7=some r)∧Aside0 (kq≤k1)∧Aside0 (wc.heap[gb142]?=some (.cells #[(.slice A0_0 l0_0.length c0_0)] 88 (0,0)))∧Aside0 (wc.heap[gb143]?=some (.cells #[.int .i64 a1_0,.int .i64 a1_1,.int .i64 a1_2,.int .i64 a1_3,.int .i64 a1_4,(.slice A1_5 l1_5.length c1_5),(.slice (some ad144) l1_6.length c1_6),(.slice A1_7 l1_7.length c1_7)] 57 (0,0)))∧Aside0 (wc.heap[gb145]?=some (.cells #[.int .i64 ((rd_T63 l1_6 x14_1).f0),.int .i64 ((rd_T63 l1_6 x14_1).f1),.int .i64 ((rd_T63 l1_6 x14_1).f2),.int .i64 ((rd_T63 l1_6 x14_1).f3)] 63 (0,0)))∧Aside0 (Below w.heap.size w wc))
   case first =>
    have H:=HC10.out
    clear HC10
    by_cases c15:((rd_T63 l1_6 x14_1).f0) < 0
    ·rw [if_pos c15] at H
     have c15b0:decide (((rd_T63 l1_6 x14_1).f0) < 0)=true:=decide_eq_true c15
     clear c15
     (first|rw [c15b0]|(simp only [i64_w,i32_w];rw [c15b0])|skip)
     have H':=am_ H
     clear H
     have hnb16:=NB145_142.out
     have hnc16:=NB142_145.out
     have hnb17:=NB145_143.out
     have hnc17:=NB143_145.out
     obtain ⟨hcz18_0,hcz18_1,hcz18_2,hcz18_3,hfz18_0,hfz18_1,hfz18_2,hfz18_3⟩:=blk4_ BK145.out
     go_wp2
     go_meet
     case rel => exact ⟨_,(true),r3_,H',⟨by have:=HK1.out;first|omega|exact Nat.le_refl _⟩,⟨bk_⟩,⟨bk_⟩,⟨by (with_reducible repeat (first|refine blk_drewN ?_ _|refine blk_drew ?_|refine blk_alloc ?_ _));refine blk_put (cs:=#[.int .i64 ((rd_T63 l1_6 x14_1).f0),.int .i64 ((rd_T63 l1_6 x14_1).f1),.int .i64 ((rd_T63 l1_6 x14_1).f2),.int .i64 0]) ?_ 3 _ rfl;(with_reducible repeat (first|refine blk_drewN ?_ _|refine blk_drew ?_|refine blk_alloc ?_ _));refine blk_put (cs:=#[.int .i64 ((rd_T63 l1_6 x14_1).f0),.int .i64 ((rd_T63 l1_6 x14_1).f1),.int .i64 0,.int .i64 0]) ?_ 2 _ rfl;(with_reducible repeat (first|refine blk_drewN ?_ _|refine blk_drew ?_|refine blk_alloc ?_ _));refine blk_put (cs:=#[.int .i64 ((rd_T63 l1_6 x14_1).f0),.int .i64 0,.int .i64 0,.int .i64 0]) ?_ 1 _ rfl;(with_reducible repeat (first|refine blk_drewN ?_ _|refine blk_drew ?_|refine blk_alloc ?_ _));refine blk_put (cs:=#[.int .i64 0,.int .i64 0,.int .i64 0,.int .i64 0]) ?_ 0 _ rfl;(with_reducible repeat (first|refine blk_drewN ?_ _|refine blk_drew ?_|refine blk_alloc ?_ _));exact BK145.out⟩,⟨bl_⟩⟩
    rw [if_neg c15] at H
    have c15b0:decide (((rd_T63 l1_6 x14_1).f0) < 0)=false:=decide_eq_false c15
    clear c15
    (first|rw [c15b0]|(simp only [i64_w,i32_w];rw [c15b0])|skip)
    by_cases c19:((rd_T63 l1_6 x14_1).f0) ≥ ((rd_T63 l1_6 x14_1).f1)
    ·rw [if_pos c19] at H
     have c19b0:decide (((rd_T63 l1_6 x14_1).f1)≤((rd_T63 l1_6 x14_1).f0))=true:=decide_eq_true c19
     clear c19
     have H':=am_ H
     clear H
     have hnb20:=NB145_142.out
     have hnc20:=NB142_145.out
     have hnb21:=NB145_143.out
     have hnc21:=NB143_145.out
     obtain ⟨hcz22_0,hcz22_1,hcz22_2,hcz22_3,hfz22_0,hfz22_1,hfz22_2,hfz22_3⟩:=blk4_ BK145.out
     go_wp2
     go_meet
     case rel => exact ⟨_,(true),r3_,H',⟨by have:=HK1.out;first|omega|exact Nat.le_refl _⟩,⟨bk_⟩,⟨bk_⟩,⟨by (with_reducible repeat (first|refine blk_drewN ?_ _|refine blk_drew ?_|refine blk_alloc ?_ _));refine blk_put (cs:=#[.int .i64 ((rd_T63 l1_6 x14_1).f0),.int .i64 ((rd_T63 l1_6 x14_1).f1),.int .i64 ((rd_T63 l1_6 x14_1).f2),.int .i64 0]) ?_ 3 _ rfl;(with_reducible repeat (first|refine blk_drewN ?_ _|refine blk_drew ?_|refine blk_alloc ?_ _));refine blk_put (cs:=#[.int .i64 ((rd_T63 l1_6 x14_1).f0),.int .i64 ((rd_T63 l1_6 x14_1).f1),.int .i64 0,.int .i64 0]) ?_ 2 _ rfl;(with_reducible repeat (first|refine blk_drewN ?_ _|refine blk_drew ?_|refine blk_alloc ?_ _));refine blk_put (cs:=#[.int .i64 ((rd_T63 l1_6 x14_1).f0),.int .i64 0,.int .i64 0,.int .i64 0]) ?_ 1 _ rfl;(with_reducible repeat (first|refine blk_drewN ?_ _|refine blk_drew ?_|refine blk_alloc ?_ _));refine blk_put (cs:=#[.int .i64 0,.int .i64 0,.int .i64 0,.int .i64 0]) ?_ 0 _ rfl;(with_reducible repeat (first|refine blk_drewN ?_ _|refine blk_drew ?_|refine blk_alloc ?_ _));exact BK145.out⟩,⟨bl_⟩⟩
    rw [if_neg c19] at H
    have c19b0:decide (((rd_T63 l1_6 x14_1).f1)≤((rd_T63 l1_6 x14_1).f0))=false:=decide_eq_false c19
    clear c19
    by_cases c23:((rd_T63 l1_6 x14_1).f1) > (l1_5.length:Int)
    ·rw [if_pos c23] at H
     have c23b0:decide ((l1_5.length:Int) < ((rd_T63 l1_6 x14_1).f1))=true:=decide_eq_true c23
     clear c23
     have H':=am_ H
     clear H
     have hnb24:=NB145_142.out
     have hnc24:=NB142_145.out
     have hnb25:=NB145_143.out
     have hnc25:=NB143_145.out
     obtain ⟨hcz26_0,hcz26_1,hcz26_2,hcz26_3,hfz26_0,hfz26_1,hfz26_2,hfz26_3⟩:=blk4_ BK145.out
     go_wp2
     go_meet
     case rel => exact ⟨_,(true),r3_,H',⟨by have:=HK1.out;first|omega|exact Nat.le_refl _⟩,⟨bk_⟩,⟨bk_⟩,⟨by (with_reducible repeat (first|refine blk_drewN ?_ _|refine blk_drew ?_|refine blk_alloc ?_ _));refine blk_put (cs:=#[.int .i64 ((rd_T63 l1_6 x14_1).f0),.int .i64 ((rd_T63 l1_6 x14_1).f1),.int .i64 ((rd_T63 l1_6 x14_1).f2),.int .i64 0]) ?_ 3 _ rfl;(with_reducible repeat (first|refine blk_drewN ?_ _|refine blk_drew ?_|refine blk_alloc ?_ _));refine blk_put (cs:=#[.int .i64 ((rd_T63 l1_6 x14_1).f0),.int .i64 ((rd_T63 l1_6 x14_1).f1),.int .i64 0,.int .i64 0]) ?_ 2 _ rfl;(with_reducible repeat (first|refine blk_drewN ?_ _|refine blk_drew ?_|refine blk_alloc ?_ _));refine blk_put (cs:=#[.int .i64 ((rd_T63 l1_6 x14_1).f0),.int .i64 0,.int .i64 0,.int .i64 0]) ?_ 1 _ rfl;(with_reducible repeat (first|refine blk_drewN ?_ _|refine blk_drew ?_|refine blk_alloc ?_ _));refine blk_put (cs:=#[.int .i64 0,.int .i64 0,.int .i64 0,.int .i64 0]) ?_ 0 _ rfl;(with_reducible repeat (first|refine blk_drewN ?_ _|refine blk_drew ?_|refine blk_alloc ?_ _));exact BK145.out⟩,⟨bl_⟩⟩
    rw [if_neg c23] at H
    have c23b0:decide ((l1_5.length:Int) < ((rd_T63 l1_6 x14_1).f1))=false:=decide_eq_false c23
    clear c23
    replace H:=Option.bind_eq_some_iff.mp H
    obtain ⟨t146,A270,H⟩:=H
    try dsimp only at H
    have A27:=am_ A270
    clear A270
    by_cases c28:t146=true
    rotate_left
    ·replace c28:=Bool.eq_false_iff.mpr c28
     subst c28
     rw [if_neg (show ¬ (false=true) by decide)] at H
     have H':=am_ H
     clear H
     have hnb43:=NB145_142.out
     have hnc43:=NB142_145.out
     have hnb44:=NB145_143.out
     have hnc44:=NB143_145.out
     obtain ⟨hcz45_0,hcz45_1,hcz45_2,hcz45_3,hfz45_0,hfz45_1,hfz45_2,hfz45_3⟩:=blk4_ BK145.out
     go_wp2_with (first|(go_at_call 60;(with_reducible refine (class_within.calls ((rd_T63 l1_6 x14_1).f2) (wrap64 ((l1_5.length:Int) - 1)) false _ A27.out).mono ?_);rintro e w' ⟨rfl,⟨nd,rfl⟩⟩))
     go_meet
     case rel => exact ⟨_,(true),r3_,H',⟨by have:=HK1.out;first|omega|exact Nat.le_refl _⟩,⟨bk_⟩,⟨bk_⟩,⟨by (with_reducible repeat (first|refine blk_drewN ?_ _|refine blk_drew ?_|refine blk_alloc ?_ _));refine blk_put (cs:=#[.int .i64 ((rd_T63 l1_6 x14_1).f0),.int .i64 ((rd_T63 l1_6 x14_1).f1),.int .i64 ((rd_T63 l1_6 x14_1).f2),.int .i64 0]) ?_ 3 _ rfl;(with_reducible repeat (first|refine blk_drewN ?_ _|refine blk_drew ?_|refine blk_alloc ?_ _));refine blk_put (cs:=#[.int .i64 ((rd_T63 l1_6 x14_1).f0),.int .i64 ((rd_T63 l1_6 x14_1).f1),.int .i64 0,.int .i64 0]) ?_ 2 _ rfl;(with_reducible repeat (first|refine blk_drewN ?_ _|refine blk_drew ?_|refine blk_alloc ?_ _));refine blk_put (cs:=#[.int .i64 ((rd_T63 l1_6 x14_1).f0),.int .i64 0,.int .i64 0,.int .i64 0]) ?_ 1 _ rfl;(with_reducible repeat (first|refine blk_drewN ?_ _|refine blk_drew ?_|refine blk_alloc ?_ _));refine blk_put (cs:=#[.int .i64 0,.int .i64 0,.int .i64 0,.int .i64 0]) ?_ 0 _ rfl;(with_reducible repeat (first|refine blk_drewN ?_ _|refine blk_drew ?_|refine blk_alloc ?_ _));exact BK145.out⟩,⟨bl_⟩⟩
    subst c28
    rw [if_pos rfl] at H
    by_cases c29:((rd_T63 l1_6 x14_1).f3)=0
    ·rw [if_pos c29] at H
     have c29b0:(((rd_T63 l1_6 x14_1).f3)==0)=true:=beq_iff_eq.mpr c29
     have c29b1:(((rd_T63 l1_6 x14_1).f3) != 0)=false:=bne_eq_false_iff_eq.mpr c29
     clear c29
     have H':=am_ H
     clear H
     have hnb30:=NB145_142.out
     have hnc30:=NB142_145.out
     have hnb31:=NB145_143.out
     have hnc31:=NB143_145.out
     obtain ⟨hcz32_0,hcz32_1,hcz32_2,hcz32_3,hfz32_0,hfz32_1,hfz32_2,hfz32_3⟩:=blk4_ BK145.out
     go_wp2_with (first|(go_at_call 60;(with_reducible refine (class_within.calls ((rd_T63 l1_6 x14_1).f2) (wrap64 ((l1_5.length:Int) - 1)) true _ A27.out).mono ?_);rintro e w' ⟨rfl,⟨nd,rfl⟩⟩))
     go_meet
     case rel => exact ⟨_,(false),r3_,H',⟨by have:=HK1.out;first|omega|exact Nat.le_refl _⟩,⟨bk_⟩,⟨bk_⟩,⟨by (with_reducible repeat (first|refine blk_drewN ?_ _|refine blk_drew ?_|refine blk_alloc ?_ _));refine blk_put (cs:=#[.int .i64 ((rd_T63 l1_6 x14_1).f0),.int .i64 ((rd_T63 l1_6 x14_1).f1),.int .i64 ((rd_T63 l1_6 x14_1).f2),.int .i64 0]) ?_ 3 _ rfl;(with_reducible repeat (first|refine blk_drewN ?_ _|refine blk_drew ?_|refine blk_alloc ?_ _));refine blk_put (cs:=#[.int .i64 ((rd_T63 l1_6 x14_1).f0),.int .i64 ((rd_T63 l1_6 x14_1).f1),.int .i64 0,.int .i64 0]) ?_ 2 _ rfl;(with_reducible repeat (first|refine blk_drewN ?_ _|refine blk_drew ?_|refine blk_alloc ?_ _));refine blk_put (cs:=#[.int .i64 ((rd_T63 l1_6 x14_1).f0),.int .i64 0,.int .i64 0,.int .i64 0]) ?_ 1 _ rfl;(with_reducible repeat (first|refine blk_drewN ?_ _|refine blk_drew ?_|refine blk_alloc ?_ _));refine blk_put (cs:=#[.int .i64 0,.int .i64 0,.int .i64 0,.int .i64 0]) ?_ 0 _ rfl;(with_reducible repeat (first|refine blk_drewN ?_ _|refine blk_drew ?_|refine blk_alloc ?_ _));exact BK145.out⟩,⟨bl_⟩⟩
    rw [if_neg c29] at H
    have c29b0:(((rd_T63 l1_6 x14_1).f3)==0)=false:=beq_eq_false_iff_ne.mpr c29
    have c29b1:(((rd_T63 l1_6 x14_1).f3) != 0)=true:=bne_iff_ne.mpr c29
    obtain ⟨y147,hy147⟩:∃ y_:List Int,y_=(([(rd_T63 l1_6 x14_1).f3]:List Int)):=⟨_,rfl⟩
    replace H:((class_rules_class.f k1 l0_0 y147).bind fun t150 => (class_rules_method.j1 k1 (l1_5.length:Int) l1_6 (l1_6.length:Int) x14_1 (!t150) l0_0 a1_0 a1_1 a1_2 a1_3 a1_4 l1_5 l1_6 l1_7))=some r:=by first|(rw [hy147];with_reducible exact H)|(have H2_:=(Option.bind_some _ _).symm.trans H;rw [hy147];with_reducible exact H2_)|(have H2_:=(Option.bind_some _ _).symm.trans H;with_reducible exact H2_)|with_reducible exact H|(rw [hy147];exact H)|exact H
    have Ny147:=am_ hy147
    clear hy147
    replace H:=Option.bind_eq_some_iff.mp H
    obtain ⟨t150,A330,H⟩:=H
    try dsimp only at H
    have A33:=am_ A330
    clear A330
    have H':=am_ H
    clear H
    have hnb34:=NB145_142.out
    have hnc34:=NB142_145.out
    have hnb35:=NB145_143.out
    have hnc35:=NB143_145.out
    obtain ⟨hcz36_0,hcz36_1,hcz36_2,hcz36_3,hfz36_0,hfz36_1,hfz36_2,hfz36_3⟩:=blk4_ BK145.out
    go_wp2_with (first|(go_at_call 60;(with_reducible refine (class_within.calls ((rd_T63 l1_6 x14_1).f2) (wrap64 ((l1_5.length:Int) - 1)) true _ A27.out).mono ?_);rintro e w' ⟨rfl,⟨nd,rfl⟩⟩;have hnb37:=NB142_143.out;have hnc37:=NB143_142.out;have hcz38_0:w11.cell? ⟨gb142,0,none⟩=some (.slice A0_0 l0_0.length c0_0):=(blk_cell BK142.out 0).trans rfl;have hfz38_0:=blk_frozen BK142.out 0)|((with_reducible refine gate_dst (N:=50) rfl ?_);(try (refine gate_guard (by rfl) ?_;dsimp only));refine Kd.R_lit (Kd.int .i64) _ 3 ?hg (N:=50) ?hd (xs:=([(rd_T63 l1_6 x14_1).f3]:List Int)) (inner:=[.int .i64 ((rd_T63 l1_6 x14_1).f3)]) (ok:=fun _ => True) (okp:=fun _ => True) ?hr ?hp (fun _ hk => hk) trivial (Below.refl _ _) (Nat.le_refl _) (by simp) ?_;(case hd => rfl);(case hg => rfl);(case hr => first|(go_simp;done)|(go_simp;rfl));(case hp => exact (Reps.one (show Kd.M (Kd.int .i64) _ _ _ ((rd_T63 l1_6 x14_1).f3) [.int .i64 ((rd_T63 l1_6 x14_1).f3)] from rfl) (Reps.none _ _)));intro v148 w39 ho40 hb hg_ hnew_;clear hg_ hnew_;(first|rw [← Ny147.out] at ho40|(simp only [Int.reduceToNat] at ho40;rw [← Ny147.out] at ho40));have n0_:=am_ (Kd.R_lower ho40 (below_size bl_));have n1_:=am_ (blk_below (g:=gb142) (o:=.cells #[.slice A0_0 l0_0.length c0_0] 88 (0,0)) bk_ hb);have n2_:=am_ (blk_below (g:=gb143) (o:=.cells #[.int .i64 a1_0,.int .i64 a1_1,.int .i64 a1_2,.int .i64 a1_3,.int .i64 a1_4,.slice A1_5 l1_5.length c1_5,.slice (some ad144) l1_6.length c1_6,.slice A1_7 l1_7.length c1_7] 57 (0,0)) bk_ hb);have n3_:=am_ (blk_below (g:=gb145) (o:=.cells #[.int .i64 ((rd_T63 l1_6 x14_1).f0),.int .i64 ((rd_T63 l1_6 x14_1).f1),.int .i64 ((rd_T63 l1_6 x14_1).f2),.int .i64 ((rd_T63 l1_6 x14_1).f3)] 63 (0,0)) (by (with_reducible repeat (first|refine blk_drewN ?_ _|refine blk_drew ?_|refine blk_alloc ?_ _));refine blk_put (cs:=#[.int .i64 ((rd_T63 l1_6 x14_1).f0),.int .i64 ((rd_T63 l1_6 x14_1).f1),.int .i64 ((rd_T63 l1_6 x14_1).f2),.int .i64 0]) ?_ 3 _ rfl;(with_reducible repeat (first|refine blk_drewN ?_ _|refine blk_drew ?_|refine blk_alloc ?_ _));refine blk_put (cs:=#[.int .i64 ((rd_T63 l1_6 x14_1).f0),.int .i64 ((rd_T63 l1_6 x14_1).f1),.int .i64 0,.int .i64 0]) ?_ 2 _ rfl;(with_reducible repeat (first|refine blk_drewN ?_ _|refine blk_drew ?_|refine blk_alloc ?_ _));refine blk_put (cs:=#[.int .i64 ((rd_T63 l1_6 x14_1).f0),.int .i64 0,.int .i64 0,.int .i64 0]) ?_ 1 _ rfl;(with_reducible repeat (first|refine blk_drewN ?_ _|refine blk_drew ?_|refine blk_alloc ?_ _));refine blk_put (cs:=#[.int .i64 0,.int .i64 0,.int .i64 0,.int .i64 0]) ?_ 0 _ rfl;(with_reducible repeat (first|refine blk_drewN ?_ _|refine blk_drew ?_|refine blk_alloc ?_ _));exact BK145.out) hb);have n4_:=am_ (below_step bl_ hb);clear BK142;clear BK143;clear BK145;clear HB;have HO149:=n0_;have BK142:=n1_;have BK143:=n2_;have BK145:=n3_;have HB:=n4_;clear n0_ n1_ n2_ n3_ n4_;clear hb ho40;obtain ⟨Ao41,co41,eo41⟩:=Kd.R_slice HO149.out;subst eo41)|(go_at_call 38;(with_reducible refine (class_rules_class.calls k1 _ _ l0_0 _ _ y147 t150 _ ?side1 ?side2 ?side3 ?side4 A33.out).mono ?_);(case side1 => exact kc_ (Kd.C_below HR0_0.out HB.out));(case side2 => exact HC0_0.out);(case side3 => exact kc_ (Kd.R_reads' HO149.out).2.2);(case side4 => exact (Kd.R_reads' HO149.out).2.1);rintro e w42 ⟨rfl,hb⟩;have n0_:=am_ (Kd.R_below (kr_ HO149.out) hb);have n1_:=am_ (blk_below (g:=gb142) (o:=.cells #[.slice A0_0 l0_0.length c0_0] 88 (0,0)) bk_ hb);have n2_:=am_ (blk_below (g:=gb143) (o:=.cells #[.int .i64 a1_0,.int .i64 a1_1,.int .i64 a1_2,.int .i64 a1_3,.int .i64 a1_4,.slice A1_5 l1_5.length c1_5,.slice (some ad144) l1_6.length c1_6,.slice A1_7 l1_7.length c1_7] 57 (0,0)) bk_ hb);have n3_:=am_ (blk_below (g:=gb145) (o:=.cells #[.int .i64 ((rd_T63 l1_6 x14_1).f0),.int .i64 ((rd_T63 l1_6 x14_1).f1),.int .i64 ((rd_T63 l1_6 x14_1).f2),.int .i64 ((rd_T63 l1_6 x14_1).f3)] 63 (0,0)) bk_ hb);have n4_:=am_ (below_step bl_ hb);clear HO149;clear BK142;clear BK143;clear BK145;clear HB;have HO149:=n0_;have BK142:=n1_;have BK143:=n2_;have BK145:=n3_;have HB:=n4_;clear n0_ n1_ n2_ n3_ n4_;(try clear hb);(try clear hb2);(try clear hk);(try clear hi)))
    go_meet
    case rel => exact ⟨_,(!t150),r3_,H',⟨by have:=HK1.out;first|omega|exact Nat.le_refl _⟩,⟨bk_⟩,⟨bk_⟩,⟨bk_⟩,⟨bl_⟩⟩
   clear HC10
   try clear c7;try clear c7b0;try clear c8;try clear c8b0;try clear c9;try clear c9b0;try clear hcz14_0;try clear hcz14_1;try clear hcz14_2;try clear hcz14_3;try clear hfz14_0;try clear hfz14_1;try clear hfz14_2;try clear hfz14_3;try clear hx144_0;try clear hx144_1;try clear hx144_2;try clear hx144_3;try clear p144;try clear q144
   obtain ⟨kq,x54_9,rfl,HA,HJ9,BK142,BK143,BK145,HB⟩:=hcut
   cases kq with
   | zero => exact absurd HA.out (by simp [class_rules_method.j1])
   | succ kj9 =>
    have H:=HA.out
    clear HA
    simp only [class_rules_method.j1] at H
    by_cases c46:x54_9=true
    ·subst c46
     rw [if_pos rfl] at H
     obtain rfl:=Option.some.inj H
     go_wp2
     go_ret
     exact ⟨ew_,bl_⟩
    replace c46:=Bool.eq_false_iff.mpr c46
    subst c46
    rw [if_neg (show ¬ (false=true) by decide)] at H
    have H':=am_ H
    clear H
    go_wp2
    go_roundg kj9
    case measure => have:=HK1.out;have:=HJ9.out;omega
    case rel => exact ⟨(wrap64 (x14_1 + 1)),r3_,H',⟨by have:=HK1.out;have:=HJ9.out;omega⟩,⟨bk_⟩,⟨bk_⟩,⟨bl_⟩⟩
  rw [if_neg c7] at H
  have c7b0:decide (x14_1 < (l1_6.length:Int))=false:=decide_eq_false c7
  clear c7
  replace H:=Option.bind_eq_some_iff.mp H
  obtain ⟨t151,A470,H⟩:=H
  try dsimp only at H
  have A47:=am_ A470
  clear A470
  by_cases c48:t151=true
  rotate_left
  ·replace c48:=Bool.eq_false_iff.mpr c48
   subst c48
   rw [if_neg (show ¬ (false=true) by decide)] at H
   obtain rfl:=Option.some.inj H
   have hnb128:=NB143_142.out
   have hnc128:=NB142_143.out
   obtain ⟨hcz129_0,hcz129_1,hcz129_2,hcz129_3,hcz129_4,hcz129_5,hcz129_6,hcz129_7,hfz129_0,hfz129_1,hfz129_2,hfz129_3,hfz129_4,hfz129_5,hfz129_6,hfz129_7⟩:=blk8_ BK143.out
   go_wp2_with (first|((with_reducible refine gate_callee (f:=39) rfl ?_);refine goesL_ (some 58) rfl rfl Tryz.func39 (by kernel_rfl) rfl #[.int .i64 a1_0] rfl (by (try simp only [List.map_toArray,List.map_cons,List.map_nil]);first|done|rfl|(simp only [List.length_drop,List.length_take];rfl)) ?_;(with_reducible refine (class_flags.calls a1_0 false _ A47.out).mono ?_);rintro e w' ⟨rfl,⟨nd,rfl⟩⟩;refine ⟨_,rfl,?_⟩))
   go_ret
   exact ⟨ew_,bl_⟩
  subst c48
  rw [if_pos rfl] at H
  obtain ⟨y152,hy152⟩:∃ y_:List Int,y_=(([a1_1,a1_2]:List Int)):=⟨_,rfl⟩
  replace H:((class_rules_text.f k1 l0_0 y152).bind fun t155 => (if t155=true then ((class_within.f a1_3 64).bind fun t156 => (if t156=true then ((class_within.f a1_4 64).bind fun t157 => (if t157=true then ((class_within.f (wrap64 ((l1_5.length:Int) - 1)) 4095).bind fun t158 => (if t158=true then (if (l1_7.length:Int)≤4096 then ((class_place.f k1 l0_0 (⟨#[67,111,100,101]⟩:ByteArray)).bind fun t159 => (if t159 > 0 then (if (l1_7.length:Int)=0 then (some true) else ((class_place.f k1 l0_0 (⟨#[83,116,97,99,107,77,97,112,84,97,98,108,101]⟩:ByteArray)).bind fun t160 => (some (decide (t160 > 0))))) else (some false))) else (some false)) else (some false))) else (some false))) else (some false))) else (some false)))=some r:=by first|(rw [hy152];with_reducible exact H)|(have H2_:=(Option.bind_some _ _).symm.trans H;rw [hy152];with_reducible exact H2_)|(have H2_:=(Option.bind_some _ _).symm.trans H;with_reducible exact H2_)|with_reducible exact H|(rw [hy152];exact H)|exact H
  have Ny152:=am_ hy152
  clear hy152
  replace H:=Option.bind_eq_some_iff.mp H
  obtain ⟨t155,A490,H⟩:=H
  try dsimp only at H
  have A49:=am_ A490
  clear A490
  by_cases c50:t155=true
  rotate_left
  ·replace c50:=Bool.eq_false_iff.mpr c50
   subst c50
   rw [if_neg (show ¬ (false=true) by decide)] at H
   obtain rfl:=Option.some.inj H
   have hnb121:=NB143_142.out
   have hnc121:=NB142_143.out
   obtain ⟨hcz122_0,hcz122_1,hcz122_2,hcz122_3,hcz122_4,hcz122_5,hcz122_6,hcz122_7,hfz122_0,hfz122_1,hfz122_2,hfz122_3,hfz122_4,hfz122_5,hfz122_6,hfz122_7⟩:=blk8_ BK143.out
   go_wp2_with (first|((with_reducible refine gate_callee (f:=39) rfl ?_);refine goesL_ (some 58) rfl rfl Tryz.func39 (by kernel_rfl) rfl #[.int .i64 a1_0] rfl (by (try simp only [List.map_toArray,List.map_cons,List.map_nil]);first|done|rfl|(simp only [List.length_drop,List.length_take];rfl)) ?_;(with_reducible refine (class_flags.calls a1_0 true _ A47.out).mono ?_);rintro e w' ⟨rfl,⟨nd,rfl⟩⟩;refine ⟨_,rfl,?_⟩;have hcz123_0:wr.cell? ⟨gb142,0,none⟩=some (.slice A0_0 l0_0.length c0_0):=(blk_cell BK142.out 0).trans rfl;have hfz123_0:=blk_frozen BK142.out 0)|((with_reducible refine gate_dst (N:=65) rfl ?_);(try (refine gate_guard (by rfl) ?_;dsimp only));refine Kd.R_lit (Kd.int .i64) _ 3 ?hg (N:=65) ?hd (xs:=([a1_1,a1_2]:List Int)) (inner:=[.int .i64 a1_1,.int .i64 a1_2]) (ok:=fun _ => True) (okp:=fun _ => True) ?hr ?hp (fun _ hk => hk) trivial (Below.refl _ _) (Nat.le_refl _) (by simp) ?_;(case hd => rfl);(case hg => rfl);(case hr => first|(go_simp;done)|(go_simp;rfl));(case hp => exact (Reps.one (show Kd.M (Kd.int .i64) _ _ _ a1_1 [.int .i64 a1_1] from rfl) (Reps.one (show Kd.M (Kd.int .i64) _ _ _ a1_2 [.int .i64 a1_2] from rfl) (Reps.none _ _))));intro v153 w124 ho125 hb hg_ hnew_;clear hg_ hnew_;(first|rw [← Ny152.out] at ho125|(simp only [Int.reduceToNat] at ho125;rw [← Ny152.out] at ho125));have n0_:=am_ (Kd.R_lower ho125 (below_size bl_));have n1_:=am_ (blk_below (g:=gb142) (o:=.cells #[.slice A0_0 l0_0.length c0_0] 88 (0,0)) bk_ hb);have n2_:=am_ (blk_below (g:=gb143) (o:=.cells #[.int .i64 a1_0,.int .i64 a1_1,.int .i64 a1_2,.int .i64 a1_3,.int .i64 a1_4,.slice A1_5 l1_5.length c1_5,.slice A1_6 l1_6.length c1_6,.slice A1_7 l1_7.length c1_7] 57 (0,0)) bk_ hb);have n3_:=am_ (below_step bl_ hb);clear BK142;clear BK143;clear HB;have HO154:=n0_;have BK142:=n1_;have BK143:=n2_;have HB:=n3_;clear n0_ n1_ n2_ n3_;clear hb ho125;obtain ⟨Ao126,co126,eo126⟩:=Kd.R_slice HO154.out;subst eo126)|(go_at_call 40;(with_reducible refine (class_rules_text.calls k1 _ _ l0_0 _ _ y152 false _ ?side1 ?side2 ?side3 ?side4 A49.out).mono ?_);(case side1 => exact kc_ (Kd.C_below HR0_0.out HB.out));(case side2 => exact HC0_0.out);(case side3 => exact kc_ (Kd.R_reads' HO154.out).2.2);(case side4 => exact (Kd.R_reads' HO154.out).2.1);rintro e w127 ⟨rfl,hb⟩;have n0_:=am_ (Kd.R_below (kr_ HO154.out) hb);have n1_:=am_ (blk_below (g:=gb142) (o:=.cells #[.slice A0_0 l0_0.length c0_0] 88 (0,0)) bk_ hb);have n2_:=am_ (blk_below (g:=gb143) (o:=.cells #[.int .i64 a1_0,.int .i64 a1_1,.int .i64 a1_2,.int .i64 a1_3,.int .i64 a1_4,.slice A1_5 l1_5.length c1_5,.slice A1_6 l1_6.length c1_6,.slice A1_7 l1_7.length c1_7] 57 (0,0)) bk_ hb);have n3_:=am_ (below_step bl_ hb);clear HO154;clear BK142;clear BK143;clear HB;have HO154:=n0_;have BK142:=n1_;have BK143:=n2_;have HB:=n3_;clear n0_ n1_ n2_ n3_;(try clear hb);(try clear hb2);(try clear hk);(try clear hi)))
   go_ret
   exact ⟨ew_,bl_⟩
  subst c50
  rw [if_pos rfl] at H
  replace H:=Option.bind_eq_some_iff.mp H
  obtain ⟨t156,A510,H⟩:=H
  try dsimp only at H
  have A51:=am_ A510
  clear A510
  by_cases c52:t156=true
  rotate_left
  ·replace c52:=Bool.eq_false_iff.mpr c52
   subst c52
   rw [if_neg (show ¬ (false=true) by decide)] at H
   obtain rfl:=Option.some.inj H
   have hnb113:=NB143_142.out
   have hnc113:=NB142_143.out
   obtain ⟨hcz114_0,hcz114_1,hcz114_2,hcz114_3,hcz114_4,hcz114_5,hcz114_6,hcz114_7,hfz114_0,hfz114_1,hfz114_2,hfz114_3,hfz114_4,hfz114_5,hfz114_6,hfz114_7⟩:=blk8_ BK143.out
   go_wp2_with (first|((with_reducible refine gate_callee (f:=39) rfl ?_);refine goesL_ (some 58) rfl rfl Tryz.func39 (by kernel_rfl) rfl #[.int .i64 a1_0] rfl (by (try simp only [List.map_toArray,List.map_cons,List.map_nil]);first|done|rfl|(simp only [List.length_drop,List.length_take];rfl)) ?_;(with_reducible refine (class_flags.calls a1_0 true _ A47.out).mono ?_);rintro e w' ⟨rfl,⟨nd,rfl⟩⟩;refine ⟨_,rfl,?_⟩;have hcz115_0:wr.cell? ⟨gb142,0,none⟩=some (.slice A0_0 l0_0.length c0_0):=(blk_cell BK142.out 0).trans rfl;have hfz115_0:=blk_frozen BK142.out 0)|((with_reducible refine gate_dst (N:=65) rfl ?_);(try (refine gate_guard (by rfl) ?_;dsimp only));refine Kd.R_lit (Kd.int .i64) _ 3 ?hg (N:=65) ?hd (xs:=([a1_1,a1_2]:List Int)) (inner:=[.int .i64 a1_1,.int .i64 a1_2]) (ok:=fun _ => True) (okp:=fun _ => True) ?hr ?hp (fun _ hk => hk) trivial (Below.refl _ _) (Nat.le_refl _) (by simp) ?_;(case hd => rfl);(case hg => rfl);(case hr => first|(go_simp;done)|(go_simp;rfl));(case hp => exact (Reps.one (show Kd.M (Kd.int .i64) _ _ _ a1_1 [.int .i64 a1_1] from rfl) (Reps.one (show Kd.M (Kd.int .i64) _ _ _ a1_2 [.int .i64 a1_2] from rfl) (Reps.none _ _))));intro v153 w116 ho117 hb hg_ hnew_;clear hg_ hnew_;(first|rw [← Ny152.out] at ho117|(simp only [Int.reduceToNat] at ho117;rw [← Ny152.out] at ho117));have n0_:=am_ (Kd.R_lower ho117 (below_size bl_));have n1_:=am_ (blk_below (g:=gb142) (o:=.cells #[.slice A0_0 l0_0.length c0_0] 88 (0,0)) bk_ hb);have n2_:=am_ (blk_below (g:=gb143) (o:=.cells #[.int .i64 a1_0,.int .i64 a1_1,.int .i64 a1_2,.int .i64 a1_3,.int .i64 a1_4,.slice A1_5 l1_5.length c1_5,.slice A1_6 l1_6.length c1_6,.slice A1_7 l1_7.length c1_7] 57 (0,0)) bk_ hb);have n3_:=am_ (below_step bl_ hb);clear BK142;clear BK143;clear HB;have HO154:=n0_;have BK142:=n1_;have BK143:=n2_;have HB:=n3_;clear n0_ n1_ n2_ n3_;clear hb ho117;obtain ⟨Ao118,co118,eo118⟩:=Kd.R_slice HO154.out;subst eo118)|(go_at_call 40;(with_reducible refine (class_rules_text.calls k1 _ _ l0_0 _ _ y152 true _ ?side1 ?side2 ?side3 ?side4 A49.out).mono ?_);(case side1 => exact kc_ (Kd.C_below HR0_0.out HB.out));(case side2 => exact HC0_0.out);(case side3 => exact kc_ (Kd.R_reads' HO154.out).2.2);(case side4 => exact (Kd.R_reads' HO154.out).2.1);rintro e w119 ⟨rfl,hb⟩;have n0_:=am_ (Kd.R_below (kr_ HO154.out) hb);have n1_:=am_ (blk_below (g:=gb142) (o:=.cells #[.slice A0_0 l0_0.length c0_0] 88 (0,0)) bk_ hb);have n2_:=am_ (blk_below (g:=gb143) (o:=.cells #[.int .i64 a1_0,.int .i64 a1_1,.int .i64 a1_2,.int .i64 a1_3,.int .i64 a1_4,.slice A1_5 l1_5.length c1_5,.slice A1_6 l1_6.length c1_6,.slice A1_7 l1_7.length c1_7] 57 (0,0)) bk_ hb);have n3_:=am_ (below_step bl_ hb);clear HO154;clear BK142;clear BK143;clear HB;have HO154:=n0_;have BK142:=n1_;have BK143:=n2_;have HB:=n3_;clear n0_ n1_ n2_ n3_;(try clear hb);(try clear hb2);(try clear hk);(try clear hi);obtain ⟨hcz120_0,hcz120_1,hcz120_2,hcz120_3,hcz120_4,hcz120_5,hcz120_6,hcz120_7,hfz120_0,hfz120_1,hfz120_2,hfz120_3,hfz120_4,hfz120_5,hfz120_6,hfz120_7⟩:=blk8_ BK143.out)|(go_at_call 60;(with_reducible refine (class_within.calls a1_3 64 false _ A51.out).mono ?_);rintro e w' ⟨rfl,⟨nd,rfl⟩⟩))
   go_ret
   exact ⟨ew_,bl_⟩
  subst c52
  rw [if_pos rfl] at H
  replace H:=Option.bind_eq_some_iff.mp H
  obtain ⟨t157,A530,H⟩:=H
  try dsimp only at H
  have A53:=am_ A530
  clear A530
  by_cases c54:t157=true
  rotate_left
  ·replace c54:=Bool.eq_false_iff.mpr c54
   subst c54
   rw [if_neg (show ¬ (false=true) by decide)] at H
   obtain rfl:=Option.some.inj H
   have hnb105:=NB143_142.out
   have hnc105:=NB142_143.out
   obtain ⟨hcz106_0,hcz106_1,hcz106_2,hcz106_3,hcz106_4,hcz106_5,hcz106_6,hcz106_7,hfz106_0,hfz106_1,hfz106_2,hfz106_3,hfz106_4,hfz106_5,hfz106_6,hfz106_7⟩:=blk8_ BK143.out
   go_wp2_with (first|((with_reducible refine gate_callee (f:=39) rfl ?_);refine goesL_ (some 58) rfl rfl Tryz.func39 (by kernel_rfl) rfl #[.int .i64 a1_0] rfl (by (try simp only [List.map_toArray,List.map_cons,List.map_nil]);first|done|rfl|(simp only [List.length_drop,List.length_take];rfl)) ?_;(with_reducible refine (class_flags.calls a1_0 true _ A47.out).mono ?_);rintro e w' ⟨rfl,⟨nd,rfl⟩⟩;refine ⟨_,rfl,?_⟩;have hcz107_0:wr.cell? ⟨gb142,0,none⟩=some (.slice A0_0 l0_0.length c0_0):=(blk_cell BK142.out 0).trans rfl;have hfz107_0:=blk_frozen BK142.out 0)|((with_reducible refine gate_dst (N:=65) rfl ?_);(try (refine gate_guard (by rfl) ?_;dsimp only));refine Kd.R_lit (Kd.int .i64) _ 3 ?hg (N:=65) ?hd (xs:=([a1_1,a1_2]:List Int)) (inner:=[.int .i64 a1_1,.int .i64 a1_2]) (ok:=fun _ => True) (okp:=fun _ => True) ?hr ?hp (fun _ hk => hk) trivial (Below.refl _ _) (Nat.le_refl _) (by simp) ?_;(case hd => rfl);(case hg => rfl);(case hr => first|(go_simp;done)|(go_simp;rfl));(case hp => exact (Reps.one (show Kd.M (Kd.int .i64) _ _ _ a1_1 [.int .i64 a1_1] from rfl) (Reps.one (show Kd.M (Kd.int .i64) _ _ _ a1_2 [.int .i64 a1_2] from rfl) (Reps.none _ _))));intro v153 w108 ho109 hb hg_ hnew_;clear hg_ hnew_;(first|rw [← Ny152.out] at ho109|(simp only [Int.reduceToNat] at ho109;rw [← Ny152.out] at ho109));have n0_:=am_ (Kd.R_lower ho109 (below_size bl_));have n1_:=am_ (blk_below (g:=gb142) (o:=.cells #[.slice A0_0 l0_0.length c0_0] 88 (0,0)) bk_ hb);have n2_:=am_ (blk_below (g:=gb143) (o:=.cells #[.int .i64 a1_0,.int .i64 a1_1,.int .i64 a1_2,.int .i64 a1_3,.int .i64 a1_4,.slice A1_5 l1_5.length c1_5,.slice A1_6 l1_6.length c1_6,.slice A1_7 l1_7.length c1_7] 57 (0,0)) bk_ hb);have n3_:=am_ (below_step bl_ hb);clear BK142;clear BK143;clear HB;have HO154:=n0_;have BK142:=n1_;have BK143:=n2_;have HB:=n3_;clear n0_ n1_ n2_ n3_;clear hb ho109;obtain ⟨Ao110,co110,eo110⟩:=Kd.R_slice HO154.out;subst eo110)|(go_at_call 40;(with_reducible refine (class_rules_text.calls k1 _ _ l0_0 _ _ y152 true _ ?side1 ?side2 ?side3 ?side4 A49.out).mono ?_);(case side1 => exact kc_ (Kd.C_below HR0_0.out HB.out));(case side2 => exact HC0_0.out);(case side3 => exact kc_ (Kd.R_reads' HO154.out).2.2);(case side4 => exact (Kd.R_reads' HO154.out).2.1);rintro e w111 ⟨rfl,hb⟩;have n0_:=am_ (Kd.R_below (kr_ HO154.out) hb);have n1_:=am_ (blk_below (g:=gb142) (o:=.cells #[.slice A0_0 l0_0.length c0_0] 88 (0,0)) bk_ hb);have n2_:=am_ (blk_below (g:=gb143) (o:=.cells #[.int .i64 a1_0,.int .i64 a1_1,.int .i64 a1_2,.int .i64 a1_3,.int .i64 a1_4,.slice A1_5 l1_5.length c1_5,.slice A1_6 l1_6.length c1_6,.slice A1_7 l1_7.length c1_7] 57 (0,0)) bk_ hb);have n3_:=am_ (below_step bl_ hb);clear HO154;clear BK142;clear BK143;clear HB;have HO154:=n0_;have BK142:=n1_;have BK143:=n2_;have HB:=n3_;clear n0_ n1_ n2_ n3_;(try clear hb);(try clear hb2);(try clear hk);(try clear hi);obtain ⟨hcz112_0,hcz112_1,hcz112_2,hcz112_3,hcz112_4,hcz112_5,hcz112_6,hcz112_7,hfz112_0,hfz112_1,hfz112_2,hfz112_3,hfz112_4,hfz112_5,hfz112_6,hfz112_7⟩:=blk8_ BK143.out)|(go_at_call 60;(with_reducible refine (class_within.calls a1_3 64 true _ A51.out).mono ?_);rintro e w' ⟨rfl,⟨nd,rfl⟩⟩)|(go_at_call 60;(with_reducible refine (class_within.calls a1_4 64 false _ A53.out).mono ?_);rintro e w' ⟨rfl,⟨nd,rfl⟩⟩))
   go_ret
   exact ⟨ew_,bl_⟩
  subst c54
  rw [if_pos rfl] at H
  replace H:=Option.bind_eq_some_iff.mp H
  obtain ⟨t158,A550,H⟩:=H
  try dsimp only at H
  have A55:=am_ A550
  clear A550
  by_cases c56:t158=true
  rotate_left
  ·replace c56:=Bool.eq_false_iff.mpr c56
   subst c56
   rw [if_neg (show ¬ (false=true) by decide)] at H
   obtain rfl:=Option.some.inj H
   have hnb97:=NB143_142.out
   have hnc97:=NB142_143.out
   obtain ⟨hcz98_0,hcz98_1,hcz98_2,hcz98_3,hcz98_4,hcz98_5,hcz98_6,hcz98_7,hfz98_0,hfz98_1,hfz98_2,hfz98_3,hfz98_4,hfz98_5,hfz98_6,hfz98_7⟩:=blk8_ BK143.out
   go_wp2_with (first|((with_reducible refine gate_callee (f:=39) rfl ?_);refine goesL_ (some 58) rfl rfl Tryz.func39 (by kernel_rfl) rfl #[.int .i64 a1_0] rfl (by (try simp only [List.map_toArray,List.map_cons,List.map_nil]);first|done|rfl|(simp only [List.length_drop,List.length_take];rfl)) ?_;(with_reducible refine (class_flags.calls a1_0 true _ A47.out).mono ?_);rintro e w' ⟨rfl,⟨nd,rfl⟩⟩;refine ⟨_,rfl,?_⟩;have hcz99_0:wr.cell? ⟨gb142,0,none⟩=some (.slice A0_0 l0_0.length c0_0):=(blk_cell BK142.out 0).trans rfl;have hfz99_0:=blk_frozen BK142.out 0)|((with_reducible refine gate_dst (N:=65) rfl ?_);(try (refine gate_guard (by rfl) ?_;dsimp only));refine Kd.R_lit (Kd.int .i64) _ 3 ?hg (N:=65) ?hd (xs:=([a1_1,a1_2]:List Int)) (inner:=[.int .i64 a1_1,.int .i64 a1_2]) (ok:=fun _ => True) (okp:=fun _ => True) ?hr ?hp (fun _ hk => hk) trivial (Below.refl _ _) (Nat.le_refl _) (by simp) ?_;(case hd => rfl);(case hg => rfl);(case hr => first|(go_simp;done)|(go_simp;rfl));(case hp => exact (Reps.one (show Kd.M (Kd.int .i64) _ _ _ a1_1 [.int .i64 a1_1] from rfl) (Reps.one (show Kd.M (Kd.int .i64) _ _ _ a1_2 [.int .i64 a1_2] from rfl) (Reps.none _ _))));intro v153 w100 ho101 hb hg_ hnew_;clear hg_ hnew_;(first|rw [← Ny152.out] at ho101|(simp only [Int.reduceToNat] at ho101;rw [← Ny152.out] at ho101));have n0_:=am_ (Kd.R_lower ho101 (below_size bl_));have n1_:=am_ (blk_below (g:=gb142) (o:=.cells #[.slice A0_0 l0_0.length c0_0] 88 (0,0)) bk_ hb);have n2_:=am_ (blk_below (g:=gb143) (o:=.cells #[.int .i64 a1_0,.int .i64 a1_1,.int .i64 a1_2,.int .i64 a1_3,.int .i64 a1_4,.slice A1_5 l1_5.length c1_5,.slice A1_6 l1_6.length c1_6,.slice A1_7 l1_7.length c1_7] 57 (0,0)) bk_ hb);have n3_:=am_ (below_step bl_ hb);clear BK142;clear BK143;clear HB;have HO154:=n0_;have BK142:=n1_;have BK143:=n2_;have HB:=n3_;clear n0_ n1_ n2_ n3_;clear hb ho101;obtain ⟨Ao102,co102,eo102⟩:=Kd.R_slice HO154.out;subst eo102)|(go_at_call 40;(with_reducible refine (class_rules_text.calls k1 _ _ l0_0 _ _ y152 true _ ?side1 ?side2 ?side3 ?side4 A49.out).mono ?_);(case side1 => exact kc_ (Kd.C_below HR0_0.out HB.out));(case side2 => exact HC0_0.out);(case side3 => exact kc_ (Kd.R_reads' HO154.out).2.2);(case side4 => exact (Kd.R_reads' HO154.out).2.1);rintro e w103 ⟨rfl,hb⟩;have n0_:=am_ (Kd.R_below (kr_ HO154.out) hb);have n1_:=am_ (blk_below (g:=gb142) (o:=.cells #[.slice A0_0 l0_0.length c0_0] 88 (0,0)) bk_ hb);have n2_:=am_ (blk_below (g:=gb143) (o:=.cells #[.int .i64 a1_0,.int .i64 a1_1,.int .i64 a1_2,.int .i64 a1_3,.int .i64 a1_4,.slice A1_5 l1_5.length c1_5,.slice A1_6 l1_6.length c1_6,.slice A1_7 l1_7.length c1_7] 57 (0,0)) bk_ hb);have n3_:=am_ (below_step bl_ hb);clear HO154;clear BK142;clear BK143;clear HB;have HO154:=n0_;have BK142:=n1_;have BK143:=n2_;have HB:=n3_;clear n0_ n1_ n2_ n3_;(try clear hb);(try clear hb2);(try clear hk);(try clear hi);obtain ⟨hcz104_0,hcz104_1,hcz104_2,hcz104_3,hcz104_4,hcz104_5,hcz104_6,hcz104_7,hfz104_0,hfz104_1,hfz104_2,hfz104_3,hfz104_4,hfz104_5,hfz104_6,hfz104_7⟩:=blk8_ BK143.out)|(go_at_call 60;(with_reducible refine (class_within.calls a1_3 64 true _ A51.out).mono ?_);rintro e w' ⟨rfl,⟨nd,rfl⟩⟩)|(go_at_call 60;(with_reducible refine (class_within.calls a1_4 64 true _ A53.out).mono ?_);rintro e w' ⟨rfl,⟨nd,rfl⟩⟩)|(go_at_call 60;(with_reducible refine (class_within.calls (wrap64 ((l1_5.length:Int) - 1)) 4095 false _ A55.out).mono ?_);rintro e w' ⟨rfl,⟨nd,rfl⟩⟩))
   go_ret
   exact ⟨ew_,bl_⟩
  subst c56
  rw [if_pos rfl] at H
  by_cases c57:(l1_7.length:Int)≤4096
  rotate_left
  ·rw [if_neg c57] at H
   have c57b0:decide ((l1_7.length:Int)≤4096)=false:=decide_eq_false c57
   have c57b1:decide (l1_7.length≤4096)=false:=decide_eq_false (by omega)
   clear c57
   obtain rfl:=Option.some.inj H
   have hnb89:=NB143_142.out
   have hnc89:=NB142_143.out
   obtain ⟨hcz90_0,hcz90_1,hcz90_2,hcz90_3,hcz90_4,hcz90_5,hcz90_6,hcz90_7,hfz90_0,hfz90_1,hfz90_2,hfz90_3,hfz90_4,hfz90_5,hfz90_6,hfz90_7⟩:=blk8_ BK143.out
   go_wp2_with (first|((with_reducible refine gate_callee (f:=39) rfl ?_);refine goesL_ (some 58) rfl rfl Tryz.func39 (by kernel_rfl) rfl #[.int .i64 a1_0] rfl (by (try simp only [List.map_toArray,List.map_cons,List.map_nil]);first|done|rfl|(simp only [List.length_drop,List.length_take];rfl)) ?_;(with_reducible refine (class_flags.calls a1_0 true _ A47.out).mono ?_);rintro e w' ⟨rfl,⟨nd,rfl⟩⟩;refine ⟨_,rfl,?_⟩;have hcz91_0:wr.cell? ⟨gb142,0,none⟩=some (.slice A0_0 l0_0.length c0_0):=(blk_cell BK142.out 0).trans rfl;have hfz91_0:=blk_frozen BK142.out 0)|((with_reducible refine gate_dst (N:=65) rfl ?_);(try (refine gate_guard (by rfl) ?_;dsimp only));refine Kd.R_lit (Kd.int .i64) _ 3 ?hg (N:=65) ?hd (xs:=([a1_1,a1_2]:List Int)) (inner:=[.int .i64 a1_1,.int .i64 a1_2]) (ok:=fun _ => True) (okp:=fun _ => True) ?hr ?hp (fun _ hk => hk) trivial (Below.refl _ _) (Nat.le_refl _) (by simp) ?_;(case hd => rfl);(case hg => rfl);(case hr => first|(go_simp;done)|(go_simp;rfl));(case hp => exact (Reps.one (show Kd.M (Kd.int .i64) _ _ _ a1_1 [.int .i64 a1_1] from rfl) (Reps.one (show Kd.M (Kd.int .i64) _ _ _ a1_2 [.int .i64 a1_2] from rfl) (Reps.none _ _))));intro v153 w92 ho93 hb hg_ hnew_;clear hg_ hnew_;(first|rw [← Ny152.out] at ho93|(simp only [Int.reduceToNat] at ho93;rw [← Ny152.out] at ho93));have n0_:=am_ (Kd.R_lower ho93 (below_size bl_));have n1_:=am_ (blk_below (g:=gb142) (o:=.cells #[.slice A0_0 l0_0.length c0_0] 88 (0,0)) bk_ hb);have n2_:=am_ (blk_below (g:=gb143) (o:=.cells #[.int .i64 a1_0,.int .i64 a1_1,.int .i64 a1_2,.int .i64 a1_3,.int .i64 a1_4,.slice A1_5 l1_5.length c1_5,.slice A1_6 l1_6.length c1_6,.slice A1_7 l1_7.length c1_7] 57 (0,0)) bk_ hb);have n3_:=am_ (below_step bl_ hb);clear BK142;clear BK143;clear HB;have HO154:=n0_;have BK142:=n1_;have BK143:=n2_;have HB:=n3_;clear n0_ n1_ n2_ n3_;clear hb ho93;obtain ⟨Ao94,co94,eo94⟩:=Kd.R_slice HO154.out;subst eo94)|(go_at_call 40;(with_reducible refine (class_rules_text.calls k1 _ _ l0_0 _ _ y152 true _ ?side1 ?side2 ?side3 ?side4 A49.out).mono ?_);(case side1 => exact kc_ (Kd.C_below HR0_0.out HB.out));(case side2 => exact HC0_0.out);(case side3 => exact kc_ (Kd.R_reads' HO154.out).2.2);(case side4 => exact (Kd.R_reads' HO154.out).2.1);rintro e w95 ⟨rfl,hb⟩;have n0_:=am_ (Kd.R_below (kr_ HO154.out) hb);have n1_:=am_ (blk_below (g:=gb142) (o:=.cells #[.slice A0_0 l0_0.length c0_0] 88 (0,0)) bk_ hb);have n2_:=am_ (blk_below (g:=gb143) (o:=.cells #[.int .i64 a1_0,.int .i64 a1_1,.int .i64 a1_2,.int .i64 a1_3,.int .i64 a1_4,.slice A1_5 l1_5.length c1_5,.slice A1_6 l1_6.length c1_6,.slice A1_7 l1_7.length c1_7] 57 (0,0)) bk_ hb);have n3_:=am_ (below_step bl_ hb);clear HO154;clear BK142;clear BK143;clear HB;have HO154:=n0_;have BK142:=n1_;have BK143:=n2_;have HB:=n3_;clear n0_ n1_ n2_ n3_;(try clear hb);(try clear hb2);(try clear hk);(try clear hi);obtain ⟨hcz96_0,hcz96_1,hcz96_2,hcz96_3,hcz96_4,hcz96_5,hcz96_6,hcz96_7,hfz96_0,hfz96_1,hfz96_2,hfz96_3,hfz96_4,hfz96_5,hfz96_6,hfz96_7⟩:=blk8_ BK143.out)|(go_at_call 60;(with_reducible refine (class_within.calls a1_3 64 true _ A51.out).mono ?_);rintro e w' ⟨rfl,⟨nd,rfl⟩⟩)|(go_at_call 60;(with_reducible refine (class_within.calls a1_4 64 true _ A53.out).mono ?_);rintro e w' ⟨rfl,⟨nd,rfl⟩⟩)|(go_at_call 60;(with_reducible refine (class_within.calls (wrap64 ((l1_5.length:Int) - 1)) 4095 true _ A55.out).mono ?_);rintro e w' ⟨rfl,⟨nd,rfl⟩⟩))
   go_ret
   exact ⟨ew_,bl_⟩
  rw [if_pos c57] at H
  have c57b0:decide ((l1_7.length:Int)≤4096)=true:=decide_eq_true c57
  have c57b1:decide (l1_7.length≤4096)=true:=decide_eq_true (by omega)
  clear c57
  replace H:=Option.bind_eq_some_iff.mp H
  obtain ⟨t159,A580,H⟩:=H
  try dsimp only at H
  have A58:=am_ A580
  clear A580
  by_cases c59:t159 > 0
  rotate_left
  ·rw [if_neg c59] at H
   have c59b0:decide (0 < t159)=false:=decide_eq_false c59
   clear c59
   obtain rfl:=Option.some.inj H
   have hnb80:=NB143_142.out
   have hnc80:=NB142_143.out
   obtain ⟨hcz81_0,hcz81_1,hcz81_2,hcz81_3,hcz81_4,hcz81_5,hcz81_6,hcz81_7,hfz81_0,hfz81_1,hfz81_2,hfz81_3,hfz81_4,hfz81_5,hfz81_6,hfz81_7⟩:=blk8_ BK143.out
   go_wp2_with (first|((with_reducible refine gate_callee (f:=39) rfl ?_);refine goesL_ (some 58) rfl rfl Tryz.func39 (by kernel_rfl) rfl #[.int .i64 a1_0] rfl (by (try simp only [List.map_toArray,List.map_cons,List.map_nil]);first|done|rfl|(simp only [List.length_drop,List.length_take];rfl)) ?_;(with_reducible refine (class_flags.calls a1_0 true _ A47.out).mono ?_);rintro e w' ⟨rfl,⟨nd,rfl⟩⟩;refine ⟨_,rfl,?_⟩;have hcz82_0:wr.cell? ⟨gb142,0,none⟩=some (.slice A0_0 l0_0.length c0_0):=(blk_cell BK142.out 0).trans rfl;have hfz82_0:=blk_frozen BK142.out 0)|((with_reducible refine gate_dst (N:=65) rfl ?_);(try (refine gate_guard (by rfl) ?_;dsimp only));refine Kd.R_lit (Kd.int .i64) _ 3 ?hg (N:=65) ?hd (xs:=([a1_1,a1_2]:List Int)) (inner:=[.int .i64 a1_1,.int .i64 a1_2]) (ok:=fun _ => True) (okp:=fun _ => True) ?hr ?hp (fun _ hk => hk) trivial (Below.refl _ _) (Nat.le_refl _) (by simp) ?_;(case hd => rfl);(case hg => rfl);(case hr => first|(go_simp;done)|(go_simp;rfl));(case hp => exact (Reps.one (show Kd.M (Kd.int .i64) _ _ _ a1_1 [.int .i64 a1_1] from rfl) (Reps.one (show Kd.M (Kd.int .i64) _ _ _ a1_2 [.int .i64 a1_2] from rfl) (Reps.none _ _))));intro v153 w83 ho84 hb hg_ hnew_;clear hg_ hnew_;(first|rw [← Ny152.out] at ho84|(simp only [Int.reduceToNat] at ho84;rw [← Ny152.out] at ho84));have n0_:=am_ (Kd.R_lower ho84 (below_size bl_));have n1_:=am_ (blk_below (g:=gb142) (o:=.cells #[.slice A0_0 l0_0.length c0_0] 88 (0,0)) bk_ hb);have n2_:=am_ (blk_below (g:=gb143) (o:=.cells #[.int .i64 a1_0,.int .i64 a1_1,.int .i64 a1_2,.int .i64 a1_3,.int .i64 a1_4,.slice A1_5 l1_5.length c1_5,.slice A1_6 l1_6.length c1_6,.slice A1_7 l1_7.length c1_7] 57 (0,0)) bk_ hb);have n3_:=am_ (below_step bl_ hb);clear BK142;clear BK143;clear HB;have HO154:=n0_;have BK142:=n1_;have BK143:=n2_;have HB:=n3_;clear n0_ n1_ n2_ n3_;clear hb ho84;obtain ⟨Ao85,co85,eo85⟩:=Kd.R_slice HO154.out;subst eo85)|(go_at_call 40;(with_reducible refine (class_rules_text.calls k1 _ _ l0_0 _ _ y152 true _ ?side1 ?side2 ?side3 ?side4 A49.out).mono ?_);(case side1 => exact kc_ (Kd.C_below HR0_0.out HB.out));(case side2 => exact HC0_0.out);(case side3 => exact kc_ (Kd.R_reads' HO154.out).2.2);(case side4 => exact (Kd.R_reads' HO154.out).2.1);rintro e w86 ⟨rfl,hb⟩;have n0_:=am_ (Kd.R_below (kr_ HO154.out) hb);have n1_:=am_ (blk_below (g:=gb142) (o:=.cells #[.slice A0_0 l0_0.length c0_0] 88 (0,0)) bk_ hb);have n2_:=am_ (blk_below (g:=gb143) (o:=.cells #[.int .i64 a1_0,.int .i64 a1_1,.int .i64 a1_2,.int .i64 a1_3,.int .i64 a1_4,.slice A1_5 l1_5.length c1_5,.slice A1_6 l1_6.length c1_6,.slice A1_7 l1_7.length c1_7] 57 (0,0)) bk_ hb);have n3_:=am_ (below_step bl_ hb);clear HO154;clear BK142;clear BK143;clear HB;have HO154:=n0_;have BK142:=n1_;have BK143:=n2_;have HB:=n3_;clear n0_ n1_ n2_ n3_;(try clear hb);(try clear hb2);(try clear hk);(try clear hi);obtain ⟨hcz87_0,hcz87_1,hcz87_2,hcz87_3,hcz87_4,hcz87_5,hcz87_6,hcz87_7,hfz87_0,hfz87_1,hfz87_2,hfz87_3,hfz87_4,hfz87_5,hfz87_6,hfz87_7⟩:=blk8_ BK143.out)|(go_at_call 60;(with_reducible refine (class_within.calls a1_3 64 true _ A51.out).mono ?_);rintro e w' ⟨rfl,⟨nd,rfl⟩⟩)|(go_at_call 60;(with_reducible refine (class_within.calls a1_4 64 true _ A53.out).mono ?_);rintro e w' ⟨rfl,⟨nd,rfl⟩⟩)|(go_at_call 60;(with_reducible refine (class_within.calls (wrap64 ((l1_5.length:Int) - 1)) 4095 true _ A55.out).mono ?_);rintro e w' ⟨rfl,⟨nd,rfl⟩⟩;have hcz88_0:w86.cell? ⟨gb142,0,none⟩=some (.slice A0_0 l0_0.length c0_0):=(blk_cell BK142.out 0).trans rfl;have hfz88_0:=blk_frozen BK142.out 0)|(go_at_call 61;(with_reducible refine (class_place.calls k1 _ _ l0_0 (⟨#[67,111,100,101]⟩:ByteArray) t159 _ ?side1 ?side2 A58.out).mono ?_);(case side1 => exact kc_ (Kd.C_below HR0_0.out bl_));(case side2 => exact HC0_0.out);rintro e w' ⟨rfl,⟨nd,rfl⟩⟩))
   go_ret
   exact ⟨ew_,bl_⟩
  rw [if_pos c59] at H
  have c59b0:decide (0 < t159)=true:=decide_eq_true c59
  clear c59
  by_cases c60:(l1_7.length:Int)=0
  ·rw [if_pos c60] at H
   have c60b0:((l1_7.length:Int)==0)=true:=beq_iff_eq.mpr c60
   have c60b1:((l1_7.length:Int) != 0)=false:=bne_eq_false_iff_eq.mpr c60
   clear c60
   obtain rfl:=Option.some.inj H
   have hnb61:=NB143_142.out
   have hnc61:=NB142_143.out
   obtain ⟨hcz62_0,hcz62_1,hcz62_2,hcz62_3,hcz62_4,hcz62_5,hcz62_6,hcz62_7,hfz62_0,hfz62_1,hfz62_2,hfz62_3,hfz62_4,hfz62_5,hfz62_6,hfz62_7⟩:=blk8_ BK143.out
   go_wp2_with (first|((with_reducible refine gate_callee (f:=39) rfl ?_);refine goesL_ (some 58) rfl rfl Tryz.func39 (by kernel_rfl) rfl #[.int .i64 a1_0] rfl (by (try simp only [List.map_toArray,List.map_cons,List.map_nil]);first|done|rfl|(simp only [List.length_drop,List.length_take];rfl)) ?_;(with_reducible refine (class_flags.calls a1_0 true _ A47.out).mono ?_);rintro e w' ⟨rfl,⟨nd,rfl⟩⟩;refine ⟨_,rfl,?_⟩;have hcz63_0:wr.cell? ⟨gb142,0,none⟩=some (.slice A0_0 l0_0.length c0_0):=(blk_cell BK142.out 0).trans rfl;have hfz63_0:=blk_frozen BK142.out 0)|((with_reducible refine gate_dst (N:=65) rfl ?_);(try (refine gate_guard (by rfl) ?_;dsimp only));refine Kd.R_lit (Kd.int .i64) _ 3 ?hg (N:=65) ?hd (xs:=([a1_1,a1_2]:List Int)) (inner:=[.int .i64 a1_1,.int .i64 a1_2]) (ok:=fun _ => True) (okp:=fun _ => True) ?hr ?hp (fun _ hk => hk) trivial (Below.refl _ _) (Nat.le_refl _) (by simp) ?_;(case hd => rfl);(case hg => rfl);(case hr => first|(go_simp;done)|(go_simp;rfl));(case hp => exact (Reps.one (show Kd.M (Kd.int .i64) _ _ _ a1_1 [.int .i64 a1_1] from rfl) (Reps.one (show Kd.M (Kd.int .i64) _ _ _ a1_2 [.int .i64 a1_2] from rfl) (Reps.none _ _))));intro v153 w64 ho65 hb hg_ hnew_;clear hg_ hnew_;(first|rw [← Ny152.out] at ho65|(simp only [Int.reduceToNat] at ho65;rw [← Ny152.out] at ho65));have n0_:=am_ (Kd.R_lower ho65 (below_size bl_));have n1_:=am_ (blk_below (g:=gb142) (o:=.cells #[.slice A0_0 l0_0.length c0_0] 88 (0,0)) bk_ hb);have n2_:=am_ (blk_below (g:=gb143) (o:=.cells #[.int .i64 a1_0,.int .i64 a1_1,.int .i64 a1_2,.int .i64 a1_3,.int .i64 a1_4,.slice A1_5 l1_5.length c1_5,.slice A1_6 l1_6.length c1_6,.slice A1_7 l1_7.length c1_7] 57 (0,0)) bk_ hb);have n3_:=am_ (below_step bl_ hb);clear BK142;clear BK143;clear HB;have HO154:=n0_;have BK142:=n1_;have BK143:=n2_;have HB:=n3_;clear n0_ n1_ n2_ n3_;clear hb ho65;obtain ⟨Ao66,co66,eo66⟩:=Kd.R_slice HO154.out;subst eo66)|(go_at_call 40;(with_reducible refine (class_rules_text.calls k1 _ _ l0_0 _ _ y152 true _ ?side1 ?side2 ?side3 ?side4 A49.out).mono ?_);(case side1 => exact kc_ (Kd.C_below HR0_0.out HB.out));(case side2 => exact HC0_0.out);(case side3 => exact kc_ (Kd.R_reads' HO154.out).2.2);(case side4 => exact (Kd.R_reads' HO154.out).2.1);rintro e w67 ⟨rfl,hb⟩;have n0_:=am_ (Kd.R_below (kr_ HO154.out) hb);have n1_:=am_ (blk_below (g:=gb142) (o:=.cells #[.slice A0_0 l0_0.length c0_0] 88 (0,0)) bk_ hb);have n2_:=am_ (blk_below (g:=gb143) (o:=.cells #[.int .i64 a1_0,.int .i64 a1_1,.int .i64 a1_2,.int .i64 a1_3,.int .i64 a1_4,.slice A1_5 l1_5.length c1_5,.slice A1_6 l1_6.length c1_6,.slice A1_7 l1_7.length c1_7] 57 (0,0)) bk_ hb);have n3_:=am_ (below_step bl_ hb);clear HO154;clear BK142;clear BK143;clear HB;have HO154:=n0_;have BK142:=n1_;have BK143:=n2_;have HB:=n3_;clear n0_ n1_ n2_ n3_;(try clear hb);(try clear hb2);(try clear hk);(try clear hi);obtain ⟨hcz68_0,hcz68_1,hcz68_2,hcz68_3,hcz68_4,hcz68_5,hcz68_6,hcz68_7,hfz68_0,hfz68_1,hfz68_2,hfz68_3,hfz68_4,hfz68_5,hfz68_6,hfz68_7⟩:=blk8_ BK143.out)|(go_at_call 60;(with_reducible refine (class_within.calls a1_3 64 true _ A51.out).mono ?_);rintro e w' ⟨rfl,⟨nd,rfl⟩⟩)|(go_at_call 60;(with_reducible refine (class_within.calls a1_4 64 true _ A53.out).mono ?_);rintro e w' ⟨rfl,⟨nd,rfl⟩⟩)|(go_at_call 60;(with_reducible refine (class_within.calls (wrap64 ((l1_5.length:Int) - 1)) 4095 true _ A55.out).mono ?_);rintro e w' ⟨rfl,⟨nd,rfl⟩⟩;have hcz69_0:w67.cell? ⟨gb142,0,none⟩=some (.slice A0_0 l0_0.length c0_0):=(blk_cell BK142.out 0).trans rfl;have hfz69_0:=blk_frozen BK142.out 0)|(go_at_call 61;(with_reducible refine (class_place.calls k1 _ _ l0_0 (⟨#[67,111,100,101]⟩:ByteArray) t159 _ ?side1 ?side2 A58.out).mono ?_);(case side1 => exact kc_ (Kd.C_below HR0_0.out bl_));(case side2 => exact HC0_0.out);rintro e w' ⟨rfl,⟨nd,rfl⟩⟩))
   go_ret
   exact ⟨ew_,bl_⟩
  rw [if_neg c60] at H
  have c60b0:((l1_7.length:Int)==0)=false:=beq_eq_false_iff_ne.mpr c60
  have c60b1:((l1_7.length:Int) != 0)=true:=bne_iff_ne.mpr c60
  have c60b2:¬ (l1_7=[]):=fun h_ => c60 (by rw [h_];rfl)
  replace H:=Option.bind_eq_some_iff.mp H
  obtain ⟨t160,A700,H⟩:=H
  try dsimp only at H
  have A70:=am_ A700
  clear A700
  obtain rfl:=Option.some.inj H
  have hnb71:=NB143_142.out
  have hnc71:=NB142_143.out
  obtain ⟨hcz72_0,hcz72_1,hcz72_2,hcz72_3,hcz72_4,hcz72_5,hcz72_6,hcz72_7,hfz72_0,hfz72_1,hfz72_2,hfz72_3,hfz72_4,hfz72_5,hfz72_6,hfz72_7⟩:=blk8_ BK143.out
  go_wp2_with (first|((with_reducible refine gate_callee (f:=39) rfl ?_);refine goesL_ (some 58) rfl rfl Tryz.func39 (by kernel_rfl) rfl #[.int .i64 a1_0] rfl (by (try simp only [List.map_toArray,List.map_cons,List.map_nil]);first|done|rfl|(simp only [List.length_drop,List.length_take];rfl)) ?_;(with_reducible refine (class_flags.calls a1_0 true _ A47.out).mono ?_);rintro e w' ⟨rfl,⟨nd,rfl⟩⟩;refine ⟨_,rfl,?_⟩;have hcz73_0:wr.cell? ⟨gb142,0,none⟩=some (.slice A0_0 l0_0.length c0_0):=(blk_cell BK142.out 0).trans rfl;have hfz73_0:=blk_frozen BK142.out 0)|((with_reducible refine gate_dst (N:=65) rfl ?_);(try (refine gate_guard (by rfl) ?_;dsimp only));refine Kd.R_lit (Kd.int .i64) _ 3 ?hg (N:=65) ?hd (xs:=([a1_1,a1_2]:List Int)) (inner:=[.int .i64 a1_1,.int .i64 a1_2]) (ok:=fun _ => True) (okp:=fun _ => True) ?hr ?hp (fun _ hk => hk) trivial (Below.refl _ _) (Nat.le_refl _) (by simp) ?_;(case hd => rfl);(case hg => rfl);(case hr => first|(go_simp;done)|(go_simp;rfl));(case hp => exact (Reps.one (show Kd.M (Kd.int .i64) _ _ _ a1_1 [.int .i64 a1_1] from rfl) (Reps.one (show Kd.M (Kd.int .i64) _ _ _ a1_2 [.int .i64 a1_2] from rfl) (Reps.none _ _))));intro v153 w74 ho75 hb hg_ hnew_;clear hg_ hnew_;(first|rw [← Ny152.out] at ho75|(simp only [Int.reduceToNat] at ho75;rw [← Ny152.out] at ho75));have n0_:=am_ (Kd.R_lower ho75 (below_size bl_));have n1_:=am_ (blk_below (g:=gb142) (o:=.cells #[.slice A0_0 l0_0.length c0_0] 88 (0,0)) bk_ hb);have n2_:=am_ (blk_below (g:=gb143) (o:=.cells #[.int .i64 a1_0,.int .i64 a1_1,.int .i64 a1_2,.int .i64 a1_3,.int .i64 a1_4,.slice A1_5 l1_5.length c1_5,.slice A1_6 l1_6.length c1_6,.slice A1_7 l1_7.length c1_7] 57 (0,0)) bk_ hb);have n3_:=am_ (below_step bl_ hb);clear BK142;clear BK143;clear HB;have HO154:=n0_;have BK142:=n1_;have BK143:=n2_;have HB:=n3_;clear n0_ n1_ n2_ n3_;clear hb ho75;obtain ⟨Ao76,co76,eo76⟩:=Kd.R_slice HO154.out;subst eo76)|(go_at_call 40;(with_reducible refine (class_rules_text.calls k1 _ _ l0_0 _ _ y152 true _ ?side1 ?side2 ?side3 ?side4 A49.out).mono ?_);(case side1 => exact kc_ (Kd.C_below HR0_0.out HB.out));(case side2 => exact HC0_0.out);(case side3 => exact kc_ (Kd.R_reads' HO154.out).2.2);(case side4 => exact (Kd.R_reads' HO154.out).2.1);rintro e w77 ⟨rfl,hb⟩;have n0_:=am_ (Kd.R_below (kr_ HO154.out) hb);have n1_:=am_ (blk_below (g:=gb142) (o:=.cells #[.slice A0_0 l0_0.length c0_0] 88 (0,0)) bk_ hb);have n2_:=am_ (blk_below (g:=gb143) (o:=.cells #[.int .i64 a1_0,.int .i64 a1_1,.int .i64 a1_2,.int .i64 a1_3,.int .i64 a1_4,.slice A1_5 l1_5.length c1_5,.slice A1_6 l1_6.length c1_6,.slice A1_7 l1_7.length c1_7] 57 (0,0)) bk_ hb);have n3_:=am_ (below_step bl_ hb);clear HO154;clear BK142;clear BK143;clear HB;have HO154:=n0_;have BK142:=n1_;have BK143:=n2_;have HB:=n3_;clear n0_ n1_ n2_ n3_;(try clear hb);(try clear hb2);(try clear hk);(try clear hi);obtain ⟨hcz78_0,hcz78_1,hcz78_2,hcz78_3,hcz78_4,hcz78_5,hcz78_6,hcz78_7,hfz78_0,hfz78_1,hfz78_2,hfz78_3,hfz78_4,hfz78_5,hfz78_6,hfz78_7⟩:=blk8_ BK143.out)|(go_at_call 60;(with_reducible refine (class_within.calls a1_3 64 true _ A51.out).mono ?_);rintro e w' ⟨rfl,⟨nd,rfl⟩⟩)|(go_at_call 60;(with_reducible refine (class_within.calls a1_4 64 true _ A53.out).mono ?_);rintro e w' ⟨rfl,⟨nd,rfl⟩⟩)|(go_at_call 60;(with_reducible refine (class_within.calls (wrap64 ((l1_5.length:Int) - 1)) 4095 true _ A55.out).mono ?_);rintro e w' ⟨rfl,⟨nd,rfl⟩⟩;have hcz79_0:w77.cell? ⟨gb142,0,none⟩=some (.slice A0_0 l0_0.length c0_0):=(blk_cell BK142.out 0).trans rfl;have hfz79_0:=blk_frozen BK142.out 0)|(go_at_call 61;(with_reducible refine (class_place.calls k1 _ _ l0_0 (⟨#[67,111,100,101]⟩:ByteArray) t159 _ ?side1 ?side2 A58.out).mono ?_);(case side1 => exact kc_ (Kd.C_below HR0_0.out bl_));(case side2 => exact HC0_0.out);rintro e w' ⟨rfl,⟨nd,rfl⟩⟩)|(go_at_call 61;(with_reducible refine (class_place.calls k1 _ _ l0_0 (⟨#[83,116,97,99,107,77,97,112,84,97,98,108,101]⟩:ByteArray) t160 _ ?side1 ?side2 A70.out).mono ?_);(case side1 => exact kc_ (Kd.C_below HR0_0.out bl_));(case side2 => exact HC0_0.out);rintro e w' ⟨rfl,⟨nd,rfl⟩⟩))
  go_ret
  exact ⟨ew_,bl_⟩
end Go.Proofs.YtamdobdmjcgmoaaGreatDoor.Px
namespace Go.Proofs.YtamdobdmjcgmoaaGreatDoor.Px
open Go.RowKit Go.Proofs.YtamdobdmjcgmoaaGreatDoorW.PrintWords Go.Proofs.YtamdobdmjcgmoaaGreatDoorW.PrintLast Go.Proofs.YtamdobdmjcgmoaaGreatDoorW.PrintMore
attribute [local go_sem] max2_int min2_int max_two min_two max_three min_three max_four min_four
set_option linter.unusedVariables false
set_option linter.unusedSimpArgs false
mutual
def class_Check.l0:Nat→Int→List (S57)→Int→Int→List (S61)→Int→Int→List (S54)→List (S57)→Option (Int)
 | 0,_,_,_,_,_,_,_,_,_ => none
 | k + 1,x4,x27,x28,x29,x162000,x162001,x162002,x162003,x162004 => if x29 < x28 then (if 0≤x29 then (if x29 < (x27.length:Int) then (class_Check.l0 k (mx x4 (((rd_T57 x27 x29).f6).length:Int)) x27 x28 (wrap64 (x29 + 1)) x162000 x162001 x162002 x162003 x162004) else (none)) else (none)) else (if x4 > 64 then (some 2) else ((class_rules_class.f k x162000 (([x162001,x162002]:List Int))).bind fun t169 => (class_Check.l1 k t169 x162003 (x162003.length:Int) 0 x162000 x162001 x162002 x162003 x162004 x162000)))
def class_Check.l1:Nat→Bool→List (S54)→Int→Int→List (S61)→Int→Int→List (S54)→List (S57)→List (S61)→Option (Int)
 | 0,_,_,_,_,_,_,_,_,_,_ => none
 | k + 1,x8,x52,x53,x54,x162000,x162001,x162002,x162003,x162004,x166000 => if x54 < x53 then (if 0≤x54 then (if x54 < (x52.length:Int) then (if x8=true then ((class_flags.f ((rd_T54 x52 x54).f0)).bind fun t172 => (if t172=true then ((class_rules_text.f k x166000 (([(rd_T54 x52 x54).f1,(rd_T54 x52 x54).f2]:List Int))).bind fun t176 => (class_Check.l1 k t176 x52 x53 (wrap64 (x54 + 1)) x162000 x162001 x162002 x162003 x162004 x166000)) else (class_Check.l1 k false x52 x53 (wrap64 (x54 + 1)) x162000 x162001 x162002 x162003 x162004 x166000))) else (class_Check.l1 k false x52 x53 (wrap64 (x54 + 1)) x162000 x162001 x162002 x162003 x162004 x166000)) else (none)) else (none)) else (class_Check.l2 k x8 x162004 (x162004.length:Int) 0 x166000)
def class_Check.l2:Nat→Bool→List (S57)→Int→Int→List (S61)→Option (Int)
 | 0,_,_,_,_,_ => none
 | k + 1,x8,x75,x76,x77,x166000 => if x77 < x76 then (if 0≤x77 then (if x77 < (x75.length:Int) then (if x8=true then ((class_rules_method.f k x166000 ((rd_T57 x75 x77).f0) ((rd_T57 x75 x77).f1) ((rd_T57 x75 x77).f2) ((rd_T57 x75 x77).f3) ((rd_T57 x75 x77).f4) ((rd_T57 x75 x77).f5) ((rd_T57 x75 x77).f6) ((rd_T57 x75 x77).f7)).bind fun t179 => (class_Check.l2 k t179 x75 x76 (wrap64 (x77 + 1)) x166000)) else (class_Check.l2 k false x75 x76 (wrap64 (x77 + 1)) x166000)) else (none)) else (none)) else (if x8=true then (some 0) else (some 50))
end
def class_Check.f (k:Nat) (l0_0:List (S61)) (a0_1:Int) (a0_2:Int) (l0_3:List (S54)) (l0_4:List (S57)):Option (Int):=(pool_Check.f k l0_0).bind fun t162 => (if t162=0 then (class_Check.l0 k (mx (l0_3.length:Int) (l0_4.length:Int)) l0_4 (l0_4.length:Int) 0 l0_0 a0_1 a0_2 l0_3 l0_4) else (some t162))
set_option maxHeartbeats 80000000 in
set_option maxRecDepth 100000 in
theorem class_Check.calls (k:Nat) (A0_0:Option Addr) (c0_0:Nat) (l0_0:List (S61)) (a0_1:Int) (a0_2:Int) (A0_3:Option Addr) (c0_3:Nat) (l0_3:List (S54)) (A0_4:Option Addr) (c0_4:Nat) (l0_4:List (S57)) (r:Int) (w:World) (hG:Aside0 (GG w)) (hr0_0:Kd.C k61 w A0_0 l0_0.length l0_0) (hc0_0:l0_0.length≤c0_0) (hr0_3:Kd.C k54 w A0_3 l0_3.length l0_3) (hc0_3:l0_3.length≤c0_3) (hr0_4:Kd.C k57 w A0_4 l0_4.length l0_4) (hc0_4:l0_4.length≤c0_4) (h:class_Check.f k l0_0 a0_1 a0_2 l0_3 l0_4=some r) :
  Calls Tryz.prog 18 #[.agg #[.slice A0_0 l0_0.length c0_0,.int .i64 a0_1,.int .i64 a0_2,.slice A0_3 l0_3.length c0_3,.slice A0_4 l0_4.length c0_4]] w fun e w' => e=.returned (.int .i64 r)∧Below w.heap.size w w':=by
 have hu27:=Tryz.underlying27
 have hu57:=Tryz.underlying57
 have hu88:=Tryz.underlying88
 have hu54:=Tryz.underlying54
 have HR0_0:=am_ hr0_0
 have HC0_0:=am_ hc0_0
 clear hr0_0 hc0_0
 have HR0_3:=am_ hr0_3
 have HC0_3:=am_ hc0_3
 clear hr0_3 hc0_3
 have HR0_4:=am_ hr0_4
 have HC0_4:=am_ hc0_4
 clear hr0_4 hc0_4
 have HB:=am_ (Below.refl w.heap.size w)
 have H:((pool_Check.f k l0_0).bind fun t162 => (if t162=0 then (class_Check.l0 k (mx (l0_3.length:Int) (l0_4.length:Int)) l0_4 (l0_4.length:Int) 0 l0_0 a0_1 a0_2 l0_3 l0_4) else (some t162)))=some r:=h
 clear h
 replace H:=Option.bind_eq_some_iff.mp H
 obtain ⟨t162,A20,H⟩:=H
 try dsimp only at H
 have A2:=am_ A20
 clear A20
 by_cases c3:t162=0
 rotate_left
 ·rw [if_neg c3] at H
  have c3b0:(t162==0)=false:=beq_eq_false_iff_ne.mpr c3
  have c3b1:(t162 != 0)=true:=bne_iff_ne.mpr c3
  obtain rfl:=Option.some.inj H
  go_enter Tryz.func18,Tryz.ntmps18
  go_wp2_with (first|((with_reducible refine gate_dst (N:=1) rfl ?_);(try (refine gate_guard (by rfl) ?_;dsimp only));refine box_event ?hg (N:=1) ?hd (cs:=#[.slice A0_0 l0_0.length c0_0,.int .i64 a0_1,.int .i64 a0_2,.slice A0_3 l0_3.length c0_3,.slice A0_4 l0_4.length c0_4]) (t:=27) ?hr ?_;(case hd => rfl);(case hg => rfl);(case hr => first|(go_simp;done)|(go_simp;rfl));intro gb161 hg w77 hbox hb;have n0_:=am_ (below_step bl_ hb);have n1_:=am_ (hbox);have n2_:=am_ ((by rw [hg];exact (below_size bl_):w.heap.size≤gb161));have n3_:=am_ ((by rw [hg];exact (below_size bl_):w.heap.size≤gb161));clear HB;have HB:=n0_;have BK161:=n1_;have GW161:=n2_;have GE161:=n3_;clear n0_ n1_ n2_ n3_;clear hb hbox hg;obtain ⟨hcz78_0,hcz78_1,hcz78_2,hcz78_3,hcz78_4,hfz78_0,hfz78_1,hfz78_2,hfz78_3,hfz78_4⟩:=blk5_ BK161.out)|(refine callA_ (f:=37) (some 15) Tryz.func37 #[.slice A0_0 l0_0.length c0_0] ?_;(with_reducible refine (pool_Check.calls k _ _ l0_0 t162 _ ?side3 ?side1 ?side2 A2.out).mono ?_);(case side1 => exact kc_ (Kd.C_below HR0_0.out HB.out));(case side2 => exact HC0_0.out);(case side3 => exact ⟨GG.below hG.out bl_⟩);rintro e w79 ⟨rfl,hb⟩;refine ⟨_,rfl,?_⟩;have n0_:=am_ (blk_below (g:=gb161) (o:=.cells #[.slice A0_0 l0_0.length c0_0,.int .i64 a0_1,.int .i64 a0_2,.slice A0_3 l0_3.length c0_3,.slice A0_4 l0_4.length c0_4] 27 (0,0)) bk_ hb);have n1_:=am_ (below_step bl_ hb);clear BK161;clear HB;have BK161:=n0_;have HB:=n1_;clear n0_ n1_;(try clear hb);(try clear hb2);(try clear hk);(try clear hi)))
  go_ret
  exact ⟨ew_,bl_⟩
 rw [if_pos c3] at H
 have c3b0:(t162==0)=true:=beq_iff_eq.mpr c3
 have c3b1:(t162 != 0)=false:=bne_eq_false_iff_eq.mpr c3
 clear c3
 obtain ⟨ji4,hji4⟩:∃ j_:Int,(mx (l0_3.length:Int) (l0_4.length:Int))=j_:=⟨_,rfl⟩
 replace H:(class_Check.l0 k ji4 l0_4 (l0_4.length:Int) 0 l0_0 a0_1 a0_2 l0_3 l0_4)=some r:=by first|(rw [hji4] at H;exact H)|(simp only [hji4] at H ⊢;exact H)
 (try rw [hji4] at A2)
 (try (have hji4l:0≤ji4:=by (rw [← hji4];unfold mx;(repeat' split) <;> omega)))
 (try (have hji4m:0≤ji4:=by omega))
 have hji4_:(if (l0_3.length:Int) < (l0_4.length:Int) then (l0_4.length:Int) else (l0_3.length:Int))=ji4:=hji4
 have hji4n_:(if l0_3.length < l0_4.length then (l0_4.length:Int) else (l0_3.length:Int))=ji4:=by (rw [← hji4_];(repeat' split) <;> first|rfl|omega)
 have H':=am_ H
 clear H
 go_enter Tryz.func18,Tryz.ntmps18
 go_wp2_with (first|((with_reducible refine gate_dst (N:=1) rfl ?_);(try (refine gate_guard (by rfl) ?_;dsimp only));refine box_event ?hg (N:=1) ?hd (cs:=#[.slice A0_0 l0_0.length c0_0,.int .i64 a0_1,.int .i64 a0_2,.slice A0_3 l0_3.length c0_3,.slice A0_4 l0_4.length c0_4]) (t:=27) ?hr ?_;(case hd => rfl);(case hg => rfl);(case hr => first|(go_simp;done)|(go_simp;rfl));intro gb161 hg w5 hbox hb;have n0_:=am_ (below_step bl_ hb);have n1_:=am_ (hbox);have n2_:=am_ ((by rw [hg];exact (below_size bl_):w.heap.size≤gb161));have n3_:=am_ ((by rw [hg];exact (below_size bl_):w.heap.size≤gb161));clear HB;have HB:=n0_;have BK161:=n1_;have GW161:=n2_;have GE161:=n3_;clear n0_ n1_ n2_ n3_;clear hb hbox hg;obtain ⟨hcz6_0,hcz6_1,hcz6_2,hcz6_3,hcz6_4,hfz6_0,hfz6_1,hfz6_2,hfz6_3,hfz6_4⟩:=blk5_ BK161.out)|(refine callA_ (f:=37) (some 15) Tryz.func37 #[.slice A0_0 l0_0.length c0_0] ?_;(with_reducible refine (pool_Check.calls k _ _ l0_0 t162 _ ?side3 ?side1 ?side2 A2.out).mono ?_);(case side1 => exact kc_ (Kd.C_below HR0_0.out HB.out));(case side2 => exact HC0_0.out);(case side3 => exact ⟨GG.below hG.out bl_⟩);rintro e w7 ⟨rfl,hb⟩;refine ⟨_,rfl,?_⟩;have n0_:=am_ (blk_below (g:=gb161) (o:=.cells #[.slice A0_0 l0_0.length c0_0,.int .i64 a0_1,.int .i64 a0_2,.slice A0_3 l0_3.length c0_3,.slice A0_4 l0_4.length c0_4] 27 (0,0)) bk_ hb);have n1_:=am_ (below_step bl_ hb);clear BK161;clear HB;have BK161:=n0_;have HB:=n1_;clear n0_ n1_;(try clear hb);(try clear hb2);(try clear hk);(try clear hi);obtain ⟨hcz8_0,hcz8_1,hcz8_2,hcz8_3,hcz8_4,hfz8_0,hfz8_1,hfz8_2,hfz8_3,hfz8_4⟩:=blk5_ BK161.out))
 go_loopg [4,29] k (fun kq v4 v29 w' => ∃ (x4_1:Int) (x29_1:Int),v4=.int .i64 x4_1∧v29=.int .i64 x29_1∧Aside0 (class_Check.l0 kq x4_1 l0_4 (l0_4.length:Int) x29_1 l0_0 a0_1 a0_2 l0_3 l0_4=some r)∧Aside0 (kq≤k)∧Aside0 (w'.heap[gb161]?=some (.cells #[(.slice A0_0 l0_0.length c0_0),.int .i64 a0_1,.int .i64 a0_2,(.slice A0_3 l0_3.length c0_3),(.slice A0_4 l0_4.length c0_4)] 27 (0,0)))∧Aside0 (Below w.heap.size w w'))
 case atStart => exact ⟨(ji4),(0),(by first|rfl|(simp;done)|(simp only [← hji4] <;> (first|rfl|simp))|(simp [*];done)),r3_,H',⟨Nat.le_refl _⟩,⟨bk_⟩,⟨bl_⟩⟩
 clear H'
 try clear c3;try clear c3b0;try clear c3b1;try clear hcz6_0;try clear hcz6_1;try clear hcz6_2;try clear hcz6_3;try clear hcz6_4;try clear hcz8_0;try clear hcz8_1;try clear hcz8_2;try clear hcz8_3;try clear hcz8_4;try clear hfz6_0;try clear hfz6_1;try clear hfz6_2;try clear hfz6_3;try clear hfz6_4;try clear hfz8_0;try clear hfz8_1;try clear hfz8_2;try clear hfz8_3;try clear hfz8_4
 obtain ⟨x4_1,x29_1,rfl,rfl,HA,HK1,BK161,HB⟩:=hrel
 cases gk with
 | zero => exact absurd HA.out (by simp [class_Check.l0])
 | succ k1 =>
  have H:=HA.out
  clear HA
  simp only [class_Check.l0] at H
  by_cases c9:x29_1 < (l0_4.length:Int)
  ·rw [if_pos c9] at H
   have c9b0:decide (x29_1 < (l0_4.length:Int))=true:=decide_eq_true c9
   clear c9
   by_cases c10:0≤x29_1
   rotate_left
   ·rw [if_neg c10] at H
    exact absurd H (by simp)
   rw [if_pos c10] at H
   have c10b0:decide (0≤x29_1)=true:=decide_eq_true c10
   clear c10
   by_cases c11:x29_1 < (l0_4.length:Int)
   rotate_left
   ·rw [if_neg c11] at H
    exact absurd H (by simp)
   rw [if_pos c11] at H
   have c11b0:decide (x29_1 < (l0_4.length:Int))=true:=decide_eq_true c11
   clear c11
   obtain ⟨ji12,hji12⟩:∃ j_:Int,(mx x4_1 (((rd_T57 l0_4 x29_1).f6).length:Int))=j_:=⟨_,rfl⟩
   replace H:(class_Check.l0 k1 ji12 l0_4 (l0_4.length:Int) (wrap64 (x29_1 + 1)) l0_0 a0_1 a0_2 l0_3 l0_4)=some r:=by first|(rw [hji12] at H;exact H)|(simp only [hji12] at H ⊢;exact H)
   have hji12_:(if x4_1 < (((rd_T57 l0_4 x29_1).f6).length:Int) then (((rd_T57 l0_4 x29_1).f6).length:Int) else x4_1)=ji12:=hji12
   have H':=am_ H
   clear H
   have p163:0≤(x29_1:Int):=od_
   have q163:x29_1 < (l0_4.length:Int):=od_
   obtain ⟨ad163,A163_5,c163_5,A163_6,c163_6,A163_7,c163_7,e163,hx163_0,hx163_1,hx163_2,hx163_3,hx163_4,hx163_5,hx163_6,hx163_7,hl163_5,hi163_5,hl163_6,hi163_6,hl163_7,hi163_7⟩:=at_T57 HR0_4.out x29_1 p163 q163
   cases e163
   replace hx163_0:=hb_ HB hx163_0
   replace hx163_1:=hb_ HB hx163_1
   replace hx163_2:=hb_ HB hx163_2
   replace hx163_3:=hb_ HB hx163_3
   replace hx163_4:=hb_ HB hx163_4
   replace hx163_5:=hb_ HB hx163_5
   replace hx163_6:=hb_ HB hx163_6
   replace hx163_7:=hb_ HB hx163_7
   have HR163_5:=am_ hi163_5
   have HC163_5:=am_ hl163_5
   clear hi163_5 hl163_5
   have HR163_6:=am_ hi163_6
   have HC163_6:=am_ hl163_6
   clear hi163_6 hl163_6
   have HR163_7:=am_ hi163_7
   have HC163_7:=am_ hl163_7
   clear hi163_7 hl163_7
   replace p163:=eq_true p163
   replace q163:=eq_true q163
   go_wp2_with (first|((with_reducible refine gate_dst (N:=6) rfl ?_);(try (refine gate_guard (by rfl) ?_;dsimp only));refine box_event ?hg (N:=6) ?hd (cs:=#[.int .i64 0,.int .i64 0,.int .i64 0,.int .i64 0,.int .i64 0,.slice none 0 0,.slice none 0 0,.slice none 0 0]) (t:=57) ?hr ?_;(case hd => rfl);(case hg => rfl);(case hr => first|(go_simp;done)|(go_simp;rfl));intro gb164 hg w13 hbox hb;have n0_:=am_ (blk_below (g:=gb161) (o:=.cells #[.slice A0_0 l0_0.length c0_0,.int .i64 a0_1,.int .i64 a0_2,.slice A0_3 l0_3.length c0_3,.slice (some ad163) l0_4.length c0_4] 27 (0,0)) bk_ hb);have n1_:=am_ (below_step bl_ hb);have n2_:=am_ (hbox);have n3_:=am_ ((by rw [hg];exact (below_size bl_):w.heap.size≤gb164));have n4_:=am_ ((by rw [hg];exact (below_size bl_):w.heap.size≤gb164));have n5_:=am_ ((by rw [hg];exact Nat.ne_of_lt (blk_lt (g:=gb161) (o:=.cells #[.slice A0_0 l0_0.length c0_0,.int .i64 a0_1,.int .i64 a0_2,.slice A0_3 l0_3.length c0_3,.slice (some ad163) l0_4.length c0_4] 27 (0,0)) bk_):gb161 ≠ gb164));have n6_:=am_ ((by rw [hg];exact Nat.ne_of_gt (blk_lt (g:=gb161) (o:=.cells #[.slice A0_0 l0_0.length c0_0,.int .i64 a0_1,.int .i64 a0_2,.slice A0_3 l0_3.length c0_3,.slice (some ad163) l0_4.length c0_4] 27 (0,0)) bk_):gb164 ≠ gb161));clear BK161;clear HB;have BK161:=n0_;have HB:=n1_;have BK164:=n2_;have GW164:=n3_;have GE164:=n4_;have NB161_164:=n5_;have NB164_161:=n6_;clear n0_ n1_ n2_ n3_ n4_ n5_ n6_;clear hb hbox hg;have hnb14:=NB164_161.out;have hnc14:=NB161_164.out;obtain ⟨hcz15_0,hcz15_1,hcz15_2,hcz15_3,hcz15_4,hcz15_5,hcz15_6,hcz15_7,hfz15_0,hfz15_1,hfz15_2,hfz15_3,hfz15_4,hfz15_5,hfz15_6,hfz15_7⟩:=blk8_ BK164.out)|((with_reducible refine gate_store (t:=57) (p:=6) rfl ?_);refine store_event (t:=57) (p:=6) (v:=?vo_w16) (w1:=((((((((w13.setCell ⟨gb164,0,none⟩ (.int .i64 ((rd_T57 l0_4 x29_1).f0))).setCell ⟨gb164,1,none⟩ (.int .i64 ((rd_T57 l0_4 x29_1).f1))).setCell ⟨gb164,2,none⟩ (.int .i64 ((rd_T57 l0_4 x29_1).f2))).setCell ⟨gb164,3,none⟩ (.int .i64 ((rd_T57 l0_4 x29_1).f3))).setCell ⟨gb164,4,none⟩ (.int .i64 ((rd_T57 l0_4 x29_1).f4))).setCell ⟨gb164,5,none⟩ (.slice A163_5 ((rd_T57 l0_4 x29_1).f5).length c163_5)).setCell ⟨gb164,6,none⟩ (.slice A163_6 ((rd_T57 l0_4 x29_1).f6).length c163_6)).setCell ⟨gb164,7,none⟩ (.slice A163_7 ((rd_T57 l0_4 x29_1).f7).length c163_7))) ?hg ?ho ?hn ?hr ?_;(case ho => rfl);(case hg => rfl);(case hn => rfl);(case hr => first|(go_simp;done)|(go_simp;rfl));intro w16 hw;have n0_:Aside0 (w16.heap[gb161]?=some (.cells #[.slice A0_0 l0_0.length c0_0,.int .i64 a0_1,.int .i64 a0_2,.slice A0_3 l0_3.length c0_3,.slice (some ad163) l0_4.length c0_4] 27 (0,0))):=⟨(by rw [hw];exact bk_)⟩;have n1_:Aside0 (w16.heap[gb164]?=some (.cells #[.int .i64 ((rd_T57 l0_4 x29_1).f0),.int .i64 ((rd_T57 l0_4 x29_1).f1),.int .i64 ((rd_T57 l0_4 x29_1).f2),.int .i64 ((rd_T57 l0_4 x29_1).f3),.int .i64 ((rd_T57 l0_4 x29_1).f4),.slice A163_5 ((rd_T57 l0_4 x29_1).f5).length c163_5,.slice A163_6 ((rd_T57 l0_4 x29_1).f6).length c163_6,.slice A163_7 ((rd_T57 l0_4 x29_1).f7).length c163_7] 57 (0,0))):=⟨(by rw [hw];exact (by (with_reducible repeat (first|refine blk_drewN ?_ _|refine blk_drew ?_|refine blk_alloc ?_ _));refine blk_put (cs:=#[.int .i64 ((rd_T57 l0_4 x29_1).f0),.int .i64 ((rd_T57 l0_4 x29_1).f1),.int .i64 ((rd_T57 l0_4 x29_1).f2),.int .i64 ((rd_T57 l0_4 x29_1).f3),.int .i64 ((rd_T57 l0_4 x29_1).f4),.slice A163_5 ((rd_T57 l0_4 x29_1).f5).length c163_5,.slice A163_6 ((rd_T57 l0_4 x29_1).f6).length c163_6,.slice none 0 0]) ?_ 7 _ rfl;(with_reducible repeat (first|refine blk_drewN ?_ _|refine blk_drew ?_|refine blk_alloc ?_ _));refine blk_put (cs:=#[.int .i64 ((rd_T57 l0_4 x29_1).f0),.int .i64 ((rd_T57 l0_4 x29_1).f1),.int .i64 ((rd_T57 l0_4 x29_1).f2),.int .i64 ((rd_T57 l0_4 x29_1).f3),.int .i64 ((rd_T57 l0_4 x29_1).f4),.slice A163_5 ((rd_T57 l0_4 x29_1).f5).length c163_5,.slice none 0 0,.slice none 0 0]) ?_ 6 _ rfl;(with_reducible repeat (first|refine blk_drewN ?_ _|refine blk_drew ?_|refine blk_alloc ?_ _));refine blk_put (cs:=#[.int .i64 ((rd_T57 l0_4 x29_1).f0),.int .i64 ((rd_T57 l0_4 x29_1).f1),.int .i64 ((rd_T57 l0_4 x29_1).f2),.int .i64 ((rd_T57 l0_4 x29_1).f3),.int .i64 ((rd_T57 l0_4 x29_1).f4),.slice none 0 0,.slice none 0 0,.slice none 0 0]) ?_ 5 _ rfl;(with_reducible repeat (first|refine blk_drewN ?_ _|refine blk_drew ?_|refine blk_alloc ?_ _));refine blk_put (cs:=#[.int .i64 ((rd_T57 l0_4 x29_1).f0),.int .i64 ((rd_T57 l0_4 x29_1).f1),.int .i64 ((rd_T57 l0_4 x29_1).f2),.int .i64 ((rd_T57 l0_4 x29_1).f3),.int .i64 0,.slice none 0 0,.slice none 0 0,.slice none 0 0]) ?_ 4 _ rfl;(with_reducible repeat (first|refine blk_drewN ?_ _|refine blk_drew ?_|refine blk_alloc ?_ _));refine blk_put (cs:=#[.int .i64 ((rd_T57 l0_4 x29_1).f0),.int .i64 ((rd_T57 l0_4 x29_1).f1),.int .i64 ((rd_T57 l0_4 x29_1).f2),.int .i64 0,.int .i64 0,.slice none 0 0,.slice none 0 0,.slice none 0 0]) ?_ 3 _ rfl;(with_reducible repeat (first|refine blk_drewN ?_ _|refine blk_drew ?_|refine blk_alloc ?_ _));refine blk_put (cs:=#[.int .i64 ((rd_T57 l0_4 x29_1).f0),.int .i64 ((rd_T57 l0_4 x29_1).f1),.int .i64 0,.int .i64 0,.int .i64 0,.slice none 0 0,.slice none 0 0,.slice none 0 0]) ?_ 2 _ rfl;(with_reducible repeat (first|refine blk_drewN ?_ _|refine blk_drew ?_|refine blk_alloc ?_ _));refine blk_put (cs:=#[.int .i64 ((rd_T57 l0_4 x29_1).f0),.int .i64 0,.int .i64 0,.int .i64 0,.int .i64 0,.slice none 0 0,.slice none 0 0,.slice none 0 0]) ?_ 1 _ rfl;(with_reducible repeat (first|refine blk_drewN ?_ _|refine blk_drew ?_|refine blk_alloc ?_ _));refine blk_put (cs:=#[.int .i64 0,.int .i64 0,.int .i64 0,.int .i64 0,.int .i64 0,.slice none 0 0,.slice none 0 0,.slice none 0 0]) ?_ 0 _ rfl;(with_reducible repeat (first|refine blk_drewN ?_ _|refine blk_drew ?_|refine blk_alloc ?_ _));exact BK164.out))⟩;have n2_:Aside0 (Below w.heap.size w w16):=⟨(by rw [hw];exact bl_)⟩;clear hw;clear BK161;clear BK164;clear HB;have BK161:=n0_;have BK164:=n1_;have HB:=n2_;clear n0_ n1_ n2_;obtain ⟨hcz17_0,hcz17_1,hcz17_2,hcz17_3,hcz17_4,hcz17_5,hcz17_6,hcz17_7,hfz17_0,hfz17_1,hfz17_2,hfz17_3,hfz17_4,hfz17_5,hfz17_6,hfz17_7⟩:=blk8_ BK164.out))
   go_roundg k1
   case measure => have:=HK1.out;omega
   case rel => exact ⟨(ji12),(wrap64 (x29_1 + 1)),(by first|rfl|(simp;done)|(simp only [← hji12] <;> (first|rfl|simp))|(simp [*];done)),r3_,H',⟨by have:=HK1.out;omega⟩,⟨bk_⟩,⟨bl_⟩⟩
  rw [if_neg c9] at H
  have c9b0:decide (x29_1 < (l0_4.length:Int))=false:=decide_eq_false c9
  clear c9
  by_cases c18:x4_1 > 64
  ·rw [if_pos c18] at H
   have c18b0:decide (64 < x4_1)=true:=decide_eq_true c18
   clear c18
   obtain rfl:=Option.some.inj H
   go_wp2
   go_ret
   exact ⟨by first|rfl|(simp [errW_none,errW_some] <;> rfl)|(simp only [← hji4];first|rfl|(simp [errW_none,errW_some] <;> rfl))|(simp [*,errW_none,errW_some] <;> rfl),bl_⟩
  rw [if_neg c18] at H
  have c18b0:decide (64 < x4_1)=false:=decide_eq_false c18
  clear c18
  obtain ⟨y166,hy166⟩:∃ y_:List Int,y_=(([a0_1,a0_2]:List Int)):=⟨_,rfl⟩
  replace H:((class_rules_class.f k1 l0_0 y166).bind fun t169 => (class_Check.l1 k1 t169 l0_3 (l0_3.length:Int) 0 l0_0 a0_1 a0_2 l0_3 l0_4 l0_0))=some r:=by first|(rw [hy166];with_reducible exact H)|(have H2_:=(Option.bind_some _ _).symm.trans H;rw [hy166];with_reducible exact H2_)|(have H2_:=(Option.bind_some _ _).symm.trans H;with_reducible exact H2_)|with_reducible exact H|(rw [hy166];exact H)|exact H
  have Ny166:=am_ hy166
  clear hy166
  replace H:=Option.bind_eq_some_iff.mp H
  obtain ⟨t169,A190,H⟩:=H
  try dsimp only at H
  have A19:=am_ A190
  clear A190
  have H':=am_ H
  clear H
  obtain ⟨hcz20_0,hcz20_1,hcz20_2,hcz20_3,hcz20_4,hfz20_0,hfz20_1,hfz20_2,hfz20_3,hfz20_4⟩:=blk5_ BK161.out
  go_wp2_with (first|((with_reducible refine gate_dst (N:=7) rfl ?_);(try (refine gate_guard (by rfl) ?_;dsimp only));refine box_event ?hg (N:=7) ?hd (cs:=#[.slice none 0 0]) (t:=88) ?hr ?_;(case hd => rfl);(case hg => rfl);(case hr => first|(go_simp;done)|(go_simp;rfl));intro gb165 hg w21 hbox hb;have n0_:=am_ (blk_below (g:=gb161) (o:=.cells #[.slice A0_0 l0_0.length c0_0,.int .i64 a0_1,.int .i64 a0_2,.slice A0_3 l0_3.length c0_3,.slice A0_4 l0_4.length c0_4] 27 (0,0)) bk_ hb);have n1_:=am_ (below_step bl_ hb);have n2_:=am_ (hbox);have n3_:=am_ ((by rw [hg];exact (below_size bl_):w.heap.size≤gb165));have n4_:=am_ ((by rw [hg];exact (below_size bl_):w.heap.size≤gb165));have n5_:=am_ ((by rw [hg];exact Nat.ne_of_lt (blk_lt (g:=gb161) (o:=.cells #[.slice A0_0 l0_0.length c0_0,.int .i64 a0_1,.int .i64 a0_2,.slice A0_3 l0_3.length c0_3,.slice A0_4 l0_4.length c0_4] 27 (0,0)) bk_):gb161 ≠ gb165));have n6_:=am_ ((by rw [hg];exact Nat.ne_of_gt (blk_lt (g:=gb161) (o:=.cells #[.slice A0_0 l0_0.length c0_0,.int .i64 a0_1,.int .i64 a0_2,.slice A0_3 l0_3.length c0_3,.slice A0_4 l0_4.length c0_4] 27 (0,0)) bk_):gb165 ≠ gb161));clear BK161;clear HB;have BK161:=n0_;have HB:=n1_;have BK165:=n2_;have GW165:=n3_;have GE165:=n4_;have NB161_165:=n5_;have NB165_161:=n6_;clear n0_ n1_ n2_ n3_ n4_ n5_ n6_;clear hb hbox hg;have hnb22:=NB165_161.out;have hnc22:=NB161_165.out;have hcz23_0:w21.cell? ⟨gb165,0,none⟩=some (.slice none 0 0):=(blk_cell BK165.out 0).trans rfl;have hfz23_0:=blk_frozen BK165.out 0;obtain ⟨hcz24_0,hcz24_1,hcz24_2,hcz24_3,hcz24_4,hfz24_0,hfz24_1,hfz24_2,hfz24_3,hfz24_4⟩:=blk5_ BK161.out)|((with_reducible refine gate_dst (N:=49) rfl ?_);(try (refine gate_guard (by rfl) ?_;dsimp only));refine Kd.R_lit (Kd.int .i64) _ 3 ?hg (N:=49) ?hd (xs:=([a0_1,a0_2]:List Int)) (inner:=[.int .i64 a0_1,.int .i64 a0_2]) (ok:=fun _ => True) (okp:=fun _ => True) ?hr ?hp (fun _ hk => hk) trivial (Below.refl _ _) (Nat.le_refl _) (by simp) ?_;(case hd => rfl);(case hg => rfl);(case hr => first|(go_simp;done)|(go_simp;rfl));(case hp => exact (Reps.one (show Kd.M (Kd.int .i64) _ _ _ a0_1 [.int .i64 a0_1] from rfl) (Reps.one (show Kd.M (Kd.int .i64) _ _ _ a0_2 [.int .i64 a0_2] from rfl) (Reps.none _ _))));intro v167 w25 ho26 hb hg_ hnew_;clear hg_ hnew_;(first|rw [← Ny166.out] at ho26|(simp only [Int.reduceToNat] at ho26;rw [← Ny166.out] at ho26));have n0_:=am_ (Kd.R_lower ho26 (below_size bl_));have n1_:=am_ (blk_below (g:=gb161) (o:=.cells #[.slice A0_0 l0_0.length c0_0,.int .i64 a0_1,.int .i64 a0_2,.slice A0_3 l0_3.length c0_3,.slice A0_4 l0_4.length c0_4] 27 (0,0)) bk_ hb);have n2_:=am_ (blk_below (g:=gb165) (o:=.cells #[.slice A0_0 l0_0.length c0_0] 88 (0,0)) (by (with_reducible repeat (first|refine blk_drewN ?_ _|refine blk_drew ?_|refine blk_alloc ?_ _));refine blk_put (cs:=#[.slice none 0 0]) ?_ 0 _ rfl;(with_reducible repeat (first|refine blk_drewN ?_ _|refine blk_drew ?_|refine blk_alloc ?_ _));exact BK165.out) hb);have n3_:=am_ (below_step bl_ hb);clear BK161;clear BK165;clear HB;have HO168:=n0_;have BK161:=n1_;have BK165:=n2_;have HB:=n3_;clear n0_ n1_ n2_ n3_;clear hb ho26;obtain ⟨Ao27,co27,eo27⟩:=Kd.R_slice HO168.out;subst eo27)|(refine callA_ (f:=38) (some 50) Tryz.func38 #[.agg #[.slice A0_0 l0_0.length c0_0],.slice Ao27 y166.length co27] ?_;(with_reducible refine (class_rules_class.calls k1 _ _ l0_0 _ _ y166 t169 _ ?side1 ?side2 ?side3 ?side4 A19.out).mono ?_);(case side1 => exact kc_ (Kd.C_below HR0_0.out HB.out));(case side2 => exact HC0_0.out);(case side3 => exact kc_ (Kd.R_reads' HO168.out).2.2);(case side4 => exact (Kd.R_reads' HO168.out).2.1);rintro e w28 ⟨rfl,hb⟩;refine ⟨_,rfl,?_⟩;have n0_:=am_ (Kd.R_below (kr_ HO168.out) hb);have n1_:=am_ (blk_below (g:=gb161) (o:=.cells #[.slice A0_0 l0_0.length c0_0,.int .i64 a0_1,.int .i64 a0_2,.slice A0_3 l0_3.length c0_3,.slice A0_4 l0_4.length c0_4] 27 (0,0)) bk_ hb);have n2_:=am_ (blk_below (g:=gb165) (o:=.cells #[.slice A0_0 l0_0.length c0_0] 88 (0,0)) bk_ hb);have n3_:=am_ (below_step bl_ hb);clear HO168;clear BK161;clear BK165;clear HB;have HO168:=n0_;have BK161:=n1_;have BK165:=n2_;have HB:=n3_;clear n0_ n1_ n2_ n3_;(try clear hb);(try clear hb2);(try clear hk);(try clear hi);obtain ⟨hcz29_0,hcz29_1,hcz29_2,hcz29_3,hcz29_4,hfz29_0,hfz29_1,hfz29_2,hfz29_3,hfz29_4⟩:=blk5_ BK161.out))
  go_loopg [8,54] k1 (fun kq v8 v54 w' => ∃ (x8_2:Bool) (x54_2:Int),v8=.bool x8_2∧v54=.int .i64 x54_2∧Aside0 (class_Check.l1 kq x8_2 l0_3 (l0_3.length:Int) x54_2 l0_0 a0_1 a0_2 l0_3 l0_4 l0_0=some r)∧Aside0 (kq≤k1)∧Aside0 (w'.heap[gb161]?=some (.cells #[(.slice A0_0 l0_0.length c0_0),.int .i64 a0_1,.int .i64 a0_2,(.slice A0_3 l0_3.length c0_3),(.slice A0_4 l0_4.length c0_4)] 27 (0,0)))∧Aside0 (w'.heap[gb165]?=some (.cells #[(.slice A0_0 l0_0.length c0_0)] 88 (0,0)))∧Aside0 (Below w.heap.size w w'))
  case atStart => exact ⟨(t169),(0),r3_,r3_,H',⟨Nat.le_refl _⟩,⟨bk_⟩,⟨bk_⟩,⟨bl_⟩⟩
  clear H'
  try clear c9;try clear c9b0;try clear c18;try clear c18b0;try clear hcz20_0;try clear hcz20_1;try clear hcz20_2;try clear hcz20_3;try clear hcz20_4;try clear hcz23_0;try clear hcz24_0;try clear hcz24_1;try clear hcz24_2;try clear hcz24_3;try clear hcz24_4;try clear hcz29_0;try clear hcz29_1;try clear hcz29_2;try clear hcz29_3;try clear hcz29_4;try clear hfz20_0;try clear hfz20_1;try clear hfz20_2;try clear hfz20_3;try clear hfz20_4;try clear hfz23_0;try clear hfz24_0;try clear hfz24_1;try clear hfz24_2;try clear hfz24_3;try clear hfz24_4;try clear hfz29_0;try clear hfz29_1;try clear hfz29_2;try clear hfz29_3;try clear hfz29_4
  obtain ⟨x8_2,x54_2,rfl,rfl,HA,HK2,BK161,BK165,HB⟩:=hrel
  cases gk with
  | zero => exact absurd HA.out (by simp [class_Check.l1])
  | succ k2 =>
   have H:=HA.out
   clear HA
   simp only [class_Check.l1] at H
   by_cases c30:x54_2 < (l0_3.length:Int)
   ·rw [if_pos c30] at H
    have c30b0:decide (x54_2 < (l0_3.length:Int))=true:=decide_eq_true c30
    clear c30
    by_cases c31:0≤x54_2
    rotate_left
    ·rw [if_neg c31] at H
     exact absurd H (by simp)
    rw [if_pos c31] at H
    have c31b0:decide (0≤x54_2)=true:=decide_eq_true c31
    clear c31
    by_cases c32:x54_2 < (l0_3.length:Int)
    rotate_left
    ·rw [if_neg c32] at H
     exact absurd H (by simp)
    rw [if_pos c32] at H
    have c32b0:decide (x54_2 < (l0_3.length:Int))=true:=decide_eq_true c32
    clear c32
    by_cases c33:x8_2=true
    rotate_left
    ·replace c33:=Bool.eq_false_iff.mpr c33
     subst c33
     rw [if_neg (show ¬ (false=true) by decide)] at H
     have H':=am_ H
     clear H
     have p170:0≤(x54_2:Int):=od_
     have q170:x54_2 < (l0_3.length:Int):=od_
     obtain ⟨ad170,e170,hx170_0,hx170_1,hx170_2⟩:=at_T54 HR0_3.out x54_2 p170 q170
     cases e170
     replace hx170_0:=hb_ HB hx170_0
     replace hx170_1:=hb_ HB hx170_1
     replace hx170_2:=hb_ HB hx170_2
     replace p170:=eq_true p170
     replace q170:=eq_true q170
     go_wp2_with (first|((with_reducible refine gate_dst (N:=10) rfl ?_);(try (refine gate_guard (by rfl) ?_;dsimp only));refine box_event ?hg (N:=10) ?hd (cs:=#[.int .i64 0,.int .i64 0,.int .i64 0]) (t:=54) ?hr ?_;(case hd => rfl);(case hg => rfl);(case hr => first|(go_simp;done)|(go_simp;rfl));intro gb171 hg w51 hbox hb;have n0_:=am_ (blk_below (g:=gb161) (o:=.cells #[.slice A0_0 l0_0.length c0_0,.int .i64 a0_1,.int .i64 a0_2,.slice (some ad170) l0_3.length c0_3,.slice A0_4 l0_4.length c0_4] 27 (0,0)) bk_ hb);have n1_:=am_ (blk_below (g:=gb165) (o:=.cells #[.slice A0_0 l0_0.length c0_0] 88 (0,0)) bk_ hb);have n2_:=am_ (below_step bl_ hb);have n3_:=am_ (hbox);have n4_:=am_ ((by rw [hg];exact (below_size bl_):w.heap.size≤gb171));have n5_:=am_ ((by rw [hg];exact (below_size bl_):w.heap.size≤gb171));have n6_:=am_ ((by rw [hg];exact Nat.ne_of_lt (blk_lt (g:=gb161) (o:=.cells #[.slice A0_0 l0_0.length c0_0,.int .i64 a0_1,.int .i64 a0_2,.slice (some ad170) l0_3.length c0_3,.slice A0_4 l0_4.length c0_4] 27 (0,0)) bk_):gb161 ≠ gb171));have n7_:=am_ ((by rw [hg];exact Nat.ne_of_gt (blk_lt (g:=gb161) (o:=.cells #[.slice A0_0 l0_0.length c0_0,.int .i64 a0_1,.int .i64 a0_2,.slice (some ad170) l0_3.length c0_3,.slice A0_4 l0_4.length c0_4] 27 (0,0)) bk_):gb171 ≠ gb161));have n8_:=am_ ((by rw [hg];exact Nat.ne_of_lt (blk_lt (g:=gb165) (o:=.cells #[.slice A0_0 l0_0.length c0_0] 88 (0,0)) bk_):gb165 ≠ gb171));have n9_:=am_ ((by rw [hg];exact Nat.ne_of_gt (blk_lt (g:=gb165) (o:=.cells #[.slice A0_0 l0_0.length c0_0] 88 (0,0)) bk_):gb171 ≠ gb165));clear BK161;clear BK165;clear HB;have BK161:=n0_;have BK165:=n1_;have HB:=n2_;have BK171:=n3_;have GW171:=n4_;have GE171:=n5_;have NB161_171:=n6_;have NB171_161:=n7_;have NB165_171:=n8_;have NB171_165:=n9_;clear n0_ n1_ n2_ n3_ n4_ n5_ n6_ n7_ n8_ n9_;clear hb hbox hg;have hnb52:=NB171_161.out;have hnc52:=NB161_171.out;have hnb53:=NB171_165.out;have hnc53:=NB165_171.out;obtain ⟨hcz54_0,hcz54_1,hcz54_2,hfz54_0,hfz54_1,hfz54_2⟩:=blk3_ BK171.out))
     go_roundg k2
     case measure => have:=HK1.out;have:=HK2.out;omega
     case rel => exact ⟨(false),(wrap64 (x54_2 + 1)),r3_,r3_,H',⟨by have:=HK1.out;have:=HK2.out;omega⟩,⟨bk_⟩,⟨bk_⟩,⟨bl_⟩⟩
    subst c33
    rw [if_pos rfl] at H
    replace H:=Option.bind_eq_some_iff.mp H
    obtain ⟨t172,A340,H⟩:=H
    try dsimp only at H
    have A34:=am_ A340
    clear A340
    by_cases c35:t172=true
    ·subst c35
     rw [if_pos rfl] at H
     obtain ⟨y173,hy173⟩:∃ y_:List Int,y_=(([(rd_T54 l0_3 x54_2).f1,(rd_T54 l0_3 x54_2).f2]:List Int)):=⟨_,rfl⟩
     replace H:((class_rules_text.f k2 l0_0 y173).bind fun t176 => (class_Check.l1 k2 t176 l0_3 (l0_3.length:Int) (wrap64 (x54_2 + 1)) l0_0 a0_1 a0_2 l0_3 l0_4 l0_0))=some r:=by first|(rw [hy173];with_reducible exact H)|(have H2_:=(Option.bind_some _ _).symm.trans H;rw [hy173];with_reducible exact H2_)|(have H2_:=(Option.bind_some _ _).symm.trans H;with_reducible exact H2_)|with_reducible exact H|(rw [hy173];exact H)|exact H
     have Ny173:=am_ hy173
     clear hy173
     replace H:=Option.bind_eq_some_iff.mp H
     obtain ⟨t176,A360,H⟩:=H
     try dsimp only at H
     have A36:=am_ A360
     clear A360
     have H':=am_ H
     clear H
     have p170:0≤(x54_2:Int):=od_
     have q170:x54_2 < (l0_3.length:Int):=od_
     obtain ⟨ad170,e170,hx170_0,hx170_1,hx170_2⟩:=at_T54 HR0_3.out x54_2 p170 q170
     cases e170
     replace hx170_0:=hb_ HB hx170_0
     replace hx170_1:=hb_ HB hx170_1
     replace hx170_2:=hb_ HB hx170_2
     replace p170:=eq_true p170
     replace q170:=eq_true q170
     go_wp2_with (first|((with_reducible refine gate_dst (N:=10) rfl ?_);(try (refine gate_guard (by rfl) ?_;dsimp only));refine box_event ?hg (N:=10) ?hd (cs:=#[.int .i64 0,.int .i64 0,.int .i64 0]) (t:=54) ?hr ?_;(case hd => rfl);(case hg => rfl);(case hr => first|(go_simp;done)|(go_simp;rfl));intro gb171 hg w37 hbox hb;have n0_:=am_ (blk_below (g:=gb161) (o:=.cells #[.slice A0_0 l0_0.length c0_0,.int .i64 a0_1,.int .i64 a0_2,.slice (some ad170) l0_3.length c0_3,.slice A0_4 l0_4.length c0_4] 27 (0,0)) bk_ hb);have n1_:=am_ (blk_below (g:=gb165) (o:=.cells #[.slice A0_0 l0_0.length c0_0] 88 (0,0)) bk_ hb);have n2_:=am_ (below_step bl_ hb);have n3_:=am_ (hbox);have n4_:=am_ ((by rw [hg];exact (below_size bl_):w.heap.size≤gb171));have n5_:=am_ ((by rw [hg];exact (below_size bl_):w.heap.size≤gb171));have n6_:=am_ ((by rw [hg];exact Nat.ne_of_lt (blk_lt (g:=gb161) (o:=.cells #[.slice A0_0 l0_0.length c0_0,.int .i64 a0_1,.int .i64 a0_2,.slice (some ad170) l0_3.length c0_3,.slice A0_4 l0_4.length c0_4] 27 (0,0)) bk_):gb161 ≠ gb171));have n7_:=am_ ((by rw [hg];exact Nat.ne_of_gt (blk_lt (g:=gb161) (o:=.cells #[.slice A0_0 l0_0.length c0_0,.int .i64 a0_1,.int .i64 a0_2,.slice (some ad170) l0_3.length c0_3,.slice A0_4 l0_4.length c0_4] 27 (0,0)) bk_):gb171 ≠ gb161));have n8_:=am_ ((by rw [hg];exact Nat.ne_of_lt (blk_lt (g:=gb165) (o:=.cells #[.slice A0_0 l0_0.length c0_0] 88 (0,0)) bk_):gb165 ≠ gb171));have n9_:=am_ ((by rw [hg];exact Nat.ne_of_gt (blk_lt (g:=gb165) (o:=.cells #[.slice A0_0 l0_0.length c0_0] 88 (0,0)) bk_):gb171 ≠ gb165));clear BK161;clear BK165;clear HB;have BK161:=n0_;have BK165:=n1_;have HB:=n2_;have BK171:=n3_;have GW171:=n4_;have GE171:=n5_;have NB161_171:=n6_;have NB171_161:=n7_;have NB165_171:=n8_;have NB171_165:=n9_;clear n0_ n1_ n2_ n3_ n4_ n5_ n6_ n7_ n8_ n9_;clear hb hbox hg;have hnb38:=NB171_161.out;have hnc38:=NB161_171.out;have hnb39:=NB171_165.out;have hnc39:=NB165_171.out;obtain ⟨hcz40_0,hcz40_1,hcz40_2,hfz40_0,hfz40_1,hfz40_2⟩:=blk3_ BK171.out)|(go_at_call 39;(with_reducible refine (class_flags.calls ((rd_T54 l0_3 x54_2).f0) true _ A34.out).mono ?_);rintro e w' ⟨rfl,⟨nd,rfl⟩⟩;have hnb41:=NB165_161.out;have hnc41:=NB161_165.out;have hcz42_0:w37.cell? ⟨gb165,0,none⟩=some (.slice A0_0 l0_0.length c0_0):=(blk_cell BK165.out 0).trans rfl;have hfz42_0:=blk_frozen BK165.out 0)|((with_reducible refine gate_dst (N:=70) rfl ?_);(try (refine gate_guard (by rfl) ?_;dsimp only));refine Kd.R_lit (Kd.int .i64) _ 3 ?hg (N:=70) ?hd (xs:=([(rd_T54 l0_3 x54_2).f1,(rd_T54 l0_3 x54_2).f2]:List Int)) (inner:=[.int .i64 ((rd_T54 l0_3 x54_2).f1),.int .i64 ((rd_T54 l0_3 x54_2).f2)]) (ok:=fun _ => True) (okp:=fun _ => True) ?hr ?hp (fun _ hk => hk) trivial (Below.refl _ _) (Nat.le_refl _) (by simp) ?_;(case hd => rfl);(case hg => rfl);(case hr => first|(go_simp;done)|(go_simp;rfl));(case hp => exact (Reps.one (show Kd.M (Kd.int .i64) _ _ _ ((rd_T54 l0_3 x54_2).f1) [.int .i64 ((rd_T54 l0_3 x54_2).f1)] from rfl) (Reps.one (show Kd.M (Kd.int .i64) _ _ _ ((rd_T54 l0_3 x54_2).f2) [.int .i64 ((rd_T54 l0_3 x54_2).f2)] from rfl) (Reps.none _ _))));intro v174 w43 ho44 hb hg_ hnew_;clear hg_ hnew_;(first|rw [← Ny173.out] at ho44|(simp only [Int.reduceToNat] at ho44;rw [← Ny173.out] at ho44));have n0_:=am_ (Kd.R_lower ho44 (below_size bl_));have n1_:=am_ (blk_below (g:=gb161) (o:=.cells #[.slice A0_0 l0_0.length c0_0,.int .i64 a0_1,.int .i64 a0_2,.slice (some ad170) l0_3.length c0_3,.slice A0_4 l0_4.length c0_4] 27 (0,0)) bk_ hb);have n2_:=am_ (blk_below (g:=gb165) (o:=.cells #[.slice A0_0 l0_0.length c0_0] 88 (0,0)) bk_ hb);have n3_:=am_ (blk_below (g:=gb171) (o:=.cells #[.int .i64 ((rd_T54 l0_3 x54_2).f0),.int .i64 ((rd_T54 l0_3 x54_2).f1),.int .i64 ((rd_T54 l0_3 x54_2).f2)] 54 (0,0)) (by (with_reducible repeat (first|refine blk_drewN ?_ _|refine blk_drew ?_|refine blk_alloc ?_ _));refine blk_put (cs:=#[.int .i64 ((rd_T54 l0_3 x54_2).f0),.int .i64 ((rd_T54 l0_3 x54_2).f1),.int .i64 0]) ?_ 2 _ rfl;(with_reducible repeat (first|refine blk_drewN ?_ _|refine blk_drew ?_|refine blk_alloc ?_ _));refine blk_put (cs:=#[.int .i64 ((rd_T54 l0_3 x54_2).f0),.int .i64 0,.int .i64 0]) ?_ 1 _ rfl;(with_reducible repeat (first|refine blk_drewN ?_ _|refine blk_drew ?_|refine blk_alloc ?_ _));refine blk_put (cs:=#[.int .i64 0,.int .i64 0,.int .i64 0]) ?_ 0 _ rfl;(with_reducible repeat (first|refine blk_drewN ?_ _|refine blk_drew ?_|refine blk_alloc ?_ _));exact BK171.out) hb);have n4_:=am_ (below_step bl_ hb);clear BK161;clear BK165;clear BK171;clear HB;have HO175:=n0_;have BK161:=n1_;have BK165:=n2_;have BK171:=n3_;have HB:=n4_;clear n0_ n1_ n2_ n3_ n4_;clear hb ho44;obtain ⟨Ao45,co45,eo45⟩:=Kd.R_slice HO175.out;subst eo45)|(go_at_call 40;(with_reducible refine (class_rules_text.calls k2 _ _ l0_0 _ _ y173 t176 _ ?side1 ?side2 ?side3 ?side4 A36.out).mono ?_);(case side1 => exact kc_ (Kd.C_below HR0_0.out HB.out));(case side2 => exact HC0_0.out);(case side3 => exact kc_ (Kd.R_reads' HO175.out).2.2);(case side4 => exact (Kd.R_reads' HO175.out).2.1);rintro e w46 ⟨rfl,hb⟩;have n0_:=am_ (Kd.R_below (kr_ HO175.out) hb);have n1_:=am_ (blk_below (g:=gb161) (o:=.cells #[.slice A0_0 l0_0.length c0_0,.int .i64 a0_1,.int .i64 a0_2,.slice (some ad170) l0_3.length c0_3,.slice A0_4 l0_4.length c0_4] 27 (0,0)) bk_ hb);have n2_:=am_ (blk_below (g:=gb165) (o:=.cells #[.slice A0_0 l0_0.length c0_0] 88 (0,0)) bk_ hb);have n3_:=am_ (blk_below (g:=gb171) (o:=.cells #[.int .i64 ((rd_T54 l0_3 x54_2).f0),.int .i64 ((rd_T54 l0_3 x54_2).f1),.int .i64 ((rd_T54 l0_3 x54_2).f2)] 54 (0,0)) bk_ hb);have n4_:=am_ (below_step bl_ hb);clear HO175;clear BK161;clear BK165;clear BK171;clear HB;have HO175:=n0_;have BK161:=n1_;have BK165:=n2_;have BK171:=n3_;have HB:=n4_;clear n0_ n1_ n2_ n3_ n4_;(try clear hb);(try clear hb2);(try clear hk);(try clear hi)))
     go_roundg k2
     case measure => have:=HK1.out;have:=HK2.out;omega
     case rel => exact ⟨(t176),(wrap64 (x54_2 + 1)),r3_,r3_,H',⟨by have:=HK1.out;have:=HK2.out;omega⟩,⟨bk_⟩,⟨bk_⟩,⟨bl_⟩⟩
    replace c35:=Bool.eq_false_iff.mpr c35
    subst c35
    rw [if_neg (show ¬ (false=true) by decide)] at H
    have H':=am_ H
    clear H
    have p170:0≤(x54_2:Int):=od_
    have q170:x54_2 < (l0_3.length:Int):=od_
    obtain ⟨ad170,e170,hx170_0,hx170_1,hx170_2⟩:=at_T54 HR0_3.out x54_2 p170 q170
    cases e170
    replace hx170_0:=hb_ HB hx170_0
    replace hx170_1:=hb_ HB hx170_1
    replace hx170_2:=hb_ HB hx170_2
    replace p170:=eq_true p170
    replace q170:=eq_true q170
    go_wp2_with (first|((with_reducible refine gate_dst (N:=10) rfl ?_);(try (refine gate_guard (by rfl) ?_;dsimp only));refine box_event ?hg (N:=10) ?hd (cs:=#[.int .i64 0,.int .i64 0,.int .i64 0]) (t:=54) ?hr ?_;(case hd => rfl);(case hg => rfl);(case hr => first|(go_simp;done)|(go_simp;rfl));intro gb171 hg w47 hbox hb;have n0_:=am_ (blk_below (g:=gb161) (o:=.cells #[.slice A0_0 l0_0.length c0_0,.int .i64 a0_1,.int .i64 a0_2,.slice (some ad170) l0_3.length c0_3,.slice A0_4 l0_4.length c0_4] 27 (0,0)) bk_ hb);have n1_:=am_ (blk_below (g:=gb165) (o:=.cells #[.slice A0_0 l0_0.length c0_0] 88 (0,0)) bk_ hb);have n2_:=am_ (below_step bl_ hb);have n3_:=am_ (hbox);have n4_:=am_ ((by rw [hg];exact (below_size bl_):w.heap.size≤gb171));have n5_:=am_ ((by rw [hg];exact (below_size bl_):w.heap.size≤gb171));have n6_:=am_ ((by rw [hg];exact Nat.ne_of_lt (blk_lt (g:=gb161) (o:=.cells #[.slice A0_0 l0_0.length c0_0,.int .i64 a0_1,.int .i64 a0_2,.slice (some ad170) l0_3.length c0_3,.slice A0_4 l0_4.length c0_4] 27 (0,0)) bk_):gb161 ≠ gb171));have n7_:=am_ ((by rw [hg];exact Nat.ne_of_gt (blk_lt (g:=gb161) (o:=.cells #[.slice A0_0 l0_0.length c0_0,.int .i64 a0_1,.int .i64 a0_2,.slice (some ad170) l0_3.length c0_3,.slice A0_4 l0_4.length c0_4] 27 (0,0)) bk_):gb171 ≠ gb161));have n8_:=am_ ((by rw [hg];exact Nat.ne_of_lt (blk_lt (g:=gb165) (o:=.cells #[.slice A0_0 l0_0.length c0_0] 88 (0,0)) bk_):gb165 ≠ gb171));have n9_:=am_ ((by rw [hg];exact Nat.ne_of_gt (blk_lt (g:=gb165) (o:=.cells #[.slice A0_0 l0_0.length c0_0] 88 (0,0)) bk_):gb171 ≠ gb165));clear BK161;clear BK165;clear HB;have BK161:=n0_;have BK165:=n1_;have HB:=n2_;have BK171:=n3_;have GW171:=n4_;have GE171:=n5_;have NB161_171:=n6_;have NB171_161:=n7_;have NB165_171:=n8_;have NB171_165:=n9_;clear n0_ n1_ n2_ n3_ n4_ n5_ n6_ n7_ n8_ n9_;clear hb hbox hg;have hnb48:=NB171_161.out;have hnc48:=NB161_171.out;have hnb49:=NB171_165.out;have hnc49:=NB165_171.out;obtain ⟨hcz50_0,hcz50_1,hcz50_2,hfz50_0,hfz50_1,hfz50_2⟩:=blk3_ BK171.out)|(go_at_call 39;(with_reducible refine (class_flags.calls ((rd_T54 l0_3 x54_2).f0) false _ A34.out).mono ?_);rintro e w' ⟨rfl,⟨nd,rfl⟩⟩))
    go_roundg k2
    case measure => have:=HK1.out;have:=HK2.out;omega
    case rel => exact ⟨(false),(wrap64 (x54_2 + 1)),r3_,r3_,H',⟨by have:=HK1.out;have:=HK2.out;omega⟩,⟨bk_⟩,⟨bk_⟩,⟨bl_⟩⟩
   rw [if_neg c30] at H
   have c30b0:decide (x54_2 < (l0_3.length:Int))=false:=decide_eq_false c30
   clear c30
   have H':=am_ H
   clear H
   have hnb55:=NB161_165.out
   have hnc55:=NB165_161.out
   obtain ⟨hcz56_0,hcz56_1,hcz56_2,hcz56_3,hcz56_4,hfz56_0,hfz56_1,hfz56_2,hfz56_3,hfz56_4⟩:=blk5_ BK161.out
   go_wp2
   go_loopg [8,77] k2 (fun kq v8 v77 w' => ∃ (x8_3:Bool) (x77_3:Int),v8=.bool x8_3∧v77=.int .i64 x77_3∧Aside0 (class_Check.l2 kq x8_3 l0_4 (l0_4.length:Int) x77_3 l0_0=some r)∧Aside0 (kq≤k2)∧Aside0 (w'.heap[gb161]?=some (.cells #[(.slice A0_0 l0_0.length c0_0),.int .i64 a0_1,.int .i64 a0_2,(.slice A0_3 l0_3.length c0_3),(.slice A0_4 l0_4.length c0_4)] 27 (0,0)))∧Aside0 (w'.heap[gb165]?=some (.cells #[(.slice A0_0 l0_0.length c0_0)] 88 (0,0)))∧Aside0 (Below w.heap.size w w'))
   case atStart => exact ⟨(x8_2),(0),r3_,r3_,H',⟨Nat.le_refl _⟩,⟨bk_⟩,⟨bk_⟩,⟨bl_⟩⟩
   clear H'
   try clear c30;try clear c30b0;try clear hcz56_0;try clear hcz56_1;try clear hcz56_2;try clear hcz56_3;try clear hcz56_4;try clear hfz56_0;try clear hfz56_1;try clear hfz56_2;try clear hfz56_3;try clear hfz56_4
   obtain ⟨x8_3,x77_3,rfl,rfl,HA,HK3,BK161,BK165,HB⟩:=hrel
   cases gk with
   | zero => exact absurd HA.out (by simp [class_Check.l2])
   | succ k3 =>
    have H:=HA.out
    clear HA
    simp only [class_Check.l2] at H
    by_cases c57:x77_3 < (l0_4.length:Int)
    rotate_left
    ·rw [if_neg c57] at H
     have c57b0:decide (x77_3 < (l0_4.length:Int))=false:=decide_eq_false c57
     clear c57
     by_cases c76:x8_3=true
     ·subst c76
      rw [if_pos rfl] at H
      obtain rfl:=Option.some.inj H
      go_wp2
      go_ret
      exact ⟨by first|rfl|(simp [errW_none,errW_some] <;> rfl)|(simp only [← hji4];first|rfl|(simp [errW_none,errW_some] <;> rfl))|(simp [*,errW_none,errW_some] <;> rfl),bl_⟩
     replace c76:=Bool.eq_false_iff.mpr c76
     subst c76
     rw [if_neg (show ¬ (false=true) by decide)] at H
     obtain rfl:=Option.some.inj H
     go_wp2
     go_ret
     exact ⟨by first|rfl|(simp [errW_none,errW_some] <;> rfl)|(simp only [← hji4];first|rfl|(simp [errW_none,errW_some] <;> rfl))|(simp [*,errW_none,errW_some] <;> rfl),bl_⟩
    rw [if_pos c57] at H
    have c57b0:decide (x77_3 < (l0_4.length:Int))=true:=decide_eq_true c57
    clear c57
    by_cases c58:0≤x77_3
    rotate_left
    ·rw [if_neg c58] at H
     exact absurd H (by simp)
    rw [if_pos c58] at H
    have c58b0:decide (0≤x77_3)=true:=decide_eq_true c58
    clear c58
    by_cases c59:x77_3 < (l0_4.length:Int)
    rotate_left
    ·rw [if_neg c59] at H
     exact absurd H (by simp)
    rw [if_pos c59] at H
    have c59b0:decide (x77_3 < (l0_4.length:Int))=true:=decide_eq_true c59
    clear c59
    by_cases c60:x8_3=true
    ·subst c60
     rw [if_pos rfl] at H
     replace H:=Option.bind_eq_some_iff.mp H
     obtain ⟨t179,A610,H⟩:=H
     try dsimp only at H
     have A61:=am_ A610
     clear A610
     have H':=am_ H
     clear H
     have p177:0≤(x77_3:Int):=od_
     have q177:x77_3 < (l0_4.length:Int):=od_
     obtain ⟨ad177,A177_5,c177_5,A177_6,c177_6,A177_7,c177_7,e177,hx177_0,hx177_1,hx177_2,hx177_3,hx177_4,hx177_5,hx177_6,hx177_7,hl177_5,hi177_5,hl177_6,hi177_6,hl177_7,hi177_7⟩:=at_T57 HR0_4.out x77_3 p177 q177
     cases e177
     replace hx177_0:=hb_ HB hx177_0
     replace hx177_1:=hb_ HB hx177_1
     replace hx177_2:=hb_ HB hx177_2
     replace hx177_3:=hb_ HB hx177_3
     replace hx177_4:=hb_ HB hx177_4
     replace hx177_5:=hb_ HB hx177_5
     replace hx177_6:=hb_ HB hx177_6
     replace hx177_7:=hb_ HB hx177_7
     have HR177_5:=am_ hi177_5
     have HC177_5:=am_ hl177_5
     clear hi177_5 hl177_5
     have HR177_6:=am_ hi177_6
     have HC177_6:=am_ hl177_6
     clear hi177_6 hl177_6
     have HR177_7:=am_ hi177_7
     have HC177_7:=am_ hl177_7
     clear hi177_7 hl177_7
     replace p177:=eq_true p177
     replace q177:=eq_true q177
     go_wp2_with (first|((with_reducible refine gate_dst (N:=12) rfl ?_);(try (refine gate_guard (by rfl) ?_;dsimp only));refine box_event ?hg (N:=12) ?hd (cs:=#[.int .i64 0,.int .i64 0,.int .i64 0,.int .i64 0,.int .i64 0,.slice none 0 0,.slice none 0 0,.slice none 0 0]) (t:=57) ?hr ?_;(case hd => rfl);(case hg => rfl);(case hr => first|(go_simp;done)|(go_simp;rfl));intro gb178 hg w62 hbox hb;have n0_:=am_ (blk_below (g:=gb161) (o:=.cells #[.slice A0_0 l0_0.length c0_0,.int .i64 a0_1,.int .i64 a0_2,.slice A0_3 l0_3.length c0_3,.slice (some ad177) l0_4.length c0_4] 27 (0,0)) bk_ hb);have n1_:=am_ (blk_below (g:=gb165) (o:=.cells #[.slice A0_0 l0_0.length c0_0] 88 (0,0)) bk_ hb);have n2_:=am_ (below_step bl_ hb);have n3_:=am_ (hbox);have n4_:=am_ ((by rw [hg];exact (below_size bl_):w.heap.size≤gb178));have n5_:=am_ ((by rw [hg];exact (below_size bl_):w.heap.size≤gb178));have n6_:=am_ ((by rw [hg];exact Nat.ne_of_lt (blk_lt (g:=gb161) (o:=.cells #[.slice A0_0 l0_0.length c0_0,.int .i64 a0_1,.int .i64 a0_2,.slice A0_3 l0_3.length c0_3,.slice (some ad177) l0_4.length c0_4] 27 (0,0)) bk_):gb161 ≠ gb178));have n7_:=am_ ((by rw [hg];exact Nat.ne_of_gt (blk_lt (g:=gb161) (o:=.cells #[.slice A0_0 l0_0.length c0_0,.int .i64 a0_1,.int .i64 a0_2,.slice A0_3 l0_3.length c0_3,.slice (some ad177) l0_4.length c0_4] 27 (0,0)) bk_):gb178 ≠ gb161));have n8_:=am_ ((by rw [hg];exact Nat.ne_of_lt (blk_lt (g:=gb165) (o:=.cells #[.slice A0_0 l0_0.length c0_0] 88 (0,0)) bk_):gb165 ≠ gb178));have n9_:=am_ ((by rw [hg];exact Nat.ne_of_gt (blk_lt (g:=gb165) (o:=.cells #[.slice A0_0 l0_0.length c0_0] 88 (0,0)) bk_):gb178 ≠ gb165));clear BK161;clear BK165;clear HB;have BK161:=n0_;have BK165:=n1_;have HB:=n2_;have BK178:=n3_;have GW178:=n4_;have GE178:=n5_;have NB161_178:=n6_;have NB178_161:=n7_;have NB165_178:=n8_;have NB178_165:=n9_;clear n0_ n1_ n2_ n3_ n4_ n5_ n6_ n7_ n8_ n9_;clear hb hbox hg;have hnb63:=NB178_161.out;have hnc63:=NB161_178.out;have hnb64:=NB178_165.out;have hnc64:=NB165_178.out;obtain ⟨hcz65_0,hcz65_1,hcz65_2,hcz65_3,hcz65_4,hcz65_5,hcz65_6,hcz65_7,hfz65_0,hfz65_1,hfz65_2,hfz65_3,hfz65_4,hfz65_5,hfz65_6,hfz65_7⟩:=blk8_ BK178.out)|((with_reducible refine gate_store (t:=57) (p:=12) rfl ?_);refine store_event (t:=57) (p:=12) (v:=?vo_w66) (w1:=((((((((w62.setCell ⟨gb178,0,none⟩ (.int .i64 ((rd_T57 l0_4 x77_3).f0))).setCell ⟨gb178,1,none⟩ (.int .i64 ((rd_T57 l0_4 x77_3).f1))).setCell ⟨gb178,2,none⟩ (.int .i64 ((rd_T57 l0_4 x77_3).f2))).setCell ⟨gb178,3,none⟩ (.int .i64 ((rd_T57 l0_4 x77_3).f3))).setCell ⟨gb178,4,none⟩ (.int .i64 ((rd_T57 l0_4 x77_3).f4))).setCell ⟨gb178,5,none⟩ (.slice A177_5 ((rd_T57 l0_4 x77_3).f5).length c177_5)).setCell ⟨gb178,6,none⟩ (.slice A177_6 ((rd_T57 l0_4 x77_3).f6).length c177_6)).setCell ⟨gb178,7,none⟩ (.slice A177_7 ((rd_T57 l0_4 x77_3).f7).length c177_7))) ?hg ?ho ?hn ?hr ?_;(case ho => rfl);(case hg => rfl);(case hn => rfl);(case hr => first|(go_simp;done)|(go_simp;rfl));intro w66 hw;have n0_:Aside0 (w66.heap[gb161]?=some (.cells #[.slice A0_0 l0_0.length c0_0,.int .i64 a0_1,.int .i64 a0_2,.slice A0_3 l0_3.length c0_3,.slice (some ad177) l0_4.length c0_4] 27 (0,0))):=⟨(by rw [hw];exact bk_)⟩;have n1_:Aside0 (w66.heap[gb165]?=some (.cells #[.slice A0_0 l0_0.length c0_0] 88 (0,0))):=⟨(by rw [hw];exact bk_)⟩;have n2_:Aside0 (w66.heap[gb178]?=some (.cells #[.int .i64 ((rd_T57 l0_4 x77_3).f0),.int .i64 ((rd_T57 l0_4 x77_3).f1),.int .i64 ((rd_T57 l0_4 x77_3).f2),.int .i64 ((rd_T57 l0_4 x77_3).f3),.int .i64 ((rd_T57 l0_4 x77_3).f4),.slice A177_5 ((rd_T57 l0_4 x77_3).f5).length c177_5,.slice A177_6 ((rd_T57 l0_4 x77_3).f6).length c177_6,.slice A177_7 ((rd_T57 l0_4 x77_3).f7).length c177_7] 57 (0,0))):=⟨(by rw [hw];exact (by (with_reducible repeat (first|refine blk_drewN ?_ _|refine blk_drew ?_|refine blk_alloc ?_ _));refine blk_put (cs:=#[.int .i64 ((rd_T57 l0_4 x77_3).f0),.int .i64 ((rd_T57 l0_4 x77_3).f1),.int .i64 ((rd_T57 l0_4 x77_3).f2),.int .i64 ((rd_T57 l0_4 x77_3).f3),.int .i64 ((rd_T57 l0_4 x77_3).f4),.slice A177_5 ((rd_T57 l0_4 x77_3).f5).length c177_5,.slice A177_6 ((rd_T57 l0_4 x77_3).f6).length c177_6,.slice none 0 0]) ?_ 7 _ rfl;(with_reducible repeat (first|refine blk_drewN ?_ _|refine blk_drew ?_|refine blk_alloc ?_ _));refine blk_put (cs:=#[.int .i64 ((rd_T57 l0_4 x77_3).f0),.int .i64 ((rd_T57 l0_4 x77_3).f1),.int .i64 ((rd_T57 l0_4 x77_3).f2),.int .i64 ((rd_T57 l0_4 x77_3).f3),.int .i64 ((rd_T57 l0_4 x77_3).f4),.slice A177_5 ((rd_T57 l0_4 x77_3).f5).length c177_5,.slice none 0 0,.slice none 0 0]) ?_ 6 _ rfl;(with_reducible repeat (first|refine blk_drewN ?_ _|refine blk_drew ?_|refine blk_alloc ?_ _));refine blk_put (cs:=#[.int .i64 ((rd_T57 l0_4 x77_3).f0),.int .i64 ((rd_T57 l0_4 x77_3).f1),.int .i64 ((rd_T57 l0_4 x77_3).f2),.int .i64 ((rd_T57 l0_4 x77_3).f3),.int .i64 ((rd_T57 l0_4 x77_3).f4),.slice none 0 0,.slice none 0 0,.slice none 0 0]) ?_ 5 _ rfl;(with_reducible repeat (first|refine blk_drewN ?_ _|refine blk_drew ?_|refine blk_alloc ?_ _));refine blk_put (cs:=#[.int .i64 ((rd_T57 l0_4 x77_3).f0),.int .i64 ((rd_T57 l0_4 x77_3).f1),.int .i64 ((rd_T57 l0_4 x77_3).f2),.int .i64 ((rd_T57 l0_4 x77_3).f3),.int .i64 0,.slice none 0 0,.slice none 0 0,.slice none 0 0]) ?_ 4 _ rfl;(with_reducible repeat (first|refine blk_drewN ?_ _|refine blk_drew ?_|refine blk_alloc ?_ _));refine blk_put (cs:=#[.int .i64 ((rd_T57 l0_4 x77_3).f0),.int .i64 ((rd_T57 l0_4 x77_3).f1),.int .i64 ((rd_T57 l0_4 x77_3).f2),.int .i64 0,.int .i64 0,.slice none 0 0,.slice none 0 0,.slice none 0 0]) ?_ 3 _ rfl;(with_reducible repeat (first|refine blk_drewN ?_ _|refine blk_drew ?_|refine blk_alloc ?_ _));refine blk_put (cs:=#[.int .i64 ((rd_T57 l0_4 x77_3).f0),.int .i64 ((rd_T57 l0_4 x77_3).f1),.int .i64 0,.int .i64 0,.int .i64 0,.slice none 0 0,.slice none 0 0,.slice none 0 0]) ?_ 2 _ rfl;(with_reducible repeat (first|refine blk_drewN ?_ _|refine blk_drew ?_|refine blk_alloc ?_ _));refine blk_put (cs:=#[.int .i64 ((rd_T57 l0_4 x77_3).f0),.int .i64 0,.int .i64 0,.int .i64 0,.int .i64 0,.slice none 0 0,.slice none 0 0,.slice none 0 0]) ?_ 1 _ rfl;(with_reducible repeat (first|refine blk_drewN ?_ _|refine blk_drew ?_|refine blk_alloc ?_ _));refine blk_put (cs:=#[.int .i64 0,.int .i64 0,.int .i64 0,.int .i64 0,.int .i64 0,.slice none 0 0,.slice none 0 0,.slice none 0 0]) ?_ 0 _ rfl;(with_reducible repeat (first|refine blk_drewN ?_ _|refine blk_drew ?_|refine blk_alloc ?_ _));exact BK178.out))⟩;have n3_:Aside0 (Below w.heap.size w w66):=⟨(by rw [hw];exact bl_)⟩;clear hw;clear BK161;clear BK165;clear BK178;clear HB;have BK161:=n0_;have BK165:=n1_;have BK178:=n2_;have HB:=n3_;clear n0_ n1_ n2_ n3_;have hnb67:=NB165_161.out;have hnc67:=NB161_165.out;have hcz68_0:w66.cell? ⟨gb165,0,none⟩=some (.slice A0_0 l0_0.length c0_0):=(blk_cell BK165.out 0).trans rfl;have hfz68_0:=blk_frozen BK165.out 0;obtain ⟨hcz69_0,hcz69_1,hcz69_2,hcz69_3,hcz69_4,hcz69_5,hcz69_6,hcz69_7,hfz69_0,hfz69_1,hfz69_2,hfz69_3,hfz69_4,hfz69_5,hfz69_6,hfz69_7⟩:=blk8_ BK178.out)|(go_at_call 41;(with_reducible refine (class_rules_method.calls k3 _ _ l0_0 ((rd_T57 l0_4 x77_3).f0) ((rd_T57 l0_4 x77_3).f1) ((rd_T57 l0_4 x77_3).f2) ((rd_T57 l0_4 x77_3).f3) ((rd_T57 l0_4 x77_3).f4) _ _ ((rd_T57 l0_4 x77_3).f5) _ _ ((rd_T57 l0_4 x77_3).f6) _ _ ((rd_T57 l0_4 x77_3).f7) t179 _ ?side1 ?side2 ?side3 ?side4 ?side5 ?side6 ?side7 ?side8 A61.out).mono ?_);(case side1 => exact kc_ (Kd.C_below HR0_0.out HB.out));(case side2 => exact HC0_0.out);(case side3 => exact kc_ (Kd.C_below HR177_5.out HB.out));(case side4 => exact HC177_5.out);(case side5 => exact kc_ (Kd.C_below HR177_6.out HB.out));(case side6 => exact HC177_6.out);(case side7 => exact kc_ (Kd.C_below HR177_7.out HB.out));(case side8 => exact HC177_7.out);rintro e w70 ⟨rfl,hb⟩;have n0_:=am_ (blk_below (g:=gb161) (o:=.cells #[.slice A0_0 l0_0.length c0_0,.int .i64 a0_1,.int .i64 a0_2,.slice A0_3 l0_3.length c0_3,.slice (some ad177) l0_4.length c0_4] 27 (0,0)) bk_ hb);have n1_:=am_ (blk_below (g:=gb165) (o:=.cells #[.slice A0_0 l0_0.length c0_0] 88 (0,0)) bk_ hb);have n2_:=am_ (blk_below (g:=gb178) (o:=.cells #[.int .i64 ((rd_T57 l0_4 x77_3).f0),.int .i64 ((rd_T57 l0_4 x77_3).f1),.int .i64 ((rd_T57 l0_4 x77_3).f2),.int .i64 ((rd_T57 l0_4 x77_3).f3),.int .i64 ((rd_T57 l0_4 x77_3).f4),.slice A177_5 ((rd_T57 l0_4 x77_3).f5).length c177_5,.slice A177_6 ((rd_T57 l0_4 x77_3).f6).length c177_6,.slice A177_7 ((rd_T57 l0_4 x77_3).f7).length c177_7] 57 (0,0)) bk_ hb);have n3_:=am_ (below_step bl_ hb);clear BK161;clear BK165;clear BK178;clear HB;have BK161:=n0_;have BK165:=n1_;have BK178:=n2_;have HB:=n3_;clear n0_ n1_ n2_ n3_;(try clear hb);(try clear hb2);(try clear hk);(try clear hi)))
     go_roundg k3
     case measure => have:=HK1.out;have:=HK2.out;have:=HK3.out;omega
     case rel => exact ⟨(t179),(wrap64 (x77_3 + 1)),r3_,r3_,H',⟨by have:=HK1.out;have:=HK2.out;have:=HK3.out;omega⟩,⟨bk_⟩,⟨bk_⟩,⟨bl_⟩⟩
    replace c60:=Bool.eq_false_iff.mpr c60
    subst c60
    rw [if_neg (show ¬ (false=true) by decide)] at H
    have H':=am_ H
    clear H
    have p177:0≤(x77_3:Int):=od_
    have q177:x77_3 < (l0_4.length:Int):=od_
    obtain ⟨ad177,A177_5,c177_5,A177_6,c177_6,A177_7,c177_7,e177,hx177_0,hx177_1,hx177_2,hx177_3,hx177_4,hx177_5,hx177_6,hx177_7,hl177_5,hi177_5,hl177_6,hi177_6,hl177_7,hi177_7⟩:=at_T57 HR0_4.out x77_3 p177 q177
    cases e177
    replace hx177_0:=hb_ HB hx177_0
    replace hx177_1:=hb_ HB hx177_1
    replace hx177_2:=hb_ HB hx177_2
    replace hx177_3:=hb_ HB hx177_3
    replace hx177_4:=hb_ HB hx177_4
    replace hx177_5:=hb_ HB hx177_5
    replace hx177_6:=hb_ HB hx177_6
    replace hx177_7:=hb_ HB hx177_7
    have HR177_5:=am_ hi177_5
    have HC177_5:=am_ hl177_5
    clear hi177_5 hl177_5
    have HR177_6:=am_ hi177_6
    have HC177_6:=am_ hl177_6
    clear hi177_6 hl177_6
    have HR177_7:=am_ hi177_7
    have HC177_7:=am_ hl177_7
    clear hi177_7 hl177_7
    replace p177:=eq_true p177
    replace q177:=eq_true q177
    go_wp2_with (first|((with_reducible refine gate_dst (N:=12) rfl ?_);(try (refine gate_guard (by rfl) ?_;dsimp only));refine box_event ?hg (N:=12) ?hd (cs:=#[.int .i64 0,.int .i64 0,.int .i64 0,.int .i64 0,.int .i64 0,.slice none 0 0,.slice none 0 0,.slice none 0 0]) (t:=57) ?hr ?_;(case hd => rfl);(case hg => rfl);(case hr => first|(go_simp;done)|(go_simp;rfl));intro gb178 hg w71 hbox hb;have n0_:=am_ (blk_below (g:=gb161) (o:=.cells #[.slice A0_0 l0_0.length c0_0,.int .i64 a0_1,.int .i64 a0_2,.slice A0_3 l0_3.length c0_3,.slice (some ad177) l0_4.length c0_4] 27 (0,0)) bk_ hb);have n1_:=am_ (blk_below (g:=gb165) (o:=.cells #[.slice A0_0 l0_0.length c0_0] 88 (0,0)) bk_ hb);have n2_:=am_ (below_step bl_ hb);have n3_:=am_ (hbox);have n4_:=am_ ((by rw [hg];exact (below_size bl_):w.heap.size≤gb178));have n5_:=am_ ((by rw [hg];exact (below_size bl_):w.heap.size≤gb178));have n6_:=am_ ((by rw [hg];exact Nat.ne_of_lt (blk_lt (g:=gb161) (o:=.cells #[.slice A0_0 l0_0.length c0_0,.int .i64 a0_1,.int .i64 a0_2,.slice A0_3 l0_3.length c0_3,.slice (some ad177) l0_4.length c0_4] 27 (0,0)) bk_):gb161 ≠ gb178));have n7_:=am_ ((by rw [hg];exact Nat.ne_of_gt (blk_lt (g:=gb161) (o:=.cells #[.slice A0_0 l0_0.length c0_0,.int .i64 a0_1,.int .i64 a0_2,.slice A0_3 l0_3.length c0_3,.slice (some ad177) l0_4.length c0_4] 27 (0,0)) bk_):gb178 ≠ gb161));have n8_:=am_ ((by rw [hg];exact Nat.ne_of_lt (blk_lt (g:=gb165) (o:=.cells #[.slice A0_0 l0_0.length c0_0] 88 (0,0)) bk_):gb165 ≠ gb178));have n9_:=am_ ((by rw [hg];exact Nat.ne_of_gt (blk_lt (g:=gb165) (o:=.cells #[.slice A0_0 l0_0.length c0_0] 88 (0,0)) bk_):gb178 ≠ gb165));clear BK161;clear BK165;clear HB;have BK161:=n0_;have BK165:=n1_;have HB:=n2_;have BK178:=n3_;have GW178:=n4_;have GE178:=n5_;have NB161_178:=n6_;have NB178_161:=n7_;have NB165_178:=n8_;have NB178_165:=n9_;clear n0_ n1_ n2_ n3_ n4_ n5_ n6_ n7_ n8_ n9_;clear hb hbox hg;have hnb72:=NB178_161.out;have hnc72:=NB161_178.out;have hnb73:=NB178_165.out;have hnc73:=NB165_178.out;obtain ⟨hcz74_0,hcz74_1,hcz74_2,hcz74_3,hcz74_4,hcz74_5,hcz74_6,hcz74_7,hfz74_0,hfz74_1,hfz74_2,hfz74_3,hfz74_4,hfz74_5,hfz74_6,hfz74_7⟩:=blk8_ BK178.out)|((with_reducible refine gate_store (t:=57) (p:=12) rfl ?_);refine store_event (t:=57) (p:=12) (v:=?vo_w75) (w1:=((((((((w71.setCell ⟨gb178,0,none⟩ (.int .i64 ((rd_T57 l0_4 x77_3).f0))).setCell ⟨gb178,1,none⟩ (.int .i64 ((rd_T57 l0_4 x77_3).f1))).setCell ⟨gb178,2,none⟩ (.int .i64 ((rd_T57 l0_4 x77_3).f2))).setCell ⟨gb178,3,none⟩ (.int .i64 ((rd_T57 l0_4 x77_3).f3))).setCell ⟨gb178,4,none⟩ (.int .i64 ((rd_T57 l0_4 x77_3).f4))).setCell ⟨gb178,5,none⟩ (.slice A177_5 ((rd_T57 l0_4 x77_3).f5).length c177_5)).setCell ⟨gb178,6,none⟩ (.slice A177_6 ((rd_T57 l0_4 x77_3).f6).length c177_6)).setCell ⟨gb178,7,none⟩ (.slice A177_7 ((rd_T57 l0_4 x77_3).f7).length c177_7))) ?hg ?ho ?hn ?hr ?_;(case ho => rfl);(case hg => rfl);(case hn => rfl);(case hr => first|(go_simp;done)|(go_simp;rfl));intro w75 hw;have n0_:Aside0 (w75.heap[gb161]?=some (.cells #[.slice A0_0 l0_0.length c0_0,.int .i64 a0_1,.int .i64 a0_2,.slice A0_3 l0_3.length c0_3,.slice (some ad177) l0_4.length c0_4] 27 (0,0))):=⟨(by rw [hw];exact bk_)⟩;have n1_:Aside0 (w75.heap[gb165]?=some (.cells #[.slice A0_0 l0_0.length c0_0] 88 (0,0))):=⟨(by rw [hw];exact bk_)⟩;have n2_:Aside0 (w75.heap[gb178]?=some (.cells #[.int .i64 ((rd_T57 l0_4 x77_3).f0),.int .i64 ((rd_T57 l0_4 x77_3).f1),.int .i64 ((rd_T57 l0_4 x77_3).f2),.int .i64 ((rd_T57 l0_4 x77_3).f3),.int .i64 ((rd_T57 l0_4 x77_3).f4),.slice A177_5 ((rd_T57 l0_4 x77_3).f5).length c177_5,.slice A177_6 ((rd_T57 l0_4 x77_3).f6).length c177_6,.slice A177_7 ((rd_T57 l0_4 x77_3).f7).length c177_7] 57 (0,0))):=⟨(by rw [hw];exact (by (with_reducible repeat (first|refine blk_drewN ?_ _|refine blk_drew ?_|refine blk_alloc ?_ _));refine blk_put (cs:=#[.int .i64 ((rd_T57 l0_4 x77_3).f0),.int .i64 ((rd_T57 l0_4 x77_3).f1),.int .i64 ((rd_T57 l0_4 x77_3).f2),.int .i64 ((rd_T57 l0_4 x77_3).f3),.int .i64 ((rd_T57 l0_4 x77_3).f4),.slice A177_5 ((rd_T57 l0_4 x77_3).f5).length c177_5,.slice A177_6 ((rd_T57 l0_4 x77_3).f6).length c177_6,.slice none 0 0]) ?_ 7 _ rfl;(with_reducible repeat (first|refine blk_drewN ?_ _|refine blk_drew ?_|refine blk_alloc ?_ _));refine blk_put (cs:=#[.int .i64 ((rd_T57 l0_4 x77_3).f0),.int .i64 ((rd_T57 l0_4 x77_3).f1),.int .i64 ((rd_T57 l0_4 x77_3).f2),.int .i64 ((rd_T57 l0_4 x77_3).f3),.int .i64 ((rd_T57 l0_4 x77_3).f4),.slice A177_5 ((rd_T57 l0_4 x77_3).f5).length c177_5,.slice none 0 0,.slice none 0 0]) ?_ 6 _ rfl;(with_reducible repeat (first|refine blk_drewN ?_ _|refine blk_drew ?_|refine blk_alloc ?_ _));refine blk_put (cs:=#[.int .i64 ((rd_T57 l0_4 x77_3).f0),.int .i64 ((rd_T57 l0_4 x77_3).f1),.int .i64 ((rd_T57 l0_4 x77_3).f2),.int .i64 ((rd_T57 l0_4 x77_3).f3),.int .i64 ((rd_T57 l0_4 x77_3).f4),.slice none 0 0,.slice none 0 0,.slice none 0 0]) ?_ 5 _ rfl;(with_reducible repeat (first|refine blk_drewN ?_ _|refine blk_drew ?_|refine blk_alloc ?_ _));refine blk_put (cs:=#[.int .i64 ((rd_T57 l0_4 x77_3).f0),.int .i64 ((rd_T57 l0_4 x77_3).f1),.int .i64 ((rd_T57 l0_4 x77_3).f2),.int .i64 ((rd_T57 l0_4 x77_3).f3),.int .i64 0,.slice none 0 0,.slice none 0 0,.slice none 0 0]) ?_ 4 _ rfl;(with_reducible repeat (first|refine blk_drewN ?_ _|refine blk_drew ?_|refine blk_alloc ?_ _));refine blk_put (cs:=#[.int .i64 ((rd_T57 l0_4 x77_3).f0),.int .i64 ((rd_T57 l0_4 x77_3).f1),.int .i64 ((rd_T57 l0_4 x77_3).f2),.int .i64 0,.int .i64 0,.slice none 0 0,.slice none 0 0,.slice none 0 0]) ?_ 3 _ rfl;(with_reducible repeat (first|refine blk_drewN ?_ _|refine blk_drew ?_|refine blk_alloc ?_ _));refine blk_put (cs:=#[.int .i64 ((rd_T57 l0_4 x77_3).f0),.int .i64 ((rd_T57 l0_4 x77_3).f1),.int .i64 0,.int .i64 0,.int .i64 0,.slice none 0 0,.slice none 0 0,.slice none 0 0]) ?_ 2 _ rfl;(with_reducible repeat (first|refine blk_drewN ?_ _|refine blk_drew ?_|refine blk_alloc ?_ _));refine blk_put (cs:=#[.int .i64 ((rd_T57 l0_4 x77_3).f0),.int .i64 0,.int .i64 0,.int .i64 0,.int .i64 0,.slice none 0 0,.slice none 0 0,.slice none 0 0]) ?_ 1 _ rfl;(with_reducible repeat (first|refine blk_drewN ?_ _|refine blk_drew ?_|refine blk_alloc ?_ _));refine blk_put (cs:=#[.int .i64 0,.int .i64 0,.int .i64 0,.int .i64 0,.int .i64 0,.slice none 0 0,.slice none 0 0,.slice none 0 0]) ?_ 0 _ rfl;(with_reducible repeat (first|refine blk_drewN ?_ _|refine blk_drew ?_|refine blk_alloc ?_ _));exact BK178.out))⟩;have n3_:Aside0 (Below w.heap.size w w75):=⟨(by rw [hw];exact bl_)⟩;clear hw;clear BK161;clear BK165;clear BK178;clear HB;have BK161:=n0_;have BK165:=n1_;have BK178:=n2_;have HB:=n3_;clear n0_ n1_ n2_ n3_))
    go_roundg k3
    case measure => have:=HK1.out;have:=HK2.out;have:=HK3.out;omega
    case rel => exact ⟨(false),(wrap64 (x77_3 + 1)),r3_,r3_,H',⟨by have:=HK1.out;have:=HK2.out;have:=HK3.out;omega⟩,⟨bk_⟩,⟨bk_⟩,⟨bl_⟩⟩
end Go.Proofs.YtamdobdmjcgmoaaGreatDoor.Px
