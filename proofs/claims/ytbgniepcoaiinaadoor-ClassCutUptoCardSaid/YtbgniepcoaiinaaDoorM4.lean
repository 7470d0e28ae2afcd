/- class.reader's named and long. -/
/- class.reader.method: a method of bytes. -/
/- text.Decode's inner function: the next unit of the bytes that are left; the walk of it. -/
/- strings.Builder: copyCheck, at a builder that lies where it was made; WriteRune, by the printed contract of utf8.AppendRune. -/
/- text.Decode: what it computes, as a Lean function, and the walk of it. -/
/- pool.constant and its closure: what they compute, as Lean functions, and the walks over wire.Reader's contracts. -/
/- pool.Decode: what it computes, as a Lean function, and the walk over wire.Reader's, pool.constant's and pool.Check's contracts. -/
/- class.reader.class: a class of bytes. -/
/- class.Decode: what it computes, and the walk: the reader's panics of an errno are caught. -/
import Derived.Test.YtbgniepcoaiinaaDoorM3
import Derived.Test.YtbgniepcoaiinaaDoorM2
import Derived.Test.YtbgniepcoaiinaaDoorM1
import Derived.Lib.Bytes
import Derived.Deep.CutBlock
import Derived.Shelf.Strings.Builder1
import Derived.Lib.Builder
import Derived.BigCall
import Derived.Laws.Closers25b
import Derived.Deep.DeepCutAuto
import Derived.Recover
import Derived.Laws.Pointers
namespace Go.Proofs.YtbgniepcoaiinaaDoor.Px
open Go.RowKit Go.Proofs.YtbgniepcoaiinaaDoorW.PrintWords Go.Proofs.YtbgniepcoaiinaaDoorW.PrintLast Go.Proofs.YtbgniepcoaiinaaDoorW.PrintMore
set_option linter.unusedVariables false
set_option linter.unusedSimpArgs false
theorem dies_ {P : Program} {Q : Exit → Act → World → Prop} {ops : Array Oper} {oi : Oper} {N : Option Tmp} {a : Act} {w : World} {K : Act → World → Prop} {f : FuncId} {fn : Func} {aa : Array Operand} {ts : Array TypeId} (hf : P.funcs[f]? = some fn) (hname : (fn.name == "runtime.NumGoroutine") = false) (hb : fn.body.isSome = true) (args : Array Value)
  (hw:Region.wanted oi (yielded ops a.tmps)=true) (hN:oi.dst=N) (hop:oi.op=.call { callee:=.value (.func f),args:=aa,argTypes:=ts }) (hargs:aa.map a.eval=args)
  (h:Calls P f args w fun e w' => ∃ c,e=.panicked c∧Q (.panic c) a w'):if Region.wanted oi (yielded ops a.tmps)=true then Oper.wp P oi a w K Q else K (a.put N undef) w:=by
 rw [if_pos hw]
 have he:=enters_ hf hname hb args w
 have hrun:(execOp a.eval oi).run P w=.ok (.enter f args) w:=by
  unfold execOp
  simp [hop,resolve,Deferred.ofValue,invoke,Act.eval,hargs,he]
 unfold Oper.wp
 rw [hrun,Oper.upon_enter]
 refine h.mono fun e w'' hh => ?_
 obtain ⟨v,rfl,hk⟩:=hh
 exact hk
theorem RdStep.drew (B:Nat) (w:World) (g:Nat):RdStep B w w.drew g:=⟨below_drew (Below.refl _ _),⟨Nat.le_refl _,fun _ _ _ _ => rfl⟩⟩
theorem IsCr.drew {B:Nat} {w:World} {br g:Nat} {vp:Value} {bs:List Int} {p:Nat} (h:IsCr B w br g vp bs p):IsCr B w.drew br g vp bs p:=⟨h.R.below (below_drew (Below.refl _ _)),blk_drew h.blk⟩
theorem CrPost.from {B:Nat} {w w1 w':World} {br g:Nat} {vp:Value} {bs:List Int} {p:Nat} (hS:RdStep B w w1 g) (h:CrPost B w1 br g vp bs p w'):CrPost B w br g vp bs p w':=⟨h.1,hS.trans h.2⟩
theorem CrPost.drewN {B:Nat} {w w':World} {br g:Nat} {vp:Value} {bs:List Int} {p:Nat} (h:CrPost B w br g vp bs p w') (n:Nat):CrPost B w br g vp bs p (w'.drewN n):=⟨⟨h.1.R.drewN n,h.1.blk⟩,h.2.trans (RdStep.drewN _ _ _ _)⟩
def cr_named.f (k:Nat) (l0:List S67) (bs:List Int) (p:Nat) (s:ByteArray):Option (Rdo Unit):=(cr_num.f k bs p 2).bind fun o => o.bind fun x q => (pool_Text.f l0 x).bind fun t => some (if t.2=true∧t.1.toList=s.toList then .ok () q else .er 50)
set_option maxHeartbeats 8000000 in
set_option maxRecDepth 100000 in
theorem cr_named.calls {k B br g:Nat} {A0:Option Addr} {c0:Nat} {l0:List S67} {bs:List Int} {p:Nat} {s:ByteArray} {o:Rdo Unit} {w:World} (hI:IsCr B w br g (.slice A0 l0.length c0) bs p) (hl:bs.length≤140737488355328) (hP:∀ w',RdStep B w w' g→Kd.C k67 w' A0 l0.length l0) (hPC:l0.length≤c0) (h:cr_named.f k l0 bs p s=some o) :
  Calls Tryd.prog 83 #[.pointer (some ⟨br,0,none⟩),.string s] w fun e w' => RdoPost B w br g (.slice A0 l0.length c0) bs (fun _ => Value.tuple #[]) o e w':=by
 obtain ⟨o1,ho,h⟩:=Option.bind_eq_some_iff.mp h
 have HC:=Aside0.mk (cr_two.calls hI.drew hl ho)
 have HH:=Aside0.mk h
 have HP:=Aside0.mk hP
 have HPC:=Aside0.mk hPC
 have c1:=hI.c1
 clear hI hl h ho hP hPC
 go_enter Tryd.func83,Tryd.ntmps83
 go_wp2_with fail
 cases o1 with
 | ok x q =>
  obtain ⟨⟨t1,t2⟩,hT,h⟩:=Option.bind_eq_some_iff.mp HH.out
  have HT:=Aside0.mk hT
  have h:=Option.some.inj h
  clear hT HH
  refine start_ (n:=12) (S:=fun w' => w'.cell? ⟨br,1,none⟩=some (.slice A0 l0.length c0)) (ds:=[]) #[false,false,false,false,false,false,false,false,false,false,false,false] (by kernel_rfl) rfl rfl (c1) (fun hHeld => ?_)
  refine pure_ (i:=0) (N:=some 7) (v:=?_) (a':=?_) #[true,false,false,false,false,false,false,false,false,false,false,false] rfl rfl (by kernel_rfl) (fun _ _ _ h => h) (Or.inl ⟨by rfl,?_⟩) ?_ ?_
  rotate_left
  ·intro w'
   go_simp
   with_reducible rfl
  rotate_left
  ·simp only [Act.put,List.setIfInBounds_toArray,List.set_cons_zero,List.set_cons_succ,i64_w,i32_w]
   rfl
  refine pure_ (i:=1) (N:=some 8) (v:=?_) (a':=?_) #[true,true,false,false,false,false,false,false,false,false,false,false] rfl rfl (by kernel_rfl) (fun _ _ _ h => h) (Or.inl ⟨by rfl,?_⟩) ?_ ?_
  rotate_left
  ·intro w'
   go_simp
   with_reducible rfl
  rotate_left
  ·simp only [Act.put,List.setIfInBounds_toArray,List.set_cons_zero,List.set_cons_succ,i64_w,i32_w]
   rfl
  refine pure_ (i:=2) (N:=some 9) (v:=?_) (a':=?_) #[true,true,true,false,false,false,false,false,false,false,false,false] rfl rfl (by kernel_rfl) (fun _ _ _ h => h) (Or.inl ⟨by rfl,?_⟩) ?_ ?_
  rotate_left
  ·intro w'
   go_simp
   with_reducible rfl
  rotate_left
  ·simp only [Act.put,List.setIfInBounds_toArray,List.set_cons_zero,List.set_cons_succ,i64_w,i32_w]
   rfl
  refine pure_ (i:=4) (N:=some 11) (v:=?_) (a':=?_) #[true,true,true,false,true,false,false,false,false,false,false,false] rfl rfl (by kernel_rfl) (fun _ _ _ h => h) (Or.inl ⟨by rfl,?_⟩) ?_ ?_
  rotate_left
  ·intro w'
   go_simp
   with_reducible rfl
  rotate_left
  ·simp only [Act.put,List.setIfInBounds_toArray,List.set_cons_zero,List.set_cons_succ,i64_w,i32_w]
   rfl
  refine take_ (i:=3) (N:=some 10) (v:=?_) (a':=?_) #[true,true,true,true,true,false,false,false,false,false,false,false] rfl rfl (by kernel_rfl) (fun _ _ _ h => h) (Or.inl ⟨by rfl,?_⟩) hHeld ?_ ?_
  rotate_left
  ·intro w' s0
   go_simp
   with_reducible rfl
  rotate_left
  ·simp only [Act.put,List.setIfInBounds_toArray,List.set_cons_zero,List.set_cons_succ,i64_w,i32_w]
   rfl
  refine one_ (i:=5) (N:=some 12) #[true,true,true,true,true,true,false,false,false,false,false,false] rfl rfl (by kernel_rfl) (by decide) (fun K hK => ?_)
  refine goes_ Tryd.func58 (by kernel_rfl) rfl #[.pointer (some ⟨br,0,none⟩)] (by rfl) rfl rfl (by simp only [List.map_toArray,List.map_cons,List.map_nil];rfl) ?_
  refine (HC.out).mono ?_
  rintro e w2 ⟨rfl,hR⟩
  refine ⟨_,rfl,?_⟩
  have HR:=Aside0.mk hR
  have HST:=Aside0.mk ((RdStep.drew B w g).trans (And.right HR.out))
  have HI2:=Aside0.mk (And.left HR.out)
  have c2:=(And.left HR.out).c1
  clear hR
  refine hK.out _ _ (c2) (fun hHeld => ?_)
  clear hK K
  refine norm_ (a':=?_) ?_ ?_
  rotate_left
  ·show Act.put _ (some 12) _=_
   simp only [Act.put,List.setIfInBounds_toArray,List.set_cons_zero,List.set_cons_succ,i64_w,i32_w]
   rfl
  refine one_ (i:=6) (N:=some 13) #[true,true,true,true,true,true,true,false,false,false,false,false] rfl rfl (by kernel_rfl) (by decide) (fun K hK => ?_)
  refine goes_ Tryd.func42 (by kernel_rfl) rfl #[.slice A0 l0.length c0,.int .i64 x] (by rfl) rfl rfl (by simp only [List.map_toArray,List.map_cons,List.map_nil];rfl) ?_
  with_reducible refine (pool_Text.calls A0 c0 l0 x t1 t2 w2 (HP.out _ HST.out) HPC.out HT.out).mono ?_
  rintro e w3 ⟨rfl,⟨⟨nd,rfl⟩⟩⟩
  refine ⟨_,rfl,?_⟩
  refine hK.out _ _ ((by exact hHeld)) (fun hHeld => ?_)
  clear hK K
  refine norm_ (a':=?_) ?_ ?_
  rotate_left
  ·show Act.put _ (some 13) _=_
   simp only [Act.put,List.setIfInBounds_toArray,List.set_cons_zero,List.set_cons_succ,i64_w,i32_w]
   rfl
  refine pure_ (i:=7) (N:=some 6) (v:=?_) (a':=?_) #[true,true,true,true,true,true,true,true,false,false,false,false] rfl rfl (by kernel_rfl) (fun _ _ _ h => h) (Or.inl ⟨by rfl,?_⟩) ?_ ?_
  rotate_left
  ·intro w'
   go_simp
   with_reducible rfl
  rotate_left
  ·simp only [Act.put,List.setIfInBounds_toArray,List.set_cons_zero,List.set_cons_succ,i64_w,i32_w]
   rfl
  refine pure_ (i:=8) (N:=some 14) (v:=?_) (a':=?_) #[true,true,true,true,true,true,true,true,true,false,false,false] rfl rfl (by kernel_rfl) (fun _ _ _ h => h) (Or.inl ⟨by rfl,?_⟩) ?_ ?_
  rotate_left
  ·intro w'
   go_simp
   with_reducible rfl
  rotate_left
  ·simp only [Act.put,List.setIfInBounds_toArray,List.set_cons_zero,List.set_cons_succ,i64_w,i32_w]
   rfl
  refine pure_ (i:=9) (N:=some 15) (v:=?_) (a':=?_) #[true,true,true,true,true,true,true,true,true,true,false,false] rfl rfl (by kernel_rfl) (fun _ _ _ h => h) (Or.inl ⟨by rfl,?_⟩) ?_ ?_
  rotate_left
  ·intro w'
   go_simp
   with_reducible rfl
  rotate_left
  ·simp only [Act.put,List.setIfInBounds_toArray,List.set_cons_zero,List.set_cons_succ,i64_w,i32_w]
   rfl
  refine pure_ (i:=10) (N:=some 4) (v:=?_) (a':=?_) #[true,true,true,true,true,true,true,true,true,true,true,false] rfl rfl (by kernel_rfl) (fun _ _ _ h => h) (Or.inl ⟨by rfl,?_⟩) ?_ ?_
  rotate_left
  ·intro w'
   go_simp
   with_reducible rfl
  rotate_left
  ·simp only [Act.put,List.setIfInBounds_toArray,List.set_cons_zero,List.set_cons_succ,i64_w,i32_w]
   rfl
  refine pure_ (i:=11) (N:=some 5) (v:=?_) (a':=?_) #[true,true,true,true,true,true,true,true,true,true,true,true] rfl rfl (by kernel_rfl) (fun _ _ _ h => h) (Or.inl ⟨by rfl,?_⟩) ?_ ?_
  rotate_left
  ·intro w'
   go_simp
   with_reducible rfl
  rotate_left
  ·simp only [Act.put,List.setIfInBounds_toArray,List.set_cons_zero,List.set_cons_succ,i64_w,i32_w]
   rfl
  refine done_ (by kernel_rfl) ?_
  clear hHeld HC HP HPC c1 c2
  have HRR:=Aside0.mk (CrPost.from (RdStep.drew B w g) HR.out)
  cases t2 with
  | false =>
   rw [if_neg (by simp)] at h
   subst h
   go_wp2_with fail
   refine (cr_must_dies _ 50 (by decide) _).mono ?_
   rintro e w3 ⟨rfl,rfl⟩
   go_wp2
   exact ⟨rfl,rfl,(HRR.out.drewN _).below⟩
  | true =>
   by_cases ht:t1.toList=s.toList
   ·rw [if_pos ⟨rfl,ht⟩] at h
    subst h
    have htb:(t1.toList==s.toList)=true:=beq_iff_eq.mpr ht
    clear ht
    go_wp2
    go_end0
    exact ⟨rfl,HRR.out.drewN _⟩
   ·rw [if_neg (by simp [ht])] at h
    subst h
    have htb:(t1.toList==s.toList)=false:=beq_eq_false_iff_ne.mpr ht
    clear ht
    go_wp2_with fail
    refine (cr_must_dies _ 50 (by decide) _).mono ?_
    rintro e w3 ⟨rfl,rfl⟩
    go_wp2
    exact ⟨rfl,rfl,(HRR.out.drewN _).below⟩
 | er n =>
  have h:=Option.some.inj HH.out
  subst h
  clear HH
  refine start_ (n:=12) (S:=fun w' => w'.cell? ⟨br,1,none⟩=some (.slice A0 l0.length c0)) (ds:=[]) #[false,false,false,false,false,false,false,false,false,false,false,false] (by kernel_rfl) rfl rfl (c1) (fun hHeld => ?_)
  refine pure_ (i:=0) (N:=some 7) (v:=?_) (a':=?_) #[true,false,false,false,false,false,false,false,false,false,false,false] rfl rfl (by kernel_rfl) (fun _ _ _ h => h) (Or.inl ⟨by rfl,?_⟩) ?_ ?_
  rotate_left
  ·intro w'
   go_simp
   with_reducible rfl
  rotate_left
  ·simp only [Act.put,List.setIfInBounds_toArray,List.set_cons_zero,List.set_cons_succ,i64_w,i32_w]
   rfl
  refine pure_ (i:=1) (N:=some 8) (v:=?_) (a':=?_) #[true,true,false,false,false,false,false,false,false,false,false,false] rfl rfl (by kernel_rfl) (fun _ _ _ h => h) (Or.inl ⟨by rfl,?_⟩) ?_ ?_
  rotate_left
  ·intro w'
   go_simp
   with_reducible rfl
  rotate_left
  ·simp only [Act.put,List.setIfInBounds_toArray,List.set_cons_zero,List.set_cons_succ,i64_w,i32_w]
   rfl
  refine pure_ (i:=2) (N:=some 9) (v:=?_) (a':=?_) #[true,true,true,false,false,false,false,false,false,false,false,false] rfl rfl (by kernel_rfl) (fun _ _ _ h => h) (Or.inl ⟨by rfl,?_⟩) ?_ ?_
  rotate_left
  ·intro w'
   go_simp
   with_reducible rfl
  rotate_left
  ·simp only [Act.put,List.setIfInBounds_toArray,List.set_cons_zero,List.set_cons_succ,i64_w,i32_w]
   rfl
  refine pure_ (i:=4) (N:=some 11) (v:=?_) (a':=?_) #[true,true,true,false,true,false,false,false,false,false,false,false] rfl rfl (by kernel_rfl) (fun _ _ _ h => h) (Or.inl ⟨by rfl,?_⟩) ?_ ?_
  rotate_left
  ·intro w'
   go_simp
   with_reducible rfl
  rotate_left
  ·simp only [Act.put,List.setIfInBounds_toArray,List.set_cons_zero,List.set_cons_succ,i64_w,i32_w]
   rfl
  refine take_ (i:=3) (N:=some 10) (v:=?_) (a':=?_) #[true,true,true,true,true,false,false,false,false,false,false,false] rfl rfl (by kernel_rfl) (fun _ _ _ h => h) (Or.inl ⟨by rfl,?_⟩) hHeld ?_ ?_
  rotate_left
  ·intro w' s0
   go_simp
   with_reducible rfl
  rotate_left
  ·simp only [Act.put,List.setIfInBounds_toArray,List.set_cons_zero,List.set_cons_succ,i64_w,i32_w]
   rfl
  refine one_ (i:=5) (N:=some 12) #[true,true,true,true,true,true,false,false,false,false,false,false] rfl rfl (by kernel_rfl) (by decide) (fun K hK => ?_)
  refine dies_ Tryd.func58 (by kernel_rfl) rfl #[.pointer (some ⟨br,0,none⟩)] (by rfl) rfl rfl (by simp only [List.map_toArray,List.map_cons,List.map_nil];rfl) ?_
  refine HC.out.mono ?_
  rintro e w2 ⟨rfl,hR⟩
  refine ⟨_,rfl,?_⟩
  have HR:=Aside0.mk hR
  clear hR
  exact ⟨rfl,rfl,(below_drew (Below.refl B w)).trans HR.out⟩
def cr_long.f (k:Nat) (bs:List Int) (p:Nat):Option (Rdo (List Int)):=(cr_count.f k bs p 4 4096).bind fun o => o.bind fun x q => if 0≤x then some (if rdE bs q x.toNat=0 then .ok (rdL bs q x.toNat) (rdP bs q x.toNat) else .er (rdE bs q x.toNat)) else none
def LongPost (B:Nat) (w:World) (br g:Nat) (vp:Value) (bs:List Int) (o:Rdo (List Int)) (e:Ending) (w':World):Prop:=match o with
 | .ok ys p => ∃ v:Value,e=.returned v∧Kd.R (Kd.int .u8) 5 w' w.heap.size (fun _ => True) v ys∧CrPost B w br g vp bs p w'
 | .er n => Dies B w n e w'
set_option maxHeartbeats 8000000 in
set_option maxRecDepth 100000 in
theorem cr_long.calls {k B br g:Nat} {vp:Value} {bs:List Int} {p:Nat} {o:Rdo (List Int)} {w:World} (hI:IsCr B w br g vp bs p) (hl:bs.length≤140737488355328) (h:cr_long.f k bs p=some o) :
  Calls Tryd.prog 84 #[.pointer (some ⟨br,0,none⟩)] w fun e w' => LongPost B w br g vp bs o e w':=by
 obtain ⟨o1,ho,h⟩:=Option.bind_eq_some_iff.mp h
 have HC:=Aside0.mk (cr_count.calls (n:=4) hI.drew (by decide) (by decide) hl ho)
 have HH:=Aside0.mk h
 have HL:=Aside0.mk hl
 have c0_:=hI.c0
 have HO:=Aside0.mk ho
 clear hI hl h ho
 go_enter Tryd.func84,Tryd.ntmps84
 go_wp2_with fail
 cases o1 with
 | ok x q =>
  have h:(if 0≤x then some (if rdE bs q x.toNat=0 then Rdo.ok (rdL bs q x.toNat) (rdP bs q x.toNat) else .er (rdE bs q x.toNat)) else none)=some o:=HH.out
  by_cases hx:0≤x
  case neg => rw [if_neg hx] at h;cases h
  rw [if_pos hx] at h
  obtain ⟨n,rfl⟩:=Int.eq_ofNat_of_zero_le hx
  rw [Int.toNat_natCast] at h
  have h:=Option.some.inj h
  have hn:(n:Int)≤4096:=by
   obtain ⟨o2,_,h2⟩:=Option.bind_eq_some_iff.mp HO.out
   cases o2 with
   | ok y r =>
    have h3:=Option.some.inj h2
    by_cases hy:4096 < y
    ·rw [if_pos hy] at h3;cases h3
    ·rw [if_neg hy] at h3
     injection h3 with h4
     omega
   | er e => have h3:=Option.some.inj h2;cases h3
  have HN:Aside0 (n≤4611686018427387904):=⟨by omega⟩
  clear HH hx HO
  refine start_ (n:=12) (S:=fun w' => w'.cell? ⟨br,0,none⟩=some (.pointer (some ⟨g,0,none⟩))) (ds:=[]) #[false,false,false,false,false,false,false,false,false,false,false,false] (by kernel_rfl) rfl rfl (c0_) (fun hHeld => ?_)
  refine pure_ (i:=0) (N:=some 6) (v:=?_) (a':=?_) #[true,false,false,false,false,false,false,false,false,false,false,false] rfl rfl (by kernel_rfl) (fun _ _ _ h => h) (Or.inl ⟨by rfl,?_⟩) ?_ ?_
  rotate_left
  ·intro w'
   go_simp
   with_reducible rfl
  rotate_left
  ·simp only [Act.put,List.setIfInBounds_toArray,List.set_cons_zero,List.set_cons_succ,i64_w,i32_w]
   rfl
  refine pure_ (i:=1) (N:=some 7) (v:=?_) (a':=?_) #[true,true,false,false,false,false,false,false,false,false,false,false] rfl rfl (by kernel_rfl) (fun _ _ _ h => h) (Or.inl ⟨by rfl,?_⟩) ?_ ?_
  rotate_left
  ·intro w'
   go_simp
   with_reducible rfl
  rotate_left
  ·simp only [Act.put,List.setIfInBounds_toArray,List.set_cons_zero,List.set_cons_succ,i64_w,i32_w]
   rfl
  refine pure_ (i:=2) (N:=some 8) (v:=?_) (a':=?_) #[true,true,true,false,false,false,false,false,false,false,false,false] rfl rfl (by kernel_rfl) (fun _ _ _ h => h) (Or.inl ⟨by rfl,?_⟩) ?_ ?_
  rotate_left
  ·intro w'
   go_simp
   with_reducible rfl
  rotate_left
  ·simp only [Act.put,List.setIfInBounds_toArray,List.set_cons_zero,List.set_cons_succ,i64_w,i32_w]
   rfl
  refine pure_ (i:=4) (N:=some 10) (v:=?_) (a':=?_) #[true,true,true,false,true,false,false,false,false,false,false,false] rfl rfl (by kernel_rfl) (fun _ _ _ h => h) (Or.inl ⟨by rfl,?_⟩) ?_ ?_
  rotate_left
  ·intro w'
   go_simp
   with_reducible rfl
  rotate_left
  ·simp only [Act.put,List.setIfInBounds_toArray,List.set_cons_zero,List.set_cons_succ,i64_w,i32_w]
   rfl
  refine take_ (i:=3) (N:=some 9) (v:=?_) (a':=?_) #[true,true,true,true,true,false,false,false,false,false,false,false] rfl rfl (by kernel_rfl) (fun _ _ _ h => h) (Or.inl ⟨by rfl,?_⟩) hHeld ?_ ?_
  rotate_left
  ·intro w' s0
   go_simp
   with_reducible rfl
  rotate_left
  ·simp only [Act.put,List.setIfInBounds_toArray,List.set_cons_zero,List.set_cons_succ,i64_w,i32_w]
   rfl
  refine one_ (i:=5) (N:=some 11) #[true,true,true,true,true,true,false,false,false,false,false,false] rfl rfl (by kernel_rfl) (by decide) (fun K hK => ?_)
  refine goes_ Tryd.func59 (by kernel_rfl) rfl #[.pointer (some ⟨br,0,none⟩),.int .i64 4,.int .i64 4096] (by rfl) rfl rfl (by simp only [List.map_toArray,List.map_cons,List.map_nil];rfl) ?_
  refine (HC.out).mono ?_
  rintro e w2 ⟨rfl,hR⟩
  refine ⟨_,rfl,?_⟩
  have HR:=Aside0.mk hR
  have HST:=Aside0.mk ((RdStep.drew B w g).trans (And.right HR.out))
  have HI2:=Aside0.mk (And.left HR.out)
  have c2:=(And.left HR.out).c0
  clear hR
  refine hK.out _ _ (c2) (fun hHeld => ?_)
  clear hK K
  refine norm_ (a':=?_) ?_ ?_
  rotate_left
  ·show Act.put _ (some 11) _=_
   simp only [Act.put,List.setIfInBounds_toArray,List.set_cons_zero,List.set_cons_succ,i64_w,i32_w]
   rfl
  refine one_ (i:=6) (N:=some 12) #[true,true,true,true,true,true,true,false,false,false,false,false] rfl rfl (by kernel_rfl) (by decide) (fun K hK => ?_)
  refine goes_ Tryd.func57 (by kernel_rfl) rfl #[.pointer (some ⟨g,0,none⟩),.int .i64 n] (by rfl) rfl rfl (by simp only [List.map_toArray,List.map_cons,List.map_nil];rfl) ?_
  with_reducible refine (rd_Bytes.calls B g bs q n w2 HI2.out.R HL.out HN.out).mono ?_
  rintro e w3 ⟨v0,rfl,hB3,hR3⟩
  refine ⟨_,rfl,?_⟩
  have HR3:=Aside0.mk (HI2.out.step hR3)
  have HB3:=Aside0.mk hB3
  have c3:=(And.left HR3.out).c0
  clear hB3 hR3
  refine hK.out _ _ (c3) (fun hHeld => ?_)
  clear hK K
  refine norm_ (a':=?_) ?_ ?_
  rotate_left
  ·show Act.put _ (some 12) _=_
   simp only [Act.put,List.setIfInBounds_toArray,List.set_cons_zero,List.set_cons_succ,i64_w,i32_w]
   rfl
  refine pure_ (i:=7) (N:=some 5) (v:=?_) (a':=?_) #[true,true,true,true,true,true,true,true,false,false,false,false] rfl rfl (by kernel_rfl) (fun _ _ _ h => h) (Or.inl ⟨by rfl,?_⟩) ?_ ?_
  rotate_left
  ·intro w'
   go_simp
   with_reducible rfl
  rotate_left
  ·simp only [Act.put,List.setIfInBounds_toArray,List.set_cons_zero,List.set_cons_succ,i64_w,i32_w]
   rfl
  refine pure_ (i:=8) (N:=some 13) (v:=?_) (a':=?_) #[true,true,true,true,true,true,true,true,true,false,false,false] rfl rfl (by kernel_rfl) (fun _ _ _ h => h) (Or.inl ⟨by rfl,?_⟩) ?_ ?_
  rotate_left
  ·intro w'
   go_simp
   with_reducible rfl
  rotate_left
  ·simp only [Act.put,List.setIfInBounds_toArray,List.set_cons_zero,List.set_cons_succ,i64_w,i32_w]
   rfl
  refine pure_ (i:=9) (N:=some 14) (v:=?_) (a':=?_) #[true,true,true,true,true,true,true,true,true,true,false,false] rfl rfl (by kernel_rfl) (fun _ _ _ h => h) (Or.inl ⟨by rfl,?_⟩) ?_ ?_
  rotate_left
  ·intro w'
   go_simp
   with_reducible rfl
  rotate_left
  ·simp only [Act.put,List.setIfInBounds_toArray,List.set_cons_zero,List.set_cons_succ,i64_w,i32_w]
   rfl
  refine pure_ (i:=10) (N:=some 3) (v:=?_) (a':=?_) #[true,true,true,true,true,true,true,true,true,true,true,false] rfl rfl (by kernel_rfl) (fun _ _ _ h => h) (Or.inl ⟨by rfl,?_⟩) ?_ ?_
  rotate_left
  ·intro w'
   go_simp
   with_reducible rfl
  rotate_left
  ·simp only [Act.put,List.setIfInBounds_toArray,List.set_cons_zero,List.set_cons_succ,i64_w,i32_w]
   rfl
  refine pure_ (i:=11) (N:=some 4) (v:=?_) (a':=?_) #[true,true,true,true,true,true,true,true,true,true,true,true] rfl rfl (by kernel_rfl) (fun _ _ _ h => h) (Or.inl ⟨by rfl,?_⟩) ?_ ?_
  rotate_left
  ·intro w'
   go_simp
   with_reducible rfl
  rotate_left
  ·simp only [Act.put,List.setIfInBounds_toArray,List.set_cons_zero,List.set_cons_succ,i64_w,i32_w]
   rfl
  refine done_ (by kernel_rfl) ?_
  clear hHeld HC c0_ c2
  have HRR:=Aside0.mk (CrPost.from ((RdStep.drew B w g).trans (And.right HR.out)) HR3.out)
  have HB4:=Aside0.mk (show Kd.R (Kd.int .u8) 5 w3 w.heap.size (fun _ => True) v0 (rdL bs q n) from Kd.R_lower HB3.out (And.right HR.out).keep.1)
  by_cases he:rdE bs q n=0
  ·rw [if_pos he] at h
   subst h
   rw [he]
   clear he
   go_wp2_with fail
   refine (cr_must_ok _ _).mono ?_
   rintro e w4 ⟨rfl,rfl⟩
   go_wp2
   go_ret
   exact ⟨_,rfl,HB4.out,HRR.out⟩
  ·rw [if_neg he] at h
   subst h
   have HE:=Aside0.mk he
   clear he
   go_wp2_with fail
   refine (cr_must_dies _ _ HE.out _).mono ?_
   rintro e w4 ⟨rfl,rfl⟩
   go_wp2
   exact ⟨rfl,rfl,HRR.out.below⟩
 | er n =>
  have h:=Option.some.inj HH.out
  subst h
  clear HH
  refine start_ (n:=12) (S:=fun w' => w'.cell? ⟨br,0,none⟩=some (.pointer (some ⟨g,0,none⟩))) (ds:=[]) #[false,false,false,false,false,false,false,false,false,false,false,false] (by kernel_rfl) rfl rfl (c0_) (fun hHeld => ?_)
  refine pure_ (i:=0) (N:=some 6) (v:=?_) (a':=?_) #[true,false,false,false,false,false,false,false,false,false,false,false] rfl rfl (by kernel_rfl) (fun _ _ _ h => h) (Or.inl ⟨by rfl,?_⟩) ?_ ?_
  rotate_left
  ·intro w'
   go_simp
   with_reducible rfl
  rotate_left
  ·simp only [Act.put,List.setIfInBounds_toArray,List.set_cons_zero,List.set_cons_succ,i64_w,i32_w]
   rfl
  refine pure_ (i:=1) (N:=some 7) (v:=?_) (a':=?_) #[true,true,false,false,false,false,false,false,false,false,false,false] rfl rfl (by kernel_rfl) (fun _ _ _ h => h) (Or.inl ⟨by rfl,?_⟩) ?_ ?_
  rotate_left
  ·intro w'
   go_simp
   with_reducible rfl
  rotate_left
  ·simp only [Act.put,List.setIfInBounds_toArray,List.set_cons_zero,List.set_cons_succ,i64_w,i32_w]
   rfl
  refine pure_ (i:=2) (N:=some 8) (v:=?_) (a':=?_) #[true,true,true,false,false,false,false,false,false,false,false,false] rfl rfl (by kernel_rfl) (fun _ _ _ h => h) (Or.inl ⟨by rfl,?_⟩) ?_ ?_
  rotate_left
  ·intro w'
   go_simp
   with_reducible rfl
  rotate_left
  ·simp only [Act.put,List.setIfInBounds_toArray,List.set_cons_zero,List.set_cons_succ,i64_w,i32_w]
   rfl
  refine pure_ (i:=4) (N:=some 10) (v:=?_) (a':=?_) #[true,true,true,false,true,false,false,false,false,false,false,false] rfl rfl (by kernel_rfl) (fun _ _ _ h => h) (Or.inl ⟨by rfl,?_⟩) ?_ ?_
  rotate_left
  ·intro w'
   go_simp
   with_reducible rfl
  rotate_left
  ·simp only [Act.put,List.setIfInBounds_toArray,List.set_cons_zero,List.set_cons_succ,i64_w,i32_w]
   rfl
  refine take_ (i:=3) (N:=some 9) (v:=?_) (a':=?_) #[true,true,true,true,true,false,false,false,false,false,false,false] rfl rfl (by kernel_rfl) (fun _ _ _ h => h) (Or.inl ⟨by rfl,?_⟩) hHeld ?_ ?_
  rotate_left
  ·intro w' s0
   go_simp
   with_reducible rfl
  rotate_left
  ·simp only [Act.put,List.setIfInBounds_toArray,List.set_cons_zero,List.set_cons_succ,i64_w,i32_w]
   rfl
  refine one_ (i:=5) (N:=some 11) #[true,true,true,true,true,true,false,false,false,false,false,false] rfl rfl (by kernel_rfl) (by decide) (fun K hK => ?_)
  refine dies_ Tryd.func59 (by kernel_rfl) rfl #[.pointer (some ⟨br,0,none⟩),.int .i64 4,.int .i64 4096] (by rfl) rfl rfl (by simp only [List.map_toArray,List.map_cons,List.map_nil];rfl) ?_
  refine HC.out.mono ?_
  rintro e w2 ⟨rfl,hR⟩
  refine ⟨_,rfl,?_⟩
  have HR:=Aside0.mk hR
  clear hR
  exact ⟨rfl,rfl,(below_drew (Below.refl B w)).trans HR.out⟩
end Go.Proofs.YtbgniepcoaiinaaDoor.Px
namespace Go.Proofs.YtbgniepcoaiinaaDoor.Px
open Go.RowKit Go.Proofs.YtbgniepcoaiinaaDoorW.PrintWords Go.Proofs.YtbgniepcoaiinaaDoorW.PrintLast Go.Proofs.YtbgniepcoaiinaaDoorW.PrintMore
set_option linter.unusedVariables false
set_option linter.unusedSimpArgs false
def cr_trap.f (k:Nat) (bs:List Int) (p:Nat):Option (Rdo Trp) :=
 (cr_num.f k bs p 2).bind fun o => o.bind fun x1 p1 => (cr_num.f k bs p1 2).bind fun o => o.bind fun x2 p2 => (cr_num.f k bs p2 2).bind fun o => o.bind fun x3 p3 => (cr_num.f k bs p3 2).bind fun o => o.bind fun x4 p4 => some (.ok ⟨x1,x2,x3,x4⟩ p4)
def cr_traps.f (k:Nat) (bs:List Int):Nat→Nat→List Trp→Option (Rdo (List Trp))
 | 0,p,l => some (.ok l p)
 | n + 1,p,l => (cr_trap.f k bs p).bind fun o => o.bind fun t p1 => cr_traps.f k bs n p1 (l++[t])
def cr_maps.f (k:Nat) (l0:List Cst) (bs:List Int) (p:Nat):Option (Rdo (List Int)) :=
 (cr_num.f k bs p 2).bind fun o => o.bind fun x q => if x=0 then some (.ok [] q) else if x=1 then
  (cr_named.f k l0 bs q sMaps).bind fun o => o.bind fun _ q1 => (cr_long.f k bs q1).bind fun o => o.bind fun ys q2 => some (if 0 < ys.length then .ok ys q2 else .er 50) else some (.er 50)
def cr_method.f (k:Nat) (l0:List Cst) (bs:List Int) (p:Nat):Option (Rdo Mth) :=
 (cr_num.f k bs p 2).bind fun o => o.bind fun x1 p1 => (cr_num.f k bs p1 2).bind fun o => o.bind fun x2 p2 => (cr_num.f k bs p2 2).bind fun o => o.bind fun x3 p3 =>
 (cr_same.f k bs p3 2 1).bind fun o => o.bind fun _ p4 => (cr_named.f k l0 bs p4 sCode).bind fun o => o.bind fun _ p5 => (cr_num.f k bs p5 4).bind fun o => o.bind fun n p6 =>
 (cr_num.f k bs p6 2).bind fun o => o.bind fun x7 p7 => (cr_num.f k bs p7 2).bind fun o => o.bind fun x8 p8 => (cr_long.f k bs p8).bind fun o => o.bind fun code p9 =>
 (cr_count.f k bs p9 2 64).bind fun o => o.bind fun c p10 => (cr_traps.f k bs c.toNat p10 []).bind fun o => o.bind fun traps p11 => (cr_maps.f k l0 bs p11).bind fun o => o.bind fun maps p12 =>
 some (if (p12:Int)=wrap64 (n + p6) then .ok ⟨x1,x2,x3,x7,x8,code,traps,maps⟩ p12 else .er 50)
def MthPost (B:Nat) (w:World) (br g:Nat) (vp:Value) (bs:List Int) (o:Rdo Mth) (e:Ending) (w':World):Prop:=match o with
 | .ok m p => ∃ v5 v6 v7:Value,e=.returned (.agg #[.int .i64 m.f0,.int .i64 m.f1,.int .i64 m.f2,.int .i64 m.f3,.int .i64 m.f4,v5,v6,v7])∧Kd.R (Kd.int .u8) 5 w' w.heap.size (fun _ => True) v5 m.f5∧Kd.R k82 82 w' w.heap.size (fun _ => True) v6 m.f6∧Kd.R (Kd.int .u8) 5 w' w.heap.size (fun _ => True) v7 m.f7∧CrPost B w br g vp bs p w'
 | .er n => Dies B w n e w'
theorem cr_count_le {k:Nat} {bs:List Int} {p n:Nat} {most x:Int} {q:Nat} (h:cr_count.f k bs p n most=some (.ok x q)):x≤most:=by
 obtain ⟨o2,_,h2⟩:=Option.bind_eq_some_iff.mp h
 cases o2 with
 | ok y r =>
  have h3:=Option.some.inj h2
  by_cases hy:most < y
  ·rw [if_pos hy] at h3;cases h3
  ·rw [if_neg hy] at h3
   injection h3 with h4
   omega
 | er e => have h3:=Option.some.inj h2;cases h3
section
variable {P:Program} {Q:Exit→Act→World→Prop} {ops:Array Oper} {oi:Oper} {N:Option Tmp} {a:Act} {w:World} {K:Act→World→Prop} {f:FuncId} {fn:Func} {t:Operand} {ts:Array TypeId}
theorem runsV_ (hf : P.funcs[f]? = some fn) (hname : (fn.name == "runtime.NumGoroutine") = false) (hb : fn.body.isSome = true) (r : Value) (hop : oi.op = .call { callee := .value t, args := #[], argTypes := ts }) (ht : a.eval t = .func (.func f) #[r] #[]) : (execOp a.eval oi).run P w = .ok (.enter f #[r]) w := by
 have he:=enters_ hf hname hb #[r] w
 unfold execOp
 simp [hop,resolve,Deferred.ofValue,invoke,ht,he]
theorem goesV_ (hf : P.funcs[f]? = some fn) (hname : (fn.name == "runtime.NumGoroutine") = false) (hb : fn.body.isSome = true) (r : Value) (hw : Region.wanted oi (yielded ops a.tmps) = true) (hN : oi.dst = N) (hop : oi.op = .call { callee := .value t, args := #[], argTypes := ts }) (ht : a.eval t = .func (.func f) #[r] #[])
  (h:Calls P f #[r] w fun e w' => ∃ v,e=.returned v∧K (a.put N v) w'):if Region.wanted oi (yielded ops a.tmps)=true then Oper.wp P oi a w K Q else K (a.put N undef) w :=
 call_ f #[r] hw hN (runsV_ hf hname hb r hop ht) h
theorem diesV_ (hf : P.funcs[f]? = some fn) (hname : (fn.name == "runtime.NumGoroutine") = false) (hb : fn.body.isSome = true) (r : Value) (hw : Region.wanted oi (yielded ops a.tmps) = true) (hop : oi.op = .call { callee := .value t, args := #[], argTypes := ts }) (ht : a.eval t = .func (.func f) #[r] #[])
  (h:Calls P f #[r] w fun e w' => ∃ c,e=.panicked c∧Q (.panic c) a w'):if Region.wanted oi (yielded ops a.tmps)=true then Oper.wp P oi a w K Q else K (a.put N undef) w:=by
 rw [if_pos hw]
 unfold Oper.wp
 rw [runsV_ hf hname hb r hop ht,Oper.upon_enter]
 refine h.mono fun e w'' hh => ?_
 obtain ⟨v,rfl,hk⟩:=hh
 exact hk
end
theorem infoTrp:(Tryd.prog.info? 82).map (fun i => (i.zero,i.size,i.bytes))=some (some (.agg #[.int .i64 0,.int .i64 0,.int .i64 0,.int .i64 0]),4,32):=by kernel_rfl
abbrev M0:Array Value:=#[.int .i64 0,.int .i64 0,.int .i64 0,.int .i64 0,.int .i64 0,.slice none 0 0,.slice none 0 0,.slice none 0 0]
structure MthSt (B:Nat) (w W:World) (br g:Nat) (vp:Value) (bs:List Int) (p bm0 bm:Nat) (cs:Array Value):Prop where
 C:CrPost B w br g vp bs p W
 k0:W.heap[bm0]?=some (.cells M0 56 (0,0))
 km:W.heap[bm]?=some (.cells cs 56 (0,0))
 h0:w.heap.size≤bm0
 hm:w.heap.size≤bm
 lt:g < w.heap.size
theorem MthSt.step {B:Nat} {w W W':World} {br g:Nat} {vp:Value} {bs:List Int} {p p' bm0 bm:Nat} {cs:Array Value} (h:MthSt B w W br g vp bs p bm0 bm cs) (hR:CrPost B W br g vp bs p' W'):MthSt B w W' br g vp bs p' bm0 bm cs :=
 ⟨⟨hR.1,h.C.2.trans hR.2⟩,hR.2.blk (by have:=h.h0;have:=h.lt;omega) h.k0,hR.2.blk (by have:=h.hm;have:=h.lt;omega) h.km,h.h0,h.hm,h.lt⟩
theorem IsCr.below {B:Nat} {w W:World} {br g:Nat} {vp:Value} {bs:List Int} {p:Nat} (h:IsCr B w br g vp bs p) (hb:Below w.heap.size w W):IsCr B W br g vp bs p:=⟨h.R.below hb,(hb.block _ (blk_lt h.blk)).trans h.blk⟩
theorem CrPost.new {B:Nat} {w W W':World} {br g:Nat} {vp:Value} {bs:List Int} {p:Nat} (h:CrPost B w br g vp bs p W) (hb:Below W.heap.size W W'):CrPost B w br g vp bs p W' :=
 ⟨h.1.below hb,h.2.trans ⟨hb.mono h.1.R.base_le,KeepBut.of_below hb _ _⟩⟩
theorem MthSt.new {B:Nat} {w W W':World} {br g:Nat} {vp:Value} {bs:List Int} {p bm0 bm:Nat} {cs:Array Value} (h:MthSt B w W br g vp bs p bm0 bm cs) (hb:Below W.heap.size W W'):MthSt B w W' br g vp bs p bm0 bm cs :=
 ⟨h.C.new hb,(hb.block _ (blk_lt h.k0)).trans h.k0,(hb.block _ (blk_lt h.km)).trans h.km,h.h0,h.hm,h.lt⟩
theorem MthSt.set {B:Nat} {w W:World} {br g:Nat} {vp:Value} {bs:List Int} {p bm0 bm:Nat} {cs:Array Value} (h:MthSt B w W br g vp bs p bm0 bm cs) (hn:bm0 ≠ bm) (j:Nat) (v:Value):MthSt B w (W.setCell ⟨bm,j,none⟩ v) br g vp bs p bm0 bm (cs.setIfInBounds j v) :=
 ⟨⟨⟨h.C.1.R.far h.km (by decide) (by decide) j v,blk_far h.C.1.blk (blk_ne h.C.1.blk h.km (by decide)) v⟩,⟨h.C.2.below.setCell (p:=⟨bm,j,none⟩) (by have:=h.C.1.R.ge;have:=h.lt;have:=h.hm;show B≤bm;omega) v,⟨by simpa using h.C.2.keep.1,fun i hi hg hr => (Below.heap_setCell W ⟨bm,j,none⟩ v i (by have:=h.hm;show i ≠ bm;omega)).trans (h.C.2.keep.2 i hi hg hr)⟩⟩⟩,blk_far h.k0 hn v,blk_set h.km j v,h.h0,h.hm,h.lt⟩
theorem MthSt.grown {α:Type} {d:Kd α} {B e:Nat} {w W W':World} {br g:Nat} {vp:Value} {bs:List Int} {p bm0 bm:Nat} {cs:Array Value} {u:Value} {ok:Nat→Prop} {l:List α} (h:MthSt B w W br g vp bs p bm0 bm cs) (hR:d.R e W w.heap.size ok u l) (he:e ≠ 5∧e ≠ 108∧e ≠ 79∧e ≠ 56) (hB:Below w.heap.size W W') (hg:W.grownBy W' u.ownBlock):MthSt B w W' br g vp bs p bm0 bm cs:=by
 have hgl:=h.lt
 have hBw:B≤w.heap.size:=by have:=h.C.1.R.ge;omega
 obtain ⟨v,hb,hr⟩:=h.C.1.R.blk
 refine ⟨⟨⟨⟨h.C.1.R.ge,⟨v,(hg.block _ (blk_lt hb) (Kd.R_ne hR hb he.2.1)).trans hb,Kd.R_drop (Kd.R_grown (Kd.R_apartR hr hR (fun q hq => by rcases List.mem_cons.mp hq with rfl|hq;exact fun x => he.1 x.symm;exact absurd hq (by simp [Kd.int,Kd.scalar]))) hg (fun _ hk => hk.2))⟩,h.C.1.R.hi⟩,(hg.block _ (blk_lt h.C.1.blk) (Kd.R_ne hR h.C.1.blk he.2.2.1)).trans h.C.1.blk⟩,⟨h.C.2.below.trans (hB.mono hBw),⟨Nat.le_trans h.C.2.keep.1 hB.size,fun i hi hg1 hr1 => (hB.block i hi).trans (h.C.2.keep.2 i hi hg1 hr1)⟩⟩⟩,(hg.block _ (blk_lt h.k0) (Kd.R_ne hR h.k0 he.2.2.2)).trans h.k0,(hg.block _ (blk_lt h.km) (Kd.R_ne hR h.km he.2.2.2)).trans h.km,h.h0,h.hm,h.lt⟩
theorem out_sets {B:Nat} {w:World} {br g bm0:Nat} {vp v5 v6 v7:Value} {bs l5 l7:List Int} {l6:List Trp} {p:Nat} (h0:w.heap.size≤bm0) (hg:g < w.heap.size):∀ (L:List (Nat × Value)) (W:World) (cs:Array Value),W.heap[bm0]?=some (.cells cs 56 (0,0))→CrPost B w br g vp bs p W→Kd.R (Kd.int .u8) 5 W w.heap.size (fun _ => True) v5 l5→Kd.R k82 82 W w.heap.size (fun _ => True) v6 l6→Kd.R (Kd.int .u8) 5 W w.heap.size (fun _ => True) v7 l7 →
  CrPost B w br g vp bs p (L.foldl (fun W x => W.setCell ⟨bm0,x.1,none⟩ x.2) W)∧Kd.R (Kd.int .u8) 5 (L.foldl (fun W x => W.setCell ⟨bm0,x.1,none⟩ x.2) W) w.heap.size (fun _ => True) v5 l5∧Kd.R k82 82 (L.foldl (fun W x => W.setCell ⟨bm0,x.1,none⟩ x.2) W) w.heap.size (fun _ => True) v6 l6∧Kd.R (Kd.int .u8) 5 (L.foldl (fun W x => W.setCell ⟨bm0,x.1,none⟩ x.2) W) w.heap.size (fun _ => True) v7 l7
 | [],_,_,_,hC,h5,h6,h7 => ⟨hC,h5,h6,h7⟩
 | (j,v) :: L,W,cs,hb,hC,h5,h6,h7 => by
  refine out_sets h0 hg L (W.setCell ⟨bm0,j,none⟩ v) _ (blk_set hb j v) ⟨⟨hC.1.R.far hb (by decide) (by decide) j v,blk_far hC.1.blk (blk_ne hC.1.blk hb (by decide)) v⟩,⟨hC.2.below.setCell (p:=⟨bm0,j,none⟩) (by have:=hC.1.R.ge;show B≤bm0;omega) v,⟨by simpa using hC.2.keep.1,fun i hi hg1 hr => (Below.heap_setCell W ⟨bm0,j,none⟩ v i (by show i ≠ bm0;omega)).trans (hC.2.keep.2 i hi hg1 hr)⟩⟩⟩ (Kd.R_set h5 hb (by decide) j v) (Kd.R_set h6 hb (by decide) j v) (Kd.R_set h7 hb (by decide) j v)
set_option maxHeartbeats 80000000 in
set_option maxRecDepth 100000 in
theorem cr_method.calls {k B br g:Nat} {A0:Option Addr} {c0:Nat} {l0:List Cst} {bs:List Int} {p:Nat} {o:Rdo Mth} {w:World} (hI:IsCr B w br g (.slice A0 l0.length c0) bs p) (hl:bs.length≤140737488355328) (hP:∀ w',RdStep B w w' g→Kd.C k67 w' A0 l0.length l0) (hPC:l0.length≤c0) (h:cr_method.f k l0 bs p=some o) :
  Calls Tryd.prog 60 #[.pointer (some ⟨br,0,none⟩)] w fun e w' => MthPost B w br g (.slice A0 l0.length c0) bs o e w':=by
 have hmf:∀ (fn:Fn) (first cap:Array Value) (w:World),(Instr.makeFunc fn first cap).run Tryd.prog w=.ok (.func fn first cap) w:=fun _ _ _ _ => rfl
 have hu:=Tryd.underlying56
 have hu2:=Tryd.underlying82
 obtain ⟨o1,h1,h⟩:=Option.bind_eq_some_iff.mp h
 have H1:=Aside0.mk h1
 have HH:=Aside0.mk h
 have HI:=Aside0.mk hI
 have HL:=Aside0.mk hl
 have HP:=Aside0.mk hP
 have HPC:=Aside0.mk hPC
 clear h1 h hI hl hP hPC
 go_enter Tryd.func60,Tryd.ntmps60
 go_wp2_with fail
 obtain ⟨W0,hW0⟩:∃ W0,W0=w.alloc (.cells M0 56 (0,0)):=⟨_,rfl⟩
 obtain ⟨bm0,hm0⟩:∃ bm0,bm0=w.heap.size:=⟨_,rfl⟩
 rw [← hW0,← hm0]
 have hb0:Below w.heap.size w W0:=by rw [hW0];exact below_alloc (Below.refl _ _) _
 have HC0:Aside0 (CrPost B w br g (.slice A0 l0.length c0) bs p W0):=⟨⟨HI.out.below hb0,⟨hb0.mono HI.out.R.base_le,KeepBut.of_below hb0 _ _⟩⟩⟩
 have HK0:Aside0 (W0.heap[bm0]?=some (.cells M0 56 (0,0))):=⟨by rw [hW0,hm0];exact blk_new _ _⟩
 have HM0:=Aside0.mk hm0
 have HLT:=Aside0.mk HI.out.R.lt
 clear hW0 hm0 hb0 HI
 have HC1:=Aside0.mk (cr_two.calls HC0.out.1 HL.out H1.out)
 clear H1
 refine HC1.out.mono ?_
 clear HC1
 cases o1 with
 | er n =>
  have h:=Option.some.inj HH.out
  subst h
  rintro e w1 ⟨rfl,hR⟩
  have HR:=Aside0.mk (HC0.out.below.trans hR)
  clear hR HH
  go_wp2
  exact ⟨rfl,rfl,HR.out⟩
 | ok x1 p1 =>
 obtain ⟨o2,h2,h⟩:=Option.bind_eq_some_iff.mp HH.out
 have H2:=Aside0.mk h2
 clear HH h2
 have HH:=Aside0.mk h
 clear h
 rintro e W1 ⟨rfl,hR⟩
 have HCC:=Aside0.mk (CrPost.from HC0.out.2 hR)
 have HKK:=Aside0.mk (hR.2.blk (by have:=HM0.out;have:=HLT.out;omega) HK0.out)
 clear hR HK0 HC0
 go_wp2_with fail
 have HC2:=Aside0.mk (cr_two.calls HCC.out.1 HL.out H2.out)
 clear H2
 refine HC2.out.mono ?_
 clear HC2
 cases o2 with
 | er n =>
  have h:=Option.some.inj HH.out
  subst h
  rintro e wd ⟨rfl,hR⟩
  have HR:=Aside0.mk (HCC.out.below.trans hR)
  clear hR HH
  go_wp2
  exact ⟨rfl,rfl,HR.out⟩
 | ok x2 p2 =>
 rintro e W2 ⟨rfl,hR⟩
 have HCC2:=Aside0.mk (CrPost.from HCC.out.2 hR)
 have HKK2:=Aside0.mk (hR.2.blk (by have:=HM0.out;have:=HLT.out;omega) HKK.out)
 clear hR HCC HKK
 have HCC:=HCC2
 have HKK:=HKK2
 clear HCC2 HKK2
 obtain ⟨o3,h3,h⟩:=Option.bind_eq_some_iff.mp HH.out
 have H3:=Aside0.mk h3
 clear HH h3
 have HH:=Aside0.mk h
 clear h
 go_wp2_with fail
 have HC3:=Aside0.mk (cr_two.calls HCC.out.1 HL.out H3.out)
 clear H3
 refine HC3.out.mono ?_
 clear HC3
 cases o3 with
 | er n =>
  have h:=Option.some.inj HH.out
  subst h
  rintro e wd ⟨rfl,hR⟩
  have HR:=Aside0.mk (HCC.out.below.trans hR)
  clear hR HH
  go_wp2
  exact ⟨rfl,rfl,HR.out⟩
 | ok x3 p3 =>
 rintro e W3 ⟨rfl,hR⟩
 have HCC2:=Aside0.mk (CrPost.from HCC.out.2 hR)
 have HKK2:=Aside0.mk (hR.2.blk (by have:=HM0.out;have:=HLT.out;omega) HKK.out)
 clear hR HCC HKK
 have HCC:=HCC2
 have HKK:=HKK2
 clear HCC2 HKK2
 obtain ⟨o4,h4,h⟩:=Option.bind_eq_some_iff.mp HH.out
 have H4:=Aside0.mk h4
 clear HH h4
 have HH:=Aside0.mk h
 clear h
 go_wp2_with fail
 obtain ⟨bm,hbm⟩:∃ bm,bm=W3.heap.size:=⟨_,rfl⟩
 obtain ⟨Wm,hWm⟩:∃ Wm,Wm=W3.alloc (.cells #[.int .i64 x1,.int .i64 x2,.int .i64 x3,.int .i64 0,.int .i64 0,.slice none 0 0,.slice none 0 0,.slice none 0 0] 56 (0,0)):=⟨_,rfl⟩
 rw [← hWm,← hbm]
 have hbm2:Below W3.heap.size W3 Wm:=by rw [hWm];exact below_alloc (Below.refl _ _) _
 have hltk:=blk_lt HKK.out
 have HN:Aside0 (bm0 ≠ bm):=⟨by omega⟩
 have HM:Aside0 (MthSt B w Wm br g (.slice A0 l0.length c0) bs p3 bm0 bm #[.int .i64 x1,.int .i64 x2,.int .i64 x3,.int .i64 0,.int .i64 0,.slice none 0 0,.slice none 0 0,.slice none 0 0]):=⟨⟨HCC.out.new hbm2,(hbm2.block _ (blk_lt HKK.out)).trans HKK.out,by rw [hWm,hbm];exact blk_new _ _,by rw [HM0.out];exact Nat.le_refl _,by rw [hbm];exact HCC.out.2.keep.1,HLT.out⟩⟩
 clear hWm hbm hbm2 hltk HCC HKK
 have HC4:=Aside0.mk (cr_same.calls (n:=2) HM.out.C.1 (by decide) (by decide) HL.out H4.out)
 clear H4
 refine HC4.out.mono ?_
 clear HC4
 cases o4 with
 | er n =>
  have h:=Option.some.inj HH.out
  subst h
  rintro e wd ⟨rfl,hR⟩
  have HR:=Aside0.mk (HM.out.C.below.trans hR)
  clear hR HH
  go_wp2
  exact ⟨rfl,rfl,HR.out⟩
 | ok _ p4 =>
 rintro e W4 ⟨rfl,hR⟩
 have HMn:=Aside0.mk (HM.out.step hR)
 clear hR HM
 have HM:=HMn
 clear HMn
 obtain ⟨o5,h5,h⟩:=Option.bind_eq_some_iff.mp HH.out
 have H5:=Aside0.mk h5
 clear HH h5
 have HH:=Aside0.mk h
 clear h
 go_wp2_with fail
 have HC5:=Aside0.mk (cr_named.calls HM.out.C.1 HL.out (fun w' hS => HP.out w' (HM.out.C.2.trans hS)) HPC.out H5.out)
 clear H5
 refine HC5.out.mono ?_
 clear HC5
 cases o5 with
 | er n =>
  have h:=Option.some.inj HH.out
  subst h
  rintro e wd ⟨rfl,hR⟩
  have HR:=Aside0.mk (HM.out.C.below.trans hR)
  clear hR HH
  go_wp2
  exact ⟨rfl,rfl,HR.out⟩
 | ok _ p5 =>
 rintro e W5 ⟨rfl,hR⟩
 have HMn:=Aside0.mk (HM.out.step hR)
 clear hR HM
 have HM:=HMn
 clear HMn
 obtain ⟨o6,h6,h⟩:=Option.bind_eq_some_iff.mp HH.out
 have H6:=Aside0.mk h6
 clear HH h6
 have HH:=Aside0.mk h
 clear h
 go_wp2_with fail
 have HC6:=Aside0.mk (cr_num.calls (n:=4) HM.out.C.1 (by decide) (by decide) HL.out H6.out)
 clear H6
 refine HC6.out.mono ?_
 clear HC6
 cases o6 with
 | er n =>
  have h:=Option.some.inj HH.out
  subst h
  rintro e wd ⟨rfl,hR⟩
  have HR:=Aside0.mk (HM.out.C.below.trans hR)
  clear hR HH
  go_wp2
  exact ⟨rfl,rfl,HR.out⟩
 | ok n p6 =>
 rintro e W6 ⟨rfl,hR⟩
 have HMn:=Aside0.mk (HM.out.step hR)
 clear hR HM
 have HM:=HMn
 clear HMn
 obtain ⟨o7,h7,h⟩:=Option.bind_eq_some_iff.mp HH.out
 have H7:=Aside0.mk h7
 clear HH h7
 have HH:=Aside0.mk h
 clear h
 have cq:=HM.out.C.1.c0
 go_wp2_with fail
 refine (rd_At.calls B g bs p6 W6 HM.out.C.1.R).mono ?_
 rintro e wx ⟨rfl,rfl⟩
 go_wp2_with fail
 have HC7:=Aside0.mk (cr_two.calls HM.out.C.1 HL.out H7.out)
 clear H7
 refine HC7.out.mono ?_
 clear HC7
 cases o7 with
 | er n =>
  have h:=Option.some.inj HH.out
  subst h
  rintro e wd ⟨rfl,hR⟩
  have HR:=Aside0.mk (HM.out.C.below.trans hR)
  clear hR HH
  go_wp2
  exact ⟨rfl,rfl,HR.out⟩
 | ok x7 p7 =>
 clear cq
 rintro e W7 ⟨rfl,hR⟩
 have HMn:=Aside0.mk (HM.out.step hR)
 clear hR HM
 have HM:=HMn
 clear HMn
 obtain ⟨o8,h8,h⟩:=Option.bind_eq_some_iff.mp HH.out
 have H8:=Aside0.mk h8
 clear HH h8
 have HH:=Aside0.mk h
 clear h
 go_wp2_with fail
 have HC8:=Aside0.mk (cr_two.calls HM.out.C.1 HL.out H8.out)
 clear H8
 refine HC8.out.mono ?_
 clear HC8
 cases o8 with
 | er n =>
  have h:=Option.some.inj HH.out
  subst h
  rintro e wd ⟨rfl,hR⟩
  have HR:=Aside0.mk (HM.out.C.below.trans hR)
  clear hR HH
  go_wp2
  exact ⟨rfl,rfl,HR.out⟩
 | ok x8 p8 =>
 rintro e W8 ⟨rfl,hR⟩
 have HMn:=Aside0.mk (HM.out.step hR)
 clear hR HM
 have HM:=HMn
 clear HMn
 obtain ⟨o9,h9,h⟩:=Option.bind_eq_some_iff.mp HH.out
 have H9:=Aside0.mk h9
 clear HH h9
 have HH:=Aside0.mk h
 clear h
 have cq3:=(blk_cell HM.out.km 3).trans rfl
 have cq4:=(blk_cell HM.out.km 4).trans rfl
 have fq3:=blk_frozen HM.out.km 3
 have fq4:=blk_frozen HM.out.km 4
 go_wp2_with fail
 have HMs:Aside0 (MthSt B w ((W8.setCell ⟨bm,3,none⟩ (.int .i64 x7)).setCell ⟨bm,4,none⟩ (.int .i64 x8)) br g (.slice A0 l0.length c0) bs p8 bm0 bm #[.int .i64 x1,.int .i64 x2,.int .i64 x3,.int .i64 x7,.int .i64 x8,.slice none 0 0,.slice none 0 0,.slice none 0 0]):=⟨(HM.out.set HN.out 3 _).set HN.out 4 _⟩
 clear cq3 cq4 fq3 fq4 HM
 have HM:=HMs
 clear HMs
 have HC9:=Aside0.mk (cr_long.calls HM.out.C.1 HL.out H9.out)
 clear H9
 refine HC9.out.mono ?_
 clear HC9
 cases o9 with
 | er n =>
  have h:=Option.some.inj HH.out
  subst h
  rintro e wd ⟨rfl,hR⟩
  have HR:=Aside0.mk (HM.out.C.below.trans hR)
  clear hR HH
  go_wp2
  exact ⟨rfl,rfl,HR.out⟩
 | ok code p9 =>
 rintro e W9 ⟨v5,rfl,hR5,hR⟩
 have HR5:=Aside0.mk (Kd.R_lower hR5 HM.out.C.2.keep.1)
 have HMn:=Aside0.mk (HM.out.step hR)
 clear hR hR5 HM
 have HM:=HMn
 clear HMn
 obtain ⟨A5,c5,hv5⟩:=Kd.R_slice HR5.out
 subst hv5
 have cq5:=(blk_cell HM.out.km 5).trans rfl
 have fq5:=blk_frozen HM.out.km 5
 obtain ⟨o10,h10,h⟩:=Option.bind_eq_some_iff.mp HH.out
 have H10:=Aside0.mk h10
 clear HH h10
 have HH:=Aside0.mk h
 clear h
 go_wp2_with fail
 have HMs:=Aside0.mk (HM.out.set HN.out 5 (.slice A5 code.length c5))
 have HR5s:=Aside0.mk (Kd.R_set HR5.out HM.out.km (by decide) 5 (.slice A5 code.length c5))
 clear cq5 fq5 HM HR5
 have HM:=HMs
 have HR5:=HR5s
 clear HMs HR5s
 have HK10:=Aside0.mk H10.out
 have HC10:=Aside0.mk (cr_count.calls (n:=2) HM.out.C.1 (by decide) (by decide) HL.out H10.out)
 clear H10
 refine HC10.out.mono ?_
 clear HC10
 cases o10 with
 | er n =>
  have h:=Option.some.inj HH.out
  subst h
  rintro e wd ⟨rfl,hR⟩
  have HR:=Aside0.mk (HM.out.C.below.trans hR)
  clear hR HH
  go_wp2
  exact ⟨rfl,rfl,HR.out⟩
 | ok c p10 =>
 rintro e W10 ⟨rfl,hR⟩
 have HR5n:=Aside0.mk (hR.2.R HR5.out HLT.out)
 have HMn:=Aside0.mk (HM.out.step hR)
 clear hR HM HR5
 have HM:=HMn
 have HR5:=HR5n
 clear HMn HR5n
 obtain ⟨o11,h11,h⟩:=Option.bind_eq_some_iff.mp HH.out
 have H11:=Aside0.mk h11
 clear HH h11
 have HH:=Aside0.mk h
 clear h
 have HCL:=Aside0.mk (cr_count_le HK10.out)
 clear HK10
 go_wp2
 go_loopw [6] (fun vi wr => ∃ (x:Int) (q:Nat) (l:List Trp) (v6:Value),vi=.int .i64 x∧Aside0 (x≤64)∧Aside0 (l.length + x.toNat≤64)∧Aside0 (cr_traps.f k bs x.toNat q l=some o11)∧Aside0 (MthSt B w wr br g (.slice A0 l0.length c0) bs q bm0 bm #[.int .i64 x1,.int .i64 x2,.int .i64 x3,.int .i64 x7,.int .i64 x8,.slice A5 code.length c5,v6,.slice none 0 0])∧Aside0 (Kd.R (Kd.int .u8) 5 wr w.heap.size (fun _ => True) (.slice A5 code.length c5) code)∧Aside0 (Kd.R k82 82 wr w.heap.size (fun _ => True) v6 l)) (fun vi _ => (intOf vi).toNat)
 case atStart => exact ⟨c,p10,[],.slice none 0 0,rfl,HCL,⟨by have:=HCL.out;simp only [List.length_nil];omega⟩,H11,HM,HR5,⟨Kd.R_nil _ _ _ _ _⟩⟩
 case round =>
  obtain ⟨x,q,l,v6,rfl,HX,HLN,HT,HMr,HP5,HQ6⟩:=hrel
  clear HM HR5 H11
  by_cases hx:0 < x
  ·have hpx:decide (0 < x)=true:=decide_eq_true hx
   obtain ⟨m,hm⟩:∃ m,x.toNat=m + 1:=⟨x.toNat - 1,by omega⟩
   have hT:=HT.out
   rw [hm] at hT
   simp only [cr_traps.f] at hT
   obtain ⟨ot,ht,hT⟩:=Option.bind_eq_some_iff.mp hT
   have HTN:=Aside0.mk hT
   have HMM:=Aside0.mk hm
   have HXX:=Aside0.mk hx
   clear hT HT hm hx
   go_wp2
   have G0:=Aside0.mk (HMr.out.new (below_drew (Below.refl _ _)))
   have P0:=Aside0.mk (Kd.R_below HP5.out (below_drew (Below.refl _ _)))
   have Q0:=Aside0.mk (Kd.R_below HQ6.out (below_drew (Below.refl _ _)))
   have cg0:=(blk_cell HMr.out.km 6).trans rfl
   clear HMr HP5 HQ6
   unfold cr_trap.f at ht
   obtain ⟨t0,hj,ht⟩:=Option.bind_eq_some_iff.mp ht
   have T0:=Aside0.mk hj
   clear hj
   cases t0 with
   | er n =>
    have ht2:=Option.some.inj ht
    subst ht2
    have h3:=Option.some.inj HTN.out
    subst h3
    have h4:=Option.some.inj HH.out
    subst h4
    clear ht HTN HH
    refine start_ (n:=15) (S:=fun w' => w'.cell? ⟨bm,6,none⟩=some v6) (ds:=[14]) #[false,false,false,false,false,false,false,false,false,false,false,false,false,false,false] (by kernel_rfl) rfl rfl (cg0) (fun hHeld => ?_)
    refine pure_ (i:=0) (N:=some 44) (v:=?_) (a':=?_) #[true,false,false,false,false,false,false,false,false,false,false,false,false,false,false] rfl rfl (by kernel_rfl) (fun _ _ _ h => h) (Or.inl ⟨by rfl,?_⟩) ?_ ?_
    rotate_left
    ·intro w'
     go_simp
     with_reducible rfl
    rotate_left
    ·simp only [Act.put,List.setIfInBounds_toArray,List.set_cons_zero,List.set_cons_succ,i64_w,i32_w]
     rfl
    refine pure_ (i:=2) (N:=some 46) (v:=?_) (a':=?_) #[true,false,true,false,false,false,false,false,false,false,false,false,false,false,false] rfl rfl (by kernel_rfl) (fun _ _ _ h => h) (Or.inl ⟨by rfl,?_⟩) ?_ ?_
    rotate_left
    ·intro w'
     go_simp
     with_reducible rfl
    rotate_left
    ·simp only [Act.put,List.setIfInBounds_toArray,List.set_cons_zero,List.set_cons_succ,i64_w,i32_w]
     rfl
    refine pure_ (i:=4) (N:=some 48) (v:=?_) (a':=?_) #[true,false,true,false,true,false,false,false,false,false,false,false,false,false,false] rfl rfl (by kernel_rfl) (fun _ _ _ h => h) (Or.inl ⟨by rfl,?_⟩) ?_ ?_
    rotate_left
    ·intro w'
     go_simp
     with_reducible rfl
    rotate_left
    ·simp only [Act.put,List.setIfInBounds_toArray,List.set_cons_zero,List.set_cons_succ,i64_w,i32_w]
     rfl
    refine pure_ (i:=6) (N:=some 50) (v:=?_) (a':=?_) #[true,false,true,false,true,false,true,false,false,false,false,false,false,false,false] rfl rfl (by kernel_rfl) (fun _ _ _ h => h) (Or.inl ⟨by rfl,?_⟩) ?_ ?_
    rotate_left
    ·intro w'
     go_simp
     with_reducible rfl
    rotate_left
    ·simp only [Act.put,List.setIfInBounds_toArray,List.set_cons_zero,List.set_cons_succ,i64_w,i32_w]
     rfl
    refine pure_ (i:=8) (N:=some 52) (v:=?_) (a':=?_) #[true,false,true,false,true,false,true,false,true,false,false,false,false,false,false] rfl rfl (by kernel_rfl) (fun _ _ _ h => h) (Or.inl ⟨by rfl,?_⟩) ?_ ?_
    rotate_left
    ·intro w'
     go_simp
     with_reducible rfl
    rotate_left
    ·simp only [Act.put,List.setIfInBounds_toArray,List.set_cons_zero,List.set_cons_succ,i64_w,i32_w]
     rfl
    refine take_ (i:=1) (N:=some 45) (v:=?_) (a':=?_) #[true,true,true,false,true,false,true,false,true,false,false,false,false,false,false] rfl rfl (by kernel_rfl) (fun _ _ _ h => h) (Or.inl ⟨by rfl,?_⟩) hHeld ?_ ?_
    rotate_left
    ·intro w' s0
     go_simp
     with_reducible rfl
    rotate_left
    ·simp only [Act.put,List.setIfInBounds_toArray,List.set_cons_zero,List.set_cons_succ,i64_w,i32_w]
     rfl
    refine one_ (i:=3) (N:=some 47) #[true,true,true,true,true,false,true,false,true,false,false,false,false,false,false] rfl rfl (by kernel_rfl) (by decide) (fun K hK => ?_)
    refine diesV_ Tryd.func58 (by kernel_rfl) rfl (.pointer (some ⟨br,0,none⟩)) (by rfl) rfl (by rfl) ?_
    refine (cr_two.calls G0.out.C.1 HL.out T0.out).mono ?_
    rintro e wd ⟨rfl,hR⟩
    refine ⟨_,rfl,?_⟩
    exact ⟨rfl,rfl,G0.out.C.below.trans hR⟩
   | ok y0 q0 =>
   obtain ⟨t1,hj,ht⟩:=Option.bind_eq_some_iff.mp ht
   have T1:=Aside0.mk hj
   clear hj
   cases t1 with
   | er n =>
    have ht2:=Option.some.inj ht
    subst ht2
    have h3:=Option.some.inj HTN.out
    subst h3
    have h4:=Option.some.inj HH.out
    subst h4
    clear ht HTN HH
    refine start_ (n:=15) (S:=fun w' => w'.cell? ⟨bm,6,none⟩=some v6) (ds:=[14]) #[false,false,false,false,false,false,false,false,false,false,false,false,false,false,false] (by kernel_rfl) rfl rfl (cg0) (fun hHeld => ?_)
    refine pure_ (i:=0) (N:=some 44) (v:=?_) (a':=?_) #[true,false,false,false,false,false,false,false,false,false,false,false,false,false,false] rfl rfl (by kernel_rfl) (fun _ _ _ h => h) (Or.inl ⟨by rfl,?_⟩) ?_ ?_
    rotate_left
    ·intro w'
     go_simp
     with_reducible rfl
    rotate_left
    ·simp only [Act.put,List.setIfInBounds_toArray,List.set_cons_zero,List.set_cons_succ,i64_w,i32_w]
     rfl
    refine pure_ (i:=2) (N:=some 46) (v:=?_) (a':=?_) #[true,false,true,false,false,false,false,false,false,false,false,false,false,false,false] rfl rfl (by kernel_rfl) (fun _ _ _ h => h) (Or.inl ⟨by rfl,?_⟩) ?_ ?_
    rotate_left
    ·intro w'
     go_simp
     with_reducible rfl
    rotate_left
    ·simp only [Act.put,List.setIfInBounds_toArray,List.set_cons_zero,List.set_cons_succ,i64_w,i32_w]
     rfl
    refine pure_ (i:=4) (N:=some 48) (v:=?_) (a':=?_) #[true,false,true,false,true,false,false,false,false,false,false,false,false,false,false] rfl rfl (by kernel_rfl) (fun _ _ _ h => h) (Or.inl ⟨by rfl,?_⟩) ?_ ?_
    rotate_left
    ·intro w'
     go_simp
     with_reducible rfl
    rotate_left
    ·simp only [Act.put,List.setIfInBounds_toArray,List.set_cons_zero,List.set_cons_succ,i64_w,i32_w]
     rfl
    refine pure_ (i:=6) (N:=some 50) (v:=?_) (a':=?_) #[true,false,true,false,true,false,true,false,false,false,false,false,false,false,false] rfl rfl (by kernel_rfl) (fun _ _ _ h => h) (Or.inl ⟨by rfl,?_⟩) ?_ ?_
    rotate_left
    ·intro w'
     go_simp
     with_reducible rfl
    rotate_left
    ·simp only [Act.put,List.setIfInBounds_toArray,List.set_cons_zero,List.set_cons_succ,i64_w,i32_w]
     rfl
    refine pure_ (i:=8) (N:=some 52) (v:=?_) (a':=?_) #[true,false,true,false,true,false,true,false,true,false,false,false,false,false,false] rfl rfl (by kernel_rfl) (fun _ _ _ h => h) (Or.inl ⟨by rfl,?_⟩) ?_ ?_
    rotate_left
    ·intro w'
     go_simp
     with_reducible rfl
    rotate_left
    ·simp only [Act.put,List.setIfInBounds_toArray,List.set_cons_zero,List.set_cons_succ,i64_w,i32_w]
     rfl
    refine take_ (i:=1) (N:=some 45) (v:=?_) (a':=?_) #[true,true,true,false,true,false,true,false,true,false,false,false,false,false,false] rfl rfl (by kernel_rfl) (fun _ _ _ h => h) (Or.inl ⟨by rfl,?_⟩) hHeld ?_ ?_
    rotate_left
    ·intro w' s0
     go_simp
     with_reducible rfl
    rotate_left
    ·simp only [Act.put,List.setIfInBounds_toArray,List.set_cons_zero,List.set_cons_succ,i64_w,i32_w]
     rfl
    refine one_ (i:=3) (N:=some 47) #[true,true,true,true,true,false,true,false,true,false,false,false,false,false,false] rfl rfl (by kernel_rfl) (by decide) (fun K hK => ?_)
    refine goesV_ Tryd.func58 (by kernel_rfl) rfl (.pointer (some ⟨br,0,none⟩)) (by rfl) rfl rfl (by rfl) ?_
    refine (cr_two.calls G0.out.C.1 HL.out T0.out).mono ?_
    rintro e w1' ⟨rfl,hR⟩
    refine ⟨_,rfl,?_⟩
    have G1:=Aside0.mk (G0.out.step hR)
    have P1:=Aside0.mk (hR.2.R P0.out HLT.out)
    have Q1:=Aside0.mk (hR.2.R Q0.out HLT.out)
    have cg1:=(blk_cell G1.out.km 6).trans rfl
    clear hR
    refine hK.out _ _ (cg1) (fun hHeld => ?_)
    clear hK K
    refine norm_ (a':=?_) ?_ ?_
    rotate_left
    ·show Act.put _ (some 47) _=_
     simp only [Act.put,List.setIfInBounds_toArray,List.set_cons_zero,List.set_cons_succ,i64_w,i32_w]
     rfl
    refine one_ (i:=5) (N:=some 49) #[true,true,true,true,true,true,true,false,true,false,false,false,false,false,false] rfl rfl (by kernel_rfl) (by decide) (fun K hK => ?_)
    refine diesV_ Tryd.func58 (by kernel_rfl) rfl (.pointer (some ⟨br,0,none⟩)) (by rfl) rfl (by rfl) ?_
    refine (cr_two.calls G1.out.C.1 HL.out T1.out).mono ?_
    rintro e wd ⟨rfl,hR⟩
    refine ⟨_,rfl,?_⟩
    exact ⟨rfl,rfl,G1.out.C.below.trans hR⟩
   | ok y1 q1 =>
   obtain ⟨t2,hj,ht⟩:=Option.bind_eq_some_iff.mp ht
   have T2:=Aside0.mk hj
   clear hj
   cases t2 with
   | er n =>
    have ht2:=Option.some.inj ht
    subst ht2
    have h3:=Option.some.inj HTN.out
    subst h3
    have h4:=Option.some.inj HH.out
    subst h4
    clear ht HTN HH
    refine start_ (n:=15) (S:=fun w' => w'.cell? ⟨bm,6,none⟩=some v6) (ds:=[14]) #[false,false,false,false,false,false,false,false,false,false,false,false,false,false,false] (by kernel_rfl) rfl rfl (cg0) (fun hHeld => ?_)
    refine pure_ (i:=0) (N:=some 44) (v:=?_) (a':=?_) #[true,false,false,false,false,false,false,false,false,false,false,false,false,false,false] rfl rfl (by kernel_rfl) (fun _ _ _ h => h) (Or.inl ⟨by rfl,?_⟩) ?_ ?_
    rotate_left
    ·intro w'
     go_simp
     with_reducible rfl
    rotate_left
    ·simp only [Act.put,List.setIfInBounds_toArray,List.set_cons_zero,List.set_cons_succ,i64_w,i32_w]
     rfl
    refine pure_ (i:=2) (N:=some 46) (v:=?_) (a':=?_) #[true,false,true,false,false,false,false,false,false,false,false,false,false,false,false] rfl rfl (by kernel_rfl) (fun _ _ _ h => h) (Or.inl ⟨by rfl,?_⟩) ?_ ?_
    rotate_left
    ·intro w'
     go_simp
     with_reducible rfl
    rotate_left
    ·simp only [Act.put,List.setIfInBounds_toArray,List.set_cons_zero,List.set_cons_succ,i64_w,i32_w]
     rfl
    refine pure_ (i:=4) (N:=some 48) (v:=?_) (a':=?_) #[true,false,true,false,true,false,false,false,false,false,false,false,false,false,false] rfl rfl (by kernel_rfl) (fun _ _ _ h => h) (Or.inl ⟨by rfl,?_⟩) ?_ ?_
    rotate_left
    ·intro w'
     go_simp
     with_reducible rfl
    rotate_left
    ·simp only [Act.put,List.setIfInBounds_toArray,List.set_cons_zero,List.set_cons_succ,i64_w,i32_w]
     rfl
    refine pure_ (i:=6) (N:=some 50) (v:=?_) (a':=?_) #[true,false,true,false,true,false,true,false,false,false,false,false,false,false,false] rfl rfl (by kernel_rfl) (fun _ _ _ h => h) (Or.inl ⟨by rfl,?_⟩) ?_ ?_
    rotate_left
    ·intro w'
     go_simp
     with_reducible rfl
    rotate_left
    ·simp only [Act.put,List.setIfInBounds_toArray,List.set_cons_zero,List.set_cons_succ,i64_w,i32_w]
     rfl
    refine pure_ (i:=8) (N:=some 52) (v:=?_) (a':=?_) #[true,false,true,false,true,false,true,false,true,false,false,false,false,false,false] rfl rfl (by kernel_rfl) (fun _ _ _ h => h) (Or.inl ⟨by rfl,?_⟩) ?_ ?_
    rotate_left
    ·intro w'
     go_simp
     with_reducible rfl
    rotate_left
    ·simp only [Act.put,List.setIfInBounds_toArray,List.set_cons_zero,List.set_cons_succ,i64_w,i32_w]
     rfl
    refine take_ (i:=1) (N:=some 45) (v:=?_) (a':=?_) #[true,true,true,false,true,false,true,false,true,false,false,false,false,false,false] rfl rfl (by kernel_rfl) (fun _ _ _ h => h) (Or.inl ⟨by rfl,?_⟩) hHeld ?_ ?_
    rotate_left
    ·intro w' s0
     go_simp
     with_reducible rfl
    rotate_left
    ·simp only [Act.put,List.setIfInBounds_toArray,List.set_cons_zero,List.set_cons_succ,i64_w,i32_w]
     rfl
    refine one_ (i:=3) (N:=some 47) #[true,true,true,true,true,false,true,false,true,false,false,false,false,false,false] rfl rfl (by kernel_rfl) (by decide) (fun K hK => ?_)
    refine goesV_ Tryd.func58 (by kernel_rfl) rfl (.pointer (some ⟨br,0,none⟩)) (by rfl) rfl rfl (by rfl) ?_
    refine (cr_two.calls G0.out.C.1 HL.out T0.out).mono ?_
    rintro e w1' ⟨rfl,hR⟩
    refine ⟨_,rfl,?_⟩
    have G1:=Aside0.mk (G0.out.step hR)
    have P1:=Aside0.mk (hR.2.R P0.out HLT.out)
    have Q1:=Aside0.mk (hR.2.R Q0.out HLT.out)
    have cg1:=(blk_cell G1.out.km 6).trans rfl
    clear hR
    refine hK.out _ _ (cg1) (fun hHeld => ?_)
    clear hK K
    refine norm_ (a':=?_) ?_ ?_
    rotate_left
    ·show Act.put _ (some 47) _=_
     simp only [Act.put,List.setIfInBounds_toArray,List.set_cons_zero,List.set_cons_succ,i64_w,i32_w]
     rfl
    refine one_ (i:=5) (N:=some 49) #[true,true,true,true,true,true,true,false,true,false,false,false,false,false,false] rfl rfl (by kernel_rfl) (by decide) (fun K hK => ?_)
    refine goesV_ Tryd.func58 (by kernel_rfl) rfl (.pointer (some ⟨br,0,none⟩)) (by rfl) rfl rfl (by rfl) ?_
    refine (cr_two.calls G1.out.C.1 HL.out T1.out).mono ?_
    rintro e w2' ⟨rfl,hR⟩
    refine ⟨_,rfl,?_⟩
    have G2:=Aside0.mk (G1.out.step hR)
    have P2:=Aside0.mk (hR.2.R P1.out HLT.out)
    have Q2:=Aside0.mk (hR.2.R Q1.out HLT.out)
    have cg2:=(blk_cell G2.out.km 6).trans rfl
    clear hR
    refine hK.out _ _ (cg2) (fun hHeld => ?_)
    clear hK K
    refine norm_ (a':=?_) ?_ ?_
    rotate_left
    ·show Act.put _ (some 49) _=_
     simp only [Act.put,List.setIfInBounds_toArray,List.set_cons_zero,List.set_cons_succ,i64_w,i32_w]
     rfl
    refine one_ (i:=7) (N:=some 51) #[true,true,true,true,true,true,true,true,true,false,false,false,false,false,false] rfl rfl (by kernel_rfl) (by decide) (fun K hK => ?_)
    refine diesV_ Tryd.func58 (by kernel_rfl) rfl (.pointer (some ⟨br,0,none⟩)) (by rfl) rfl (by rfl) ?_
    refine (cr_two.calls G2.out.C.1 HL.out T2.out).mono ?_
    rintro e wd ⟨rfl,hR⟩
    refine ⟨_,rfl,?_⟩
    exact ⟨rfl,rfl,G2.out.C.below.trans hR⟩
   | ok y2 q2 =>
   obtain ⟨t3,hj,ht⟩:=Option.bind_eq_some_iff.mp ht
   have T3:=Aside0.mk hj
   clear hj
   cases t3 with
   | er n =>
    have ht2:=Option.some.inj ht
    subst ht2
    have h3:=Option.some.inj HTN.out
    subst h3
    have h4:=Option.some.inj HH.out
    subst h4
    clear ht HTN HH
    refine start_ (n:=15) (S:=fun w' => w'.cell? ⟨bm,6,none⟩=some v6) (ds:=[14]) #[false,false,false,false,false,false,false,false,false,false,false,false,false,false,false] (by kernel_rfl) rfl rfl (cg0) (fun hHeld => ?_)
    refine pure_ (i:=0) (N:=some 44) (v:=?_) (a':=?_) #[true,false,false,false,false,false,false,false,false,false,false,false,false,false,false] rfl rfl (by kernel_rfl) (fun _ _ _ h => h) (Or.inl ⟨by rfl,?_⟩) ?_ ?_
    rotate_left
    ·intro w'
     go_simp
     with_reducible rfl
    rotate_left
    ·simp only [Act.put,List.setIfInBounds_toArray,List.set_cons_zero,List.set_cons_succ,i64_w,i32_w]
     rfl
    refine pure_ (i:=2) (N:=some 46) (v:=?_) (a':=?_) #[true,false,true,false,false,false,false,false,false,false,false,false,false,false,false] rfl rfl (by kernel_rfl) (fun _ _ _ h => h) (Or.inl ⟨by rfl,?_⟩) ?_ ?_
    rotate_left
    ·intro w'
     go_simp
     with_reducible rfl
    rotate_left
    ·simp only [Act.put,List.setIfInBounds_toArray,List.set_cons_zero,List.set_cons_succ,i64_w,i32_w]
     rfl
    refine pure_ (i:=4) (N:=some 48) (v:=?_) (a':=?_) #[true,false,true,false,true,false,false,false,false,false,false,false,false,false,false] rfl rfl (by kernel_rfl) (fun _ _ _ h => h) (Or.inl ⟨by rfl,?_⟩) ?_ ?_
    rotate_left
    ·intro w'
     go_simp
     with_reducible rfl
    rotate_left
    ·simp only [Act.put,List.setIfInBounds_toArray,List.set_cons_zero,List.set_cons_succ,i64_w,i32_w]
     rfl
    refine pure_ (i:=6) (N:=some 50) (v:=?_) (a':=?_) #[true,false,true,false,true,false,true,false,false,false,false,false,false,false,false] rfl rfl (by kernel_rfl) (fun _ _ _ h => h) (Or.inl ⟨by rfl,?_⟩) ?_ ?_
    rotate_left
    ·intro w'
     go_simp
     with_reducible rfl
    rotate_left
    ·simp only [Act.put,List.setIfInBounds_toArray,List.set_cons_zero,List.set_cons_succ,i64_w,i32_w]
     rfl
    refine pure_ (i:=8) (N:=some 52) (v:=?_) (a':=?_) #[true,false,true,false,true,false,true,false,true,false,false,false,false,false,false] rfl rfl (by kernel_rfl) (fun _ _ _ h => h) (Or.inl ⟨by rfl,?_⟩) ?_ ?_
    rotate_left
    ·intro w'
     go_simp
     with_reducible rfl
    rotate_left
    ·simp only [Act.put,List.setIfInBounds_toArray,List.set_cons_zero,List.set_cons_succ,i64_w,i32_w]
     rfl
    refine take_ (i:=1) (N:=some 45) (v:=?_) (a':=?_) #[true,true,true,false,true,false,true,false,true,false,false,false,false,false,false] rfl rfl (by kernel_rfl) (fun _ _ _ h => h) (Or.inl ⟨by rfl,?_⟩) hHeld ?_ ?_
    rotate_left
    ·intro w' s0
     go_simp
     with_reducible rfl
    rotate_left
    ·simp only [Act.put,List.setIfInBounds_toArray,List.set_cons_zero,List.set_cons_succ,i64_w,i32_w]
     rfl
    refine one_ (i:=3) (N:=some 47) #[true,true,true,true,true,false,true,false,true,false,false,false,false,false,false] rfl rfl (by kernel_rfl) (by decide) (fun K hK => ?_)
    refine goesV_ Tryd.func58 (by kernel_rfl) rfl (.pointer (some ⟨br,0,none⟩)) (by rfl) rfl rfl (by rfl) ?_
    refine (cr_two.calls G0.out.C.1 HL.out T0.out).mono ?_
    rintro e w1' ⟨rfl,hR⟩
    refine ⟨_,rfl,?_⟩
    have G1:=Aside0.mk (G0.out.step hR)
    have P1:=Aside0.mk (hR.2.R P0.out HLT.out)
    have Q1:=Aside0.mk (hR.2.R Q0.out HLT.out)
    have cg1:=(blk_cell G1.out.km 6).trans rfl
    clear hR
    refine hK.out _ _ (cg1) (fun hHeld => ?_)
    clear hK K
    refine norm_ (a':=?_) ?_ ?_
    rotate_left
    ·show Act.put _ (some 47) _=_
     simp only [Act.put,List.setIfInBounds_toArray,List.set_cons_zero,List.set_cons_succ,i64_w,i32_w]
     rfl
    refine one_ (i:=5) (N:=some 49) #[true,true,true,true,true,true,true,false,true,false,false,false,false,false,false] rfl rfl (by kernel_rfl) (by decide) (fun K hK => ?_)
    refine goesV_ Tryd.func58 (by kernel_rfl) rfl (.pointer (some ⟨br,0,none⟩)) (by rfl) rfl rfl (by rfl) ?_
    refine (cr_two.calls G1.out.C.1 HL.out T1.out).mono ?_
    rintro e w2' ⟨rfl,hR⟩
    refine ⟨_,rfl,?_⟩
    have G2:=Aside0.mk (G1.out.step hR)
    have P2:=Aside0.mk (hR.2.R P1.out HLT.out)
    have Q2:=Aside0.mk (hR.2.R Q1.out HLT.out)
    have cg2:=(blk_cell G2.out.km 6).trans rfl
    clear hR
    refine hK.out _ _ (cg2) (fun hHeld => ?_)
    clear hK K
    refine norm_ (a':=?_) ?_ ?_
    rotate_left
    ·show Act.put _ (some 49) _=_
     simp only [Act.put,List.setIfInBounds_toArray,List.set_cons_zero,List.set_cons_succ,i64_w,i32_w]
     rfl
    refine one_ (i:=7) (N:=some 51) #[true,true,true,true,true,true,true,true,true,false,false,false,false,false,false] rfl rfl (by kernel_rfl) (by decide) (fun K hK => ?_)
    refine goesV_ Tryd.func58 (by kernel_rfl) rfl (.pointer (some ⟨br,0,none⟩)) (by rfl) rfl rfl (by rfl) ?_
    refine (cr_two.calls G2.out.C.1 HL.out T2.out).mono ?_
    rintro e w3' ⟨rfl,hR⟩
    refine ⟨_,rfl,?_⟩
    have G3:=Aside0.mk (G2.out.step hR)
    have P3:=Aside0.mk (hR.2.R P2.out HLT.out)
    have Q3:=Aside0.mk (hR.2.R Q2.out HLT.out)
    have cg3:=(blk_cell G3.out.km 6).trans rfl
    clear hR
    refine hK.out _ _ (cg3) (fun hHeld => ?_)
    clear hK K
    refine norm_ (a':=?_) ?_ ?_
    rotate_left
    ·show Act.put _ (some 51) _=_
     simp only [Act.put,List.setIfInBounds_toArray,List.set_cons_zero,List.set_cons_succ,i64_w,i32_w]
     rfl
    refine one_ (i:=9) (N:=some 53) #[true,true,true,true,true,true,true,true,true,true,false,false,false,false,false] rfl rfl (by kernel_rfl) (by decide) (fun K hK => ?_)
    refine diesV_ Tryd.func58 (by kernel_rfl) rfl (.pointer (some ⟨br,0,none⟩)) (by rfl) rfl (by rfl) ?_
    refine (cr_two.calls G3.out.C.1 HL.out T3.out).mono ?_
    rintro e wd ⟨rfl,hR⟩
    refine ⟨_,rfl,?_⟩
    exact ⟨rfl,rfl,G3.out.C.below.trans hR⟩
   | ok y3 q3 =>
   have ht2:=Option.some.inj ht
   subst ht2
   have HT2:=Aside0.mk HTN.out
   clear ht HTN
   refine start_ (n:=15) (S:=fun w' => w'.cell? ⟨bm,6,none⟩=some v6) (ds:=[14]) #[false,false,false,false,false,false,false,false,false,false,false,false,false,false,false] (by kernel_rfl) rfl rfl (cg0) (fun hHeld => ?_)
   refine pure_ (i:=0) (N:=some 44) (v:=?_) (a':=?_) #[true,false,false,false,false,false,false,false,false,false,false,false,false,false,false] rfl rfl (by kernel_rfl) (fun _ _ _ h => h) (Or.inl ⟨by rfl,?_⟩) ?_ ?_
   rotate_left
   ·intro w'
    go_simp
    with_reducible rfl
   rotate_left
   ·simp only [Act.put,List.setIfInBounds_toArray,List.set_cons_zero,List.set_cons_succ,i64_w,i32_w]
    rfl
   refine pure_ (i:=2) (N:=some 46) (v:=?_) (a':=?_) #[true,false,true,false,false,false,false,false,false,false,false,false,false,false,false] rfl rfl (by kernel_rfl) (fun _ _ _ h => h) (Or.inl ⟨by rfl,?_⟩) ?_ ?_
   rotate_left
   ·intro w'
    go_simp
    with_reducible rfl
   rotate_left
   ·simp only [Act.put,List.setIfInBounds_toArray,List.set_cons_zero,List.set_cons_succ,i64_w,i32_w]
    rfl
   refine pure_ (i:=4) (N:=some 48) (v:=?_) (a':=?_) #[true,false,true,false,true,false,false,false,false,false,false,false,false,false,false] rfl rfl (by kernel_rfl) (fun _ _ _ h => h) (Or.inl ⟨by rfl,?_⟩) ?_ ?_
   rotate_left
   ·intro w'
    go_simp
    with_reducible rfl
   rotate_left
   ·simp only [Act.put,List.setIfInBounds_toArray,List.set_cons_zero,List.set_cons_succ,i64_w,i32_w]
    rfl
   refine pure_ (i:=6) (N:=some 50) (v:=?_) (a':=?_) #[true,false,true,false,true,false,true,false,false,false,false,false,false,false,false] rfl rfl (by kernel_rfl) (fun _ _ _ h => h) (Or.inl ⟨by rfl,?_⟩) ?_ ?_
   rotate_left
   ·intro w'
    go_simp
    with_reducible rfl
   rotate_left
   ·simp only [Act.put,List.setIfInBounds_toArray,List.set_cons_zero,List.set_cons_succ,i64_w,i32_w]
    rfl
   refine pure_ (i:=8) (N:=some 52) (v:=?_) (a':=?_) #[true,false,true,false,true,false,true,false,true,false,false,false,false,false,false] rfl rfl (by kernel_rfl) (fun _ _ _ h => h) (Or.inl ⟨by rfl,?_⟩) ?_ ?_
   rotate_left
   ·intro w'
    go_simp
    with_reducible rfl
   rotate_left
   ·simp only [Act.put,List.setIfInBounds_toArray,List.set_cons_zero,List.set_cons_succ,i64_w,i32_w]
    rfl
   refine take_ (i:=1) (N:=some 45) (v:=?_) (a':=?_) #[true,true,true,false,true,false,true,false,true,false,false,false,false,false,false] rfl rfl (by kernel_rfl) (fun _ _ _ h => h) (Or.inl ⟨by rfl,?_⟩) hHeld ?_ ?_
   rotate_left
   ·intro w' s0
    go_simp
    with_reducible rfl
   rotate_left
   ·simp only [Act.put,List.setIfInBounds_toArray,List.set_cons_zero,List.set_cons_succ,i64_w,i32_w]
    rfl
   refine one_ (i:=3) (N:=some 47) #[true,true,true,true,true,false,true,false,true,false,false,false,false,false,false] rfl rfl (by kernel_rfl) (by decide) (fun K hK => ?_)
   refine goesV_ Tryd.func58 (by kernel_rfl) rfl (.pointer (some ⟨br,0,none⟩)) (by rfl) rfl rfl (by rfl) ?_
   refine (cr_two.calls G0.out.C.1 HL.out T0.out).mono ?_
   rintro e w1' ⟨rfl,hR⟩
   refine ⟨_,rfl,?_⟩
   have G1:=Aside0.mk (G0.out.step hR)
   have P1:=Aside0.mk (hR.2.R P0.out HLT.out)
   have Q1:=Aside0.mk (hR.2.R Q0.out HLT.out)
   have cg1:=(blk_cell G1.out.km 6).trans rfl
   clear hR
   refine hK.out _ _ (cg1) (fun hHeld => ?_)
   clear hK K
   refine norm_ (a':=?_) ?_ ?_
   rotate_left
   ·show Act.put _ (some 47) _=_
    simp only [Act.put,List.setIfInBounds_toArray,List.set_cons_zero,List.set_cons_succ,i64_w,i32_w]
    rfl
   refine one_ (i:=5) (N:=some 49) #[true,true,true,true,true,true,true,false,true,false,false,false,false,false,false] rfl rfl (by kernel_rfl) (by decide) (fun K hK => ?_)
   refine goesV_ Tryd.func58 (by kernel_rfl) rfl (.pointer (some ⟨br,0,none⟩)) (by rfl) rfl rfl (by rfl) ?_
   refine (cr_two.calls G1.out.C.1 HL.out T1.out).mono ?_
   rintro e w2' ⟨rfl,hR⟩
   refine ⟨_,rfl,?_⟩
   have G2:=Aside0.mk (G1.out.step hR)
   have P2:=Aside0.mk (hR.2.R P1.out HLT.out)
   have Q2:=Aside0.mk (hR.2.R Q1.out HLT.out)
   have cg2:=(blk_cell G2.out.km 6).trans rfl
   clear hR
   refine hK.out _ _ (cg2) (fun hHeld => ?_)
   clear hK K
   refine norm_ (a':=?_) ?_ ?_
   rotate_left
   ·show Act.put _ (some 49) _=_
    simp only [Act.put,List.setIfInBounds_toArray,List.set_cons_zero,List.set_cons_succ,i64_w,i32_w]
    rfl
   refine one_ (i:=7) (N:=some 51) #[true,true,true,true,true,true,true,true,true,false,false,false,false,false,false] rfl rfl (by kernel_rfl) (by decide) (fun K hK => ?_)
   refine goesV_ Tryd.func58 (by kernel_rfl) rfl (.pointer (some ⟨br,0,none⟩)) (by rfl) rfl rfl (by rfl) ?_
   refine (cr_two.calls G2.out.C.1 HL.out T2.out).mono ?_
   rintro e w3' ⟨rfl,hR⟩
   refine ⟨_,rfl,?_⟩
   have G3:=Aside0.mk (G2.out.step hR)
   have P3:=Aside0.mk (hR.2.R P2.out HLT.out)
   have Q3:=Aside0.mk (hR.2.R Q2.out HLT.out)
   have cg3:=(blk_cell G3.out.km 6).trans rfl
   clear hR
   refine hK.out _ _ (cg3) (fun hHeld => ?_)
   clear hK K
   refine norm_ (a':=?_) ?_ ?_
   rotate_left
   ·show Act.put _ (some 51) _=_
    simp only [Act.put,List.setIfInBounds_toArray,List.set_cons_zero,List.set_cons_succ,i64_w,i32_w]
    rfl
   refine one_ (i:=9) (N:=some 53) #[true,true,true,true,true,true,true,true,true,true,false,false,false,false,false] rfl rfl (by kernel_rfl) (by decide) (fun K hK => ?_)
   refine goesV_ Tryd.func58 (by kernel_rfl) rfl (.pointer (some ⟨br,0,none⟩)) (by rfl) rfl rfl (by rfl) ?_
   refine (cr_two.calls G3.out.C.1 HL.out T3.out).mono ?_
   rintro e w4' ⟨rfl,hR⟩
   refine ⟨_,rfl,?_⟩
   have G4:=Aside0.mk (G3.out.step hR)
   have P4:=Aside0.mk (hR.2.R P3.out HLT.out)
   have Q4:=Aside0.mk (hR.2.R Q3.out HLT.out)
   have cg4:=(blk_cell G4.out.km 6).trans rfl
   clear hR
   refine hK.out _ _ (cg4) (fun hHeld => ?_)
   clear hK K
   refine norm_ (a':=?_) ?_ ?_
   rotate_left
   ·show Act.put _ (some 53) _=_
    simp only [Act.put,List.setIfInBounds_toArray,List.set_cons_zero,List.set_cons_succ,i64_w,i32_w]
    rfl
   refine pure_ (i:=10) (N:=some 54) (v:=?_) (a':=?_) #[true,true,true,true,true,true,true,true,true,true,true,false,false,false,false] rfl rfl (by kernel_rfl) (fun _ _ _ h => h) (Or.inl ⟨by rfl,?_⟩) ?_ ?_
   rotate_left
   ·intro w'
    go_simp
    with_reducible rfl
   rotate_left
   ·simp only [Act.put,List.setIfInBounds_toArray,List.set_cons_zero,List.set_cons_succ,i64_w,i32_w]
    rfl
   refine one_ (i:=11) (N:=some 55) #[true,true,true,true,true,true,true,true,true,true,true,true,false,false,false] rfl rfl (by kernel_rfl) (by decide) (fun K hK => ?_)
   refine value_ (w1:=?_) (v:=?_) (by rfl) rfl ?_ ?_
   rotate_left 2
   ·go_simp
    constructor
    ·rfl
    ·rfl
   refine hK.out _ _ ((by exact pw_cell_below ((Below.refl _ _).alloc (Nat.le_refl _) _) hHeld)) (fun hHeld => ?_)
   clear hK K
   refine norm_ (a':=?_) ?_ ?_
   rotate_left
   ·show Act.put _ (some 55) _=_
    simp only [Act.put,List.setIfInBounds_toArray,List.set_cons_zero,List.set_cons_succ,i64_w,i32_w]
    rfl
   refine one_ (i:=12) (N:=some 56) #[true,true,true,true,true,true,true,true,true,true,true,true,true,false,false] rfl rfl (by kernel_rfl) (by decide) (fun K hK => ?_)
   refine Kd.R_append_step k82 (w0:=w4') w.heap.size (by rfl) (.tmp 45) (.tmp 55) 54 82 (.agg #[.int .i64 0,.int .i64 0,.int .i64 0,.int .i64 0]) 32 (by rfl) Tryd.underlying54 infoTrp rfl (by decide) (by decide) v6 l ⟨y0,y1,y2,y3⟩ [.int .i64 y0,.int .i64 y1,.int .i64 y2,.int .i64 y3] (fun _ => True) (fun _ => False) (by rfl) (by rfl) (k82_mkM _ _ _ ⟨y0,y1,y2,y3⟩) (fun _ hk => hk.elim) (fun _ _ => trivial) Q4.out (Below.refl _ _) G4.out.C.2.keep.1 (by have:=HLN.out;omega) ?_
   intro v1 w5' hR6 hB5 hg5 ho5
   obtain ⟨A6,c6,hv1⟩:=Kd.R_slice hR6
   simp only [List.length_append,List.length_singleton] at hv1
   subst hv1
   have G5:=Aside0.mk (G4.out.grown Q4.out (by decide) hB5 hg5)
   have P5:=Aside0.mk (Kd.R_drop (Kd.R_grown (Kd.R_apartR P4.out Q4.out (by decide)) hg5 (fun _ hk => hk.2)))
   have Q5:=Aside0.mk hR6
   have cg5:=(blk_cell G5.out.km 6).trans rfl
   have fg5:=blk_frozen G5.out.km 6
   clear hR6 hB5 hg5 ho5
   refine hK.out _ _ (cg5) (fun hHeld => ?_)
   clear hK K
   refine norm_ (a':=?_) ?_ ?_
   rotate_left
   ·show Act.put _ (some 56) _=_
    simp only [Act.put,List.setIfInBounds_toArray,List.set_cons_zero,List.set_cons_succ,i64_w,i32_w]
    rfl
   refine pure_ (i:=13) (N:=some 57) (v:=?_) (a':=?_) #[true,true,true,true,true,true,true,true,true,true,true,true,true,true,false] rfl rfl (by kernel_rfl) (fun _ _ _ h => h) (Or.inl ⟨by rfl,?_⟩) ?_ ?_
   rotate_left
   ·intro w'
    go_simp
    with_reducible rfl
   rotate_left
   ·simp only [Act.put,List.setIfInBounds_toArray,List.set_cons_zero,List.set_cons_succ,i64_w,i32_w]
    rfl
   refine last_ (i:=14) (N:=none) #[true,true,true,true,true,true,true,true,true,true,true,true,true,true,true] rfl rfl (by kernel_rfl) (by decide) (fun K hK => ?_)
   refine skip_ (w1:=?_) (by rfl) rfl ?_ ?_
   rotate_left
   ·go_simp
    rfl
   refine hK.out _ _ ?_
   clear hK K
   refine done_ (by kernel_rfl) ?_
   have HMe:=Aside0.mk (G5.out.set HN.out 6 (.slice A6 (l.length + 1) c6))
   have HPe:=Aside0.mk (Kd.R_set P5.out G5.out.km (by decide) 6 (.slice A6 (l.length + 1) c6))
   have HQe:=Aside0.mk (Kd.R_set Q5.out G5.out.km (by decide) 6 (.slice A6 (l.length + 1) c6))
   clear hHeld G0 G1 G2 G3 G4 G5 P0 P1 P2 P3 P4 P5 Q0 Q1 Q2 Q3 Q4 Q5 cg0 cg1 cg2 cg3 cg4 cg5 fg5 T0 T1 T2 T3
   have hwi:wrap64 (x - 1)=x - 1:=by have:=HX.out;have:=HXX.out;unfold wrap64;omega
   go_wp2
   go_roundw
   case measure =>
    have:=HXX.out
    show (wrap64 (x - 1)).toNat < x.toNat
    rw [hwi]
    omega
   case rel =>
    rw [hwi]
    refine ⟨x - 1,q3,l++[⟨y0,y1,y2,y3⟩],_,rfl,⟨by have:=HX.out;omega⟩,⟨by have:=HLN.out;have:=HXX.out;simp only [List.length_append,List.length_singleton];omega⟩,⟨?_⟩,HMe,HPe,HQe⟩
    have h1:=HMM.out
    rw [show (x - 1).toNat=m from by omega]
    exact HT2.out
  ·have hpx:decide (0 < x)=false:=decide_eq_false hx
   have hT:=HT.out
   rw [show x.toNat=0 from by omega] at hT
   simp only [cr_traps.f] at hT
   obtain rfl:=Option.some.inj hT
   clear hT HT hx
   go_wp2_with fail
   obtain ⟨o12,h12,h⟩:=Option.bind_eq_some_iff.mp HH.out
   have HZ:=Aside0.mk h
   unfold cr_maps.f at h12
   obtain ⟨om,hm,h12⟩:=Option.bind_eq_some_iff.mp h12
   have H12:=Aside0.mk hm
   have HE12:=Aside0.mk h12
   clear HH h hm h12
   have HM:=HMr
   have HR5:=HP5
   have HR6:=HQ6
   clear HMr HP5 HQ6
   obtain ⟨A6,c6,hv6⟩:=Kd.R_slice HR6.out
   subst hv6
   have HC12:=Aside0.mk (cr_two.calls HM.out.C.1 HL.out H12.out)
   refine HC12.out.mono ?_
   clear HC12
   cases om with
   | er en =>
    have h:=Option.some.inj HE12.out
    subst h
    have h:=Option.some.inj HZ.out
    subst h
    rintro e wd ⟨rfl,hR⟩
    have HR:=Aside0.mk (HM.out.C.below.trans hR)
    clear hR HZ
    go_wp2
    exact ⟨rfl,rfl,HR.out⟩
   | ok y q1 =>
   rintro e W12 ⟨rfl,hR⟩
   have HR5n:=Aside0.mk (hR.2.R HR5.out HLT.out)
   have HR6n:=Aside0.mk (hR.2.R HR6.out HLT.out)
   have HMn:=Aside0.mk (HM.out.step hR)
   clear hR HM HR5 HR6
   have HM:=HMn
   have HR5:=HR5n
   have HR6:=HR6n
   clear HMn HR5n HR6n
   have hE:(if y=0 then some (Rdo.ok [] q1) else if y=1 then (cr_named.f k l0 bs q1 sMaps).bind fun o => o.bind fun _ q1 => (cr_long.f k bs q1).bind fun o => o.bind fun ys q2 => some (if 0 < ys.length then Rdo.ok ys q2 else .er 50) else some (Rdo.er 50))=some o12:=HE12.out
   clear HE12
   by_cases y0:y=0
   case pos =>
    rw [if_pos y0] at hE
    obtain rfl:=Option.some.inj hE
    have hyb:(y==0)=true:=beq_iff_eq.mpr y0
    clear y0 hE
    have cq:=HM.out.C.1.c0
    go_wp2_with fail
    refine (rd_At.calls B g bs q1 _ HM.out.C.1.R).mono ?_
    rintro e wx ⟨rfl,rfl⟩
    have hz:=Option.some.inj HZ.out
    clear HZ
    by_cases hp:(q1:Int)=wrap64 (n + p6)
    ·rw [if_pos hp] at hz
     subst hz
     have hpb:((q1:Int) != wrap64 (n + p6))=false:=bne_eq_false_iff_eq.mpr hp
     clear hp cq
     have km:=HM.out.km
     have k0:=HM.out.k0
     have e0:=(blk_cell km 0).trans rfl
     have e1:=(blk_cell km 1).trans rfl
     have e2:=(blk_cell km 2).trans rfl
     have e3:=(blk_cell km 3).trans rfl
     have e4:=(blk_cell km 4).trans rfl
     have e5:=(blk_cell km 5).trans rfl
     have e6:=(blk_cell km 6).trans rfl
     have e7:=(blk_cell km 7).trans rfl
     have g0:=(blk_cell k0 0).trans rfl
     have g1:=(blk_cell k0 1).trans rfl
     have g2:=(blk_cell k0 2).trans rfl
     have g3:=(blk_cell k0 3).trans rfl
     have g4:=(blk_cell k0 4).trans rfl
     have g5:=(blk_cell k0 5).trans rfl
     have g6:=(blk_cell k0 6).trans rfl
     have g7:=(blk_cell k0 7).trans rfl
     have f0:=blk_frozen k0 0
     have f1:=blk_frozen k0 1
     have f2:=blk_frozen k0 2
     have f3:=blk_frozen k0 3
     have f4:=blk_frozen k0 4
     have f5:=blk_frozen k0 5
     have f6:=blk_frozen k0 6
     have f7:=blk_frozen k0 7
     clear km
     go_wp2
     have hF:=out_sets (B:=B) (w:=w) (br:=br) (g:=g) (vp:=.slice A0 l0.length c0) (bs:=bs) (p:=q1) HM.out.h0 HLT.out [(0,.int .i64 x1),(1,.int .i64 x2),(2,.int .i64 x3),(3,.int .i64 x7),(4,.int .i64 x8),(5,.slice A5 code.length c5),(6,.slice A6 l.length c6),(7,.slice none 0 0)] _ _ k0 HM.out.C HR5.out HR6.out (Kd.R_nil _ _ _ _ _)
     have HF:=Aside0.mk hF
     have hk:=blk_set (blk_set (blk_set (blk_set (blk_set (blk_set (blk_set (blk_set k0 0 (.int .i64 x1)) 1 (.int .i64 x2)) 2 (.int .i64 x3)) 3 (.int .i64 x7)) 4 (.int .i64 x8)) 5 (.slice A5 code.length c5)) 6 (.slice A6 l.length c6)) 7 (.slice none 0 0)
     have r0:=(blk_cell hk 0).trans rfl
     have r1:=(blk_cell hk 1).trans rfl
     have r2:=(blk_cell hk 2).trans rfl
     have r3:=(blk_cell hk 3).trans rfl
     have r4:=(blk_cell hk 4).trans rfl
     have r5:=(blk_cell hk 5).trans rfl
     have r6:=(blk_cell hk 6).trans rfl
     have r7:=(blk_cell hk 7).trans rfl
     clear hF k0 hk e0 e1 e2 e3 e4 e5 e6 e7 g0 g1 g2 g3 g4 g5 g6 g7 f0 f1 f2 f3 f4 f5 f6 f7
     refine bodyPost_ret (v:=.agg #[.int .i64 x1,.int .i64 x2,.int .i64 x3,.int .i64 x7,.int .i64 x8,.slice A5 code.length c5,.slice A6 l.length c6,.slice none 0 0]) ?_ rfl ?_
     ·simp [results,Tryd.results60,go_sem,r0,r1,r2,r3,r4,r5,r6,r7]
     ·exact ⟨_,_,_,rfl,HF.out.2.1,HF.out.2.2.1,HF.out.2.2.2,HF.out.1⟩
    ·rw [if_neg hp] at hz
     subst hz
     have hpb:((q1:Int) != wrap64 (n + p6))=true:=bne_iff_ne.mpr hp
     clear hp
     go_wp2_with fail
     refine (cr_must_dies _ 50 (by decide) _).mono ?_
     rintro e w3 ⟨rfl,rfl⟩
     go_wp2
     exact ⟨rfl,rfl,HM.out.C.below⟩
   rw [if_neg y0] at hE
   have hyb:(y==0)=false:=beq_eq_false_iff_ne.mpr y0
   by_cases y1:y=1
   case neg =>
    rw [if_neg y1] at hE
    obtain rfl:=Option.some.inj hE
    have hyb1:(y==1)=false:=beq_eq_false_iff_ne.mpr y1
    have hz:=Option.some.inj HZ.out
    subst hz
    clear y0 y1 hE HZ
    go_wp2_with fail
    refine (cr_must_dies _ 50 (by decide) _).mono ?_
    rintro e w3 ⟨rfl,rfl⟩
    go_wp2
    exact ⟨rfl,rfl,HM.out.C.below⟩
   rw [if_pos y1] at hE
   have hyb1:(y==1)=true:=beq_iff_eq.mpr y1
   obtain ⟨on,hn,hE⟩:=Option.bind_eq_some_iff.mp hE
   have HN1:=Aside0.mk hn
   have HE:=Aside0.mk hE
   clear y0 y1 hE hn
   go_wp2_with fail
   have HC13:=Aside0.mk (cr_named.calls HM.out.C.1 HL.out (fun w' hS => HP.out w' (HM.out.C.2.trans hS)) HPC.out HN1.out)
   refine HC13.out.mono ?_
   clear HC13
   cases on with
   | er en =>
    have h:=Option.some.inj HE.out
    subst h
    have h:=Option.some.inj HZ.out
    subst h
    rintro e wd ⟨rfl,hR⟩
    have HR:=Aside0.mk (HM.out.C.below.trans hR)
    clear hR HZ
    go_wp2
    exact ⟨rfl,rfl,HR.out⟩
   | ok _ q2 =>
   rintro e W13 ⟨rfl,hR⟩
   have HR5n:=Aside0.mk (hR.2.R HR5.out HLT.out)
   have HR6n:=Aside0.mk (hR.2.R HR6.out HLT.out)
   have HMn:=Aside0.mk (HM.out.step hR)
   clear hR HM HR5 HR6
   have HM:=HMn
   have HR5:=HR5n
   have HR6:=HR6n
   clear HMn HR5n HR6n
   obtain ⟨ol,hn,hE⟩:=Option.bind_eq_some_iff.mp HE.out
   have HN2:=Aside0.mk hn
   clear HE
   have HE:=Aside0.mk hE
   clear hE hn
   go_wp2_with fail
   have HC14:=Aside0.mk (cr_long.calls HM.out.C.1 HL.out HN2.out)
   refine HC14.out.mono ?_
   clear HC14
   cases ol with
   | er en =>
    have h:=Option.some.inj HE.out
    subst h
    have h:=Option.some.inj HZ.out
    subst h
    rintro e wd ⟨rfl,hR⟩
    have HR:=Aside0.mk (HM.out.C.below.trans hR)
    clear hR HZ
    go_wp2
    exact ⟨rfl,rfl,HR.out⟩
   | ok ys q3 =>
   rintro e W14 ⟨v7,rfl,hR7,hR⟩
   have HR7:=Aside0.mk (Kd.R_lower hR7 HM.out.C.2.keep.1)
   clear hR7
   have HR5n:=Aside0.mk (hR.2.R HR5.out HLT.out)
   have HR6n:=Aside0.mk (hR.2.R HR6.out HLT.out)
   have HMn:=Aside0.mk (HM.out.step hR)
   clear hR HM HR5 HR6
   have HM:=HMn
   have HR5:=HR5n
   have HR6:=HR6n
   clear HMn HR5n HR6n
   obtain ⟨A7,c7,hv7⟩:=Kd.R_slice HR7.out
   subst hv7
   have cq7:=(blk_cell HM.out.km 7).trans rfl
   have fq7:=blk_frozen HM.out.km 7
   have hE:=Option.some.inj HE.out
   clear HE
   by_cases hy:0 < ys.length
   case neg =>
    rw [if_neg hy] at hE
    subst hE
    have hz:=Option.some.inj HZ.out
    subst hz
    have hyb2:decide ((0:Int) < (ys.length:Int))=false:=decide_eq_false (by omega)
    have hyb3:decide (0 < ys.length)=false:=decide_eq_false (by omega)
    have HMs:=Aside0.mk (HM.out.set HN.out 7 (.slice A7 ys.length c7))
    clear HZ hy
    go_wp2_with fail
    refine (cr_must_dies _ 50 (by decide) _).mono ?_
    rintro e w3 ⟨rfl,rfl⟩
    go_wp2
    exact ⟨rfl,rfl,HMs.out.C.below⟩
   rw [if_pos hy] at hE
   subst hE
   have hyb2:decide ((0:Int) < (ys.length:Int))=true:=decide_eq_true (by omega)
   have hyb3:decide (0 < ys.length)=true:=decide_eq_true (by omega)
   have HMs:=Aside0.mk (HM.out.set HN.out 7 (.slice A7 ys.length c7))
   have HR5s:=Aside0.mk (Kd.R_set HR5.out HM.out.km (by decide) 7 (.slice A7 ys.length c7))
   have HR6s:=Aside0.mk (Kd.R_set HR6.out HM.out.km (by decide) 7 (.slice A7 ys.length c7))
   have HR7s:=Aside0.mk (Kd.R_set HR7.out HM.out.km (by decide) 7 (.slice A7 ys.length c7))
   have HM0':=HM
   clear HM HR5 HR6 HR7 hy
   have HM:=HMs
   have HR5:=HR5s
   have HR6:=HR6s
   have HR7:=HR7s
   clear HMs HR5s HR6s HR7s HM0'
   have cq:=HM.out.C.1.c0
   go_wp2_with fail
   refine (rd_At.calls B g bs q3 _ HM.out.C.1.R).mono ?_
   rintro e wx ⟨rfl,rfl⟩
   have hz:=Option.some.inj HZ.out
   clear HZ
   by_cases hp:(q3:Int)=wrap64 (n + p6)
   ·rw [if_pos hp] at hz
    subst hz
    have hpb:((q3:Int) != wrap64 (n + p6))=false:=bne_eq_false_iff_eq.mpr hp
    clear hp cq
    have km:=HM.out.km
    have k0:=HM.out.k0
    have e0:=(blk_cell km 0).trans rfl
    have e1:=(blk_cell km 1).trans rfl
    have e2:=(blk_cell km 2).trans rfl
    have e3:=(blk_cell km 3).trans rfl
    have e4:=(blk_cell km 4).trans rfl
    have e5:=(blk_cell km 5).trans rfl
    have e6:=(blk_cell km 6).trans rfl
    have e7:=(blk_cell km 7).trans rfl
    have g0:=(blk_cell k0 0).trans rfl
    have g1:=(blk_cell k0 1).trans rfl
    have g2:=(blk_cell k0 2).trans rfl
    have g3:=(blk_cell k0 3).trans rfl
    have g4:=(blk_cell k0 4).trans rfl
    have g5:=(blk_cell k0 5).trans rfl
    have g6:=(blk_cell k0 6).trans rfl
    have g7:=(blk_cell k0 7).trans rfl
    have f0:=blk_frozen k0 0
    have f1:=blk_frozen k0 1
    have f2:=blk_frozen k0 2
    have f3:=blk_frozen k0 3
    have f4:=blk_frozen k0 4
    have f5:=blk_frozen k0 5
    have f6:=blk_frozen k0 6
    have f7:=blk_frozen k0 7
    clear km
    go_wp2
    have hF:=out_sets (B:=B) (w:=w) (br:=br) (g:=g) (vp:=.slice A0 l0.length c0) (bs:=bs) (p:=q3) HM.out.h0 HLT.out [(0,.int .i64 x1),(1,.int .i64 x2),(2,.int .i64 x3),(3,.int .i64 x7),(4,.int .i64 x8),(5,.slice A5 code.length c5),(6,.slice A6 l.length c6),(7,.slice A7 ys.length c7)] _ _ k0 HM.out.C HR5.out HR6.out HR7.out
    have HF:=Aside0.mk hF
    have hk:=blk_set (blk_set (blk_set (blk_set (blk_set (blk_set (blk_set (blk_set k0 0 (.int .i64 x1)) 1 (.int .i64 x2)) 2 (.int .i64 x3)) 3 (.int .i64 x7)) 4 (.int .i64 x8)) 5 (.slice A5 code.length c5)) 6 (.slice A6 l.length c6)) 7 (.slice A7 ys.length c7)
    have r0:=(blk_cell hk 0).trans rfl
    have r1:=(blk_cell hk 1).trans rfl
    have r2:=(blk_cell hk 2).trans rfl
    have r3:=(blk_cell hk 3).trans rfl
    have r4:=(blk_cell hk 4).trans rfl
    have r5:=(blk_cell hk 5).trans rfl
    have r6:=(blk_cell hk 6).trans rfl
    have r7:=(blk_cell hk 7).trans rfl
    clear hF k0 hk e0 e1 e2 e3 e4 e5 e6 e7 g0 g1 g2 g3 g4 g5 g6 g7 f0 f1 f2 f3 f4 f5 f6 f7
    refine bodyPost_ret (v:=.agg #[.int .i64 x1,.int .i64 x2,.int .i64 x3,.int .i64 x7,.int .i64 x8,.slice A5 code.length c5,.slice A6 l.length c6,.slice A7 ys.length c7]) ?_ rfl ?_
    ·simp [results,Tryd.results60,go_sem,r0,r1,r2,r3,r4,r5,r6,r7]
    ·exact ⟨_,_,_,rfl,HF.out.2.1,HF.out.2.2.1,HF.out.2.2.2,HF.out.1⟩
   ·rw [if_neg hp] at hz
    subst hz
    have hpb:((q3:Int) != wrap64 (n + p6))=true:=bne_iff_ne.mpr hp
    clear hp
    go_wp2_with fail
    refine (cr_must_dies _ 50 (by decide) _).mono ?_
    rintro e w3 ⟨rfl,rfl⟩
    go_wp2
    exact ⟨rfl,rfl,HM.out.C.below⟩
end Go.Proofs.YtbgniepcoaiinaaDoor.Px
namespace Go.Proofs.YtbgniepcoaiinaaDoor.Px
open Go.RowKit Go.Proofs.YtbgniepcoaiinaaDoorW.PrintWords Go.Proofs.YtbgniepcoaiinaaDoorW.PrintLast Go.Proofs.YtbgniepcoaiinaaDoorW.PrintMore
set_option linter.unusedVariables false
set_option linter.unusedSimpArgs false
def nxN (c:Int):Int:=if 224≤c then (if c < 240 then 3 else 1) else if 192≤c then 2 else 1
theorem nxN_cases (c:Int):nxN c=1 ∨ nxN c=2 ∨ nxN c=3:=by
 unfold nxN
 split
 ·split
  ·exact .inr (.inr rfl)
  ·exact .inl rfl
 ·split
  ·exact .inr (.inl rfl)
  ·exact .inl rfl
def u0V (L:List Int):Int:=if nxN (rd L 0)=1 then wrap32 (rd L 0) else if nxN (rd L 0)=2 then Go.bits .and .i32 (wrap32 (rd L 0)) 31 else Go.bits .and .i32 (wrap32 (rd L 0)) 15
theorem fits_add' (a:Addr) (x j:Nat):(a.add x).add j=a.add (x + j):=by
 unfold Addr.add
 by_cases h1:x=0 <;> by_cases h2:j=0 <;> simp [h1,h2,Nat.add_assoc]
def U2 (L:List Int):Int:=Go.bits .or .i32 (wrap32 (u0V L * 64)) (wrap32 (Go.bits .and .u8 (rd L 1) 63))
def U3 (L:List Int):Int:=Go.bits .or .i32 (wrap32 (U2 L * 64)) (wrap32 (Go.bits .and .u8 (rd L 2) 63))
def uniV (L:List Int):Option Int :=
 if (L.length:Int) < nxN (rd L 0) then none
 else if nxN (rd L 0)=1 then some (u0V L)
 else if rd L 1 / 64=2 then (if nxN (rd L 0)=2 then some (U2 L) else if rd L 2 / 64=2 then some (U3 L) else none) else none
def text_next.f (k:Nat) (L:List Int):Option (Int × Bool × Nat) :=
 match uniV L with
 | none => some (0,false,0)
 | some u => (text_unit.f k [] u).bind fun b => some (u,(strOfNums b).toList==(strOfNums (L.take (nxN (rd L 0)).toNat)).toList,(nxN (rd L 0)).toNat)
set_option maxHeartbeats 8000000 in
set_option maxRecDepth 100000 in
theorem next.calls (k:Nat) (w0 w:World) (gb:Nat) (A:Option Addr) (c:Nat) (L:List Int) (hB:Below w0.heap.size w0 w) (hg:w0.heap.size≤gb) (hb:w.heap[gb]?=some (.cells #[.slice A L.length c] 27 (0,0)))
  (hC:Kd.C (Kd.int .u8) w0 A L.length L) (hc:L.length≤c) (hne:0 < L.length) (r1:Int) (r2:Bool) (r3:Nat) (h:text_next.f k L=some (r1,r2,r3)) :
  Calls Tryd.prog 95 #[.pointer (some ⟨gb,0,none⟩)] w fun e w' => e=.returned (.tuple #[.int .i32 r1,.bool r2])∧(∃ A' c',w'.heap[gb]?=some (.cells #[.slice A' (L.drop r3).length c'] 27 (0,0))∧Kd.C (Kd.int .u8) w0 A' (L.drop r3).length (L.drop r3)∧(L.drop r3).length≤c')∧Below w0.heap.size w0 w'∧Kept w w' (fun j => j=gb):=by
 have HH:=Aside0.mk h
 clear h
 have HC:=Aside0.mk hC
 have HB:=Aside0.mk hB
 have HG:=Aside0.mk hg
 have HBK:=Aside0.mk hb
 have hcell:w.cell? ⟨gb,0,none⟩=some (.slice A L.length c):=(blk_cell hb 0).trans rfl
 have hCw:=Kd.C_below hC hB
 obtain ⟨ad,rfl,hx0⟩:=Kd.at_int hCw 0 (by omega) (by omega)
 rw [show ((0:Int)).toNat=0 from rfl,Addr.add_zero'] at hx0
 have qi:(0 < L.length)=True:=eq_true hne
 have u22:=Tryd.underlying27
 clear hC hB hg hb hCw
 go_enter Tryd.func95,Tryd.ntmps95
 go_upto_block 0 with (fail)
 go_cut [3] (fun v3 wc => v3=.int .i64 (nxN (rd L 0))∧wc=w)
 case first =>
  by_cases h1:224≤rd L 0
  ·have h1b:decide (224≤rd L 0)=true:=decide_eq_true h1
   by_cases h2:rd L 0 < 240
   ·have h2b:decide (rd L 0 < 240)=true:=decide_eq_true h2
    have hn:=Aside0.mk (show nxN (rd L 0)=3 by unfold nxN;rw [if_pos h1,if_pos h2])
    clear h1 h2
    go_wp2
    go_meet
    case rel => exact ⟨by rw [hn.out],rfl⟩
   ·have h2b:decide (rd L 0 < 240)=false:=decide_eq_false h2
    have h3b:decide (192≤rd L 0)=true:=decide_eq_true (by omega)
    have h4b:decide (rd L 0 < 224)=false:=decide_eq_false (by omega)
    have hn:=Aside0.mk (show nxN (rd L 0)=1 by unfold nxN;rw [if_pos h1,if_neg h2])
    clear h1 h2
    go_wp2
    go_meet
    case rel => exact ⟨by rw [hn.out],rfl⟩
  ·have h1b:decide (224≤rd L 0)=false:=decide_eq_false h1
   by_cases h2:192≤rd L 0
   ·have h2b:decide (192≤rd L 0)=true:=decide_eq_true h2
    have h4b:decide (rd L 0 < 224)=true:=decide_eq_true (by omega)
    have hn:=Aside0.mk (show nxN (rd L 0)=2 by unfold nxN;rw [if_neg h1,if_pos h2])
    clear h1 h2
    go_wp2
    go_meet
    case rel => exact ⟨by rw [hn.out],rfl⟩
   ·have h2b:decide (192≤rd L 0)=false:=decide_eq_false h2
    have hn:=Aside0.mk (show nxN (rd L 0)=1 by unfold nxN;rw [if_neg h1,if_neg h2])
    clear h1 h2
    go_wp2
    go_meet
    case rel => exact ⟨by rw [hn.out],rfl⟩
 case rest =>
  obtain ⟨rfl,hww⟩:=hcut
  replace hww:=hww.symm
  subst hww
  by_cases hl:(L.length:Int) < nxN (rd L 0)
  ·have hlb:decide ((L.length:Int) < nxN (rd L 0))=true:=decide_eq_true hl
   have hU:uniV L=none:=if_pos hl
   have hH:=HH.out
   unfold text_next.f at hH
   rw [hU] at hH
   simp only [Option.some.injEq,Prod.mk.injEq] at hH
   obtain ⟨rfl,rfl,rfl⟩:=hH
   have HCC:=Aside0.mk hc
   clear hl hU
   go_wp2
   go_ret2
   exact ⟨rfl,⟨some ad,c,HBK.out,HC.out,HCC.out⟩,HB.out,Kept.refl _ _⟩
  have hlb:decide ((L.length:Int) < nxN (rd L 0))=false:=decide_eq_false hl
  have HL:=Aside0.mk hl
  clear hl
  go_upto_if 35 with (fail)
  go_cut [3,5] (fun v3 v5 wc => v3=.int .i64 (nxN (rd L 0))∧v5=.int .i32 (u0V L)∧wc=w)
  case first =>
   rcases nxN_cases (rd L 0) with hn|hn|hn
   ·rw [hn]
    have hN:=Aside0.mk hn
    clear hn
    go_wp2
    go_meet
    case rel => exact ⟨by rw [hN.out],by unfold u0V;rw [hN.out];rfl,rfl⟩
   ·rw [hn]
    have hN:=Aside0.mk hn
    clear hn
    go_wp2
    go_meet
    case rel => exact ⟨by rw [hN.out],by unfold u0V;rw [hN.out];rfl,rfl⟩
   ·rw [hn]
    have hN:=Aside0.mk hn
    clear hn
    go_wp2
    go_meet
    case rel => exact ⟨by rw [hN.out],by unfold u0V;rw [hN.out];rfl,rfl⟩
  case rest =>
  obtain ⟨rfl,rfl,hww⟩:=hcut
  replace hww:=hww.symm
  subst hww
  obtain ⟨i0,hi0,_,hsz,_⟩:=info_parts info5
  have hn1:1≤nxN (rd L 0):=by rcases nxN_cases (rd L 0) with hn|hn|hn <;> omega
  have hs1:=cut_mid (P:=Tryd.prog) 27 5 .i64 .i64 Tryd.underlying27 hi0 1 hsz (some ad) L.length c 1 (nxN (rd L 0)) (by decide) hn1 (by have:=HL.out;omega) hc
  obtain ⟨A1,hA1⟩:∃ A1,A1=(if c=(1:Int).toNat then some ad else (some ad).map (·.add ((1:Int).toNat * 1))):=⟨_,rfl⟩
  rw [← hA1] at hs1
  have HA1:=Aside0.mk hA1
  clear hA1 hn1 hlb
  go_upto_block 1 with (fail)
  have hr1:2≤nxN (rd L 0)→(∃ a1,A1=some a1∧w.cell? a1=some (.int .u8 (rd L 1))∧(3≤nxN (rd L 0)→w.cell? (a1.add 1)=some (.int .u8 (rd L 2)))):=by
   intro h2
   have hl:=HL.out
   have hCw:=Kd.C_below HC.out HB.out
   have hA:=HA1.out
   rw [if_neg (by rw [show ((1:Int)).toNat=1 from rfl];omega)] at hA
   obtain ⟨a',ea,hx⟩:=Kd.at_int hCw 1 (by omega) (by omega)
   cases ea
   refine ⟨ad.add 1,hA,hx,fun h3 => ?_⟩
   obtain ⟨a',ea,hx⟩:=Kd.at_int hCw 2 (by omega) (by omega)
   cases ea
   rw [fits_add']
   exact hx
  go_cut [3,5,42,43,44] (fun v3 v5 v42 v43 v44 wc => v3=.int .i64 (nxN (rd L 0))∧(∃ u,v5=.int .i32 u∧uniV L=some u)∧wc=w)
  case first =>
   rcases nxN_cases (rd L 0) with hn|hn|hn
   ·have hN:=Aside0.mk hn
    rw [hn]
    clear hn
    simp only [Int.reduceToNat,Nat.sub_self]
    go_wp2
    refine wp_loop_rounds 1 ?_
    rw [rounds_succ]
    go_wp2
    go_meet
    case rel => exact ⟨by rw [hN.out],⟨_,rfl,by unfold uniV;rw [if_neg (by have:=HL.out;omega),hN.out,if_pos rfl]⟩,rfl⟩
   ·have hN:=Aside0.mk hn
    obtain ⟨a1,rfl,hx1,_⟩:=hr1 (by omega)
    rw [hn]
    clear hn
    simp only [Int.reduceToNat,Nat.reduceSub]
    by_cases hb:rd L 1 / 64=2
    ·have hbb:(rd L 1 / 64 != 2)=false:=bne_eq_false_iff_eq.mpr hb
     have HBB:=Aside0.mk hb
     clear hb
     go_wp2
     refine wp_loop_rounds 2 ?_
     rw [rounds_succ]
     go_wp2
     rw [rounds_succ]
     go_wp2
     go_meet
     case rel => exact ⟨by rw [hN.out],⟨_,rfl,by unfold uniV;rw [if_neg (by have:=HL.out;omega),hN.out,if_neg (by decide),if_pos HBB.out,if_pos rfl];rfl⟩,rfl⟩
    ·have hU:uniV L=none:=by unfold uniV;rw [if_neg (by have:=HL.out;omega),hN.out,if_neg (by decide),if_neg hb]
     have hH:=HH.out
     unfold text_next.f at hH
     rw [hU] at hH
     simp only [Option.some.injEq,Prod.mk.injEq] at hH
     obtain ⟨rfl,rfl,rfl⟩:=hH
     have hbb:(rd L 1 / 64 != 2)=true:=bne_iff_ne.mpr hb
     have HCC:=Aside0.mk hc
     clear hb hU
     go_wp2
     refine wp_loop_rounds 1 ?_
     rw [rounds_succ]
     go_wp2
     go_ret2
     exact ⟨rfl,⟨some ad,c,HBK.out,HC.out,HCC.out⟩,HB.out,Kept.refl _ _⟩
   ·have hN:=Aside0.mk hn
    obtain ⟨a1,rfl,hx1,hx2⟩:=hr1 (by omega)
    have hx2:w.cell? ⟨a1.block,a1.off + 1,none⟩=some (.int .u8 (rd L 2)):=hx2 (by omega)
    rw [hn]
    clear hn
    simp only [Int.reduceToNat,Nat.reduceSub]
    by_cases hb:rd L 1 / 64=2
    ·have hbb:(rd L 1 / 64 != 2)=false:=bne_eq_false_iff_eq.mpr hb
     have HBB:=Aside0.mk hb
     clear hb
     by_cases hb:rd L 2 / 64=2
     ·have hbb:(rd L 2 / 64 != 2)=false:=bne_eq_false_iff_eq.mpr hb
      have HBB2:=Aside0.mk hb
      clear hb
      go_wp2
      refine wp_loop_rounds 3 ?_
      rw [rounds_succ]
      go_wp2
      rw [rounds_succ]
      go_wp2
      rw [rounds_succ]
      go_wp2
      go_meet
      case rel => exact ⟨by rw [hN.out],⟨_,rfl,by unfold uniV;rw [if_neg (by have:=HL.out;omega),hN.out,if_neg (by decide),if_pos HBB.out,if_neg (by decide),if_pos HBB2.out];rfl⟩,rfl⟩
     ·have hU:uniV L=none:=by unfold uniV;rw [if_neg (by have:=HL.out;omega),hN.out,if_neg (by decide),if_pos HBB.out,if_neg (by decide),if_neg hb]
      have hH:=HH.out
      unfold text_next.f at hH
      rw [hU] at hH
      simp only [Option.some.injEq,Prod.mk.injEq] at hH
      obtain ⟨rfl,rfl,rfl⟩:=hH
      have hbb:(rd L 2 / 64 != 2)=true:=bne_iff_ne.mpr hb
      have HCC:=Aside0.mk hc
      clear hb hU
      go_wp2
      refine wp_loop_rounds 2 ?_
      rw [rounds_succ]
      go_wp2
      rw [rounds_succ]
      go_wp2
      go_ret2
      exact ⟨rfl,⟨some ad,c,HBK.out,HC.out,HCC.out⟩,HB.out,Kept.refl _ _⟩
    ·have hU:uniV L=none:=by unfold uniV;rw [if_neg (by have:=HL.out;omega),hN.out,if_neg (by decide),if_neg hb]
     have hH:=HH.out
     unfold text_next.f at hH
     rw [hU] at hH
     simp only [Option.some.injEq,Prod.mk.injEq] at hH
     obtain ⟨rfl,rfl,rfl⟩:=hH
     have hbb:(rd L 1 / 64 != 2)=true:=bne_iff_ne.mpr hb
     have HCC:=Aside0.mk hc
     clear hb hU
     go_wp2
     refine wp_loop_rounds 1 ?_
     rw [rounds_succ]
     go_wp2
     go_ret2
     exact ⟨rfl,⟨some ad,c,HBK.out,HC.out,HCC.out⟩,HB.out,Kept.refl _ _⟩
  case rest =>
  obtain ⟨rfl,⟨u,rfl,hU⟩,hww⟩:=hcut
  replace hww:=hww.symm
  subst hww
  have hH:=HH.out
  unfold text_next.f at hH
  rw [hU] at hH
  obtain ⟨b,hb,hH⟩:=Option.bind_eq_some_iff.mp hH
  simp only [Option.some.injEq,Prod.mk.injEq] at hH
  obtain ⟨rfl,rfl,rfl⟩:=hH
  have HU:=Aside0.mk hU
  have HA:=Aside0.mk hb
  clear hb hU
  have hn1:1≤nxN (rd L 0):=by rcases nxN_cases (rd L 0) with hn|hn|hn <;> omega
  have hs2:=cut_to (P:=Tryd.prog) 27 5 .i64 Tryd.underlying27 hi0 (some ad) L.length c (nxN (rd L 0)) (by omega) (by have:=HL.out;omega) hc
  have hs3:=cut_from (P:=Tryd.prog) 27 5 .i64 Tryd.underlying27 hi0 1 hsz (some ad) L.length c (nxN (rd L 0)) (by omega) (by have:=HL.out;omega)
  obtain ⟨A2,hA2⟩:∃ A2,A2=(if c=(nxN (rd L 0)).toNat then some ad else (some ad).map (·.add ((nxN (rd L 0)).toNat * 1))):=⟨_,rfl⟩
  rw [← hA2] at hs3
  have HA2:=Aside0.mk hA2
  have HN1:=Aside0.mk hn1
  have hT:∀ W,Below w0.heap.size w0 W→(convert 27 9 (.slice (some ad) (nxN (rd L 0)).toNat c)).run Tryd.prog W=.ok (.string (strOfNums (L.take (nxN (rd L 0)).toNat))) W:=by
   intro W hW
   have hC1:=Kd.C_take (m:=(nxN (rd L 0)).toNat) (Kd.C_below HC.out hW) (by have:=HL.out;omega)
   rw [List.length_take,Nat.min_eq_left (by have:=HL.out;omega)] at hC1
   exact Kd.C_string Tryd.underlying27 Tryd.underlying5 Tryd.underlying9 hC1
  have HT:=Aside0.mk hT
  have hT1:∀ nq,(convert 27 9 (.slice (some ad) (nxN (rd L 0)).toNat c)).run Tryd.prog (w.drewN nq)=.ok (.string (strOfNums (L.take (nxN (rd L 0)).toNat))) (w.drewN nq):=fun nq => hT _ (pw_below_drewN HB.out nq)
  have hT3:(convert 27 9 (.slice (some ad) (nxN (rd L 0)).toNat c)).run Tryd.prog w.drew=.ok (.string (strOfNums (L.take (nxN (rd L 0)).toNat))) w.drew:=hT _ (below_drew1 HB.out)
  have hCC:=Aside0.mk hc
  clear hT hA2 hs1 HA1 hn1 hx0 hr1
  go_wp2_with (fail)
  go_region_with (first|(go_at_call 64;refine (text_unit.calls k (fun _ => False) _ [] u b w0 _ (by first|exact HB.out|exact pw_below_drewN HB.out _) (Kd.R_nil _ _ _ _ _) HA.out).mono ?_;rintro e w2 ⟨v2,rfl,hR2,hB2,hK2⟩;obtain ⟨A3,c3,hv3⟩:=Kd.R_slice hR2;subst hv3;have hC3:=(Kd.R_reads' hR2).2.2;have hcv:=Kd.C_string (P:=Tryd.prog) (src:=27) (dst:=9) (c:=c3) Tryd.underlying27 Tryd.underlying5 Tryd.underlying9 hC3;have hHB2:=(hK2.2 gb (by first|exact blk_lt HBK.out) (fun h => h)).trans (by first|exact HBK.out|exact blk_drewN HBK.out _);have hcell2:w2.cell? ⟨gb,0,none⟩=some (.slice (some ad) L.length c):=(blk_cell hHB2 0).trans rfl;have hfz2:=blk_frozen hHB2 0;have hT2:=HT.out w2 hB2;have HB2:=Aside0.mk hB2;have HHB2:=Aside0.mk hHB2;have HK2:=Aside0.mk hK2;clear hR2 hB2 hC3 hHB2 hK2))
  all_goals go_wp2
  all_goals go_ret2
  all_goals (
   refine ⟨rfl,⟨A2,c - (nxN (rd L 0)).toNat,by rw [List.length_drop];simpa using blk_set HHB2.out 0 (.slice A2 (L.length - (nxN (rd L 0)).toNat) (c - (nxN (rd L 0)).toNat)),?_,by rw [List.length_drop];have:=hCC.out;omega⟩,below_set HB2.out HG.out,?_⟩
   ·rw [HA2.out]
    exact Kd.C_drop (m:=(nxN (rd L 0)).toNat) (c:=c) HC.out (by have:=HL.out;omega) hCC.out
   ·exact Kept.setCell ((show Kept w w2 (fun _ => False) from HK2.out).mono (S':=fun j => j=gb) (fun _ h => h.elim)) (p:=⟨gb,0,none⟩) (.inl rfl) _)
end Go.Proofs.YtbgniepcoaiinaaDoor.Px
namespace Go.Proofs.YtbgniepcoaiinaaDoor.Px
open Go.RowKit Go.Proofs.YtbgniepcoaiinaaDoorW.PrintWords Go.Proofs.YtbgniepcoaiinaaDoorW.PrintLast Go.Proofs.YtbgniepcoaiinaaDoorW.PrintMore
set_option linter.unusedVariables false
set_option linter.unusedSimpArgs false
def IsB (ok:Nat→Prop) (w0 w:World) (g:Nat) (l:List Int):Prop :=
 ∃ p v,w.heap[g]?=some (.cells #[p,v] 174 (0,0))∧(p=.pointer none ∨ p=.pointer (some ⟨g,0,none⟩))∧Kd.R (Kd.int .u8) 5 w w0.heap.size ok v l
theorem B_size:(Tryd.prog.info? 174).map (·.size)=some 2:=by kernel_rfl
theorem B_lies:liesAt Tryd.prog Tryd.prog.depth 174 (2 / Tryd.prog.cellsOf 174) 0 174 1=true:=by kernel_rfl
set_option maxRecDepth 100000 in
theorem copyCheck_used (b:Nat) (w:World) (h0:w.cell? ⟨b,0,none⟩=some (.pointer (some ⟨b,0,none⟩))) :
  Calls Tryd.prog 99 #[.pointer (some ⟨b,0,none⟩)] w fun e w' => e=.returned (.tuple #[])∧w'=w:=by
 obtain ⟨j,hj,_⟩:=Option.map_eq_some_iff.1 B_size
 have u1:=Tryd.underlying172
 go_enter Tryd.func99,Tryd.ntmps99
 go_wp2
 rw [Lib.run_neq_ptr_same w _ Tryd.underlying172 hj]
 go_wp2
 go_end0
 exact ⟨rfl,rfl⟩
set_option maxRecDepth 100000 in
theorem copyCheck_fresh (b:Nat) (w:World) (h0:w.cell? ⟨b,0,none⟩=some (.pointer none)) (hsh:w.shape? b=some (174,2)) (hfz:w.frozen? ⟨b,0,none⟩=false) :
  Calls Tryd.prog 99 #[.pointer (some ⟨b,0,none⟩)] w fun e w' => e=.returned (.tuple #[])∧w'=w.setCell ⟨b,0,none⟩ (.pointer (some ⟨b,0,none⟩)):=by
 obtain ⟨j,hj,hjs⟩:=Option.map_eq_some_iff.1 B_size
 have u1:=Tryd.underlying172
 have u2:=Tryd.underlying126
 go_enter Tryd.func99,Tryd.ntmps99
 go_wp2
 rw [Lib.run_to_unsafe w ⟨b,0,none⟩ Tryd.underlying172 Tryd.underlying126 hj (by rw [hjs];decide) hsh (Nat.zero_lt_succ 1)]
 simp only [Result.andThen]
 rw [Oper.upon_value]
 go_wp2
 rw [run_callFunc_extern Tryd.func101 (by kernel_rfl) (by kernel_rfl) (by kernel_rfl) (e:=Extern.AbiNoEscape.same) (by kernel_rfl)]
 rw [Lib.run_noEscape]
 simp only [Result.andThen]
 rw [Oper.upon_value]
 go_wp2
 rw [Lib.run_from_unsafe w ⟨b,0,none⟩ Tryd.underlying126 Tryd.underlying172 hj hsh B_lies]
 simp only [Result.andThen]
 rw [Oper.upon_value]
 go_wp2
 go_end0
 exact ⟨rfl,rfl⟩
theorem copyCheck.calls (w0 w:World) (g:Nat) (p v:Value) (hB:Below w0.heap.size w0 w) (hg0:w0.heap.size≤g) (hb:w.heap[g]?=some (.cells #[p,v] 174 (0,0))) (hp:p=.pointer none ∨ p=.pointer (some ⟨g,0,none⟩)) :
  Calls Tryd.prog 99 #[.pointer (some ⟨g,0,none⟩)] w fun e w' => e=.returned (.tuple #[])∧w'.heap[g]?=some (.cells #[.pointer (some ⟨g,0,none⟩),v] 174 (0,0))∧Below w0.heap.size w0 w'∧Kept w w' (fun j => j=g)∧w'.heap.size=w.heap.size:=by
 have h0:w.cell? ⟨g,0,none⟩=some p:=(blk_cell hb 0).trans rfl
 rcases hp with rfl|rfl
 ·refine (copyCheck_fresh g w h0 (by simp [World.shape?,hb]) (blk_frozen hb 0)).mono ?_
  rintro e w' ⟨rfl,rfl⟩
  exact ⟨rfl,by simpa using blk_set hb 0 (.pointer (some ⟨g,0,none⟩)),below_set hB hg0,Kept.setCell (Kept.refl w (fun j => j=g)) (p:=⟨g,0,none⟩) (.inl rfl) _,by simp [World.setCell]⟩
 ·refine (copyCheck_used g w h0).mono ?_
  rintro e w' ⟨rfl,rfl⟩
  exact ⟨rfl,hb,hB,Kept.refl _ _,rfl⟩
set_option maxHeartbeats 8000000 in
set_option maxRecDepth 100000 in
theorem writeRune.calls (k:Nat) (ok:Nat→Prop) (w0 w:World) (g:Nat) (l r:List Int) (u:Int) (hB:Below w0.heap.size w0 w) (hg0:w0.heap.size≤g) (hI:IsB ok w0 w g l) (hok:∀ j,ok j→j ≠ g) (h:utf8_AppendRune.f k l u=some r) :
  Calls Tryd.prog 96 #[.pointer (some ⟨g,0,none⟩),.int .i32 u] w fun e w' => (∃ n:Int,e=.returned (.tuple #[.int .i64 n,.nilIface]))∧IsB (fun j => ok j ∨ w.heap.size≤j) w0 w' g r∧Below w0.heap.size w0 w'∧Kept w w' (fun j => ok j ∨ j=g):=by
 obtain ⟨p,v,hb,hp,hR⟩:=hI
 obtain ⟨Ao,co,rfl⟩:=Kd.R_slice hR
 have HCC:=Aside0.mk (copyCheck.calls w0 w g p _ hB hg0 hb hp)
 have HR:=Aside0.mk hR
 have HA:=Aside0.mk h
 have hlt:=blk_lt hb
 have HLT:=Aside0.mk hlt
 have HG:=Aside0.mk hg0
 have HOK:=Aside0.mk hok
 clear hb hp hR h hlt hB hok hg0
 have u1:=Tryd.underlying172
 have u2:=Tryd.underlying27
 go_enter Tryd.func96,Tryd.ntmps96
 go_wp2_with (first
  | (go_at_call 99;refine HCC.out.mono ?_;rintro e w1 ⟨rfl,hb1,hB1,hK1,hz1⟩;have HB1:=Aside0.mk hb1;have HW1:=Aside0.mk hB1;have HK1:=Aside0.mk hK1;have HZ1:=Aside0.mk hz1;have HR1:=Aside0.mk (Kd.R_step HR.out (fun j hj hl => HK1.out.2 j hl (HOK.out j hj)));have hc0:w1.cell? ⟨g,0,none⟩=some (.pointer (some ⟨g,0,none⟩)):=(blk_cell HB1.out 0).trans rfl;have hc1:w1.cell? ⟨g,1,none⟩=some (.slice Ao l.length co):=(blk_cell HB1.out 1).trans rfl;clear hb1 hB1 hK1 hz1)
  | (go_at_call 100;refine (utf8_AppendRune.calls k ok _ l u r w0 _ HW1.out HR1.out HA.out).mono ?_;rintro e w2 ⟨v2,rfl,hR2,hB2,hK2⟩;have HB2:=Aside0.mk ((hK2.2 g (blk_lt HB1.out) (fun h => HOK.out g h rfl)).trans HB1.out);have HR2:=Aside0.mk hR2;have HW2:=Aside0.mk hB2;have HK2:=Aside0.mk hK2;have hd0:w2.cell? ⟨g,0,none⟩=some (.pointer (some ⟨g,0,none⟩)):=(blk_cell HB2.out 0).trans rfl;have hd1:w2.cell? ⟨g,1,none⟩=some (.slice Ao l.length co):=(blk_cell HB2.out 1).trans rfl;have hf1:=blk_frozen HB2.out 1;obtain ⟨Ap,cp,hv2⟩:=Kd.R_slice hR2;subst hv2;clear hR2 hB2 hK2))
 go_ret2
 refine ⟨⟨_,rfl⟩,⟨.pointer (some ⟨g,0,none⟩),.slice Ap r.length cp,by simpa using blk_set HB2.out 1 (.slice Ap r.length cp),.inr rfl,?_⟩,below_set HW2.out HG.out,?_⟩
 ·have h1:Kd.R (Kd.int .u8) 5 (w2.setCell ⟨g,1,none⟩ (.slice Ap r.length cp)) w0.heap.size (fun j => ok j ∨ w1.heap.size≤j) (.slice Ap r.length cp) r:=by
   refine Kd.R_step HR2.out (fun j hj _ => Below.heap_setCell w2 ⟨g,1,none⟩ _ j ?_)
   intro e
   have e1:j=g:=e
   rcases hj with hj|hj
   ·exact HOK.out _ hj e1
   ·have h2:=HLT.out
    have h3:=HZ1.out
    omega
  rw [HZ1.out] at h1
  exact h1
 ·exact Kept.setCell ((HK1.out.mono (S':=fun j => ok j ∨ j=g) (fun j h => .inr h)).then_ (S2:=ok) HK2.out (fun j h => .inl (.inl h))) (p:=⟨g,1,none⟩) (.inl (.inr rfl)) _
end Go.Proofs.YtbgniepcoaiinaaDoor.Px
namespace Go.Proofs.YtbgniepcoaiinaaDoor.Px
open Go.RowKit Go.Proofs.YtbgniepcoaiinaaDoorW.PrintWords Go.Proofs.YtbgniepcoaiinaaDoorW.PrintLast Go.Proofs.YtbgniepcoaiinaaDoorW.PrintMore
set_option linter.unusedVariables false
set_option linter.unusedSimpArgs false
def pairV (a u:Int):Int:=wrap32 (wrap32 (wrap32 (65536 + wrap32 (wrap32 (a - 55296) * 1024)) + u) - 56320)
def text_Decode.l0:Nat→List Int→Int→List Int→Option (ByteArray × Int)
 | 0,_,_,_ => none
 | k + 1,L,a,o =>
  if 0 < L.length then (text_next.f k L).bind fun t =>
   if t.2.1=true then
    (if ((decide (56320≤t.1) && decide (t.1 < 57344)) != (a != 0))=true then some ((⟨#[]⟩:ByteArray),20)
    else if (a != 0)=true then (utf8_AppendRune.f k o (pairV a t.1)).bind fun o1 => text_Decode.l0 k (L.drop t.2.2) 0 o1
    else if (decide (55296≤t.1) && decide (t.1 < 56320))=true then text_Decode.l0 k (L.drop t.2.2) t.1 o
    else (utf8_AppendRune.f k o t.1).bind fun o1 => text_Decode.l0 k (L.drop t.2.2) a o1)
   else some ((⟨#[]⟩:ByteArray),20)
  else if (a != 0)=true then some ((⟨#[]⟩:ByteArray),20) else some (strOfNums o,0)
def text_Decode.f (k:Nat) (l0:List Int):Option (ByteArray × Int):=text_Decode.l0 k l0 0 []
theorem text_next.mono (k:Nat) (L:List Int):LeO (text_next.f k L) (text_next.f (k + 1) L):=by
 unfold text_next.f
 split
 ·exact LeO.refl _
 ·exact LeO.bind (text_unit.mono _ _ _) (fun _ => LeO.refl _)
theorem text_Decode.mono_l:∀ k L a o,LeO (text_Decode.l0 k L a o) (text_Decode.l0 (k + 1) L a o)
 | 0 => fun _ _ _ r h => by simp [text_Decode.l0] at h
 | k + 1 => fun L a o => by
  unfold text_Decode.l0
  refine LeO.ite (LeO.bind (text_next.mono _ _) (fun t => LeO.ite (LeO.ite (LeO.refl _) (LeO.ite (LeO.bind (utf8_AppendRune.mono _ _ _) (fun _ => text_Decode.mono_l k _ _ _)) (LeO.ite (text_Decode.mono_l k _ _ _) (LeO.bind (utf8_AppendRune.mono _ _ _) (fun _ => text_Decode.mono_l k _ _ _))))) (LeO.refl _))) (LeO.refl _)
theorem text_Decode.mono:∀ l0 k,LeO (text_Decode.f k l0) (text_Decode.f (k + 1) l0):=fun l0 k => text_Decode.mono_l k l0 0 []
def IsL (w0 w:World) (gb:Nat) (L:List Int):Prop :=
 ∃ A c,w.heap[gb]?=some (.cells #[.slice A L.length c] 27 (0,0))∧Kd.C (Kd.int .u8) w0 A L.length L∧L.length≤c
def Ok2 (g gb j:Nat):Prop:=j ≠ g∧j ≠ gb
theorem IsB.keep {ok:Nat→Prop} {w0 w w':World} {g gb:Nat} {l:List Int} (h:IsB ok w0 w g l) (hk:Kept w w' (fun j => j=gb)) (hok:∀ j,ok j→j ≠ gb) (hne:g ≠ gb):IsB ok w0 w' g l:=by
 obtain ⟨p,v,hb,hp,hR⟩:=h
 exact ⟨p,v,(hk.2 g (blk_lt hb) hne).trans hb,hp,Kd.R_step hR (fun j hj hl => hk.2 j hl (hok j hj))⟩
theorem IsB.mono {ok ok':Nat→Prop} {w0 w:World} {g:Nat} {l:List Int} (h:IsB ok w0 w g l) (hok:∀ j,ok j→ok' j):IsB ok' w0 w g l:=by
 obtain ⟨p,v,hb,hp,hR⟩:=h
 exact ⟨p,v,hb,hp,Kd.R_mono hR hok⟩
theorem IsL.keep {w0 w w':World} {gb:Nat} {L:List Int} {S:Nat→Prop} (h:IsL w0 w gb L) (hk:Kept w w' S) (hn:¬ S gb):IsL w0 w' gb L:=by
 obtain ⟨A,c,hb,hC,hc⟩:=h
 exact ⟨A,c,(hk.2 gb (blk_lt hb) hn).trans hb,hC,hc⟩
def IsBytes (l:List Int):Prop:=∀ x ∈ l,0≤x∧x < 256
theorem bits_byte (op:BinOp) (a b:Int):0≤Go.bits op .u8 a b∧Go.bits op .u8 a b < 256:=by
 have h1:=Go.bits_lo_u8 op a b
 have h2:=Go.bits_hi_u8 op a b
 exact ⟨h1,by omega⟩
theorem IsBytes.app {a b:List Int} (ha:IsBytes a) (hb:IsBytes b):IsBytes (a++b):=fun x hx => (List.mem_append.1 hx).elim (ha x) (hb x)
theorem IsBytes.cons {x:Int} {l:List Int} (hx:0≤x∧x < 256) (hl:IsBytes l):IsBytes (x :: l):=fun y hy => (List.mem_cons.1 hy).elim (fun e => e ▸ hx) (hl y)
theorem IsBytes.nil:IsBytes []:=fun x hx => by cases hx
theorem utf8_appendRuneNonASCII.bytes_j0 (k:Nat) (o:List Int) (x y:Int) (b:Bool) (r:List Int) (ho:IsBytes o) (h:utf8_appendRuneNonASCII.j0 k o x y b=some r):IsBytes r:=by
 cases k with
 | zero => cases h
 | succ k =>
  simp only [utf8_appendRuneNonASCII.j0] at h
  repeat' split at h
  all_goals simp only [Option.bind_some,Option.ite_none_right_eq_some,Option.some.injEq,reduceCtorEq] at h
  all_goals first
   | (obtain ⟨_,rfl⟩:=h;refine ho.app ?_;repeat (first|exact IsBytes.nil|refine IsBytes.cons (by first|exact bits_byte _ _ _|omega) ?_))
   | (cases h)
theorem utf8_AppendRune.bytes (k:Nat) (o:List Int) (x:Int) (r:List Int) (ho:IsBytes o) (h:utf8_AppendRune.f k o x=some r):IsBytes r:=by
 unfold utf8_AppendRune.f at h
 split at h
 ·split at h
  ·cases h
   exact ho.app (IsBytes.cons (by omega) IsBytes.nil)
  ·cases h
 ·obtain ⟨q,hq,h⟩:=Option.bind_eq_some_iff.mp h
  cases h
  unfold utf8_appendRuneNonASCII.f at hq
  repeat' split at hq
  all_goals first
   | (exact utf8_appendRuneNonASCII.bytes_j0 _ _ _ _ _ _ ho hq)
   | (simp only [Option.bind_some,Option.ite_none_right_eq_some,Option.some.injEq] at hq;obtain ⟨_,rfl⟩:=hq;refine ho.app ?_;repeat (first|exact IsBytes.nil|refine IsBytes.cons (by first|exact bits_byte _ _ _|omega) ?_))
theorem reps_nums {l:List Int} {inner:List Value} (h:Reps (fun x cs => cs=[Value.int .u8 x]) 1 l inner):inner=nums .u8 l:=by
 apply List.ext_getElem?
 intro j
 have hl:inner.length=l.length:=by have:=h.1;omega
 rcases Nat.lt_or_ge j l.length with hj|hj
 ·have h1:=h.2 j _ (List.getElem?_eq_getElem hj)
  rw [Nat.mul_one,List.drop_eq_getElem_cons (by omega)] at h1
  simp only [List.take_succ_cons,List.take_zero,List.cons.injEq,and_true] at h1
  rw [List.getElem?_eq_getElem (by omega),h1]
  unfold nums
  rw [List.getElem?_map,List.getElem?_eq_getElem hj]
  rfl
 ·rw [List.getElem?_eq_none (by omega),List.getElem?_eq_none (by rw [nums_length];omega)]
theorem byteCells_nums {l:List Int} (h:IsBytes l):Lib.byteCells (l.map fun n => UInt8.ofNat n.toNat)=nums .u8 l:=by
 unfold Lib.byteCells nums
 rw [List.map_map]
 refine List.map_congr_left fun x hx => ?_
 have:=h x hx
 simp only [Function.comp,UInt8.toNat_ofNat']
 rw [Nat.mod_eq_of_lt (by omega),Int.toNat_of_nonneg this.1]
theorem IsB.string {ok:Nat→Prop} {w0 w:World} {g:Nat} {l:List Int} (h:IsB ok w0 w g l) (hl:IsBytes l) (hg:w0.heap.size≤g) (hz:w0.heap.size≤w.heap.size) :
  Calls Tryd.prog 97 #[.pointer (some ⟨g,0,none⟩)] w fun e w' => e=.returned (.string (strOfNums l))∧Below w0.heap.size w w':=by
 obtain ⟨p,v,hb,hp,hR⟩:=h
 have hne:=Kd.R_ne hR hb (by decide)
 obtain ⟨_,inner,ho,hr⟩:=hR
 have hr:=reps_nums hr
 subst hr
 have hbb:Lib.BuilderAt 174 5 w0.heap.size g p (Lib.byteCells (l.map fun n => UInt8.ofNat n.toNat)) w:=by
  rw [byteCells_nums hl]
  exact ⟨hg,v,hb,by rw [nums_length];exact ho,hne.symm⟩
 refine (Tryd.Builder_String_any w0.heap.size g (l.map fun n => UInt8.ofNat n.toNat) w ?_ hz).mono ?_
 ·rcases hp with rfl|rfl
  ·exact .inl hbb
  ·exact .inr hbb
 ·rintro e w' ⟨rfl,hB⟩
  exact ⟨rfl,hB⟩
set_option maxHeartbeats 80000000 in
set_option maxRecDepth 100000 in
theorem text_Decode.calls (k:Nat) (A0:Option Addr) (c0:Nat) (l0:List Int) (r1:ByteArray) (r2:Int) (w:World) (hr0:Kd.C (Kd.int .u8) w A0 l0.length l0) (hc0:l0.length≤c0) (h:text_Decode.f k l0=some (r1,r2)) :
  Calls Tryd.prog 93 #[.slice A0 l0.length c0] w fun e w' => e=.returned (.tuple #[.string r1,.int .i64 r2])∧Below w.heap.size w w':=by
 have HR:=Aside0.mk hr0
 have HC:=Aside0.mk hc0
 have H0:=Aside0.mk h
 clear hr0 hc0 h
 have u22:=Tryd.underlying27
 have uB:=Tryd.underlying174
 go_enter Tryd.func93,Tryd.ntmps93
 go_wp2_with (first
  | ((with_reducible refine gate_dst (N:=1) rfl ?_);refine box_event ?hg (N:=1) ?hd (cs:=#[.slice A0 l0.length c0]) (t:=27) ?hr ?_;(case hd => rfl);(case hg => rfl);(case hr => first|(go_simp;done)|(go_simp;rfl));intro gb hg w1 hbox hb;have HB1:=Aside0.mk (below_step (Below.refl w.heap.size w) hb);have BK1:=Aside0.mk hbox;have GE1:=Aside0.mk (Nat.le_of_eq hg.symm);clear hb hbox hg)
  | ((with_reducible refine gate_dst (N:=4) rfl ?_);refine box_event ?hg (N:=4) ?hd (cs:=#[.pointer none,.slice none 0 0]) (t:=174) ?hr ?_;(case hd => rfl);(case hg => rfl);(case hr => first|(go_simp;done)|(go_simp;rfl));intro g hg w2 hbox hb;have HB2:=Aside0.mk (below_step HB1.out hb);have BK2:=Aside0.mk hbox;have BK1':=Aside0.mk (blk_below BK1.out hb);have GE2:=Aside0.mk (show w.heap.size≤g from by rw [hg];exact HB1.out.size);have NE:=Aside0.mk (show gb ≠ g from by rw [hg];exact Nat.ne_of_lt (blk_lt BK1.out));clear hb hbox hg))
 have HZ:=Aside0.mk HB2.out.size
 go_loopg [5] k (fun kq v5 wr => ∃ (L:List Int) (a:Int) (o:List Int),v5=.int .i32 a∧Aside0 (text_Decode.l0 kq L a o=some (r1,r2))∧Aside0 (kq≤k)∧Aside0 (IsL w wr gb L)∧Aside0 (IsB (Ok2 g gb) w wr g o)∧Aside0 (IsBytes o)∧Aside0 (Below w.heap.size w wr))
 case atStart => exact ⟨l0,0,[],rfl,H0,⟨Nat.le_refl _⟩,⟨A0,c0,BK1'.out,HR.out,HC.out⟩,⟨.pointer none,.slice none 0 0,BK2.out,.inl rfl,Kd.R_nil _ _ _ _ _⟩,⟨fun x hx => by cases hx⟩,HB2⟩
 case round =>
  obtain ⟨L,a,o,rfl,HA,HK,HL,HI,HW,HB⟩:=hrel
  cases gk with
  | zero => exact absurd HA.out (by simp [text_Decode.l0])
  | succ k1 =>
  have H:=HA.out
  clear HA
  simp only [text_Decode.l0] at H
  obtain ⟨A,c,hbk,hC,hc⟩:=HL.out
  have HBK:=Aside0.mk hbk
  have HCC:=Aside0.mk hC
  have Hc:=Aside0.mk hc
  have hcell:wr.cell? ⟨gb,0,none⟩=some (.slice A L.length c):=(blk_cell hbk 0).trans rfl
  clear hbk hC hc
  have hlt:g < wr.heap.size:=by obtain ⟨p,v,hp,_⟩:=HI.out;exact blk_lt hp
  have HLT:=Aside0.mk hlt
  have HLB:=Aside0.mk (blk_lt HBK.out)
  clear hlt
  by_cases hp:0 < L.length
  ·rw [if_pos hp] at H
   obtain ⟨⟨u,t,m⟩,hn,H⟩:=Option.bind_eq_some_iff.mp H
   have HN:=Aside0.mk (next.calls k1 w wr gb A c L HB.out GE1.out HBK.out HCC.out Hc.out hp u t m hn)
   have hpb:decide (0 < L.length)=true:=decide_eq_true hp
   have hpi:decide ((0:Int) < (L.length:Int))=true:=decide_eq_true (by omega)
   clear hp hn
   cases t with
   | false =>
    rw [if_neg (by simp)] at H
    simp only [Option.some.injEq,Prod.mk.injEq] at H
    obtain ⟨rfl,rfl⟩:=H
    go_wp2_with (first|(go_at_call 95;refine HN.out.mono ?_;rintro e w3 ⟨rfl,hL3,hB3,hK3⟩;have HL3:=Aside0.mk hL3;have HB3:=Aside0.mk hB3;have HI3:=Aside0.mk (IsB.keep HI.out hK3 (fun j hj => hj.2) (Ne.symm NE.out));have HS3:=Aside0.mk hK3.1;clear hL3 hB3 hK3))
    go_ret2
    exact ⟨rfl,HB3.out⟩
   | true =>
    rw [if_pos rfl] at H
    by_cases h1:56320≤u
    ·have h1b:decide (56320≤u)=true:=decide_eq_true h1
     by_cases h2:u < 57344
     ·have h2b:decide (u < 57344)=true:=decide_eq_true h2
      clear h1 h2
      by_cases ha:(a != 0)=true
      ·rw [if_neg (by simp [h1b,h2b,ha]),if_pos ha] at H
       obtain ⟨o1,ho1,H⟩:=Option.bind_eq_some_iff.mp H
       have H2:=Aside0.mk ho1
       have H':=Aside0.mk H
       clear ho1 H
       go_wp2_with (first|(go_at_call 95;refine HN.out.mono ?_;rintro e w3 ⟨rfl,hL3,hB3,hK3⟩;have HL3:=Aside0.mk hL3;have HB3:=Aside0.mk hB3;have HI3:=Aside0.mk (IsB.keep HI.out hK3 (fun j hj => hj.2) (Ne.symm NE.out));have HS3:=Aside0.mk hK3.1;clear hL3 hB3 hK3)|(go_at_call 96;refine (writeRune.calls k1 (Ok2 g gb) w w3 g o o1 (pairV a u) HB3.out GE2.out HI3.out (fun j hj => hj.1) H2.out).mono ?_;rintro e w4 ⟨⟨nn,rfl⟩,hI4,hB4,hK4⟩;have HI4:=Aside0.mk (IsB.mono hI4 (fun j hj => by rcases hj with hj|hj;exact hj;exact ⟨by have:=HLT.out;have:=HS3.out;omega,by have:=HLB.out;have:=HS3.out;omega⟩));have HB4:=Aside0.mk hB4;have HL4:=Aside0.mk (IsL.keep HL3.out hK4 (by rintro (h|h);exact h.2 rfl;exact NE.out h));clear hI4 hB4 hK4))
       go_roundg k1
       case measure => have:=HK.out;omega
       case rel => exact ⟨_,0,o1,by first|rfl|simp [*],H',⟨by have:=HK.out;omega⟩,HL4,HI4,⟨utf8_AppendRune.bytes _ _ _ _ HW.out H2.out⟩,HB4⟩
      ·have ha':(a != 0)=false:=by simpa using ha
       clear ha
       rw [if_pos (by simp [h1b,h2b,ha'])] at H
       simp only [Option.some.injEq,Prod.mk.injEq] at H
       obtain ⟨rfl,rfl⟩:=H
       go_wp2_with (first|(go_at_call 95;refine HN.out.mono ?_;rintro e w3 ⟨rfl,hL3,hB3,hK3⟩;have HL3:=Aside0.mk hL3;have HB3:=Aside0.mk hB3;have HI3:=Aside0.mk (IsB.keep HI.out hK3 (fun j hj => hj.2) (Ne.symm NE.out));have HS3:=Aside0.mk hK3.1;clear hL3 hB3 hK3))
       go_ret2
       exact ⟨rfl,HB3.out⟩
     ·have h2b:decide (u < 57344)=false:=decide_eq_false h2
      clear h1 h2
      by_cases ha:(a != 0)=true
      ·rw [if_pos (by simp [h1b,h2b,ha])] at H
       simp only [Option.some.injEq,Prod.mk.injEq] at H
       obtain ⟨rfl,rfl⟩:=H
       go_wp2_with (first|(go_at_call 95;refine HN.out.mono ?_;rintro e w3 ⟨rfl,hL3,hB3,hK3⟩;have HL3:=Aside0.mk hL3;have HB3:=Aside0.mk hB3;have HI3:=Aside0.mk (IsB.keep HI.out hK3 (fun j hj => hj.2) (Ne.symm NE.out));have HS3:=Aside0.mk hK3.1;clear hL3 hB3 hK3))
       go_ret2
       exact ⟨rfl,HB3.out⟩
      ·have ha':(a != 0)=false:=by simpa using ha
       clear ha
       rw [if_neg (by simp [h1b,h2b,ha']),if_neg (by simp [ha'])] at H
       by_cases h3:55296≤u
       ·have h3b:decide (55296≤u)=true:=decide_eq_true h3
        by_cases h4:u < 56320
        ·have h4b:decide (u < 56320)=true:=decide_eq_true h4
         rw [if_pos (by rw [h3b,h4b];rfl)] at H
         clear h3 h4
         have H':=Aside0.mk H
         clear H
         go_wp2_with (first|(go_at_call 95;refine HN.out.mono ?_;rintro e w3 ⟨rfl,hL3,hB3,hK3⟩;have HL3:=Aside0.mk hL3;have HB3:=Aside0.mk hB3;have HI3:=Aside0.mk (IsB.keep HI.out hK3 (fun j hj => hj.2) (Ne.symm NE.out));have HS3:=Aside0.mk hK3.1;clear hL3 hB3 hK3))
         go_roundg k1
         case measure => have:=HK.out;omega
         case rel => exact ⟨_,u,o,rfl,H',⟨by have:=HK.out;omega⟩,HL3,HI3,HW,HB3⟩
        ·have h4b:decide (u < 56320)=false:=decide_eq_false h4
         rw [if_neg (by rw [h3b,h4b];decide)] at H
         clear h3 h4
         obtain ⟨o1,ho1,H⟩:=Option.bind_eq_some_iff.mp H
         have H2:=Aside0.mk ho1
         have H':=Aside0.mk H
         clear ho1 H
         go_wp2_with (first|(go_at_call 95;refine HN.out.mono ?_;rintro e w3 ⟨rfl,hL3,hB3,hK3⟩;have HL3:=Aside0.mk hL3;have HB3:=Aside0.mk hB3;have HI3:=Aside0.mk (IsB.keep HI.out hK3 (fun j hj => hj.2) (Ne.symm NE.out));have HS3:=Aside0.mk hK3.1;clear hL3 hB3 hK3)|(go_at_call 96;refine (writeRune.calls k1 (Ok2 g gb) w w3 g o o1 u HB3.out GE2.out HI3.out (fun j hj => hj.1) H2.out).mono ?_;rintro e w4 ⟨⟨nn,rfl⟩,hI4,hB4,hK4⟩;have HI4:=Aside0.mk (IsB.mono hI4 (fun j hj => by rcases hj with hj|hj;exact hj;exact ⟨by have:=HLT.out;have:=HS3.out;omega,by have:=HLB.out;have:=HS3.out;omega⟩));have HB4:=Aside0.mk hB4;have HL4:=Aside0.mk (IsL.keep HL3.out hK4 (by rintro (h|h);exact h.2 rfl;exact NE.out h));clear hI4 hB4 hK4))
         go_roundg k1
         case measure => have:=HK.out;omega
         case rel => exact ⟨_,a,o1,by first|rfl|simp [*],H',⟨by have:=HK.out;omega⟩,HL4,HI4,⟨utf8_AppendRune.bytes _ _ _ _ HW.out H2.out⟩,HB4⟩
       ·have h3b:decide (55296≤u)=false:=decide_eq_false h3
        rw [if_neg (by rw [h3b];simp)] at H
        clear h3
        obtain ⟨o1,ho1,H⟩:=Option.bind_eq_some_iff.mp H
        have H2:=Aside0.mk ho1
        have H':=Aside0.mk H
        clear ho1 H
        go_wp2_with (first|(go_at_call 95;refine HN.out.mono ?_;rintro e w3 ⟨rfl,hL3,hB3,hK3⟩;have HL3:=Aside0.mk hL3;have HB3:=Aside0.mk hB3;have HI3:=Aside0.mk (IsB.keep HI.out hK3 (fun j hj => hj.2) (Ne.symm NE.out));have HS3:=Aside0.mk hK3.1;clear hL3 hB3 hK3)|(go_at_call 96;refine (writeRune.calls k1 (Ok2 g gb) w w3 g o o1 u HB3.out GE2.out HI3.out (fun j hj => hj.1) H2.out).mono ?_;rintro e w4 ⟨⟨nn,rfl⟩,hI4,hB4,hK4⟩;have HI4:=Aside0.mk (IsB.mono hI4 (fun j hj => by rcases hj with hj|hj;exact hj;exact ⟨by have:=HLT.out;have:=HS3.out;omega,by have:=HLB.out;have:=HS3.out;omega⟩));have HB4:=Aside0.mk hB4;have HL4:=Aside0.mk (IsL.keep HL3.out hK4 (by rintro (h|h);exact h.2 rfl;exact NE.out h));clear hI4 hB4 hK4))
        go_roundg k1
        case measure => have:=HK.out;omega
        case rel => exact ⟨_,a,o1,by first|rfl|simp [*],H',⟨by have:=HK.out;omega⟩,HL4,HI4,⟨utf8_AppendRune.bytes _ _ _ _ HW.out H2.out⟩,HB4⟩
    ·have h1b:decide (56320≤u)=false:=decide_eq_false h1
     clear h1
     by_cases ha:(a != 0)=true
     ·rw [if_pos (by simp [h1b,ha])] at H
      simp only [Option.some.injEq,Prod.mk.injEq] at H
      obtain ⟨rfl,rfl⟩:=H
      go_wp2_with (first|(go_at_call 95;refine HN.out.mono ?_;rintro e w3 ⟨rfl,hL3,hB3,hK3⟩;have HL3:=Aside0.mk hL3;have HB3:=Aside0.mk hB3;have HI3:=Aside0.mk (IsB.keep HI.out hK3 (fun j hj => hj.2) (Ne.symm NE.out));have HS3:=Aside0.mk hK3.1;clear hL3 hB3 hK3))
      go_ret2
      exact ⟨rfl,HB3.out⟩
     ·have ha':(a != 0)=false:=by simpa using ha
      clear ha
      rw [if_neg (by simp [h1b,ha']),if_neg (by simp [ha'])] at H
      by_cases h3:55296≤u
      ·have h3b:decide (55296≤u)=true:=decide_eq_true h3
       by_cases h4:u < 56320
       ·have h4b:decide (u < 56320)=true:=decide_eq_true h4
        rw [if_pos (by rw [h3b,h4b];rfl)] at H
        clear h3 h4
        have H':=Aside0.mk H
        clear H
        go_wp2_with (first|(go_at_call 95;refine HN.out.mono ?_;rintro e w3 ⟨rfl,hL3,hB3,hK3⟩;have HL3:=Aside0.mk hL3;have HB3:=Aside0.mk hB3;have HI3:=Aside0.mk (IsB.keep HI.out hK3 (fun j hj => hj.2) (Ne.symm NE.out));have HS3:=Aside0.mk hK3.1;clear hL3 hB3 hK3))
        go_roundg k1
        case measure => have:=HK.out;omega
        case rel => exact ⟨_,u,o,rfl,H',⟨by have:=HK.out;omega⟩,HL3,HI3,HW,HB3⟩
       ·have h4b:decide (u < 56320)=false:=decide_eq_false h4
        rw [if_neg (by rw [h3b,h4b];decide)] at H
        clear h3 h4
        obtain ⟨o1,ho1,H⟩:=Option.bind_eq_some_iff.mp H
        have H2:=Aside0.mk ho1
        have H':=Aside0.mk H
        clear ho1 H
        go_wp2_with (first|(go_at_call 95;refine HN.out.mono ?_;rintro e w3 ⟨rfl,hL3,hB3,hK3⟩;have HL3:=Aside0.mk hL3;have HB3:=Aside0.mk hB3;have HI3:=Aside0.mk (IsB.keep HI.out hK3 (fun j hj => hj.2) (Ne.symm NE.out));have HS3:=Aside0.mk hK3.1;clear hL3 hB3 hK3)|(go_at_call 96;refine (writeRune.calls k1 (Ok2 g gb) w w3 g o o1 u HB3.out GE2.out HI3.out (fun j hj => hj.1) H2.out).mono ?_;rintro e w4 ⟨⟨nn,rfl⟩,hI4,hB4,hK4⟩;have HI4:=Aside0.mk (IsB.mono hI4 (fun j hj => by rcases hj with hj|hj;exact hj;exact ⟨by have:=HLT.out;have:=HS3.out;omega,by have:=HLB.out;have:=HS3.out;omega⟩));have HB4:=Aside0.mk hB4;have HL4:=Aside0.mk (IsL.keep HL3.out hK4 (by rintro (h|h);exact h.2 rfl;exact NE.out h));clear hI4 hB4 hK4))
        go_roundg k1
        case measure => have:=HK.out;omega
        case rel => exact ⟨_,a,o1,by first|rfl|simp [*],H',⟨by have:=HK.out;omega⟩,HL4,HI4,⟨utf8_AppendRune.bytes _ _ _ _ HW.out H2.out⟩,HB4⟩
      ·have h3b:decide (55296≤u)=false:=decide_eq_false h3
       rw [if_neg (by rw [h3b];simp)] at H
       clear h3
       obtain ⟨o1,ho1,H⟩:=Option.bind_eq_some_iff.mp H
       have H2:=Aside0.mk ho1
       have H':=Aside0.mk H
       clear ho1 H
       go_wp2_with (first|(go_at_call 95;refine HN.out.mono ?_;rintro e w3 ⟨rfl,hL3,hB3,hK3⟩;have HL3:=Aside0.mk hL3;have HB3:=Aside0.mk hB3;have HI3:=Aside0.mk (IsB.keep HI.out hK3 (fun j hj => hj.2) (Ne.symm NE.out));have HS3:=Aside0.mk hK3.1;clear hL3 hB3 hK3)|(go_at_call 96;refine (writeRune.calls k1 (Ok2 g gb) w w3 g o o1 u HB3.out GE2.out HI3.out (fun j hj => hj.1) H2.out).mono ?_;rintro e w4 ⟨⟨nn,rfl⟩,hI4,hB4,hK4⟩;have HI4:=Aside0.mk (IsB.mono hI4 (fun j hj => by rcases hj with hj|hj;exact hj;exact ⟨by have:=HLT.out;have:=HS3.out;omega,by have:=HLB.out;have:=HS3.out;omega⟩));have HB4:=Aside0.mk hB4;have HL4:=Aside0.mk (IsL.keep HL3.out hK4 (by rintro (h|h);exact h.2 rfl;exact NE.out h));clear hI4 hB4 hK4))
       go_roundg k1
       case measure => have:=HK.out;omega
       case rel => exact ⟨_,a,o1,by first|rfl|simp [*],H',⟨by have:=HK.out;omega⟩,HL4,HI4,⟨utf8_AppendRune.bytes _ _ _ _ HW.out H2.out⟩,HB4⟩
  ·rw [if_neg hp] at H
   have hpi:decide ((0:Int) < (L.length:Int))=false:=decide_eq_false (by omega)
   have hpb:decide (0 < L.length)=false:=decide_eq_false hp
   have hpe:(0 < L.length)=False:=eq_false hp
   clear hp
   by_cases ha:(a != 0)=true
   ·rw [if_pos ha] at H
    simp only [Option.some.injEq,Prod.mk.injEq] at H
    obtain ⟨rfl,rfl⟩:=H
    go_wp2
    go_ret2
    exact ⟨rfl,HB.out⟩
   ·have ha':(a != 0)=false:=by simpa using ha
    rw [if_neg ha] at H
    simp only [Option.some.injEq,Prod.mk.injEq] at H
    obtain ⟨rfl,rfl⟩:=H
    clear ha
    have hS:=IsB.string HI.out HW.out GE2.out HB.out.size
    go_wp2_with (go_at_call 97;refine hS.mono ?_;rintro e w3 ⟨rfl,hB3⟩;have HB3:=Aside0.mk hB3;clear hB3)
    go_ret2
    exact ⟨rfl,HB.out.trans HB3.out⟩
end Go.Proofs.YtbgniepcoaiinaaDoor.Px
namespace Go.Proofs.YtbgniepcoaiinaaDoor.Px
open Go.RowKit Go.Proofs.YtbgniepcoaiinaaDoorW.PrintWords Go.Proofs.YtbgniepcoaiinaaDoorW.PrintLast Go.Proofs.YtbgniepcoaiinaaDoorW.PrintMore
set_option linter.unusedVariables false
set_option linter.unusedSimpArgs false
theorem RdStep.set {B:Nat} {w W:World} {g k:Nat} (h:RdStep B w W g) (hk:w.heap.size≤k) (hB:B≤k) (j:Nat) (u:Value):RdStep B w (W.setCell ⟨k,j,none⟩ u) g :=
 ⟨h.below.setCell (p:=⟨k,j,none⟩) hB u,⟨by rw [show (W.setCell ⟨k,j,none⟩ u).heap.size=W.heap.size from by simp];exact h.keep.1,fun i hi hg hr => (Below.heap_setCell W ⟨k,j,none⟩ u i (by show i ≠ k;omega)).trans (h.keep.2 i hi hg hr)⟩⟩
theorem RdStep.alloc {B:Nat} {w W:World} {g:Nat} (h:RdStep B w W g) (hB:B≤W.heap.size) (o:Obj):RdStep B w (W.alloc o) g :=
 ⟨h.below.alloc hB o,h.keep.trans (KeepBut.of_below (below_alloc (Below.refl _ _) o) g none) (.inl rfl)⟩
def pool_two.f (k:Nat) (bs:List Int) (p:Nat) (e:Int):Option (Int × Int × Nat) :=
 if e=0 then (rd_Uint.f k bs p 2).bind fun r => if 0≤r.1∧r.1 < 65536 then some r else none else some (0,e,p)
theorem two_range {k:Nat} {bs:List Int} {p:Nat} {e x e':Int} {p':Nat} (h:pool_two.f k bs p e=some (x,e',p')):0≤x∧x < 65536:=by
 unfold pool_two.f at h
 split at h
 ·obtain ⟨r,_,h⟩:=Option.bind_eq_some_iff.mp h
  split at h
  ·rename_i hh;obtain rfl:=Option.some.inj h;exact hh
  ·cases h
 ·simp only [Option.some.injEq,Prod.mk.injEq] at h;omega
theorem pool_two.mono (bs:List Int) (p:Nat) (e:Int) (k:Nat):LeO (pool_two.f k bs p e) (pool_two.f (k + 1) bs p e):=LeO.ite (LeO.bind (rd_Uint.mono _ _ _ _) (fun _ => LeO.refl _)) (LeO.refl _)
def TwoPost (B:Nat) (w:World) (g ge:Nat) (bs:List Int) (e':Int) (p':Nat) (w':World):Prop :=
 IsRd B w' g bs p'∧w'.heap[ge]?=some (.cells #[.int .i64 e'] 28 (0,0))∧Below B w w'∧∀ k,k < w.heap.size→k ≠ g→k ≠ ge→w'.heap[k]?=w.heap[k]?
set_option maxHeartbeats 4000000 in
set_option maxRecDepth 100000 in
theorem pool_two.calls (k B g ge g1:Nat) (bs:List Int) (p:Nat) (e x e':Int) (p':Nat) (w:World) (hI:IsRd B w g bs p) (hl:bs.length≤140737488355328) (hBe:B≤ge) (hbe:w.heap[ge]?=some (.cells #[.int .i64 e] 28 (0,0))) (hb1:w.heap[g1]?=some (.cells #[.pointer (some ⟨g,0,none⟩)] 76 (0,0))) (h:pool_two.f k bs p e=some (x,e',p')) :
  Calls Tryd.prog 92 #[.pointer (some ⟨ge,0,none⟩),.pointer (some ⟨g1,0,none⟩)] w fun r w' => r=.returned (.int .i64 x)∧TwoPost B w g ge bs e' p' w':=by
 have ce:w.cell? ⟨ge,0,none⟩=some (.int .i64 e):=(blk_cell hbe 0).trans rfl
 have c1:w.cell? ⟨g1,0,none⟩=some (.pointer (some ⟨g,0,none⟩)):=(blk_cell hb1 0).trans rfl
 unfold pool_two.f at h
 by_cases he:e=0
 ·rw [if_pos he] at h
  obtain ⟨⟨y,e2,p2⟩,hU,h⟩:=Option.bind_eq_some_iff.mp h
  by_cases hb:0≤y∧y < 65536
  ·rw [if_pos hb] at h
   simp only [Option.some.injEq,Prod.mk.injEq] at h
   obtain ⟨rfl,rfl,rfl⟩:=h
   have HU:=Aside0.mk (rd_Uint.calls k B g bs p 2 y e2 p2 w hI (by decide) (by decide) hl hU)
   obtain ⟨y0,y1⟩:=hb
   have heb:(e != 0)=false:=bne_eq_false_iff_eq.mpr he
   have HBE:=Aside0.mk hbe
   have HBG:=Aside0.mk hBe
   have HNE:Aside0 (ge ≠ g):=⟨fun hh => by obtain ⟨v,hv,_⟩:=hI.blk;rw [hh] at hbe;rw [hbe] at hv;injection hv with hv;injection hv with _ ht;cases ht⟩
   clear hI hl hBe hbe hb1 hU he
   go_enter Tryd.func92,Tryd.ntmps92
   go_wp2_with fail
   refine HU.out.mono ?_
   rintro r w1 ⟨rfl,hP⟩
   have HP:=Aside0.mk hP
   have hbe1:=hP.2.blk HNE.out HBE.out
   have ce1:w1.cell? ⟨ge,0,none⟩=some (.int .i64 e):=(blk_cell hbe1 0).trans rfl
   have fe1:=blk_frozen hbe1 0
   have HBE1:=Aside0.mk hbe1
   clear hP hbe1 ce c1 HU
   go_wp2
   go_ret
   refine ⟨rfl,HP.out.1.far HBE1.out (by decide) (by decide) 0 _,blk_set HBE1.out 0 _,HP.out.2.below.setCell (p:=⟨ge,0,none⟩) HBG.out _,fun j hj hg he => ?_⟩
   exact (Below.heap_setCell w1 ⟨ge,0,none⟩ _ j he).trans (HP.out.2.keep.2 j hj hg (by simp))
  ·rw [if_neg hb] at h
   cases h
 ·rw [if_neg he] at h
  simp only [Option.some.injEq,Prod.mk.injEq] at h
  obtain ⟨rfl,rfl,rfl⟩:=h
  have heb:(e != 0)=true:=bne_iff_ne.mpr he
  have HI:=Aside0.mk hI
  have HBE:=Aside0.mk hbe
  clear hI hbe hb1 he hl hBe
  go_enter Tryd.func92,Tryd.ntmps92
  go_wp2
  go_ret
  exact ⟨rfl,HI.out,HBE.out,Below.refl _ _,fun _ _ _ _ => rfl⟩
abbrev Cst2:=S67
def set5 (W:World) (k:Nat) (cc:Cst2):World:=(((((W.setCell ⟨k,0,none⟩ (.int .i64 cc.f0)).setCell ⟨k,1,none⟩ (.string cc.f1)).setCell ⟨k,2,none⟩ (.int .i64 cc.f2)).setCell ⟨k,3,none⟩ (.int .i64 cc.f3)).setCell ⟨k,4,none⟩ (.int .i64 cc.f4))
theorem set5_far {W:World} {k j:Nat} {cc:Cst2} {t:TypeId} {cs:Array Value} (h:W.heap[j]?=some (.cells cs t (0,0))) (hne:j ≠ k):(set5 W k cc).heap[j]?=some (.cells cs t (0,0)) :=
 blk_far (blk_far (blk_far (blk_far (blk_far h hne _) hne _) hne _) hne _) hne _
def constCells (cc:Cst2):Array Value:=#[.int .i64 cc.f0,.string cc.f1,.int .i64 cc.f2,.int .i64 cc.f3,.int .i64 cc.f4]
theorem set5_at {W:World} {k:Nat} {cc:Cst2} (h:W.heap[k]?=some (.cells #[.int .i64 0,.string (⟨#[]⟩:ByteArray),.int .i64 0,.int .i64 0,.int .i64 0] 67 (0,0))):(set5 W k cc).heap[k]?=some (.cells (constCells cc) 67 (0,0)):=by
 unfold set5 constCells
 refine blk_put (cs:=#[.int .i64 cc.f0,.string cc.f1,.int .i64 cc.f2,.int .i64 cc.f3,.int .i64 0]) ?_ 4 _ rfl
 refine blk_put (cs:=#[.int .i64 cc.f0,.string cc.f1,.int .i64 cc.f2,.int .i64 0,.int .i64 0]) ?_ 3 _ rfl
 refine blk_put (cs:=#[.int .i64 cc.f0,.string cc.f1,.int .i64 0,.int .i64 0,.int .i64 0]) ?_ 2 _ rfl
 refine blk_put (cs:=#[.int .i64 cc.f0,.string (⟨#[]⟩:ByteArray),.int .i64 0,.int .i64 0,.int .i64 0]) ?_ 1 _ rfl
 refine blk_put (cs:=#[.int .i64 0,.string (⟨#[]⟩:ByteArray),.int .i64 0,.int .i64 0,.int .i64 0]) ?_ 0 _ rfl
 exact h
theorem set5_cells {W:World} {k j:Nat} {cc c2:Cst2} (h:W.heap[j]?=some (.cells (constCells c2) 67 (0,0))) (hne:j ≠ k):(set5 W k cc).drew.cell? ⟨j,0,none⟩=some (.int .i64 c2.f0)∧(set5 W k cc).drew.cell? ⟨j,1,none⟩=some (.string c2.f1)∧(set5 W k cc).drew.cell? ⟨j,2,none⟩=some (.int .i64 c2.f2)∧(set5 W k cc).drew.cell? ⟨j,3,none⟩=some (.int .i64 c2.f3)∧(set5 W k cc).drew.cell? ⟨j,4,none⟩=some (.int .i64 c2.f4):=by
 have hb:(set5 W k cc).drew.heap[j]?=some (.cells (constCells c2) 67 (0,0)):=blk_drew (set5_far (cc:=cc) h hne)
 exact ⟨(blk_cell hb 0).trans rfl,(blk_cell hb 1).trans rfl,(blk_cell hb 2).trans rfl,(blk_cell hb 3).trans rfl,(blk_cell hb 4).trans rfl⟩
theorem set5_cell1 {W:World} {k j:Nat} {cc:Cst2} {e:Int} (h:W.heap[j]?=some (.cells #[.int .i64 e] 28 (0,0))) (hne:j ≠ k):(set5 W k cc).drew.cell? ⟨j,0,none⟩=some (.int .i64 e):=by
 have hb:(set5 W k cc).drew.heap[j]?=some (.cells #[.int .i64 e] 28 (0,0)):=blk_drew (set5_far (cc:=cc) h hne)
 exact (blk_cell hb 0).trans rfl
def pool_constant.f (k:Nat) (bs:List Int) (p:Nat):Option (Cst2 × Int × Nat) :=
 (rd_Uint.f k bs p 1).bind fun t =>
  if 0≤t.1∧t.1 < 256 then
   (if t.2.1=0 then
    (if t.1=1 then (pool_two.f k bs t.2.2 0).bind fun n =>
      if n.2.1=0 then
       (if n.1 > 256 then some (⟨t.1,⟨#[]⟩,0,0,0⟩,20,n.2.2)
        else if rdE bs n.2.2 n.1.toNat=0 then (text_Decode.f k (rdL bs n.2.2 n.1.toNat)).bind fun s => some (⟨t.1,s.1,0,0,0⟩,s.2,rdP bs n.2.2 n.1.toNat)
          else some (⟨t.1,⟨#[]⟩,0,0,0⟩,rdE bs n.2.2 n.1.toNat,rdP bs n.2.2 n.1.toNat))
      else some (⟨t.1,⟨#[]⟩,0,0,0⟩,n.2.1,n.2.2)
     else if t.1=3 then (rd_Int.f k bs t.2.2 4).bind fun n => some (⟨t.1,⟨#[]⟩,n.1,0,0⟩,n.2.1,n.2.2)
     else if t.1=5 then (rd_Int.f k bs t.2.2 8).bind fun n => some (⟨t.1,⟨#[]⟩,n.1,0,0⟩,n.2.1,n.2.2)
     else if t.1=7 then (pool_two.f k bs t.2.2 0).bind fun n => some (⟨t.1,⟨#[]⟩,0,n.1,0⟩,n.2.1,n.2.2)
     else if t.1=9 ∨ t.1=10 ∨ t.1=12 then (pool_two.f k bs t.2.2 0).bind fun n => (pool_two.f k bs n.2.2 n.2.1).bind fun m => some (⟨t.1,⟨#[]⟩,0,n.1,m.1⟩,m.2.1,m.2.2)
     else some (⟨t.1,⟨#[]⟩,0,0,0⟩,40,t.2.2))
    else some (⟨t.1,⟨#[]⟩,0,0,0⟩,t.2.1,t.2.2))
  else none
theorem pool_constant.mono (bs:List Int) (p k:Nat):LeO (pool_constant.f k bs p) (pool_constant.f (k + 1) bs p):=by
 unfold pool_constant.f
 refine LeO.bind (rd_Uint.mono _ _ _ _) (fun t => LeO.ite (LeO.ite (LeO.ite (LeO.bind (pool_two.mono _ _ _ _) (fun n => LeO.ite (LeO.ite (LeO.refl _) (LeO.ite (LeO.bind (text_Decode.mono _ _) (fun _ => LeO.refl _)) (LeO.refl _))) (LeO.refl _))) (LeO.ite (LeO.bind (rd_Int.mono _ _ _ _) (fun _ => LeO.refl _)) (LeO.ite (LeO.bind (rd_Int.mono _ _ _ _) (fun _ => LeO.refl _)) (LeO.ite (LeO.bind (pool_two.mono _ _ _ _) (fun _ => LeO.refl _)) (LeO.ite (LeO.bind (pool_two.mono _ _ _ _) (fun n => LeO.bind (pool_two.mono _ _ _ _) (fun _ => LeO.refl _))) (LeO.refl _)))))) (LeO.refl _)) (LeO.refl _))
theorem set5_Rd {B:Nat} {W:World} {g k:Nat} {bs:List Int} {p:Nat} {cc:Cst2} {cs:Array Value} (h:IsRd B W g bs p) (hb:W.heap[k]?=some (.cells cs 67 (0,0))):IsRd B (set5 W k cc) g bs p:=by
 obtain ⟨v,hk,hr⟩:=h.blk
 have hne:g ≠ k:=blk_ne hk hb (by decide)
 have h1:=Kd.R_set hr hb (by decide) 0 (.int .i64 cc.f0)
 have b1:=blk_set hb 0 (.int .i64 cc.f0)
 have h2:=Kd.R_set h1 b1 (by decide) 1 (.string cc.f1)
 have b2:=blk_set b1 1 (.string cc.f1)
 have h3:=Kd.R_set h2 b2 (by decide) 2 (.int .i64 cc.f2)
 have b3:=blk_set b2 2 (.int .i64 cc.f2)
 have h4:=Kd.R_set h3 b3 (by decide) 3 (.int .i64 cc.f3)
 have b4:=blk_set b3 3 (.int .i64 cc.f3)
 exact ⟨h.ge,⟨v,set5_far hk hne,Kd.R_set h4 b4 (by decide) 4 (.int .i64 cc.f4)⟩,h.hi⟩
theorem set5_St {B:Nat} {w W:World} {g k:Nat} {cc:Cst2} (h:RdStep B w W g) (hk:w.heap.size≤k) (hB:B≤k):RdStep B w (set5 W k cc) g:=((((h.set hk hB 0 _).set hk hB 1 _).set hk hB 2 _).set hk hB 3 _).set hk hB 4 _
def ConstPost (B:Nat) (w:World) (g:Nat) (bs:List Int) (cc:Cst2) (ee:Int) (p':Nat) (r:Ending) (w':World):Prop :=
 r=.returned (.tuple #[.agg (constCells cc),.int .i64 ee])∧RdPost B w g bs p' w'
structure ConstMid (B:Nat) (w:World) (g g1 g2 ge gc:Nat) (bs:List Int) (cc:Cst2) (ee:Int) (p':Nat) (W:World):Prop where
 I:IsRd B W g bs p'
 S:RdStep B w W g
 b1:W.heap[g1]?=some (.cells #[.pointer (some ⟨g,0,none⟩)] 76 (0,0))
 b2:W.heap[g2]?=some (.cells #[.int .i64 0,.string (⟨#[]⟩:ByteArray),.int .i64 0,.int .i64 0,.int .i64 0] 67 (0,0))
 be:W.heap[ge]?=some (.cells #[.int .i64 ee] 28 (0,0))
 bc:W.heap[gc]?=some (.cells (constCells cc) 67 (0,0))
 lB:B≤g
 lg:g < w.heap.size
 l1:w.heap.size≤g1
 l2:g1 < g2
 le:g2 < ge
 lc:ge < gc
section
variable {B:Nat} {w:World} {g g1 g2 ge gc:Nat} {bs:List Int} {cc:Cst2} {ee e':Int} {p p':Nat} {W W':World}
theorem ConstMid.two (h:ConstMid B w g g1 g2 ge gc bs cc ee p W) (k:TwoPost B W g ge bs e' p' W'):ConstMid B w g g1 g2 ge gc bs cc e' p' W':=by
 obtain ⟨k1,k2,k3,k4⟩:=k
 obtain ⟨hI,hS,h1,h2,he,hc,lB,lg,l1,l2,le,lc⟩:=h
 refine ⟨k1,⟨hS.below.trans k3,⟨Nat.le_trans hS.keep.1 k3.size,fun i hi hg hr => ?_⟩⟩,(k4 g1 (blk_lt h1) (by omega) (by omega)).trans h1,(k4 g2 (blk_lt h2) (by omega) (by omega)).trans h2,k2,(k4 gc (blk_lt hc) (by omega) (by omega)).trans hc,lB,lg,l1,l2,le,lc⟩
 exact (k4 i (Nat.lt_of_lt_of_le hi hS.keep.1) hg (by omega)).trans (hS.keep.2 i hi hg hr)
theorem ConstMid.rd (h:ConstMid B w g g1 g2 ge gc bs cc ee p W) (k:RdPost B W g bs p' W'):ConstMid B w g g1 g2 ge gc bs cc ee p' W':=by
 obtain ⟨hI,hS,h1,h2,he,hc,lB,lg,l1,l2,le,lc⟩:=h
 exact ⟨k.1,hS.trans k.2,k.2.blk (by omega) h1,k.2.blk (by omega) h2,k.2.blk (by omega) he,k.2.blk (by omega) hc,lB,lg,l1,l2,le,lc⟩
theorem ConstMid.below (h:ConstMid B w g g1 g2 ge gc bs cc ee p W) (k:Below W.heap.size W W'):ConstMid B w g g1 g2 ge gc bs cc ee p W':=h.rd ⟨h.I.below k,⟨k.mono h.I.base_le,KeepBut.of_below k _ _⟩⟩
theorem ConstMid.setE (h:ConstMid B w g g1 g2 ge gc bs cc ee p W) (e':Int):ConstMid B w g g1 g2 ge gc bs cc e' p (W.setCell ⟨ge,0,none⟩ (.int .i64 e')):=by
 obtain ⟨hI,hS,h1,h2,he,hc,lB,lg,l1,l2,le,lc⟩:=h
 exact ⟨hI.far he (by decide) (by decide) 0 _,hS.set (by omega) (by omega) 0 _,blk_far h1 (show g1 ≠ ge by omega) _,blk_far h2 (show g2 ≠ ge by omega) _,blk_set he 0 _,blk_far hc (show gc ≠ ge by omega) _,lB,lg,l1,l2,le,lc⟩
theorem ConstMid.setC (h:ConstMid B w g g1 g2 ge gc bs cc ee p W) (j:Nat) (u:Value) (c2:Cst2) (hj:(constCells cc).setIfInBounds j u=constCells c2):ConstMid B w g g1 g2 ge gc bs c2 ee p (W.setCell ⟨gc,j,none⟩ u):=by
 obtain ⟨hI,hS,h1,h2,he,hc,lB,lg,l1,l2,le,lc⟩:=h
 exact ⟨hI.far hc (by decide) (by decide) j u,hS.set (by omega) (by omega) j u,blk_far h1 (show g1 ≠ gc by omega) _,blk_far h2 (show g2 ≠ gc by omega) _,blk_far he (show ge ≠ gc by omega) _,(blk_set hc j u).trans (by rw [hj]),lB,lg,l1,l2,le,lc⟩
end
theorem const_start {B:Nat} {w wA:World} {g:Nat} {bs:List Int} {p:Nat} (hI:IsRd B w g bs p) (hw:wA=(w.alloc (.cells #[.pointer (some ⟨g,0,none⟩)] 76 (0,0))).alloc (.cells #[.int .i64 0,.string (⟨#[]⟩:ByteArray),.int .i64 0,.int .i64 0,.int .i64 0] 67 (0,0))) :
  IsRd B wA g bs p∧RdStep B w wA g∧wA.heap[w.heap.size]?=some (.cells #[.pointer (some ⟨g,0,none⟩)] 76 (0,0))∧wA.heap[w.heap.size + 1]?=some (.cells #[.int .i64 0,.string (⟨#[]⟩:ByteArray),.int .i64 0,.int .i64 0,.int .i64 0] 67 (0,0))∧wA.heap.size=w.heap.size + 2:=by
 have hb:Below w.heap.size w wA:=by rw [hw];exact below_alloc (below_alloc (Below.refl _ _) _) _
 refine ⟨hI.below hb,⟨hb.mono hI.base_le,KeepBut.of_below hb _ _⟩,?_,?_,by rw [hw];simp⟩
 ·rw [hw,heap_alloc_old _ _ (by simp)]
  exact heap_alloc_new w _
 ·rw [hw]
  simpa using heap_alloc_new (w.alloc (.cells #[.pointer (some ⟨g,0,none⟩)] 76 (0,0))) (.cells #[.int .i64 0,.string (⟨#[]⟩:ByteArray),.int .i64 0,.int .i64 0,.int .i64 0] 67 (0,0))
theorem const_mid {B:Nat} {w w1 wM:World} {g g1 g2:Nat} {bs:List Int} {p:Nat} {e t:Int} (lB:B≤g) (lg:g < w.heap.size) (l1:w.heap.size≤g1) (l2:g1 < g2) (hI:IsRd B w1 g bs p) (hS:RdStep B w w1 g) (h1:w1.heap[g1]?=some (.cells #[.pointer (some ⟨g,0,none⟩)] 76 (0,0))) (h2:w1.heap[g2]?=some (.cells #[.int .i64 0,.string (⟨#[]⟩:ByteArray),.int .i64 0,.int .i64 0,.int .i64 0] 67 (0,0)))
  (hw:wM=(w1.alloc (.cells #[.int .i64 e] 28 (0,0))).alloc (.cells #[.int .i64 t,.string (⟨#[]⟩:ByteArray),.int .i64 0,.int .i64 0,.int .i64 0] 67 (0,0))) :
  ConstMid B w g g1 g2 w1.heap.size (w1.heap.size + 1) bs ⟨t,⟨#[]⟩,0,0,0⟩ e p wM:=by
 have hb:Below w1.heap.size w1 wM:=by rw [hw];exact below_alloc (below_alloc (Below.refl _ _) _) _
 refine ⟨hI.below hb,hS.trans ⟨hb.mono hI.base_le,KeepBut.of_below hb _ _⟩,(hb.block _ (blk_lt h1)).trans h1,(hb.block _ (blk_lt h2)).trans h2,?_,?_,lB,lg,l1,l2,blk_lt h2,Nat.lt_succ_self _⟩
 ·rw [hw,heap_alloc_old _ _ (by simp)]
  exact heap_alloc_new w1 _
 ·rw [hw]
  simpa [constCells] using heap_alloc_new (w1.alloc (.cells #[.int .i64 e] 28 (0,0))) (.cells #[.int .i64 t,.string (⟨#[]⟩:ByteArray),.int .i64 0,.int .i64 0,.int .i64 0] 67 (0,0))
set_option maxHeartbeats 40000000 in
set_option maxRecDepth 100000 in
theorem pool_constant.calls (k B g:Nat) (bs:List Int) (p:Nat) (cc:Cst2) (ee:Int) (p':Nat) (w:World) (hI:IsRd B w g bs p) (hl:bs.length≤140737488355328) (h:pool_constant.f k bs p=some (cc,ee,p')) :
  Calls Tryd.prog 80 #[.pointer (some ⟨g,0,none⟩)] w fun r w' => ConstPost B w g bs cc ee p' r w':=by
 unfold pool_constant.f at h
 obtain ⟨⟨t,e1,p1⟩,hU,h⟩:=Option.bind_eq_some_iff.mp h
 by_cases hb:0≤t∧t < 256
 ·rw [if_pos hb] at h
  obtain ⟨t0,t1⟩:=hb
  have HI0:=Aside0.mk hI
  have HLL:=Aside0.mk hl
  have HU:=Aside0.mk hU
  clear hI hl hU
  simp only at h
  go_enter Tryd.func80,Tryd.ntmps80
  go_wp2_with fail
  obtain ⟨wA,hwA⟩:∃ wA,wA=(w.alloc (.cells #[.pointer (some ⟨g,0,none⟩)] 76 (0,0))).alloc (.cells #[.int .i64 0,.string (⟨#[]⟩:ByteArray),.int .i64 0,.int .i64 0,.int .i64 0] 67 (0,0)):=⟨_,rfl⟩
  obtain ⟨hIA,hSA,hk1,hk2,hszA⟩:=const_start HI0.out hwA
  rw [← hwA]
  clear hwA
  obtain ⟨g1,hg1⟩:∃ g1,g1=w.heap.size:=⟨_,rfl⟩
  obtain ⟨g2,hg2⟩:∃ g2,g2=g1 + 1:=⟨_,rfl⟩
  rw [← hg1,← hg2] at hk2
  rw [← hg1] at hk1
  rw [← hg1,← hg2]
  have HG1:=Aside0.mk hg1
  have HG2:=Aside0.mk hg2
  have HSZ:=Aside0.mk hszA
  have BK1:=Aside0.mk hk1
  have BK2:=Aside0.mk hk2
  have HSA:=Aside0.mk hSA
  have HUC:=Aside0.mk (rd_Uint.calls k B g bs p 1 t e1 p1 wA hIA (by decide) (by decide) HLL.out HU.out)
  clear hg1 hg2 hszA hk1 hk2 hSA hIA
  refine HUC.out.mono ?_
  rintro r w1 ⟨rfl,hP⟩
  have HI1:=Aside0.mk hP.1
  have HS1:=Aside0.mk (HSA.out.trans hP.2)
  have NE1:Aside0 (g1 ≠ g):=⟨by have:=HI0.out.lt;rw [HG1.out];omega⟩
  have NE2:Aside0 (g2 ≠ g):=⟨by have:=HI0.out.lt;rw [HG2.out,HG1.out];omega⟩
  have BK1':=Aside0.mk (hP.2.blk NE1.out BK1.out)
  have BK2':=Aside0.mk (hP.2.blk NE2.out BK2.out)
  have HS2:Aside0 (g2 < w1.heap.size):=⟨blk_lt BK2'.out⟩
  clear hP BK1 BK2 HUC HSA
  by_cases he:e1=0
  ·rw [if_pos he] at h
   have heb:(e1 != 0)=false:=bne_eq_false_iff_eq.mpr he
   subst he
   go_upto_block 0 with (fail)
   obtain ⟨wM,hwM⟩:∃ wM,wM=(w1.alloc (.cells #[.int .i64 0] 28 (0,0))).alloc (.cells #[.int .i64 t,.string (⟨#[]⟩:ByteArray),.int .i64 0,.int .i64 0,.int .i64 0] 67 (0,0)):=⟨_,rfl⟩
   have hM:=const_mid HI0.out.ge HI0.out.lt (Nat.le_of_eq HG1.out.symm) (by rw [HG2.out];exact Nat.lt_succ_self _) HI1.out HS1.out BK1'.out BK2'.out hwM
   rw [← hwM]
   clear hwM
   obtain ⟨ge,hge⟩:∃ ge,ge=w1.heap.size:=⟨_,rfl⟩
   obtain ⟨gc,hgc⟩:∃ gc,gc=ge + 1:=⟨_,rfl⟩
   rw [← hge,← hgc] at hM
   rw [← hge]
   (try rw [← hgc])
   have HM:=Aside0.mk hM
   clear hM hge hgc BK1' BK2' HS2
   go_cut [] (fun wc => Aside0 (ConstMid B w g g1 g2 ge gc bs cc ee p' wc))
   case first =>
    have two:=fun (W:World) (pp:Nat) (e0 x e2:Int) (p2:Nat) (c2:Cst2) (hm:ConstMid B w g g1 g2 ge gc bs c2 e0 pp W) (hh:pool_two.f k bs pp e0=some (x,e2,p2)) => pool_two.calls k B g ge g1 bs pp e0 x e2 p2 W hm.I HLL.out (by have:=hm.lB;have:=hm.lg;have:=hm.l1;have:=hm.l2;have:=hm.le;omega) hm.be hm.b1 hh
    have TWO:=Aside0.mk two
    clear two
    have ce:wM.cell? ⟨ge,0,none⟩=some (.int .i64 0):=(blk_cell HM.out.be 0).trans rfl
    have c1:wM.cell? ⟨g1,0,none⟩=some (.pointer (some ⟨g,0,none⟩)):=(blk_cell HM.out.b1 0).trans rfl
    by_cases q1:t=1
    ·rw [if_pos q1] at h
     obtain ⟨⟨x,e2,p2⟩,hT,h⟩:=Option.bind_eq_some_iff.mp h
     have k1:(t==1)=true:=beq_iff_eq.mpr q1
     have HT:=Aside0.mk hT
     clear hT q1
     simp only at h
     have hx:=two_range HT.out
     obtain ⟨x0,x1⟩:=hx
     go_wp2_with fail
     refine (TWO.out _ _ _ _ _ _ _ HM.out HT.out).mono ?_
     rintro r w2 ⟨rfl,hP⟩
     have HM2:=Aside0.mk (HM.out.two hP)
     have ce2:w2.cell? ⟨ge,0,none⟩=some (.int .i64 e2):=(blk_cell HM2.out.be 0).trans rfl
     have fe2:w2.frozen? ⟨ge,0,none⟩=false:=blk_frozen HM2.out.be 0
     have c12:w2.cell? ⟨g1,0,none⟩=some (.pointer (some ⟨g,0,none⟩)):=(blk_cell HM2.out.b1 0).trans rfl
     clear hP HM ce c1
     by_cases q2:e2=0
     ·rw [if_pos q2] at h
      have k2:(e2==0)=true:=beq_iff_eq.mpr q2
      have k2n:(e2 != 0)=false:=bne_eq_false_iff_eq.mpr q2
      by_cases q3:x > 256
      ·rw [if_pos q3] at h
       have k3:decide (256 < x)=true:=decide_eq_true q3
       simp only [Option.some.injEq,Prod.mk.injEq] at h
       obtain ⟨hcc,hee,hpp⟩:=h
       obtain rfl:p'=p2:=hpp.symm
       have HM:=Aside0.mk (HM2.out.setE 20)
       have HCE:=Aside0.mk hcc
       have HEE:=Aside0.mk hee
       clear q2 q3 HM2 hcc hee
       go_upto_region 13 with (fail)
       obtain ⟨wT,hwT⟩:∃ wT,wT=w2.setCell ⟨ge,0,none⟩ (.int .i64 20):=⟨_,rfl⟩
       rw [← hwT] at HM ⊢
       rw [HCE.out,HEE.out] at HM
       clear hwT ce2 fe2 c12 HCE HEE
       have BKc:=Aside0.mk HM.out.bc
       have BKe:=Aside0.mk HM.out.be
       have BK2:=Aside0.mk HM.out.b2
       have NE2c:Aside0 (g2 ≠ gc):=⟨by have:=HM.out.le;have:=HM.out.lc;omega⟩
       have NE2e:Aside0 (g2 ≠ ge):=⟨by have:=HM.out.le;omega⟩
       have G2LE:Aside0 (w.heap.size≤g2):=⟨by have:=HM.out.l1;have:=HM.out.l2;omega⟩
       have G2B:Aside0 (B≤g2):=⟨by have:=HM.out.lB;have:=HM.out.lg;have:=G2LE.out;omega⟩
       have hz0:wT.cell? ⟨g2,0,none⟩=some (.int .i64 0):=(blk_cell BK2.out 0).trans rfl
       have hz1:wT.cell? ⟨g2,1,none⟩=some (.string (⟨#[]⟩:ByteArray)):=(blk_cell BK2.out 1).trans rfl
       have hz2:wT.cell? ⟨g2,2,none⟩=some (.int .i64 0):=(blk_cell BK2.out 2).trans rfl
       have hz3:wT.cell? ⟨g2,3,none⟩=some (.int .i64 0):=(blk_cell BK2.out 3).trans rfl
       have hz4:wT.cell? ⟨g2,4,none⟩=some (.int .i64 0):=(blk_cell BK2.out 4).trans rfl
       have hfz0:wT.frozen? ⟨g2,0,none⟩=false:=blk_frozen BK2.out 0
       have hfz1:wT.frozen? ⟨g2,1,none⟩=false:=blk_frozen BK2.out 1
       have hfz2:wT.frozen? ⟨g2,2,none⟩=false:=blk_frozen BK2.out 2
       have hfz3:wT.frozen? ⟨g2,3,none⟩=false:=blk_frozen BK2.out 3
       have hfz4:wT.frozen? ⟨g2,4,none⟩=false:=blk_frozen BK2.out 4
       obtain ⟨hqc0,hqc1,hqc2,hqc3,hqc4⟩:=set5_cells (cc:=cc) BKc.out NE2c.out.symm
       have hqe:=set5_cell1 (cc:=cc) BKe.out NE2e.out.symm
       refine start_ (n:=4) (S:=fun w' => w'.cell? ⟨gc,0,none⟩=some (.int .i64 cc.f0)∧w'.cell? ⟨gc,1,none⟩=some (.string cc.f1)∧w'.cell? ⟨gc,2,none⟩=some (.int .i64 cc.f2)∧w'.cell? ⟨gc,3,none⟩=some (.int .i64 cc.f3)∧w'.cell? ⟨gc,4,none⟩=some (.int .i64 cc.f4)∧w'.cell? ⟨ge,0,none⟩=some (.int .i64 ee)) (ds:=[]) #[false,false,false,false] (by kernel_rfl) rfl rfl ⟨(blk_cell BKc.out 0).trans rfl,(blk_cell BKc.out 1).trans rfl,(blk_cell BKc.out 2).trans rfl,(blk_cell BKc.out 3).trans rfl,(blk_cell BKc.out 4).trans rfl,(blk_cell BKe.out 0).trans rfl⟩ (fun hHeld => ?_)
       refine take_ (i:=0) (N:=some 37) (v:=?_) (a':=?_) #[true,false,false,false] rfl rfl (by kernel_rfl) (fun _ _ _ h => h) (Or.inl ⟨by rfl,?_⟩) hHeld ?_ ?_
       rotate_left
       ·rintro w' ⟨s0,s1,s2,s3,s4,s5⟩
        go_simp
        with_reducible rfl
       rotate_left
       ·simp only [Act.put,List.setIfInBounds_toArray,List.set_cons_zero,List.set_cons_succ,i64_w,i32_w]
        rfl
       refine take_ (i:=1) (N:=some 38) (v:=?_) (a':=?_) #[true,true,false,false] rfl rfl (by kernel_rfl) (fun _ _ _ h => h) (Or.inl ⟨by rfl,?_⟩) hHeld ?_ ?_
       rotate_left
       ·rintro w' ⟨s0,s1,s2,s3,s4,s5⟩
        go_simp
        with_reducible rfl
       rotate_left
       ·simp only [Act.put,List.setIfInBounds_toArray,List.set_cons_zero,List.set_cons_succ,i64_w,i32_w]
        rfl
       refine one_ (i:=2) (N:=none) #[true,true,true,false] rfl rfl (by kernel_rfl) (by decide) (fun K hK => ?_)
       refine skip_ (w1:=(set5 wT g2 cc).drew) (by rfl) rfl ?_ ?_
       ·go_simp
        rfl
       refine hK.out _ _ ⟨hqc0,hqc1,hqc2,hqc3,hqc4,hqe⟩ (fun hHeld => ?_)
       clear hK K
       refine pure_ (i:=3) (N:=some 3) (v:=?_) (a':=?_) #[true,true,true,true] rfl rfl (by kernel_rfl) (fun _ _ _ h => h) (Or.inl ⟨by rfl,?_⟩) ?_ ?_
       rotate_left
       ·intro w'
        go_simp
        with_reducible rfl
       rotate_left
       ·simp only [Act.put,List.setIfInBounds_toArray,List.set_cons_zero,List.set_cons_succ,i64_w,i32_w]
        rfl
       refine done_ (by kernel_rfl) ?_
       go_wp2
       refine bodyPost_ret (results_ct rfl _ _ g2 67 (constCells cc) (0,0) _ rfl (blk_drew (set5_at (W:=wT) (cc:=cc) BK2.out)) Tryd.underlying67 rfl (by kernel_rfl)) rfl ?_
       exact ⟨rfl,(set5_Rd HM.out.I BK2.out).drewN 1,(set5_St HM.out.S G2LE.out G2B.out).trans (RdStep.drewN _ _ _ 1)⟩
      ·rw [if_neg q3] at h
       have k3:decide (256 < x)=false:=decide_eq_false q3
       have hxn:x=(x.toNat:Int):=by omega
       have HB:=Aside0.mk (rd_Bytes.calls B g bs p2 x.toNat w2 HM2.out.I HLL.out (by omega))
       rw [← hxn] at HB
       clear hxn
       go_wp2_with fail
       refine HB.out.mono ?_
       rintro r w3 ⟨v3,rfl,hR,hP⟩
       obtain ⟨A3,c3,rfl,hc3,hC3⟩:=Kd.R_reads hR
       have HC3:=Aside0.mk hC3
       have HCC3:=Aside0.mk hc3
       have HM3:=Aside0.mk (HM2.out.rd hP)
       have ce3:w3.cell? ⟨ge,0,none⟩=some (.int .i64 e2):=(blk_cell HM3.out.be 0).trans rfl
       have fe3:w3.frozen? ⟨ge,0,none⟩=false:=blk_frozen HM3.out.be 0
       have HR3:=Aside0.mk hR
       clear hR hP hC3 hc3 HB HM2 ce2 fe2 c12 q3
       obtain ⟨L,hL⟩:∃ L,L=rdL bs p2 x.toNat:=⟨_,rfl⟩
       obtain ⟨E,hE⟩:∃ E,E=rdE bs p2 x.toNat:=⟨_,rfl⟩
       obtain ⟨P3,hP3⟩:∃ P3,P3=rdP bs p2 x.toNat:=⟨_,rfl⟩
       rw [← hL] at HC3 HCC3 HR3 h ⊢
       rw [← hE] at h ⊢
       rw [← hP3] at HM3 h
       clear hL hE hP3
       by_cases q4:E=0
       ·rw [if_pos q4] at h
        obtain ⟨⟨s1,s2⟩,hD,h⟩:=Option.bind_eq_some_iff.mp h
        have k4:(E==0)=true:=beq_iff_eq.mpr q4
        simp only [Option.some.injEq,Prod.mk.injEq] at h
        obtain ⟨hcc,hee,hpp⟩:=h
        obtain rfl:p'=P3:=hpp.symm
        have HD:=Aside0.mk hD
        have HCE:=Aside0.mk hcc
        have HEE:=Aside0.mk hee
        have HC4:=Aside0.mk (row_C (Kd.R_set HR3.out HM3.out.be (by decide) 0 (.int .i64 E)))
        have HM4:=Aside0.mk (HM3.out.setE E)
        clear q4 hD hcc hee q2
        go_wp2_with fail
        refine (text_Decode.calls k A3 c3 L s1 s2 _ HC4.out HCC3.out HD.out).mono ?_
        rintro r w4 ⟨rfl,hb4⟩
        have HM5:=Aside0.mk (HM4.out.below hb4)
        have ce4:w4.cell? ⟨ge,0,none⟩=some (.int .i64 E):=(blk_cell HM5.out.be 0).trans rfl
        have fe4:w4.frozen? ⟨ge,0,none⟩=false:=blk_frozen HM5.out.be 0
        have cc4:w4.cell? ⟨gc,1,none⟩=some (.string (⟨#[]⟩:ByteArray)):=(blk_cell HM5.out.bc 1).trans rfl
        have fc4:w4.frozen? ⟨gc,1,none⟩=false:=blk_frozen HM5.out.bc 1
        have hne:(ge=gc)=False:=eq_false (by have:=HM5.out.lc;omega)
        have hne2:(gc=ge)=False:=eq_false (by have:=HM5.out.lc;omega)
        clear hb4 ce3 fe3
        go_wp2_with fail
        go_meet
        have hm:=((HM5.out.setC 1 (.string s1) ⟨t,s1,0,0,0⟩ rfl).setE s2)
        rw [HCE.out,HEE.out] at hm
        rw [HEE.out]
        exact ⟨hm⟩
       ·rw [if_neg q4] at h
        have k4:(E==0)=false:=beq_eq_false_iff_ne.mpr q4
        simp only [Option.some.injEq,Prod.mk.injEq] at h
        obtain ⟨hcc,hee,hpp⟩:=h
        obtain rfl:ee=E:=hee.symm
        obtain rfl:p'=P3:=hpp.symm
        have HCE:=Aside0.mk hcc
        clear q4 hcc q2
        go_wp2_with fail
        go_meet
        exact ⟨HCE.out ▸ HM3.out.setE ee⟩
     ·rw [if_neg q2] at h
      have k2:(e2==0)=false:=beq_eq_false_iff_ne.mpr q2
      have k2n:(e2 != 0)=true:=bne_iff_ne.mpr q2
      simp only [Option.some.injEq,Prod.mk.injEq] at h
      obtain ⟨hcc,hee,hpp⟩:=h
      obtain rfl:ee=e2:=hee.symm
      obtain rfl:p'=p2:=hpp.symm
      have HM:=Aside0.mk (hcc ▸ HM2.out)
      clear q2 hcc HM2
      go_upto_region 13 with (fail)
      clear ce2 fe2 c12
      have BKc:=Aside0.mk HM.out.bc
      have BKe:=Aside0.mk HM.out.be
      have BK2:=Aside0.mk HM.out.b2
      have NE2c:Aside0 (g2 ≠ gc):=⟨by have:=HM.out.le;have:=HM.out.lc;omega⟩
      have NE2e:Aside0 (g2 ≠ ge):=⟨by have:=HM.out.le;omega⟩
      have G2LE:Aside0 (w.heap.size≤g2):=⟨by have:=HM.out.l1;have:=HM.out.l2;omega⟩
      have G2B:Aside0 (B≤g2):=⟨by have:=HM.out.lB;have:=HM.out.lg;have:=G2LE.out;omega⟩
      have hz0:w2.cell? ⟨g2,0,none⟩=some (.int .i64 0):=(blk_cell BK2.out 0).trans rfl
      have hz1:w2.cell? ⟨g2,1,none⟩=some (.string (⟨#[]⟩:ByteArray)):=(blk_cell BK2.out 1).trans rfl
      have hz2:w2.cell? ⟨g2,2,none⟩=some (.int .i64 0):=(blk_cell BK2.out 2).trans rfl
      have hz3:w2.cell? ⟨g2,3,none⟩=some (.int .i64 0):=(blk_cell BK2.out 3).trans rfl
      have hz4:w2.cell? ⟨g2,4,none⟩=some (.int .i64 0):=(blk_cell BK2.out 4).trans rfl
      have hfz0:w2.frozen? ⟨g2,0,none⟩=false:=blk_frozen BK2.out 0
      have hfz1:w2.frozen? ⟨g2,1,none⟩=false:=blk_frozen BK2.out 1
      have hfz2:w2.frozen? ⟨g2,2,none⟩=false:=blk_frozen BK2.out 2
      have hfz3:w2.frozen? ⟨g2,3,none⟩=false:=blk_frozen BK2.out 3
      have hfz4:w2.frozen? ⟨g2,4,none⟩=false:=blk_frozen BK2.out 4
      obtain ⟨hqc0,hqc1,hqc2,hqc3,hqc4⟩:=set5_cells (cc:=cc) BKc.out NE2c.out.symm
      have hqe:=set5_cell1 (cc:=cc) BKe.out NE2e.out.symm
      refine start_ (n:=4) (S:=fun w' => w'.cell? ⟨gc,0,none⟩=some (.int .i64 cc.f0)∧w'.cell? ⟨gc,1,none⟩=some (.string cc.f1)∧w'.cell? ⟨gc,2,none⟩=some (.int .i64 cc.f2)∧w'.cell? ⟨gc,3,none⟩=some (.int .i64 cc.f3)∧w'.cell? ⟨gc,4,none⟩=some (.int .i64 cc.f4)∧w'.cell? ⟨ge,0,none⟩=some (.int .i64 ee)) (ds:=[]) #[false,false,false,false] (by kernel_rfl) rfl rfl ⟨(blk_cell BKc.out 0).trans rfl,(blk_cell BKc.out 1).trans rfl,(blk_cell BKc.out 2).trans rfl,(blk_cell BKc.out 3).trans rfl,(blk_cell BKc.out 4).trans rfl,(blk_cell BKe.out 0).trans rfl⟩ (fun hHeld => ?_)
      refine take_ (i:=0) (N:=some 37) (v:=?_) (a':=?_) #[true,false,false,false] rfl rfl (by kernel_rfl) (fun _ _ _ h => h) (Or.inl ⟨by rfl,?_⟩) hHeld ?_ ?_
      rotate_left
      ·rintro w' ⟨s0,s1,s2,s3,s4,s5⟩
       go_simp
       with_reducible rfl
      rotate_left
      ·simp only [Act.put,List.setIfInBounds_toArray,List.set_cons_zero,List.set_cons_succ,i64_w,i32_w]
       rfl
      refine take_ (i:=1) (N:=some 38) (v:=?_) (a':=?_) #[true,true,false,false] rfl rfl (by kernel_rfl) (fun _ _ _ h => h) (Or.inl ⟨by rfl,?_⟩) hHeld ?_ ?_
      rotate_left
      ·rintro w' ⟨s0,s1,s2,s3,s4,s5⟩
       go_simp
       with_reducible rfl
      rotate_left
      ·simp only [Act.put,List.setIfInBounds_toArray,List.set_cons_zero,List.set_cons_succ,i64_w,i32_w]
       rfl
      refine one_ (i:=2) (N:=none) #[true,true,true,false] rfl rfl (by kernel_rfl) (by decide) (fun K hK => ?_)
      refine skip_ (w1:=(set5 w2 g2 cc).drew) (by rfl) rfl ?_ ?_
      ·go_simp
       rfl
      refine hK.out _ _ ⟨hqc0,hqc1,hqc2,hqc3,hqc4,hqe⟩ (fun hHeld => ?_)
      clear hK K
      refine pure_ (i:=3) (N:=some 3) (v:=?_) (a':=?_) #[true,true,true,true] rfl rfl (by kernel_rfl) (fun _ _ _ h => h) (Or.inl ⟨by rfl,?_⟩) ?_ ?_
      rotate_left
      ·intro w'
       go_simp
       with_reducible rfl
      rotate_left
      ·simp only [Act.put,List.setIfInBounds_toArray,List.set_cons_zero,List.set_cons_succ,i64_w,i32_w]
       rfl
      refine done_ (by kernel_rfl) ?_
      go_wp2
      refine bodyPost_ret (results_ct rfl _ _ g2 67 (constCells cc) (0,0) _ rfl (blk_drew (set5_at (W:=w2) (cc:=cc) BK2.out)) Tryd.underlying67 rfl (by kernel_rfl)) rfl ?_
      exact ⟨rfl,(set5_Rd HM.out.I BK2.out).drewN 1,(set5_St HM.out.S G2LE.out G2B.out).trans (RdStep.drewN _ _ _ 1)⟩
    ·rw [if_neg q1] at h
     have k1:(t==1)=false:=beq_eq_false_iff_ne.mpr q1
     by_cases q3:t=3
     ·rw [if_pos q3] at h
      have k3:(t==3)=true:=beq_iff_eq.mpr q3
      obtain ⟨⟨x,e2,p2⟩,hN,h⟩:=Option.bind_eq_some_iff.mp h
      simp only [Option.some.injEq,Prod.mk.injEq] at h
      obtain ⟨hcc,hee,hpp⟩:=h
      obtain rfl:ee=e2:=hee.symm
      obtain rfl:p'=p2:=hpp.symm
      have HCE:=Aside0.mk hcc
      have HN:=Aside0.mk (rd_Int.calls k B g bs p1 4 x ee p' wM HM.out.I (by decide) (by decide) HLL.out hN)
      clear hN hcc q3
      go_wp2_with fail
      refine HN.out.mono ?_
      rintro r w2 ⟨rfl,hP⟩
      have HM2:=Aside0.mk (HM.out.rd hP)
      have ce4:w2.cell? ⟨ge,0,none⟩=some (.int .i64 0):=(blk_cell HM2.out.be 0).trans rfl
      have fe4:w2.frozen? ⟨ge,0,none⟩=false:=blk_frozen HM2.out.be 0
      have cc4:w2.cell? ⟨gc,2,none⟩=some (.int .i64 0):=(blk_cell HM2.out.bc 2).trans rfl
      have fc4:w2.frozen? ⟨gc,2,none⟩=false:=blk_frozen HM2.out.bc 2
      have hne:(ge=gc)=False:=eq_false (by have:=HM2.out.lc;omega)
      have hne2:(gc=ge)=False:=eq_false (by have:=HM2.out.lc;omega)
      clear hP HM HN ce c1
      go_wp2_with fail
      go_meet
      exact ⟨HCE.out ▸ (HM2.out.setC 2 (.int .i64 x) ⟨t,⟨#[]⟩,x,0,0⟩ rfl).setE ee⟩
     rw [if_neg q3] at h
     have k3:(t==3)=false:=beq_eq_false_iff_ne.mpr q3
     by_cases q5:t=5
     ·rw [if_pos q5] at h
      have k5:(t==5)=true:=beq_iff_eq.mpr q5
      obtain ⟨⟨x,e2,p2⟩,hN,h⟩:=Option.bind_eq_some_iff.mp h
      simp only [Option.some.injEq,Prod.mk.injEq] at h
      obtain ⟨hcc,hee,hpp⟩:=h
      obtain rfl:ee=e2:=hee.symm
      obtain rfl:p'=p2:=hpp.symm
      have HCE:=Aside0.mk hcc
      have HN:=Aside0.mk (rd_Int.calls k B g bs p1 8 x ee p' wM HM.out.I (by decide) (by decide) HLL.out hN)
      clear hN hcc q5
      go_wp2_with fail
      refine HN.out.mono ?_
      rintro r w2 ⟨rfl,hP⟩
      have HM2:=Aside0.mk (HM.out.rd hP)
      have ce4:w2.cell? ⟨ge,0,none⟩=some (.int .i64 0):=(blk_cell HM2.out.be 0).trans rfl
      have fe4:w2.frozen? ⟨ge,0,none⟩=false:=blk_frozen HM2.out.be 0
      have cc4:w2.cell? ⟨gc,2,none⟩=some (.int .i64 0):=(blk_cell HM2.out.bc 2).trans rfl
      have fc4:w2.frozen? ⟨gc,2,none⟩=false:=blk_frozen HM2.out.bc 2
      have hne:(ge=gc)=False:=eq_false (by have:=HM2.out.lc;omega)
      have hne2:(gc=ge)=False:=eq_false (by have:=HM2.out.lc;omega)
      clear hP HM HN ce c1
      go_wp2_with fail
      go_meet
      exact ⟨HCE.out ▸ (HM2.out.setC 2 (.int .i64 x) ⟨t,⟨#[]⟩,x,0,0⟩ rfl).setE ee⟩
     rw [if_neg q5] at h
     have k5:(t==5)=false:=beq_eq_false_iff_ne.mpr q5
     by_cases q7:t=7
     ·rw [if_pos q7] at h
      have k7:(t==7)=true:=beq_iff_eq.mpr q7
      obtain ⟨⟨x,e2,p2⟩,hT,h⟩:=Option.bind_eq_some_iff.mp h
      simp only [Option.some.injEq,Prod.mk.injEq] at h
      obtain ⟨hcc,hee,hpp⟩:=h
      obtain rfl:ee=e2:=hee.symm
      obtain rfl:p'=p2:=hpp.symm
      have HCE:=Aside0.mk hcc
      have HT:=Aside0.mk hT
      clear hT hcc q7 q1 q3 q5
      go_wp2_with fail
      refine (TWO.out _ _ _ _ _ _ _ HM.out HT.out).mono ?_
      rintro r w2 ⟨rfl,hP⟩
      have HM2:=Aside0.mk (HM.out.two hP)
      have cc4:w2.cell? ⟨gc,3,none⟩=some (.int .i64 0):=(blk_cell HM2.out.bc 3).trans rfl
      have fc4:w2.frozen? ⟨gc,3,none⟩=false:=blk_frozen HM2.out.bc 3
      clear hP HM ce c1
      go_wp2_with fail
      go_meet
      exact ⟨HCE.out ▸ HM2.out.setC 3 (.int .i64 x) ⟨t,⟨#[]⟩,0,x,0⟩ rfl⟩
     rw [if_neg q7] at h
     have k7:(t==7)=false:=beq_eq_false_iff_ne.mpr q7
     by_cases q9:t=9 ∨ t=10 ∨ t=12
     ·rw [if_pos q9] at h
      obtain ⟨⟨x,e2,p2⟩,hT,h⟩:=Option.bind_eq_some_iff.mp h
      obtain ⟨⟨y,e3,p3⟩,hT2,h⟩:=Option.bind_eq_some_iff.mp h
      simp only [Option.some.injEq,Prod.mk.injEq] at h
      obtain ⟨hcc,hee,hpp⟩:=h
      obtain rfl:ee=e3:=hee.symm
      obtain rfl:p'=p3:=hpp.symm
      have HCE:=Aside0.mk hcc
      have HT:=Aside0.mk hT
      have HT2:=Aside0.mk hT2
      clear hT hT2 hcc
      have walk:∀ (k9 k10 k12:Bool),(t==9)=k9→(t==10)=k10→(t==12)=k12→(k9 || k10 || k12)=true→True:=fun _ _ _ _ _ _ _ => trivial
      have key:(t==9)=true ∨ ((t==9)=false∧(t==10)=true) ∨ ((t==9)=false∧(t==10)=false∧(t==12)=true):=by
       rcases q9 with q|q|q
       ·exact .inl (beq_iff_eq.mpr q)
       ·exact .inr (.inl ⟨beq_eq_false_iff_ne.mpr (by omega),beq_iff_eq.mpr q⟩)
       ·exact .inr (.inr ⟨beq_eq_false_iff_ne.mpr (by omega),beq_eq_false_iff_ne.mpr (by omega),beq_iff_eq.mpr q⟩)
      clear walk q9 q7 q1 q3 q5
      rcases key with j9|⟨j9,j10⟩|⟨j9,j10,j12⟩
      all_goals
       go_wp2_with fail
       refine (TWO.out _ _ _ _ _ _ _ HM.out HT.out).mono ?_
       rintro r w2 ⟨rfl,hP⟩
       have HM2:=Aside0.mk (HM.out.two hP)
       clear hP HM ce c1
       go_wp2_with fail
       refine (TWO.out _ _ _ _ _ _ _ HM2.out HT2.out).mono ?_
       rintro r w3 ⟨rfl,hP⟩
       have HM3:=Aside0.mk (HM2.out.two hP)
       have cc3:w3.cell? ⟨gc,3,none⟩=some (.int .i64 0):=(blk_cell HM3.out.bc 3).trans rfl
       have fc3:w3.frozen? ⟨gc,3,none⟩=false:=blk_frozen HM3.out.bc 3
       have cc4:w3.cell? ⟨gc,4,none⟩=some (.int .i64 0):=(blk_cell HM3.out.bc 4).trans rfl
       have fc4:w3.frozen? ⟨gc,4,none⟩=false:=blk_frozen HM3.out.bc 4
       clear hP HM2
       go_wp2_with fail
       go_meet
       exact ⟨HCE.out ▸ (HM3.out.setC 3 (.int .i64 x) ⟨t,⟨#[]⟩,0,x,0⟩ rfl).setC 4 (.int .i64 y) ⟨t,⟨#[]⟩,0,x,y⟩ rfl⟩
     ·rw [if_neg q9] at h
      have j9:(t==9)=false:=beq_eq_false_iff_ne.mpr (by omega)
      have j10:(t==10)=false:=beq_eq_false_iff_ne.mpr (by omega)
      have j12:(t==12)=false:=beq_eq_false_iff_ne.mpr (by omega)
      simp only [Option.some.injEq,Prod.mk.injEq] at h
      obtain ⟨hcc,hee,hpp⟩:=h
      obtain rfl:p'=p1:=hpp.symm
      have HCE:=Aside0.mk hcc
      have HEE:=Aside0.mk hee
      have fe4:wM.frozen? ⟨ge,0,none⟩=false:=blk_frozen HM.out.be 0
      clear hcc hee q9 q7 q1 q3 q5
      go_wp2_with fail
      go_meet
      have hm:=HM.out.setE 40
      rw [HCE.out,HEE.out] at hm
      rw [HEE.out]
      exact ⟨hm⟩
   case rest =>
    have HM':=hcut
    clear HM
    have HM:=HM'
    clear HM'
    go_wp2
    have BKc:=Aside0.mk HM.out.bc
    have BKe:=Aside0.mk HM.out.be
    have BK2:=Aside0.mk HM.out.b2
    have NE2c:Aside0 (g2 ≠ gc):=⟨by have:=HM.out.le;have:=HM.out.lc;omega⟩
    have NE2e:Aside0 (g2 ≠ ge):=⟨by have:=HM.out.le;omega⟩
    have G2LE:Aside0 (w.heap.size≤g2):=⟨by have:=HM.out.l1;have:=HM.out.l2;omega⟩
    have G2B:Aside0 (B≤g2):=⟨by have:=HM.out.lB;have:=HM.out.lg;have:=G2LE.out;omega⟩
    have hz0:wc.cell? ⟨g2,0,none⟩=some (.int .i64 0):=(blk_cell BK2.out 0).trans rfl
    have hz1:wc.cell? ⟨g2,1,none⟩=some (.string (⟨#[]⟩:ByteArray)):=(blk_cell BK2.out 1).trans rfl
    have hz2:wc.cell? ⟨g2,2,none⟩=some (.int .i64 0):=(blk_cell BK2.out 2).trans rfl
    have hz3:wc.cell? ⟨g2,3,none⟩=some (.int .i64 0):=(blk_cell BK2.out 3).trans rfl
    have hz4:wc.cell? ⟨g2,4,none⟩=some (.int .i64 0):=(blk_cell BK2.out 4).trans rfl
    have hfz0:wc.frozen? ⟨g2,0,none⟩=false:=blk_frozen BK2.out 0
    have hfz1:wc.frozen? ⟨g2,1,none⟩=false:=blk_frozen BK2.out 1
    have hfz2:wc.frozen? ⟨g2,2,none⟩=false:=blk_frozen BK2.out 2
    have hfz3:wc.frozen? ⟨g2,3,none⟩=false:=blk_frozen BK2.out 3
    have hfz4:wc.frozen? ⟨g2,4,none⟩=false:=blk_frozen BK2.out 4
    obtain ⟨hqc0,hqc1,hqc2,hqc3,hqc4⟩:=set5_cells (cc:=cc) BKc.out NE2c.out.symm
    have hqe:=set5_cell1 (cc:=cc) BKe.out NE2e.out.symm
    refine start_ (n:=4) (S:=fun w' => w'.cell? ⟨gc,0,none⟩=some (.int .i64 cc.f0)∧w'.cell? ⟨gc,1,none⟩=some (.string cc.f1)∧w'.cell? ⟨gc,2,none⟩=some (.int .i64 cc.f2)∧w'.cell? ⟨gc,3,none⟩=some (.int .i64 cc.f3)∧w'.cell? ⟨gc,4,none⟩=some (.int .i64 cc.f4)∧w'.cell? ⟨ge,0,none⟩=some (.int .i64 ee)) (ds:=[]) #[false,false,false,false] (by kernel_rfl) rfl rfl ⟨(blk_cell BKc.out 0).trans rfl,(blk_cell BKc.out 1).trans rfl,(blk_cell BKc.out 2).trans rfl,(blk_cell BKc.out 3).trans rfl,(blk_cell BKc.out 4).trans rfl,(blk_cell BKe.out 0).trans rfl⟩ (fun hHeld => ?_)
    refine take_ (i:=0) (N:=some 84) (v:=?_) (a':=?_) #[true,false,false,false] rfl rfl (by kernel_rfl) (fun _ _ _ h => h) (Or.inl ⟨by rfl,?_⟩) hHeld ?_ ?_
    rotate_left
    ·rintro w' ⟨s0,s1,s2,s3,s4,s5⟩
     go_simp
     with_reducible rfl
    rotate_left
    ·simp only [Act.put,List.setIfInBounds_toArray,List.set_cons_zero,List.set_cons_succ,i64_w,i32_w]
     rfl
    refine take_ (i:=1) (N:=some 85) (v:=?_) (a':=?_) #[true,true,false,false] rfl rfl (by kernel_rfl) (fun _ _ _ h => h) (Or.inl ⟨by rfl,?_⟩) hHeld ?_ ?_
    rotate_left
    ·rintro w' ⟨s0,s1,s2,s3,s4,s5⟩
     go_simp
     with_reducible rfl
    rotate_left
    ·simp only [Act.put,List.setIfInBounds_toArray,List.set_cons_zero,List.set_cons_succ,i64_w,i32_w]
     rfl
    refine one_ (i:=2) (N:=none) #[true,true,true,false] rfl rfl (by kernel_rfl) (by decide) (fun K hK => ?_)
    refine skip_ (w1:=(set5 wc g2 cc).drew) (by rfl) rfl ?_ ?_
    ·go_simp
     rfl
    refine hK.out _ _ ⟨hqc0,hqc1,hqc2,hqc3,hqc4,hqe⟩ (fun hHeld => ?_)
    clear hK K
    refine pure_ (i:=3) (N:=some 3) (v:=?_) (a':=?_) #[true,true,true,true] rfl rfl (by kernel_rfl) (fun _ _ _ h => h) (Or.inl ⟨by rfl,?_⟩) ?_ ?_
    rotate_left
    ·intro w'
     go_simp
     with_reducible rfl
    rotate_left
    ·simp only [Act.put,List.setIfInBounds_toArray,List.set_cons_zero,List.set_cons_succ,i64_w,i32_w]
     rfl
    refine done_ (by kernel_rfl) ?_
    go_wp2
    refine bodyPost_ret (results_ct rfl _ _ g2 67 (constCells cc) (0,0) _ rfl (blk_drew (set5_at (W:=wc) (cc:=cc) BK2.out)) Tryd.underlying67 rfl (by kernel_rfl)) rfl ?_
    exact ⟨rfl,(set5_Rd HM.out.I BK2.out).drewN 1,(set5_St HM.out.S G2LE.out G2B.out).trans (RdStep.drewN _ _ _ 1)⟩
  ·rw [if_neg he] at h
   have heb:(e1 != 0)=true:=bne_iff_ne.mpr he
   clear he
   simp only [Option.some.injEq,Prod.mk.injEq] at h
   obtain ⟨hcc,hee,hpp⟩:=h
   obtain rfl:ee=e1:=hee.symm
   obtain rfl:p'=p1:=hpp.symm
   go_upto_region 5 with (fail)
   obtain ⟨wM,hwM⟩:∃ wM,wM=(w1.alloc (.cells #[.int .i64 ee] 28 (0,0))).alloc (.cells #[.int .i64 t,.string (⟨#[]⟩:ByteArray),.int .i64 0,.int .i64 0,.int .i64 0] 67 (0,0)):=⟨_,rfl⟩
   have hM:=const_mid HI0.out.ge HI0.out.lt (Nat.le_of_eq HG1.out.symm) (by rw [HG2.out];exact Nat.lt_succ_self _) HI1.out HS1.out BK1'.out BK2'.out hwM
   rw [← hwM]
   clear hwM
   obtain ⟨ge,hge⟩:∃ ge,ge=w1.heap.size:=⟨_,rfl⟩
   obtain ⟨gc,hgc⟩:∃ gc,gc=ge + 1:=⟨_,rfl⟩
   rw [← hge,← hgc] at hM
   rw [← hge]
   (try rw [← hgc])
   have HM:=Aside0.mk hM
   clear hM hge hgc BK1' BK2' HS2
   replace HM:=Aside0.mk (hcc ▸ HM.out)
   clear hcc
   have BKc:=Aside0.mk HM.out.bc
   have BKe:=Aside0.mk HM.out.be
   have BK2:=Aside0.mk HM.out.b2
   have NE2c:Aside0 (g2 ≠ gc):=⟨by have:=HM.out.le;have:=HM.out.lc;omega⟩
   have NE2e:Aside0 (g2 ≠ ge):=⟨by have:=HM.out.le;omega⟩
   have G2LE:Aside0 (w.heap.size≤g2):=⟨by have:=HM.out.l1;have:=HM.out.l2;omega⟩
   have G2B:Aside0 (B≤g2):=⟨by have:=HM.out.lB;have:=HM.out.lg;have:=G2LE.out;omega⟩
   have hz0:wM.cell? ⟨g2,0,none⟩=some (.int .i64 0):=(blk_cell BK2.out 0).trans rfl
   have hz1:wM.cell? ⟨g2,1,none⟩=some (.string (⟨#[]⟩:ByteArray)):=(blk_cell BK2.out 1).trans rfl
   have hz2:wM.cell? ⟨g2,2,none⟩=some (.int .i64 0):=(blk_cell BK2.out 2).trans rfl
   have hz3:wM.cell? ⟨g2,3,none⟩=some (.int .i64 0):=(blk_cell BK2.out 3).trans rfl
   have hz4:wM.cell? ⟨g2,4,none⟩=some (.int .i64 0):=(blk_cell BK2.out 4).trans rfl
   have hfz0:wM.frozen? ⟨g2,0,none⟩=false:=blk_frozen BK2.out 0
   have hfz1:wM.frozen? ⟨g2,1,none⟩=false:=blk_frozen BK2.out 1
   have hfz2:wM.frozen? ⟨g2,2,none⟩=false:=blk_frozen BK2.out 2
   have hfz3:wM.frozen? ⟨g2,3,none⟩=false:=blk_frozen BK2.out 3
   have hfz4:wM.frozen? ⟨g2,4,none⟩=false:=blk_frozen BK2.out 4
   obtain ⟨hqc0,hqc1,hqc2,hqc3,hqc4⟩:=set5_cells (cc:=cc) BKc.out NE2c.out.symm
   have hqe:=set5_cell1 (cc:=cc) BKe.out NE2e.out.symm
   refine start_ (n:=4) (S:=fun w' => w'.cell? ⟨gc,0,none⟩=some (.int .i64 cc.f0)∧w'.cell? ⟨gc,1,none⟩=some (.string cc.f1)∧w'.cell? ⟨gc,2,none⟩=some (.int .i64 cc.f2)∧w'.cell? ⟨gc,3,none⟩=some (.int .i64 cc.f3)∧w'.cell? ⟨gc,4,none⟩=some (.int .i64 cc.f4)∧w'.cell? ⟨ge,0,none⟩=some (.int .i64 ee)) (ds:=[]) #[false,false,false,false] (by kernel_rfl) rfl rfl ⟨(blk_cell BKc.out 0).trans rfl,(blk_cell BKc.out 1).trans rfl,(blk_cell BKc.out 2).trans rfl,(blk_cell BKc.out 3).trans rfl,(blk_cell BKc.out 4).trans rfl,(blk_cell BKe.out 0).trans rfl⟩ (fun hHeld => ?_)
   refine take_ (i:=0) (N:=some 21) (v:=?_) (a':=?_) #[true,false,false,false] rfl rfl (by kernel_rfl) (fun _ _ _ h => h) (Or.inl ⟨by rfl,?_⟩) hHeld ?_ ?_
   rotate_left
   ·rintro w' ⟨s0,s1,s2,s3,s4,s5⟩
    go_simp
    with_reducible rfl
   rotate_left
   ·simp only [Act.put,List.setIfInBounds_toArray,List.set_cons_zero,List.set_cons_succ,i64_w,i32_w]
    rfl
   refine take_ (i:=1) (N:=some 22) (v:=?_) (a':=?_) #[true,true,false,false] rfl rfl (by kernel_rfl) (fun _ _ _ h => h) (Or.inl ⟨by rfl,?_⟩) hHeld ?_ ?_
   rotate_left
   ·rintro w' ⟨s0,s1,s2,s3,s4,s5⟩
    go_simp
    with_reducible rfl
   rotate_left
   ·simp only [Act.put,List.setIfInBounds_toArray,List.set_cons_zero,List.set_cons_succ,i64_w,i32_w]
    rfl
   refine one_ (i:=2) (N:=none) #[true,true,true,false] rfl rfl (by kernel_rfl) (by decide) (fun K hK => ?_)
   refine skip_ (w1:=(set5 wM g2 cc).drew) (by rfl) rfl ?_ ?_
   ·go_simp
    rfl
   refine hK.out _ _ ⟨hqc0,hqc1,hqc2,hqc3,hqc4,hqe⟩ (fun hHeld => ?_)
   clear hK K
   refine pure_ (i:=3) (N:=some 3) (v:=?_) (a':=?_) #[true,true,true,true] rfl rfl (by kernel_rfl) (fun _ _ _ h => h) (Or.inl ⟨by rfl,?_⟩) ?_ ?_
   rotate_left
   ·intro w'
    go_simp
    with_reducible rfl
   rotate_left
   ·simp only [Act.put,List.setIfInBounds_toArray,List.set_cons_zero,List.set_cons_succ,i64_w,i32_w]
    rfl
   refine done_ (by kernel_rfl) ?_
   go_wp2
   refine bodyPost_ret (results_ct rfl _ _ g2 67 (constCells cc) (0,0) _ rfl (blk_drew (set5_at (W:=wM) (cc:=cc) BK2.out)) Tryd.underlying67 rfl (by kernel_rfl)) rfl ?_
   exact ⟨rfl,(set5_Rd HM.out.I BK2.out).drewN 1,(set5_St HM.out.S G2LE.out G2B.out).trans (RdStep.drewN _ _ _ 1)⟩
 ·rw [if_neg hb] at h
  cases h
end Go.Proofs.YtbgniepcoaiinaaDoor.Px
namespace Go.Proofs.YtbgniepcoaiinaaDoor.Px
open Go.RowKit Go.Proofs.YtbgniepcoaiinaaDoorW.PrintWords Go.Proofs.YtbgniepcoaiinaaDoorW.PrintLast Go.Proofs.YtbgniepcoaiinaaDoorW.PrintMore
set_option linter.unusedVariables false
set_option linter.unusedSimpArgs false
def pool_Decode.l0:Nat→List Int→Int→List Cst→Nat→Option (List Cst × Int × Int)
 | 0,_,_,_,_ => none
 | k + 1,bs,n,ps,p =>
  if (ps.length:Int) < n then (pool_constant.f k bs p).bind fun c => if c.2.1=0 then (if ps.length≤65536 then pool_Decode.l0 k bs n (ps++[c.1]) c.2.2 else none) else some ([],0,c.2.1)
  else (pool_Check.f k ps).bind fun e => if e=0 then some (ps,(p:Int),0) else some ([],0,e)
def pool_Decode.f (k:Nat) (bs:List Int):Option (List Cst × Int × Int) :=
 if bs.length≤140737488355328 then (rd_Uint.f k bs 0 2).bind fun n =>
  if 0≤n.1∧n.1 < 65536 then
   (if n.2.1=0 then (if n.1 > 1024 then some ([],0,2) else if n.1=0 then some ([],0,40) else pool_Decode.l0 k bs n.1 [z67] n.2.2) else some ([],0,n.2.1))
  else none
 else none
theorem pool_Decode.mono_l:∀ k bs n ps p,LeO (pool_Decode.l0 k bs n ps p) (pool_Decode.l0 (k + 1) bs n ps p)
 | 0 => fun _ _ _ _ r h => by simp [pool_Decode.l0] at h
 | k + 1 => fun bs n ps p => by
  unfold pool_Decode.l0
  exact LeO.ite (LeO.bind (pool_constant.mono _ _ _) (fun _ => LeO.ite (LeO.ite (pool_Decode.mono_l k _ _ _ _) (LeO.refl _)) (LeO.refl _))) (LeO.bind (pool_Check.mono _ _) (fun _ => LeO.refl _))
theorem pool_Decode.mono:∀ a0 k,LeO (pool_Decode.f k a0) (pool_Decode.f (k + 1) a0):=by
 intro a0 k
 unfold pool_Decode.f
 exact LeO.ite (LeO.bind (rd_Uint.mono _ _ _ _) (fun _ => LeO.ite (LeO.ite (LeO.ite (LeO.refl _) (LeO.ite (LeO.refl _) (pool_Decode.mono_l _ _ _ _ _))) (LeO.refl _)) (LeO.refl _))) (LeO.refl _)
def zeroCells:Array Value:=#[.int .i64 0,.string (⟨#[]⟩:ByteArray),.int .i64 0,.int .i64 0,.int .i64 0]
theorem take_made (m:Nat) (h:1≤m):(madeCells zeroCells (m * 5)).toList.take 5=zeroCells.toList:=by
 apply List.ext_getElem?
 intro j
 by_cases hj:j < 5
 ·have h5:j < m * 5:=by omega
  have hm:j % 5=j:=Nat.mod_eq_of_lt hj
  have hz:zeroCells.size=5:=rfl
  rw [List.getElem?_take,if_pos hj]
  have hjz:j < zeroCells.size:=by omega
  simp [madeCells,h5,hz,hm]
  rw [Array.getElem?_eq_getElem hjz,getElem!_pos zeroCells j hjz]
 ·rw [List.getElem?_eq_none (by rw [List.length_take];omega),List.getElem?_eq_none (by show zeroCells.size≤j;have:zeroCells.size=5:=rfl;omega)]
theorem R_make1 (W:World) (m:Nat) (h:1≤m) (hm:m≤65536):Kd.R k67 67 (W.alloc (.cells (madeCells zeroCells (m * 5)) 67 (0,0))) W.heap.size (fun _ => True) (.slice (some ⟨W.heap.size,0,none⟩) 1 m) [z67]:=by
 refine ⟨fun _ _ => trivial,zeroCells.toList,⟨rfl,.inr ⟨W.heap.size,m,_,rfl,Nat.le_refl _,blk_new _ _,h,by simp only [maxLen];omega,by simp [madeCells];rfl,take_made m h⟩⟩,?_⟩
 exact (Reps.none _ 5).snoc (k67_mkM _ _ _ z67) rfl
theorem IsRd.grown_row {B B':Nat} {W W1:World} {g:Nat} {bs:List Int} {p:Nat} {ok:Nat→Prop} {v:Value} {ps:List Cst} (h:IsRd B W g bs p) (hr:Kd.R k67 67 W B' ok v ps) (hg:W.grownBy W1 v.ownBlock):IsRd B W1 g bs p:=by
 obtain ⟨u,hk,hu⟩:=h.blk
 obtain ⟨inner,ho⟩:=Kd.R_own hr
 refine ⟨h.ge,⟨u,blk_grown hk hg (Kd.R_ne hr hk (by decide)),?_⟩,h.hi⟩
 refine Kd.R_mono (Kd.R_grown (Kd.R_bound hu) hg (fun k hk2 e => ?_)) (fun k hk2 => hk2.1)
 obtain ⟨_,_,_,q,hq,cells,hc⟩:=hk2
 obtain ⟨c2,hc2⟩:=own_typed ho k e.symm
 rw [hc] at hc2
 injection hc2 with hc2
 injection hc2 with _ ht
 rcases List.mem_cons.1 hq with rfl|hq
 ·cases ht
 ·cases hq
theorem R_step_rd {B B':Nat} {W W1:World} {g:Nat} {bs:List Int} {p:Nat} {v:Value} {ps:List Cst} (h:IsRd B W g bs p) (hr:Kd.R k67 67 W B' (fun _ => True) v ps) (hs:RdStep B W W1 g):Kd.R k67 67 W1 B' (fun _ => True) v ps:=by
 obtain ⟨u,hk,hu⟩:=h.blk
 exact Kd.R_mono (Kd.R_keep (Kd.R_types hr hk (by intro q hq;rcases List.mem_cons.1 hq with rfl|hq;decide;cases hq)) hs.keep (fun k hk => hk.2)) (fun _ _ => trivial)
set_option maxHeartbeats 40000000 in
set_option maxRecDepth 100000 in
theorem pool_Decode.calls (k:Nat) (A0:Option Addr) (c0:Nat) (bs:List Int) (r1:List Cst) (r2 r3:Int) (w:World) (hG:Aside0 (GG w)) (hr0:Kd.C (Kd.int .u8) w A0 bs.length bs) (hc0:bs.length≤c0) (h:pool_Decode.f k bs=some (r1,r2,r3)) :
  Calls Tryd.prog 54 #[.slice A0 bs.length c0] w fun e w' => ∃ v0_:Value,e=.returned (.tuple #[v0_,.int .i64 r2,.int .i64 r3])∧Kd.R k67 67 w' w.heap.size (fun _ => True) v0_ r1∧Below w.heap.size w w':=by
 unfold pool_Decode.f at h
 by_cases hl:bs.length≤140737488355328
 ·rw [if_pos hl] at h
  obtain ⟨⟨n,e1,p1⟩,hU,h⟩:=Option.bind_eq_some_iff.mp h
  by_cases hb:0≤n∧n < 65536
  ·rw [if_pos hb] at h
   obtain ⟨n0,n1⟩:=hb
   have HU:=Aside0.mk hU
   have HLL:=Aside0.mk hl
   have HNew:=Aside0.mk (rd_New.calls A0 c0 bs w hr0 hl)
   clear hU hl hr0 hc0
   simp only at h
   go_enter Tryd.func54,Tryd.ntmps54
   go_wp2_with fail
   refine HNew.out.mono ?_
   rintro e w1 ⟨g,rfl,hgg,hI,hb1⟩
   have HU2:=Aside0.mk (rd_Uint.calls k _ g bs 0 2 n e1 p1 w1 hI (by decide) (by decide) HLL.out HU.out)
   have HB1:=Aside0.mk hb1
   have HGE:=Aside0.mk hgg
   clear hgg hI hb1 HNew HU
   go_wp2_with fail
   refine HU2.out.mono ?_
   rintro e w2 ⟨rfl,hP⟩
   have HI2:=Aside0.mk hP.1
   have HB2:=Aside0.mk (HB1.out.trans hP.2.below)
   clear hP HB1 HU2
   by_cases he:e1=0
   ·rw [if_pos he] at h
    have k1:(e1 != 0)=false:=bne_eq_false_iff_eq.mpr he
    clear he
    by_cases hn:n > 1024
    ·rw [if_pos hn] at h
     have k2:decide (1024 < n)=true:=decide_eq_true hn
     simp only [Option.some.injEq,Prod.mk.injEq] at h
     obtain ⟨rfl,rfl,rfl⟩:=h
     clear hn
     go_wp2
     go_ret3
     exact ⟨_,rfl,Kd.R_nil _ _ _ _ _,HB2.out⟩
    rw [if_neg hn] at h
    have k2:decide (1024 < n)=false:=decide_eq_false hn
    by_cases hz:n=0
    ·rw [if_pos hz] at h
     have k3:(n==0)=true:=beq_iff_eq.mpr hz
     simp only [Option.some.injEq,Prod.mk.injEq] at h
     obtain ⟨rfl,rfl,rfl⟩:=h
     clear hn hz
     go_wp2
     go_ret3
     exact ⟨_,rfl,Kd.R_nil _ _ _ _ _,HB2.out⟩
    rw [if_neg hz] at h
    have k3:(n==0)=false:=beq_eq_false_iff_ne.mpr hz
    obtain ⟨m,rfl⟩:=Int.eq_ofNat_of_zero_le n0
    obtain ⟨i0,hi0,hzz,hsz,hby⟩:=info_parts info67
    have hmk:∀ W:World,(Instr.makeSlice 22 (.int .i64 1) (.int .u64 (m:Int))).run Tryd.prog W=.ok (.slice (some ⟨W.heap.size,0,none⟩) 1 m) (W.alloc (.cells (madeCells zeroCells (m * 5)) 67 (0,0))):=by
     intro W
     have hr:=run_make (P:=Tryd.prog) W 22 67 i0 _ Tryd.underlying22 hi0 hzz .i64 .u64 1 (m:Int) (by omega) (by omega) (by rw [hby];omega) (by omega)
     rw [hsz] at hr
     exact hr
    have HM1:Aside0 (1≤m∧m≤1024):=⟨by omega⟩
    have H0:=Aside0.mk h
    clear hn hz hi0 hzz hsz hby h
    go_wp2
    have HRm:=Aside0.mk (Kd.R_lower (R_make1 w2 m HM1.out.1 (by have:=HM1.out.2;omega)) HB2.out.size)
    have HIm:=Aside0.mk (HI2.out.below (below_alloc (Below.refl _ _) (.cells (madeCells zeroCells (m * 5)) 67 (0,0))))
    have HBm:=Aside0.mk (below_alloc HB2.out (.cells (madeCells zeroCells (m * 5)) 67 (0,0)))
    clear HI2 HB2 hmk k1 k2 k3
    go_loopg [8] k (fun kq v8 wr => ∃ (A:Option Addr) (ps:List Cst) (c:Nat) (pos:Nat),v8=.slice A ps.length c∧Aside0 (pool_Decode.l0 kq bs (m:Int) ps pos=some (r1,r2,r3))∧Aside0 (kq≤k)∧Aside0 (Kd.R k67 67 wr w.heap.size (fun _ => True) (.slice A ps.length c) ps)∧Aside0 (IsRd w.heap.size wr g bs pos)∧Aside0 (Below w.heap.size w wr))
    case atStart => exact ⟨_,[z67],m,p1,rfl,H0,⟨Nat.le_refl _⟩,HRm,HIm,HBm⟩
    case round =>
     obtain ⟨A,ps,c,pos,rfl,HA,HK,HR,HI,HB⟩:=hrel
     cases gk with
     | zero => exact absurd HA.out (by simp [pool_Decode.l0])
     | succ k1 =>
     have H:=HA.out
     clear HA
     simp only [pool_Decode.l0] at H
     by_cases hlt:(ps.length:Int) < (m:Int)
     ·rw [if_pos hlt] at H
      have hpi:decide ((ps.length:Int) < (m:Int))=true:=decide_eq_true hlt
      have hpn:decide (ps.length < m)=true:=decide_eq_true (by omega)
      obtain ⟨⟨cc,ee,p2⟩,hC,H⟩:=Option.bind_eq_some_iff.mp H
      have HC:=Aside0.mk (pool_constant.calls k1 w.heap.size g bs pos cc ee p2 wr HI.out HLL.out hC)
      clear hC hlt
      simp only at H
      go_wp2_with fail
      refine HC.out.mono ?_
      rintro e w3 ⟨rfl,hP⟩
      unfold constCells
      have HR3:=Aside0.mk (R_step_rd HI.out HR.out hP.2)
      have HI3:=Aside0.mk hP.1
      have HB3:=Aside0.mk (HB.out.trans hP.2.below)
      clear hP HC HR HI HB
      by_cases hee:ee=0
      ·rw [if_pos hee] at H
       have j1:(ee != 0)=false:=bne_eq_false_iff_eq.mpr hee
       by_cases hps:ps.length≤65536
       ·rw [if_pos hps] at H
        have HN:=Aside0.mk H
        have HPS:=Aside0.mk hps
        clear H hps hee
        obtain ⟨wb,hwb⟩:∃ wb,wb=w3.alloc (.cells #[.int .i64 cc.f0,.string cc.f1,.int .i64 cc.f2,.int .i64 cc.f3,.int .i64 cc.f4] 67 (0,0)):=⟨_,rfl⟩
        have hbw:Below w3.heap.size w3 wb:=by rw [hwb];exact below_alloc (Below.refl _ _) _
        have HRb:=Aside0.mk (Kd.R_below HR3.out hbw)
        have HIb:=Aside0.mk (HI3.out.below hbw)
        have HBb:=Aside0.mk (below_step HB3.out hbw)
        have HWB:=Aside0.mk hwb
        clear hwb hbw
        go_upto_region 14 with (fail)
        rw [← HWB.out]
        have hbx:wb.heap[w3.heap.size]?=some (.cells #[.int .i64 cc.f0,.string cc.f1,.int .i64 cc.f2,.int .i64 cc.f3,.int .i64 cc.f4] 67 (0,0)):=by rw [HWB.out];exact blk_new _ _
        have bx0:wb.cell? ⟨w3.heap.size,0,none⟩=some (.int .i64 cc.f0):=(blk_cell hbx 0).trans rfl
        have bx1:wb.cell? ⟨w3.heap.size,1,none⟩=some (.string cc.f1):=(blk_cell hbx 1).trans rfl
        have bx2:wb.cell? ⟨w3.heap.size,2,none⟩=some (.int .i64 cc.f2):=(blk_cell hbx 2).trans rfl
        have bx3:wb.cell? ⟨w3.heap.size,3,none⟩=some (.int .i64 cc.f3):=(blk_cell hbx 3).trans rfl
        have bx4:wb.cell? ⟨w3.heap.size,4,none⟩=some (.int .i64 cc.f4):=(blk_cell hbx 4).trans rfl
        clear hbx HWB HR3 HI3 HB3
        go_wp2_with (at_builtin;refine Kd.R_append k67 (w0:=w) (W:=wb) w.heap.size rfl (.tmp 44) (.tmp 46) 22 67 (.agg #[(.int .i64 0),(.string ⟨#[]⟩),(.int .i64 0),(.int .i64 0),(.int .i64 0)]) 48 rfl Tryd.underlying22 info67 rfl (by decide) (by omega) (.slice A ps.length c) ps cc [.int .i64 cc.f0,.string cc.f1,.int .i64 cc.f2,.int .i64 cc.f3,.int .i64 cc.f4] (fun _ => True) (fun _ => False) rfl rfl (k67_mkM _ _ _ cc) (fun _ hk => hk.elim) (fun _ _ => trivial) HRb.out HBb.out HBb.out.size ?aL ?_)
        case aL => have:=HPS.out;omega
        intro v1 w5 hR5 hB5 hg5 ho5
        obtain ⟨A5,c5,hv5⟩:=Kd.R_slice hR5
        subst hv5
        have HR5:=Aside0.mk hR5
        have HB5:=Aside0.mk hB5
        have HI5:=Aside0.mk (HIb.out.grown_row HRb.out hg5)
        clear hR5 hB5 hg5 ho5 bx0 bx1 bx2 bx3 bx4 HRb HIb HBb
        go_wp2
        go_roundg k1
        case measure => have:=HK.out;omega
        case rel => exact ⟨A5,ps++[cc],c5,p2,rfl,HN,⟨by have:=HK.out;omega⟩,HR5,HI5,HB5⟩
       ·rw [if_neg hps] at H
        cases H
      ·rw [if_neg hee] at H
       have j1:(ee != 0)=true:=bne_iff_ne.mpr hee
       simp only [Option.some.injEq,Prod.mk.injEq] at H
       obtain ⟨rfl,rfl,rfl⟩:=H
       clear hee
       go_wp2
       go_ret3
       exact ⟨_,rfl,Kd.R_nil _ _ _ _ _,below_alloc HB3.out _⟩
     ·rw [if_neg hlt] at H
      have hpi:decide ((ps.length:Int) < (m:Int))=false:=decide_eq_false hlt
      have hpn:decide (ps.length < m)=false:=decide_eq_false (by omega)
      obtain ⟨e9,hE,H⟩:=Option.bind_eq_some_iff.mp H
      have hcc:=(Kd.R_reads HR.out)
      obtain ⟨A',c',hv,hc',hC'⟩:=hcc
      injection hv with hv1 hv2 hv3
      subst hv1
      subst hv3
      have HCk:=Aside0.mk (pool_Check.calls k1 A c ps e9 wr ⟨GG.below hG.out HB.out⟩ hC' hc' hE)
      clear hE hlt hc' hC' hv2
      go_wp2_with fail
      refine HCk.out.mono ?_
      rintro e w3 ⟨rfl,hb3⟩
      have HR3:=Aside0.mk (Kd.R_below HR.out hb3)
      have HI3:=Aside0.mk (HI.out.below hb3)
      have HB3:=Aside0.mk (below_step HB.out hb3)
      clear hb3 HCk HR HI HB
      by_cases hee:e9=0
      ·rw [if_pos hee] at H
       have j1:(e9 != 0)=false:=bne_eq_false_iff_eq.mpr hee
       simp only [Option.some.injEq,Prod.mk.injEq] at H
       obtain ⟨rfl,rfl,rfl⟩:=H
       clear hee
       go_wp2_with fail
       refine (rd_At.calls _ g bs pos w3 HI3.out).mono ?_
       rintro e w4 ⟨rfl,rfl⟩
       go_wp2
       go_ret3
       exact ⟨_,rfl,HR3.out,HB3.out⟩
      ·rw [if_neg hee] at H
       have j1:(e9 != 0)=true:=bne_iff_ne.mpr hee
       simp only [Option.some.injEq,Prod.mk.injEq] at H
       obtain ⟨rfl,rfl,rfl⟩:=H
       clear hee
       go_wp2
       go_ret3
       exact ⟨_,rfl,Kd.R_nil _ _ _ _ _,HB3.out⟩
   ·rw [if_neg he] at h
    have k1:(e1 != 0)=true:=bne_iff_ne.mpr he
    simp only [Option.some.injEq,Prod.mk.injEq] at h
    obtain ⟨rfl,rfl,rfl⟩:=h
    clear he
    go_wp2
    go_ret3
    exact ⟨_,rfl,Kd.R_nil _ _ _ _ _,HB2.out⟩
  ·rw [if_neg hb] at h
   cases h
 ·rw [if_neg hl] at h
  cases h
end Go.Proofs.YtbgniepcoaiinaaDoor.Px
namespace Go.Proofs.YtbgniepcoaiinaaDoor.Px
open Go.RowKit Go.Proofs.YtbgniepcoaiinaaDoorW.PrintWords Go.Proofs.YtbgniepcoaiinaaDoorW.PrintLast Go.Proofs.YtbgniepcoaiinaaDoorW.PrintMore
set_option linter.unusedVariables false
set_option linter.unusedSimpArgs false
abbrev Cls:=S26
def cr_fld.f (k:Nat) (bs:List Int) (p:Nat):Option (Rdo Fld) :=
 (cr_num.f k bs p 2).bind fun o => o.bind fun x1 p1 => (cr_num.f k bs p1 2).bind fun o => o.bind fun x2 p2 => (cr_num.f k bs p2 2).bind fun o => o.bind fun x3 p3 => some (.ok ⟨x1,x2,x3⟩ p3)
def cr_flds.f (k:Nat) (bs:List Int):Nat→Nat→List Fld→Option (Rdo (List Fld))
 | 0,p,l => some (.ok l p)
 | n + 1,p,l => (cr_fld.f k bs p).bind fun o => o.bind fun t p1 => (cr_same.f k bs p1 2 0).bind fun o => o.bind fun _ p2 => cr_flds.f k bs n p2 (l++[t])
def cr_mths.f (k:Nat) (l0:List Cst) (bs:List Int):Nat→Nat→List Mth→Option (Rdo (List Mth))
 | 0,p,l => some (.ok l p)
 | n + 1,p,l => (cr_method.f k l0 bs p).bind fun o => o.bind fun t p1 => cr_mths.f k l0 bs n p1 (l++[t])
def cr_rest.f (k:Nat) (l0:List Cst) (bs:List Int) (p:Nat):Option (Rdo Cls) :=
 (cr_same.f k bs p 2 0).bind fun o => o.bind fun _ p1 => (cr_num.f k bs p1 2).bind fun o => o.bind fun t p2 => (cr_num.f k bs p2 2).bind fun o => o.bind fun s p3 => (cr_same.f k bs p3 2 0).bind fun o => o.bind fun _ p4 =>
 (cr_count.f k bs p4 2 64).bind fun o => o.bind fun c p5 => (cr_flds.f k bs c.toNat p5 []).bind fun o => o.bind fun fs p6 =>
 (cr_count.f k bs p6 2 64).bind fun o => o.bind fun d p7 => (cr_mths.f k l0 bs d.toNat p7 []).bind fun o => o.bind fun ms p8 =>
 (cr_same.f k bs p8 2 0).bind fun o => o.bind fun _ p9 => if p9 < bs.length then some (.er 50) else
 (class_Check.f k l0 t s fs ms).bind fun e => some (if e=0 then .ok ⟨l0,t,s,fs,ms⟩ p9 else .er e)
def cr_class.f (k:Nat) (bs:List Int):Option (Rdo Cls) :=
 (cr_same.f k bs 0 4 3405691582).bind fun o => o.bind fun _ p1 => (cr_same.f k bs p1 4 61).bind fun o => o.bind fun _ p2 =>
 (pool_Decode.f k (bs.drop p2)).bind fun d => if d.2.2=0 then (if 0≤d.2.1∧d.2.1≤4611686018427387904 then (if rdE bs p2 d.2.1.toNat=0 then cr_rest.f k d.1 bs (rdP bs p2 d.2.1.toNat) else some (.er (rdE bs p2 d.2.1.toNat))) else none) else some (.er d.2.2)
def ClsPost (B:Nat) (w:World) (o:Rdo Cls) (e:Ending) (w':World):Prop:=match o with
 | .ok m p => ∃ v0 v3 v4:Value,e=.returned (.agg #[v0,.int .i64 m.f1,.int .i64 m.f2,v3,v4])∧Kd.R k67 67 w' w.heap.size (fun _ => True) v0 m.f0∧Kd.R k53 53 w' w.heap.size (fun _ => True) v3 m.f3∧Kd.R k56 56 w' w.heap.size (fun _ => True) v4 m.f4∧Below B w w'
 | .er n => Dies B w n e w'
abbrev C0:Array Value:=#[.slice none 0 0,.int .i64 0,.int .i64 0,.slice none 0 0,.slice none 0 0]
structure ClsSt (B N:Nat) (w W:World) (br g:Nat) (vp:Value) (bs:List Int) (p bm0 bm:Nat) (cs:Array Value):Prop where
 I:IsCr B W br g vp bs p
 b:Below B w W
 k0:W.heap[bm0]?=some (.cells C0 26 (0,0))
 km:W.heap[bm]?=some (.cells cs 26 (0,0))
 h0:N≤bm0
 hm:N≤bm
 lt:g < N
 hB:B≤N
 hN:N≤W.heap.size
theorem ClsSt.step {B N:Nat} {w W W':World} {br g:Nat} {vp:Value} {bs:List Int} {p p' bm0 bm:Nat} {cs:Array Value} (h:ClsSt B N w W br g vp bs p bm0 bm cs) (hR:CrPost B W br g vp bs p' W'):ClsSt B N w W' br g vp bs p' bm0 bm cs :=
 ⟨hR.1,h.b.trans hR.2.below,hR.2.blk (by have:=h.h0;have:=h.lt;omega) h.k0,hR.2.blk (by have:=h.hm;have:=h.lt;omega) h.km,h.h0,h.hm,h.lt,h.hB,Nat.le_trans h.hN hR.2.keep.1⟩
theorem ClsSt.new {B N:Nat} {w W W':World} {br g:Nat} {vp:Value} {bs:List Int} {p bm0 bm:Nat} {cs:Array Value} (h:ClsSt B N w W br g vp bs p bm0 bm cs) (hb:Below W.heap.size W W'):ClsSt B N w W' br g vp bs p bm0 bm cs :=
 ⟨h.I.below hb,h.b.trans (hb.mono h.I.R.base_le),(hb.block _ (blk_lt h.k0)).trans h.k0,(hb.block _ (blk_lt h.km)).trans h.km,h.h0,h.hm,h.lt,h.hB,Nat.le_trans h.hN hb.size⟩
theorem ClsSt.set {B N:Nat} {w W:World} {br g:Nat} {vp:Value} {bs:List Int} {p bm0 bm:Nat} {cs:Array Value} (h:ClsSt B N w W br g vp bs p bm0 bm cs) (hn:bm0 ≠ bm) (j:Nat) (v:Value):ClsSt B N w (W.setCell ⟨bm,j,none⟩ v) br g vp bs p bm0 bm (cs.setIfInBounds j v) :=
 ⟨⟨h.I.R.far h.km (by decide) (by decide) j v,blk_far h.I.blk (blk_ne h.I.blk h.km (by decide)) v⟩,h.b.setCell (p:=⟨bm,j,none⟩) (by have:=h.hm;have:=h.hB;show B≤bm;omega) v,blk_far h.k0 hn v,blk_set h.km j v,h.h0,h.hm,h.lt,h.hB,by simpa using h.hN⟩
theorem ClsSt.grown {α:Type} {d:Kd α} {B N e:Nat} {w W W':World} {br g:Nat} {vp:Value} {bs:List Int} {p bm0 bm:Nat} {cs:Array Value} {u:Value} {ok:Nat→Prop} {l:List α} (h:ClsSt B N w W br g vp bs p bm0 bm cs) (hR:d.R e W N ok u l) (he:e ≠ 5∧e ≠ 108∧e ≠ 79∧e ≠ 26) (hB:Below N W W') (hg:W.grownBy W' u.ownBlock):ClsSt B N w W' br g vp bs p bm0 bm cs:=by
 obtain ⟨v,hb,hr⟩:=h.I.R.blk
 refine ⟨⟨⟨h.I.R.ge,⟨v,(hg.block _ (blk_lt hb) (Kd.R_ne hR hb he.2.1)).trans hb,Kd.R_drop (Kd.R_grown (Kd.R_apartR hr hR (fun q hq => by rcases List.mem_cons.mp hq with rfl|hq;exact fun x => he.1 x.symm;exact absurd hq (by simp [Kd.int,Kd.scalar]))) hg (fun _ hk => hk.2))⟩,h.I.R.hi⟩,(hg.block _ (blk_lt h.I.blk) (Kd.R_ne hR h.I.blk he.2.2.1)).trans h.I.blk⟩,h.b.trans (hB.mono h.hB),(hg.block _ (blk_lt h.k0) (Kd.R_ne hR h.k0 he.2.2.2)).trans h.k0,(hg.block _ (blk_lt h.km) (Kd.R_ne hR h.km he.2.2.2)).trans h.km,h.h0,h.hm,h.lt,h.hB,Nat.le_trans h.hN hB.size⟩
theorem IsCr.pool {B:Nat} {w:World} {br g:Nat} {vp:Value} {bs:List Int} {p:Nat} (h:IsCr B w br g vp bs p) (v:Value):IsCr B (w.setCell ⟨br,1,none⟩ v) br g v bs p:=⟨h.R.far h.blk (by decide) (by decide) 1 v,blk_set h.blk 1 v⟩
set_option maxHeartbeats 4000000 in
set_option maxRecDepth 100000 in
theorem rd_Left.calls (B g:Nat) (bs:List Int) (p:Nat) (w:World) (hI:IsRd B w g bs p) (hl:bs.length≤140737488355328) :
  Calls Tryd.prog 61 #[.pointer (some ⟨g,0,none⟩)] w fun e w' => e=.returned (.int .i64 ((bs.length:Int) - (p:Int)))∧w.drew=w':=by
 have hi:=hI.hi
 obtain ⟨v,hb,hr⟩:=hI.blk
 obtain ⟨A,c,rfl⟩:=Kd.R_slice hr
 have c0':w.cell? ⟨g,0,none⟩=some (.slice A bs.length c):=(blk_cell hb 0).trans rfl
 have c1':w.cell? ⟨g,1,none⟩=some (.int .i64 (p:Int)):=(blk_cell hb 1).trans rfl
 have c2':w.cell? ⟨g,2,none⟩=some (.bool true):=(blk_cell hb 2).trans rfl
 have hw:wrap64 ((bs.length:Int) - (p:Int))=(bs.length:Int) - (p:Int):=by unfold wrap64;omega
 clear hI hb hr hi hl
 go_enter Tryd.func61,Tryd.ntmps61
 go_wp2_with (go_at_call 81;refine (rd_none g _ c2').mono ?_;rintro e w' ⟨rfl,rfl⟩)
 refine start_ (n:=11) (S:=fun w' => w'.cell? ⟨g,0,none⟩=some (.slice A bs.length c)∧w'.cell? ⟨g,1,none⟩=some (.int .i64 (p:Int))) (ds:=[]) #[false,false,false,false,false,false,false,false,false,false,false] (by kernel_rfl) rfl rfl ⟨c0',c1'⟩ (fun hHeld => ?_)
 refine pure_ (i:=0) (N:=some 5) (v:=?_) (a':=?_) #[true,false,false,false,false,false,false,false,false,false,false] rfl rfl (by kernel_rfl) (fun _ _ _ h => h) (Or.inl ⟨by rfl,?_⟩) ?_ ?_
 rotate_left
 ·intro w'
  go_simp
  with_reducible rfl
 rotate_left
 ·simp only [Act.put,List.setIfInBounds_toArray,List.set_cons_zero,List.set_cons_succ,i64_w,i32_w]
  rfl
 refine pure_ (i:=1) (N:=some 6) (v:=?_) (a':=?_) #[true,true,false,false,false,false,false,false,false,false,false] rfl rfl (by kernel_rfl) (fun _ _ _ h => h) (Or.inl ⟨by rfl,?_⟩) ?_ ?_
 rotate_left
 ·intro w'
  go_simp
  with_reducible rfl
 rotate_left
 ·simp only [Act.put,List.setIfInBounds_toArray,List.set_cons_zero,List.set_cons_succ,i64_w,i32_w]
  rfl
 refine pure_ (i:=2) (N:=some 7) (v:=?_) (a':=?_) #[true,true,true,false,false,false,false,false,false,false,false] rfl rfl (by kernel_rfl) (fun _ _ _ h => h) (Or.inl ⟨by rfl,?_⟩) ?_ ?_
 rotate_left
 ·intro w'
  go_simp
  with_reducible rfl
 rotate_left
 ·simp only [Act.put,List.setIfInBounds_toArray,List.set_cons_zero,List.set_cons_succ,i64_w,i32_w]
  rfl
 refine pure_ (i:=5) (N:=some 10) (v:=?_) (a':=?_) #[true,true,true,false,false,true,false,false,false,false,false] rfl rfl (by kernel_rfl) (fun _ _ _ h => h) (Or.inl ⟨by rfl,?_⟩) ?_ ?_
 rotate_left
 ·intro w'
  go_simp
  with_reducible rfl
 rotate_left
 ·simp only [Act.put,List.setIfInBounds_toArray,List.set_cons_zero,List.set_cons_succ,i64_w,i32_w]
  rfl
 refine pure_ (i:=6) (N:=some 11) (v:=?_) (a':=?_) #[true,true,true,false,false,true,true,false,false,false,false] rfl rfl (by kernel_rfl) (fun _ _ _ h => h) (Or.inl ⟨by rfl,?_⟩) ?_ ?_
 rotate_left
 ·intro w'
  go_simp
  with_reducible rfl
 rotate_left
 ·simp only [Act.put,List.setIfInBounds_toArray,List.set_cons_zero,List.set_cons_succ,i64_w,i32_w]
  rfl
 refine pure_ (i:=7) (N:=some 12) (v:=?_) (a':=?_) #[true,true,true,false,false,true,true,true,false,false,false] rfl rfl (by kernel_rfl) (fun _ _ _ h => h) (Or.inl ⟨by rfl,?_⟩) ?_ ?_
 rotate_left
 ·intro w'
  go_simp
  with_reducible rfl
 rotate_left
 ·simp only [Act.put,List.setIfInBounds_toArray,List.set_cons_zero,List.set_cons_succ,i64_w,i32_w]
  rfl
 refine take_ (i:=3) (N:=some 8) (v:=?_) (a':=?_) #[true,true,true,true,false,true,true,true,false,false,false] rfl rfl (by kernel_rfl) (fun _ _ _ h => h) (Or.inl ⟨by rfl,?_⟩) hHeld ?_ ?_
 rotate_left
 ·rintro w' ⟨s0,s1⟩
  go_simp
  with_reducible rfl
 rotate_left
 ·simp only [Act.put,List.setIfInBounds_toArray,List.set_cons_zero,List.set_cons_succ,i64_w,i32_w]
  rfl
 refine pure_ (i:=4) (N:=some 9) (v:=?_) (a':=?_) #[true,true,true,true,true,true,true,true,false,false,false] rfl rfl (by kernel_rfl) (fun _ _ _ h => h) (Or.inl ⟨by rfl,?_⟩) ?_ ?_
 rotate_left
 ·intro w'
  go_simp
  with_reducible rfl
 rotate_left
 ·simp only [Act.put,List.setIfInBounds_toArray,List.set_cons_zero,List.set_cons_succ,i64_w,i32_w]
  rfl
 refine take_ (i:=8) (N:=some 13) (v:=?_) (a':=?_) #[true,true,true,true,true,true,true,true,true,false,false] rfl rfl (by kernel_rfl) (fun _ _ _ h => h) (Or.inl ⟨by rfl,?_⟩) hHeld ?_ ?_
 rotate_left
 ·rintro w' ⟨s0,s1⟩
  go_simp
  with_reducible rfl
 rotate_left
 ·simp only [Act.put,List.setIfInBounds_toArray,List.set_cons_zero,List.set_cons_succ,i64_w,i32_w]
  rfl
 refine pure_ (i:=9) (N:=some 14) (v:=?_) (a':=?_) #[true,true,true,true,true,true,true,true,true,true,false] rfl rfl (by kernel_rfl) (fun _ _ _ h => h) (Or.inl ⟨by rfl,?_⟩) ?_ ?_
 rotate_left
 ·intro w'
  go_simp
  with_reducible rfl
 rotate_left
 ·simp only [Act.put,List.setIfInBounds_toArray,List.set_cons_zero,List.set_cons_succ,i64_w,i32_w]
  rfl
 refine pure_ (i:=10) (N:=some 2) (v:=?_) (a':=?_) #[true,true,true,true,true,true,true,true,true,true,true] rfl rfl (by kernel_rfl) (fun _ _ _ h => h) (Or.inl ⟨by rfl,?_⟩) ?_ ?_
 rotate_left
 ·intro w'
  go_simp
  with_reducible rfl
 rotate_left
 ·simp only [Act.put,List.setIfInBounds_toArray,List.set_cons_zero,List.set_cons_succ,i64_w,i32_w]
  rfl
 refine done_ (by kernel_rfl) ?_
 try rw [hw]
 go_wp2
 go_ret
 exact ⟨rfl,rfl⟩
theorem rd_keepC {B N:Nat} {w:World} {g:Nat} {ok:Nat→Prop} {A:Option Addr} {c:Nat} {l:List Cst} (hr:Kd.R k67 67 w N ok (.slice A l.length c) l) (hg:g < N):∀ w',RdStep B w w' g→Kd.C k67 w' A l.length l:=fun w' hS => by
 obtain ⟨A2,c2,he,_,hC⟩:=Kd.R_reads (hS.R hr hg)
 injection he with h1 _ _
 subst h1
 exact hC
theorem cls_sets {B N bm0:Nat} {w:World} {v0 v3 v4:Value} {l0:List Cst} {l3:List Fld} {l4:List Mth} (h0:B≤bm0):∀ (L:List (Nat × Value)) (W:World) (cs:Array Value),W.heap[bm0]?=some (.cells cs 26 (0,0))→Below B w W→Kd.R k67 67 W N (fun _ => True) v0 l0→Kd.R k53 53 W N (fun _ => True) v3 l3→Kd.R k56 56 W N (fun _ => True) v4 l4 →
  Below B w (L.foldl (fun W x => W.setCell ⟨bm0,x.1,none⟩ x.2) W)∧Kd.R k67 67 (L.foldl (fun W x => W.setCell ⟨bm0,x.1,none⟩ x.2) W) N (fun _ => True) v0 l0∧Kd.R k53 53 (L.foldl (fun W x => W.setCell ⟨bm0,x.1,none⟩ x.2) W) N (fun _ => True) v3 l3∧Kd.R k56 56 (L.foldl (fun W x => W.setCell ⟨bm0,x.1,none⟩ x.2) W) N (fun _ => True) v4 l4
 | [],_,_,_,hC,h5,h6,h7 => ⟨hC,h5,h6,h7⟩
 | (j,v) :: L,W,cs,hb,hC,h5,h6,h7 =>
  cls_sets h0 L (W.setCell ⟨bm0,j,none⟩ v) _ (blk_set hb j v) (hC.setCell (p:=⟨bm0,j,none⟩) h0 v) (Kd.R_set h5 hb (by decide) j v) (Kd.R_set h6 hb (by decide) j v) (Kd.R_set h7 hb (by decide) j v)
set_option maxHeartbeats 80000000 in
set_option maxRecDepth 100000 in
theorem cr_class.calls {k B br g:Nat} {A0:Option Addr} {c0:Nat} {bs:List Int} {o:Rdo Cls} {w:World} (hG:Aside0 (∀ w',Below B w w'→GG w')) (hI:IsCr B w br g (.slice none 0 0) bs 0) (hbr:B≤br) (hl:bs.length≤140737488355328) (hP:∀ w',RdStep B w w' g→(Kd.int .u8).C w' A0 bs.length bs) (hPC:bs.length≤c0) (h:cr_class.f k bs=some o) :
  Calls Tryd.prog 36 #[.pointer (some ⟨br,0,none⟩),.slice A0 bs.length c0] w fun e w' => ClsPost B w o e w':=by
 have hu:=Tryd.underlying26
 have hu2:=Tryd.underlying53
 have hu3:=Tryd.underlying56
 obtain ⟨o1,h1,h⟩:=Option.bind_eq_some_iff.mp h
 have H1:=Aside0.mk h1
 have HH:=Aside0.mk h
 have HI:=Aside0.mk hI
 have HBR:=Aside0.mk hbr
 clear hbr
 have HL:=Aside0.mk hl
 have HP:=Aside0.mk hP
 have HPC:=Aside0.mk hPC
 clear h1 h hI hl hP hPC
 go_enter Tryd.func36,Tryd.ntmps36
 go_wp2_with fail
 obtain ⟨W0,hW0⟩:∃ W0,W0=w.alloc (.cells C0 26 (0,0)):=⟨_,rfl⟩
 obtain ⟨bm0,hm0⟩:∃ bm0,bm0=w.heap.size:=⟨_,rfl⟩
 rw [← hW0,← hm0]
 have hb0:Below w.heap.size w W0:=by rw [hW0];exact below_alloc (Below.refl _ _) _
 have HCC:Aside0 (CrPost B w br g (.slice none 0 0) bs 0 W0):=⟨⟨HI.out.below hb0,⟨hb0.mono HI.out.R.base_le,KeepBut.of_below hb0 _ _⟩⟩⟩
 have HKK:Aside0 (W0.heap[bm0]?=some (.cells C0 26 (0,0))):=⟨by rw [hW0,hm0];exact blk_new _ _⟩
 have HM0:=Aside0.mk hm0
 have HLT:=Aside0.mk HI.out.R.lt
 clear hW0 hm0 hb0 HI
 have HC1:=Aside0.mk (cr_same.calls (n:=4) HCC.out.1 (by decide) (by decide) HL.out H1.out)
 clear H1
 refine HC1.out.mono ?_
 clear HC1
 cases o1 with
 | er en =>
  have h:=Option.some.inj HH.out
  subst h
  rintro e wd ⟨rfl,hR⟩
  have HR:=Aside0.mk (HCC.out.below.trans hR)
  clear hR HH 
  go_wp2
  exact ⟨rfl,rfl,HR.out⟩
 | ok _ p1 =>
 rintro e W1 ⟨rfl,hR⟩
 have HCC2:=Aside0.mk (CrPost.from HCC.out.2 hR)
 have HKK2:=Aside0.mk (hR.2.blk (by have:=HM0.out;have:=HLT.out;omega) HKK.out)
 clear hR HCC HKK
 have HCC:=HCC2
 have HKK:=HKK2
 clear HCC2 HKK2
 obtain ⟨o2,h2,h⟩:=Option.bind_eq_some_iff.mp HH.out
 have H2:=Aside0.mk h2
 clear HH h2
 have HH:=Aside0.mk h
 clear h
 go_wp2_with fail
 have HC2:=Aside0.mk (cr_same.calls (n:=4) HCC.out.1 (by decide) (by decide) HL.out H2.out)
 clear H2
 refine HC2.out.mono ?_
 clear HC2
 cases o2 with
 | er en =>
  have h:=Option.some.inj HH.out
  subst h
  rintro e wd ⟨rfl,hR⟩
  have HR:=Aside0.mk (HCC.out.below.trans hR)
  clear hR HH 
  go_wp2
  exact ⟨rfl,rfl,HR.out⟩
 | ok _ p2 =>
 rintro e W2 ⟨rfl,hR⟩
 have HCC2:=Aside0.mk (CrPost.from HCC.out.2 hR)
 have HKK2:=Aside0.mk (hR.2.blk (by have:=HM0.out;have:=HLT.out;omega) HKK.out)
 clear hR HCC HKK
 have HCC:=HCC2
 have HKK:=HKK2
 clear HCC2 HKK2
 obtain ⟨⟨pl,pn,pe⟩,hD,h⟩:=Option.bind_eq_some_iff.mp HH.out
 have H3:=Aside0.mk hD
 clear HH hD
 have HH:=Aside0.mk h
 clear h
 have cq:=HCC.out.1.c0
 go_wp2_with fail
 refine (rd_At.calls B g bs p2 W2 HCC.out.1.R).mono ?_
 rintro e wx ⟨rfl,rfl⟩
 obtain ⟨i0,hi0,_,hsz,_⟩:=info_parts info5
 have hp2:=HCC.out.1.R.hi
 have hs1:=cut_from (P:=Tryd.prog) 27 5 .i64 Tryd.underlying27 hi0 1 hsz A0 bs.length c0 (p2:Int) (by omega) (by omega)
 simp only [Int.toNat_natCast] at hs1
 obtain ⟨A1,hA1⟩:∃ A1,A1=(if c0=p2 then A0 else A0.map (·.add (p2 * 1))):=⟨_,rfl⟩
 rw [← hA1] at hs1
 have HD:=Aside0.mk (show (Kd.int .u8).C W2 A1 (bs.drop p2).length (bs.drop p2) from by rw [hA1];exact Kd.C_drop (m:=p2) (c:=c0) (HP.out W2 HCC.out.2) hp2 HPC.out)
 have HDC:Aside0 ((bs.drop p2).length≤c0 - p2):=⟨by have:=HPC.out;rw [List.length_drop];omega⟩
 have hdl:bs.length - p2=(bs.drop p2).length:=List.length_drop.symm
 rw [hdl] at hs1
 have HDL:=Aside0.mk hdl
 clear hdl
 clear hA1 hi0 hsz hp2
 go_wp2_with fail
 rw [HDL.out]
 refine (pool_Decode.calls k A1 (c0 - p2) (bs.drop p2) pl pn pe W2 ⟨hG.out W2 HCC.out.below⟩ HD.out HDC.out H3.out).mono ?_
 rintro e W3 ⟨v0,rfl,hRp,hb3⟩
 obtain ⟨Ap,cp,hvp,hcp,_⟩:=Kd.R_reads hRp
 subst hvp
 have HRp:=Aside0.mk (Kd.R_lower hRp HCC.out.2.keep.1)
 have HCC2:=Aside0.mk (HCC.out.new hb3)
 have HKK2:=Aside0.mk ((hb3.block _ (blk_lt HKK.out)).trans HKK.out)
 have HPL:=Aside0.mk hcp
 clear hRp hb3 HCC HKK HD HDC HDL hs1 H3 cq hcp
 have HCC:=HCC2
 have HKK:=HKK2
 clear HCC2 HKK2
 have h:(if pe=0 then (if 0≤pn∧pn≤4611686018427387904 then (if rdE bs p2 pn.toNat=0 then cr_rest.f k pl bs (rdP bs p2 pn.toNat) else some (.er (rdE bs p2 pn.toNat))) else none) else some (.er pe))=some o:=HH.out
 clear HH
 by_cases he:pe=0
 case neg =>
  rw [if_neg he] at h
  have h:=Option.some.inj h
  subst h
  have HE:=Aside0.mk he
  clear he
  go_wp2_with fail
  refine (cr_must_dies _ _ HE.out _).mono ?_
  rintro e w3 ⟨rfl,rfl⟩
  go_wp2
  exact ⟨rfl,rfl,HCC.out.below⟩
 rw [if_pos he] at h
 subst he
 by_cases hn:0≤pn∧pn≤4611686018427387904
 case neg => rw [if_neg hn] at h;cases h
 rw [if_pos hn] at h
 obtain ⟨n,rfl⟩:=Int.eq_ofNat_of_zero_le hn.1
 rw [Int.toNat_natCast] at h
 have HNN:Aside0 (n≤4611686018427387904):=⟨by omega⟩
 have HH:=Aside0.mk h
 clear hn h
 go_wp2_with fail
 refine (cr_must_ok _ _).mono ?_
 rintro e wx ⟨rfl,rfl⟩
 have cq0:=HCC.out.1.c0
 have cq1:=HCC.out.1.c1
 have fq1:=blk_frozen HCC.out.1.blk 1
 go_wp2_with fail
 have HI5:=Aside0.mk (HCC.out.1.pool (.slice Ap pl.length cp))
 have HB5:=Aside0.mk (HCC.out.below.setCell (p:=⟨br,1,none⟩) HBR.out (.slice Ap pl.length cp))
 have HK5:=Aside0.mk (blk_far (p:=⟨br,1,none⟩) HKK.out (blk_ne HKK.out HCC.out.1.blk (by decide)) (.slice Ap pl.length cp))
 have HR5:=Aside0.mk (Kd.R_set HRp.out HCC.out.1.blk (by decide) 1 (.slice Ap pl.length cp))
 have HN5:=Aside0.mk HCC.out.2.keep.1
 clear HCC HKK HRp cq0 cq1 fq1
 refine (rd_Bytes.calls B g bs p2 n _ HI5.out.R HL.out HNN.out).mono ?_
 rintro e W6 ⟨vb,rfl,hRb,hR6⟩
 have HI6:=Aside0.mk (HI5.out.step hR6).1
 have HB6:=Aside0.mk (HB5.out.trans hR6.2.below)
 have HK6:=Aside0.mk (hR6.2.blk (by have:=HM0.out;have:=HLT.out;omega) HK5.out)
 have HR6:=Aside0.mk (hR6.2.R HR5.out HLT.out)
 have HN6:=Aside0.mk (show w.heap.size≤W6.heap.size from Nat.le_trans HN5.out (by have:=hR6.2.keep.1;simpa using this))
 have h:(if rdE bs p2 n=0 then cr_rest.f k pl bs (rdP bs p2 n) else some (.er (rdE bs p2 n)))=some o:=HH.out
 clear hRb hR6 HI5 HB5 HK5 HR5 HN5 HH
 by_cases he:rdE bs p2 n=0
 case neg =>
  rw [if_neg he] at h
  have h:=Option.some.inj h
  subst h
  have HE:=Aside0.mk he
  clear he
  go_wp2_with fail
  refine (cr_must_dies _ _ HE.out _).mono ?_
  rintro e w3 ⟨rfl,rfl⟩
  go_wp2
  exact ⟨rfl,rfl,HB6.out⟩
 rw [if_pos he] at h
 rw [he]
 have HH:=Aside0.mk h
 clear he h
 go_wp2_with fail
 refine (cr_must_ok _ _).mono ?_
 rintro e wy ⟨rfl,rfl⟩
 go_wp2_with fail
 obtain ⟨bm,hbm⟩:∃ bm,bm=wy.heap.size:=⟨_,rfl⟩
 obtain ⟨Wc,hWc⟩:∃ Wc,Wc=wy.alloc (.cells #[.slice Ap pl.length cp,.int .i64 0,.int .i64 0,.slice none 0 0,.slice none 0 0] 26 (0,0)):=⟨_,rfl⟩
 rw [← hWc,← hbm]
 have hbc:Below wy.heap.size wy Wc:=by rw [hWc];exact below_alloc (Below.refl _ _) _
 have hltk:=blk_lt HK6.out
 have HN:Aside0 (bm0 ≠ bm):=⟨by omega⟩
 have HM:Aside0 (ClsSt B w.heap.size w Wc br g (.slice Ap pl.length cp) bs (rdP bs p2 n) bm0 bm #[.slice Ap pl.length cp,.int .i64 0,.int .i64 0,.slice none 0 0,.slice none 0 0]):=⟨⟨HI6.out.below hbc,HB6.out.trans (hbc.mono HI6.out.R.base_le),(hbc.block _ hltk).trans HK6.out,by rw [hWc,hbm];exact blk_new _ _,by rw [HM0.out];exact Nat.le_refl _,by rw [hbm];exact HN6.out,HLT.out,by have:=HI6.out.R.ge;have:=HLT.out;omega,Nat.le_trans HN6.out hbc.size⟩⟩
 have HRp:=Aside0.mk (Kd.R_below HR6.out hbc)
 have h:=HH.out
 clear hWc hbm hbc hltk HI6 HB6 HK6 HR6 HN6 HH
 unfold cr_rest.f at h
 have HH:=Aside0.mk h
 clear h
 obtain ⟨o3,h3,h⟩:=Option.bind_eq_some_iff.mp HH.out
 have H3:=Aside0.mk h3
 clear HH h3
 have HH:=Aside0.mk h
 clear h
 have HC3:=Aside0.mk (cr_same.calls (n:=2) HM.out.I (by decide) (by decide) HL.out H3.out)
 clear H3
 refine HC3.out.mono ?_
 clear HC3
 cases o3 with
 | er en =>
  have h:=Option.some.inj HH.out
  subst h
  rintro e wd ⟨rfl,hR⟩
  have HR:=Aside0.mk (HM.out.b.trans hR)
  clear hR HH 
  go_wp2
  exact ⟨rfl,rfl,HR.out⟩
 | ok _ p3 =>
 rintro e W7 ⟨rfl,hR⟩
 have HRn:=Aside0.mk (hR.2.R HRp.out HLT.out)
 have HMn:=Aside0.mk (HM.out.step hR)
 clear hR HM HRp
 have HM:=HMn
 have HRp:=HRn
 clear HMn HRn
 obtain ⟨o4,h4,h⟩:=Option.bind_eq_some_iff.mp HH.out
 have H4:=Aside0.mk h4
 clear HH h4
 have HH:=Aside0.mk h
 clear h
 go_wp2_with fail
 have HC4:=Aside0.mk (cr_two.calls HM.out.I HL.out H4.out)
 clear H4
 refine HC4.out.mono ?_
 clear HC4
 cases o4 with
 | er en =>
  have h:=Option.some.inj HH.out
  subst h
  rintro e wd ⟨rfl,hR⟩
  have HR:=Aside0.mk (HM.out.b.trans hR)
  clear hR HH 
  go_wp2
  exact ⟨rfl,rfl,HR.out⟩
 | ok th p4 =>
 rintro e W8 ⟨rfl,hR⟩
 have HRn:=Aside0.mk (hR.2.R HRp.out HLT.out)
 have HMn:=Aside0.mk (HM.out.step hR)
 clear hR HM HRp
 have HM:=HMn
 have HRp:=HRn
 clear HMn HRn
 obtain ⟨o5,h5,h⟩:=Option.bind_eq_some_iff.mp HH.out
 have H5:=Aside0.mk h5
 clear HH h5
 have HH:=Aside0.mk h
 clear h
 go_wp2_with fail
 have HC5:=Aside0.mk (cr_two.calls HM.out.I HL.out H5.out)
 clear H5
 refine HC5.out.mono ?_
 clear HC5
 cases o5 with
 | er en =>
  have h:=Option.some.inj HH.out
  subst h
  rintro e wd ⟨rfl,hR⟩
  have HR:=Aside0.mk (HM.out.b.trans hR)
  clear hR HH 
  go_wp2
  exact ⟨rfl,rfl,HR.out⟩
 | ok su p5 =>
 rintro e W9 ⟨rfl,hR⟩
 have HRn:=Aside0.mk (hR.2.R HRp.out HLT.out)
 have HMn:=Aside0.mk (HM.out.step hR)
 clear hR HM HRp
 have HM:=HMn
 have HRp:=HRn
 clear HMn HRn
 obtain ⟨o6,h6,h⟩:=Option.bind_eq_some_iff.mp HH.out
 have H6:=Aside0.mk h6
 clear HH h6
 have HH:=Aside0.mk h
 clear h
 have cq1:=(blk_cell HM.out.km 1).trans rfl
 have cq2:=(blk_cell HM.out.km 2).trans rfl
 have fq1:=blk_frozen HM.out.km 1
 have fq2:=blk_frozen HM.out.km 2
 go_wp2_with fail
 have HMs:=Aside0.mk ((HM.out.set HN.out 1 (.int .i64 th)).set HN.out 2 (.int .i64 su))
 have HRs:=Aside0.mk (Kd.R_set (Kd.R_set HRp.out HM.out.km (by decide) 1 (.int .i64 th)) (blk_set HM.out.km 1 (.int .i64 th)) (by decide) 2 (.int .i64 su))
 clear HM HRp cq1 cq2 fq1 fq2
 have HM:=HMs
 have HRp:=HRs
 clear HMs HRs
 have HC6:=Aside0.mk (cr_same.calls (n:=2) HM.out.I (by decide) (by decide) HL.out H6.out)
 clear H6
 refine HC6.out.mono ?_
 clear HC6
 cases o6 with
 | er en =>
  have h:=Option.some.inj HH.out
  subst h
  rintro e wd ⟨rfl,hR⟩
  have HR:=Aside0.mk (HM.out.b.trans hR)
  clear hR HH 
  go_wp2
  exact ⟨rfl,rfl,HR.out⟩
 | ok _ p6 =>
 rintro e W10 ⟨rfl,hR⟩
 have HRn:=Aside0.mk (hR.2.R HRp.out HLT.out)
 have HMn:=Aside0.mk (HM.out.step hR)
 clear hR HM HRp
 have HM:=HMn
 have HRp:=HRn
 clear HMn HRn
 obtain ⟨o7,h7,h⟩:=Option.bind_eq_some_iff.mp HH.out
 have H7:=Aside0.mk h7
 clear HH h7
 have HH:=Aside0.mk h
 clear h
 go_wp2_with fail
 have HK7:=Aside0.mk H7.out
 have HC7:=Aside0.mk (cr_count.calls (n:=2) HM.out.I (by decide) (by decide) HL.out H7.out)
 clear H7
 refine HC7.out.mono ?_
 clear HC7
 cases o7 with
 | er en =>
  have h:=Option.some.inj HH.out
  subst h
  rintro e wd ⟨rfl,hR⟩
  have HR:=Aside0.mk (HM.out.b.trans hR)
  clear hR HH 
  go_wp2
  exact ⟨rfl,rfl,HR.out⟩
 | ok cc p7 =>
 rintro e W11 ⟨rfl,hR⟩
 have HRn:=Aside0.mk (hR.2.R HRp.out HLT.out)
 have HMn:=Aside0.mk (HM.out.step hR)
 clear hR HM HRp
 have HM:=HMn
 have HRp:=HRn
 clear HMn HRn
 obtain ⟨o8,h8,h⟩:=Option.bind_eq_some_iff.mp HH.out
 have H8:=Aside0.mk h8
 clear HH h8
 have HH:=Aside0.mk h
 clear h
 have HCL:=Aside0.mk (cr_count_le HK7.out)
 clear HK7
 go_wp2
 go_loopw [9] (fun vi wr => ∃ (x:Int) (q:Nat) (l:List Fld) (v3:Value),vi=.int .i64 x∧Aside0 (x≤64)∧Aside0 (l.length + x.toNat≤64)∧Aside0 (cr_flds.f k bs x.toNat q l=some o8)∧Aside0 (ClsSt B w.heap.size w wr br g (.slice Ap pl.length cp) bs q bm0 bm #[.slice Ap pl.length cp,.int .i64 th,.int .i64 su,v3,.slice none 0 0])∧Aside0 (Kd.R k67 67 wr w.heap.size (fun _ => True) (.slice Ap pl.length cp) pl)∧Aside0 (Kd.R k53 53 wr w.heap.size (fun _ => True) v3 l)) (fun vi _ => (intOf vi).toNat)
 case atStart => exact ⟨cc,p7,[],.slice none 0 0,rfl,HCL,⟨by have:=HCL.out;simp only [List.length_nil];omega⟩,H8,HM,HRp,⟨Kd.R_nil _ _ _ _ _⟩⟩
 case round =>
  obtain ⟨x,q,l,v3,rfl,HX,HLN,HT,HMr,HP5,HQ6⟩:=hrel
  clear HM HRp H8
  by_cases hx:0 < x
  ·have hpx:decide (0 < x)=true:=decide_eq_true hx
   obtain ⟨m,hm⟩:∃ m,x.toNat=m + 1:=⟨x.toNat - 1,by omega⟩
   have hT:=HT.out
   rw [hm] at hT
   simp only [cr_flds.f] at hT
   obtain ⟨ot,ht,hT⟩:=Option.bind_eq_some_iff.mp hT
   have HTN:=Aside0.mk hT
   have HMM:=Aside0.mk hm
   have HXX:=Aside0.mk hx
   clear hT HT hm hx
   go_wp2
   have G0:=Aside0.mk (HMr.out.new (below_drew (Below.refl _ _)))
   have P0:=Aside0.mk (Kd.R_below HP5.out (below_drew (Below.refl _ _)))
   have Q0:=Aside0.mk (Kd.R_below HQ6.out (below_drew (Below.refl _ _)))
   have cg0:=(blk_cell HMr.out.km 3).trans rfl
   clear HMr HP5 HQ6
   unfold cr_fld.f at ht
   obtain ⟨t0,hj,ht⟩:=Option.bind_eq_some_iff.mp ht
   have T0:=Aside0.mk hj
   clear hj
   cases t0 with
   | er n =>
    have ht2:=Option.some.inj ht
    subst ht2
    have h3:=Option.some.inj HTN.out
    subst h3
    have h4:=Option.some.inj HH.out
    subst h4
    clear ht HTN HH
    refine start_ (n:=13) (S:=fun w' => w'.cell? ⟨bm,3,none⟩=some v3) (ds:=[12]) #[false,false,false,false,false,false,false,false,false,false,false,false,false] (by kernel_rfl) rfl rfl (cg0) (fun hHeld => ?_)
    refine pure_ (i:=0) (N:=some 64) (v:=?_) (a':=?_) #[true,false,false,false,false,false,false,false,false,false,false,false,false] rfl rfl (by kernel_rfl) (fun _ _ _ h => h) (Or.inl ⟨by rfl,?_⟩) ?_ ?_
    rotate_left
    ·intro w'
     go_simp
     with_reducible rfl
    rotate_left
    ·simp only [Act.put,List.setIfInBounds_toArray,List.set_cons_zero,List.set_cons_succ,i64_w,i32_w]
     rfl
    refine pure_ (i:=2) (N:=some 66) (v:=?_) (a':=?_) #[true,false,true,false,false,false,false,false,false,false,false,false,false] rfl rfl (by kernel_rfl) (fun _ _ _ h => h) (Or.inl ⟨by rfl,?_⟩) ?_ ?_
    rotate_left
    ·intro w'
     go_simp
     with_reducible rfl
    rotate_left
    ·simp only [Act.put,List.setIfInBounds_toArray,List.set_cons_zero,List.set_cons_succ,i64_w,i32_w]
     rfl
    refine pure_ (i:=4) (N:=some 68) (v:=?_) (a':=?_) #[true,false,true,false,true,false,false,false,false,false,false,false,false] rfl rfl (by kernel_rfl) (fun _ _ _ h => h) (Or.inl ⟨by rfl,?_⟩) ?_ ?_
    rotate_left
    ·intro w'
     go_simp
     with_reducible rfl
    rotate_left
    ·simp only [Act.put,List.setIfInBounds_toArray,List.set_cons_zero,List.set_cons_succ,i64_w,i32_w]
     rfl
    refine pure_ (i:=6) (N:=some 70) (v:=?_) (a':=?_) #[true,false,true,false,true,false,true,false,false,false,false,false,false] rfl rfl (by kernel_rfl) (fun _ _ _ h => h) (Or.inl ⟨by rfl,?_⟩) ?_ ?_
    rotate_left
    ·intro w'
     go_simp
     with_reducible rfl
    rotate_left
    ·simp only [Act.put,List.setIfInBounds_toArray,List.set_cons_zero,List.set_cons_succ,i64_w,i32_w]
     rfl
    refine take_ (i:=1) (N:=some 65) (v:=?_) (a':=?_) #[true,true,true,false,true,false,true,false,false,false,false,false,false] rfl rfl (by kernel_rfl) (fun _ _ _ h => h) (Or.inl ⟨by rfl,?_⟩) hHeld ?_ ?_
    rotate_left
    ·intro w' s0
     go_simp
     with_reducible rfl
    rotate_left
    ·simp only [Act.put,List.setIfInBounds_toArray,List.set_cons_zero,List.set_cons_succ,i64_w,i32_w]
     rfl
    refine one_ (i:=3) (N:=some 67) #[true,true,true,true,true,false,true,false,false,false,false,false,false] rfl rfl (by kernel_rfl) (by decide) (fun K hK => ?_)
    refine dies_ Tryd.func58 (by kernel_rfl) rfl #[.pointer (some ⟨br,0,none⟩)] (by rfl) rfl rfl (by simp only [List.map_toArray,List.map_cons,List.map_nil];rfl) ?_
    refine (cr_two.calls G0.out.I HL.out T0.out).mono ?_
    rintro e wd ⟨rfl,hR⟩
    refine ⟨_,rfl,?_⟩
    exact ⟨rfl,rfl,G0.out.b.trans hR⟩
   | ok y0 q0 =>
   obtain ⟨t1,hj,ht⟩:=Option.bind_eq_some_iff.mp ht
   have T1:=Aside0.mk hj
   clear hj
   cases t1 with
   | er n =>
    have ht2:=Option.some.inj ht
    subst ht2
    have h3:=Option.some.inj HTN.out
    subst h3
    have h4:=Option.some.inj HH.out
    subst h4
    clear ht HTN HH
    refine start_ (n:=13) (S:=fun w' => w'.cell? ⟨bm,3,none⟩=some v3) (ds:=[12]) #[false,false,false,false,false,false,false,false,false,false,false,false,false] (by kernel_rfl) rfl rfl (cg0) (fun hHeld => ?_)
    refine pure_ (i:=0) (N:=some 64) (v:=?_) (a':=?_) #[true,false,false,false,false,false,false,false,false,false,false,false,false] rfl rfl (by kernel_rfl) (fun _ _ _ h => h) (Or.inl ⟨by rfl,?_⟩) ?_ ?_
    rotate_left
    ·intro w'
     go_simp
     with_reducible rfl
    rotate_left
    ·simp only [Act.put,List.setIfInBounds_toArray,List.set_cons_zero,List.set_cons_succ,i64_w,i32_w]
     rfl
    refine pure_ (i:=2) (N:=some 66) (v:=?_) (a':=?_) #[true,false,true,false,false,false,false,false,false,false,false,false,false] rfl rfl (by kernel_rfl) (fun _ _ _ h => h) (Or.inl ⟨by rfl,?_⟩) ?_ ?_
    rotate_left
    ·intro w'
     go_simp
     with_reducible rfl
    rotate_left
    ·simp only [Act.put,List.setIfInBounds_toArray,List.set_cons_zero,List.set_cons_succ,i64_w,i32_w]
     rfl
    refine pure_ (i:=4) (N:=some 68) (v:=?_) (a':=?_) #[true,false,true,false,true,false,false,false,false,false,false,false,false] rfl rfl (by kernel_rfl) (fun _ _ _ h => h) (Or.inl ⟨by rfl,?_⟩) ?_ ?_
    rotate_left
    ·intro w'
     go_simp
     with_reducible rfl
    rotate_left
    ·simp only [Act.put,List.setIfInBounds_toArray,List.set_cons_zero,List.set_cons_succ,i64_w,i32_w]
     rfl
    refine pure_ (i:=6) (N:=some 70) (v:=?_) (a':=?_) #[true,false,true,false,true,false,true,false,false,false,false,false,false] rfl rfl (by kernel_rfl) (fun _ _ _ h => h) (Or.inl ⟨by rfl,?_⟩) ?_ ?_
    rotate_left
    ·intro w'
     go_simp
     with_reducible rfl
    rotate_left
    ·simp only [Act.put,List.setIfInBounds_toArray,List.set_cons_zero,List.set_cons_succ,i64_w,i32_w]
     rfl
    refine take_ (i:=1) (N:=some 65) (v:=?_) (a':=?_) #[true,true,true,false,true,false,true,false,false,false,false,false,false] rfl rfl (by kernel_rfl) (fun _ _ _ h => h) (Or.inl ⟨by rfl,?_⟩) hHeld ?_ ?_
    rotate_left
    ·intro w' s0
     go_simp
     with_reducible rfl
    rotate_left
    ·simp only [Act.put,List.setIfInBounds_toArray,List.set_cons_zero,List.set_cons_succ,i64_w,i32_w]
     rfl
    refine one_ (i:=3) (N:=some 67) #[true,true,true,true,true,false,true,false,false,false,false,false,false] rfl rfl (by kernel_rfl) (by decide) (fun K hK => ?_)
    refine goes_ Tryd.func58 (by kernel_rfl) rfl #[.pointer (some ⟨br,0,none⟩)] (by rfl) rfl rfl (by simp only [List.map_toArray,List.map_cons,List.map_nil];rfl) ?_
    refine (cr_two.calls G0.out.I HL.out T0.out).mono ?_
    rintro e w1' ⟨rfl,hR⟩
    refine ⟨_,rfl,?_⟩
    have G1:=Aside0.mk (G0.out.step hR)
    have P1:=Aside0.mk (hR.2.R P0.out HLT.out)
    have Q1:=Aside0.mk (hR.2.R Q0.out HLT.out)
    have cg1:=(blk_cell G1.out.km 3).trans rfl
    clear hR
    refine hK.out _ _ (cg1) (fun hHeld => ?_)
    clear hK K
    refine norm_ (a':=?_) ?_ ?_
    rotate_left
    ·show Act.put _ (some 67) _=_
     simp only [Act.put,List.setIfInBounds_toArray,List.set_cons_zero,List.set_cons_succ,i64_w,i32_w]
     rfl
    refine one_ (i:=5) (N:=some 69) #[true,true,true,true,true,true,true,false,false,false,false,false,false] rfl rfl (by kernel_rfl) (by decide) (fun K hK => ?_)
    refine dies_ Tryd.func58 (by kernel_rfl) rfl #[.pointer (some ⟨br,0,none⟩)] (by rfl) rfl rfl (by simp only [List.map_toArray,List.map_cons,List.map_nil];rfl) ?_
    refine (cr_two.calls G1.out.I HL.out T1.out).mono ?_
    rintro e wd ⟨rfl,hR⟩
    refine ⟨_,rfl,?_⟩
    exact ⟨rfl,rfl,G1.out.b.trans hR⟩
   | ok y1 q1 =>
   obtain ⟨t2,hj,ht⟩:=Option.bind_eq_some_iff.mp ht
   have T2:=Aside0.mk hj
   clear hj
   cases t2 with
   | er n =>
    have ht2:=Option.some.inj ht
    subst ht2
    have h3:=Option.some.inj HTN.out
    subst h3
    have h4:=Option.some.inj HH.out
    subst h4
    clear ht HTN HH
    refine start_ (n:=13) (S:=fun w' => w'.cell? ⟨bm,3,none⟩=some v3) (ds:=[12]) #[false,false,false,false,false,false,false,false,false,false,false,false,false] (by kernel_rfl) rfl rfl (cg0) (fun hHeld => ?_)
    refine pure_ (i:=0) (N:=some 64) (v:=?_) (a':=?_) #[true,false,false,false,false,false,false,false,false,false,false,false,false] rfl rfl (by kernel_rfl) (fun _ _ _ h => h) (Or.inl ⟨by rfl,?_⟩) ?_ ?_
    rotate_left
    ·intro w'
     go_simp
     with_reducible rfl
    rotate_left
    ·simp only [Act.put,List.setIfInBounds_toArray,List.set_cons_zero,List.set_cons_succ,i64_w,i32_w]
     rfl
    refine pure_ (i:=2) (N:=some 66) (v:=?_) (a':=?_) #[true,false,true,false,false,false,false,false,false,false,false,false,false] rfl rfl (by kernel_rfl) (fun _ _ _ h => h) (Or.inl ⟨by rfl,?_⟩) ?_ ?_
    rotate_left
    ·intro w'
     go_simp
     with_reducible rfl
    rotate_left
    ·simp only [Act.put,List.setIfInBounds_toArray,List.set_cons_zero,List.set_cons_succ,i64_w,i32_w]
     rfl
    refine pure_ (i:=4) (N:=some 68) (v:=?_) (a':=?_) #[true,false,true,false,true,false,false,false,false,false,false,false,false] rfl rfl (by kernel_rfl) (fun _ _ _ h => h) (Or.inl ⟨by rfl,?_⟩) ?_ ?_
    rotate_left
    ·intro w'
     go_simp
     with_reducible rfl
    rotate_left
    ·simp only [Act.put,List.setIfInBounds_toArray,List.set_cons_zero,List.set_cons_succ,i64_w,i32_w]
     rfl
    refine pure_ (i:=6) (N:=some 70) (v:=?_) (a':=?_) #[true,false,true,false,true,false,true,false,false,false,false,false,false] rfl rfl (by kernel_rfl) (fun _ _ _ h => h) (Or.inl ⟨by rfl,?_⟩) ?_ ?_
    rotate_left
    ·intro w'
     go_simp
     with_reducible rfl
    rotate_left
    ·simp only [Act.put,List.setIfInBounds_toArray,List.set_cons_zero,List.set_cons_succ,i64_w,i32_w]
     rfl
    refine take_ (i:=1) (N:=some 65) (v:=?_) (a':=?_) #[true,true,true,false,true,false,true,false,false,false,false,false,false] rfl rfl (by kernel_rfl) (fun _ _ _ h => h) (Or.inl ⟨by rfl,?_⟩) hHeld ?_ ?_
    rotate_left
    ·intro w' s0
     go_simp
     with_reducible rfl
    rotate_left
    ·simp only [Act.put,List.setIfInBounds_toArray,List.set_cons_zero,List.set_cons_succ,i64_w,i32_w]
     rfl
    refine one_ (i:=3) (N:=some 67) #[true,true,true,true,true,false,true,false,false,false,false,false,false] rfl rfl (by kernel_rfl) (by decide) (fun K hK => ?_)
    refine goes_ Tryd.func58 (by kernel_rfl) rfl #[.pointer (some ⟨br,0,none⟩)] (by rfl) rfl rfl (by simp only [List.map_toArray,List.map_cons,List.map_nil];rfl) ?_
    refine (cr_two.calls G0.out.I HL.out T0.out).mono ?_
    rintro e w1' ⟨rfl,hR⟩
    refine ⟨_,rfl,?_⟩
    have G1:=Aside0.mk (G0.out.step hR)
    have P1:=Aside0.mk (hR.2.R P0.out HLT.out)
    have Q1:=Aside0.mk (hR.2.R Q0.out HLT.out)
    have cg1:=(blk_cell G1.out.km 3).trans rfl
    clear hR
    refine hK.out _ _ (cg1) (fun hHeld => ?_)
    clear hK K
    refine norm_ (a':=?_) ?_ ?_
    rotate_left
    ·show Act.put _ (some 67) _=_
     simp only [Act.put,List.setIfInBounds_toArray,List.set_cons_zero,List.set_cons_succ,i64_w,i32_w]
     rfl
    refine one_ (i:=5) (N:=some 69) #[true,true,true,true,true,true,true,false,false,false,false,false,false] rfl rfl (by kernel_rfl) (by decide) (fun K hK => ?_)
    refine goes_ Tryd.func58 (by kernel_rfl) rfl #[.pointer (some ⟨br,0,none⟩)] (by rfl) rfl rfl (by simp only [List.map_toArray,List.map_cons,List.map_nil];rfl) ?_
    refine (cr_two.calls G1.out.I HL.out T1.out).mono ?_
    rintro e w2' ⟨rfl,hR⟩
    refine ⟨_,rfl,?_⟩
    have G2:=Aside0.mk (G1.out.step hR)
    have P2:=Aside0.mk (hR.2.R P1.out HLT.out)
    have Q2:=Aside0.mk (hR.2.R Q1.out HLT.out)
    have cg2:=(blk_cell G2.out.km 3).trans rfl
    clear hR
    refine hK.out _ _ (cg2) (fun hHeld => ?_)
    clear hK K
    refine norm_ (a':=?_) ?_ ?_
    rotate_left
    ·show Act.put _ (some 69) _=_
     simp only [Act.put,List.setIfInBounds_toArray,List.set_cons_zero,List.set_cons_succ,i64_w,i32_w]
     rfl
    refine one_ (i:=7) (N:=some 71) #[true,true,true,true,true,true,true,true,false,false,false,false,false] rfl rfl (by kernel_rfl) (by decide) (fun K hK => ?_)
    refine dies_ Tryd.func58 (by kernel_rfl) rfl #[.pointer (some ⟨br,0,none⟩)] (by rfl) rfl rfl (by simp only [List.map_toArray,List.map_cons,List.map_nil];rfl) ?_
    refine (cr_two.calls G2.out.I HL.out T2.out).mono ?_
    rintro e wd ⟨rfl,hR⟩
    refine ⟨_,rfl,?_⟩
    exact ⟨rfl,rfl,G2.out.b.trans hR⟩
   | ok y2 q2 =>
   have ht2:=Option.some.inj ht
   subst ht2
   have HT2:=Aside0.mk HTN.out
   clear ht HTN
   refine start_ (n:=13) (S:=fun w' => w'.cell? ⟨bm,3,none⟩=some v3) (ds:=[12]) #[false,false,false,false,false,false,false,false,false,false,false,false,false] (by kernel_rfl) rfl rfl (cg0) (fun hHeld => ?_)
   refine pure_ (i:=0) (N:=some 64) (v:=?_) (a':=?_) #[true,false,false,false,false,false,false,false,false,false,false,false,false] rfl rfl (by kernel_rfl) (fun _ _ _ h => h) (Or.inl ⟨by rfl,?_⟩) ?_ ?_
   rotate_left
   ·intro w'
    go_simp
    with_reducible rfl
   rotate_left
   ·simp only [Act.put,List.setIfInBounds_toArray,List.set_cons_zero,List.set_cons_succ,i64_w,i32_w]
    rfl
   refine pure_ (i:=2) (N:=some 66) (v:=?_) (a':=?_) #[true,false,true,false,false,false,false,false,false,false,false,false,false] rfl rfl (by kernel_rfl) (fun _ _ _ h => h) (Or.inl ⟨by rfl,?_⟩) ?_ ?_
   rotate_left
   ·intro w'
    go_simp
    with_reducible rfl
   rotate_left
   ·simp only [Act.put,List.setIfInBounds_toArray,List.set_cons_zero,List.set_cons_succ,i64_w,i32_w]
    rfl
   refine pure_ (i:=4) (N:=some 68) (v:=?_) (a':=?_) #[true,false,true,false,true,false,false,false,false,false,false,false,false] rfl rfl (by kernel_rfl) (fun _ _ _ h => h) (Or.inl ⟨by rfl,?_⟩) ?_ ?_
   rotate_left
   ·intro w'
    go_simp
    with_reducible rfl
   rotate_left
   ·simp only [Act.put,List.setIfInBounds_toArray,List.set_cons_zero,List.set_cons_succ,i64_w,i32_w]
    rfl
   refine pure_ (i:=6) (N:=some 70) (v:=?_) (a':=?_) #[true,false,true,false,true,false,true,false,false,false,false,false,false] rfl rfl (by kernel_rfl) (fun _ _ _ h => h) (Or.inl ⟨by rfl,?_⟩) ?_ ?_
   rotate_left
   ·intro w'
    go_simp
    with_reducible rfl
   rotate_left
   ·simp only [Act.put,List.setIfInBounds_toArray,List.set_cons_zero,List.set_cons_succ,i64_w,i32_w]
    rfl
   refine take_ (i:=1) (N:=some 65) (v:=?_) (a':=?_) #[true,true,true,false,true,false,true,false,false,false,false,false,false] rfl rfl (by kernel_rfl) (fun _ _ _ h => h) (Or.inl ⟨by rfl,?_⟩) hHeld ?_ ?_
   rotate_left
   ·intro w' s0
    go_simp
    with_reducible rfl
   rotate_left
   ·simp only [Act.put,List.setIfInBounds_toArray,List.set_cons_zero,List.set_cons_succ,i64_w,i32_w]
    rfl
   refine one_ (i:=3) (N:=some 67) #[true,true,true,true,true,false,true,false,false,false,false,false,false] rfl rfl (by kernel_rfl) (by decide) (fun K hK => ?_)
   refine goes_ Tryd.func58 (by kernel_rfl) rfl #[.pointer (some ⟨br,0,none⟩)] (by rfl) rfl rfl (by simp only [List.map_toArray,List.map_cons,List.map_nil];rfl) ?_
   refine (cr_two.calls G0.out.I HL.out T0.out).mono ?_
   rintro e w1' ⟨rfl,hR⟩
   refine ⟨_,rfl,?_⟩
   have G1:=Aside0.mk (G0.out.step hR)
   have P1:=Aside0.mk (hR.2.R P0.out HLT.out)
   have Q1:=Aside0.mk (hR.2.R Q0.out HLT.out)
   have cg1:=(blk_cell G1.out.km 3).trans rfl
   clear hR
   refine hK.out _ _ (cg1) (fun hHeld => ?_)
   clear hK K
   refine norm_ (a':=?_) ?_ ?_
   rotate_left
   ·show Act.put _ (some 67) _=_
    simp only [Act.put,List.setIfInBounds_toArray,List.set_cons_zero,List.set_cons_succ,i64_w,i32_w]
    rfl
   refine one_ (i:=5) (N:=some 69) #[true,true,true,true,true,true,true,false,false,false,false,false,false] rfl rfl (by kernel_rfl) (by decide) (fun K hK => ?_)
   refine goes_ Tryd.func58 (by kernel_rfl) rfl #[.pointer (some ⟨br,0,none⟩)] (by rfl) rfl rfl (by simp only [List.map_toArray,List.map_cons,List.map_nil];rfl) ?_
   refine (cr_two.calls G1.out.I HL.out T1.out).mono ?_
   rintro e w2' ⟨rfl,hR⟩
   refine ⟨_,rfl,?_⟩
   have G2:=Aside0.mk (G1.out.step hR)
   have P2:=Aside0.mk (hR.2.R P1.out HLT.out)
   have Q2:=Aside0.mk (hR.2.R Q1.out HLT.out)
   have cg2:=(blk_cell G2.out.km 3).trans rfl
   clear hR
   refine hK.out _ _ (cg2) (fun hHeld => ?_)
   clear hK K
   refine norm_ (a':=?_) ?_ ?_
   rotate_left
   ·show Act.put _ (some 69) _=_
    simp only [Act.put,List.setIfInBounds_toArray,List.set_cons_zero,List.set_cons_succ,i64_w,i32_w]
    rfl
   refine one_ (i:=7) (N:=some 71) #[true,true,true,true,true,true,true,true,false,false,false,false,false] rfl rfl (by kernel_rfl) (by decide) (fun K hK => ?_)
   refine goes_ Tryd.func58 (by kernel_rfl) rfl #[.pointer (some ⟨br,0,none⟩)] (by rfl) rfl rfl (by simp only [List.map_toArray,List.map_cons,List.map_nil];rfl) ?_
   refine (cr_two.calls G2.out.I HL.out T2.out).mono ?_
   rintro e w3' ⟨rfl,hR⟩
   refine ⟨_,rfl,?_⟩
   have G3:=Aside0.mk (G2.out.step hR)
   have P3:=Aside0.mk (hR.2.R P2.out HLT.out)
   have Q3:=Aside0.mk (hR.2.R Q2.out HLT.out)
   have cg3:=(blk_cell G3.out.km 3).trans rfl
   clear hR
   refine hK.out _ _ (cg3) (fun hHeld => ?_)
   clear hK K
   refine norm_ (a':=?_) ?_ ?_
   rotate_left
   ·show Act.put _ (some 71) _=_
    simp only [Act.put,List.setIfInBounds_toArray,List.set_cons_zero,List.set_cons_succ,i64_w,i32_w]
    rfl
   refine pure_ (i:=8) (N:=some 72) (v:=?_) (a':=?_) #[true,true,true,true,true,true,true,true,true,false,false,false,false] rfl rfl (by kernel_rfl) (fun _ _ _ h => h) (Or.inl ⟨by rfl,?_⟩) ?_ ?_
   rotate_left
   ·intro w'
    go_simp
    with_reducible rfl
   rotate_left
   ·simp only [Act.put,List.setIfInBounds_toArray,List.set_cons_zero,List.set_cons_succ,i64_w,i32_w]
    rfl
   refine one_ (i:=9) (N:=some 73) #[true,true,true,true,true,true,true,true,true,true,false,false,false] rfl rfl (by kernel_rfl) (by decide) (fun K hK => ?_)
   refine value_ (w1:=?_) (v:=?_) (by rfl) rfl ?_ ?_
   rotate_left 2
   ·go_simp
    constructor
    ·rfl
    ·rfl
   refine hK.out _ _ ((by exact pw_cell_below ((Below.refl _ _).alloc (Nat.le_refl _) _) hHeld)) (fun hHeld => ?_)
   clear hK K
   refine norm_ (a':=?_) ?_ ?_
   rotate_left
   ·show Act.put _ (some 73) _=_
    simp only [Act.put,List.setIfInBounds_toArray,List.set_cons_zero,List.set_cons_succ,i64_w,i32_w]
    rfl
   refine one_ (i:=10) (N:=some 74) #[true,true,true,true,true,true,true,true,true,true,true,false,false] rfl rfl (by kernel_rfl) (by decide) (fun K hK => ?_)
   refine Kd.R_append_step k53 (w0:=w3') w.heap.size (by rfl) (.tmp 65) (.tmp 73) 23 53 (.agg #[.int .i64 0,.int .i64 0,.int .i64 0]) 24 (by rfl) Tryd.underlying23 info53 rfl (by decide) (by decide) v3 l ⟨y0,y1,y2⟩ [.int .i64 y0,.int .i64 y1,.int .i64 y2] (fun _ => True) (fun _ => False) (by rfl) (by rfl) (k53_mkM _ _ _ ⟨y0,y1,y2⟩) (fun _ hk => hk.elim) (fun _ _ => trivial) Q3.out (Below.refl _ _) G3.out.hN (by have:=HLN.out;omega) ?_
   intro v1 w5' hR6 hB5 hg5 ho5
   obtain ⟨A3,c3,hv1⟩:=Kd.R_slice hR6
   simp only [List.length_append,List.length_singleton] at hv1
   subst hv1
   have G5:=Aside0.mk (G3.out.grown Q3.out (by decide) hB5 hg5)
   have P5:=Aside0.mk (Kd.R_drop (Kd.R_grown (Kd.R_apartR P3.out Q3.out (by decide)) hg5 (fun _ hk => hk.2)))
   have Q5:=Aside0.mk hR6
   have cg5:=(blk_cell G5.out.km 3).trans rfl
   have fg5:=blk_frozen G5.out.km 3
   clear hR6 hB5 hg5 ho5
   refine hK.out _ _ (cg5) (fun hHeld => ?_)
   clear hK K
   refine norm_ (a':=?_) ?_ ?_
   rotate_left
   ·show Act.put _ (some 74) _=_
    simp only [Act.put,List.setIfInBounds_toArray,List.set_cons_zero,List.set_cons_succ,i64_w,i32_w]
    rfl
   refine pure_ (i:=11) (N:=some 75) (v:=?_) (a':=?_) #[true,true,true,true,true,true,true,true,true,true,true,true,false] rfl rfl (by kernel_rfl) (fun _ _ _ h => h) (Or.inl ⟨by rfl,?_⟩) ?_ ?_
   rotate_left
   ·intro w'
    go_simp
    with_reducible rfl
   rotate_left
   ·simp only [Act.put,List.setIfInBounds_toArray,List.set_cons_zero,List.set_cons_succ,i64_w,i32_w]
    rfl
   refine last_ (i:=12) (N:=none) #[true,true,true,true,true,true,true,true,true,true,true,true,true] rfl rfl (by kernel_rfl) (by decide) (fun K hK => ?_)
   refine skip_ (w1:=?_) (by rfl) rfl ?_ ?_
   rotate_left
   ·go_simp
    rfl
   refine hK.out _ _ ?_
   clear hK K
   refine done_ (by kernel_rfl) ?_
   have HMe:=Aside0.mk (G5.out.set HN.out 3 (.slice A3 (l.length + 1) c3))
   have HPe:=Aside0.mk (Kd.R_set P5.out G5.out.km (by decide) 3 (.slice A3 (l.length + 1) c3))
   have HQe:=Aside0.mk (Kd.R_set Q5.out G5.out.km (by decide) 3 (.slice A3 (l.length + 1) c3))
   clear hHeld G0 G1 G2 G3 G5 P0 P1 P2 P3 P5 Q0 Q1 Q2 Q3 Q5 cg0 cg1 cg2 cg3 cg5 fg5 T0 T1 T2
   have hwi:wrap64 (x - 1)=x - 1:=by have:=HX.out;have:=HXX.out;unfold wrap64;omega
   go_wp2_with fail
   obtain ⟨os,hs,h⟩:=Option.bind_eq_some_iff.mp HT2.out
   have HC:=Aside0.mk (cr_same.calls (n:=2) HMe.out.I (by decide) (by decide) HL.out hs)
   have HT3:=Aside0.mk h
   clear hs h HT2
   refine HC.out.mono ?_
   clear HC
   cases os with
   | er en =>
    have h3:=Option.some.inj HT3.out
    subst h3
    have h4:=Option.some.inj HH.out
    subst h4
    rintro e wd ⟨rfl,hR⟩
    have HR:=Aside0.mk (HMe.out.b.trans hR)
    clear hR HT3 HH
    go_wp2
    exact ⟨rfl,rfl,HR.out⟩
   | ok _ q4 =>
   rintro e w9 ⟨rfl,hR⟩
   have HMf:=Aside0.mk (HMe.out.step hR)
   have HPf:=Aside0.mk (hR.2.R HPe.out HLT.out)
   have HQf:=Aside0.mk (hR.2.R HQe.out HLT.out)
   clear hR HMe HPe HQe
   go_wp2
   go_roundw
   case measure =>
    have:=HXX.out
    show (wrap64 (x - 1)).toNat < x.toNat
    rw [hwi]
    omega
   case rel =>
    rw [hwi]
    refine ⟨x - 1,q4,l++[⟨y0,y1,y2⟩],_,rfl,⟨by have:=HX.out;omega⟩,⟨by have:=HLN.out;have:=HXX.out;simp only [List.length_append,List.length_singleton];omega⟩,⟨?_⟩,HMf,HPf,HQf⟩
    have h1:=HMM.out
    rw [show (x - 1).toNat=m from by omega]
    exact HT3.out
  ·have hpx:decide (0 < x)=false:=decide_eq_false hx
   have hT:=HT.out
   rw [show x.toNat=0 from by omega] at hT
   simp only [cr_flds.f] at hT
   obtain rfl:=Option.some.inj hT
   obtain ⟨A3,c3,hv3⟩:=Kd.R_slice HQ6.out
   subst hv3
   have HM:=HMr
   have HRp:=HP5
   have HR3:=HQ6
   clear hT HT hx HMr HP5 HQ6 HX HLN
   obtain ⟨o9,h9,h⟩:=Option.bind_eq_some_iff.mp HH.out
   have H9:=Aside0.mk h9
   clear HH h9
   have HH:=Aside0.mk h
   clear h
   go_wp2_with fail
   have HK9:=Aside0.mk H9.out
   have HC9:=Aside0.mk (cr_count.calls (n:=2) HM.out.I (by decide) (by decide) HL.out H9.out)
   clear H9
   refine HC9.out.mono ?_
   clear HC9
   cases o9 with
   | er en =>
    have h:=Option.some.inj HH.out
    subst h
    rintro e wd ⟨rfl,hR⟩
    have HR:=Aside0.mk (HM.out.b.trans hR)
    clear hR HH 
    go_wp2
    exact ⟨rfl,rfl,HR.out⟩
   | ok dd p9 =>
   rintro e W12 ⟨rfl,hR⟩
   have HR3n:=Aside0.mk (hR.2.R HR3.out HLT.out)
   clear HR3
   have HR3:=HR3n
   clear HR3n
   have HRn:=Aside0.mk (hR.2.R HRp.out HLT.out)
   have HMn:=Aside0.mk (HM.out.step hR)
   clear hR HM HRp
   have HM:=HMn
   have HRp:=HRn
   clear HMn HRn
   obtain ⟨o10,h10,h⟩:=Option.bind_eq_some_iff.mp HH.out
   have H10:=Aside0.mk h10
   clear HH h10
   have HH:=Aside0.mk h
   clear h
   have HDL:=Aside0.mk (cr_count_le HK9.out)
   clear HK9
   go_wp2
   go_loopw [10] (fun vi wr => ∃ (x:Int) (q:Nat) (ms:List Mth) (v4:Value),vi=.int .i64 x∧Aside0 (x≤64)∧Aside0 (ms.length + x.toNat≤64)∧Aside0 (cr_mths.f k pl bs x.toNat q ms=some o10)∧Aside0 (ClsSt B w.heap.size w wr br g (.slice Ap pl.length cp) bs q bm0 bm #[.slice Ap pl.length cp,.int .i64 th,.int .i64 su,.slice A3 l.length c3,v4])∧Aside0 (Kd.R k67 67 wr w.heap.size (fun _ => True) (.slice Ap pl.length cp) pl)∧Aside0 (Kd.R k53 53 wr w.heap.size (fun _ => True) (.slice A3 l.length c3) l)∧Aside0 (Kd.R k56 56 wr w.heap.size (fun _ => True) v4 ms)) (fun vi _ => (intOf vi).toNat)
   case atStart => exact ⟨dd,p9,[],.slice none 0 0,rfl,HDL,⟨by have:=HDL.out;simp only [List.length_nil];omega⟩,H10,HM,HRp,HR3,⟨Kd.R_nil _ _ _ _ _⟩⟩
   case round =>
    obtain ⟨x,q,ms,v4,rfl,HX,HLN,HT,HMr,HP5,HF5,HQ6⟩:=hrel
    clear HM HRp HR3 H10
    by_cases hx:0 < x
    ·have hpx:decide (0 < x)=true:=decide_eq_true hx
     obtain ⟨m,hm⟩:∃ m,x.toNat=m + 1:=⟨x.toNat - 1,by omega⟩
     have hT:=HT.out
     rw [hm] at hT
     simp only [cr_mths.f] at hT
     obtain ⟨t0,ht,hT⟩:=Option.bind_eq_some_iff.mp hT
     have T0:=Aside0.mk ht
     have HTN:=Aside0.mk hT
     have HMM:=Aside0.mk hm
     have HXX:=Aside0.mk hx
     clear hT HT hm hx ht
     go_wp2
     have G0:=Aside0.mk (HMr.out.new (below_drew (Below.refl _ _)))
     have P0:=Aside0.mk (Kd.R_below HP5.out (below_drew (Below.refl _ _)))
     have F0:=Aside0.mk (Kd.R_below HF5.out (below_drew (Below.refl _ _)))
     have Q0:=Aside0.mk (Kd.R_below HQ6.out (below_drew (Below.refl _ _)))
     have cg0:=(blk_cell HMr.out.km 4).trans rfl
     clear HMr HP5 HF5 HQ6
     cases t0 with
     | er n =>
      have h3:=Option.some.inj HTN.out
      subst h3
      have h4:=Option.some.inj HH.out
      subst h4
      clear HTN HH
      refine start_ (n:=8) (S:=fun w' => w'.cell? ⟨bm,4,none⟩=some v4) (ds:=[7]) #[false,false,false,false,false,false,false,false] (by kernel_rfl) rfl rfl (cg0) (fun hHeld => ?_)
      refine pure_ (i:=0) (N:=some 84) (v:=?_) (a':=?_) #[true,false,false,false,false,false,false,false] rfl rfl (by kernel_rfl) (fun _ _ _ h => h) (Or.inl ⟨by rfl,?_⟩) ?_ ?_
      rotate_left
      ·intro w'
       go_simp
       with_reducible rfl
      rotate_left
      ·simp only [Act.put,List.setIfInBounds_toArray,List.set_cons_zero,List.set_cons_succ,i64_w,i32_w]
       rfl
      refine pure_ (i:=2) (N:=some 86) (v:=?_) (a':=?_) #[true,false,true,false,false,false,false,false] rfl rfl (by kernel_rfl) (fun _ _ _ h => h) (Or.inl ⟨by rfl,?_⟩) ?_ ?_
      rotate_left
      ·intro w'
       go_simp
       with_reducible rfl
      rotate_left
      ·simp only [Act.put,List.setIfInBounds_toArray,List.set_cons_zero,List.set_cons_succ,i64_w,i32_w]
       rfl
      refine take_ (i:=1) (N:=some 85) (v:=?_) (a':=?_) #[true,true,true,false,false,false,false,false] rfl rfl (by kernel_rfl) (fun _ _ _ h => h) (Or.inl ⟨by rfl,?_⟩) hHeld ?_ ?_
      rotate_left
      ·intro w' s0
       go_simp
       with_reducible rfl
      rotate_left
      ·simp only [Act.put,List.setIfInBounds_toArray,List.set_cons_zero,List.set_cons_succ,i64_w,i32_w]
       rfl
      refine one_ (i:=3) (N:=some 87) #[true,true,true,true,false,false,false,false] rfl rfl (by kernel_rfl) (by decide) (fun K hK => ?_)
      refine dies_ Tryd.func60 (by kernel_rfl) rfl #[.pointer (some ⟨br,0,none⟩)] (by rfl) rfl rfl (by simp only [List.map_toArray,List.map_cons,List.map_nil];rfl) ?_
      refine (cr_method.calls G0.out.I HL.out (rd_keepC P0.out HLT.out) HPL.out T0.out).mono ?_
      rintro e wd ⟨rfl,hR⟩
      refine ⟨_,rfl,?_⟩
      exact ⟨rfl,rfl,G0.out.b.trans hR⟩
     | ok y0 q0 =>
     have HT2:=Aside0.mk HTN.out
     clear HTN
     refine start_ (n:=8) (S:=fun w' => w'.cell? ⟨bm,4,none⟩=some v4) (ds:=[7]) #[false,false,false,false,false,false,false,false] (by kernel_rfl) rfl rfl (cg0) (fun hHeld => ?_)
     refine pure_ (i:=0) (N:=some 84) (v:=?_) (a':=?_) #[true,false,false,false,false,false,false,false] rfl rfl (by kernel_rfl) (fun _ _ _ h => h) (Or.inl ⟨by rfl,?_⟩) ?_ ?_
     rotate_left
     ·intro w'
      go_simp
      with_reducible rfl
     rotate_left
     ·simp only [Act.put,List.setIfInBounds_toArray,List.set_cons_zero,List.set_cons_succ,i64_w,i32_w]
      rfl
     refine pure_ (i:=2) (N:=some 86) (v:=?_) (a':=?_) #[true,false,true,false,false,false,false,false] rfl rfl (by kernel_rfl) (fun _ _ _ h => h) (Or.inl ⟨by rfl,?_⟩) ?_ ?_
     rotate_left
     ·intro w'
      go_simp
      with_reducible rfl
     rotate_left
     ·simp only [Act.put,List.setIfInBounds_toArray,List.set_cons_zero,List.set_cons_succ,i64_w,i32_w]
      rfl
     refine take_ (i:=1) (N:=some 85) (v:=?_) (a':=?_) #[true,true,true,false,false,false,false,false] rfl rfl (by kernel_rfl) (fun _ _ _ h => h) (Or.inl ⟨by rfl,?_⟩) hHeld ?_ ?_
     rotate_left
     ·intro w' s0
      go_simp
      with_reducible rfl
     rotate_left
     ·simp only [Act.put,List.setIfInBounds_toArray,List.set_cons_zero,List.set_cons_succ,i64_w,i32_w]
      rfl
     refine one_ (i:=3) (N:=some 87) #[true,true,true,true,false,false,false,false] rfl rfl (by kernel_rfl) (by decide) (fun K hK => ?_)
     refine goes_ Tryd.func60 (by kernel_rfl) rfl #[.pointer (some ⟨br,0,none⟩)] (by rfl) rfl rfl (by simp only [List.map_toArray,List.map_cons,List.map_nil];rfl) ?_
     refine (cr_method.calls G0.out.I HL.out (rd_keepC P0.out HLT.out) HPL.out T0.out).mono ?_
     rintro e w1' ⟨v5,v6,v7,rfl,hR5,hR6,hR7,hR⟩
     refine ⟨_,rfl,?_⟩
     have G1:=Aside0.mk (G0.out.step hR)
     have P1:=Aside0.mk (hR.2.R P0.out HLT.out)
     have F1:=Aside0.mk (hR.2.R F0.out HLT.out)
     have Q1:=Aside0.mk (hR.2.R Q0.out HLT.out)
     have X5:=Aside0.mk (Kd.R_lower hR5 G0.out.hN)
     have X6:=Aside0.mk (Kd.R_lower hR6 G0.out.hN)
     have X7:=Aside0.mk (Kd.R_lower hR7 G0.out.hN)
     have cg1:=(blk_cell G1.out.km 4).trans rfl
     clear hR hR5 hR6 hR7
     refine hK.out _ _ (cg1) (fun hHeld => ?_)
     clear hK K
     refine norm_ (a':=?_) ?_ ?_
     rotate_left
     ·show Act.put _ (some 87) _=_
      simp only [Act.put,List.setIfInBounds_toArray,List.set_cons_zero,List.set_cons_succ,i64_w,i32_w]
      rfl
     refine one_ (i:=4) (N:=some 88) #[true,true,true,true,true,false,false,false] rfl rfl (by kernel_rfl) (by decide) (fun K hK => ?_)
     refine value_ (w1:=?_) (v:=?_) (by rfl) rfl ?_ ?_
     rotate_left 2
     ·go_simp
      constructor
      ·rfl
      ·rfl
     refine hK.out _ _ ((by exact pw_cell_below ((Below.refl _ _).alloc (Nat.le_refl _) _) hHeld)) (fun hHeld => ?_)
     clear hK K
     refine norm_ (a':=?_) ?_ ?_
     rotate_left
     ·show Act.put _ (some 88) _=_
      simp only [Act.put,List.setIfInBounds_toArray,List.set_cons_zero,List.set_cons_succ,i64_w,i32_w]
      rfl
     refine one_ (i:=5) (N:=some 89) #[true,true,true,true,true,true,false,false] rfl rfl (by kernel_rfl) (by decide) (fun K hK => ?_)
     refine Kd.R_append_step k56 (w0:=w1') w.heap.size (by rfl) (.tmp 85) (.tmp 88) 24 56 (.agg #[.int .i64 0,.int .i64 0,.int .i64 0,.int .i64 0,.int .i64 0,.slice none 0 0,.slice none 0 0,.slice none 0 0]) 112 (by rfl) Tryd.underlying24 info56 rfl (by decide) (by decide) v4 ms y0 [.int .i64 y0.f0,.int .i64 y0.f1,.int .i64 y0.f2,.int .i64 y0.f3,.int .i64 y0.f4,v5,v6,v7] (fun _ => True) (fun k_ => True∧some k_ ≠ v4.ownBlock) (by rfl) (by rfl) (k56_mkM _ _ _ y0 (Kd.R_apartR X5.out Q1.out (by decide)) (Kd.R_apartR X6.out Q1.out (by decide)) (Kd.R_apartR X7.out Q1.out (by decide))) (fun _ hk => hk) (fun _ _ => trivial) Q1.out (Below.refl _ _) G1.out.hN (by have:=HLN.out;omega) ?_
     intro v1 w5' hR6 hB5 hg5 ho5
     obtain ⟨A4,c4,hv1⟩:=Kd.R_slice hR6
     simp only [List.length_append,List.length_singleton] at hv1
     subst hv1
     have G5:=Aside0.mk (G1.out.grown Q1.out (by decide) hB5 hg5)
     have P5:=Aside0.mk (Kd.R_drop (Kd.R_grown (Kd.R_apartR P1.out Q1.out (by decide)) hg5 (fun _ hk => hk.2)))
     have F5:=Aside0.mk (Kd.R_drop (Kd.R_grown (Kd.R_apartR F1.out Q1.out (by decide)) hg5 (fun _ hk => hk.2)))
     have Q5:=Aside0.mk hR6
     have cg5:=(blk_cell G5.out.km 4).trans rfl
     have fg5:=blk_frozen G5.out.km 4
     clear hR6 hB5 hg5 ho5
     refine hK.out _ _ (cg5) (fun hHeld => ?_)
     clear hK K
     refine norm_ (a':=?_) ?_ ?_
     rotate_left
     ·show Act.put _ (some 89) _=_
      simp only [Act.put,List.setIfInBounds_toArray,List.set_cons_zero,List.set_cons_succ,i64_w,i32_w]
      rfl
     refine pure_ (i:=6) (N:=some 90) (v:=?_) (a':=?_) #[true,true,true,true,true,true,true,false] rfl rfl (by kernel_rfl) (fun _ _ _ h => h) (Or.inl ⟨by rfl,?_⟩) ?_ ?_
     rotate_left
     ·intro w'
      go_simp
      with_reducible rfl
     rotate_left
     ·simp only [Act.put,List.setIfInBounds_toArray,List.set_cons_zero,List.set_cons_succ,i64_w,i32_w]
      rfl
     refine last_ (i:=7) (N:=none) #[true,true,true,true,true,true,true,true] rfl rfl (by kernel_rfl) (by decide) (fun K hK => ?_)
     refine skip_ (w1:=?_) (by rfl) rfl ?_ ?_
     rotate_left
     ·go_simp
      rfl
     refine hK.out _ _ ?_
     clear hK K
     refine done_ (by kernel_rfl) ?_
     have HMe:=Aside0.mk (G5.out.set HN.out 4 (.slice A4 (ms.length + 1) c4))
     have HPe:=Aside0.mk (Kd.R_set P5.out G5.out.km (by decide) 4 (.slice A4 (ms.length + 1) c4))
     have HFe:=Aside0.mk (Kd.R_set F5.out G5.out.km (by decide) 4 (.slice A4 (ms.length + 1) c4))
     have HQe:=Aside0.mk (Kd.R_set Q5.out G5.out.km (by decide) 4 (.slice A4 (ms.length + 1) c4))
     clear hHeld G0 G1 G5 P0 P1 P5 F0 F1 F5 Q0 Q1 Q5 X5 X6 X7 cg0 cg1 cg5 fg5 T0
     have hwi:wrap64 (x - 1)=x - 1:=by have:=HX.out;have:=HXX.out;unfold wrap64;omega
     go_wp2
     go_roundw
     case measure =>
      have:=HXX.out
      show (wrap64 (x - 1)).toNat < x.toNat
      rw [hwi]
      omega
     case rel =>
      rw [hwi]
      refine ⟨x - 1,q0,ms++[y0],_,rfl,⟨by have:=HX.out;omega⟩,⟨by have:=HLN.out;have:=HXX.out;simp only [List.length_append,List.length_singleton];omega⟩,⟨?_⟩,HMe,HPe,HFe,HQe⟩
      have h1:=HMM.out
      rw [show (x - 1).toNat=m from by omega]
      exact HT2.out
    ·have hpx:decide (0 < x)=false:=decide_eq_false hx
     have hT:=HT.out
     rw [show x.toNat=0 from by omega] at hT
     simp only [cr_mths.f] at hT
     obtain rfl:=Option.some.inj hT
     obtain ⟨A4,c4,hv4⟩:=Kd.R_slice HQ6.out
     subst hv4
     have HM:=HMr
     have HRp:=HP5
     have HR3:=HF5
     have HR4:=HQ6
     clear hT HT hx HMr HP5 HF5 HQ6 HX HLN
     obtain ⟨o11,h11,h⟩:=Option.bind_eq_some_iff.mp HH.out
     have H11:=Aside0.mk h11
     clear HH h11
     have HH:=Aside0.mk h
     clear h
     go_wp2_with fail
     have HC11:=Aside0.mk (cr_same.calls (n:=2) HM.out.I (by decide) (by decide) HL.out H11.out)
     clear H11
     refine HC11.out.mono ?_
     clear HC11
     cases o11 with
     | er en =>
      have h:=Option.some.inj HH.out
      subst h
      rintro e wd ⟨rfl,hR⟩
      have HR:=Aside0.mk (HM.out.b.trans hR)
      clear hR HH 
      go_wp2
      exact ⟨rfl,rfl,HR.out⟩
     | ok _ p11 =>
     rintro e W13 ⟨rfl,hR⟩
     have HR4n:=Aside0.mk (hR.2.R HR4.out HLT.out)
     clear HR4
     have HR4:=HR4n
     clear HR4n
     have HR3n:=Aside0.mk (hR.2.R HR3.out HLT.out)
     clear HR3
     have HR3:=HR3n
     clear HR3n
     have HRn:=Aside0.mk (hR.2.R HRp.out HLT.out)
     have HMn:=Aside0.mk (HM.out.step hR)
     clear hR HM HRp
     have HM:=HMn
     have HRp:=HRn
     clear HMn HRn
     have h:(if p11 < bs.length then some (Rdo.er 50) else (class_Check.f k pl th su l ms).bind fun e => some (if e=0 then Rdo.ok ⟨pl,th,su,l,ms⟩ p11 else .er e))=some o:=HH.out
     clear HH
     have cq:=HM.out.I.c0
     go_wp2_with fail
     refine (rd_Left.calls B g bs p11 _ HM.out.I.R HL.out).mono ?_
     rintro e W14 rfl2
     obtain ⟨rfl,rfl⟩:=rfl2
     have HMn:=Aside0.mk (HM.out.new (below_drew (Below.refl _ _)))
     have HR0n:=Aside0.mk (Kd.R_below HRp.out (below_drew (Below.refl _ _)))
     have HR3n:=Aside0.mk (Kd.R_below HR3.out (below_drew (Below.refl _ _)))
     have HR4n:=Aside0.mk (Kd.R_below HR4.out (below_drew (Below.refl _ _)))
     clear HM HRp HR3 HR4 cq
     have HM:=HMn
     have HRp:=HR0n
     have HR3:=HR3n
     have HR4:=HR4n
     clear HMn HR0n HR3n HR4n
     by_cases hlt:p11 < bs.length
     case pos =>
      rw [if_pos hlt] at h
      have h:=Option.some.inj h
      subst h
      have hb:decide ((0:Int) < (bs.length:Int) - (p11:Int))=true:=decide_eq_true (by omega)
      have hb1:decide ((p11:Int) < (bs.length:Int))=true:=decide_eq_true (by omega)
      have hb2:decide (p11 < bs.length)=true:=decide_eq_true (by omega)
      clear hlt
      go_wp2_with fail
      refine (cr_must_dies _ 50 (by decide) _).mono ?_
      rintro e w3 ⟨rfl,rfl⟩
      go_wp2
      exact ⟨rfl,rfl,HM.out.b⟩
     rw [if_neg hlt] at h
     have hb:decide ((0:Int) < (bs.length:Int) - (p11:Int))=false:=decide_eq_false (by omega)
     have hb1:decide ((p11:Int) < (bs.length:Int))=false:=decide_eq_false (by omega)
     have hb2:decide (p11 < bs.length)=false:=decide_eq_false (by omega)
     obtain ⟨ec,hc,h⟩:=Option.bind_eq_some_iff.mp h
     have h:=Option.some.inj h
     have HCK:=Aside0.mk hc
     clear hlt hc
     have e0:=(blk_cell HM.out.km 0).trans rfl
     have e1:=(blk_cell HM.out.km 1).trans rfl
     have e2:=(blk_cell HM.out.km 2).trans rfl
     have e3:=(blk_cell HM.out.km 3).trans rfl
     have e4:=(blk_cell HM.out.km 4).trans rfl
     go_wp2_with fail
     obtain ⟨_,c0p,hv0,hl0,hC0⟩:=Kd.R_reads HRp.out
     obtain ⟨_,c3p,hv3,hl3,hC3⟩:=Kd.R_reads HR3.out
     obtain ⟨_,c4p,hv4,hl4,hC4⟩:=Kd.R_reads HR4.out
     injection hv0 with hv0 _ hc0
     injection hv3 with hv3 _ hc3
     injection hv4 with hv4 _ hc4
     subst hv0 hv3 hv4 hc0 hc3 hc4
     refine (class_Check.calls k _ _ pl th su _ _ l _ _ ms ec _ ⟨hG.out _ HM.out.b⟩ hC0 hl0 hC3 hl3 hC4 hl4 HCK.out).mono ?_
     rintro e W15 ⟨rfl,hb15⟩
     have HMn:=Aside0.mk (HM.out.new hb15)
     have HR0n:=Aside0.mk (Kd.R_below HRp.out hb15)
     have HR3n:=Aside0.mk (Kd.R_below HR3.out hb15)
     have HR4n:=Aside0.mk (Kd.R_below HR4.out hb15)
     clear HM HRp HR3 HR4 e0 e1 e2 e3 e4 hC0 hl0 hC3 hl3 hC4 hl4 hb15 HCK
     have HM:=HMn
     have HRp:=HR0n
     have HR3:=HR3n
     have HR4:=HR4n
     clear HMn HR0n HR3n HR4n
     by_cases hec:ec=0
     case neg =>
      rw [if_neg hec] at h
      subst h
      have HEC:=Aside0.mk hec
      clear hec
      go_wp2_with fail
      refine (cr_must_dies _ ec HEC.out _).mono ?_
      rintro e w3 ⟨rfl,rfl⟩
      go_wp2
      exact ⟨rfl,rfl,HM.out.b⟩
     rw [if_pos hec] at h
     subst h
     subst hec
     go_wp2_with fail
     refine (cr_must_ok _ _).mono ?_
     rintro e wy ⟨rfl,rfl⟩
     have k0:=HM.out.k0
     have km:=HM.out.km
     have e0:=(blk_cell km 0).trans rfl
     have e1:=(blk_cell km 1).trans rfl
     have e2:=(blk_cell km 2).trans rfl
     have e3:=(blk_cell km 3).trans rfl
     have e4:=(blk_cell km 4).trans rfl
     have g0:=(blk_cell k0 0).trans rfl
     have g1:=(blk_cell k0 1).trans rfl
     have g2:=(blk_cell k0 2).trans rfl
     have g3:=(blk_cell k0 3).trans rfl
     have g4:=(blk_cell k0 4).trans rfl
     have f0:=blk_frozen k0 0
     have f1:=blk_frozen k0 1
     have f2:=blk_frozen k0 2
     have f3:=blk_frozen k0 3
     have f4:=blk_frozen k0 4
     clear km
     go_wp2
     have hF:=cls_sets (w:=w) (by have:=HM.out.h0;have:=HM.out.hB;omega:B≤bm0) [(0,.slice Ap pl.length cp),(1,.int .i64 th),(2,.int .i64 su),(3,.slice A3 l.length c3),(4,.slice A4 ms.length c4)] _ _ k0 HM.out.b HRp.out HR3.out HR4.out
     have HF:=Aside0.mk hF
     have hk:=blk_set (blk_set (blk_set (blk_set (blk_set k0 0 (.slice Ap pl.length cp)) 1 (.int .i64 th)) 2 (.int .i64 su)) 3 (.slice A3 l.length c3)) 4 (.slice A4 ms.length c4)
     have r0:=(blk_cell hk 0).trans rfl
     have r1:=(blk_cell hk 1).trans rfl
     have r2:=(blk_cell hk 2).trans rfl
     have r3:=(blk_cell hk 3).trans rfl
     have r4:=(blk_cell hk 4).trans rfl
     clear hF k0 hk e0 e1 e2 e3 e4 g0 g1 g2 g3 g4 f0 f1 f2 f3 f4
     refine bodyPost_ret (v:=.agg #[.slice Ap pl.length cp,.int .i64 th,.int .i64 su,.slice A3 l.length c3,.slice A4 ms.length c4]) ?_ rfl ?_
     ·simp [results,Tryd.results36,go_sem,r0,r1,r2,r3,r4]
     ·exact ⟨_,_,_,rfl,HF.out.2.1,HF.out.2.2.1,HF.out.2.2.2,HF.out.1⟩
end Go.Proofs.YtbgniepcoaiinaaDoor.Px
namespace Go.Proofs.YtbgniepcoaiinaaDoor.Px
open Go.RowKit Go.Proofs.YtbgniepcoaiinaaDoorW.PrintWords Go.Proofs.YtbgniepcoaiinaaDoorW.PrintLast Go.Proofs.YtbgniepcoaiinaaDoorW.PrintMore
set_option linter.unusedVariables false
set_option linter.unusedSimpArgs false
theorem dec_nil:∀ w:World,(binOp BinOp.eql 20 .nilIface .nilIface).run Tryd.prog w=.ok (.bool true) w:=fun _ => by kernel_rfl
set_option maxHeartbeats 4000000 in
set_option maxRecDepth 100000 in
theorem dec_idle (p q:Addr) (w:World):CallsD Tryd.prog 34 #[.pointer (some p),.pointer (some q)] .returning w fun e u' w' => e=.returned (.tuple #[])∧u'=.returning∧w'=w:=by
 refine callsD_of_wpS Tryd.func34 rfl fun c₀ cs hu => ?_
 apply wpS_seq
 apply wpS_region
 simp [wpOpsS,go_sem,recoverD,hu,Tryd.ntmps34,Exit.thenS]
 refine wpS_of_wp ?_
 have hn:=dec_nil
 go_wp2
 cases c₀
 simp_all [bodyPostS,results,Tryd.results34]
set_option maxHeartbeats 4000000 in
set_option maxRecDepth 100000 in
theorem dec_panicking (b0 b1 B:Nat) (er:Int) (older:List PanicEntry) (w:World) (hn:b0 ≠ b1) (hB0:B≤b0) (hB1:B≤b1) (k0:w.heap[b0]?=some (.cells C0 26 (0,0))) (k1:w.heap[b1]?=some (.cells #[.int .i64 0] 28 (0,0))) :
  CallsD Tryd.prog 34 #[.pointer (some ⟨b0,0,none⟩),.pointer (some ⟨b1,0,none⟩)] (.panicking ({ v:=.iface 28 (.int .i64 er),recovered:=false } :: older)) w fun e u' w' =>
   e=.returned (.tuple #[])∧u'=.panicking ({ v:=.iface 28 (.int .i64 er),recovered:=true } :: older)∧w'.heap[b0]?=some (.cells C0 26 (0,0))∧w'.heap[b1]?=some (.cells #[.int .i64 er] 28 (0,0))∧Below B w w':=by
 refine callsD_of_wpS Tryd.func34 rfl fun c₀ cs hu => ?_
 apply wpS_seq
 apply wpS_region
 simp [wpOpsS,go_sem,recoverD,hu,Tryd.ntmps34,Exit.thenS]
 refine wpS_of_wp ?_
 have hta:∀ w:World,(Instr.typeAssert (.iface 28 (.int .i64 er)) 20 28 true).run Tryd.prog w=.ok (.tuple #[.int .i64 er,.bool true]) w:=fun _ => by kernel_rfl
 have hu26:=Tryd.underlying26
 have hF:=Aside0.mk (show Below B w ((((((w.setCell ⟨b0,0,none⟩ (.slice none 0 0)).setCell ⟨b0,1,none⟩ (.int .i64 0)).setCell ⟨b0,2,none⟩ (.int .i64 0)).setCell ⟨b0,3,none⟩ (.slice none 0 0)).setCell ⟨b0,4,none⟩ (.slice none 0 0)).setCell ⟨b1,0,none⟩ (.int .i64 er)) from
  ((((((Below.refl B w).setCell (p:=⟨b0,0,none⟩) hB0 _).setCell (p:=⟨b0,1,none⟩) hB0 _).setCell (p:=⟨b0,2,none⟩) hB0 _).setCell (p:=⟨b0,3,none⟩) hB0 _).setCell (p:=⟨b0,4,none⟩) hB0 _).setCell (p:=⟨b1,0,none⟩) hB1 _)
 have hk0:=Aside0.mk (blk_far (p:=⟨b1,0,none⟩) (blk_set (blk_set (blk_set (blk_set (blk_set k0 0 (.slice none 0 0)) 1 (.int .i64 0)) 2 (.int .i64 0)) 3 (.slice none 0 0)) 4 (.slice none 0 0)) hn (.int .i64 er))
 have hk1:=Aside0.mk (blk_set (blk_far (p:=⟨b0,4,none⟩) (blk_far (p:=⟨b0,3,none⟩) (blk_far (p:=⟨b0,2,none⟩) (blk_far (p:=⟨b0,1,none⟩) (blk_far (p:=⟨b0,0,none⟩) k1 (Ne.symm hn) (.slice none 0 0)) (Ne.symm hn) (.int .i64 0)) (Ne.symm hn) (.int .i64 0)) (Ne.symm hn) (.slice none 0 0)) (Ne.symm hn) (.slice none 0 0)) 0 (.int .i64 er))
 have HNE:=Aside0.mk hn
 have g0:=(blk_cell k0 0).trans rfl
 have g1:=(blk_cell k0 1).trans rfl
 have g2:=(blk_cell k0 2).trans rfl
 have g3:=(blk_cell k0 3).trans rfl
 have g4:=(blk_cell k0 4).trans rfl
 have f0:=blk_frozen k0 0
 have f1:=blk_frozen k0 1
 have f2:=blk_frozen k0 2
 have f3:=blk_frozen k0 3
 have f4:=blk_frozen k0 4
 have g5:=(blk_cell k1 0).trans rfl
 have f5:=blk_frozen k1 0
 have hn1:¬ b1=b0:=fun h => hn h.symm
 clear k0 k1 hB0 hB1
 go_wp2
 cases c₀
 simp_all [bodyPostS,results,Tryd.results34]
 exact ⟨hk0.out,hk1.out,hF.out⟩
def decR (o:Rdo Cls):Cls × Int:=match o with
 | .ok m _ => (m,0)
 | .er e => (⟨[],0,0,[],[]⟩,e)
def class_Decode.f (k:Nat) (bs:List Int):Option (Cls × Int):=if bs.length≤140737488351232 then (cr_class.f k bs).bind fun o => some (decR o) else none
def DecPost (w:World) (r:Cls × Int) (e:Ending) (w':World):Prop:=∃ v0 v3 v4:Value,e=.returned (.tuple #[.agg #[v0,.int .i64 r.1.f1,.int .i64 r.1.f2,v3,v4],.int .i64 r.2])∧Kd.R k67 67 w' w.heap.size (fun _ => True) v0 r.1.f0∧Kd.R k53 53 w' w.heap.size (fun _ => True) v3 r.1.f3∧Kd.R k56 56 w' w.heap.size (fun _ => True) v4 r.1.f4∧Below w.heap.size w w'
set_option maxHeartbeats 16000000 in
set_option maxRecDepth 100000 in
theorem class_Decode.calls (k:Nat) (A0:Option Addr) (c0:Nat) (bs:List Int) (r:Cls × Int) (w:World) (hG:Aside0 (GG w)) (hC:(Kd.int .u8).C w A0 bs.length bs) (hc:bs.length≤c0) (h:class_Decode.f k bs=some r) :
  Calls Tryd.prog 11 #[.slice A0 bs.length c0] w fun e w' => DecPost w r e w':=by
 have hmf:∀ (fn:Fn) (first cap:Array Value) (w:World),(Instr.makeFunc fn first cap).run Tryd.prog w=.ok (.func fn first cap) w:=fun _ _ _ _ => rfl
 unfold class_Decode.f at h
 have hl:bs.length≤140737488351232:=by
  by_cases hl:bs.length≤140737488351232
  ·exact hl
  ·rw [if_neg hl] at h;cases h
 rw [if_pos hl] at h
 obtain ⟨o,ho,h⟩:=Option.bind_eq_some_iff.mp h
 obtain rfl:=Option.some.inj h
 have HC:=Aside0.mk hC
 have HPC:=Aside0.mk hc
 have HL:Aside0 (bs.length≤140737488355328):=⟨by omega⟩
 have HO:=Aside0.mk ho
 have hu26:=Tryd.underlying26
 clear hC hc hl ho h
 go_enter_defers Tryd.func11,Tryd.ntmps11
 go_wp2_with fail
 obtain ⟨W1,hW1⟩:∃ W1,W1=(w.alloc (.cells C0 26 (0,0))).alloc (.cells #[.int .i64 0] 28 (0,0)):=⟨_,rfl⟩
 obtain ⟨b0,hb0⟩:∃ b0,b0=w.heap.size:=⟨_,rfl⟩
 obtain ⟨b1,hb1⟩:∃ b1,b1=w.heap.size + 1:=⟨_,rfl⟩
 rw [← hW1,← hb1,← hb0]
 have hs1:W1.heap.size=w.heap.size + 1 + 1:=by rw [hW1];simp
 have HB1:=Aside0.mk (show Below w.heap.size w W1 from by rw [hW1];exact below_alloc (below_alloc (Below.refl _ _) _) _)
 have hk0':(w.alloc (.cells C0 26 (0,0))).heap[b0]?=some (.cells C0 26 (0,0)):=by rw [hb0];exact blk_new _ _
 have HK0:=Aside0.mk (show W1.heap[b0]?=some (.cells C0 26 (0,0)) from by rw [hW1];exact ((below_alloc (Below.refl _ _) _).block _ (blk_lt hk0')).trans hk0')
 have HK1:=Aside0.mk (show W1.heap[b1]?=some (.cells #[.int .i64 0] 28 (0,0)) from by
  have e:b1=(w.alloc (.cells C0 26 (0,0))).heap.size:=by rw [hb1];simp
  rw [hW1,e]
  exact blk_new _ _)
 have HNE:Aside0 (b0 ≠ b1):=⟨by omega⟩
 have HN0:Aside0 (w.heap.size≤b0):=⟨by omega⟩
 have HN1:Aside0 (w.heap.size≤b1):=⟨by omega⟩
 have HS1:=Aside0.mk (show b1 < W1.heap.size from by omega)
 clear hk0' hs1 hW1 hb0 hb1
 refine (rd_New.calls A0 c0 bs W1 (Kd.C_below HC.out HB1.out) HL.out).mono ?_
 rintro e W2 ⟨g,rfl,hg,hI,hb⟩
 have HGE:=Aside0.mk hg
 have HI2:=Aside0.mk hI
 have HB2:=Aside0.mk hb
 clear hg hI hb
 go_wp2_with fail
 obtain ⟨W3,hW3⟩:∃ W3,W3=W2.alloc (.cells #[.pointer (some ⟨g,0,none⟩),.slice none 0 0] 79 (0,0)):=⟨_,rfl⟩
 obtain ⟨br,hbr⟩:∃ br,br=W2.heap.size:=⟨_,rfl⟩
 rw [← hW3,← hbr]
 have hb3:Below W2.heap.size W2 W3:=by rw [hW3];exact below_alloc (Below.refl _ _) _
 have HB3:=Aside0.mk (HB2.out.trans (hb3.mono HB2.out.size))
 have HI3:Aside0 (IsCr W1.heap.size W3 br g (.slice none 0 0) bs 0):=⟨⟨HI2.out.below hb3,by rw [hW3,hbr];exact blk_new _ _⟩⟩
 have HBR:Aside0 (W1.heap.size≤br):=⟨by rw [hbr];exact HB2.out.size⟩
 clear hW3 hbr hb3 HI2 HB2
 have HB03:=Aside0.mk (HB1.out.trans (HB3.out.mono HB1.out.size))
 have HGG:Aside0 (∀ w',Below W1.heap.size W3 w'→GG w'):=⟨fun w' hb => GG.below hG.out (HB03.out.trans (hb.mono HB1.out.size))⟩
 refine (cr_class.calls (c0:=c0) HGG HI3.out HBR.out HL.out (fun w' hS => Kd.C_below HC.out (HB03.out.trans (hS.below.mono HB1.out.size))) HPC.out HO.out).mono ?_
 have HB13:=Aside0.mk (HB3.out)
 cases o with
 | er n =>
  rintro e W4 ⟨rfl,hb4⟩
  have HB4:=Aside0.mk (HB3.out.trans hb4)
  clear hb4
  go_wp2
  refine leaves_cons (f:=34) (args:=#[.pointer (some ⟨b0,0,none⟩),.pointer (some ⟨b1,0,none⟩)]) (by simp) (by simp [go_sem]) ?_
  have hlt1:=HS1.out
  have hlt0:b0 < W1.heap.size:=blk_lt HK0.out
  refine (dec_panicking b0 b1 w.heap.size n [] W4 HNE.out HN0.out HN1.out ((HB4.out.block _ hlt0).trans HK0.out) ((HB4.out.block _ hlt1).trans HK1.out)).mono ?_
  rintro e u' W5 ⟨rfl,rfl,k0,k1,hb5⟩
  have r0:=(blk_cell k0 0).trans rfl
  have r1:=(blk_cell k0 1).trans rfl
  have r2:=(blk_cell k0 2).trans rfl
  have r3:=(blk_cell k0 3).trans rfl
  have r4:=(blk_cell k0 4).trans rfl
  have r5:=(blk_cell k1 0).trans rfl
  have HF:=Aside0.mk (HB1.out.trans ((HB4.out.mono HB1.out.size).trans hb5))
  clear k0 k1 hb5
  simp [Leaves,settle,results,Tryd.results11,go_sem,r0,r1,r2,r3,r4,r5]
  exact ⟨_,_,_,rfl,Kd.R_nil _ _ _ _ _,Kd.R_nil _ _ _ _ _,Kd.R_nil _ _ _ _ _,HF.out⟩
 | ok m p =>
  rintro e W4 ⟨v0,v3,v4,rfl,h0,h3,h4,hb4⟩
  obtain ⟨X0,x0,rfl⟩:=Kd.R_slice h0
  obtain ⟨X3,x3,rfl⟩:=Kd.R_slice h3
  obtain ⟨X4,x4,rfl⟩:=Kd.R_slice h4
  have hlt1:=HS1.out
  have hlt0:b0 < W1.heap.size:=blk_lt HK0.out
  have k0:=((HB3.out.trans hb4).block _ hlt0).trans HK0.out
  have k1:=((HB3.out.trans hb4).block _ hlt1).trans HK1.out
  have hs3:w.heap.size≤W3.heap.size:=HB03.out.size
  have hF:=cls_sets (w:=w) HN0.out [(0,(.slice X0 m.f0.length x0)),(1,.int .i64 m.f1),(2,.int .i64 m.f2),(3,(.slice X3 m.f3.length x3)),(4,(.slice X4 m.f4.length x4))] _ _ k0 (HB03.out.trans (hb4.mono HB1.out.size)) (Kd.R_lower h0 hs3) (Kd.R_lower h3 hs3) (Kd.R_lower h4 hs3)
  have hk0:=blk_set (blk_set (blk_set (blk_set (blk_set k0 0 (.slice X0 m.f0.length x0)) 1 (.int .i64 m.f1)) 2 (.int .i64 m.f2)) 3 (.slice X3 m.f3.length x3)) 4 (.slice X4 m.f4.length x4)
  have hk1:=blk_far (p:=⟨b0,4,none⟩) (blk_far (p:=⟨b0,3,none⟩) (blk_far (p:=⟨b0,2,none⟩) (blk_far (p:=⟨b0,1,none⟩) (blk_far (p:=⟨b0,0,none⟩) k1 (Ne.symm HNE.out) (.slice X0 m.f0.length x0)) (Ne.symm HNE.out) (.int .i64 m.f1)) (Ne.symm HNE.out) (.int .i64 m.f2)) (Ne.symm HNE.out) (.slice X3 m.f3.length x3)) (Ne.symm HNE.out) (.slice X4 m.f4.length x4)
  have HF:=Aside0.mk hF
  have HK0':=Aside0.mk (blk_far (p:=⟨b1,0,none⟩) hk0 HNE.out (.int .i64 0))
  have HK1':=Aside0.mk (blk_set hk1 0 (.int .i64 0))
  have HK1'':=Aside0.mk hk1
  have g0:=(blk_cell k0 0).trans rfl
  have g1:=(blk_cell k0 1).trans rfl
  have g2:=(blk_cell k0 2).trans rfl
  have g3:=(blk_cell k0 3).trans rfl
  have g4:=(blk_cell k0 4).trans rfl
  have f0:=blk_frozen k0 0
  have f1:=blk_frozen k0 1
  have f2:=blk_frozen k0 2
  have f3:=blk_frozen k0 3
  have f4:=blk_frozen k0 4
  have g5:=(blk_cell k1 0).trans rfl
  have f5:=blk_frozen k1 0
  have hn1:¬ b1=b0:=fun h => HNE.out h.symm
  clear hlt1 hlt0 k0 k1 hs3 hF hk0 hk1 h0 h3 h4 hb4
  go_wp2
  refine leaves_cons (f:=34) (args:=#[.pointer (some ⟨b0,0,none⟩),.pointer (some ⟨b1,0,none⟩)]) (by simp) (by simp [go_sem]) ?_
  refine (dec_idle ⟨b0,0,none⟩ ⟨b1,0,none⟩ _).mono ?_
  rintro e u' w'' ⟨rfl,rfl,rfl⟩
  have r0:=(blk_cell HK0'.out 0).trans rfl
  have r1:=(blk_cell HK0'.out 1).trans rfl
  have r2:=(blk_cell HK0'.out 2).trans rfl
  have r3:=(blk_cell HK0'.out 3).trans rfl
  have r4:=(blk_cell HK0'.out 4).trans rfl
  have r5:=(blk_cell HK1'.out 0).trans rfl
  clear g0 g1 g2 g3 g4 g5 f0 f1 f2 f3 f4 f5
  simp [Leaves,settle,results,Tryd.results11,go_sem,r0,r1,r2,r3,r4,r5]
  exact ⟨(.slice X0 m.f0.length x0),(.slice X3 m.f3.length x3),(.slice X4 m.f4.length x4),rfl,Kd.R_set HF.out.2.1 HK1''.out (by decide) 0 (.int .i64 0),Kd.R_set HF.out.2.2.1 HK1''.out (by decide) 0 (.int .i64 0),Kd.R_set HF.out.2.2.2 HK1''.out (by decide) 0 (.int .i64 0),HF.out.1.setCell (p:=⟨b1,0,none⟩) HN1.out (.int .i64 0)⟩
end Go.Proofs.YtbgniepcoaiinaaDoor.Px
namespace Go.Proofs.YtbgniepcoaiinaaDoor.Px
open Go.RowKit Go.Proofs.YtbgniepcoaiinaaDoorW.PrintWords Go.Proofs.YtbgniepcoaiinaaDoorW.PrintLast Go.Proofs.YtbgniepcoaiinaaDoorW.PrintMore
attribute [local go_sem] max2_int min2_int max_two min_two max_three min_three max_four min_four
set_option linter.unusedVariables false
set_option linter.unusedSimpArgs false
def class_Name.f (l0_0:List (S67)) (a0_1:Int) (a0_2:Int) (l0_3:List (S53)) (l0_4:List (S56)):Option (ByteArray):=(pool_Class.f l0_0 a0_1).bind fun bt181 => (some bt181.1)
set_option maxHeartbeats 80000000 in
set_option maxRecDepth 100000 in
theorem class_Name.calls (A0_0:Option Addr) (c0_0:Nat) (l0_0:List (S67)) (a0_1:Int) (a0_2:Int) (A0_3:Option Addr) (c0_3:Nat) (l0_3:List (S53)) (A0_4:Option Addr) (c0_4:Nat) (l0_4:List (S56)) (r:ByteArray) (w:World) (hr0_0:Kd.C k67 w A0_0 l0_0.length l0_0) (hc0_0:l0_0.length≤c0_0) (hr0_3:Kd.C k53 w A0_3 l0_3.length l0_3) (hc0_3:l0_3.length≤c0_3) (hr0_4:Kd.C k56 w A0_4 l0_4.length l0_4) (hc0_4:l0_4.length≤c0_4) (h:class_Name.f l0_0 a0_1 a0_2 l0_3 l0_4=some r) :
  Calls Tryd.prog 28 #[.agg #[.slice A0_0 l0_0.length c0_0,.int .i64 a0_1,.int .i64 a0_2,.slice A0_3 l0_3.length c0_3,.slice A0_4 l0_4.length c0_4]] w fun e w' => e=.returned (.string r)∧Below w.heap.size w w':=by
 have hu26:=Tryd.underlying26
 have HR0_0:=Aside0.mk hr0_0
 have HC0_0:=Aside0.mk hc0_0
 clear hr0_0 hc0_0
 have HR0_3:=Aside0.mk hr0_3
 have HC0_3:=Aside0.mk hc0_3
 clear hr0_3 hc0_3
 have HR0_4:=Aside0.mk hr0_4
 have HC0_4:=Aside0.mk hc0_4
 clear hr0_4 hc0_4
 have HB:=Aside0.mk (Below.refl w.heap.size w)
 have H:((pool_Class.f l0_0 a0_1).bind fun bt181 => (some bt181.1))=some r:=h
 clear h
 replace H:=Option.bind_eq_some_iff.mp H
 obtain ⟨⟨t181,t182⟩,A20,H⟩:=H
 replace H:(some t181)=some r:=H
 have A2:=Aside0.mk A20
 clear A20
 obtain rfl:=Option.some.inj H
 go_enter Tryd.func28,Tryd.ntmps28
 go_wp2_with (first|((with_reducible refine gate_dst (N:=1) rfl ?_);refine box_event ?hg (N:=1) ?hd (cs:=#[.slice A0_0 l0_0.length c0_0,.int .i64 a0_1,.int .i64 a0_2,.slice A0_3 l0_3.length c0_3,.slice A0_4 l0_4.length c0_4]) (t:=26) ?hr ?_;(case hd => rfl);(case hg => rfl);(case hr => first|(go_simp;done)|(go_simp;rfl));intro gb180 hg w3 hbox hb;have n0_:=Aside0.mk (below_step (by repeat (first|(with_reducible first|exact HB.out|apply below_alloc|apply pw_below_drewN|apply below_drew1)|exact HB.out)) hb);have n1_:=Aside0.mk (hbox);have n2_:=Aside0.mk ((by rw [hg];exact (below_size (by repeat (first|(with_reducible first|exact HB.out|apply below_alloc|apply pw_below_drewN|apply below_drew1)|exact HB.out))):w.heap.size≤gb180));have n3_:=Aside0.mk ((by rw [hg];exact (below_size (by repeat (first|(with_reducible first|exact HB.out|apply below_alloc|apply pw_below_drewN|apply below_drew1)|exact HB.out))):w.heap.size≤gb180));clear HB;have HB:=n0_;have BK180:=n1_;have GW180:=n2_;have GE180:=n3_;clear n0_ n1_ n2_ n3_;clear hb hbox hg;have hcz4_0:w3.cell? ⟨gb180,0,none⟩=some (.slice A0_0 l0_0.length c0_0):=(blk_cell BK180.out 0).trans rfl;have hcz4_1:w3.cell? ⟨gb180,1,none⟩=some (.int .i64 a0_1):=(blk_cell BK180.out 1).trans rfl;have hcz4_2:w3.cell? ⟨gb180,2,none⟩=some (.int .i64 a0_2):=(blk_cell BK180.out 2).trans rfl;have hcz4_3:w3.cell? ⟨gb180,3,none⟩=some (.slice A0_3 l0_3.length c0_3):=(blk_cell BK180.out 3).trans rfl;have hcz4_4:w3.cell? ⟨gb180,4,none⟩=some (.slice A0_4 l0_4.length c0_4):=(blk_cell BK180.out 4).trans rfl;have hfz4_0:=blk_frozen BK180.out 0;have hfz4_1:=blk_frozen BK180.out 1;have hfz4_2:=blk_frozen BK180.out 2;have hfz4_3:=blk_frozen BK180.out 3;have hfz4_4:=blk_frozen BK180.out 4)|((with_reducible refine gate_callee (f:=49) rfl ?_);refine goesL_ (some 10) rfl rfl Tryd.func49 (by kernel_rfl) rfl #[.slice A0_0 l0_0.length c0_0,.int .i64 a0_1] rfl (by (try simp only [List.map_toArray,List.map_cons,List.map_nil]);first|done|rfl|(simp only [List.length_drop,List.length_take];rfl)) ?_;(with_reducible refine (pool_Class.calls _ _ l0_0 a0_1 t181 t182 _ ?side1 ?side2 A2.out).mono ?_);(case side1 => repeat (first|exact (Kd.C_below HR0_0.out HB.out)|(with_reducible refine Kd.C_alloc ?_ _)|(with_reducible refine Kd.C_drewN ?_ _)|(with_reducible refine Kd.C_drew ?_)));(case side2 => exact HC0_0.out);rintro e w' ⟨rfl,⟨nd,rfl⟩⟩;refine ⟨_,rfl,?_⟩))
 go_ret
 exact ⟨by first|rfl|(simp [errW_none,errW_some] <;> rfl)|(simp [*,errW_none,errW_some] <;> rfl),by repeat (first|(with_reducible first|exact HB.out|apply below_alloc|apply pw_below_drewN|apply below_drew1|refine below_set ?_ GE180.out)|exact HB.out)⟩
end Go.Proofs.YtbgniepcoaiinaaDoor.Px
