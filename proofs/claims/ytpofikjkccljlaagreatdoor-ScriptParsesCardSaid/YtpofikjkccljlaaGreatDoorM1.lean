/- What the bound on bulk gives. -/
/- What the package-level variables hold, as a fact of the world that stays as the world grows: strconv's table of tens, its two errors; internal/bytealg.MaxLen; errors.errorType, the handle of 'error'. -/
/- What the listed tables, sentinels and errors.errorType of a row over script give. -/
/- What a type's reading as data gives of a value: a value of the printed kinds, well formed, no bulkier than the datum. -/
import Derived.Test.YtpofikjkccljlaaGreatDoorRows
import Derived.Test.YtpofikjkccljlaaGreatDoorProg
import Derived.Below
import Derived.Deep.Draws
import Derived.Deep.AppendLies
import Derived.Maps.AppendAt
import Derived.OwnWalk
import Derived.Laws.BytesArg
import Derived.Laws.MakeOwn
import Derived.Laws.OwnMore
import Derived.Deep.OwnRows
import Derived.Tactics
import Derived.Lib.ConvBytes
import Derived.Laws.Slices
import Derived.WalkKit
import Derived.KernelRfl
import Derived.RowKit3
import Derived.Deep.LoopGhost
import Derived.Deep.QuietTactic
import Derived.BigQuiet
import Derived.WideLaws
import Derived.Deep.DeepCutAuto
import Derived.Deep.CutBlock
import Derived.Deep.RegionHeld3
import Derived.Laws.Rows
import Derived.Lib.AppendStr
import Derived.ArgAppend
import Derived.Laws.IdiomCopy
import Derived.OrdersHeld
import Derived.Laws.BitsLemmas
import Derived.RowKit
import Derived.Test.YtpofikjkccljlaaGreatDoorWWords
import Derived.Test.YtpofikjkccljlaaGreatDoorWLast
import Derived.Test.YtpofikjkccljlaaGreatDoorWTab
import Derived.Test.YtpofikjkccljlaaGreatDoorWFour
import Derived.Test.YtpofikjkccljlaaGreatDoorWQPut
import Derived.Test.YtpofikjkccljlaaGreatDoorWApart
import Derived.Test.YtpofikjkccljlaaGreatDoorWArr
import Derived.Test.YtpofikjkccljlaaGreatDoorWZeros
import Derived.Test.YtpofikjkccljlaaGreatDoorWFoot
import Derived.Test.YtpofikjkccljlaaGreatDoorWKept
import Derived.Test.YtpofikjkccljlaaGreatDoorWShare
import Derived.Test.YtpofikjkccljlaaGreatDoorWN
import Derived.Test.YtpofikjkccljlaaGreatDoorWFootNe
import Derived.Test.YtpofikjkccljlaaGreatDoorWAt
import Derived.Test.YtpofikjkccljlaaGreatDoorWEqStruct
import Derived.Test.YtpofikjkccljlaaGreatDoorWRepsOne
import Derived.Test.YtpofikjkccljlaaGreatDoorWInv
import Derived.Test.YtpofikjkccljlaaGreatDoorWInvWords
import Derived.Test.YtpofikjkccljlaaGreatDoorWGuard
import Derived.Test.YtpofikjkccljlaaGreatDoorWNEv
import Derived.Test.YtpofikjkccljlaaGreatDoorWMore
import Derived.Test.YtpofikjkccljlaaGreatDoorShelf
import Derived.Test.YtpofikjkccljlaaGreatDoorWSized
import Derived.ProofKit
import Derived.OpenShut
import Derived.ShutString
import Derived.Stop.LaidErr
import Derived.Lib.LaidTab
import Derived.Lib.LaidIn
import Derived.MakeChecks
import Derived.LaidSub
import Derived.LaidHandle
import Derived.ChangeArms
import Derived.ChangeOld
namespace Go.Proofs.YtpofikjkccljlaaGreatDoor.Px
set_option linter.unusedVariables false
theorem bulk_one {H : Type} (d : DataW H) : 1 ≤ Rows.uptoBulk d := by
  cases d with
  | lit l => cases l <;> simp [Rows.uptoBulk]
  | nil => simp [Rows.uptoBulk]
  | ptr d => simp [Rows.uptoBulk]
  | slice elems spare => simp [Rows.uptoBulk]
  | agg parts => simp [Rows.uptoBulk]
  | iface t d => simp [Rows.uptoBulk]
  | map entries => simp [Rows.uptoBulk]
  | held h => simp [Rows.uptoBulk]
theorem bulk_part_le {H : Type} {d : DataW H} {l : List (DataW H)} (h : d ∈ l) : Rows.uptoBulk d ≤ Rows.uptoBulkAll l := by
  induction l with
  | nil => cases h
  | cons x r ih =>
    simp only [Rows.uptoBulkAll]
    rcases List.mem_cons.1 h with e | e
    · subst e; omega
    · have := ih e; omega
theorem bulk_length {H : Type} (l : List (DataW H)) : l.length ≤ Rows.uptoBulkAll l := by
  induction l with
  | nil => simp [Rows.uptoBulkAll]
  | cons x r ih => have := bulk_one x; simp only [Rows.uptoBulkAll, List.length_cons]; omega
end Go.Proofs.YtpofikjkccljlaaGreatDoor.Px
namespace Go.Proofs.YtpofikjkccljlaaGreatDoor.Px
open Go.RowKit Go.Proofs.YtpofikjkccljlaaGreatDoorW.PrintWords Go.Proofs.YtpofikjkccljlaaGreatDoorW.PrintLast Go.Proofs.YtpofikjkccljlaaGreatDoorW.PrintMore
attribute [local go_sem] max2_int min2_int max_two min_two max_three min_three max_four min_four
set_option linter.unusedVariables false
set_option linter.unusedSimpArgs false
def errW:Option Int→Value
 | none => .nilIface
 | some c => .iface 0 (.int .i64 c)
theorem errW_none:errW none=.nilIface:=rfl
theorem errW_some (c:Int):errW (some c)=.iface 0 (.int .i64 c):=rfl
theorem info2:(Tryz.prog.info? 2).map (fun i => (i.zero,i.size,i.bytes))=some (some (.int .i64 0),1,8):=by kernel_rfl
theorem info5:(Tryz.prog.info? 5).map (fun i => (i.zero,i.size,i.bytes))=some (some (.int .u8 0),1,1):=by kernel_rfl
theorem info9:(Tryz.prog.info? 9).map (fun i => (i.zero,i.size,i.bytes))=some (some (.string ⟨#[]⟩),1,16):=by kernel_rfl
theorem info45:(Tryz.prog.info? 45).map (fun i => (i.zero,i.size,i.bytes))=some (some (.slice none 0 0),1,24):=by kernel_rfl
theorem info50:(Tryz.prog.info? 50).map (fun i => (i.zero,i.size,i.bytes))=some (some (.agg #[(.int .i64 0),(.int .i64 0),(.int .i64 0),(.int .i64 0)]),4,32):=by kernel_rfl
def rd_L5 (xs:List (List Int)) (i:Int):(List Int):=xs.getD i.toNat ([]:List Int)
theorem at_L5 {w:World} {A:Option Addr} {n:Nat} {xs:List (List Int)} (h:Kd.C (Kd.slice 5 (Kd.int .u8)) w A n xs) (i:Int) (h0:0≤i) (h1:i < n):∃ ad A0 c0,A=some ad∧w.cell? (ad.add i.toNat)=some (.slice A0 (rd_L5 xs i).length c0)∧(rd_L5 xs i).length≤c0∧(Kd.int .u8).C w A0 (rd_L5 xs i).length (rd_L5 xs i):=by
 obtain ⟨ad,c,e,_,hK,hc0⟩:=Kd.C_get h ([]:List Int) i h0 h1
 have hc:∀ j u,c[j]?=some u→w.cell? (ad.add (i.toNat * 1 + j))=some u:=hc0
 obtain ⟨A0,c0,rfl,l0,g0⟩:=hK
 exact ⟨ad,A0,c0,e,by have hq:=hc 0 _ rfl;rwa [Nat.mul_one,Nat.add_zero] at hq,l0,g0⟩
structure S50 where
 f0:Int
 f1:Int
 f2:Int
 f3:Int
def z50:S50:=⟨(0:Int),(0:Int),(0:Int),(0:Int)⟩
def k50:Kd S50:=Kd.iso (Kd.pair (Kd.int .i64) (Kd.pair (Kd.int .i64) (Kd.pair (Kd.int .i64) (Kd.int .i64)))) (fun x:S50 => (x.f0,x.f1,x.f2,x.f3))
theorem k50_open {w:World} {x:S50} {cs:List Value} (h:k50.K w x cs):cs=[.int .i64 x.f0,.int .i64 x.f1,.int .i64 x.f2,.int .i64 x.f3]:=by
 obtain ⟨_,_,rfl,rfl,⟨_,_,rfl,rfl,⟨_,_,rfl,rfl,rfl⟩⟩⟩:=h
 exact rfl
theorem k50_mkM (w:World) (base:Nat) (ok:Nat→Prop) (x:S50) :k50.M w base ok x [.int .i64 x.f0,.int .i64 x.f1,.int .i64 x.f2,.int .i64 x.f3]:=⟨[.int .i64 x.f0],[.int .i64 x.f1,.int .i64 x.f2,.int .i64 x.f3],rfl,rfl,⟨[.int .i64 x.f1],[.int .i64 x.f2,.int .i64 x.f3],rfl,rfl,⟨[.int .i64 x.f2],[.int .i64 x.f3],rfl,rfl,rfl⟩⟩⟩
def rd_T50 (xs:List S50) (i:Int):S50:=xs.getD i.toNat z50
theorem at_T50 {w:World} {A:Option Addr} {n:Nat} {xs:List S50} (h:Kd.C k50 w A n xs) (i:Int) (h0:0≤i) (h1:i < n):∃ ad ,A=some ad∧w.cell? (ad.add (i.toNat * 4))=some (.int .i64 (rd_T50 xs i).f0)∧w.cell? ⟨(ad.add (i.toNat * 4)).block,(ad.add (i.toNat * 4)).off + 1,none⟩=some (.int .i64 (rd_T50 xs i).f1)∧w.cell? ⟨(ad.add (i.toNat * 4)).block,(ad.add (i.toNat * 4)).off + 2,none⟩=some (.int .i64 (rd_T50 xs i).f2)∧w.cell? ⟨(ad.add (i.toNat * 4)).block,(ad.add (i.toNat * 4)).off + 3,none⟩=some (.int .i64 (rd_T50 xs i).f3):=by
 obtain ⟨ad,c,e,_,hK,hc0⟩:=Kd.C_get h z50 i h0 h1
 have hc:∀ j u,c[j]?=some u→w.cell? (ad.add (i.toNat * 4 + j))=some u:=hc0
 obtain rfl:=k50_open hK
 exact ⟨ad,e,hc 0 _ rfl,by rw [← add_field _ _ 1 (by omega)];exact hc 1 _ rfl,by rw [← add_field _ _ 2 (by omega)];exact hc 2 _ rfl,by rw [← add_field _ _ 3 (by omega)];exact hc 3 _ rfl⟩
end Go.Proofs.YtpofikjkccljlaaGreatDoor.Px
namespace Go.Proofs.YtpofikjkccljlaaGreatDoor.Px
open Go.RowKit Go.Lib Go.Proofs.YtpofikjkccljlaaGreatDoorW.PrintWords Go.Proofs.YtpofikjkccljlaaGreatDoorW.PrintLast Go.Proofs.YtpofikjkccljlaaGreatDoorW.PrintMore
theorem tab_below {P:Program} {w w':World} {name:String} {k:IntKind} {zs:List Int} (h:Lib.TabIs P w name k zs) (hb:Below w.heap.size w w'):Lib.TabIs P w' name k zs:=by
 unfold Lib.TabIs World.var? at h ⊢
 cases hg:P.globalNamed name with
 | none => rw [hg] at h;cases h
 | some g =>
  rw [hg] at h
  simp only [Option.bind_some] at h ⊢
  cases hh:w.heap[g]? with
  | none => rw [hh] at h;cases h
  | some o => rw [hb.block g (blk_lt hh),hh];rw [hh] at h;exact h
theorem grow_below (w:World) (os:Array Obj):Below w.heap.size w (Go.Sort.grow w os):=by
 refine ⟨rfl,rfl,rfl,?_,?_⟩
 ·show w.heap.size≤(w.heap++os).size
  rw [Array.size_append];omega
 ·intro i hi
  show (w.heap++os)[i]?=w.heap[i]?
  exact Array.getElem?_append_left hi
structure GG (w:World):Prop where mk ::
 tab : Lib.TabIs Tryz.prog w "internal/strconv.uint64pow10" .u64 Lib.pow10Tab
 es:∃ t p,w.cell? ⟨3,0,none⟩=some (.iface t p)
 er:∃ t p,w.cell? ⟨4,0,none⟩=some (.iface t p)
 ml:∃ m,w.cell? ⟨2,0,none⟩=some (.int .i64 m)
 et:w.cell? ⟨0,0,none⟩=some (.iface 87 (.agg #[.pointer (some ⟨9,35,none⟩)]))
theorem GG.below {w w':World} (h:GG w) (hb:Below w.heap.size w w'):GG w':=by
 obtain ⟨t1,p1,h1⟩:=h.es
 obtain ⟨t2,p2,h2⟩:=h.er
 obtain ⟨m,hm⟩:=h.ml
 exact ⟨tab_below h.tab hb,⟨t1,p1,pw_cell_below hb h1⟩,⟨t2,p2,pw_cell_below hb h2⟩,⟨m,pw_cell_below hb hm⟩,pw_cell_below hb h.et⟩
end Go.Proofs.YtpofikjkccljlaaGreatDoor.Px
namespace Go.Proofs.YtpofikjkccljlaaGreatDoor.Px
open Go.RowKit Go.ChangeShapes Go.WideShapes Go.ChangeAt Go.Lib Go.Proofs.YtpofikjkccljlaaGreatDoorW.PrintWords Go.Proofs.YtpofikjkccljlaaGreatDoorW.PrintLast Go.Proofs.YtpofikjkccljlaaGreatDoorW.PrintMore
set_option linter.unusedVariables false
theorem laid_head {P : Program} {w : World} : ∀ {l : List (String × DataW Unit)}, laidMet P l w → ∀ {x : String × DataW Unit}, x ∈ l → ∃ r, laidMet P (x :: r) w := by
  intro l
  induction l with
  | nil => intro _ x hx; cases hx
  | cons y r ih =>
    intro h x hx
    rcases List.mem_cons.1 hx with e | e
    · subst e; exact ⟨r, h⟩
    · exact ih h.tail e
theorem errorRow (u : TypeId) (h : Tryz.prog.typeName? 3 u = some "*errors.errorString") : u = 149 :=
  typeName_ptr_named (nm := "errors.errorString") (by rw [show ("*" ++ "errors.errorString" : String) = "*errors.errorString" from by decide]; kernel_rfl) (by kernel_rfl) (by decide) u (by rw [show ("*" ++ "errors.errorString" : String) = "*errors.errorString" from by decide]; exact h)
theorem laid_et : Tryz.prog.globalNamed "errors.errorType" = some 0 := by kernel_rfl
theorem laid_rt : (Tryz.prog.cutTypes.find? (·.1 == "internal/reflectlite.rtype")).map (·.2) = some 87 := by kernel_rfl
theorem laid_oneRow : ((List.range 180).filter fun t => Tryz.prog.rowNamed t [101, 114, 114, 111, 114]) = [35] := by kernel_rfl
theorem laid_size : Tryz.prog.types.size = 180 := by kernel_rfl
theorem GG.of_laid {l : List (String × DataW Unit)} {W : World} (hH : laidMetH Tryz.prog l W) (g1_ : ("internal/strconv.uint64pow10", Rows.laid_internal_strconv_uint64pow10) ∈ l) (g2_ : ("strconv.ErrSyntax", Rows.laid_strconv_ErrSyntax) ∈ l) (g3_ : ("strconv.ErrRange", Rows.laid_strconv_ErrRange) ∈ l) (g4_ : ("errors.errorType", Rows.laid_errors_errorType) ∈ l) (hS : W.ShapedOpen Tryz.prog) : GG W := by
  obtain ⟨h, hh⟩ := laidMetH_iff.1 hH
  have h1 := List.mem_filter (p := fun x : String × DataW Unit => x.2.handleName?.isNone) |>.2 ⟨g1_, by kernel_rfl⟩
  have h2 := List.mem_filter (p := fun x : String × DataW Unit => x.2.handleName?.isNone) |>.2 ⟨g2_, by kernel_rfl⟩
  have h3 := List.mem_filter (p := fun x : String × DataW Unit => x.2.handleName?.isNone) |>.2 ⟨g3_, by kernel_rfl⟩
  obtain ⟨r1, g1⟩ := laid_head h h1
  obtain ⟨r2, g2⟩ := laid_head h h2
  obtain ⟨r3, g3⟩ := laid_head h h3
  obtain ⟨a2, s2, hv2, -⟩ := laid_sentinel (g := 3) (tp := 149) g2 (by kernel_rfl) (by kernel_rfl) Tryz.underlying35 errorRow Tryz.underlying149 Tryz.underlying151 rfl rfl Tryz.underlying9 (by kernel_rfl) (by kernel_rfl)
  obtain ⟨a3, s3, hv3, -⟩ := laid_sentinel (g := 4) (tp := 149) g3 (by kernel_rfl) (by kernel_rfl) Tryz.underlying35 errorRow Tryz.underlying149 Tryz.underlying151 rfl rfl Tryz.underlying9 (by kernel_rfl) (by kernel_rfl)
  obtain ⟨m, hm⟩ := Tryz.laysM146.s1_3 W hS
  refine ⟨Lib.tabIs_of_head (g := 1) (t := 122) (e := 113) (n := 20) (by kernel_rfl) (by kernel_rfl) (by kernel_rfl) (by kernel_rfl) (by kernel_rfl) (by kernel_rfl) (show laidMet Tryz.prog (("internal/strconv.uint64pow10", Lib.tabData .u64 Lib.pow10Tab) :: r1) W from g1), ?_, ?_, ?_, ?_⟩
  · exact ⟨_, _, (World.var?_cell (g := 3) (by kernel_rfl) hv2 0).trans rfl⟩
  · exact ⟨_, _, (World.var?_cell (g := 4) (by kernel_rfl) hv3 0).trans rfl⟩
  · exact ⟨m, hm⟩
  · obtain ⟨name, u, ty, e1, e2, e3, e4, e5⟩ := hh _ (List.mem_filter.2 ⟨g4_, by kernel_rfl⟩)
    have en : name = [101, 114, 114, 111, 114] := (Option.some.inj e1).symm
    subst en
    obtain rfl := Option.some.inj (laid_rt.symm.trans e2)
    have hm : ty ∈ (List.range 180).filter fun t => Tryz.prog.rowNamed t [101, 114, 114, 111, 114] := List.mem_filter.2 ⟨List.mem_range.2 (by rw [← laid_size]; exact e3), e4⟩
    rw [laid_oneRow] at hm
    obtain rfl := List.mem_singleton.1 hm
    have hh : typeHandle Tryz.prog 35 = .pointer (some ⟨9, 35, none⟩) := by kernel_rfl
    rw [hh] at e5
    simpa using World.var?_cell laid_et e5 0
end Go.Proofs.YtpofikjkccljlaaGreatDoor.Px
namespace Go.Proofs.YtpofikjkccljlaaGreatDoor.Px
open Go.RowKit Go.ChangeShapes Go.WideShapes Go.ChangeAt Go.Proofs.YtpofikjkccljlaaGreatDoorW.PrintWords Go.Proofs.YtpofikjkccljlaaGreatDoorW.PrintLast Go.Proofs.YtpofikjkccljlaaGreatDoorW.PrintMore
set_option linter.unusedVariables false
def Fits {α:Type} {H:Type} (enc:TypeId × Value→H) (P:Program) (W:World) (t:TypeId) (d:Kd α) (Q:Nat→α→Prop):Prop :=
 ∀ (fuel:Nat) (cs:List Value) (x:DataW H) (p:List MemPlace),DataW.trod enc P W 0 (fun _ => true) true fuel t cs=some (x,p)→∃ a:α,d.K W a cs∧Q (Rows.uptoBulk x) a
section
variable {α β:Type} {H:Type} {enc:TypeId × Value→H} {P:Program} {W:World} {t e:TypeId}
def Qint (k:IntKind) (_:Nat) (a:Int):Prop:=(Lit.int k a).wf=true
def Qbool (_:Nat) (_:Bool):Prop:=True
def Qstr (b:Nat) (a:ByteArray):Prop:=a.size < b
theorem Qint.mono (k:IntKind):∀ b b' a,b≤b'→Qint k b a→Qint k b' a:=fun _ _ _ _ h => h
theorem Qbool.mono:∀ b b' a,b≤b'→Qbool b a→Qbool b' a:=fun _ _ _ _ h => h
theorem Qstr.mono:∀ b b' a,b≤b'→Qstr b a→Qstr b' a:=fun _ _ _ h1 h2 => Nat.lt_of_lt_of_le h2 h1
theorem Fits.int {k:IntKind} (ht:P.underlying t=some (.int k)):Fits enc P W t (Kd.int k) (Qint k):=by
 intro fuel cs x p h
 obtain ⟨n,hc,hx,hw⟩:=DataW.trod_int ht h
 exact ⟨n,hc,hw⟩
theorem Fits.bool (ht:P.underlying t=some .bool):Fits enc P W t Kd.bool Qbool:=by
 intro fuel cs x p h
 obtain ⟨b,hc,hx⟩:=DataW.trod_bool ht h
 exact ⟨b,hc,trivial⟩
theorem Fits.string (ht:P.underlying t=some .string):Fits enc P W t Kd.string Qstr:=by
 intro fuel cs x p h
 obtain ⟨s,hc,hx⟩:=DataW.trod_string ht h
 refine ⟨s,hc,?_⟩
 unfold Qstr
 have hx:=(Prod.mk.inj hx.1).1
 subst hx
 simp only [Rows.uptoBulk]
 have e:s.data.toList.length=s.size:=by rw [Array.length_toList];rfl
 omega
theorem fits_add (a:Addr) (x j:Nat):(a.add x).add j=a.add (x + j):=by
 unfold Addr.add
 by_cases h1:x=0 <;> by_cases h2:j=0 <;> simp [h1,h2,Nat.add_assoc]
def QAll (Q:Nat→α→Prop) (b:Nat) (l:List α):Prop:=l.length < b∧∀ x ∈ l,Q b x
theorem QAll.mono {Q:Nat→α→Prop} (hQ:∀ b b' a,b≤b'→Q b a→Q b' a):∀ b b' l,b≤b'→QAll Q b l→QAll Q b' l:=fun b b' l h hq => ⟨Nat.lt_of_lt_of_le hq.1 h,fun x hx => hQ _ _ _ h (hq.2 x hx)⟩
theorem Fits.slice {d:Kd α} {Q:Nat→α→Prop} (hQ:∀ b b' a,b≤b'→Q b a→Q b' a) (ht:P.underlying t=some (.slice e)) (hsz:P.cellsOf e=d.sz) (hd:Fits enc P W e d Q):Fits enc P W t (Kd.slice e d) (QAll Q):=by
 intro fuel cs x p h
 rcases DataW.trod_slice ht h with ⟨hcs,hx⟩|⟨a,len,cap,elems,rest,n,_,hcs,hx,_,hl,hm,hlen,hel,_,_⟩
 ·refine ⟨[],⟨none,0,hcs,Nat.le_refl _,rfl,by simp,fun hh => absurd hh (by simp)⟩,?_,fun y hy => by cases hy⟩
  exact bulk_one x
 ·have hx1:=(Prod.mk.inj hx).1
  have each:∀ i,i < len→∃ y:α,∃ c:List Value,d.K W y c∧c.length=d.sz∧(∀ j u,c[j]?=some u→W.cell? (a.add (i * d.sz + j))=some u)∧Q (Rows.uptoBulk x) y:=by
   intro i hi
   have h1:=hel i hi
   obtain ⟨z,hz⟩:∃ z,elems[i]?=some z:=⟨elems[i]'(by omega),List.getElem?_eq_getElem (by omega)⟩
   rw [hz] at h1
   obtain ⟨c,hc,hk⟩:=Option.bind_eq_some_iff.1 h1
   obtain ⟨_,hcl,hcc⟩:=World.cells?_some hc
   obtain ⟨y,hy,hq⟩:=hd n c z.1 z.2 hk
   refine ⟨y,c,hy,by rw [hcl,hsz],?_,hQ _ _ _ ?_ hq⟩
   ·intro j u hj
    have hjl:j < c.length:=(List.getElem?_eq_some_iff.1 hj).1
    have:=hcc j (by omega)
    rw [hj] at this
    rw [← this,hsz,fits_add]
   ·rw [hx1]
    simp only [Rows.uptoBulk]
    have:z.1 ∈ elems.map (·.1):=List.mem_map_of_mem (List.mem_of_getElem? hz)
    have:=bulk_part_le this
    omega
  have hf:∀ i:Fin len,∃ c:List Value,d.K W (Classical.choose (each i.1 i.2)) c∧c.length=d.sz∧(∀ j u,c[j]?=some u→W.cell? (a.add (i.1 * d.sz + j))=some u)∧Q (Rows.uptoBulk x) (Classical.choose (each i.1 i.2)):=fun i => Classical.choose_spec (each i.1 i.2)
  generalize hF:(fun i:Fin len => Classical.choose (each i.1 i.2))=f at hf
  replace hf:∀ i:Fin len,∃ c:List Value,d.K W (f i) c∧c.length=d.sz∧(∀ j u,c[j]?=some u→W.cell? (a.add (i.1 * d.sz + j))=some u)∧Q (Rows.uptoBulk x) (f i):=fun i => by
   have:=hf i
   rw [← hF]
   exact this
  have hxs:(List.ofFn f).length=len:=by simp
  refine ⟨List.ofFn f,⟨some a,cap,by rw [hxs];exact hcs,by rw [hxs];exact hl,rfl,?_,fun _ => ⟨a,rfl,?_⟩⟩,?_,?_⟩
  ·rw [hxs];unfold maxLen at hm;omega
  ·intro j q hj
   have hjl:j < len:=by
    have:=(List.getElem?_eq_some_iff.1 hj).1
    omega
   have hq:f ⟨j,hjl⟩=q:=by
    rw [List.getElem?_ofFn,dif_pos hjl] at hj
    exact Option.some.inj hj
   obtain ⟨c,h1,h2,h3,_⟩:=hf ⟨j,hjl⟩
   subst hq
   exact ⟨c,h2,h1,h3⟩
  ·rw [hxs,hx1]
   simp only [Rows.uptoBulk]
   have:=bulk_length (elems.map (·.1))
   rw [List.length_map] at this
   omega
  ·intro y hy
   obtain ⟨i,rfl⟩:=(List.mem_ofFn).1 hy
   obtain ⟨_,_,_,_,hq⟩:=hf i
   exact hq
end
end Go.Proofs.YtpofikjkccljlaaGreatDoor.Px
namespace Go.Proofs.YtpofikjkccljlaaGreatDoor.Px
open Go.RowKit Go.Proofs.YtpofikjkccljlaaGreatDoorW.PrintWords Go.Proofs.YtpofikjkccljlaaGreatDoorW.PrintLast Go.Proofs.YtpofikjkccljlaaGreatDoorW.PrintMore
attribute [local go_sem] max2_int min2_int max_two min_two max_three min_three max_four min_four
set_option linter.unusedVariables false
set_option linter.unusedSimpArgs false
theorem eqA50 (d:Nat) (w:World) (x0 y0:Int) (x1 y1:Int) (x2 y2:Int) (x3 y3:Int) :
  (Op.equalIn (d + 2) 50 (.agg #[.int .i64 x0,.int .i64 x1,.int .i64 x2,.int .i64 x3]) (.agg #[.int .i64 y0,.int .i64 y1,.int .i64 y2,.int .i64 y3])).run Tryz.prog w=.ok (x0==y0 && (x1==y1 && (x2==y2 && (x3==y3)))) w:=by
 refine eqA_of Tryz.underlying50 (by kernel_rfl) ?_
 refine eqf_cons (by rfl) (by go_simp;rfl) (by go_simp;rfl) (by go_simp) ?_
 refine eqf_cons (by rfl) (by go_simp;rfl) (by go_simp;rfl) (by go_simp) ?_
 refine eqf_cons (by rfl) (by go_simp;rfl) (by go_simp;rfl) (by go_simp) ?_
 exact eqf_last (by rfl) (by go_simp;rfl) (by go_simp;rfl) (by go_simp)
end Go.Proofs.YtpofikjkccljlaaGreatDoor.Px
namespace Go.Proofs.YtpofikjkccljlaaGreatDoor.Px
open Go.RowKit Go.Proofs.YtpofikjkccljlaaGreatDoorW.PrintWords Go.Proofs.YtpofikjkccljlaaGreatDoorW.PrintLast Go.Proofs.YtpofikjkccljlaaGreatDoorW.PrintMore
attribute [local go_sem] max2_int min2_int max_two min_two max_three min_three max_four min_four
set_option linter.unusedVariables false
set_option linter.unusedSimpArgs false
def understudyref23_words.l0:Nat→ByteArray→List ByteArray→Int→Int→Option (List ByteArray)
 | 0,_,_,_,_ => none
 | k + 1,x0,x3,x4,x5 => if x5≤(x0.size:Int) then (if x5=(x0.size:Int) then (if 0≤x4 then (if x4≤x5 then (if x3.length < 8796093022208 then (understudyref23_words.l0 k x0 (x3++[x0.extract (x4:Int).toNat (x5:Int).toNat]) (wrap64 (x5 + 1)) (wrap64 (x5 + 1))) else (none)) else (none)) else (none)) else (if 0≤x5 then (if x5 < (x0.size:Int) then (if (bt x0 x5)=32 then (if 0≤x4 then (if x4≤x5 then (if x3.length < 8796093022208 then (understudyref23_words.l0 k x0 (x3++[x0.extract (x4:Int).toNat (x5:Int).toNat]) (wrap64 (x5 + 1)) (wrap64 (x5 + 1))) else (none)) else (none)) else (none)) else (understudyref23_words.l0 k x0 x3 x4 (wrap64 (x5 + 1)))) else (none)) else (none))) else (some x3)
def understudyref23_words.f (k:Nat) (a0:ByteArray):Option (List ByteArray):=understudyref23_words.l0 k a0 ([]:List ByteArray) 0 0
theorem understudyref23_words.mono_l:∀ k,(∀ y0 y1 y2 y3,LeO (understudyref23_words.l0 k y0 y1 y2 y3) (understudyref23_words.l0 (k + 1) y0 y1 y2 y3))
 | 0 => fun _ _ _ _ r h => by simp [understudyref23_words.l0] at h
 | k + 1 => by
  have ih0:=understudyref23_words.mono_l k
  ·intro y0 y1 y2 y3
   unfold understudyref23_words.l0
   repeat' first
   | (with_reducible exact ih0 _ _ _ _)
   | (with_reducible exact LeO.refl _)
   | (with_reducible exact LeO.none _)
   | (with_reducible refine LeO.ite ?_ ?_)
   | (with_reducible refine LeO.bind ?_ (fun _ => ?_))
   | exact ih0 _ _ _ _
   | exact LeO.none _
   | refine LeO.ite ?_ ?_
   | refine LeO.bind ?_ (fun _ => ?_)
theorem understudyref23_words.mono:∀ a0 k,LeO (understudyref23_words.f k a0) (understudyref23_words.f (k + 1) a0):=by
 intro a0 k
 have ih0:=understudyref23_words.mono_l k
 unfold understudyref23_words.f
 repeat' first
   | (with_reducible exact ih0 _ _ _ _)
   | (with_reducible exact LeO.refl _)
   | (with_reducible exact LeO.none _)
   | (with_reducible refine LeO.ite ?_ ?_)
   | (with_reducible refine LeO.bind ?_ (fun _ => ?_))
   | exact ih0 _ _ _ _
   | exact LeO.none _
   | refine LeO.ite ?_ ?_
   | refine LeO.bind ?_ (fun _ => ?_)
set_option maxHeartbeats 80000000 in
set_option maxRecDepth 100000 in
theorem understudyref23_words.calls (k:Nat) (a0:ByteArray) (r:List ByteArray) (w:World) (h:understudyref23_words.f k a0=some r) :
  Calls Tryz.prog 21 #[.string a0] w fun e w' => ∃ v0_:Value,e=.returned (v0_)∧Kd.R Kd.string 9 w' w.heap.size (fun _ => True) v0_ r∧Below w.heap.size w w':=by
 have HB:=Aside0.mk (Below.refl w.heap.size w)
 have H:(understudyref23_words.l0 k a0 ([]:List ByteArray) 0 0)=some r:=h
 clear h
 have H':=Aside0.mk H
 clear H
 go_enter Tryz.func21,Tryz.ntmps21
 go_wp2
 go_loopg [3,4,5] k (fun kq v3 v4 v5 w' => ∃ (x3_1:List ByteArray) (x4_1:Int) (x5_1:Int),v4=.int .i64 x4_1∧v5=.int .i64 x5_1∧Aside0 (understudyref23_words.l0 kq a0 x3_1 x4_1 x5_1=some r)∧Aside0 (kq≤k)∧Aside0 (Kd.R Kd.string 9 w' w.heap.size (fun _ => True) v3 x3_1)∧Aside0 (Below w.heap.size w w'))
 case atStart => exact ⟨(([]:List ByteArray)),(0),(0),(by first|rfl|(simp;done)|(simp [*];done)),(by first|rfl|(simp;done)|(simp [*];done)),H',⟨Nat.le_refl _⟩,⟨by first|exact Kd.R_nil _ _ _ _ _|exact Kd.N_nil _ _ _ _ _|exact Kd.V_nil _ _ _ _ _|exact Kd.Q_nil _ _ _ _ _|exact Kd.S_nil _ _ _ _ _⟩,⟨by repeat (first|(with_reducible first|exact HB.out|apply below_alloc|apply pw_below_drewN|apply below_drew1)|exact HB.out)⟩⟩
 case round =>
  clear H'
  obtain ⟨x3_1,x4_1,x5_1,rfl,rfl,HA,HK1,HO_3,HB⟩:=hrel
  cases gk with
  | zero => exact absurd HA.out (by simp [understudyref23_words.l0])
  | succ k1 =>
   have H:=HA.out
   clear HA
   simp only [understudyref23_words.l0] at H
   by_cases c2:x5_1≤(a0.size:Int)
   ·rw [if_pos c2] at H
    have c2b0:decide (x5_1≤(a0.size:Int))=true:=decide_eq_true c2
    clear c2
    by_cases c3:x5_1=(a0.size:Int)
    ·rw [if_pos c3] at H
     have c3b0:(x5_1==(a0.size:Int))=true:=beq_iff_eq.mpr c3
     have c3b1:(x5_1 != (a0.size:Int))=false:=bne_eq_false_iff_eq.mpr c3
     clear c3
     by_cases c4:0≤x4_1
     ·rw [if_pos c4] at H
      have c4b0:=eq_true c4
      have c4b1:decide (0≤x4_1)=true:=decide_eq_true c4
      clear c4
      by_cases c5:x4_1≤x5_1
      ·rw [if_pos c5] at H
       have c5b0:=eq_true c5
       have c5b1:decide (x4_1≤x5_1)=true:=decide_eq_true c5
       clear c5
       have c6b0:=eq_true (of_decide_eq_true (by first|(with_reducible assumption)|assumption):x5_1≤(a0.size:Int))
       by_cases c7:x3_1.length < 8796093022208
       ·rw [if_pos c7] at H
        have LMc7:=Aside0.mk c7
        clear c7
        obtain ⟨y135,hy135⟩:∃ y_:List ByteArray,y_=(x3_1++[a0.extract (x4_1:Int).toNat (x5_1:Int).toNat]):=⟨_,rfl⟩
        replace H:(understudyref23_words.l0 k1 a0 y135 (wrap64 (x5_1 + 1)) (wrap64 (x5_1 + 1)))=some r:=by first|(rw [hy135];with_reducible exact H)|(have H2_:=(Option.bind_some _ _).symm.trans H;rw [hy135];with_reducible exact H2_)|(have H2_:=(Option.bind_some _ _).symm.trans H;with_reducible exact H2_)|with_reducible exact H|(rw [hy135];exact H)|exact H
        have Ny135:=Aside0.mk hy135
        clear hy135
        have H':=Aside0.mk H
        clear H
        go_wp2_with (first|((with_reducible refine gate_builtin (b:=.append) (xs:=#[.tmp 22,.tmp 27]) rfl ?_);at_builtin;refine Kd.R_append Kd.string (w0:=w) w.heap.size rfl (.tmp 22) (.tmp 27) 55 9 (.string ⟨#[]⟩) 16 rfl Tryz.underlying55 info9 rfl (by decide) (by omega) u3 x3_1 (a0.extract (x4_1:Int).toNat (x5_1:Int).toNat) [.string (a0.extract (x4_1:Int).toNat (x5_1:Int).toNat)] (fun _ => True) (fun _ => False) rfl rfl ?aP (fun _ hk => hk.elim) ?aF ?aO ?aB ?aS ?aL ?_;(case aP => exact rfl);(case aB => exact (by repeat (first|(with_reducible first|exact HB.out|apply below_alloc|apply pw_below_drewN|apply below_drew1)|exact HB.out)));(case aF => exact (fun _ _ => trivial));(case aO => exact (by (with_reducible repeat (first|apply Kd.R_alloc|apply Kd.R_drewN|apply Kd.R_drew));exact HO_3.out));(case aS => exact (below_size (by repeat (first|(with_reducible first|exact HB.out|apply below_alloc|apply pw_below_drewN|apply below_drew1)|exact HB.out))));(case aL => have:=LMc7.out;omega);intro v136 w8 ho hb hg hat;rw [← Ny135.out] at ho;have n0_:=Aside0.mk (hb);have n1_:=Aside0.mk (ho);clear HB;clear HO_3;have HB:=n0_;have HO137:=n1_;clear n0_ n1_;clear ho hb hg hat))
        go_roundg k1
        case measure => have:=HK1.out;omega
        case rel => exact ⟨(y135),(wrap64 (x5_1 + 1)),(wrap64 (x5_1 + 1)),(by first|rfl|(simp;done)|(simp [*];done)),(by first|rfl|(simp;done)|(simp [*];done)),H',⟨by have:=HK1.out;omega⟩,⟨by (with_reducible repeat (first|apply Kd.R_alloc|apply Kd.R_drewN|apply Kd.R_drew));exact HO137.out⟩,⟨by repeat (first|(with_reducible first|exact HB.out|apply below_alloc|apply pw_below_drewN|apply below_drew1)|exact HB.out)⟩⟩
       ·rw [if_neg c7] at H
        exact absurd H (by simp)
      ·rw [if_neg c5] at H
       exact absurd H (by simp)
     ·rw [if_neg c4] at H
      exact absurd H (by simp)
    ·rw [if_neg c3] at H
     have c3b0:(x5_1==(a0.size:Int))=false:=beq_eq_false_iff_ne.mpr c3
     have c3b1:(x5_1 != (a0.size:Int))=true:=bne_iff_ne.mpr c3
     by_cases c9:0≤x5_1
     ·rw [if_pos c9] at H
      have c9b0:decide (0≤x5_1)=true:=decide_eq_true c9
      clear c9
      by_cases c10:x5_1 < (a0.size:Int)
      ·rw [if_pos c10] at H
       have c10b0:decide (x5_1 < (a0.size:Int))=true:=decide_eq_true c10
       clear c10
       by_cases c12:(bt a0 x5_1)=32
       ·rw [if_pos c12] at H
        have c12b0:((bt a0 x5_1)==32)=true:=beq_iff_eq.mpr c12
        have c12b1:((bt a0 x5_1) != 32)=false:=bne_eq_false_iff_eq.mpr c12
        clear c12
        by_cases c13:0≤x4_1
        ·rw [if_pos c13] at H
         have c13b0:=eq_true c13
         have c13b1:decide (0≤x4_1)=true:=decide_eq_true c13
         clear c13
         by_cases c14:x4_1≤x5_1
         ·rw [if_pos c14] at H
          have c14b0:=eq_true c14
          have c14b1:decide (x4_1≤x5_1)=true:=decide_eq_true c14
          clear c14
          have c15b0:=eq_true (of_decide_eq_true (by first|(with_reducible assumption)|assumption):x5_1≤(a0.size:Int))
          by_cases c16:x3_1.length < 8796093022208
          ·rw [if_pos c16] at H
           have LMc16:=Aside0.mk c16
           clear c16
           obtain ⟨y138,hy138⟩:∃ y_:List ByteArray,y_=(x3_1++[a0.extract (x4_1:Int).toNat (x5_1:Int).toNat]):=⟨_,rfl⟩
           replace H:(understudyref23_words.l0 k1 a0 y138 (wrap64 (x5_1 + 1)) (wrap64 (x5_1 + 1)))=some r:=by first|(rw [hy138];with_reducible exact H)|(have H2_:=(Option.bind_some _ _).symm.trans H;rw [hy138];with_reducible exact H2_)|(have H2_:=(Option.bind_some _ _).symm.trans H;with_reducible exact H2_)|with_reducible exact H|(rw [hy138];exact H)|exact H
           have Ny138:=Aside0.mk hy138
           clear hy138
           have H':=Aside0.mk H
           clear H
           have p11:0≤(x5_1:Int):=of_decide_eq_true (by first|(with_reducible assumption)|assumption)
           have q11:x5_1 < (a0.size:Int):=of_decide_eq_true (by first|(with_reducible assumption)|assumption)
           have hx11:=bt_at a0 x5_1
           replace p11:=eq_true p11
           replace q11:=eq_true q11
           go_wp2_with (first|((with_reducible refine gate_builtin (b:=.append) (xs:=#[.tmp 22,.tmp 27]) rfl ?_);at_builtin;refine Kd.R_append Kd.string (w0:=w) w.heap.size rfl (.tmp 22) (.tmp 27) 55 9 (.string ⟨#[]⟩) 16 rfl Tryz.underlying55 info9 rfl (by decide) (by omega) u3 x3_1 (a0.extract (x4_1:Int).toNat (x5_1:Int).toNat) [.string (a0.extract (x4_1:Int).toNat (x5_1:Int).toNat)] (fun _ => True) (fun _ => False) rfl rfl ?aP (fun _ hk => hk.elim) ?aF ?aO ?aB ?aS ?aL ?_;(case aP => exact rfl);(case aB => exact (by repeat (first|(with_reducible first|exact HB.out|apply below_alloc|apply pw_below_drewN|apply below_drew1)|exact HB.out)));(case aF => exact (fun _ _ => trivial));(case aO => exact (by (with_reducible repeat (first|apply Kd.R_alloc|apply Kd.R_drewN|apply Kd.R_drew));exact HO_3.out));(case aS => exact (below_size (by repeat (first|(with_reducible first|exact HB.out|apply below_alloc|apply pw_below_drewN|apply below_drew1)|exact HB.out))));(case aL => have:=LMc16.out;omega);intro v139 w17 ho hb hg hat;rw [← Ny138.out] at ho;have n0_:=Aside0.mk (hb);have n1_:=Aside0.mk (ho);clear HB;clear HO_3;have HB:=n0_;have HO140:=n1_;clear n0_ n1_;clear ho hb hg hat))
           go_roundg k1
           case measure => have:=HK1.out;omega
           case rel => exact ⟨(y138),(wrap64 (x5_1 + 1)),(wrap64 (x5_1 + 1)),(by first|rfl|(simp;done)|(simp [*];done)),(by first|rfl|(simp;done)|(simp [*];done)),H',⟨by have:=HK1.out;omega⟩,⟨by (with_reducible repeat (first|apply Kd.R_alloc|apply Kd.R_drewN|apply Kd.R_drew));exact HO140.out⟩,⟨by repeat (first|(with_reducible first|exact HB.out|apply below_alloc|apply pw_below_drewN|apply below_drew1)|exact HB.out)⟩⟩
          ·rw [if_neg c16] at H
           exact absurd H (by simp)
         ·rw [if_neg c14] at H
          exact absurd H (by simp)
        ·rw [if_neg c13] at H
         exact absurd H (by simp)
       ·rw [if_neg c12] at H
        have c12b0:((bt a0 x5_1)==32)=false:=beq_eq_false_iff_ne.mpr c12
        have c12b1:((bt a0 x5_1) != 32)=true:=bne_iff_ne.mpr c12
        have H':=Aside0.mk H
        clear H
        have p11:0≤(x5_1:Int):=of_decide_eq_true (by first|(with_reducible assumption)|assumption)
        have q11:x5_1 < (a0.size:Int):=of_decide_eq_true (by first|(with_reducible assumption)|assumption)
        have hx11:=bt_at a0 x5_1
        replace p11:=eq_true p11
        replace q11:=eq_true q11
        go_wp2
        go_roundg k1
        case measure => have:=HK1.out;omega
        case rel => exact ⟨(x3_1),(x4_1),(wrap64 (x5_1 + 1)),(by first|rfl|(simp;done)|(simp [*];done)),(by first|rfl|(simp;done)|(simp [*];done)),H',⟨by have:=HK1.out;omega⟩,⟨by (with_reducible repeat (first|apply Kd.R_alloc|apply Kd.R_drewN|apply Kd.R_drew));exact HO_3.out⟩,⟨by repeat (first|(with_reducible first|exact HB.out|apply below_alloc|apply pw_below_drewN|apply below_drew1)|exact HB.out)⟩⟩
      ·rw [if_neg c10] at H
       exact absurd H (by simp)
     ·rw [if_neg c9] at H
      exact absurd H (by simp)
   ·rw [if_neg c2] at H
    have c2b0:decide (x5_1≤(a0.size:Int))=false:=decide_eq_false c2
    clear c2
    obtain rfl:=Option.some.inj H
    go_wp2
    go_ret
    exact ⟨_,by first|rfl|(simp [errW_none,errW_some] <;> rfl)|(simp [*,errW_none,errW_some] <;> rfl),by (with_reducible repeat (first|apply Kd.R_alloc|apply Kd.R_drewN|apply Kd.R_drew));exact HO_3.out,by repeat (first|(with_reducible first|exact HB.out|apply below_alloc|apply pw_below_drewN|apply below_drew1)|exact HB.out)⟩
def understudyref23_digit.j0:Nat→Int→Bool→Option (Int)
 | 0,_,_ => none
 | k + 1,x0,x8 => if x8=true then (some ((x0 - 48) % 256)) else (if x0 ≥ 97 then (if x0≤102 then (some (((x0 - 97) % 256) + 10)) else (some (-1))) else (some (-1)))
def understudyref23_digit.f (k:Nat) (a0:Int):Option (Int):=if a0 ≥ 48 then (understudyref23_digit.j0 k a0 (decide (a0≤57))) else (understudyref23_digit.j0 k a0 false)
theorem understudyref23_digit.mono_l:∀ k,(∀ y0 y1,LeO (understudyref23_digit.j0 k y0 y1) (understudyref23_digit.j0 (k + 1) y0 y1))
 | 0 => fun _ _ r h => by simp [understudyref23_digit.j0] at h
 | k + 1 => by
  have ih0:=understudyref23_digit.mono_l k
  ·intro y0 y1
   unfold understudyref23_digit.j0
   repeat' first
   | (with_reducible exact ih0 _ _)
   | (with_reducible exact LeO.refl _)
   | (with_reducible exact LeO.none _)
   | (with_reducible refine LeO.ite ?_ ?_)
   | (with_reducible refine LeO.bind ?_ (fun _ => ?_))
   | exact ih0 _ _
   | exact LeO.none _
   | refine LeO.ite ?_ ?_
   | refine LeO.bind ?_ (fun _ => ?_)
theorem understudyref23_digit.mono:∀ a0 k,LeO (understudyref23_digit.f k a0) (understudyref23_digit.f (k + 1) a0):=by
 intro a0 k
 have ih0:=understudyref23_digit.mono_l k
 unfold understudyref23_digit.f
 repeat' first
   | (with_reducible exact ih0 _ _)
   | (with_reducible exact LeO.refl _)
   | (with_reducible exact LeO.none _)
   | (with_reducible refine LeO.ite ?_ ?_)
   | (with_reducible refine LeO.bind ?_ (fun _ => ?_))
   | exact ih0 _ _
   | exact LeO.none _
   | refine LeO.ite ?_ ?_
   | refine LeO.bind ?_ (fun _ => ?_)
set_option maxHeartbeats 80000000 in
set_option maxRecDepth 100000 in
theorem understudyref23_digit.calls (k:Nat) (a0:Int) (r:Int) (w:World) (h:understudyref23_digit.f k a0=some r) :
  Calls Tryz.prog 36 #[.int .u8 a0] w fun e w' => e=.returned (.int .i64 r)∧Drawn0 w w':=by
 have H:(if a0 ≥ 48 then (understudyref23_digit.j0 k a0 (decide (a0≤57))) else (understudyref23_digit.j0 k a0 false))=some r:=h
 clear h
 have HC2:=Aside0.mk H
 clear H
 go_enter Tryz.func36,Tryz.ntmps36
 go_upto_region 1 with (fail)
 go_cut [8] (fun v8 wc => ∃ (kq:Nat) (x8_1:Bool),v8=.bool x8_1∧Aside0 (understudyref23_digit.j0 kq a0 x8_1=some r)∧Aside0 (kq≤k)∧Drawn0 w wc)
 case first =>
  have H:=HC2.out
  clear HC2
  by_cases c3:a0 ≥ 48
  ·rw [if_pos c3] at H
   have c3b0:decide (48≤a0)=true:=decide_eq_true c3
   clear c3
   (first|rw [c3b0]|(simp only [i64_w,i32_w];rw [c3b0])|skip)
   have H':=Aside0.mk H
   clear H
   go_wp2
   go_meet
   case rel => exact ⟨_,(decide (a0≤57)),(by first|rfl|(simp;done)|(simp [*];done)),H',⟨by first|omega|exact Nat.le_refl _⟩,by repeat (first|exact Drawn0.refl _|apply Drawn0.step)⟩
  ·rw [if_neg c3] at H
   have c3b0:decide (48≤a0)=false:=decide_eq_false c3
   clear c3
   (first|rw [c3b0]|(simp only [i64_w,i32_w];rw [c3b0])|skip)
   have H':=Aside0.mk H
   clear H
   go_wp2
   go_meet
   case rel => exact ⟨_,(false),(by first|rfl|(simp;done)|(simp [*];done)),H',⟨by first|omega|exact Nat.le_refl _⟩,by repeat (first|exact Drawn0.refl _|apply Drawn0.step)⟩
 case rest =>
  clear HC2
  try clear p2;try clear c3;try clear c3b0
  obtain ⟨kq,x8_1,rfl,HA,HJ1,⟨mc1,rfl⟩⟩:=hcut
  cases kq with
  | zero => exact absurd HA.out (by simp [understudyref23_digit.j0])
  | succ kj1 =>
   have H:=HA.out
   clear HA
   simp only [understudyref23_digit.j0] at H
   by_cases c4:x8_1=true
   ·subst c4
    have H1:(some ((a0 - 48) % 256))=some r:=by rw [if_pos rfl] at H;exact H
    clear H
    have H:=H1
    clear H1
    obtain rfl:=Option.some.inj H
    go_wp2
    go_ret
    exact ⟨by first|rfl|(simp;done)|(simp [*];done),by repeat (first|exact Drawn0.refl _|apply Drawn0.step)⟩
   ·replace c4:=Bool.eq_false_iff.mpr c4
    subst c4
    have H1:(if a0 ≥ 97 then (if a0≤102 then (some (((a0 - 97) % 256) + 10)) else (some (-1))) else (some (-1)))=some r:=by rw [if_neg (show ¬ (false=true) by decide)] at H;exact H
    clear H
    have H:=H1
    clear H1
    by_cases c5:a0 ≥ 97
    ·rw [if_pos c5] at H
     have c5b0:decide (97≤a0)=true:=decide_eq_true c5
     clear c5
     by_cases c6:a0≤102
     ·rw [if_pos c6] at H
      have c6b0:decide (a0≤102)=true:=decide_eq_true c6
      clear c6
      obtain rfl:=Option.some.inj H
      go_wp2
      go_ret
      exact ⟨by first|rfl|(simp;done)|(simp [*];done),by repeat (first|exact Drawn0.refl _|apply Drawn0.step)⟩
     ·rw [if_neg c6] at H
      have c6b0:decide (a0≤102)=false:=decide_eq_false c6
      clear c6
      obtain rfl:=Option.some.inj H
      go_wp2
      go_ret
      exact ⟨by first|rfl|(simp;done)|(simp [*];done),by repeat (first|exact Drawn0.refl _|apply Drawn0.step)⟩
    ·rw [if_neg c5] at H
     have c5b0:decide (97≤a0)=false:=decide_eq_false c5
     clear c5
     obtain rfl:=Option.some.inj H
     go_wp2
     go_ret
     exact ⟨by first|rfl|(simp;done)|(simp [*];done),by repeat (first|exact Drawn0.refl _|apply Drawn0.step)⟩
mutual
def understudyref23_bytes.j0:Nat→ByteArray→Bool→Option (List Int × Bool)
 | 0,_,_ => none
 | k + 1,x0,x16 => if x16=true then (some (([]:List Int),false)) else (understudyref23_bytes.l0 k x0 ([]:List Int) 1)
def understudyref23_bytes.l0:Nat→ByteArray→List Int→Int→Option (List Int × Bool)
 | 0,_,_,_ => none
 | k + 1,x0,x4,x5 => if x5 < (x0.size:Int) then (if 0≤x5 then ((understudyref23_digit.f k (bt x0 x5)).bind fun t141 => (if 0≤(wrap64 (x5 + 1)) then (if (wrap64 (x5 + 1)) < (x0.size:Int) then ((understudyref23_digit.f k (bt x0 (wrap64 (x5 + 1)))).bind fun t142 => (if t141 < 0 then (some (([]:List Int),false)) else (if t142 < 0 then (some (([]:List Int),false)) else (if x4.length < 140737488355328 then (understudyref23_bytes.l0 k x0 (x4++[(wrap64 ((wrap64 (16 * t141)) + t142)) % 256]) (wrap64 (x5 + 2))) else (none))))) else (none)) else (none))) else (none)) else (some (x4,true))
end
def understudyref23_bytes.f (k:Nat) (a0:ByteArray):Option (List Int × Bool):=if ((a0.size:Int) % 2)=1 then (if 0 < (a0.size:Int) then (understudyref23_bytes.j0 k a0 ((bt a0 0) != 61)) else (none)) else (understudyref23_bytes.j0 k a0 true)
theorem understudyref23_bytes.mono_l:∀ k,(∀ y0 y1,LeO (understudyref23_bytes.j0 k y0 y1) (understudyref23_bytes.j0 (k + 1) y0 y1))∧(∀ y0 y1 y2,LeO (understudyref23_bytes.l0 k y0 y1 y2) (understudyref23_bytes.l0 (k + 1) y0 y1 y2))
 | 0 => ⟨fun _ _ r h => by simp [understudyref23_bytes.j0] at h,fun _ _ _ r h => by simp [understudyref23_bytes.l0] at h⟩
 | k + 1 => by
  obtain ⟨ih0,ih1⟩:=understudyref23_bytes.mono_l k
  refine ⟨?_,?_⟩
  ·intro y0 y1
   unfold understudyref23_bytes.j0
   repeat' first
   | (with_reducible exact ih0 _ _)
   | (with_reducible exact ih1 _ _ _)
   | (with_reducible exact understudyref23_digit.mono _ _)
   | (with_reducible exact LeO.refl _)
   | (with_reducible exact LeO.none _)
   | (with_reducible refine LeO.ite ?_ ?_)
   | (with_reducible refine LeO.bind ?_ (fun _ => ?_))
   | exact ih0 _ _
   | exact ih1 _ _ _
   | exact understudyref23_digit.mono _ _
   | exact LeO.none _
   | refine LeO.ite ?_ ?_
   | refine LeO.bind ?_ (fun _ => ?_)
  ·intro y0 y1 y2
   unfold understudyref23_bytes.l0
   repeat' first
   | (with_reducible exact ih0 _ _)
   | (with_reducible exact ih1 _ _ _)
   | (with_reducible exact understudyref23_digit.mono _ _)
   | (with_reducible exact LeO.refl _)
   | (with_reducible exact LeO.none _)
   | (with_reducible refine LeO.ite ?_ ?_)
   | (with_reducible refine LeO.bind ?_ (fun _ => ?_))
   | exact ih0 _ _
   | exact ih1 _ _ _
   | exact understudyref23_digit.mono _ _
   | exact LeO.none _
   | refine LeO.ite ?_ ?_
   | refine LeO.bind ?_ (fun _ => ?_)
theorem understudyref23_bytes.mono:∀ a0 k,LeO (understudyref23_bytes.f k a0) (understudyref23_bytes.f (k + 1) a0):=by
 intro a0 k
 obtain ⟨ih0,ih1⟩:=understudyref23_bytes.mono_l k
 unfold understudyref23_bytes.f
 repeat' first
   | (with_reducible exact ih0 _ _)
   | (with_reducible exact ih1 _ _ _)
   | (with_reducible exact understudyref23_digit.mono _ _)
   | (with_reducible exact LeO.refl _)
   | (with_reducible exact LeO.none _)
   | (with_reducible refine LeO.ite ?_ ?_)
   | (with_reducible refine LeO.bind ?_ (fun _ => ?_))
   | exact ih0 _ _
   | exact ih1 _ _ _
   | exact understudyref23_digit.mono _ _
   | exact LeO.none _
   | refine LeO.ite ?_ ?_
   | refine LeO.bind ?_ (fun _ => ?_)
set_option maxHeartbeats 80000000 in
set_option maxRecDepth 100000 in
theorem understudyref23_bytes.calls (k:Nat) (a0:ByteArray) (r1:List Int) (r2:Bool) (w:World) (h:understudyref23_bytes.f k a0=some (r1,r2)) :
  Calls Tryz.prog 22 #[.string a0] w fun e w' => ∃ v0_:Value,e=.returned (.tuple #[v0_,.bool r2])∧Kd.R (Kd.int .u8) 5 w' w.heap.size (fun _ => True) v0_ r1∧Below w.heap.size w w':=by
 have HB:=Aside0.mk (Below.refl w.heap.size w)
 have H:(if ((a0.size:Int) % 2)=1 then (if 0 < (a0.size:Int) then (understudyref23_bytes.j0 k a0 ((bt a0 0) != 61)) else (none)) else (understudyref23_bytes.j0 k a0 true))=some (r1,r2):=h
 clear h
 have HC2:=Aside0.mk H
 clear H
 go_enter Tryz.func22,Tryz.ntmps22
 go_upto_region 1 with (fail)
 go_cut [16] (fun v16 wc => ∃ (kq:Nat) (x16_1:Bool),v16=.bool x16_1∧Aside0 (understudyref23_bytes.j0 kq a0 x16_1=some (r1,r2))∧Aside0 (kq≤k)∧Aside0 (Below w.heap.size w wc))
 case first =>
  have H:=HC2.out
  clear HC2
  by_cases c3:((a0.size:Int) % 2)=1
  ·rw [if_pos c3] at H
   have c3b0:(((a0.size:Int) % 2)==1)=true:=beq_iff_eq.mpr c3
   have c3b1:(((a0.size:Int) % 2) != 1)=false:=bne_eq_false_iff_eq.mpr c3
   clear c3
   (first|rw [c3b0]|(simp only [i64_w,i32_w];rw [c3b0])|skip)
   by_cases c4:0 < (a0.size:Int)
   ·rw [if_pos c4] at H
    have c4b0:decide (0 < (a0.size:Int))=true:=decide_eq_true c4
    have c4b1:decide (0 < a0.size)=true:=decide_eq_true (by omega)
    clear c4
    have H':=Aside0.mk H
    clear H
    have p5:0≤(0:Int):=(by omega)
    have q5:0 < a0.size:=(by have:(0:Int) < (a0.size:Int):=of_decide_eq_true (by first|(with_reducible assumption)|assumption);omega)
    have hx5:∀ h:0 < a0.size,((a0[0]'h).toNat:Int)=bt a0 0:=bt_at a0 0
    clear p5
    have qi5:(0 < (a0.size:Int))=True:=eq_true (of_decide_eq_true (by first|(with_reducible assumption)|assumption))
    replace q5:=eq_true q5
    go_wp2
    go_meet
    case rel => exact ⟨_,(((bt a0 0) != 61)),(by first|rfl|(simp;done)|(simp [*];done)),H',⟨by first|omega|exact Nat.le_refl _⟩,⟨by repeat (first|(with_reducible first|exact HB.out|apply below_alloc|apply pw_below_drewN|apply below_drew1)|exact HB.out)⟩⟩
   ·rw [if_neg c4] at H
    exact absurd H (by simp)
  ·rw [if_neg c3] at H
   have c3b0:(((a0.size:Int) % 2)==1)=false:=beq_eq_false_iff_ne.mpr c3
   have c3b1:(((a0.size:Int) % 2) != 1)=true:=bne_iff_ne.mpr c3
   (first|rw [c3b0]|(simp only [i64_w,i32_w];rw [c3b0])|skip)
   have H':=Aside0.mk H
   clear H
   go_wp2
   go_meet
   case rel => exact ⟨_,(true),(by first|rfl|(simp;done)|(simp [*];done)),H',⟨by first|omega|exact Nat.le_refl _⟩,⟨by repeat (first|(with_reducible first|exact HB.out|apply below_alloc|apply pw_below_drewN|apply below_drew1)|exact HB.out)⟩⟩
 case rest =>
  clear HC2
  try clear c2;try clear p2;try clear c3;try clear c3b0;try clear c3b1;try clear c4;try clear c4b0;try clear c4b1;try clear p5;try clear q5;try clear hx5;try clear qi5;try clear p5;try clear q5
  obtain ⟨kq,x16_1,rfl,HA,HJ1,HB⟩:=hcut
  cases kq with
  | zero => exact absurd HA.out (by simp [understudyref23_bytes.j0])
  | succ kj1 =>
   have H:=HA.out
   clear HA
   simp only [understudyref23_bytes.j0] at H
   by_cases c6:x16_1=true
   ·subst c6
    have H1:(some (([]:List Int),false))=some (r1,r2):=by rw [if_pos rfl] at H;exact H
    clear H
    have H:=H1
    clear H1
    simp only [Option.some.injEq,Prod.mk.injEq] at H
    obtain ⟨rfl,rfl⟩:=H
    go_wp2
    go_ret2
    exact ⟨_,by first|rfl|(simp [errW_none,errW_some] <;> rfl)|(simp [*,errW_none,errW_some] <;> rfl),by first|exact Kd.R_nil _ _ _ _ _|exact Kd.N_nil _ _ _ _ _|exact Kd.V_nil _ _ _ _ _|exact Kd.Q_nil _ _ _ _ _|exact Kd.S_nil _ _ _ _ _,by repeat (first|(with_reducible first|exact HB.out|apply below_alloc|apply pw_below_drewN|apply below_drew1)|exact HB.out)⟩
   ·replace c6:=Bool.eq_false_iff.mpr c6
    subst c6
    have H1:(understudyref23_bytes.l0 kj1 a0 ([]:List Int) 1)=some (r1,r2):=by rw [if_neg (show ¬ (false=true) by decide)] at H;exact H
    clear H
    have H:=H1
    clear H1
    have H':=Aside0.mk H
    clear H
    go_wp2
    go_loopg [4,5] kj1 (fun kq v4 v5 w' => ∃ (x4_2:List Int) (x5_2:Int),v5=.int .i64 x5_2∧Aside0 (understudyref23_bytes.l0 kq a0 x4_2 x5_2=some (r1,r2))∧Aside0 (kq≤kj1)∧Aside0 (Kd.R (Kd.int .u8) 5 w' w.heap.size (fun _ => True) v4 x4_2)∧Aside0 (Below w.heap.size w w'))
    case atStart => exact ⟨(([]:List Int)),(1),(by first|rfl|(simp;done)|(simp [*];done)),H',⟨Nat.le_refl _⟩,⟨by first|exact Kd.R_nil _ _ _ _ _|exact Kd.N_nil _ _ _ _ _|exact Kd.V_nil _ _ _ _ _|exact Kd.Q_nil _ _ _ _ _|exact Kd.S_nil _ _ _ _ _⟩,⟨by repeat (first|(with_reducible first|exact HB.out|apply below_alloc|apply pw_below_drewN|apply below_drew1)|exact HB.out)⟩⟩
    case round =>
     clear H'
     try clear c2;try clear p2;try clear c3;try clear c3b0;try clear c3b1;try clear c4;try clear c4b0;try clear c4b1;try clear p5;try clear q5;try clear hx5;try clear qi5;try clear c6;try clear p2;try clear p5;try clear q5
     obtain ⟨x4_2,x5_2,rfl,HA,HK2,HO_4,HB⟩:=hrel
     cases gk with
     | zero => exact absurd HA.out (by simp [understudyref23_bytes.l0])
     | succ k2 =>
      have H:=HA.out
      clear HA
      simp only [understudyref23_bytes.l0] at H
      by_cases c7:x5_2 < (a0.size:Int)
      ·rw [if_pos c7] at H
       have c7b0:decide (x5_2 < (a0.size:Int))=true:=decide_eq_true c7
       clear c7
       by_cases c8:0≤x5_2
       ·rw [if_pos c8] at H
        have c8b0:decide (0≤x5_2)=true:=decide_eq_true c8
        clear c8
        replace H:=Option.bind_eq_some_iff.mp H
        obtain ⟨t141,A100,H⟩:=H
        replace H:(if 0≤(wrap64 (x5_2 + 1)) then (if (wrap64 (x5_2 + 1)) < (a0.size:Int) then ((understudyref23_digit.f k2 (bt a0 (wrap64 (x5_2 + 1)))).bind fun t142 => (if t141 < 0 then (some (([]:List Int),false)) else (if t142 < 0 then (some (([]:List Int),false)) else (if x4_2.length < 140737488355328 then (understudyref23_bytes.l0 k2 a0 (x4_2++[(wrap64 ((wrap64 (16 * t141)) + t142)) % 256]) (wrap64 (x5_2 + 2))) else (none))))) else (none)) else (none))=some (r1,r2):=H
        have A10:=Aside0.mk A100
        clear A100
        obtain ⟨ji11,hji11⟩:∃ j_:Int,(wrap64 (x5_2 + 1))=j_:=⟨_,rfl⟩
        replace H:(if 0≤(ji11) then (if (ji11) < (a0.size:Int) then ((understudyref23_digit.f k2 (bt a0 (ji11))).bind fun t142 => (if t141 < 0 then (some (([]:List Int),false)) else (if t142 < 0 then (some (([]:List Int),false)) else (if x4_2.length < 140737488355328 then (understudyref23_bytes.l0 k2 a0 (x4_2++[(wrap64 ((wrap64 (16 * t141)) + t142)) % 256]) (wrap64 (x5_2 + 2))) else (none))))) else (none)) else (none))=some (r1,r2):=by first|(rw [hji11] at H;exact H)|(simp only [hji11] at H ⊢;exact H)
        (try rw [hji11] at A10)
        have hji11w:(IntKind.i64.wrap (x5_2 + 1))=ji11:=(i64_w _).trans hji11
        by_cases c12:0≤(ji11)
        ·rw [if_pos c12] at H
         have c12b0:decide (0≤(ji11))=true:=decide_eq_true c12
         clear c12
         by_cases c13:(ji11) < (a0.size:Int)
         ·rw [if_pos c13] at H
          have c13b0:decide ((ji11) < (a0.size:Int))=true:=decide_eq_true c13
          clear c13
          replace H:=Option.bind_eq_some_iff.mp H
          obtain ⟨t142,A150,H⟩:=H
          replace H:(if t141 < 0 then (some (([]:List Int),false)) else (if t142 < 0 then (some (([]:List Int),false)) else (if x4_2.length < 140737488355328 then (understudyref23_bytes.l0 k2 a0 (x4_2++[(wrap64 ((wrap64 (16 * t141)) + t142)) % 256]) (wrap64 (x5_2 + 2))) else (none))))=some (r1,r2):=H
          have A15:=Aside0.mk A150
          clear A150
          by_cases c16:t141 < 0
          ·rw [if_pos c16] at H
           have c16b0:decide (t141 < 0)=true:=decide_eq_true c16
           clear c16
           simp only [Option.some.injEq,Prod.mk.injEq] at H
           obtain ⟨rfl,rfl⟩:=H
           have p9:0≤(x5_2:Int):=of_decide_eq_true (by first|(with_reducible assumption)|assumption)
           have q9:x5_2 < (a0.size:Int):=of_decide_eq_true (by first|(with_reducible assumption)|assumption)
           have hx9:=bt_at a0 x5_2
           replace p9:=eq_true p9
           replace q9:=eq_true q9
           go_wp2_with (first|((with_reducible refine gate_callee (f:=36) rfl ?_);refine goesL_ (some 26) rfl rfl Tryz.func36 (by kernel_rfl) rfl #[.int .u8 (bt a0 x5_2)] rfl (by (try simp only [List.map_toArray,List.map_cons,List.map_nil]);first|done|rfl|(simp only [List.length_drop,List.length_take];rfl)) ?_;(with_reducible refine (understudyref23_digit.calls k2 (bt a0 x5_2) t141 _ A10.out).mono ?_);rintro e w' ⟨rfl,⟨nd,rfl⟩⟩;refine ⟨_,rfl,?_⟩;have p14:0≤((ji11):Int):=of_decide_eq_true (by first|(with_reducible assumption)|assumption);have q14:(ji11) < (a0.size:Int):=of_decide_eq_true (by first|(with_reducible assumption)|assumption);have hx14:=bt_at a0 (ji11);replace p14:=eq_true p14;replace q14:=eq_true q14)|((with_reducible refine gate_callee (f:=36) rfl ?_);refine goesL_ (some 31) rfl rfl Tryz.func36 (by kernel_rfl) rfl #[.int .u8 (bt a0 (ji11))] rfl (by (try simp only [List.map_toArray,List.map_cons,List.map_nil]);first|done|(simp only [hji11];rfl)|rfl|(simp only [List.length_drop,List.length_take];rfl)) ?_;(with_reducible refine (understudyref23_digit.calls k2 (bt a0 (ji11)) t142 _ A15.out).mono ?_);rintro e w' ⟨rfl,⟨nd,rfl⟩⟩;refine ⟨_,rfl,?_⟩))
           go_ret2
           exact ⟨_,by first|rfl|(simp [errW_none,errW_some] <;> rfl)|(simp only [← hji11];first|rfl|(simp [errW_none,errW_some] <;> rfl))|(simp [*,errW_none,errW_some] <;> rfl),by first|exact Kd.R_nil _ _ _ _ _|exact Kd.N_nil _ _ _ _ _|exact Kd.V_nil _ _ _ _ _|exact Kd.Q_nil _ _ _ _ _|exact Kd.S_nil _ _ _ _ _,by repeat (first|(with_reducible first|exact HB.out|apply below_alloc|apply pw_below_drewN|apply below_drew1)|exact HB.out)⟩
          ·rw [if_neg c16] at H
           have c16b0:decide (t141 < 0)=false:=decide_eq_false c16
           clear c16
           by_cases c17:t142 < 0
           ·rw [if_pos c17] at H
            have c17b0:decide (t142 < 0)=true:=decide_eq_true c17
            clear c17
            simp only [Option.some.injEq,Prod.mk.injEq] at H
            obtain ⟨rfl,rfl⟩:=H
            have p9:0≤(x5_2:Int):=of_decide_eq_true (by first|(with_reducible assumption)|assumption)
            have q9:x5_2 < (a0.size:Int):=of_decide_eq_true (by first|(with_reducible assumption)|assumption)
            have hx9:=bt_at a0 x5_2
            replace p9:=eq_true p9
            replace q9:=eq_true q9
            go_wp2_with (first|((with_reducible refine gate_callee (f:=36) rfl ?_);refine goesL_ (some 26) rfl rfl Tryz.func36 (by kernel_rfl) rfl #[.int .u8 (bt a0 x5_2)] rfl (by (try simp only [List.map_toArray,List.map_cons,List.map_nil]);first|done|rfl|(simp only [List.length_drop,List.length_take];rfl)) ?_;(with_reducible refine (understudyref23_digit.calls k2 (bt a0 x5_2) t141 _ A10.out).mono ?_);rintro e w' ⟨rfl,⟨nd,rfl⟩⟩;refine ⟨_,rfl,?_⟩;have p14:0≤((ji11):Int):=of_decide_eq_true (by first|(with_reducible assumption)|assumption);have q14:(ji11) < (a0.size:Int):=of_decide_eq_true (by first|(with_reducible assumption)|assumption);have hx14:=bt_at a0 (ji11);replace p14:=eq_true p14;replace q14:=eq_true q14)|((with_reducible refine gate_callee (f:=36) rfl ?_);refine goesL_ (some 31) rfl rfl Tryz.func36 (by kernel_rfl) rfl #[.int .u8 (bt a0 (ji11))] rfl (by (try simp only [List.map_toArray,List.map_cons,List.map_nil]);first|done|(simp only [hji11];rfl)|rfl|(simp only [List.length_drop,List.length_take];rfl)) ?_;(with_reducible refine (understudyref23_digit.calls k2 (bt a0 (ji11)) t142 _ A15.out).mono ?_);rintro e w' ⟨rfl,⟨nd,rfl⟩⟩;refine ⟨_,rfl,?_⟩))
            go_ret2
            exact ⟨_,by first|rfl|(simp [errW_none,errW_some] <;> rfl)|(simp only [← hji11];first|rfl|(simp [errW_none,errW_some] <;> rfl))|(simp [*,errW_none,errW_some] <;> rfl),by first|exact Kd.R_nil _ _ _ _ _|exact Kd.N_nil _ _ _ _ _|exact Kd.V_nil _ _ _ _ _|exact Kd.Q_nil _ _ _ _ _|exact Kd.S_nil _ _ _ _ _,by repeat (first|(with_reducible first|exact HB.out|apply below_alloc|apply pw_below_drewN|apply below_drew1)|exact HB.out)⟩
           ·rw [if_neg c17] at H
            have c17b0:decide (t142 < 0)=false:=decide_eq_false c17
            clear c17
            by_cases c18:x4_2.length < 140737488355328
            ·rw [if_pos c18] at H
             have LMc18:=Aside0.mk c18
             clear c18
             obtain ⟨y143,hy143⟩:∃ y_:List Int,y_=(x4_2++[(wrap64 ((wrap64 (16 * t141)) + t142)) % 256]):=⟨_,rfl⟩
             replace H:(understudyref23_bytes.l0 k2 a0 y143 (wrap64 (x5_2 + 2)))=some (r1,r2):=by first|(rw [hy143];with_reducible exact H)|(have H2_:=(Option.bind_some _ _).symm.trans H;rw [hy143];with_reducible exact H2_)|(have H2_:=(Option.bind_some _ _).symm.trans H;with_reducible exact H2_)|with_reducible exact H|(rw [hy143];exact H)|exact H
             have Ny143:=Aside0.mk hy143
             clear hy143
             have H':=Aside0.mk H
             clear H
             have p9:0≤(x5_2:Int):=of_decide_eq_true (by first|(with_reducible assumption)|assumption)
             have q9:x5_2 < (a0.size:Int):=of_decide_eq_true (by first|(with_reducible assumption)|assumption)
             have hx9:=bt_at a0 x5_2
             replace p9:=eq_true p9
             replace q9:=eq_true q9
             go_wp2_with (first|((with_reducible refine gate_callee (f:=36) rfl ?_);refine goesL_ (some 26) rfl rfl Tryz.func36 (by kernel_rfl) rfl #[.int .u8 (bt a0 x5_2)] rfl (by (try simp only [List.map_toArray,List.map_cons,List.map_nil]);first|done|rfl|(simp only [List.length_drop,List.length_take];rfl)) ?_;(with_reducible refine (understudyref23_digit.calls k2 (bt a0 x5_2) t141 _ A10.out).mono ?_);rintro e w' ⟨rfl,⟨nd,rfl⟩⟩;refine ⟨_,rfl,?_⟩;have p14:0≤((ji11):Int):=of_decide_eq_true (by first|(with_reducible assumption)|assumption);have q14:(ji11) < (a0.size:Int):=of_decide_eq_true (by first|(with_reducible assumption)|assumption);have hx14:=bt_at a0 (ji11);replace p14:=eq_true p14;replace q14:=eq_true q14)|((with_reducible refine gate_callee (f:=36) rfl ?_);refine goesL_ (some 31) rfl rfl Tryz.func36 (by kernel_rfl) rfl #[.int .u8 (bt a0 (ji11))] rfl (by (try simp only [List.map_toArray,List.map_cons,List.map_nil]);first|done|(simp only [hji11];rfl)|rfl|(simp only [List.length_drop,List.length_take];rfl)) ?_;(with_reducible refine (understudyref23_digit.calls k2 (bt a0 (ji11)) t142 _ A15.out).mono ?_);rintro e w' ⟨rfl,⟨nd,rfl⟩⟩;refine ⟨_,rfl,?_⟩)|((with_reducible refine gate_builtin (b:=.append) (xs:=#[.tmp 38,.tmp 44]) rfl ?_);at_builtin;refine Kd.R_append (Kd.int .u8) (w0:=w) w.heap.size rfl (.tmp 38) (.tmp 44) 45 5 (.int .u8 0) 1 rfl Tryz.underlying45 info5 rfl (by decide) (by omega) u4 x4_2 ((wrap64 ((wrap64 (16 * t141)) + t142)) % 256) [.int .u8 ((wrap64 ((wrap64 (16 * t141)) + t142)) % 256)] (fun _ => True) (fun _ => False) rfl rfl ?aP (fun _ hk => hk.elim) ?aF ?aO ?aB ?aS ?aL ?_;(case aP => exact rfl);(case aB => exact (by repeat (first|(with_reducible first|exact HB.out|apply below_alloc|apply pw_below_drewN|apply below_drew1)|exact HB.out)));(case aF => exact (fun _ _ => trivial));(case aO => exact (by (with_reducible repeat (first|apply Kd.R_alloc|apply Kd.R_drewN|apply Kd.R_drew));exact HO_4.out));(case aS => exact (below_size (by repeat (first|(with_reducible first|exact HB.out|apply below_alloc|apply pw_below_drewN|apply below_drew1)|exact HB.out))));(case aL => have:=LMc18.out;omega);intro v144 w19 ho hb hg hat;rw [← Ny143.out] at ho;have n0_:=Aside0.mk (hb);have n1_:=Aside0.mk (ho);clear HB;clear HO_4;have HB:=n0_;have HO145:=n1_;clear n0_ n1_;clear ho hb hg hat))
             go_roundg k2
             case measure => have:=HJ1.out;have:=HK2.out;omega
             case rel => exact ⟨(y143),(wrap64 (x5_2 + 2)),(by first|rfl|(simp;done)|(simp [*];done)),H',⟨by have:=HJ1.out;have:=HK2.out;omega⟩,⟨by (with_reducible repeat (first|apply Kd.R_alloc|apply Kd.R_drewN|apply Kd.R_drew));exact HO145.out⟩,⟨by repeat (first|(with_reducible first|exact HB.out|apply below_alloc|apply pw_below_drewN|apply below_drew1)|exact HB.out)⟩⟩
            ·rw [if_neg c18] at H
             exact absurd H (by simp)
         ·rw [if_neg c13] at H
          exact absurd H (by simp)
        ·rw [if_neg c12] at H
         exact absurd H (by simp)
       ·rw [if_neg c8] at H
        exact absurd H (by simp)
      ·rw [if_neg c7] at H
       have c7b0:decide (x5_2 < (a0.size:Int))=false:=decide_eq_false c7
       clear c7
       simp only [Option.some.injEq,Prod.mk.injEq] at H
       obtain ⟨rfl,rfl⟩:=H
       go_wp2
       go_ret2
       exact ⟨_,by first|rfl|(simp [errW_none,errW_some] <;> rfl)|(simp [*,errW_none,errW_some] <;> rfl),by (with_reducible repeat (first|apply Kd.R_alloc|apply Kd.R_drewN|apply Kd.R_drew));exact HO_4.out,by repeat (first|(with_reducible first|exact HB.out|apply below_alloc|apply pw_below_drewN|apply below_drew1)|exact HB.out)⟩
def understudyref23_names.f :Option (List ByteArray):=some (([(⟨#[114,117,110]⟩:ByteArray),(⟨#[105,110,112,117,116]⟩:ByteArray),(⟨#[99,108,111,99,107]⟩:ByteArray),(⟨#[116,105,99,107]⟩:ByteArray),(⟨#[100,101,108,105,118,101,114]⟩:ByteArray),(⟨#[100,114,111,112]⟩:ByteArray),(⟨#[116,119,105,99,101]⟩:ByteArray),(⟨#[99,114,97,115,104]⟩:ByteArray)]:List ByteArray))
set_option maxHeartbeats 80000000 in
set_option maxRecDepth 100000 in
theorem understudyref23_names.calls  (r:List ByteArray) (w:World) (h:understudyref23_names.f =some r) :
  Calls Tryz.prog 25 #[] w fun e w' => ∃ v0_:Value,e=.returned (v0_)∧Kd.R Kd.string 9 w' w.heap.size (fun _ => True) v0_ r∧Below w.heap.size w w':=by
 have HB:=Aside0.mk (Below.refl w.heap.size w)
 have H:(some (([(⟨#[114,117,110]⟩:ByteArray),(⟨#[105,110,112,117,116]⟩:ByteArray),(⟨#[99,108,111,99,107]⟩:ByteArray),(⟨#[116,105,99,107]⟩:ByteArray),(⟨#[100,101,108,105,118,101,114]⟩:ByteArray),(⟨#[100,114,111,112]⟩:ByteArray),(⟨#[116,119,105,99,101]⟩:ByteArray),(⟨#[99,114,97,115,104]⟩:ByteArray)]:List ByteArray)))=some r:=h
 clear h
 obtain ⟨y146,hy146⟩:∃ y_:List ByteArray,y_=(([(⟨#[114,117,110]⟩:ByteArray),(⟨#[105,110,112,117,116]⟩:ByteArray),(⟨#[99,108,111,99,107]⟩:ByteArray),(⟨#[116,105,99,107]⟩:ByteArray),(⟨#[100,101,108,105,118,101,114]⟩:ByteArray),(⟨#[100,114,111,112]⟩:ByteArray),(⟨#[116,119,105,99,101]⟩:ByteArray),(⟨#[99,114,97,115,104]⟩:ByteArray)]:List ByteArray)):=⟨_,rfl⟩
 replace H:(some y146)=some r:=by first|(rw [hy146];with_reducible exact H)|(have H2_:=(Option.bind_some _ _).symm.trans H;rw [hy146];with_reducible exact H2_)|(have H2_:=(Option.bind_some _ _).symm.trans H;with_reducible exact H2_)|with_reducible exact H|(rw [hy146];exact H)|exact H
 have Ny146:=Aside0.mk hy146
 clear hy146
 obtain rfl:=Option.some.inj H
 go_enter Tryz.func25,Tryz.ntmps25
 go_wp2_with (first|((with_reducible refine gate_dst (N:=1) rfl ?_);refine Kd.R_lit Kd.string _ 9 ?hg (N:=1) ?hd (xs:=([(⟨#[114,117,110]⟩:ByteArray),(⟨#[105,110,112,117,116]⟩:ByteArray),(⟨#[99,108,111,99,107]⟩:ByteArray),(⟨#[116,105,99,107]⟩:ByteArray),(⟨#[100,101,108,105,118,101,114]⟩:ByteArray),(⟨#[100,114,111,112]⟩:ByteArray),(⟨#[116,119,105,99,101]⟩:ByteArray),(⟨#[99,114,97,115,104]⟩:ByteArray)]:List ByteArray)) (inner:=[.string (⟨#[114,117,110]⟩:ByteArray),.string (⟨#[105,110,112,117,116]⟩:ByteArray),.string (⟨#[99,108,111,99,107]⟩:ByteArray),.string (⟨#[116,105,99,107]⟩:ByteArray),.string (⟨#[100,101,108,105,118,101,114]⟩:ByteArray),.string (⟨#[100,114,111,112]⟩:ByteArray),.string (⟨#[116,119,105,99,101]⟩:ByteArray),.string (⟨#[99,114,97,115,104]⟩:ByteArray)]) (ok:=fun _ => True) (okp:=fun _ => True) ?hr ?hp (fun _ hk => hk) trivial (Below.refl _ _) (Nat.le_refl _) (by simp) ?_;(case hd => rfl);(case hg => rfl);(case hr => first|(go_simp;done)|(go_simp;rfl));(case hp => exact (Reps.one (show Kd.M Kd.string _ _ _ (⟨#[114,117,110]⟩:ByteArray) [.string (⟨#[114,117,110]⟩:ByteArray)] from rfl) (Reps.one (show Kd.M Kd.string _ _ _ (⟨#[105,110,112,117,116]⟩:ByteArray) [.string (⟨#[105,110,112,117,116]⟩:ByteArray)] from rfl) (Reps.one (show Kd.M Kd.string _ _ _ (⟨#[99,108,111,99,107]⟩:ByteArray) [.string (⟨#[99,108,111,99,107]⟩:ByteArray)] from rfl) (Reps.one (show Kd.M Kd.string _ _ _ (⟨#[116,105,99,107]⟩:ByteArray) [.string (⟨#[116,105,99,107]⟩:ByteArray)] from rfl) (Reps.one (show Kd.M Kd.string _ _ _ (⟨#[100,101,108,105,118,101,114]⟩:ByteArray) [.string (⟨#[100,101,108,105,118,101,114]⟩:ByteArray)] from rfl) (Reps.one (show Kd.M Kd.string _ _ _ (⟨#[100,114,111,112]⟩:ByteArray) [.string (⟨#[100,114,111,112]⟩:ByteArray)] from rfl) (Reps.one (show Kd.M Kd.string _ _ _ (⟨#[116,119,105,99,101]⟩:ByteArray) [.string (⟨#[116,119,105,99,101]⟩:ByteArray)] from rfl) (Reps.one (show Kd.M Kd.string _ _ _ (⟨#[99,114,97,115,104]⟩:ByteArray) [.string (⟨#[99,114,97,115,104]⟩:ByteArray)] from rfl) (Reps.none _ _))))))))));intro v147 w1 ho2 hb hg_ hnew_;clear hg_ hnew_;(first|rw [← Ny146.out] at ho2|(simp only [Int.reduceToNat] at ho2;rw [← Ny146.out] at ho2));have n0_:=Aside0.mk (Kd.R_lower ho2 (below_size (by repeat (first|(with_reducible first|exact HB.out|apply below_alloc|apply pw_below_drewN|apply below_drew1)|exact HB.out))));have n1_:=Aside0.mk (below_step (by repeat (first|(with_reducible first|exact HB.out|apply below_alloc|apply pw_below_drewN|apply below_drew1)|exact HB.out)) hb);clear HB;have HO148:=n0_;have HB:=n1_;clear n0_ n1_;clear hb ho2))
 go_ret
 exact ⟨_,by first|rfl|(simp [errW_none,errW_some] <;> rfl)|(simp [*,errW_none,errW_some] <;> rfl),by (with_reducible repeat (first|apply Kd.R_alloc|apply Kd.R_drewN|apply Kd.R_drew));exact HO148.out,by repeat (first|(with_reducible first|exact HB.out|apply below_alloc|apply pw_below_drewN|apply below_drew1)|exact HB.out)⟩
def understudyref23_many.l0:Nat→ByteArray→List ByteArray→List Int→Int→Option (Int)
 | 0,_,_,_,_ => none
 | k + 1,x0,x3,x4,x5 => if x5 < (x3.length:Int) then (if 0≤x5 then (if (rdOf ByteArray.empty x3 x5).toList=x0.toList then (if x5 < (x4.length:Int) then (some (rd x4 x5)) else (none)) else (understudyref23_many.l0 k x0 x3 x4 (wrap64 (x5 + 1)))) else (none)) else (some (-1))
def understudyref23_many.f (k:Nat) (a0:ByteArray):Option (Int):=if a0.toList=([109,97,99,104,105,110,101,115]:List UInt8) then (some 1) else ((understudyref23_names.f).bind fun t149 => (understudyref23_many.l0 k a0 t149 (([3,2,2,1,1,1,1,1]:List Int)) 0))
theorem understudyref23_many.mono_l:∀ k,(∀ y0 y1 y2 y3,LeO (understudyref23_many.l0 k y0 y1 y2 y3) (understudyref23_many.l0 (k + 1) y0 y1 y2 y3))
 | 0 => fun _ _ _ _ r h => by simp [understudyref23_many.l0] at h
 | k + 1 => by
  have ih0:=understudyref23_many.mono_l k
  ·intro y0 y1 y2 y3
   unfold understudyref23_many.l0
   repeat' first
   | (with_reducible exact ih0 _ _ _ _)
   | (with_reducible exact LeO.refl _)
   | (with_reducible exact LeO.none _)
   | (with_reducible refine LeO.ite ?_ ?_)
   | (with_reducible refine LeO.bind ?_ (fun _ => ?_))
   | exact ih0 _ _ _ _
   | exact LeO.none _
   | refine LeO.ite ?_ ?_
   | refine LeO.bind ?_ (fun _ => ?_)
theorem understudyref23_many.mono:∀ a0 k,LeO (understudyref23_many.f k a0) (understudyref23_many.f (k + 1) a0):=by
 intro a0 k
 have ih0:=understudyref23_many.mono_l k
 unfold understudyref23_many.f
 repeat' first
   | (with_reducible exact ih0 _ _ _ _)
   | (with_reducible exact LeO.refl _)
   | (with_reducible exact LeO.none _)
   | (with_reducible refine LeO.ite ?_ ?_)
   | (with_reducible refine LeO.bind ?_ (fun _ => ?_))
   | exact ih0 _ _ _ _
   | exact LeO.none _
   | refine LeO.ite ?_ ?_
   | refine LeO.bind ?_ (fun _ => ?_)
set_option maxHeartbeats 80000000 in
set_option maxRecDepth 100000 in
theorem understudyref23_many.calls (k:Nat) (a0:ByteArray) (r:Int) (w:World) (h:understudyref23_many.f k a0=some r) :
  Calls Tryz.prog 23 #[.string a0] w fun e w' => e=.returned (.int .i64 r)∧Below w.heap.size w w':=by
 have HB:=Aside0.mk (Below.refl w.heap.size w)
 have H:(if a0.toList=([109,97,99,104,105,110,101,115]:List UInt8) then (some 1) else ((understudyref23_names.f).bind fun t149 => (understudyref23_many.l0 k a0 t149 (([3,2,2,1,1,1,1,1]:List Int)) 0)))=some r:=h
 clear h
 by_cases c2:a0.toList=([109,97,99,104,105,110,101,115]:List UInt8)
 ·rw [if_pos c2] at H
  have c2b0:(a0.toList==([109,97,99,104,105,110,101,115]:List UInt8))=true:=beq_iff_eq.mpr c2
  have c2b1:(a0.toList != ([109,97,99,104,105,110,101,115]:List UInt8))=false:=bne_eq_false_iff_eq.mpr c2
  clear c2
  obtain rfl:=Option.some.inj H
  go_enter Tryz.func23,Tryz.ntmps23
  go_wp2
  go_ret
  exact ⟨by first|rfl|(simp [errW_none,errW_some] <;> rfl)|(simp [*,errW_none,errW_some] <;> rfl),by repeat (first|(with_reducible first|exact HB.out|apply below_alloc|apply pw_below_drewN|apply below_drew1)|exact HB.out)⟩
 ·rw [if_neg c2] at H
  have c2b0:(a0.toList==([109,97,99,104,105,110,101,115]:List UInt8))=false:=beq_eq_false_iff_ne.mpr c2
  have c2b1:(a0.toList != ([109,97,99,104,105,110,101,115]:List UInt8))=true:=bne_iff_ne.mpr c2
  replace H:=Option.bind_eq_some_iff.mp H
  obtain ⟨t149,A30,H⟩:=H
  replace H:(understudyref23_many.l0 k a0 t149 (([3,2,2,1,1,1,1,1]:List Int)) 0)=some r:=H
  have A3:=Aside0.mk A30
  clear A30
  obtain ⟨y152,hy152⟩:∃ y_:List Int,y_=(([3,2,2,1,1,1,1,1]:List Int)):=⟨_,rfl⟩
  replace H:(understudyref23_many.l0 k a0 t149 y152 0)=some r:=by first|(rw [hy152];with_reducible exact H)|(have H2_:=(Option.bind_some _ _).symm.trans H;rw [hy152];with_reducible exact H2_)|(have H2_:=(Option.bind_some _ _).symm.trans H;with_reducible exact H2_)|with_reducible exact H|(rw [hy152];exact H)|exact H
  have Ny152:=Aside0.mk hy152
  clear hy152
  have H':=Aside0.mk H
  clear H
  go_enter Tryz.func23,Tryz.ntmps23
  go_wp2_with (first|((with_reducible refine gate_callee (f:=25) rfl ?_);refine goesL_ (some 8) rfl rfl Tryz.func25 (by kernel_rfl) rfl #[] rfl (by (try simp only [List.map_toArray,List.map_cons,List.map_nil]);first|done|rfl|(simp only [List.length_drop,List.length_take];rfl)) ?_;(with_reducible refine (understudyref23_names.calls  t149 _ A3.out).mono ?_);rintro e w4 ⟨v150,rfl,ho0,hb⟩;refine ⟨_,rfl,?_⟩;have n0_:=Aside0.mk (Kd.R_lower ho0 (below_size (by repeat (first|(with_reducible first|exact HB.out|apply below_alloc|apply pw_below_drewN|apply below_drew1)|exact HB.out))));have n1_:=Aside0.mk (below_step (by repeat (first|(with_reducible first|exact HB.out|apply below_alloc|apply pw_below_drewN|apply below_drew1)|exact HB.out)) hb);clear HB;have HO151:=n0_;have HB:=n1_;clear n0_ n1_;(try clear hb);(try clear hb2);(try clear hk);(try clear hi);(try clear ho0))|((with_reducible refine gate_dst (N:=9) rfl ?_);refine Kd.R_lit (Kd.int .i64) _ 3 ?hg (N:=9) ?hd (xs:=([3,2,2,1,1,1,1,1]:List Int)) (inner:=[.int .i64 3,.int .i64 2,.int .i64 2,.int .i64 1,.int .i64 1,.int .i64 1,.int .i64 1,.int .i64 1]) (ok:=fun _ => True) (okp:=fun _ => True) ?hr ?hp (fun _ hk => hk) trivial (Below.refl _ _) (Nat.le_refl _) (by simp) ?_;(case hd => rfl);(case hg => rfl);(case hr => first|(go_simp;done)|(go_simp;rfl));(case hp => exact (Reps.one (show Kd.M (Kd.int .i64) _ _ _ 3 [.int .i64 3] from rfl) (Reps.one (show Kd.M (Kd.int .i64) _ _ _ 2 [.int .i64 2] from rfl) (Reps.one (show Kd.M (Kd.int .i64) _ _ _ 2 [.int .i64 2] from rfl) (Reps.one (show Kd.M (Kd.int .i64) _ _ _ 1 [.int .i64 1] from rfl) (Reps.one (show Kd.M (Kd.int .i64) _ _ _ 1 [.int .i64 1] from rfl) (Reps.one (show Kd.M (Kd.int .i64) _ _ _ 1 [.int .i64 1] from rfl) (Reps.one (show Kd.M (Kd.int .i64) _ _ _ 1 [.int .i64 1] from rfl) (Reps.one (show Kd.M (Kd.int .i64) _ _ _ 1 [.int .i64 1] from rfl) (Reps.none _ _))))))))));intro v153 w5 ho6 hb hg_ hnew_;clear hg_ hnew_;(first|rw [← Ny152.out] at ho6|(simp only [Int.reduceToNat] at ho6;rw [← Ny152.out] at ho6));have n0_:=Aside0.mk (Kd.R_below (by (with_reducible repeat (first|apply Kd.R_alloc|apply Kd.R_drewN|apply Kd.R_drew));exact HO151.out) hb);have n1_:=Aside0.mk (Kd.R_lower ho6 (below_size (by repeat (first|(with_reducible first|exact HB.out|apply below_alloc|apply pw_below_drewN|apply below_drew1)|exact HB.out))));have n2_:=Aside0.mk (below_step (by repeat (first|(with_reducible first|exact HB.out|apply below_alloc|apply pw_below_drewN|apply below_drew1)|exact HB.out)) hb);clear HO151;clear HB;have HO151:=n0_;have HO154:=n1_;have HB:=n2_;clear n0_ n1_ n2_;clear hb ho6))
  go_loopg [5] k (fun kq v5 w' => ∃ (x5_1:Int),v5=.int .i64 x5_1∧Aside0 (understudyref23_many.l0 kq a0 t149 y152 x5_1=some r)∧Aside0 (kq≤k)∧Aside0 (Kd.R Kd.string 9 w' w.heap.size (fun _ => True) v150 t149)∧Aside0 (Kd.R (Kd.int .i64) 3 w' w.heap.size (fun _ => True) v153 y152)∧Aside0 (Below w.heap.size w w'))
  case atStart => exact ⟨(0),(by first|rfl|(simp;done)|(simp [*];done)),H',⟨Nat.le_refl _⟩,⟨by (with_reducible repeat (first|apply Kd.R_alloc|apply Kd.R_drewN|apply Kd.R_drew));exact HO151.out⟩,⟨by (with_reducible repeat (first|apply Kd.R_alloc|apply Kd.R_drewN|apply Kd.R_drew));exact HO154.out⟩,⟨by repeat (first|(with_reducible first|exact HB.out|apply below_alloc|apply pw_below_drewN|apply below_drew1)|exact HB.out)⟩⟩
  case round =>
   clear H'
   try clear c2;try clear c2b0;try clear c2b1;try clear p2
   obtain ⟨x5_1,rfl,HA,HK1,HO_3,HO_4,HB⟩:=hrel
   cases gk with
   | zero => exact absurd HA.out (by simp [understudyref23_many.l0])
   | succ k1 =>
    have H:=HA.out
    clear HA
    simp only [understudyref23_many.l0] at H
    by_cases c7:x5_1 < (t149.length:Int)
    ·rw [if_pos c7] at H
     have c7b0:decide (x5_1 < (t149.length:Int))=true:=decide_eq_true c7
     clear c7
     by_cases c8:0≤x5_1
     ·rw [if_pos c8] at H
      have c8b0:decide (0≤x5_1)=true:=decide_eq_true c8
      clear c8
      by_cases c9:(rdOf ByteArray.empty t149 x5_1).toList=a0.toList
      ·rw [if_pos c9] at H
       have c9b0:((rdOf ByteArray.empty t149 x5_1).toList==a0.toList)=true:=beq_iff_eq.mpr c9
       have c9b1:((rdOf ByteArray.empty t149 x5_1).toList != a0.toList)=false:=bne_eq_false_iff_eq.mpr c9
       clear c9
       by_cases c10:x5_1 < (y152.length:Int)
       ·rw [if_pos c10] at H
        have c10b0:decide (x5_1 < (y152.length:Int))=true:=decide_eq_true c10
        clear c10
        obtain rfl:=Option.some.inj H
        obtain ⟨Ao11,co11,eo11⟩:=Kd.R_slice HO_3.out
        subst eo11
        have p155:0≤(x5_1:Int):=of_decide_eq_true (by first|(with_reducible assumption)|assumption)
        have q155:x5_1 < (t149.length:Int):=of_decide_eq_true (by first|(with_reducible assumption)|assumption)
        obtain ⟨ad155,e155,hx155_0⟩:=Kd.at_string (Kd.R_reads' HO_3.out).2.2 x5_1 p155 q155
        cases e155
        replace p155:=eq_true p155
        replace q155:=eq_true q155
        obtain ⟨Ao12,co12,eo12⟩:=Kd.R_slice HO_4.out
        subst eo12
        have p156:0≤(x5_1:Int):=of_decide_eq_true (by first|(with_reducible assumption)|assumption)
        have q156:x5_1 < (y152.length:Int):=of_decide_eq_true (by first|(with_reducible assumption)|assumption)
        obtain ⟨ad156,e156,hx156_0⟩:=Kd.at_int (Kd.R_reads' HO_4.out).2.2 x5_1 p156 q156
        cases e156
        replace p156:=eq_true p156
        replace q156:=eq_true q156
        go_wp2
        go_ret
        exact ⟨by first|rfl|(simp [errW_none,errW_some] <;> rfl)|(simp [*,errW_none,errW_some] <;> rfl),by repeat (first|(with_reducible first|exact HB.out|apply below_alloc|apply pw_below_drewN|apply below_drew1)|exact HB.out)⟩
       ·rw [if_neg c10] at H
        exact absurd H (by simp)
      ·rw [if_neg c9] at H
       have c9b0:((rdOf ByteArray.empty t149 x5_1).toList==a0.toList)=false:=beq_eq_false_iff_ne.mpr c9
       have c9b1:((rdOf ByteArray.empty t149 x5_1).toList != a0.toList)=true:=bne_iff_ne.mpr c9
       have H':=Aside0.mk H
       clear H
       obtain ⟨Ao13,co13,eo13⟩:=Kd.R_slice HO_3.out
       subst eo13
       have p155:0≤(x5_1:Int):=of_decide_eq_true (by first|(with_reducible assumption)|assumption)
       have q155:x5_1 < (t149.length:Int):=of_decide_eq_true (by first|(with_reducible assumption)|assumption)
       obtain ⟨ad155,e155,hx155_0⟩:=Kd.at_string (Kd.R_reads' HO_3.out).2.2 x5_1 p155 q155
       cases e155
       replace p155:=eq_true p155
       replace q155:=eq_true q155
       go_wp2
       go_roundg k1
       case measure => have:=HK1.out;omega
       case rel => exact ⟨(wrap64 (x5_1 + 1)),(by first|rfl|(simp;done)|(simp [*];done)),H',⟨by have:=HK1.out;omega⟩,⟨by (with_reducible repeat (first|apply Kd.R_alloc|apply Kd.R_drewN|apply Kd.R_drew));exact HO_3.out⟩,⟨by (with_reducible repeat (first|apply Kd.R_alloc|apply Kd.R_drewN|apply Kd.R_drew));exact HO_4.out⟩,⟨by repeat (first|(with_reducible first|exact HB.out|apply below_alloc|apply pw_below_drewN|apply below_drew1)|exact HB.out)⟩⟩
     ·rw [if_neg c8] at H
      exact absurd H (by simp)
    ·rw [if_neg c7] at H
     have c7b0:decide (x5_1 < (t149.length:Int))=false:=decide_eq_false c7
     clear c7
     obtain rfl:=Option.some.inj H
     obtain ⟨Ao14,co14,eo14⟩:=Kd.R_slice HO_3.out
     subst eo14
     go_wp2
     go_ret
     exact ⟨by first|rfl|(simp [errW_none,errW_some] <;> rfl)|(simp [*,errW_none,errW_some] <;> rfl),by repeat (first|(with_reducible first|exact HB.out|apply below_alloc|apply pw_below_drewN|apply below_drew1)|exact HB.out)⟩
end Go.Proofs.YtpofikjkccljlaaGreatDoor.Px
namespace Go.Proofs.YtpofikjkccljlaaGreatDoor.Px
open Go.RowKit Go.Proofs.YtpofikjkccljlaaGreatDoorW.PrintWords Go.Proofs.YtpofikjkccljlaaGreatDoorW.PrintLast Go.Proofs.YtpofikjkccljlaaGreatDoorW.PrintMore
attribute [local go_sem] max2_int min2_int max_two min_two max_three min_three max_four min_four
set_option linter.unusedVariables false
set_option linter.unusedSimpArgs false
mutual
def understudyref23_number.j0:Nat→ByteArray→Bool→Option (Int × Bool)
 | 0,_,_ => none
 | k + 1,x0,x4 => if x4=true then (if 1≤(x0.size:Int) then (understudyref23_number.j1 k (x0.extract 1 x0.size) x4) else (none)) else (understudyref23_number.j1 k x0 x4)
def understudyref23_number.j1:Nat→ByteArray→Bool→Option (Int × Bool)
 | 0,_,_ => none
 | k + 1,x0,x4 => if x0.toList=([]:List UInt8) then (understudyref23_number.j2 k x0 x4 true) else (if (x0.size:Int) > 18 then (understudyref23_number.j2 k x0 x4 true) else (if 0 < (x0.size:Int) then (if (bt x0 0)=48 then (if (x0.size:Int) > 1 then (understudyref23_number.j2 k x0 x4 true) else (understudyref23_number.j2 k x0 x4 x4)) else (understudyref23_number.j2 k x0 x4 false)) else (none)))
def understudyref23_number.j2:Nat→ByteArray→Bool→Bool→Option (Int × Bool)
 | 0,_,_,_ => none
 | k + 1,x0,x4,x37 => if x37=true then (some (0,false)) else (understudyref23_number.l0 k x0 x4 0 0)
def understudyref23_number.l0:Nat→ByteArray→Bool→Int→Int→Option (Int × Bool)
 | 0,_,_,_,_ => none
 | k + 1,x0,x4,x5,x6 => if x6 < (x0.size:Int) then (if 0≤x6 then (if (bt x0 x6) < 48 then (some (0,false)) else (if (bt x0 x6) > 57 then (some (0,false)) else (understudyref23_number.l0 k x0 x4 (wrap64 ((wrap64 (10 * x5)) + (((bt x0 x6) - 48) % 256))) (wrap64 (x6 + 1))))) else (none)) else (if x4=true then (some (wrap64 (-x5),true)) else (some (x5,true)))
end
def understudyref23_number.f (k:Nat) (a0:ByteArray):Option (Int × Bool):=if (a0.size:Int) > 0 then (if 0 < (a0.size:Int) then (understudyref23_number.j0 k a0 ((bt a0 0)==45)) else (none)) else (understudyref23_number.j0 k a0 false)
theorem understudyref23_number.mono_l:∀ k,(∀ y0 y1,LeO (understudyref23_number.j0 k y0 y1) (understudyref23_number.j0 (k + 1) y0 y1))∧(∀ y0 y1,LeO (understudyref23_number.j1 k y0 y1) (understudyref23_number.j1 (k + 1) y0 y1))∧(∀ y0 y1 y2,LeO (understudyref23_number.j2 k y0 y1 y2) (understudyref23_number.j2 (k + 1) y0 y1 y2))∧(∀ y0 y1 y2 y3,LeO (understudyref23_number.l0 k y0 y1 y2 y3) (understudyref23_number.l0 (k + 1) y0 y1 y2 y3))
 | 0 => ⟨fun _ _ r h => by simp [understudyref23_number.j0] at h,fun _ _ r h => by simp [understudyref23_number.j1] at h,fun _ _ _ r h => by simp [understudyref23_number.j2] at h,fun _ _ _ _ r h => by simp [understudyref23_number.l0] at h⟩
 | k + 1 => by
  obtain ⟨ih0,ih1,ih2,ih3⟩:=understudyref23_number.mono_l k
  refine ⟨?_,?_,?_,?_⟩
  ·intro y0 y1
   unfold understudyref23_number.j0
   repeat' first
   | (with_reducible exact ih0 _ _)
   | (with_reducible exact ih1 _ _)
   | (with_reducible exact ih2 _ _ _)
   | (with_reducible exact ih3 _ _ _ _)
   | (with_reducible exact LeO.refl _)
   | (with_reducible exact LeO.none _)
   | (with_reducible refine LeO.ite ?_ ?_)
   | (with_reducible refine LeO.bind ?_ (fun _ => ?_))
   | exact ih0 _ _
   | exact ih1 _ _
   | exact ih2 _ _ _
   | exact ih3 _ _ _ _
   | exact LeO.none _
   | refine LeO.ite ?_ ?_
   | refine LeO.bind ?_ (fun _ => ?_)
  ·intro y0 y1
   unfold understudyref23_number.j1
   repeat' first
   | (with_reducible exact ih0 _ _)
   | (with_reducible exact ih1 _ _)
   | (with_reducible exact ih2 _ _ _)
   | (with_reducible exact ih3 _ _ _ _)
   | (with_reducible exact LeO.refl _)
   | (with_reducible exact LeO.none _)
   | (with_reducible refine LeO.ite ?_ ?_)
   | (with_reducible refine LeO.bind ?_ (fun _ => ?_))
   | exact ih0 _ _
   | exact ih1 _ _
   | exact ih2 _ _ _
   | exact ih3 _ _ _ _
   | exact LeO.none _
   | refine LeO.ite ?_ ?_
   | refine LeO.bind ?_ (fun _ => ?_)
  ·intro y0 y1 y2
   unfold understudyref23_number.j2
   repeat' first
   | (with_reducible exact ih0 _ _)
   | (with_reducible exact ih1 _ _)
   | (with_reducible exact ih2 _ _ _)
   | (with_reducible exact ih3 _ _ _ _)
   | (with_reducible exact LeO.refl _)
   | (with_reducible exact LeO.none _)
   | (with_reducible refine LeO.ite ?_ ?_)
   | (with_reducible refine LeO.bind ?_ (fun _ => ?_))
   | exact ih0 _ _
   | exact ih1 _ _
   | exact ih2 _ _ _
   | exact ih3 _ _ _ _
   | exact LeO.none _
   | refine LeO.ite ?_ ?_
   | refine LeO.bind ?_ (fun _ => ?_)
  ·intro y0 y1 y2 y3
   unfold understudyref23_number.l0
   repeat' first
   | (with_reducible exact ih0 _ _)
   | (with_reducible exact ih1 _ _)
   | (with_reducible exact ih2 _ _ _)
   | (with_reducible exact ih3 _ _ _ _)
   | (with_reducible exact LeO.refl _)
   | (with_reducible exact LeO.none _)
   | (with_reducible refine LeO.ite ?_ ?_)
   | (with_reducible refine LeO.bind ?_ (fun _ => ?_))
   | exact ih0 _ _
   | exact ih1 _ _
   | exact ih2 _ _ _
   | exact ih3 _ _ _ _
   | exact LeO.none _
   | refine LeO.ite ?_ ?_
   | refine LeO.bind ?_ (fun _ => ?_)
theorem understudyref23_number.mono:∀ a0 k,LeO (understudyref23_number.f k a0) (understudyref23_number.f (k + 1) a0):=by
 intro a0 k
 obtain ⟨ih0,ih1,ih2,ih3⟩:=understudyref23_number.mono_l k
 unfold understudyref23_number.f
 repeat' first
   | (with_reducible exact ih0 _ _)
   | (with_reducible exact ih1 _ _)
   | (with_reducible exact ih2 _ _ _)
   | (with_reducible exact ih3 _ _ _ _)
   | (with_reducible exact LeO.refl _)
   | (with_reducible exact LeO.none _)
   | (with_reducible refine LeO.ite ?_ ?_)
   | (with_reducible refine LeO.bind ?_ (fun _ => ?_))
   | exact ih0 _ _
   | exact ih1 _ _
   | exact ih2 _ _ _
   | exact ih3 _ _ _ _
   | exact LeO.none _
   | refine LeO.ite ?_ ?_
   | refine LeO.bind ?_ (fun _ => ?_)
set_option maxHeartbeats 80000000 in
set_option maxRecDepth 100000 in
theorem understudyref23_number.calls (k:Nat) (a0:ByteArray) (r1:Int) (r2:Bool) (w:World) (h:understudyref23_number.f k a0=some (r1,r2)) :
  Calls Tryz.prog 24 #[.string a0] w fun e w' => e=.returned (.tuple #[.int .i64 r1,.bool r2])∧Drawn0 w w':=by
 have H:(if (a0.size:Int) > 0 then (if 0 < (a0.size:Int) then (understudyref23_number.j0 k a0 ((bt a0 0)==45)) else (none)) else (understudyref23_number.j0 k a0 false))=some (r1,r2):=h
 clear h
 have HC2:=Aside0.mk H
 clear H
 go_enter Tryz.func24,Tryz.ntmps24
 go_upto_region 1 with (fail)
 go_cut [4] (fun v4 wc => ∃ (kq:Nat) (x4_1:Bool),v4=.bool x4_1∧Aside0 (understudyref23_number.j0 kq a0 x4_1=some (r1,r2))∧Aside0 (kq≤k)∧Drawn0 w wc)
 case first =>
  have H:=HC2.out
  clear HC2
  by_cases c3:(a0.size:Int) > 0
  ·rw [if_pos c3] at H
   have c3b0:decide (0 < (a0.size:Int))=true:=decide_eq_true c3
   have c3b1:decide (0 < a0.size)=true:=decide_eq_true (by omega)
   clear c3
   (first|rw [c3b0]|(simp only [i64_w,i32_w];rw [c3b0])|skip)
   by_cases c4:0 < (a0.size:Int)
   ·rw [if_pos c4] at H
    have c4b0:decide (0 < (a0.size:Int))=true:=decide_eq_true c4
    have c4b1:decide (0 < a0.size)=true:=decide_eq_true (by omega)
    clear c4
    have H':=Aside0.mk H
    clear H
    have p5:0≤(0:Int):=(by omega)
    have q5:0 < a0.size:=(by have:(0:Int) < (a0.size:Int):=of_decide_eq_true (by first|(with_reducible assumption)|assumption);omega)
    have hx5:∀ h:0 < a0.size,((a0[0]'h).toNat:Int)=bt a0 0:=bt_at a0 0
    clear p5
    have qi5:(0 < (a0.size:Int))=True:=eq_true (of_decide_eq_true (by first|(with_reducible assumption)|assumption))
    replace q5:=eq_true q5
    go_wp2
    go_meet
    case rel => exact ⟨_,(((bt a0 0)==45)),(by first|rfl|(simp;done)|(simp [*];done)),H',⟨by first|omega|exact Nat.le_refl _⟩,by repeat (first|exact Drawn0.refl _|apply Drawn0.step)⟩
   ·rw [if_neg c4] at H
    exact absurd H (by simp)
  ·rw [if_neg c3] at H
   have c3b0:decide (0 < (a0.size:Int))=false:=decide_eq_false c3
   have c3b1:decide (0 < a0.size)=false:=decide_eq_false (by omega)
   clear c3
   (first|rw [c3b0]|(simp only [i64_w,i32_w];rw [c3b0])|skip)
   have H':=Aside0.mk H
   clear H
   go_wp2
   go_meet
   case rel => exact ⟨_,(false),(by first|rfl|(simp;done)|(simp [*];done)),H',⟨by first|omega|exact Nat.le_refl _⟩,by repeat (first|exact Drawn0.refl _|apply Drawn0.step)⟩
 case rest =>
  clear HC2
  try clear c2;try clear p2;try clear c3;try clear c3b0;try clear c3b1;try clear c4;try clear c4b0;try clear c4b1;try clear p5;try clear q5;try clear hx5;try clear qi5;try clear p5;try clear q5
  obtain ⟨kq,x4_1,rfl,HA,HJ1,⟨mc1,rfl⟩⟩:=hcut
  cases kq with
  | zero => exact absurd HA.out (by simp [understudyref23_number.j0])
  | succ kj1 =>
   have H:=HA.out
   clear HA
   simp only [understudyref23_number.j0] at H
   have HC6:=Aside0.mk H
   clear H
   go_upto_if 15 with (fail)
   go_cut [0] (fun v0 wc => ∃ (kq:Nat) (x0_5:ByteArray),v0=.string x0_5∧Aside0 (understudyref23_number.j1 kq x0_5 x4_1=some (r1,r2))∧Aside0 (kq≤kj1)∧Drawn0 w wc)
   case first =>
    have H:=HC6.out
    clear HC6
    by_cases c7:x4_1=true
    ·subst c7
     have H1:(if 1≤(a0.size:Int) then (understudyref23_number.j1 kj1 (a0.extract 1 a0.size) true) else (none))=some (r1,r2):=by rw [if_pos rfl] at H;exact H
     clear H
     have H:=H1
     clear H1
     by_cases c8:1≤(a0.size:Int)
     ·rw [if_pos c8] at H
      have c8b0:=eq_true c8
      have c8b1:decide (1≤(a0.size:Int))=true:=decide_eq_true c8
      clear c8
      have H':=Aside0.mk H
      clear H
      go_wp2
      go_meet
      case rel => exact ⟨_,(a0.extract 1 a0.size),(by first|rfl|(simp;done)|(simp [*];done)),H',⟨by have:=HJ1.out;first|omega|exact Nat.le_refl _⟩,by repeat (first|exact Drawn0.refl _|apply Drawn0.step)⟩
     ·rw [if_neg c8] at H
      exact absurd H (by simp)
    ·replace c7:=Bool.eq_false_iff.mpr c7
     subst c7
     have H1:(understudyref23_number.j1 kj1 a0 false)=some (r1,r2):=by rw [if_neg (show ¬ (false=true) by decide)] at H;exact H
     clear H
     have H:=H1
     clear H1
     have H':=Aside0.mk H
     clear H
     go_wp2
     go_meet
     case rel => exact ⟨_,(a0),(by first|rfl|(simp;done)|(simp [*];done)),H',⟨by have:=HJ1.out;first|omega|exact Nat.le_refl _⟩,by repeat (first|exact Drawn0.refl _|apply Drawn0.step)⟩
   case rest =>
    clear HC6
    try clear c1;try clear c2;try clear p2;try clear c3;try clear c3b0;try clear c3b1;try clear c4;try clear c4b0;try clear c4b1;try clear p5;try clear q5;try clear hx5;try clear qi5;try clear c7;try clear c8;try clear c8b0;try clear c8b1;try clear p2;try clear p5;try clear q5
    obtain ⟨kq,x0_5,rfl,HA,HJ5,⟨mc5,rfl⟩⟩:=hcut
    cases kq with
    | zero => exact absurd HA.out (by simp [understudyref23_number.j1])
    | succ kj5 =>
     have H:=HA.out
     clear HA
     simp only [understudyref23_number.j1] at H
     have HC9:=Aside0.mk H
     clear H
     go_upto_region 4 with (fail)
     go_cut [37] (fun v37 wc => ∃ (kq:Nat) (x37_8:Bool),v37=.bool x37_8∧Aside0 (understudyref23_number.j2 kq x0_5 x4_1 x37_8=some (r1,r2))∧Aside0 (kq≤kj5)∧Drawn0 w wc)
     case first =>
      have H:=HC9.out
      clear HC9
      by_cases c10:x0_5.toList=([]:List UInt8)
      ·rw [if_pos c10] at H
       have c10b0:(x0_5.toList==([]:List UInt8))=true:=beq_iff_eq.mpr c10
       have c10b1:(x0_5.toList != ([]:List UInt8))=false:=bne_eq_false_iff_eq.mpr c10
       clear c10
       (first|rw [c10b0]|(simp only [i64_w,i32_w];rw [c10b0])|skip)
       have H':=Aside0.mk H
       clear H
       go_wp2
       go_meet
       case rel => exact ⟨_,(true),(by first|rfl|(simp;done)|(simp [*];done)),H',⟨by have:=HJ1.out;have:=HJ5.out;first|omega|exact Nat.le_refl _⟩,by repeat (first|exact Drawn0.refl _|apply Drawn0.step)⟩
      ·rw [if_neg c10] at H
       have c10b0:(x0_5.toList==([]:List UInt8))=false:=beq_eq_false_iff_ne.mpr c10
       have c10b1:(x0_5.toList != ([]:List UInt8))=true:=bne_iff_ne.mpr c10
       (first|rw [c10b0]|(simp only [i64_w,i32_w];rw [c10b0])|skip)
       by_cases c11:(x0_5.size:Int) > 18
       ·rw [if_pos c11] at H
        have c11b0:decide (18 < (x0_5.size:Int))=true:=decide_eq_true c11
        have c11b1:decide (18 < x0_5.size)=true:=decide_eq_true (by omega)
        clear c11
        have H':=Aside0.mk H
        clear H
        go_wp2
        go_meet
        case rel => exact ⟨_,(true),(by first|rfl|(simp;done)|(simp [*];done)),H',⟨by have:=HJ1.out;have:=HJ5.out;first|omega|exact Nat.le_refl _⟩,by repeat (first|exact Drawn0.refl _|apply Drawn0.step)⟩
       ·rw [if_neg c11] at H
        have c11b0:decide (18 < (x0_5.size:Int))=false:=decide_eq_false c11
        have c11b1:decide (18 < x0_5.size)=false:=decide_eq_false (by omega)
        clear c11
        by_cases c12:0 < (x0_5.size:Int)
        ·rw [if_pos c12] at H
         have c12b0:decide (0 < (x0_5.size:Int))=true:=decide_eq_true c12
         have c12b1:decide (0 < x0_5.size)=true:=decide_eq_true (by omega)
         clear c12
         by_cases c14:(bt x0_5 0)=48
         ·rw [if_pos c14] at H
          have c14b0:((bt x0_5 0)==48)=true:=beq_iff_eq.mpr c14
          have c14b1:((bt x0_5 0) != 48)=false:=bne_eq_false_iff_eq.mpr c14
          clear c14
          by_cases c15:(x0_5.size:Int) > 1
          ·rw [if_pos c15] at H
           have c15b0:decide (1 < (x0_5.size:Int))=true:=decide_eq_true c15
           have c15b1:decide (1 < x0_5.size)=true:=decide_eq_true (by omega)
           clear c15
           have H':=Aside0.mk H
           clear H
           have p13:0≤(0:Int):=(by omega)
           have q13:0 < x0_5.size:=(by have:(0:Int) < (x0_5.size:Int):=of_decide_eq_true (by first|(with_reducible assumption)|assumption);omega)
           have hx13:∀ h:0 < x0_5.size,((x0_5[0]'h).toNat:Int)=bt x0_5 0:=bt_at x0_5 0
           clear p13
           have qi13:(0 < (x0_5.size:Int))=True:=eq_true (of_decide_eq_true (by first|(with_reducible assumption)|assumption))
           replace q13:=eq_true q13
           go_wp2
           go_meet
           case rel => exact ⟨_,(true),(by first|rfl|(simp;done)|(simp [*];done)),H',⟨by have:=HJ1.out;have:=HJ5.out;first|omega|exact Nat.le_refl _⟩,by repeat (first|exact Drawn0.refl _|apply Drawn0.step)⟩
          ·rw [if_neg c15] at H
           have c15b0:decide (1 < (x0_5.size:Int))=false:=decide_eq_false c15
           have c15b1:decide (1 < x0_5.size)=false:=decide_eq_false (by omega)
           clear c15
           have H':=Aside0.mk H
           clear H
           have p13:0≤(0:Int):=(by omega)
           have q13:0 < x0_5.size:=(by have:(0:Int) < (x0_5.size:Int):=of_decide_eq_true (by first|(with_reducible assumption)|assumption);omega)
           have hx13:∀ h:0 < x0_5.size,((x0_5[0]'h).toNat:Int)=bt x0_5 0:=bt_at x0_5 0
           clear p13
           have qi13:(0 < (x0_5.size:Int))=True:=eq_true (of_decide_eq_true (by first|(with_reducible assumption)|assumption))
           replace q13:=eq_true q13
           go_wp2
           go_meet
           case rel => exact ⟨_,(x4_1),(by first|rfl|(simp;done)|(simp [*];done)),H',⟨by have:=HJ1.out;have:=HJ5.out;first|omega|exact Nat.le_refl _⟩,by repeat (first|exact Drawn0.refl _|apply Drawn0.step)⟩
         ·rw [if_neg c14] at H
          have c14b0:((bt x0_5 0)==48)=false:=beq_eq_false_iff_ne.mpr c14
          have c14b1:((bt x0_5 0) != 48)=true:=bne_iff_ne.mpr c14
          have H':=Aside0.mk H
          clear H
          have p13:0≤(0:Int):=(by omega)
          have q13:0 < x0_5.size:=(by have:(0:Int) < (x0_5.size:Int):=of_decide_eq_true (by first|(with_reducible assumption)|assumption);omega)
          have hx13:∀ h:0 < x0_5.size,((x0_5[0]'h).toNat:Int)=bt x0_5 0:=bt_at x0_5 0
          clear p13
          have qi13:(0 < (x0_5.size:Int))=True:=eq_true (of_decide_eq_true (by first|(with_reducible assumption)|assumption))
          replace q13:=eq_true q13
          go_wp2
          go_meet
          case rel => exact ⟨_,(false),(by first|rfl|(simp;done)|(simp [*];done)),H',⟨by have:=HJ1.out;have:=HJ5.out;first|omega|exact Nat.le_refl _⟩,by repeat (first|exact Drawn0.refl _|apply Drawn0.step)⟩
        ·rw [if_neg c12] at H
         exact absurd H (by simp)
     case rest =>
      clear HC9
      try clear c1;try clear p1;try clear q1;try clear hx1;try clear qi1;try clear c2;try clear p2;try clear c3;try clear c3b0;try clear c3b1;try clear c4;try clear c4b0;try clear c4b1;try clear c5;try clear p5;try clear q5;try clear hx5;try clear qi5;try clear c7;try clear c8;try clear c8b0;try clear c8b1;try clear c10;try clear c10b0;try clear c10b1;try clear c11;try clear c11b0;try clear c11b1;try clear c12;try clear c12b0;try clear c12b1;try clear p13;try clear q13;try clear hx13;try clear qi13;try clear c14;try clear c14b0;try clear c14b1;try clear c15;try clear c15b0;try clear c15b1;try clear p13;try clear p2;try clear p5;try clear q13;try clear q5
      obtain ⟨kq,x37_8,rfl,HA,HJ8,⟨mc8,rfl⟩⟩:=hcut
      cases kq with
      | zero => exact absurd HA.out (by simp [understudyref23_number.j2])
      | succ kj8 =>
       have H:=HA.out
       clear HA
       simp only [understudyref23_number.j2] at H
       by_cases c16:x37_8=true
       ·subst c16
        have H1:(some (0,false))=some (r1,r2):=by rw [if_pos rfl] at H;exact H
        clear H
        have H:=H1
        clear H1
        simp only [Option.some.injEq,Prod.mk.injEq] at H
        obtain ⟨rfl,rfl⟩:=H
        go_wp2
        go_ret2
        exact ⟨by first|rfl|(simp;done)|(simp [*];done),by repeat (first|exact Drawn0.refl _|apply Drawn0.step)⟩
       ·replace c16:=Bool.eq_false_iff.mpr c16
        subst c16
        have H1:(understudyref23_number.l0 kj8 x0_5 x4_1 0 0)=some (r1,r2):=by rw [if_neg (show ¬ (false=true) by decide)] at H;exact H
        clear H
        have H:=H1
        clear H1
        have H':=Aside0.mk H
        clear H
        go_wp2
        go_loopg [5,6] kj8 (fun kq v5 v6 w' => ∃ (x5_4:Int) (x6_4:Int),v5=.int .i64 x5_4∧v6=.int .i64 x6_4∧Aside0 (understudyref23_number.l0 kq x0_5 x4_1 x5_4 x6_4=some (r1,r2))∧Aside0 (kq≤kj8)∧Drawn0 w w')
        case atStart => exact ⟨(0),(0),(by first|rfl|(simp;done)|(simp [*];done)),(by first|rfl|(simp;done)|(simp [*];done)),H',⟨Nat.le_refl _⟩,by repeat (first|exact Drawn0.refl _|apply Drawn0.step)⟩
        case round =>
         clear H'
         try clear c1;try clear p1;try clear q1;try clear hx1;try clear qi1;try clear c2;try clear p2;try clear c3;try clear c3b0;try clear c3b1;try clear c4;try clear c4b0;try clear c4b1;try clear c5;try clear p5;try clear q5;try clear hx5;try clear qi5;try clear c7;try clear c8;try clear c8b0;try clear c8b1;try clear c10;try clear c10b0;try clear c10b1;try clear c11;try clear c11b0;try clear c11b1;try clear c12;try clear c12b0;try clear c12b1;try clear p13;try clear q13;try clear hx13;try clear qi13;try clear c14;try clear c14b0;try clear c14b1;try clear c15;try clear c15b0;try clear c15b1;try clear c16;try clear p1;try clear p13;try clear p2;try clear p5;try clear q1;try clear q13;try clear q5
         obtain ⟨x5_4,x6_4,rfl,rfl,HA,HK4,⟨m4,rfl⟩⟩:=hrel
         cases gk with
         | zero => exact absurd HA.out (by simp [understudyref23_number.l0])
         | succ k4 =>
          have H:=HA.out
          clear HA
          simp only [understudyref23_number.l0] at H
          by_cases c17:x6_4 < (x0_5.size:Int)
          ·rw [if_pos c17] at H
           have c17b0:decide (x6_4 < (x0_5.size:Int))=true:=decide_eq_true c17
           clear c17
           by_cases c18:0≤x6_4
           ·rw [if_pos c18] at H
            have c18b0:decide (0≤x6_4)=true:=decide_eq_true c18
            clear c18
            by_cases c20:(bt x0_5 x6_4) < 48
            ·rw [if_pos c20] at H
             have c20b0:decide ((bt x0_5 x6_4) < 48)=true:=decide_eq_true c20
             clear c20
             simp only [Option.some.injEq,Prod.mk.injEq] at H
             obtain ⟨rfl,rfl⟩:=H
             have p19:0≤(x6_4:Int):=of_decide_eq_true (by first|(with_reducible assumption)|assumption)
             have q19:x6_4 < (x0_5.size:Int):=of_decide_eq_true (by first|(with_reducible assumption)|assumption)
             have hx19:=bt_at x0_5 x6_4
             replace p19:=eq_true p19
             replace q19:=eq_true q19
             go_wp2
             go_ret2
             exact ⟨by first|rfl|(simp;done)|(simp [*];done),by repeat (first|exact Drawn0.refl _|apply Drawn0.step)⟩
            ·rw [if_neg c20] at H
             have c20b0:decide ((bt x0_5 x6_4) < 48)=false:=decide_eq_false c20
             clear c20
             by_cases c22:(bt x0_5 x6_4) > 57
             ·rw [if_pos c22] at H
              have c22b0:decide (57 < (bt x0_5 x6_4))=true:=decide_eq_true c22
              clear c22
              simp only [Option.some.injEq,Prod.mk.injEq] at H
              obtain ⟨rfl,rfl⟩:=H
              have p19:0≤(x6_4:Int):=of_decide_eq_true (by first|(with_reducible assumption)|assumption)
              have q19:x6_4 < (x0_5.size:Int):=of_decide_eq_true (by first|(with_reducible assumption)|assumption)
              have hx19:=bt_at x0_5 x6_4
              replace p19:=eq_true p19
              replace q19:=eq_true q19
              have p21:0≤(x6_4:Int):=of_decide_eq_true (by first|(with_reducible assumption)|assumption)
              have q21:x6_4 < (x0_5.size:Int):=of_decide_eq_true (by first|(with_reducible assumption)|assumption)
              have hx21:=bt_at x0_5 x6_4
              replace p21:=eq_true p21
              replace q21:=eq_true q21
              go_wp2
              go_ret2
              exact ⟨by first|rfl|(simp;done)|(simp [*];done),by repeat (first|exact Drawn0.refl _|apply Drawn0.step)⟩
             ·rw [if_neg c22] at H
              have c22b0:decide (57 < (bt x0_5 x6_4))=false:=decide_eq_false c22
              clear c22
              have H':=Aside0.mk H
              clear H
              have p19:0≤(x6_4:Int):=of_decide_eq_true (by first|(with_reducible assumption)|assumption)
              have q19:x6_4 < (x0_5.size:Int):=of_decide_eq_true (by first|(with_reducible assumption)|assumption)
              have hx19:=bt_at x0_5 x6_4
              replace p19:=eq_true p19
              replace q19:=eq_true q19
              have p21:0≤(x6_4:Int):=of_decide_eq_true (by first|(with_reducible assumption)|assumption)
              have q21:x6_4 < (x0_5.size:Int):=of_decide_eq_true (by first|(with_reducible assumption)|assumption)
              have hx21:=bt_at x0_5 x6_4
              replace p21:=eq_true p21
              replace q21:=eq_true q21
              have p23:0≤(x6_4:Int):=of_decide_eq_true (by first|(with_reducible assumption)|assumption)
              have q23:x6_4 < (x0_5.size:Int):=of_decide_eq_true (by first|(with_reducible assumption)|assumption)
              have hx23:=bt_at x0_5 x6_4
              replace p23:=eq_true p23
              replace q23:=eq_true q23
              go_wp2
              go_roundg k4
              case measure => have:=HJ1.out;have:=HJ5.out;have:=HJ8.out;have:=HK4.out;omega
              case rel => exact ⟨(wrap64 ((wrap64 (10 * x5_4)) + (((bt x0_5 x6_4) - 48) % 256))),(wrap64 (x6_4 + 1)),(by first|rfl|(simp;done)|(simp [*];done)),(by first|rfl|(simp;done)|(simp [*];done)),H',⟨by have:=HJ1.out;have:=HJ5.out;have:=HJ8.out;have:=HK4.out;omega⟩,by repeat (first|exact Drawn0.refl _|apply Drawn0.step)⟩
           ·rw [if_neg c18] at H
            exact absurd H (by simp)
          ·rw [if_neg c17] at H
           have c17b0:decide (x6_4 < (x0_5.size:Int))=false:=decide_eq_false c17
           clear c17
           by_cases c24:x4_1=true
           ·subst c24
            have H1:(some (wrap64 (-x5_4),true))=some (r1,r2):=by rw [if_pos rfl] at H;exact H
            clear H
            have H:=H1
            clear H1
            simp only [Option.some.injEq,Prod.mk.injEq] at H
            obtain ⟨rfl,rfl⟩:=H
            go_wp2
            go_ret2
            exact ⟨by first|rfl|(simp;done)|(simp [*];done),by repeat (first|exact Drawn0.refl _|apply Drawn0.step)⟩
           ·replace c24:=Bool.eq_false_iff.mpr c24
            subst c24
            have H1:(some (x5_4,true))=some (r1,r2):=by rw [if_neg (show ¬ (false=true) by decide)] at H;exact H
            clear H
            have H:=H1
            clear H1
            simp only [Option.some.injEq,Prod.mk.injEq] at H
            obtain ⟨rfl,rfl⟩:=H
            go_wp2
            go_ret2
            exact ⟨by first|rfl|(simp;done)|(simp [*];done),by repeat (first|exact Drawn0.refl _|apply Drawn0.step)⟩
end Go.Proofs.YtpofikjkccljlaaGreatDoor.Px
namespace Go.Proofs.YtpofikjkccljlaaGreatDoor.Px
open Go.RowKit Go.Proofs.YtpofikjkccljlaaGreatDoorW.PrintWords Go.Proofs.YtpofikjkccljlaaGreatDoorW.PrintLast Go.Proofs.YtpofikjkccljlaaGreatDoorW.PrintMore
attribute [local go_sem] max2_int min2_int max_two min_two max_three min_three max_four min_four
set_option linter.unusedVariables false
set_option linter.unusedSimpArgs false
mutual
def understudyref23_Line.j0:Nat→List ByteArray→Bool→Option (ByteArray × List Int × List Int × Int)
 | 0,_,_ => none
 | k + 1,x6,x23 => if x23=true then (if 1 < (x6.length:Int) then ((understudyref23_bytes.f k (rdOf ByteArray.empty x6 1)).bind fun bt162 => (if bt162.2=true then (if 0 < (x6.length:Int) then (some (rdOf ByteArray.empty x6 0,bt162.1,([]:List Int),0)) else (none)) else (some ((⟨#[]⟩:ByteArray),([]:List Int),([]:List Int),4)))) else (none)) else (if 0 < (x6.length:Int) then ((understudyref23_many.f k (rdOf ByteArray.empty x6 0)).bind fun t168 => (if t168=(wrap64 ((x6.length:Int) - 1)) then (understudyref23_Line.l0 k x6 ([]:List Int) 1) else (some ((⟨#[]⟩:ByteArray),([]:List Int),([]:List Int),4)))) else (none))
def understudyref23_Line.l0:Nat→List ByteArray→List Int→Int→Option (ByteArray × List Int × List Int × Int)
 | 0,_,_,_ => none
 | k + 1,x6,x9,x10 => if x10 < (x6.length:Int) then (if 0≤x10 then ((understudyref23_number.f k (rdOf ByteArray.empty x6 x10)).bind fun bt170 => (if bt170.2=true then (if x9.length < 17592186044416 then (understudyref23_Line.l0 k x6 (x9++[bt170.1]) (wrap64 (x10 + 1))) else (none)) else (some ((⟨#[]⟩:ByteArray),([]:List Int),([]:List Int),4)))) else (none)) else (if 0 < (x6.length:Int) then (some (rdOf ByteArray.empty x6 0,([]:List Int),x9,0)) else (none))
end
def understudyref23_Line.f (k:Nat) (a0:ByteArray):Option (ByteArray × List Int × List Int × Int):=(understudyref23_words.f k a0).bind fun t157 => (if 0 < (t157.length:Int) then (if (rdOf ByteArray.empty t157 0).toList=([102,105,108,101]:List UInt8) then (understudyref23_Line.j0 k t157 ((t157.length:Int)==2)) else (understudyref23_Line.j0 k t157 false)) else (none))
theorem understudyref23_Line.mono_l:∀ k,(∀ y0 y1,LeO (understudyref23_Line.j0 k y0 y1) (understudyref23_Line.j0 (k + 1) y0 y1))∧(∀ y0 y1 y2,LeO (understudyref23_Line.l0 k y0 y1 y2) (understudyref23_Line.l0 (k + 1) y0 y1 y2))
 | 0 => ⟨fun _ _ r h => by simp [understudyref23_Line.j0] at h,fun _ _ _ r h => by simp [understudyref23_Line.l0] at h⟩
 | k + 1 => by
  obtain ⟨ih0,ih1⟩:=understudyref23_Line.mono_l k
  refine ⟨?_,?_⟩
  ·intro y0 y1
   unfold understudyref23_Line.j0
   repeat' first
   | (with_reducible exact ih0 _ _)
   | (with_reducible exact ih1 _ _ _)
   | (with_reducible exact understudyref23_bytes.mono _ _)
   | (with_reducible exact understudyref23_many.mono _ _)
   | (with_reducible exact understudyref23_number.mono _ _)
   | (with_reducible exact understudyref23_words.mono _ _)
   | (with_reducible exact LeO.refl _)
   | (with_reducible exact LeO.none _)
   | (with_reducible refine LeO.ite ?_ ?_)
   | (with_reducible refine LeO.bind ?_ (fun _ => ?_))
   | exact ih0 _ _
   | exact ih1 _ _ _
   | exact understudyref23_bytes.mono _ _
   | exact understudyref23_many.mono _ _
   | exact understudyref23_number.mono _ _
   | exact understudyref23_words.mono _ _
   | exact LeO.none _
   | refine LeO.ite ?_ ?_
   | refine LeO.bind ?_ (fun _ => ?_)
  ·intro y0 y1 y2
   unfold understudyref23_Line.l0
   repeat' first
   | (with_reducible exact ih0 _ _)
   | (with_reducible exact ih1 _ _ _)
   | (with_reducible exact understudyref23_bytes.mono _ _)
   | (with_reducible exact understudyref23_many.mono _ _)
   | (with_reducible exact understudyref23_number.mono _ _)
   | (with_reducible exact understudyref23_words.mono _ _)
   | (with_reducible exact LeO.refl _)
   | (with_reducible exact LeO.none _)
   | (with_reducible refine LeO.ite ?_ ?_)
   | (with_reducible refine LeO.bind ?_ (fun _ => ?_))
   | exact ih0 _ _
   | exact ih1 _ _ _
   | exact understudyref23_bytes.mono _ _
   | exact understudyref23_many.mono _ _
   | exact understudyref23_number.mono _ _
   | exact understudyref23_words.mono _ _
   | exact LeO.none _
   | refine LeO.ite ?_ ?_
   | refine LeO.bind ?_ (fun _ => ?_)
theorem understudyref23_Line.mono:∀ a0 k,LeO (understudyref23_Line.f k a0) (understudyref23_Line.f (k + 1) a0):=by
 intro a0 k
 obtain ⟨ih0,ih1⟩:=understudyref23_Line.mono_l k
 unfold understudyref23_Line.f
 repeat' first
   | (with_reducible exact ih0 _ _)
   | (with_reducible exact ih1 _ _ _)
   | (with_reducible exact understudyref23_bytes.mono _ _)
   | (with_reducible exact understudyref23_many.mono _ _)
   | (with_reducible exact understudyref23_number.mono _ _)
   | (with_reducible exact understudyref23_words.mono _ _)
   | (with_reducible exact LeO.refl _)
   | (with_reducible exact LeO.none _)
   | (with_reducible refine LeO.ite ?_ ?_)
   | (with_reducible refine LeO.bind ?_ (fun _ => ?_))
   | exact ih0 _ _
   | exact ih1 _ _ _
   | exact understudyref23_bytes.mono _ _
   | exact understudyref23_many.mono _ _
   | exact understudyref23_number.mono _ _
   | exact understudyref23_words.mono _ _
   | exact LeO.none _
   | refine LeO.ite ?_ ?_
   | refine LeO.bind ?_ (fun _ => ?_)
set_option maxHeartbeats 80000000 in
set_option maxRecDepth 100000 in
theorem understudyref23_Line.calls (k:Nat) (a0:ByteArray) (r1:ByteArray) (r2:List Int) (r3:List Int) (r4:Int) (w:World) (h:understudyref23_Line.f k a0=some (r1,r2,r3,r4)) :
  Calls Tryz.prog 11 #[.string a0] w fun e w' => ∃ v1_ v2_:Value,e=.returned (.tuple #[.string r1,v1_,v2_,.int .i64 r4])∧Kd.R (Kd.int .u8) 5 w' w.heap.size (fun _ => True) v1_ r2∧Kd.R (Kd.int .i64) 2 w' w.heap.size (fun _ => True) v2_ r3∧Below w.heap.size w w':=by
 have HB:=Aside0.mk (Below.refl w.heap.size w)
 have H:((understudyref23_words.f k a0).bind fun t157 => (if 0 < (t157.length:Int) then (if (rdOf ByteArray.empty t157 0).toList=([102,105,108,101]:List UInt8) then (understudyref23_Line.j0 k t157 ((t157.length:Int)==2)) else (understudyref23_Line.j0 k t157 false)) else (none)))=some (r1,r2,r3,r4):=h
 clear h
 replace H:=Option.bind_eq_some_iff.mp H
 obtain ⟨t157,A20,H⟩:=H
 replace H:(if 0 < (t157.length:Int) then (if (rdOf ByteArray.empty t157 0).toList=([102,105,108,101]:List UInt8) then (understudyref23_Line.j0 k t157 ((t157.length:Int)==2)) else (understudyref23_Line.j0 k t157 false)) else (none))=some (r1,r2,r3,r4):=H
 have A2:=Aside0.mk A20
 clear A20
 have HC3:=Aside0.mk H
 clear H
 go_enter Tryz.func11,Tryz.ntmps11
 go_upto_region 2 with (first|((with_reducible refine gate_callee (f:=21) rfl ?_);refine goesL_ (some 14) rfl rfl Tryz.func21 (by kernel_rfl) rfl #[.string a0] rfl (by (try simp only [List.map_toArray,List.map_cons,List.map_nil]);first|done|rfl|(simp only [List.length_drop,List.length_take];rfl)) ?_;(with_reducible refine (understudyref23_words.calls k a0 t157 _ A2.out).mono ?_);rintro e w4 ⟨v158,rfl,ho0,hb⟩;refine ⟨_,rfl,?_⟩;have n0_:=Aside0.mk (Kd.R_lower ho0 (below_size (by repeat (first|(with_reducible first|exact HB.out|apply below_alloc|apply pw_below_drewN|apply below_drew1)|exact HB.out))));have n1_:=Aside0.mk (below_step (by repeat (first|(with_reducible first|exact HB.out|apply below_alloc|apply pw_below_drewN|apply below_drew1)|exact HB.out)) hb);clear HB;have HO159:=n0_;have HB:=n1_;clear n0_ n1_;(try clear hb);(try clear hb2);(try clear hk);(try clear hi);(try clear ho0)))
 (try simp only [Act.put,List.setIfInBounds_toArray,List.set_cons_zero,List.set_cons_succ])
 go_cut [23] (fun v23 wc => ∃ (kq:Nat) (x23_2:Bool),v23=.bool x23_2∧Aside0 (understudyref23_Line.j0 kq t157 x23_2=some (r1,r2,r3,r4))∧Aside0 (kq≤k)∧Aside0 (Kd.R Kd.string 9 wc w.heap.size (fun _ => True) v158 t157)∧Aside0 (Below w.heap.size w wc))
 case first =>
  have H:=HC3.out
  clear HC3
  by_cases c5:0 < (t157.length:Int)
  ·rw [if_pos c5] at H
   have c5b0:decide (0 < (t157.length:Int))=true:=decide_eq_true c5
   have c5b1:decide (0 < t157.length)=true:=decide_eq_true (by omega)
   clear c5
   (first|rw [c5b0]|(simp only [i64_w,i32_w];rw [c5b0])|skip)
   by_cases c6:(rdOf ByteArray.empty t157 0).toList=([102,105,108,101]:List UInt8)
   ·rw [if_pos c6] at H
    have c6b0:((rdOf ByteArray.empty t157 0).toList==([102,105,108,101]:List UInt8))=true:=beq_iff_eq.mpr c6
    have c6b1:((rdOf ByteArray.empty t157 0).toList != ([102,105,108,101]:List UInt8))=false:=bne_eq_false_iff_eq.mpr c6
    clear c6
    have H':=Aside0.mk H
    clear H
    obtain ⟨Ao7,co7,eo7⟩:=Kd.R_slice HO159.out
    subst eo7
    have p160:0≤(0:Int):=(by omega)
    have q160:0 < (t157.length:Int):=of_decide_eq_true (by first|(with_reducible assumption)|assumption)
    obtain ⟨ad160,e160,hx160_0⟩:=Kd.at_string (Kd.R_reads' HO159.out).2.2 0 p160 q160
    cases e160
    have qi160:(0 < t157.length)=True:=eq_true (by omega)
    (try rw [show ((0:Int)).toNat=0 from rfl] at hx160_0)
    (try rw [Addr.add_zero'] at hx160_0)
    replace p160:=eq_true p160
    replace q160:=eq_true q160
    go_wp2
    go_meet
    case rel => exact ⟨_,(((t157.length:Int)==2)),(by first|rfl|(simp;done)|(simp [*];done)),H',⟨by first|omega|exact Nat.le_refl _⟩,⟨by (with_reducible repeat (first|apply Kd.R_alloc|apply Kd.R_drewN|apply Kd.R_drew));exact HO159.out⟩,⟨by repeat (first|(with_reducible first|exact HB.out|apply below_alloc|apply pw_below_drewN|apply below_drew1)|exact HB.out)⟩⟩
   ·rw [if_neg c6] at H
    have c6b0:((rdOf ByteArray.empty t157 0).toList==([102,105,108,101]:List UInt8))=false:=beq_eq_false_iff_ne.mpr c6
    have c6b1:((rdOf ByteArray.empty t157 0).toList != ([102,105,108,101]:List UInt8))=true:=bne_iff_ne.mpr c6
    have H':=Aside0.mk H
    clear H
    obtain ⟨Ao8,co8,eo8⟩:=Kd.R_slice HO159.out
    subst eo8
    have p160:0≤(0:Int):=(by omega)
    have q160:0 < (t157.length:Int):=of_decide_eq_true (by first|(with_reducible assumption)|assumption)
    obtain ⟨ad160,e160,hx160_0⟩:=Kd.at_string (Kd.R_reads' HO159.out).2.2 0 p160 q160
    cases e160
    have qi160:(0 < t157.length)=True:=eq_true (by omega)
    (try rw [show ((0:Int)).toNat=0 from rfl] at hx160_0)
    (try rw [Addr.add_zero'] at hx160_0)
    replace p160:=eq_true p160
    replace q160:=eq_true q160
    go_wp2
    go_meet
    case rel => exact ⟨_,(false),(by first|rfl|(simp;done)|(simp [*];done)),H',⟨by first|omega|exact Nat.le_refl _⟩,⟨by (with_reducible repeat (first|apply Kd.R_alloc|apply Kd.R_drewN|apply Kd.R_drew));exact HO159.out⟩,⟨by repeat (first|(with_reducible first|exact HB.out|apply below_alloc|apply pw_below_drewN|apply below_drew1)|exact HB.out)⟩⟩
  ·rw [if_neg c5] at H
   exact absurd H (by simp)
 case rest =>
  clear HC3
  try clear c1;try clear p1;try clear q1;try clear hx1;try clear qi1;try clear c2;try clear p2;try clear c5;try clear c5b0;try clear c5b1;try clear c6;try clear c6b0;try clear c6b1;try clear hx160_0;try clear p160;try clear q160
  obtain ⟨kq,x23_2,rfl,HA,HJ2,HO_6,HB⟩:=hcut
  cases kq with
  | zero => exact absurd HA.out (by simp [understudyref23_Line.j0])
  | succ kj2 =>
   have H:=HA.out
   clear HA
   simp only [understudyref23_Line.j0] at H
   by_cases c9:x23_2=true
   ·subst c9
    have H1:(if 1 < (t157.length:Int) then ((understudyref23_bytes.f kj2 (rdOf ByteArray.empty t157 1)).bind fun bt162 => (if bt162.2=true then (if 0 < (t157.length:Int) then (some (rdOf ByteArray.empty t157 0,bt162.1,([]:List Int),0)) else (none)) else (some ((⟨#[]⟩:ByteArray),([]:List Int),([]:List Int),4)))) else (none))=some (r1,r2,r3,r4):=by rw [if_pos rfl] at H;exact H
    clear H
    have H:=H1
    clear H1
    by_cases c10:1 < (t157.length:Int)
    ·rw [if_pos c10] at H
     have c10b0:decide (1 < (t157.length:Int))=true:=decide_eq_true c10
     have c10b1:decide (1 < t157.length)=true:=decide_eq_true (by omega)
     clear c10
     replace H:=Option.bind_eq_some_iff.mp H
     obtain ⟨⟨t162,t163⟩,A110,H⟩:=H
     replace H:(if t163=true then (if 0 < (t157.length:Int) then (some (rdOf ByteArray.empty t157 0,t162,([]:List Int),0)) else (none)) else (some ((⟨#[]⟩:ByteArray),([]:List Int),([]:List Int),4)))=some (r1,r2,r3,r4):=H
     have A11:=Aside0.mk A110
     clear A110
     by_cases c12:t163=true
     ·subst c12
      have H1:(if 0 < (t157.length:Int) then (some (rdOf ByteArray.empty t157 0,t162,([]:List Int),0)) else (none))=some (r1,r2,r3,r4):=by rw [if_pos rfl] at H;exact H
      clear H
      have H:=H1
      clear H1
      by_cases c13:0 < (t157.length:Int)
      ·rw [if_pos c13] at H
       have c13b0:decide (0 < (t157.length:Int))=true:=decide_eq_true c13
       have c13b1:decide (0 < t157.length)=true:=decide_eq_true (by omega)
       clear c13
       simp only [Option.some.injEq,Prod.mk.injEq] at H
       obtain ⟨rfl,rfl,rfl,rfl⟩:=H
       obtain ⟨Ao14,co14,eo14⟩:=Kd.R_slice HO_6.out
       subst eo14
       have p161:0≤(1:Int):=(by omega)
       have q161:1 < (t157.length:Int):=of_decide_eq_true (by first|(with_reducible assumption)|assumption)
       obtain ⟨ad161,e161,hx161_0⟩:=Kd.at_string (Kd.R_reads' HO_6.out).2.2 1 p161 q161
       cases e161
       (try simp only [show (1:Int).toNat=1 from rfl,Nat.reduceMul,Nat.reduceEqDiff,Go.Addr.add,↓reduceIte] at hx161_0)
       have qi161:(1 < t157.length)=True:=eq_true (by omega)
       (try rw [show ((1:Int)).toNat=1 from rfl] at hx161_0)
       replace p161:=eq_true p161
       replace q161:=eq_true q161
       go_wp2_with (first|((with_reducible refine gate_callee (f:=22) rfl ?_);refine goesL_ (some 28) rfl rfl Tryz.func22 (by kernel_rfl) rfl #[.string (rdOf ByteArray.empty t157 1)] rfl (by (try simp only [List.map_toArray,List.map_cons,List.map_nil]);first|done|rfl|(simp only [List.length_drop,List.length_take];rfl)) ?_;(with_reducible refine (understudyref23_bytes.calls kj2 (rdOf ByteArray.empty t157 1) t162 true _ A11.out).mono ?_);rintro e w15 ⟨v164,rfl,ho0,hb⟩;refine ⟨_,rfl,?_⟩;have n0_:=Aside0.mk (Kd.R_below (by (with_reducible repeat (first|apply Kd.R_alloc|apply Kd.R_drewN|apply Kd.R_drew));exact HO_6.out) hb);have n1_:=Aside0.mk (Kd.R_lower ho0 (below_size (by repeat (first|(with_reducible first|exact HB.out|apply below_alloc|apply pw_below_drewN|apply below_drew1)|exact HB.out))));have n2_:=Aside0.mk (below_step (by repeat (first|(with_reducible first|exact HB.out|apply below_alloc|apply pw_below_drewN|apply below_drew1)|exact HB.out)) hb);clear HO_6;clear HB;have HO_6:=n0_;have HO165:=n1_;have HB:=n2_;clear n0_ n1_ n2_;(try clear hb);(try clear hb2);(try clear hk);(try clear hi);(try clear ho0);have p166:0≤(0:Int):=(by omega);have q166:0 < (t157.length:Int):=of_decide_eq_true (by first|(with_reducible assumption)|assumption);obtain ⟨ad166,e166,hx166_0⟩:=Kd.at_string (Kd.R_reads' HO_6.out).2.2 0 p166 q166;obtain rfl:ad161=ad166:=(by injection e166);have qi166:(0 < t157.length)=True:=eq_true (by omega);(try rw [show ((0:Int)).toNat=0 from rfl] at hx166_0);(try rw [Addr.add_zero'] at hx166_0);replace p166:=eq_true p166;replace q166:=eq_true q166))
       refine bodyPost_ret (results_list (rs:=[.tmp 2,.tmp 3,.tmp 4,.tmp 5]) rfl (by simp) (.tmp (.tmp (.tmp (.tmp .nil))))) rfl ?_
       exact ⟨_,_,by first|rfl|(simp [errW_none,errW_some] <;> rfl)|(simp [*,errW_none,errW_some] <;> rfl),by (with_reducible repeat (first|apply Kd.R_alloc|apply Kd.R_drewN|apply Kd.R_drew));exact HO165.out,by first|exact Kd.R_nil _ _ _ _ _|exact Kd.N_nil _ _ _ _ _|exact Kd.V_nil _ _ _ _ _|exact Kd.Q_nil _ _ _ _ _|exact Kd.S_nil _ _ _ _ _,by repeat (first|(with_reducible first|exact HB.out|apply below_alloc|apply pw_below_drewN|apply below_drew1)|exact HB.out)⟩
      ·rw [if_neg c13] at H
       exact absurd H (by simp)
     ·replace c12:=Bool.eq_false_iff.mpr c12
      subst c12
      have H1:(some ((⟨#[]⟩:ByteArray),([]:List Int),([]:List Int),4))=some (r1,r2,r3,r4):=by rw [if_neg (show ¬ (false=true) by decide)] at H;exact H
      clear H
      have H:=H1
      clear H1
      simp only [Option.some.injEq,Prod.mk.injEq] at H
      obtain ⟨rfl,rfl,rfl,rfl⟩:=H
      obtain ⟨Ao16,co16,eo16⟩:=Kd.R_slice HO_6.out
      subst eo16
      have p161:0≤(1:Int):=(by omega)
      have q161:1 < (t157.length:Int):=of_decide_eq_true (by first|(with_reducible assumption)|assumption)
      obtain ⟨ad161,e161,hx161_0⟩:=Kd.at_string (Kd.R_reads' HO_6.out).2.2 1 p161 q161
      cases e161
      (try simp only [show (1:Int).toNat=1 from rfl,Nat.reduceMul,Nat.reduceEqDiff,Go.Addr.add,↓reduceIte] at hx161_0)
      have qi161:(1 < t157.length)=True:=eq_true (by omega)
      (try rw [show ((1:Int)).toNat=1 from rfl] at hx161_0)
      replace p161:=eq_true p161
      replace q161:=eq_true q161
      go_wp2_with (first|((with_reducible refine gate_callee (f:=22) rfl ?_);refine goesL_ (some 28) rfl rfl Tryz.func22 (by kernel_rfl) rfl #[.string (rdOf ByteArray.empty t157 1)] rfl (by (try simp only [List.map_toArray,List.map_cons,List.map_nil]);first|done|rfl|(simp only [List.length_drop,List.length_take];rfl)) ?_;(with_reducible refine (understudyref23_bytes.calls kj2 (rdOf ByteArray.empty t157 1) t162 false _ A11.out).mono ?_);rintro e w17 ⟨v164,rfl,ho0,hb⟩;refine ⟨_,rfl,?_⟩;have n0_:=Aside0.mk (Kd.R_below (by (with_reducible repeat (first|apply Kd.R_alloc|apply Kd.R_drewN|apply Kd.R_drew));exact HO_6.out) hb);have n1_:=Aside0.mk (Kd.R_lower ho0 (below_size (by repeat (first|(with_reducible first|exact HB.out|apply below_alloc|apply pw_below_drewN|apply below_drew1)|exact HB.out))));have n2_:=Aside0.mk (below_step (by repeat (first|(with_reducible first|exact HB.out|apply below_alloc|apply pw_below_drewN|apply below_drew1)|exact HB.out)) hb);clear HO_6;clear HB;have HO_6:=n0_;have HO165:=n1_;have HB:=n2_;clear n0_ n1_ n2_;(try clear hb);(try clear hb2);(try clear hk);(try clear hi);(try clear ho0)))
      refine bodyPost_ret (results_list (rs:=[.tmp 2,.tmp 3,.tmp 4,.tmp 5]) rfl (by simp) (.tmp (.tmp (.tmp (.tmp .nil))))) rfl ?_
      exact ⟨_,_,by first|rfl|(simp [errW_none,errW_some] <;> rfl)|(simp [*,errW_none,errW_some] <;> rfl),by first|exact Kd.R_nil _ _ _ _ _|exact Kd.N_nil _ _ _ _ _|exact Kd.V_nil _ _ _ _ _|exact Kd.Q_nil _ _ _ _ _|exact Kd.S_nil _ _ _ _ _,by first|exact Kd.R_nil _ _ _ _ _|exact Kd.N_nil _ _ _ _ _|exact Kd.V_nil _ _ _ _ _|exact Kd.Q_nil _ _ _ _ _|exact Kd.S_nil _ _ _ _ _,by repeat (first|(with_reducible first|exact HB.out|apply below_alloc|apply pw_below_drewN|apply below_drew1)|exact HB.out)⟩
    ·rw [if_neg c10] at H
     exact absurd H (by simp)
   ·replace c9:=Bool.eq_false_iff.mpr c9
    subst c9
    have H1:(if 0 < (t157.length:Int) then ((understudyref23_many.f kj2 (rdOf ByteArray.empty t157 0)).bind fun t168 => (if t168=(wrap64 ((t157.length:Int) - 1)) then (understudyref23_Line.l0 kj2 t157 ([]:List Int) 1) else (some ((⟨#[]⟩:ByteArray),([]:List Int),([]:List Int),4)))) else (none))=some (r1,r2,r3,r4):=by rw [if_neg (show ¬ (false=true) by decide)] at H;exact H
    clear H
    have H:=H1
    clear H1
    by_cases c18:0 < (t157.length:Int)
    ·rw [if_pos c18] at H
     have c18b0:decide (0 < (t157.length:Int))=true:=decide_eq_true c18
     have c18b1:decide (0 < t157.length)=true:=decide_eq_true (by omega)
     clear c18
     replace H:=Option.bind_eq_some_iff.mp H
     obtain ⟨t168,A190,H⟩:=H
     replace H:(if t168=(wrap64 ((t157.length:Int) - 1)) then (understudyref23_Line.l0 kj2 t157 ([]:List Int) 1) else (some ((⟨#[]⟩:ByteArray),([]:List Int),([]:List Int),4)))=some (r1,r2,r3,r4):=H
     have A19:=Aside0.mk A190
     clear A190
     by_cases c20:t168=(wrap64 ((t157.length:Int) - 1))
     ·rw [if_pos c20] at H
      have c20b0:(t168==(wrap64 ((t157.length:Int) - 1)))=true:=beq_iff_eq.mpr c20
      have c20b1:(t168 != (wrap64 ((t157.length:Int) - 1)))=false:=bne_eq_false_iff_eq.mpr c20
      clear c20
      have H':=Aside0.mk H
      clear H
      obtain ⟨Ao21,co21,eo21⟩:=Kd.R_slice HO_6.out
      subst eo21
      have p167:0≤(0:Int):=(by omega)
      have q167:0 < (t157.length:Int):=of_decide_eq_true (by first|(with_reducible assumption)|assumption)
      obtain ⟨ad167,e167,hx167_0⟩:=Kd.at_string (Kd.R_reads' HO_6.out).2.2 0 p167 q167
      cases e167
      have qi167:(0 < t157.length)=True:=eq_true (by omega)
      (try rw [show ((0:Int)).toNat=0 from rfl] at hx167_0)
      (try rw [Addr.add_zero'] at hx167_0)
      replace p167:=eq_true p167
      replace q167:=eq_true q167
      go_wp2_with (first|((with_reducible refine gate_callee (f:=23) rfl ?_);refine goesL_ (some 40) rfl rfl Tryz.func23 (by kernel_rfl) rfl #[.string (rdOf ByteArray.empty t157 0)] rfl (by (try simp only [List.map_toArray,List.map_cons,List.map_nil]);first|done|rfl|(simp only [List.length_drop,List.length_take];rfl)) ?_;(with_reducible refine (understudyref23_many.calls kj2 (rdOf ByteArray.empty t157 0) t168 _ A19.out).mono ?_);rintro e w22 ⟨rfl,hb⟩;refine ⟨_,rfl,?_⟩;have n0_:=Aside0.mk (Kd.R_below (by (with_reducible repeat (first|apply Kd.R_alloc|apply Kd.R_drewN|apply Kd.R_drew));exact HO_6.out) hb);have n1_:=Aside0.mk (below_step (by repeat (first|(with_reducible first|exact HB.out|apply below_alloc|apply pw_below_drewN|apply below_drew1)|exact HB.out)) hb);clear HO_6;clear HB;have HO_6:=n0_;have HB:=n1_;clear n0_ n1_;(try clear hb);(try clear hb2);(try clear hk);(try clear hi)))
      go_loopg [9,10] kj2 (fun kq v9 v10 w' => ∃ (x9_2:List Int) (x10_2:Int),v10=.int .i64 x10_2∧Aside0 (understudyref23_Line.l0 kq t157 x9_2 x10_2=some (r1,r2,r3,r4))∧Aside0 (kq≤kj2)∧Aside0 (Kd.R Kd.string 9 w' w.heap.size (fun _ => True) (.slice (some ad167) t157.length co21) t157)∧Aside0 (Kd.R (Kd.int .i64) 2 w' w.heap.size (fun _ => True) v9 x9_2)∧Aside0 (Below w.heap.size w w'))
      case atStart => exact ⟨(([]:List Int)),(1),(by first|rfl|(simp;done)|(simp [*];done)),H',⟨Nat.le_refl _⟩,⟨by (with_reducible repeat (first|apply Kd.R_alloc|apply Kd.R_drewN|apply Kd.R_drew));exact HO_6.out⟩,⟨by first|exact Kd.R_nil _ _ _ _ _|exact Kd.N_nil _ _ _ _ _|exact Kd.V_nil _ _ _ _ _|exact Kd.Q_nil _ _ _ _ _|exact Kd.S_nil _ _ _ _ _⟩,⟨by repeat (first|(with_reducible first|exact HB.out|apply below_alloc|apply pw_below_drewN|apply below_drew1)|exact HB.out)⟩⟩
      case round =>
       clear H'
       try clear c1;try clear p1;try clear q1;try clear hx1;try clear qi1;try clear c2;try clear p2;try clear c5;try clear c5b0;try clear c5b1;try clear c6;try clear c6b0;try clear c6b1;try clear p6;try clear c9;try clear c10;try clear c10b0;try clear c10b1;try clear c11;try clear c12;try clear c13;try clear c13b0;try clear c13b1;try clear p16;try clear q16;try clear hx16;try clear qi16;try clear c18;try clear c18b0;try clear c18b1;try clear c20;try clear c20b0;try clear c20b1;try clear c21;try clear c22;try clear hx160_0;try clear hx161_0;try clear hx166_0;try clear hx167_0;try clear p1;try clear p160;try clear p161;try clear p166;try clear p167;try clear p2;try clear q1;try clear q160;try clear q161;try clear q166;try clear q167
       obtain ⟨x9_2,x10_2,rfl,HA,HK2,HO_6,HO_9,HB⟩:=hrel
       cases gk with
       | zero => exact absurd HA.out (by simp [understudyref23_Line.l0])
       | succ k2 =>
        have H:=HA.out
        clear HA
        simp only [understudyref23_Line.l0] at H
        by_cases c23:x10_2 < (t157.length:Int)
        ·rw [if_pos c23] at H
         have c23b0:decide (x10_2 < (t157.length:Int))=true:=decide_eq_true c23
         clear c23
         by_cases c24:0≤x10_2
         ·rw [if_pos c24] at H
          have c24b0:decide (0≤x10_2)=true:=decide_eq_true c24
          clear c24
          replace H:=Option.bind_eq_some_iff.mp H
          obtain ⟨⟨t170,t171⟩,A250,H⟩:=H
          replace H:(if t171=true then (if x9_2.length < 17592186044416 then (understudyref23_Line.l0 k2 t157 (x9_2++[t170]) (wrap64 (x10_2 + 1))) else (none)) else (some ((⟨#[]⟩:ByteArray),([]:List Int),([]:List Int),4)))=some (r1,r2,r3,r4):=H
          have A25:=Aside0.mk A250
          clear A250
          by_cases c26:t171=true
          ·subst c26
           have H1:(if x9_2.length < 17592186044416 then (understudyref23_Line.l0 k2 t157 (x9_2++[t170]) (wrap64 (x10_2 + 1))) else (none))=some (r1,r2,r3,r4):=by rw [if_pos rfl] at H;exact H
           clear H
           have H:=H1
           clear H1
           by_cases c27:x9_2.length < 17592186044416
           ·rw [if_pos c27] at H
            have LMc27:=Aside0.mk c27
            clear c27
            obtain ⟨y172,hy172⟩:∃ y_:List Int,y_=(x9_2++[t170]):=⟨_,rfl⟩
            replace H:(understudyref23_Line.l0 k2 t157 y172 (wrap64 (x10_2 + 1)))=some (r1,r2,r3,r4):=by first|(rw [hy172];with_reducible exact H)|(have H2_:=(Option.bind_some _ _).symm.trans H;rw [hy172];with_reducible exact H2_)|(have H2_:=(Option.bind_some _ _).symm.trans H;with_reducible exact H2_)|with_reducible exact H|(rw [hy172];exact H)|exact H
            have Ny172:=Aside0.mk hy172
            clear hy172
            have H':=Aside0.mk H
            clear H
            have p169:0≤(x10_2:Int):=of_decide_eq_true (by first|(with_reducible assumption)|assumption)
            have q169:x10_2 < (t157.length:Int):=of_decide_eq_true (by first|(with_reducible assumption)|assumption)
            obtain ⟨ad169,e169,hx169_0⟩:=Kd.at_string (Kd.R_reads' HO_6.out).2.2 x10_2 p169 q169
            obtain rfl:ad167=ad169:=(by injection e169)
            replace p169:=eq_true p169
            replace q169:=eq_true q169
            go_wp2_with (first|((with_reducible refine gate_callee (f:=24) rfl ?_);refine goesL_ (some 56) rfl rfl Tryz.func24 (by kernel_rfl) rfl #[.string (rdOf ByteArray.empty t157 x10_2)] rfl (by (try simp only [List.map_toArray,List.map_cons,List.map_nil]);first|done|rfl|(simp only [List.length_drop,List.length_take];rfl)) ?_;(with_reducible refine (understudyref23_number.calls k2 (rdOf ByteArray.empty t157 x10_2) t170 true _ A25.out).mono ?_);rintro e w' ⟨rfl,⟨nd,rfl⟩⟩;refine ⟨_,rfl,?_⟩)|((with_reducible refine gate_builtin (b:=.append) (xs:=#[.tmp 61,.tmp 63]) rfl ?_);(try (refine gate_guard (by rfl) ?_;dsimp only));at_builtin;refine Kd.R_append (Kd.int .i64) (w0:=w) w.heap.size rfl (.tmp 61) (.tmp 63) 46 2 (.int .i64 0) 8 rfl Tryz.underlying46 info2 rfl (by decide) (by omega) u9 x9_2 t170 [.int .i64 t170] (fun _ => True) (fun _ => False) rfl rfl ?aP (fun _ hk => hk.elim) ?aF ?aO ?aB ?aS ?aL ?_;(case aP => exact rfl);(case aB => exact (by repeat (first|(with_reducible first|exact HB.out|apply below_alloc|apply pw_below_drewN|apply below_drew1)|exact HB.out)));(case aF => exact (fun _ _ => trivial));(case aO => exact (by (with_reducible repeat (first|apply Kd.R_alloc|apply Kd.R_drewN|apply Kd.R_drew));exact HO_9.out));(case aS => exact (below_size (by repeat (first|(with_reducible first|exact HB.out|apply below_alloc|apply pw_below_drewN|apply below_drew1)|exact HB.out))));(case aL => have:=LMc27.out;omega);intro v173 w28 ho hb hg hat;rw [← Ny172.out] at ho;have n0_:=Aside0.mk (Kd.R_over' (by (with_reducible repeat (first|apply Kd.R_alloc|apply Kd.R_drewN|apply Kd.R_drew));exact HO_6.out) (Kd.R_typed (by (with_reducible repeat (first|apply Kd.R_alloc|apply Kd.R_drewN|apply Kd.R_drew));exact HO_9.out)) (by decide) hg);have n1_:=Aside0.mk (hb);have n2_:=Aside0.mk (ho);clear HO_6;clear HB;clear HO_9;have HO_6:=n0_;have HB:=n1_;have HO174:=n2_;clear n0_ n1_ n2_;clear ho hb hg hat))
            go_roundg k2
            case measure => have:=HJ2.out;have:=HK2.out;omega
            case rel => exact ⟨(y172),(wrap64 (x10_2 + 1)),(by first|rfl|(simp;done)|(simp [*];done)),H',⟨by have:=HJ2.out;have:=HK2.out;omega⟩,⟨by (with_reducible repeat (first|apply Kd.R_alloc|apply Kd.R_drewN|apply Kd.R_drew));exact HO_6.out⟩,⟨by (with_reducible repeat (first|apply Kd.R_alloc|apply Kd.R_drewN|apply Kd.R_drew));exact HO174.out⟩,⟨by repeat (first|(with_reducible first|exact HB.out|apply below_alloc|apply pw_below_drewN|apply below_drew1)|exact HB.out)⟩⟩
           ·rw [if_neg c27] at H
            exact absurd H (by simp)
          ·replace c26:=Bool.eq_false_iff.mpr c26
           subst c26
           have H1:(some ((⟨#[]⟩:ByteArray),([]:List Int),([]:List Int),4))=some (r1,r2,r3,r4):=by rw [if_neg (show ¬ (false=true) by decide)] at H;exact H
           clear H
           have H:=H1
           clear H1
           simp only [Option.some.injEq,Prod.mk.injEq] at H
           obtain ⟨rfl,rfl,rfl,rfl⟩:=H
           have p169:0≤(x10_2:Int):=of_decide_eq_true (by first|(with_reducible assumption)|assumption)
           have q169:x10_2 < (t157.length:Int):=of_decide_eq_true (by first|(with_reducible assumption)|assumption)
           obtain ⟨ad169,e169,hx169_0⟩:=Kd.at_string (Kd.R_reads' HO_6.out).2.2 x10_2 p169 q169
           obtain rfl:ad167=ad169:=(by injection e169)
           replace p169:=eq_true p169
           replace q169:=eq_true q169
           go_wp2_with (first|((with_reducible refine gate_callee (f:=24) rfl ?_);refine goesL_ (some 56) rfl rfl Tryz.func24 (by kernel_rfl) rfl #[.string (rdOf ByteArray.empty t157 x10_2)] rfl (by (try simp only [List.map_toArray,List.map_cons,List.map_nil]);first|done|rfl|(simp only [List.length_drop,List.length_take];rfl)) ?_;(with_reducible refine (understudyref23_number.calls k2 (rdOf ByteArray.empty t157 x10_2) t170 false _ A25.out).mono ?_);rintro e w' ⟨rfl,⟨nd,rfl⟩⟩;refine ⟨_,rfl,?_⟩))
           refine bodyPost_ret (results_list (rs:=[.tmp 2,.tmp 3,.tmp 4,.tmp 5]) rfl (by simp) (.tmp (.tmp (.tmp (.tmp .nil))))) rfl ?_
           exact ⟨_,_,by first|rfl|(simp [errW_none,errW_some] <;> rfl)|(simp [*,errW_none,errW_some] <;> rfl),by first|exact Kd.R_nil _ _ _ _ _|exact Kd.N_nil _ _ _ _ _|exact Kd.V_nil _ _ _ _ _|exact Kd.Q_nil _ _ _ _ _|exact Kd.S_nil _ _ _ _ _,by first|exact Kd.R_nil _ _ _ _ _|exact Kd.N_nil _ _ _ _ _|exact Kd.V_nil _ _ _ _ _|exact Kd.Q_nil _ _ _ _ _|exact Kd.S_nil _ _ _ _ _,by repeat (first|(with_reducible first|exact HB.out|apply below_alloc|apply pw_below_drewN|apply below_drew1)|exact HB.out)⟩
         ·rw [if_neg c24] at H
          exact absurd H (by simp)
        ·rw [if_neg c23] at H
         have c23b0:decide (x10_2 < (t157.length:Int))=false:=decide_eq_false c23
         clear c23
         by_cases c29:0 < (t157.length:Int)
         ·rw [if_pos c29] at H
          have c29b0:decide (0 < (t157.length:Int))=true:=decide_eq_true c29
          have c29b1:decide (0 < t157.length)=true:=decide_eq_true (by omega)
          clear c29
          simp only [Option.some.injEq,Prod.mk.injEq] at H
          obtain ⟨rfl,rfl,rfl,rfl⟩:=H
          have p175:0≤(0:Int):=(by omega)
          have q175:0 < (t157.length:Int):=of_decide_eq_true (by first|(with_reducible assumption)|assumption)
          obtain ⟨ad175,e175,hx175_0⟩:=Kd.at_string (Kd.R_reads' HO_6.out).2.2 0 p175 q175
          obtain rfl:ad167=ad175:=(by injection e175)
          have qi175:(0 < t157.length)=True:=eq_true (by omega)
          (try rw [show ((0:Int)).toNat=0 from rfl] at hx175_0)
          (try rw [Addr.add_zero'] at hx175_0)
          replace p175:=eq_true p175
          replace q175:=eq_true q175
          go_wp2
          refine bodyPost_ret (results_list (rs:=[.tmp 2,.tmp 3,.tmp 4,.tmp 5]) rfl (by simp) (.tmp (.tmp (.tmp (.tmp .nil))))) rfl ?_
          exact ⟨_,_,by first|rfl|(simp [errW_none,errW_some] <;> rfl)|(simp [*,errW_none,errW_some] <;> rfl),by first|exact Kd.R_nil _ _ _ _ _|exact Kd.N_nil _ _ _ _ _|exact Kd.V_nil _ _ _ _ _|exact Kd.Q_nil _ _ _ _ _|exact Kd.S_nil _ _ _ _ _,by (with_reducible repeat (first|apply Kd.R_alloc|apply Kd.R_drewN|apply Kd.R_drew));exact HO_9.out,by repeat (first|(with_reducible first|exact HB.out|apply below_alloc|apply pw_below_drewN|apply below_drew1)|exact HB.out)⟩
         ·rw [if_neg c29] at H
          exact absurd H (by simp)
     ·rw [if_neg c20] at H
      have c20b0:(t168==(wrap64 ((t157.length:Int) - 1)))=false:=beq_eq_false_iff_ne.mpr c20
      have c20b1:(t168 != (wrap64 ((t157.length:Int) - 1)))=true:=bne_iff_ne.mpr c20
      simp only [Option.some.injEq,Prod.mk.injEq] at H
      obtain ⟨rfl,rfl,rfl,rfl⟩:=H
      obtain ⟨Ao30,co30,eo30⟩:=Kd.R_slice HO_6.out
      subst eo30
      have p167:0≤(0:Int):=(by omega)
      have q167:0 < (t157.length:Int):=of_decide_eq_true (by first|(with_reducible assumption)|assumption)
      obtain ⟨ad167,e167,hx167_0⟩:=Kd.at_string (Kd.R_reads' HO_6.out).2.2 0 p167 q167
      cases e167
      have qi167:(0 < t157.length)=True:=eq_true (by omega)
      (try rw [show ((0:Int)).toNat=0 from rfl] at hx167_0)
      (try rw [Addr.add_zero'] at hx167_0)
      replace p167:=eq_true p167
      replace q167:=eq_true q167
      go_wp2_with (first|((with_reducible refine gate_callee (f:=23) rfl ?_);refine goesL_ (some 40) rfl rfl Tryz.func23 (by kernel_rfl) rfl #[.string (rdOf ByteArray.empty t157 0)] rfl (by (try simp only [List.map_toArray,List.map_cons,List.map_nil]);first|done|rfl|(simp only [List.length_drop,List.length_take];rfl)) ?_;(with_reducible refine (understudyref23_many.calls kj2 (rdOf ByteArray.empty t157 0) t168 _ A19.out).mono ?_);rintro e w31 ⟨rfl,hb⟩;refine ⟨_,rfl,?_⟩;have n0_:=Aside0.mk (Kd.R_below (by (with_reducible repeat (first|apply Kd.R_alloc|apply Kd.R_drewN|apply Kd.R_drew));exact HO_6.out) hb);have n1_:=Aside0.mk (below_step (by repeat (first|(with_reducible first|exact HB.out|apply below_alloc|apply pw_below_drewN|apply below_drew1)|exact HB.out)) hb);clear HO_6;clear HB;have HO_6:=n0_;have HB:=n1_;clear n0_ n1_;(try clear hb);(try clear hb2);(try clear hk);(try clear hi)))
      refine bodyPost_ret (results_list (rs:=[.tmp 2,.tmp 3,.tmp 4,.tmp 5]) rfl (by simp) (.tmp (.tmp (.tmp (.tmp .nil))))) rfl ?_
      exact ⟨_,_,by first|rfl|(simp [errW_none,errW_some] <;> rfl)|(simp [*,errW_none,errW_some] <;> rfl),by first|exact Kd.R_nil _ _ _ _ _|exact Kd.N_nil _ _ _ _ _|exact Kd.V_nil _ _ _ _ _|exact Kd.Q_nil _ _ _ _ _|exact Kd.S_nil _ _ _ _ _,by first|exact Kd.R_nil _ _ _ _ _|exact Kd.N_nil _ _ _ _ _|exact Kd.V_nil _ _ _ _ _|exact Kd.Q_nil _ _ _ _ _|exact Kd.S_nil _ _ _ _ _,by repeat (first|(with_reducible first|exact HB.out|apply below_alloc|apply pw_below_drewN|apply below_drew1)|exact HB.out)⟩
    ·rw [if_neg c18] at H
     exact absurd H (by simp)
def understudyref23_act.l0:Nat→ByteArray→List Int→List ByteArray→Int→Option (Int × Int × Int × Int × Bool)
 | 0,_,_,_,_ => none
 | k + 1,x0,x1,x6,x7 => if x7 < (x6.length:Int) then (if 0≤x7 then (if (rdOf ByteArray.empty x6 x7).toList=x0.toList then (if 0 < (x1.length:Int) then (if x7=0 then (if 1 < (x1.length:Int) then (if x7≤2 then (if 0≤(wrap64 ((x1.length:Int) - 1)) then (if (wrap64 ((x1.length:Int) - 1)) < (x1.length:Int) then (some (x7,rd x1 0,rd x1 1,rd x1 (wrap64 ((x1.length:Int) - 1)),true)) else (none)) else (none)) else (some (x7,rd x1 0,rd x1 1,0,true))) else (none)) else (if x7≤2 then (if 0≤(wrap64 ((x1.length:Int) - 1)) then (if (wrap64 ((x1.length:Int) - 1)) < (x1.length:Int) then (some (x7,rd x1 0,0,rd x1 (wrap64 ((x1.length:Int) - 1)),true)) else (none)) else (none)) else (some (x7,rd x1 0,0,0,true)))) else (none)) else (understudyref23_act.l0 k x0 x1 x6 (wrap64 (x7 + 1)))) else (none)) else (some (0,0,0,0,false))
def understudyref23_act.f (k:Nat) (a0:ByteArray) (l1:List Int):Option (Int × Int × Int × Int × Bool):=(understudyref23_names.f).bind fun t177 => (understudyref23_act.l0 k a0 l1 t177 0)
theorem understudyref23_act.mono_l:∀ k,(∀ y0 y1 y2 y3,LeO (understudyref23_act.l0 k y0 y1 y2 y3) (understudyref23_act.l0 (k + 1) y0 y1 y2 y3))
 | 0 => fun _ _ _ _ r h => by simp [understudyref23_act.l0] at h
 | k + 1 => by
  have ih0:=understudyref23_act.mono_l k
  ·intro y0 y1 y2 y3
   unfold understudyref23_act.l0
   repeat' first
   | (with_reducible exact ih0 _ _ _ _)
   | (with_reducible exact LeO.refl _)
   | (with_reducible exact LeO.none _)
   | (with_reducible refine LeO.ite ?_ ?_)
   | (with_reducible refine LeO.bind ?_ (fun _ => ?_))
   | exact ih0 _ _ _ _
   | exact LeO.none _
   | refine LeO.ite ?_ ?_
   | refine LeO.bind ?_ (fun _ => ?_)
theorem understudyref23_act.mono:∀ a0 a1 k,LeO (understudyref23_act.f k a0 a1) (understudyref23_act.f (k + 1) a0 a1):=by
 intro a0 a1 k
 have ih0:=understudyref23_act.mono_l k
 unfold understudyref23_act.f
 repeat' first
   | (with_reducible exact ih0 _ _ _ _)
   | (with_reducible exact LeO.refl _)
   | (with_reducible exact LeO.none _)
   | (with_reducible refine LeO.ite ?_ ?_)
   | (with_reducible refine LeO.bind ?_ (fun _ => ?_))
   | exact ih0 _ _ _ _
   | exact LeO.none _
   | refine LeO.ite ?_ ?_
   | refine LeO.bind ?_ (fun _ => ?_)
set_option maxHeartbeats 80000000 in
set_option maxRecDepth 100000 in
theorem understudyref23_act.calls (k:Nat) (a0:ByteArray) (A1:Option Addr) (c1:Nat) (l1:List Int) (r1:Int) (r2:Int) (r3:Int) (r4:Int) (r5:Bool) (w:World) (hr1:Kd.C (Kd.int .i64) w A1 l1.length l1) (hc1:l1.length≤c1) (h:understudyref23_act.f k a0 l1=some (r1,r2,r3,r4,r5)) :
  Calls Tryz.prog 12 #[.string a0,.slice A1 l1.length c1] w fun e w' => e=.returned (.tuple #[.agg #[.int .i64 r1,.int .i64 r2,.int .i64 r3,.int .i64 r4],.bool r5])∧Below w.heap.size w w':=by
 have hu50:=Tryz.underlying50
 have HR1:=Aside0.mk hr1
 have HC1:=Aside0.mk hc1
 clear hr1 hc1
 have HB:=Aside0.mk (Below.refl w.heap.size w)
 have H:((understudyref23_names.f).bind fun t177 => (understudyref23_act.l0 k a0 l1 t177 0))=some (r1,r2,r3,r4,r5):=h
 clear h
 replace H:=Option.bind_eq_some_iff.mp H
 obtain ⟨t177,A30,H⟩:=H
 replace H:(understudyref23_act.l0 k a0 l1 t177 0)=some (r1,r2,r3,r4,r5):=H
 have A3:=Aside0.mk A30
 clear A30
 have H':=Aside0.mk H
 clear H
 go_enter Tryz.func12,Tryz.ntmps12
 go_wp2_with (first|((with_reducible refine gate_dst (N:=4) rfl ?_);refine box_event ?hg (N:=4) ?hd (cs:=#[.int .i64 0,.int .i64 0,.int .i64 0,.int .i64 0]) (t:=50) ?hr ?_;(case hd => rfl);(case hg => rfl);(case hr => first|(go_simp;done)|(go_simp;rfl));intro gb176 hg w4 hbox hb;have n0_:=Aside0.mk (below_step (by repeat (first|(with_reducible first|exact HB.out|apply below_alloc|apply pw_below_drewN|apply below_drew1)|exact HB.out)) hb);have n1_:=Aside0.mk (hbox);have n2_:=Aside0.mk ((by rw [hg];exact (below_size (by repeat (first|(with_reducible first|exact HB.out|apply below_alloc|apply pw_below_drewN|apply below_drew1)|exact HB.out))):w.heap.size≤gb176));have n3_:=Aside0.mk ((by rw [hg];exact (below_size (by repeat (first|(with_reducible first|exact HB.out|apply below_alloc|apply pw_below_drewN|apply below_drew1)|exact HB.out))):w.heap.size≤gb176));clear HB;have HB:=n0_;have BK176:=n1_;have GW176:=n2_;have GE176:=n3_;clear n0_ n1_ n2_ n3_;clear hb hbox hg)|((with_reducible refine gate_callee (f:=25) rfl ?_);refine goesL_ (some 9) rfl rfl Tryz.func25 (by kernel_rfl) rfl #[] rfl (by (try simp only [List.map_toArray,List.map_cons,List.map_nil]);first|done|rfl|(simp only [List.length_drop,List.length_take];rfl)) ?_;(with_reducible refine (understudyref23_names.calls  t177 _ A3.out).mono ?_);rintro e w5 ⟨v178,rfl,ho0,hb⟩;refine ⟨_,rfl,?_⟩;have n0_:=Aside0.mk (Kd.R_lower ho0 (below_size (by repeat (first|(with_reducible first|exact HB.out|apply below_alloc|apply pw_below_drewN|apply below_drew1|refine below_set ?_ GE176.out)|exact HB.out))));have n1_:=Aside0.mk (blk_below (g:=gb176) (o:=.cells #[.int .i64 0,.int .i64 0,.int .i64 0,.int .i64 0] 50 (0,0)) (by (with_reducible repeat (first|refine blk_drewN ?_ _|refine blk_drew ?_|refine blk_alloc ?_ _));exact BK176.out) hb);have n2_:=Aside0.mk (below_step (by repeat (first|(with_reducible first|exact HB.out|apply below_alloc|apply pw_below_drewN|apply below_drew1|refine below_set ?_ GE176.out)|exact HB.out)) hb);clear BK176;clear HB;have HO179:=n0_;have BK176:=n1_;have HB:=n2_;clear n0_ n1_ n2_;(try clear hb);(try clear hb2);(try clear hk);(try clear hi);(try clear ho0)))
 go_loopg [7] k (fun kq v7 w' => ∃ (x7_1:Int) (x177000_1:Int) (x177001_1:Int) (x177002_1:Int) (x177003_1:Int),v7=.int .i64 x7_1∧Aside0 (understudyref23_act.l0 kq a0 l1 t177 x7_1=some (r1,r2,r3,r4,r5))∧Aside0 (kq≤k)∧Aside0 (Kd.R Kd.string 9 w' w.heap.size (fun _ => True) v178 t177)∧Aside0 (w'.heap[gb176]?=some (.cells #[.int .i64 x177000_1,.int .i64 x177001_1,.int .i64 x177002_1,.int .i64 x177003_1] 50 (0,0)))∧Aside0 (Below w.heap.size w w'))
 case atStart => exact ⟨(0),(0),(0),(0),(0),(by first|rfl|(simp;done)|(simp [*];done)),H',⟨Nat.le_refl _⟩,⟨by (with_reducible repeat (first|apply Kd.R_alloc|apply Kd.R_drewN|apply Kd.R_drew));exact HO179.out⟩,⟨by (with_reducible repeat (first|refine blk_drewN ?_ _|refine blk_drew ?_|refine blk_alloc ?_ _));exact BK176.out⟩,⟨by repeat (first|(with_reducible first|exact HB.out|apply below_alloc|apply pw_below_drewN|apply below_drew1|refine below_set ?_ GE176.out)|exact HB.out)⟩⟩
 case round =>
  clear H'
  try clear c1;try clear c2;try clear p2
  obtain ⟨x7_1,x177000_1,x177001_1,x177002_1,x177003_1,rfl,HA,HK1,HO_6,BK176,HB⟩:=hrel
  cases gk with
  | zero => exact absurd HA.out (by simp [understudyref23_act.l0])
  | succ k1 =>
   have H:=HA.out
   clear HA
   simp only [understudyref23_act.l0] at H
   by_cases c6:x7_1 < (t177.length:Int)
   ·rw [if_pos c6] at H
    have c6b0:decide (x7_1 < (t177.length:Int))=true:=decide_eq_true c6
    clear c6
    by_cases c7:0≤x7_1
    ·rw [if_pos c7] at H
     have c7b0:decide (0≤x7_1)=true:=decide_eq_true c7
     clear c7
     by_cases c8:(rdOf ByteArray.empty t177 x7_1).toList=a0.toList
     ·rw [if_pos c8] at H
      have c8b0:((rdOf ByteArray.empty t177 x7_1).toList==a0.toList)=true:=beq_iff_eq.mpr c8
      have c8b1:((rdOf ByteArray.empty t177 x7_1).toList != a0.toList)=false:=bne_eq_false_iff_eq.mpr c8
      clear c8
      by_cases c9:0 < (l1.length:Int)
      ·rw [if_pos c9] at H
       have c9b0:decide (0 < (l1.length:Int))=true:=decide_eq_true c9
       have c9b1:decide (0 < l1.length)=true:=decide_eq_true (by omega)
       clear c9
       by_cases c10:x7_1=0
       ·rw [if_pos c10] at H
        have c10b0:(x7_1==0)=true:=beq_iff_eq.mpr c10
        have c10b1:(x7_1 != 0)=false:=bne_eq_false_iff_eq.mpr c10
        clear c10
        by_cases c11:1 < (l1.length:Int)
        ·rw [if_pos c11] at H
         have c11b0:decide (1 < (l1.length:Int))=true:=decide_eq_true c11
         have c11b1:decide (1 < l1.length)=true:=decide_eq_true (by omega)
         clear c11
         by_cases c12:x7_1≤2
         ·rw [if_pos c12] at H
          have c12b0:decide (x7_1≤2)=true:=decide_eq_true c12
          clear c12
          obtain ⟨ji13,hji13⟩:∃ j_:Int,(wrap64 ((l1.length:Int) - 1))=j_:=⟨_,rfl⟩
          replace H:(if 0≤(ji13) then (if (ji13) < (l1.length:Int) then (some (x7_1,rd l1 0,rd l1 1,rd l1 (ji13),true)) else (none)) else (none))=some (r1,r2,r3,r4,r5):=by first|(rw [hji13] at H;exact H)|(simp only [hji13] at H ⊢;exact H)
          have hji13w:(IntKind.i64.wrap ((l1.length:Int) - 1))=ji13:=(i64_w _).trans hji13
          by_cases c14:0≤(ji13)
          ·rw [if_pos c14] at H
           have c14b0:decide (0≤(ji13))=true:=decide_eq_true c14
           clear c14
           by_cases c15:(ji13) < (l1.length:Int)
           ·rw [if_pos c15] at H
            have c15b0:decide ((ji13) < (l1.length:Int))=true:=decide_eq_true c15
            clear c15
            simp only [Option.some.injEq,Prod.mk.injEq] at H
            obtain ⟨rfl,rfl,rfl,rfl,rfl⟩:=H
            obtain ⟨Ao16,co16,eo16⟩:=Kd.R_slice HO_6.out
            subst eo16
            have p180:0≤(x7_1:Int):=of_decide_eq_true (by first|(with_reducible assumption)|assumption)
            have q180:x7_1 < (t177.length:Int):=of_decide_eq_true (by first|(with_reducible assumption)|assumption)
            obtain ⟨ad180,e180,hx180_0⟩:=Kd.at_string (Kd.R_reads' HO_6.out).2.2 x7_1 p180 q180
            cases e180
            replace p180:=eq_true p180
            replace q180:=eq_true q180
            have p181:0≤(0:Int):=(by omega)
            have q181:0 < (l1.length:Int):=of_decide_eq_true (by first|(with_reducible assumption)|assumption)
            obtain ⟨ad181,e181,hx181_0⟩:=Kd.at_int HR1.out 0 p181 q181
            cases e181
            have qi181:(0 < l1.length)=True:=eq_true (by omega)
            (try rw [show ((0:Int)).toNat=0 from rfl] at hx181_0)
            (try rw [Addr.add_zero'] at hx181_0)
            replace hx181_0:=(HB.out.cell (World.block_lt_of_cell? w _ hx181_0)).trans hx181_0
            replace p181:=eq_true p181
            replace q181:=eq_true q181
            go_wp2_with (first|((with_reducible refine gate_dst (N:=8) rfl ?_);refine box_event ?hg (N:=8) ?hd (cs:=#[.int .i64 0,.int .i64 0,.int .i64 0,.int .i64 0]) (t:=50) ?hr ?_;(case hd => rfl);(case hg => rfl);(case hr => first|(go_simp;done)|(go_simp;rfl));intro gb182 hg w17 hbox hb;have n0_:=Aside0.mk (Kd.R_below (by (with_reducible repeat (first|apply Kd.R_alloc|apply Kd.R_drewN|apply Kd.R_drew));exact HO_6.out) hb);have n1_:=Aside0.mk (blk_below (g:=gb176) (o:=.cells #[.int .i64 x177000_1,.int .i64 x177001_1,.int .i64 x177002_1,.int .i64 x177003_1] 50 (0,0)) (by (with_reducible repeat (first|refine blk_drewN ?_ _|refine blk_drew ?_|refine blk_alloc ?_ _));exact BK176.out) hb);have n2_:=Aside0.mk (below_step (by repeat (first|(with_reducible first|exact HB.out|apply below_alloc|apply pw_below_drewN|apply below_drew1|refine below_set ?_ GE176.out)|exact HB.out)) hb);have n3_:=Aside0.mk (hbox);have n4_:=Aside0.mk ((by rw [hg];exact (below_size (by repeat (first|(with_reducible first|exact HB.out|apply below_alloc|apply pw_below_drewN|apply below_drew1|refine below_set ?_ GE176.out)|exact HB.out))):w.heap.size≤gb182));have n5_:=Aside0.mk ((by rw [hg];exact (below_size (by repeat (first|(with_reducible first|exact HB.out|apply below_alloc|apply pw_below_drewN|apply below_drew1|refine below_set ?_ GE176.out)|exact HB.out))):w.heap.size≤gb182));have n6_:=Aside0.mk ((by rw [hg];exact Nat.ne_of_lt (blk_lt (g:=gb176) (o:=.cells #[.int .i64 x177000_1,.int .i64 x177001_1,.int .i64 x177002_1,.int .i64 x177003_1] 50 (0,0)) (by (with_reducible repeat (first|refine blk_drewN ?_ _|refine blk_drew ?_|refine blk_alloc ?_ _));exact BK176.out)):gb176 ≠ gb182));have n7_:=Aside0.mk ((by rw [hg];exact Nat.ne_of_gt (blk_lt (g:=gb176) (o:=.cells #[.int .i64 x177000_1,.int .i64 x177001_1,.int .i64 x177002_1,.int .i64 x177003_1] 50 (0,0)) (by (with_reducible repeat (first|refine blk_drewN ?_ _|refine blk_drew ?_|refine blk_alloc ?_ _));exact BK176.out)):gb182 ≠ gb176));clear HO_6;clear BK176;clear HB;have HO_6:=n0_;have BK176:=n1_;have HB:=n2_;have BK182:=n3_;have GW182:=n4_;have GE182:=n5_;have NB176_182:=n6_;have NB182_176:=n7_;clear n0_ n1_ n2_ n3_ n4_ n5_ n6_ n7_;clear hb hbox hg;have hnb18:=NB182_176.out;have hnc18:=NB176_182.out;have hcz19_0:w17.cell? ⟨gb182,0,none⟩=some (.int .i64 0):=(blk_cell BK182.out 0).trans rfl;have hcz19_1:w17.cell? ⟨gb182,1,none⟩=some (.int .i64 0):=(blk_cell BK182.out 1).trans rfl;have hcz19_2:w17.cell? ⟨gb182,2,none⟩=some (.int .i64 0):=(blk_cell BK182.out 2).trans rfl;have hcz19_3:w17.cell? ⟨gb182,3,none⟩=some (.int .i64 0):=(blk_cell BK182.out 3).trans rfl;have hfz19_0:=blk_frozen BK182.out 0;have hfz19_1:=blk_frozen BK182.out 1;have hfz19_2:=blk_frozen BK182.out 2;have hfz19_3:=blk_frozen BK182.out 3;have p183:0≤(1:Int):=(by omega);have q183:1 < (l1.length:Int):=of_decide_eq_true (by first|(with_reducible assumption)|assumption);obtain ⟨ad183,e183,hx183_0⟩:=Kd.at_int HR1.out 1 p183 q183;obtain rfl:ad181=ad183:=(by injection e183);(try simp only [show (1:Int).toNat=1 from rfl,Nat.reduceMul,Nat.reduceEqDiff,Go.Addr.add,↓reduceIte] at hx183_0);have qi183:(1 < l1.length)=True:=eq_true (by omega);(try rw [show ((1:Int)).toNat=1 from rfl] at hx183_0);have hn183_0:ad181.block ≠ gb182:=Nat.ne_of_lt (Nat.lt_of_lt_of_le (by have:=World.block_lt_of_cell? _ _ hx183_0;first|rwa [add_block] at this|exact this) GW182.out);have hn183_1:ad181.block ≠ gb182:=Nat.ne_of_lt (Nat.lt_of_lt_of_le (by have:=World.block_lt_of_cell? _ _ hx183_0;first|rwa [add_block] at this|exact this) GW182.out);have hn183_2:ad181.block ≠ gb182:=Nat.ne_of_lt (Nat.lt_of_lt_of_le (by have:=World.block_lt_of_cell? _ _ hx183_0;first|rwa [add_block] at this|exact this) GW182.out);have hn183_3:ad181.block ≠ gb182:=Nat.ne_of_lt (Nat.lt_of_lt_of_le (by have:=World.block_lt_of_cell? _ _ hx183_0;first|rwa [add_block] at this|exact this) GW182.out);replace hx183_0:=(HB.out.cell (World.block_lt_of_cell? w _ hx183_0)).trans hx183_0;replace hx183_0:=(cell_far (p:=⟨gb182,0,none⟩) (by first|(rw [add_block];exact hn183_0)|(show (Addr.add _ _).block ≠ _;rw [add_block];exact hn183_0)|exact hn183_0) (.int .i64 x7_1)).trans hx183_0;replace hx183_0:=(cell_far (p:=⟨gb182,1,none⟩) (by first|(rw [add_block];exact hn183_1)|(show (Addr.add _ _).block ≠ _;rw [add_block];exact hn183_1)|exact hn183_1) (.int .i64 (rd l1 0))).trans hx183_0;replace hx183_0:=(cell_far (p:=⟨gb182,2,none⟩) (by first|(rw [add_block];exact hn183_2)|(show (Addr.add _ _).block ≠ _;rw [add_block];exact hn183_2)|exact hn183_2) (.int .i64 0)).trans hx183_0;replace hx183_0:=(cell_far (p:=⟨gb182,3,none⟩) (by first|(rw [add_block];exact hn183_3)|(show (Addr.add _ _).block ≠ _;rw [add_block];exact hn183_3)|exact hn183_3) (.int .i64 0)).trans hx183_0;clear hn183_0;clear hn183_1;clear hn183_2;clear hn183_3;replace p183:=eq_true p183;replace q183:=eq_true q183)|((with_reducible refine gate_store (t:=3) (p:=32) rfl ?_);refine store_event (t:=3) (p:=32) (v:=?vo_w20) (w1:=(((((w17.setCell ⟨gb182,0,none⟩ (.int .i64 x7_1)).setCell ⟨gb182,1,none⟩ (.int .i64 (rd l1 0))).setCell ⟨gb182,2,none⟩ (.int .i64 0)).setCell ⟨gb182,3,none⟩ (.int .i64 0)).setCell ⟨gb182,2,none⟩ (.int .i64 (rd l1 1)))) ?hg ?ho ?hn ?hr ?_;(case ho => rfl);(case hg => rfl);(case hn => rfl);(case hr => first|(go_simp;done)|(go_simp;rfl));intro w20 hw;have n0_:Aside0 (Kd.R Kd.string 9 w20 w.heap.size (fun _ => True) (.slice (some ad180) t177.length co16) t177):=⟨(by rw [hw];exact (by (with_reducible repeat (first|apply Kd.R_alloc|apply Kd.R_drewN|apply Kd.R_drew));exact Kd.R_mono (Kd.R_far (p:=⟨gb182,2,none⟩) (Kd.R_far (p:=⟨gb182,3,none⟩) (Kd.R_far (p:=⟨gb182,2,none⟩) (Kd.R_far (p:=⟨gb182,1,none⟩) (Kd.R_far (p:=⟨gb182,0,none⟩) (Kd.R_types HO_6.out BK182.out (by decide)) (fun _ hk => hk.2) (.int .i64 x7_1)) (fun _ hk => hk.2) (.int .i64 (rd l1 0))) (fun _ hk => hk.2) (.int .i64 0)) (fun _ hk => hk.2) (.int .i64 0)) (fun _ hk => hk.2) (.int .i64 (rd l1 1))) (fun _ hk => trivial)))⟩;have n1_:Aside0 (w20.heap[gb176]?=some (.cells #[.int .i64 x177000_1,.int .i64 x177001_1,.int .i64 x177002_1,.int .i64 x177003_1] 50 (0,0))):=⟨(by rw [hw];exact (by (with_reducible repeat (first|refine blk_drewN ?_ _|refine blk_drew ?_|refine blk_alloc ?_ _));refine blk_far ?_ NB176_182.out _;(with_reducible repeat (first|refine blk_drewN ?_ _|refine blk_drew ?_|refine blk_alloc ?_ _));refine blk_far ?_ NB176_182.out _;(with_reducible repeat (first|refine blk_drewN ?_ _|refine blk_drew ?_|refine blk_alloc ?_ _));refine blk_far ?_ NB176_182.out _;(with_reducible repeat (first|refine blk_drewN ?_ _|refine blk_drew ?_|refine blk_alloc ?_ _));refine blk_far ?_ NB176_182.out _;(with_reducible repeat (first|refine blk_drewN ?_ _|refine blk_drew ?_|refine blk_alloc ?_ _));refine blk_far ?_ NB176_182.out _;(with_reducible repeat (first|refine blk_drewN ?_ _|refine blk_drew ?_|refine blk_alloc ?_ _));exact BK176.out))⟩;have n2_:Aside0 (w20.heap[gb182]?=some (.cells #[.int .i64 x7_1,.int .i64 (rd l1 0),.int .i64 (rd l1 1),.int .i64 0] 50 (0,0))):=⟨(by rw [hw];exact (by (with_reducible repeat (first|refine blk_drewN ?_ _|refine blk_drew ?_|refine blk_alloc ?_ _));refine blk_put (cs:=#[.int .i64 x7_1,.int .i64 (rd l1 0),.int .i64 0,.int .i64 0]) ?_ 2 _ rfl;(with_reducible repeat (first|refine blk_drewN ?_ _|refine blk_drew ?_|refine blk_alloc ?_ _));refine blk_put (cs:=#[.int .i64 x7_1,.int .i64 (rd l1 0),.int .i64 0,.int .i64 0]) ?_ 3 _ rfl;(with_reducible repeat (first|refine blk_drewN ?_ _|refine blk_drew ?_|refine blk_alloc ?_ _));refine blk_put (cs:=#[.int .i64 x7_1,.int .i64 (rd l1 0),.int .i64 0,.int .i64 0]) ?_ 2 _ rfl;(with_reducible repeat (first|refine blk_drewN ?_ _|refine blk_drew ?_|refine blk_alloc ?_ _));refine blk_put (cs:=#[.int .i64 x7_1,.int .i64 0,.int .i64 0,.int .i64 0]) ?_ 1 _ rfl;(with_reducible repeat (first|refine blk_drewN ?_ _|refine blk_drew ?_|refine blk_alloc ?_ _));refine blk_put (cs:=#[.int .i64 0,.int .i64 0,.int .i64 0,.int .i64 0]) ?_ 0 _ rfl;(with_reducible repeat (first|refine blk_drewN ?_ _|refine blk_drew ?_|refine blk_alloc ?_ _));exact BK182.out))⟩;have n3_:Aside0 (Below w.heap.size w w20):=⟨(by rw [hw];exact (by repeat (first|(with_reducible first|exact HB.out|apply below_alloc|apply pw_below_drewN|apply below_drew1|refine below_set ?_ GE176.out|refine below_set ?_ GE182.out)|exact HB.out)))⟩;clear hw;clear HO_6;clear BK176;clear BK182;clear HB;have HO_6:=n0_;have BK176:=n1_;have BK182:=n2_;have HB:=n3_;clear n0_ n1_ n2_ n3_;have p184:0≤((ji13):Int):=of_decide_eq_true (by first|(with_reducible assumption)|assumption);have q184:(ji13) < (l1.length:Int):=of_decide_eq_true (by first|(with_reducible assumption)|assumption);obtain ⟨ad184,e184,hx184_0⟩:=Kd.at_int HR1.out (ji13) p184 q184;obtain rfl:ad181=ad184:=(by injection e184);replace hx184_0:=(HB.out.cell (World.block_lt_of_cell? w _ hx184_0)).trans hx184_0;replace p184:=eq_true p184;replace q184:=eq_true q184;have hcz21_0:w20.cell? ⟨gb182,0,none⟩=some (.int .i64 x7_1):=(blk_cell BK182.out 0).trans rfl;have hcz21_1:w20.cell? ⟨gb182,1,none⟩=some (.int .i64 (rd l1 0)):=(blk_cell BK182.out 1).trans rfl;have hcz21_2:w20.cell? ⟨gb182,2,none⟩=some (.int .i64 (rd l1 1)):=(blk_cell BK182.out 2).trans rfl;have hcz21_3:w20.cell? ⟨gb182,3,none⟩=some (.int .i64 0):=(blk_cell BK182.out 3).trans rfl;have hfz21_0:=blk_frozen BK182.out 0;have hfz21_1:=blk_frozen BK182.out 1;have hfz21_2:=blk_frozen BK182.out 2;have hfz21_3:=blk_frozen BK182.out 3;have hcz22_0:w20.cell? ⟨gb176,0,none⟩=some (.int .i64 x177000_1):=(blk_cell BK176.out 0).trans rfl;have hcz22_1:w20.cell? ⟨gb176,1,none⟩=some (.int .i64 x177001_1):=(blk_cell BK176.out 1).trans rfl;have hcz22_2:w20.cell? ⟨gb176,2,none⟩=some (.int .i64 x177002_1):=(blk_cell BK176.out 2).trans rfl;have hcz22_3:w20.cell? ⟨gb176,3,none⟩=some (.int .i64 x177003_1):=(blk_cell BK176.out 3).trans rfl;have hfz22_0:=blk_frozen BK176.out 0;have hfz22_1:=blk_frozen BK176.out 1;have hfz22_2:=blk_frozen BK176.out 2;have hfz22_3:=blk_frozen BK176.out 3)|((with_reducible refine gate_store (t:=50) (p:=4) rfl ?_);refine store_event (t:=50) (p:=4) (v:=?vo_w23) (w1:=(((((w20.setCell ⟨gb182,3,none⟩ (.int .i64 (rd l1 (ji13)))).setCell ⟨gb176,0,none⟩ (.int .i64 x7_1)).setCell ⟨gb176,1,none⟩ (.int .i64 (rd l1 0))).setCell ⟨gb176,2,none⟩ (.int .i64 (rd l1 1))).setCell ⟨gb176,3,none⟩ (.int .i64 (rd l1 (ji13))))) ?hg ?ho ?hn ?hr ?_;(case ho => rfl);(case hg => rfl);(case hn => rfl);(case hr => first|(go_simp;done)|(go_simp;rfl));intro w23 hw;have n0_:Aside0 (Kd.R Kd.string 9 w23 w.heap.size (fun _ => True) (.slice (some ad180) t177.length co16) t177):=⟨(by rw [hw];exact (by (with_reducible repeat (first|apply Kd.R_alloc|apply Kd.R_drewN|apply Kd.R_drew));exact Kd.R_mono (Kd.R_far (p:=⟨gb176,3,none⟩) (Kd.R_far (p:=⟨gb176,2,none⟩) (Kd.R_far (p:=⟨gb176,1,none⟩) (Kd.R_far (p:=⟨gb176,0,none⟩) (Kd.R_far (p:=⟨gb182,3,none⟩) (Kd.R_types (Kd.R_types HO_6.out BK182.out (by decide)) BK176.out (by decide)) (fun _ hk => hk.1.2) (.int .i64 (rd l1 (ji13)))) (fun _ hk => hk.2) (.int .i64 x7_1)) (fun _ hk => hk.2) (.int .i64 (rd l1 0))) (fun _ hk => hk.2) (.int .i64 (rd l1 1))) (fun _ hk => hk.2) (.int .i64 (rd l1 (ji13)))) (fun _ hk => trivial)))⟩;have n1_:Aside0 (w23.heap[gb176]?=some (.cells #[.int .i64 x7_1,.int .i64 (rd l1 0),.int .i64 (rd l1 1),.int .i64 (rd l1 (ji13))] 50 (0,0))):=⟨(by rw [hw];exact (by (with_reducible repeat (first|refine blk_drewN ?_ _|refine blk_drew ?_|refine blk_alloc ?_ _));refine blk_put (cs:=#[.int .i64 x7_1,.int .i64 (rd l1 0),.int .i64 (rd l1 1),.int .i64 x177003_1]) ?_ 3 _ rfl;(with_reducible repeat (first|refine blk_drewN ?_ _|refine blk_drew ?_|refine blk_alloc ?_ _));refine blk_put (cs:=#[.int .i64 x7_1,.int .i64 (rd l1 0),.int .i64 x177002_1,.int .i64 x177003_1]) ?_ 2 _ rfl;(with_reducible repeat (first|refine blk_drewN ?_ _|refine blk_drew ?_|refine blk_alloc ?_ _));refine blk_put (cs:=#[.int .i64 x7_1,.int .i64 x177001_1,.int .i64 x177002_1,.int .i64 x177003_1]) ?_ 1 _ rfl;(with_reducible repeat (first|refine blk_drewN ?_ _|refine blk_drew ?_|refine blk_alloc ?_ _));refine blk_put (cs:=#[.int .i64 x177000_1,.int .i64 x177001_1,.int .i64 x177002_1,.int .i64 x177003_1]) ?_ 0 _ rfl;(with_reducible repeat (first|refine blk_drewN ?_ _|refine blk_drew ?_|refine blk_alloc ?_ _));refine blk_far ?_ NB176_182.out _;(with_reducible repeat (first|refine blk_drewN ?_ _|refine blk_drew ?_|refine blk_alloc ?_ _));exact BK176.out))⟩;have n2_:Aside0 (w23.heap[gb182]?=some (.cells #[.int .i64 x7_1,.int .i64 (rd l1 0),.int .i64 (rd l1 1),.int .i64 (rd l1 (ji13))] 50 (0,0))):=⟨(by rw [hw];exact (by (with_reducible repeat (first|refine blk_drewN ?_ _|refine blk_drew ?_|refine blk_alloc ?_ _));refine blk_far ?_ NB182_176.out _;(with_reducible repeat (first|refine blk_drewN ?_ _|refine blk_drew ?_|refine blk_alloc ?_ _));refine blk_far ?_ NB182_176.out _;(with_reducible repeat (first|refine blk_drewN ?_ _|refine blk_drew ?_|refine blk_alloc ?_ _));refine blk_far ?_ NB182_176.out _;(with_reducible repeat (first|refine blk_drewN ?_ _|refine blk_drew ?_|refine blk_alloc ?_ _));refine blk_far ?_ NB182_176.out _;(with_reducible repeat (first|refine blk_drewN ?_ _|refine blk_drew ?_|refine blk_alloc ?_ _));refine blk_put (cs:=#[.int .i64 x7_1,.int .i64 (rd l1 0),.int .i64 (rd l1 1),.int .i64 0]) ?_ 3 _ rfl;(with_reducible repeat (first|refine blk_drewN ?_ _|refine blk_drew ?_|refine blk_alloc ?_ _));exact BK182.out))⟩;have n3_:Aside0 (Below w.heap.size w w23):=⟨(by rw [hw];exact (by repeat (first|(with_reducible first|exact HB.out|apply below_alloc|apply pw_below_drewN|apply below_drew1|refine below_set ?_ GE176.out|refine below_set ?_ GE182.out)|exact HB.out)))⟩;clear hw;clear HO_6;clear BK176;clear BK182;clear HB;have HO_6:=n0_;have BK176:=n1_;have BK182:=n2_;have HB:=n3_;clear n0_ n1_ n2_ n3_))
            refine bodyPost_ret (results_ct rfl _ _ gb176 50 #[.int .i64 x7_1,.int .i64 (rd l1 0),.int .i64 (rd l1 1),.int .i64 (rd l1 (ji13))] (0,0) _ rfl (by (with_reducible repeat (first|refine blk_drewN ?_ _|refine blk_drew ?_|refine blk_alloc ?_ _));exact BK176.out) Tryz.underlying50 rfl (by kernel_rfl)) rfl ?_
            exact ⟨by first|rfl|(simp [errW_none,errW_some] <;> rfl)|(simp only [← hji13];first|rfl|(simp [errW_none,errW_some] <;> rfl))|(simp [*,errW_none,errW_some] <;> rfl),by repeat (first|(with_reducible first|exact HB.out|apply below_alloc|apply pw_below_drewN|apply below_drew1|refine below_set ?_ GE176.out|refine below_set ?_ GE182.out)|exact HB.out)⟩
           ·rw [if_neg c15] at H
            exact absurd H (by simp)
          ·rw [if_neg c14] at H
           exact absurd H (by simp)
         ·rw [if_neg c12] at H
          have c12b0:decide (x7_1≤2)=false:=decide_eq_false c12
          clear c12
          simp only [Option.some.injEq,Prod.mk.injEq] at H
          obtain ⟨rfl,rfl,rfl,rfl,rfl⟩:=H
          obtain ⟨Ao24,co24,eo24⟩:=Kd.R_slice HO_6.out
          subst eo24
          have p180:0≤(x7_1:Int):=of_decide_eq_true (by first|(with_reducible assumption)|assumption)
          have q180:x7_1 < (t177.length:Int):=of_decide_eq_true (by first|(with_reducible assumption)|assumption)
          obtain ⟨ad180,e180,hx180_0⟩:=Kd.at_string (Kd.R_reads' HO_6.out).2.2 x7_1 p180 q180
          cases e180
          replace p180:=eq_true p180
          replace q180:=eq_true q180
          have p181:0≤(0:Int):=(by omega)
          have q181:0 < (l1.length:Int):=of_decide_eq_true (by first|(with_reducible assumption)|assumption)
          obtain ⟨ad181,e181,hx181_0⟩:=Kd.at_int HR1.out 0 p181 q181
          cases e181
          have qi181:(0 < l1.length)=True:=eq_true (by omega)
          (try rw [show ((0:Int)).toNat=0 from rfl] at hx181_0)
          (try rw [Addr.add_zero'] at hx181_0)
          replace hx181_0:=(HB.out.cell (World.block_lt_of_cell? w _ hx181_0)).trans hx181_0
          replace p181:=eq_true p181
          replace q181:=eq_true q181
          go_wp2_with (first|((with_reducible refine gate_dst (N:=8) rfl ?_);refine box_event ?hg (N:=8) ?hd (cs:=#[.int .i64 0,.int .i64 0,.int .i64 0,.int .i64 0]) (t:=50) ?hr ?_;(case hd => rfl);(case hg => rfl);(case hr => first|(go_simp;done)|(go_simp;rfl));intro gb182 hg w25 hbox hb;have n0_:=Aside0.mk (Kd.R_below (by (with_reducible repeat (first|apply Kd.R_alloc|apply Kd.R_drewN|apply Kd.R_drew));exact HO_6.out) hb);have n1_:=Aside0.mk (blk_below (g:=gb176) (o:=.cells #[.int .i64 x177000_1,.int .i64 x177001_1,.int .i64 x177002_1,.int .i64 x177003_1] 50 (0,0)) (by (with_reducible repeat (first|refine blk_drewN ?_ _|refine blk_drew ?_|refine blk_alloc ?_ _));exact BK176.out) hb);have n2_:=Aside0.mk (below_step (by repeat (first|(with_reducible first|exact HB.out|apply below_alloc|apply pw_below_drewN|apply below_drew1|refine below_set ?_ GE176.out)|exact HB.out)) hb);have n3_:=Aside0.mk (hbox);have n4_:=Aside0.mk ((by rw [hg];exact (below_size (by repeat (first|(with_reducible first|exact HB.out|apply below_alloc|apply pw_below_drewN|apply below_drew1|refine below_set ?_ GE176.out)|exact HB.out))):w.heap.size≤gb182));have n5_:=Aside0.mk ((by rw [hg];exact (below_size (by repeat (first|(with_reducible first|exact HB.out|apply below_alloc|apply pw_below_drewN|apply below_drew1|refine below_set ?_ GE176.out)|exact HB.out))):w.heap.size≤gb182));have n6_:=Aside0.mk ((by rw [hg];exact Nat.ne_of_lt (blk_lt (g:=gb176) (o:=.cells #[.int .i64 x177000_1,.int .i64 x177001_1,.int .i64 x177002_1,.int .i64 x177003_1] 50 (0,0)) (by (with_reducible repeat (first|refine blk_drewN ?_ _|refine blk_drew ?_|refine blk_alloc ?_ _));exact BK176.out)):gb176 ≠ gb182));have n7_:=Aside0.mk ((by rw [hg];exact Nat.ne_of_gt (blk_lt (g:=gb176) (o:=.cells #[.int .i64 x177000_1,.int .i64 x177001_1,.int .i64 x177002_1,.int .i64 x177003_1] 50 (0,0)) (by (with_reducible repeat (first|refine blk_drewN ?_ _|refine blk_drew ?_|refine blk_alloc ?_ _));exact BK176.out)):gb182 ≠ gb176));clear HO_6;clear BK176;clear HB;have HO_6:=n0_;have BK176:=n1_;have HB:=n2_;have BK182:=n3_;have GW182:=n4_;have GE182:=n5_;have NB176_182:=n6_;have NB182_176:=n7_;clear n0_ n1_ n2_ n3_ n4_ n5_ n6_ n7_;clear hb hbox hg;have hnb26:=NB182_176.out;have hnc26:=NB176_182.out;have hcz27_0:w25.cell? ⟨gb182,0,none⟩=some (.int .i64 0):=(blk_cell BK182.out 0).trans rfl;have hcz27_1:w25.cell? ⟨gb182,1,none⟩=some (.int .i64 0):=(blk_cell BK182.out 1).trans rfl;have hcz27_2:w25.cell? ⟨gb182,2,none⟩=some (.int .i64 0):=(blk_cell BK182.out 2).trans rfl;have hcz27_3:w25.cell? ⟨gb182,3,none⟩=some (.int .i64 0):=(blk_cell BK182.out 3).trans rfl;have hfz27_0:=blk_frozen BK182.out 0;have hfz27_1:=blk_frozen BK182.out 1;have hfz27_2:=blk_frozen BK182.out 2;have hfz27_3:=blk_frozen BK182.out 3;have p183:0≤(1:Int):=(by omega);have q183:1 < (l1.length:Int):=of_decide_eq_true (by first|(with_reducible assumption)|assumption);obtain ⟨ad183,e183,hx183_0⟩:=Kd.at_int HR1.out 1 p183 q183;obtain rfl:ad181=ad183:=(by injection e183);(try simp only [show (1:Int).toNat=1 from rfl,Nat.reduceMul,Nat.reduceEqDiff,Go.Addr.add,↓reduceIte] at hx183_0);have qi183:(1 < l1.length)=True:=eq_true (by omega);(try rw [show ((1:Int)).toNat=1 from rfl] at hx183_0);have hn183_0:ad181.block ≠ gb182:=Nat.ne_of_lt (Nat.lt_of_lt_of_le (by have:=World.block_lt_of_cell? _ _ hx183_0;first|rwa [add_block] at this|exact this) GW182.out);have hn183_1:ad181.block ≠ gb182:=Nat.ne_of_lt (Nat.lt_of_lt_of_le (by have:=World.block_lt_of_cell? _ _ hx183_0;first|rwa [add_block] at this|exact this) GW182.out);have hn183_2:ad181.block ≠ gb182:=Nat.ne_of_lt (Nat.lt_of_lt_of_le (by have:=World.block_lt_of_cell? _ _ hx183_0;first|rwa [add_block] at this|exact this) GW182.out);have hn183_3:ad181.block ≠ gb182:=Nat.ne_of_lt (Nat.lt_of_lt_of_le (by have:=World.block_lt_of_cell? _ _ hx183_0;first|rwa [add_block] at this|exact this) GW182.out);replace hx183_0:=(HB.out.cell (World.block_lt_of_cell? w _ hx183_0)).trans hx183_0;replace hx183_0:=(cell_far (p:=⟨gb182,0,none⟩) (by first|(rw [add_block];exact hn183_0)|(show (Addr.add _ _).block ≠ _;rw [add_block];exact hn183_0)|exact hn183_0) (.int .i64 x7_1)).trans hx183_0;replace hx183_0:=(cell_far (p:=⟨gb182,1,none⟩) (by first|(rw [add_block];exact hn183_1)|(show (Addr.add _ _).block ≠ _;rw [add_block];exact hn183_1)|exact hn183_1) (.int .i64 (rd l1 0))).trans hx183_0;replace hx183_0:=(cell_far (p:=⟨gb182,2,none⟩) (by first|(rw [add_block];exact hn183_2)|(show (Addr.add _ _).block ≠ _;rw [add_block];exact hn183_2)|exact hn183_2) (.int .i64 0)).trans hx183_0;replace hx183_0:=(cell_far (p:=⟨gb182,3,none⟩) (by first|(rw [add_block];exact hn183_3)|(show (Addr.add _ _).block ≠ _;rw [add_block];exact hn183_3)|exact hn183_3) (.int .i64 0)).trans hx183_0;clear hn183_0;clear hn183_1;clear hn183_2;clear hn183_3;replace p183:=eq_true p183;replace q183:=eq_true q183)|((with_reducible refine gate_store (t:=3) (p:=32) rfl ?_);refine store_event (t:=3) (p:=32) (v:=?vo_w28) (w1:=(((((w25.setCell ⟨gb182,0,none⟩ (.int .i64 x7_1)).setCell ⟨gb182,1,none⟩ (.int .i64 (rd l1 0))).setCell ⟨gb182,2,none⟩ (.int .i64 0)).setCell ⟨gb182,3,none⟩ (.int .i64 0)).setCell ⟨gb182,2,none⟩ (.int .i64 (rd l1 1)))) ?hg ?ho ?hn ?hr ?_;(case ho => rfl);(case hg => rfl);(case hn => rfl);(case hr => first|(go_simp;done)|(go_simp;rfl));intro w28 hw;have n0_:Aside0 (Kd.R Kd.string 9 w28 w.heap.size (fun _ => True) (.slice (some ad180) t177.length co24) t177):=⟨(by rw [hw];exact (by (with_reducible repeat (first|apply Kd.R_alloc|apply Kd.R_drewN|apply Kd.R_drew));exact Kd.R_mono (Kd.R_far (p:=⟨gb182,2,none⟩) (Kd.R_far (p:=⟨gb182,3,none⟩) (Kd.R_far (p:=⟨gb182,2,none⟩) (Kd.R_far (p:=⟨gb182,1,none⟩) (Kd.R_far (p:=⟨gb182,0,none⟩) (Kd.R_types HO_6.out BK182.out (by decide)) (fun _ hk => hk.2) (.int .i64 x7_1)) (fun _ hk => hk.2) (.int .i64 (rd l1 0))) (fun _ hk => hk.2) (.int .i64 0)) (fun _ hk => hk.2) (.int .i64 0)) (fun _ hk => hk.2) (.int .i64 (rd l1 1))) (fun _ hk => trivial)))⟩;have n1_:Aside0 (w28.heap[gb176]?=some (.cells #[.int .i64 x177000_1,.int .i64 x177001_1,.int .i64 x177002_1,.int .i64 x177003_1] 50 (0,0))):=⟨(by rw [hw];exact (by (with_reducible repeat (first|refine blk_drewN ?_ _|refine blk_drew ?_|refine blk_alloc ?_ _));refine blk_far ?_ NB176_182.out _;(with_reducible repeat (first|refine blk_drewN ?_ _|refine blk_drew ?_|refine blk_alloc ?_ _));refine blk_far ?_ NB176_182.out _;(with_reducible repeat (first|refine blk_drewN ?_ _|refine blk_drew ?_|refine blk_alloc ?_ _));refine blk_far ?_ NB176_182.out _;(with_reducible repeat (first|refine blk_drewN ?_ _|refine blk_drew ?_|refine blk_alloc ?_ _));refine blk_far ?_ NB176_182.out _;(with_reducible repeat (first|refine blk_drewN ?_ _|refine blk_drew ?_|refine blk_alloc ?_ _));refine blk_far ?_ NB176_182.out _;(with_reducible repeat (first|refine blk_drewN ?_ _|refine blk_drew ?_|refine blk_alloc ?_ _));exact BK176.out))⟩;have n2_:Aside0 (w28.heap[gb182]?=some (.cells #[.int .i64 x7_1,.int .i64 (rd l1 0),.int .i64 (rd l1 1),.int .i64 0] 50 (0,0))):=⟨(by rw [hw];exact (by (with_reducible repeat (first|refine blk_drewN ?_ _|refine blk_drew ?_|refine blk_alloc ?_ _));refine blk_put (cs:=#[.int .i64 x7_1,.int .i64 (rd l1 0),.int .i64 0,.int .i64 0]) ?_ 2 _ rfl;(with_reducible repeat (first|refine blk_drewN ?_ _|refine blk_drew ?_|refine blk_alloc ?_ _));refine blk_put (cs:=#[.int .i64 x7_1,.int .i64 (rd l1 0),.int .i64 0,.int .i64 0]) ?_ 3 _ rfl;(with_reducible repeat (first|refine blk_drewN ?_ _|refine blk_drew ?_|refine blk_alloc ?_ _));refine blk_put (cs:=#[.int .i64 x7_1,.int .i64 (rd l1 0),.int .i64 0,.int .i64 0]) ?_ 2 _ rfl;(with_reducible repeat (first|refine blk_drewN ?_ _|refine blk_drew ?_|refine blk_alloc ?_ _));refine blk_put (cs:=#[.int .i64 x7_1,.int .i64 0,.int .i64 0,.int .i64 0]) ?_ 1 _ rfl;(with_reducible repeat (first|refine blk_drewN ?_ _|refine blk_drew ?_|refine blk_alloc ?_ _));refine blk_put (cs:=#[.int .i64 0,.int .i64 0,.int .i64 0,.int .i64 0]) ?_ 0 _ rfl;(with_reducible repeat (first|refine blk_drewN ?_ _|refine blk_drew ?_|refine blk_alloc ?_ _));exact BK182.out))⟩;have n3_:Aside0 (Below w.heap.size w w28):=⟨(by rw [hw];exact (by repeat (first|(with_reducible first|exact HB.out|apply below_alloc|apply pw_below_drewN|apply below_drew1|refine below_set ?_ GE176.out|refine below_set ?_ GE182.out)|exact HB.out)))⟩;clear hw;clear HO_6;clear BK176;clear BK182;clear HB;have HO_6:=n0_;have BK176:=n1_;have BK182:=n2_;have HB:=n3_;clear n0_ n1_ n2_ n3_;have hcz29_0:w28.cell? ⟨gb182,0,none⟩=some (.int .i64 x7_1):=(blk_cell BK182.out 0).trans rfl;have hcz29_1:w28.cell? ⟨gb182,1,none⟩=some (.int .i64 (rd l1 0)):=(blk_cell BK182.out 1).trans rfl;have hcz29_2:w28.cell? ⟨gb182,2,none⟩=some (.int .i64 (rd l1 1)):=(blk_cell BK182.out 2).trans rfl;have hcz29_3:w28.cell? ⟨gb182,3,none⟩=some (.int .i64 0):=(blk_cell BK182.out 3).trans rfl;have hfz29_0:=blk_frozen BK182.out 0;have hfz29_1:=blk_frozen BK182.out 1;have hfz29_2:=blk_frozen BK182.out 2;have hfz29_3:=blk_frozen BK182.out 3;have hcz30_0:w28.cell? ⟨gb176,0,none⟩=some (.int .i64 x177000_1):=(blk_cell BK176.out 0).trans rfl;have hcz30_1:w28.cell? ⟨gb176,1,none⟩=some (.int .i64 x177001_1):=(blk_cell BK176.out 1).trans rfl;have hcz30_2:w28.cell? ⟨gb176,2,none⟩=some (.int .i64 x177002_1):=(blk_cell BK176.out 2).trans rfl;have hcz30_3:w28.cell? ⟨gb176,3,none⟩=some (.int .i64 x177003_1):=(blk_cell BK176.out 3).trans rfl;have hfz30_0:=blk_frozen BK176.out 0;have hfz30_1:=blk_frozen BK176.out 1;have hfz30_2:=blk_frozen BK176.out 2;have hfz30_3:=blk_frozen BK176.out 3))
          refine bodyPost_ret (results_ct rfl _ _ gb176 50 #[.int .i64 x7_1,.int .i64 (rd l1 0),.int .i64 (rd l1 1),.int .i64 0] (0,0) _ rfl (by (with_reducible repeat (first|refine blk_drewN ?_ _|refine blk_drew ?_|refine blk_alloc ?_ _));refine blk_put (cs:=#[.int .i64 x7_1,.int .i64 (rd l1 0),.int .i64 (rd l1 1),.int .i64 x177003_1]) ?_ 3 _ rfl;(with_reducible repeat (first|refine blk_drewN ?_ _|refine blk_drew ?_|refine blk_alloc ?_ _));refine blk_put (cs:=#[.int .i64 x7_1,.int .i64 (rd l1 0),.int .i64 x177002_1,.int .i64 x177003_1]) ?_ 2 _ rfl;(with_reducible repeat (first|refine blk_drewN ?_ _|refine blk_drew ?_|refine blk_alloc ?_ _));refine blk_put (cs:=#[.int .i64 x7_1,.int .i64 x177001_1,.int .i64 x177002_1,.int .i64 x177003_1]) ?_ 1 _ rfl;(with_reducible repeat (first|refine blk_drewN ?_ _|refine blk_drew ?_|refine blk_alloc ?_ _));refine blk_put (cs:=#[.int .i64 x177000_1,.int .i64 x177001_1,.int .i64 x177002_1,.int .i64 x177003_1]) ?_ 0 _ rfl;(with_reducible repeat (first|refine blk_drewN ?_ _|refine blk_drew ?_|refine blk_alloc ?_ _));exact BK176.out) Tryz.underlying50 rfl (by kernel_rfl)) rfl ?_
          exact ⟨by first|rfl|(simp [errW_none,errW_some] <;> rfl)|(simp [*,errW_none,errW_some] <;> rfl),by repeat (first|(with_reducible first|exact HB.out|apply below_alloc|apply pw_below_drewN|apply below_drew1|refine below_set ?_ GE176.out|refine below_set ?_ GE182.out)|exact HB.out)⟩
        ·rw [if_neg c11] at H
         exact absurd H (by simp)
       ·rw [if_neg c10] at H
        have c10b0:(x7_1==0)=false:=beq_eq_false_iff_ne.mpr c10
        have c10b1:(x7_1 != 0)=true:=bne_iff_ne.mpr c10
        by_cases c31:x7_1≤2
        ·rw [if_pos c31] at H
         have c31b0:decide (x7_1≤2)=true:=decide_eq_true c31
         clear c31
         obtain ⟨ji32,hji32⟩:∃ j_:Int,(wrap64 ((l1.length:Int) - 1))=j_:=⟨_,rfl⟩
         replace H:(if 0≤(ji32) then (if (ji32) < (l1.length:Int) then (some (x7_1,rd l1 0,0,rd l1 (ji32),true)) else (none)) else (none))=some (r1,r2,r3,r4,r5):=by first|(rw [hji32] at H;exact H)|(simp only [hji32] at H ⊢;exact H)
         have hji32w:(IntKind.i64.wrap ((l1.length:Int) - 1))=ji32:=(i64_w _).trans hji32
         by_cases c33:0≤(ji32)
         ·rw [if_pos c33] at H
          have c33b0:decide (0≤(ji32))=true:=decide_eq_true c33
          clear c33
          by_cases c34:(ji32) < (l1.length:Int)
          ·rw [if_pos c34] at H
           have c34b0:decide ((ji32) < (l1.length:Int))=true:=decide_eq_true c34
           clear c34
           simp only [Option.some.injEq,Prod.mk.injEq] at H
           obtain ⟨rfl,rfl,rfl,rfl,rfl⟩:=H
           obtain ⟨Ao35,co35,eo35⟩:=Kd.R_slice HO_6.out
           subst eo35
           have p180:0≤(x7_1:Int):=of_decide_eq_true (by first|(with_reducible assumption)|assumption)
           have q180:x7_1 < (t177.length:Int):=of_decide_eq_true (by first|(with_reducible assumption)|assumption)
           obtain ⟨ad180,e180,hx180_0⟩:=Kd.at_string (Kd.R_reads' HO_6.out).2.2 x7_1 p180 q180
           cases e180
           replace p180:=eq_true p180
           replace q180:=eq_true q180
           have p181:0≤(0:Int):=(by omega)
           have q181:0 < (l1.length:Int):=of_decide_eq_true (by first|(with_reducible assumption)|assumption)
           obtain ⟨ad181,e181,hx181_0⟩:=Kd.at_int HR1.out 0 p181 q181
           cases e181
           have qi181:(0 < l1.length)=True:=eq_true (by omega)
           (try rw [show ((0:Int)).toNat=0 from rfl] at hx181_0)
           (try rw [Addr.add_zero'] at hx181_0)
           replace hx181_0:=(HB.out.cell (World.block_lt_of_cell? w _ hx181_0)).trans hx181_0
           replace p181:=eq_true p181
           replace q181:=eq_true q181
           go_wp2_with (first|((with_reducible refine gate_dst (N:=8) rfl ?_);refine box_event ?hg (N:=8) ?hd (cs:=#[.int .i64 0,.int .i64 0,.int .i64 0,.int .i64 0]) (t:=50) ?hr ?_;(case hd => rfl);(case hg => rfl);(case hr => first|(go_simp;done)|(go_simp;rfl));intro gb182 hg w36 hbox hb;have n0_:=Aside0.mk (Kd.R_below (by (with_reducible repeat (first|apply Kd.R_alloc|apply Kd.R_drewN|apply Kd.R_drew));exact HO_6.out) hb);have n1_:=Aside0.mk (blk_below (g:=gb176) (o:=.cells #[.int .i64 x177000_1,.int .i64 x177001_1,.int .i64 x177002_1,.int .i64 x177003_1] 50 (0,0)) (by (with_reducible repeat (first|refine blk_drewN ?_ _|refine blk_drew ?_|refine blk_alloc ?_ _));exact BK176.out) hb);have n2_:=Aside0.mk (below_step (by repeat (first|(with_reducible first|exact HB.out|apply below_alloc|apply pw_below_drewN|apply below_drew1|refine below_set ?_ GE176.out)|exact HB.out)) hb);have n3_:=Aside0.mk (hbox);have n4_:=Aside0.mk ((by rw [hg];exact (below_size (by repeat (first|(with_reducible first|exact HB.out|apply below_alloc|apply pw_below_drewN|apply below_drew1|refine below_set ?_ GE176.out)|exact HB.out))):w.heap.size≤gb182));have n5_:=Aside0.mk ((by rw [hg];exact (below_size (by repeat (first|(with_reducible first|exact HB.out|apply below_alloc|apply pw_below_drewN|apply below_drew1|refine below_set ?_ GE176.out)|exact HB.out))):w.heap.size≤gb182));have n6_:=Aside0.mk ((by rw [hg];exact Nat.ne_of_lt (blk_lt (g:=gb176) (o:=.cells #[.int .i64 x177000_1,.int .i64 x177001_1,.int .i64 x177002_1,.int .i64 x177003_1] 50 (0,0)) (by (with_reducible repeat (first|refine blk_drewN ?_ _|refine blk_drew ?_|refine blk_alloc ?_ _));exact BK176.out)):gb176 ≠ gb182));have n7_:=Aside0.mk ((by rw [hg];exact Nat.ne_of_gt (blk_lt (g:=gb176) (o:=.cells #[.int .i64 x177000_1,.int .i64 x177001_1,.int .i64 x177002_1,.int .i64 x177003_1] 50 (0,0)) (by (with_reducible repeat (first|refine blk_drewN ?_ _|refine blk_drew ?_|refine blk_alloc ?_ _));exact BK176.out)):gb182 ≠ gb176));clear HO_6;clear BK176;clear HB;have HO_6:=n0_;have BK176:=n1_;have HB:=n2_;have BK182:=n3_;have GW182:=n4_;have GE182:=n5_;have NB176_182:=n6_;have NB182_176:=n7_;clear n0_ n1_ n2_ n3_ n4_ n5_ n6_ n7_;clear hb hbox hg;have hnb37:=NB182_176.out;have hnc37:=NB176_182.out;have hcz38_0:w36.cell? ⟨gb182,0,none⟩=some (.int .i64 0):=(blk_cell BK182.out 0).trans rfl;have hcz38_1:w36.cell? ⟨gb182,1,none⟩=some (.int .i64 0):=(blk_cell BK182.out 1).trans rfl;have hcz38_2:w36.cell? ⟨gb182,2,none⟩=some (.int .i64 0):=(blk_cell BK182.out 2).trans rfl;have hcz38_3:w36.cell? ⟨gb182,3,none⟩=some (.int .i64 0):=(blk_cell BK182.out 3).trans rfl;have hfz38_0:=blk_frozen BK182.out 0;have hfz38_1:=blk_frozen BK182.out 1;have hfz38_2:=blk_frozen BK182.out 2;have hfz38_3:=blk_frozen BK182.out 3;have p185:0≤((ji32):Int):=of_decide_eq_true (by first|(with_reducible assumption)|assumption);have q185:(ji32) < (l1.length:Int):=of_decide_eq_true (by first|(with_reducible assumption)|assumption);obtain ⟨ad185,e185,hx185_0⟩:=Kd.at_int HR1.out (ji32) p185 q185;obtain rfl:ad181=ad185:=(by injection e185);have hn185_0:ad181.block ≠ gb182:=Nat.ne_of_lt (Nat.lt_of_lt_of_le (by have:=World.block_lt_of_cell? _ _ hx185_0;first|rwa [add_block] at this|exact this) GW182.out);have hn185_1:ad181.block ≠ gb182:=Nat.ne_of_lt (Nat.lt_of_lt_of_le (by have:=World.block_lt_of_cell? _ _ hx185_0;first|rwa [add_block] at this|exact this) GW182.out);have hn185_2:ad181.block ≠ gb182:=Nat.ne_of_lt (Nat.lt_of_lt_of_le (by have:=World.block_lt_of_cell? _ _ hx185_0;first|rwa [add_block] at this|exact this) GW182.out);have hn185_3:ad181.block ≠ gb182:=Nat.ne_of_lt (Nat.lt_of_lt_of_le (by have:=World.block_lt_of_cell? _ _ hx185_0;first|rwa [add_block] at this|exact this) GW182.out);replace hx185_0:=(HB.out.cell (World.block_lt_of_cell? w _ hx185_0)).trans hx185_0;replace hx185_0:=(cell_far (p:=⟨gb182,0,none⟩) (by first|(rw [add_block];exact hn185_0)|(show (Addr.add _ _).block ≠ _;rw [add_block];exact hn185_0)|exact hn185_0) (.int .i64 x7_1)).trans hx185_0;replace hx185_0:=(cell_far (p:=⟨gb182,1,none⟩) (by first|(rw [add_block];exact hn185_1)|(show (Addr.add _ _).block ≠ _;rw [add_block];exact hn185_1)|exact hn185_1) (.int .i64 (rd l1 0))).trans hx185_0;replace hx185_0:=(cell_far (p:=⟨gb182,2,none⟩) (by first|(rw [add_block];exact hn185_2)|(show (Addr.add _ _).block ≠ _;rw [add_block];exact hn185_2)|exact hn185_2) (.int .i64 0)).trans hx185_0;replace hx185_0:=(cell_far (p:=⟨gb182,3,none⟩) (by first|(rw [add_block];exact hn185_3)|(show (Addr.add _ _).block ≠ _;rw [add_block];exact hn185_3)|exact hn185_3) (.int .i64 0)).trans hx185_0;clear hn185_0;clear hn185_1;clear hn185_2;clear hn185_3;replace p185:=eq_true p185;replace q185:=eq_true q185)|((with_reducible refine gate_store (t:=2) (p:=41) rfl ?_);refine store_event (t:=2) (p:=41) (v:=?vo_w39) (w1:=(((((w36.setCell ⟨gb182,0,none⟩ (.int .i64 x7_1)).setCell ⟨gb182,1,none⟩ (.int .i64 (rd l1 0))).setCell ⟨gb182,2,none⟩ (.int .i64 0)).setCell ⟨gb182,3,none⟩ (.int .i64 0)).setCell ⟨gb182,3,none⟩ (.int .i64 (rd l1 (ji32))))) ?hg ?ho ?hn ?hr ?_;(case ho => rfl);(case hg => rfl);(case hn => rfl);(case hr => first|(go_simp;done)|(go_simp;rfl));intro w39 hw;have n0_:Aside0 (Kd.R Kd.string 9 w39 w.heap.size (fun _ => True) (.slice (some ad180) t177.length co35) t177):=⟨(by rw [hw];exact (by (with_reducible repeat (first|apply Kd.R_alloc|apply Kd.R_drewN|apply Kd.R_drew));exact Kd.R_mono (Kd.R_far (p:=⟨gb182,3,none⟩) (Kd.R_far (p:=⟨gb182,3,none⟩) (Kd.R_far (p:=⟨gb182,2,none⟩) (Kd.R_far (p:=⟨gb182,1,none⟩) (Kd.R_far (p:=⟨gb182,0,none⟩) (Kd.R_types HO_6.out BK182.out (by decide)) (fun _ hk => hk.2) (.int .i64 x7_1)) (fun _ hk => hk.2) (.int .i64 (rd l1 0))) (fun _ hk => hk.2) (.int .i64 0)) (fun _ hk => hk.2) (.int .i64 0)) (fun _ hk => hk.2) (.int .i64 (rd l1 (ji32)))) (fun _ hk => trivial)))⟩;have n1_:Aside0 (w39.heap[gb176]?=some (.cells #[.int .i64 x177000_1,.int .i64 x177001_1,.int .i64 x177002_1,.int .i64 x177003_1] 50 (0,0))):=⟨(by rw [hw];exact (by (with_reducible repeat (first|refine blk_drewN ?_ _|refine blk_drew ?_|refine blk_alloc ?_ _));refine blk_far ?_ NB176_182.out _;(with_reducible repeat (first|refine blk_drewN ?_ _|refine blk_drew ?_|refine blk_alloc ?_ _));refine blk_far ?_ NB176_182.out _;(with_reducible repeat (first|refine blk_drewN ?_ _|refine blk_drew ?_|refine blk_alloc ?_ _));refine blk_far ?_ NB176_182.out _;(with_reducible repeat (first|refine blk_drewN ?_ _|refine blk_drew ?_|refine blk_alloc ?_ _));refine blk_far ?_ NB176_182.out _;(with_reducible repeat (first|refine blk_drewN ?_ _|refine blk_drew ?_|refine blk_alloc ?_ _));refine blk_far ?_ NB176_182.out _;(with_reducible repeat (first|refine blk_drewN ?_ _|refine blk_drew ?_|refine blk_alloc ?_ _));exact BK176.out))⟩;have n2_:Aside0 (w39.heap[gb182]?=some (.cells #[.int .i64 x7_1,.int .i64 (rd l1 0),.int .i64 0,.int .i64 (rd l1 (ji32))] 50 (0,0))):=⟨(by rw [hw];exact (by (with_reducible repeat (first|refine blk_drewN ?_ _|refine blk_drew ?_|refine blk_alloc ?_ _));refine blk_put (cs:=#[.int .i64 x7_1,.int .i64 (rd l1 0),.int .i64 0,.int .i64 0]) ?_ 3 _ rfl;(with_reducible repeat (first|refine blk_drewN ?_ _|refine blk_drew ?_|refine blk_alloc ?_ _));refine blk_put (cs:=#[.int .i64 x7_1,.int .i64 (rd l1 0),.int .i64 0,.int .i64 0]) ?_ 3 _ rfl;(with_reducible repeat (first|refine blk_drewN ?_ _|refine blk_drew ?_|refine blk_alloc ?_ _));refine blk_put (cs:=#[.int .i64 x7_1,.int .i64 (rd l1 0),.int .i64 0,.int .i64 0]) ?_ 2 _ rfl;(with_reducible repeat (first|refine blk_drewN ?_ _|refine blk_drew ?_|refine blk_alloc ?_ _));refine blk_put (cs:=#[.int .i64 x7_1,.int .i64 0,.int .i64 0,.int .i64 0]) ?_ 1 _ rfl;(with_reducible repeat (first|refine blk_drewN ?_ _|refine blk_drew ?_|refine blk_alloc ?_ _));refine blk_put (cs:=#[.int .i64 0,.int .i64 0,.int .i64 0,.int .i64 0]) ?_ 0 _ rfl;(with_reducible repeat (first|refine blk_drewN ?_ _|refine blk_drew ?_|refine blk_alloc ?_ _));exact BK182.out))⟩;have n3_:Aside0 (Below w.heap.size w w39):=⟨(by rw [hw];exact (by repeat (first|(with_reducible first|exact HB.out|apply below_alloc|apply pw_below_drewN|apply below_drew1|refine below_set ?_ GE176.out|refine below_set ?_ GE182.out)|exact HB.out)))⟩;clear hw;clear HO_6;clear BK176;clear BK182;clear HB;have HO_6:=n0_;have BK176:=n1_;have BK182:=n2_;have HB:=n3_;clear n0_ n1_ n2_ n3_;have hcz40_0:w39.cell? ⟨gb182,0,none⟩=some (.int .i64 x7_1):=(blk_cell BK182.out 0).trans rfl;have hcz40_1:w39.cell? ⟨gb182,1,none⟩=some (.int .i64 (rd l1 0)):=(blk_cell BK182.out 1).trans rfl;have hcz40_2:w39.cell? ⟨gb182,2,none⟩=some (.int .i64 0):=(blk_cell BK182.out 2).trans rfl;have hcz40_3:w39.cell? ⟨gb182,3,none⟩=some (.int .i64 (rd l1 (ji32))):=(blk_cell BK182.out 3).trans rfl;have hfz40_0:=blk_frozen BK182.out 0;have hfz40_1:=blk_frozen BK182.out 1;have hfz40_2:=blk_frozen BK182.out 2;have hfz40_3:=blk_frozen BK182.out 3;have hcz41_0:w39.cell? ⟨gb176,0,none⟩=some (.int .i64 x177000_1):=(blk_cell BK176.out 0).trans rfl;have hcz41_1:w39.cell? ⟨gb176,1,none⟩=some (.int .i64 x177001_1):=(blk_cell BK176.out 1).trans rfl;have hcz41_2:w39.cell? ⟨gb176,2,none⟩=some (.int .i64 x177002_1):=(blk_cell BK176.out 2).trans rfl;have hcz41_3:w39.cell? ⟨gb176,3,none⟩=some (.int .i64 x177003_1):=(blk_cell BK176.out 3).trans rfl;have hfz41_0:=blk_frozen BK176.out 0;have hfz41_1:=blk_frozen BK176.out 1;have hfz41_2:=blk_frozen BK176.out 2;have hfz41_3:=blk_frozen BK176.out 3))
           refine bodyPost_ret (results_ct rfl _ _ gb176 50 #[.int .i64 x7_1,.int .i64 (rd l1 0),.int .i64 0,.int .i64 (rd l1 (ji32))] (0,0) _ rfl (by (with_reducible repeat (first|refine blk_drewN ?_ _|refine blk_drew ?_|refine blk_alloc ?_ _));refine blk_put (cs:=#[.int .i64 x7_1,.int .i64 (rd l1 0),.int .i64 0,.int .i64 x177003_1]) ?_ 3 _ rfl;(with_reducible repeat (first|refine blk_drewN ?_ _|refine blk_drew ?_|refine blk_alloc ?_ _));refine blk_put (cs:=#[.int .i64 x7_1,.int .i64 (rd l1 0),.int .i64 x177002_1,.int .i64 x177003_1]) ?_ 2 _ rfl;(with_reducible repeat (first|refine blk_drewN ?_ _|refine blk_drew ?_|refine blk_alloc ?_ _));refine blk_put (cs:=#[.int .i64 x7_1,.int .i64 x177001_1,.int .i64 x177002_1,.int .i64 x177003_1]) ?_ 1 _ rfl;(with_reducible repeat (first|refine blk_drewN ?_ _|refine blk_drew ?_|refine blk_alloc ?_ _));refine blk_put (cs:=#[.int .i64 x177000_1,.int .i64 x177001_1,.int .i64 x177002_1,.int .i64 x177003_1]) ?_ 0 _ rfl;(with_reducible repeat (first|refine blk_drewN ?_ _|refine blk_drew ?_|refine blk_alloc ?_ _));exact BK176.out) Tryz.underlying50 rfl (by kernel_rfl)) rfl ?_
           exact ⟨by first|rfl|(simp [errW_none,errW_some] <;> rfl)|(simp only [← hji32];first|rfl|(simp [errW_none,errW_some] <;> rfl))|(simp [*,errW_none,errW_some] <;> rfl),by repeat (first|(with_reducible first|exact HB.out|apply below_alloc|apply pw_below_drewN|apply below_drew1|refine below_set ?_ GE176.out|refine below_set ?_ GE182.out)|exact HB.out)⟩
          ·rw [if_neg c34] at H
           exact absurd H (by simp)
         ·rw [if_neg c33] at H
          exact absurd H (by simp)
        ·rw [if_neg c31] at H
         have c31b0:decide (x7_1≤2)=false:=decide_eq_false c31
         clear c31
         simp only [Option.some.injEq,Prod.mk.injEq] at H
         obtain ⟨rfl,rfl,rfl,rfl,rfl⟩:=H
         obtain ⟨Ao42,co42,eo42⟩:=Kd.R_slice HO_6.out
         subst eo42
         have p180:0≤(x7_1:Int):=of_decide_eq_true (by first|(with_reducible assumption)|assumption)
         have q180:x7_1 < (t177.length:Int):=of_decide_eq_true (by first|(with_reducible assumption)|assumption)
         obtain ⟨ad180,e180,hx180_0⟩:=Kd.at_string (Kd.R_reads' HO_6.out).2.2 x7_1 p180 q180
         cases e180
         replace p180:=eq_true p180
         replace q180:=eq_true q180
         have p181:0≤(0:Int):=(by omega)
         have q181:0 < (l1.length:Int):=of_decide_eq_true (by first|(with_reducible assumption)|assumption)
         obtain ⟨ad181,e181,hx181_0⟩:=Kd.at_int HR1.out 0 p181 q181
         cases e181
         have qi181:(0 < l1.length)=True:=eq_true (by omega)
         (try rw [show ((0:Int)).toNat=0 from rfl] at hx181_0)
         (try rw [Addr.add_zero'] at hx181_0)
         replace hx181_0:=(HB.out.cell (World.block_lt_of_cell? w _ hx181_0)).trans hx181_0
         replace p181:=eq_true p181
         replace q181:=eq_true q181
         go_wp2_with (first|((with_reducible refine gate_dst (N:=8) rfl ?_);refine box_event ?hg (N:=8) ?hd (cs:=#[.int .i64 0,.int .i64 0,.int .i64 0,.int .i64 0]) (t:=50) ?hr ?_;(case hd => rfl);(case hg => rfl);(case hr => first|(go_simp;done)|(go_simp;rfl));intro gb182 hg w43 hbox hb;have n0_:=Aside0.mk (Kd.R_below (by (with_reducible repeat (first|apply Kd.R_alloc|apply Kd.R_drewN|apply Kd.R_drew));exact HO_6.out) hb);have n1_:=Aside0.mk (blk_below (g:=gb176) (o:=.cells #[.int .i64 x177000_1,.int .i64 x177001_1,.int .i64 x177002_1,.int .i64 x177003_1] 50 (0,0)) (by (with_reducible repeat (first|refine blk_drewN ?_ _|refine blk_drew ?_|refine blk_alloc ?_ _));exact BK176.out) hb);have n2_:=Aside0.mk (below_step (by repeat (first|(with_reducible first|exact HB.out|apply below_alloc|apply pw_below_drewN|apply below_drew1|refine below_set ?_ GE176.out)|exact HB.out)) hb);have n3_:=Aside0.mk (hbox);have n4_:=Aside0.mk ((by rw [hg];exact (below_size (by repeat (first|(with_reducible first|exact HB.out|apply below_alloc|apply pw_below_drewN|apply below_drew1|refine below_set ?_ GE176.out)|exact HB.out))):w.heap.size≤gb182));have n5_:=Aside0.mk ((by rw [hg];exact (below_size (by repeat (first|(with_reducible first|exact HB.out|apply below_alloc|apply pw_below_drewN|apply below_drew1|refine below_set ?_ GE176.out)|exact HB.out))):w.heap.size≤gb182));have n6_:=Aside0.mk ((by rw [hg];exact Nat.ne_of_lt (blk_lt (g:=gb176) (o:=.cells #[.int .i64 x177000_1,.int .i64 x177001_1,.int .i64 x177002_1,.int .i64 x177003_1] 50 (0,0)) (by (with_reducible repeat (first|refine blk_drewN ?_ _|refine blk_drew ?_|refine blk_alloc ?_ _));exact BK176.out)):gb176 ≠ gb182));have n7_:=Aside0.mk ((by rw [hg];exact Nat.ne_of_gt (blk_lt (g:=gb176) (o:=.cells #[.int .i64 x177000_1,.int .i64 x177001_1,.int .i64 x177002_1,.int .i64 x177003_1] 50 (0,0)) (by (with_reducible repeat (first|refine blk_drewN ?_ _|refine blk_drew ?_|refine blk_alloc ?_ _));exact BK176.out)):gb182 ≠ gb176));clear HO_6;clear BK176;clear HB;have HO_6:=n0_;have BK176:=n1_;have HB:=n2_;have BK182:=n3_;have GW182:=n4_;have GE182:=n5_;have NB176_182:=n6_;have NB182_176:=n7_;clear n0_ n1_ n2_ n3_ n4_ n5_ n6_ n7_;clear hb hbox hg;have hnb44:=NB182_176.out;have hnc44:=NB176_182.out;have hcz45_0:w43.cell? ⟨gb182,0,none⟩=some (.int .i64 0):=(blk_cell BK182.out 0).trans rfl;have hcz45_1:w43.cell? ⟨gb182,1,none⟩=some (.int .i64 0):=(blk_cell BK182.out 1).trans rfl;have hcz45_2:w43.cell? ⟨gb182,2,none⟩=some (.int .i64 0):=(blk_cell BK182.out 2).trans rfl;have hcz45_3:w43.cell? ⟨gb182,3,none⟩=some (.int .i64 0):=(blk_cell BK182.out 3).trans rfl;have hfz45_0:=blk_frozen BK182.out 0;have hfz45_1:=blk_frozen BK182.out 1;have hfz45_2:=blk_frozen BK182.out 2;have hfz45_3:=blk_frozen BK182.out 3;have hcz46_0:w43.cell? ⟨gb176,0,none⟩=some (.int .i64 x177000_1):=(blk_cell BK176.out 0).trans rfl;have hcz46_1:w43.cell? ⟨gb176,1,none⟩=some (.int .i64 x177001_1):=(blk_cell BK176.out 1).trans rfl;have hcz46_2:w43.cell? ⟨gb176,2,none⟩=some (.int .i64 x177002_1):=(blk_cell BK176.out 2).trans rfl;have hcz46_3:w43.cell? ⟨gb176,3,none⟩=some (.int .i64 x177003_1):=(blk_cell BK176.out 3).trans rfl;have hfz46_0:=blk_frozen BK176.out 0;have hfz46_1:=blk_frozen BK176.out 1;have hfz46_2:=blk_frozen BK176.out 2;have hfz46_3:=blk_frozen BK176.out 3)|((with_reducible refine gate_store (t:=50) (p:=4) rfl ?_);refine store_event (t:=50) (p:=4) (v:=?vo_w47) (w1:=((((((((w43.setCell ⟨gb182,0,none⟩ (.int .i64 x7_1)).setCell ⟨gb182,1,none⟩ (.int .i64 (rd l1 0))).setCell ⟨gb182,2,none⟩ (.int .i64 0)).setCell ⟨gb182,3,none⟩ (.int .i64 0)).setCell ⟨gb176,0,none⟩ (.int .i64 x7_1)).setCell ⟨gb176,1,none⟩ (.int .i64 (rd l1 0))).setCell ⟨gb176,2,none⟩ (.int .i64 0)).setCell ⟨gb176,3,none⟩ (.int .i64 0))) ?hg ?ho ?hn ?hr ?_;(case ho => rfl);(case hg => rfl);(case hn => rfl);(case hr => first|(go_simp;done)|(go_simp;rfl));intro w47 hw;have n0_:Aside0 (Kd.R Kd.string 9 w47 w.heap.size (fun _ => True) (.slice (some ad180) t177.length co42) t177):=⟨(by rw [hw];exact (by (with_reducible repeat (first|apply Kd.R_alloc|apply Kd.R_drewN|apply Kd.R_drew));exact Kd.R_mono (Kd.R_far (p:=⟨gb176,3,none⟩) (Kd.R_far (p:=⟨gb176,2,none⟩) (Kd.R_far (p:=⟨gb176,1,none⟩) (Kd.R_far (p:=⟨gb176,0,none⟩) (Kd.R_far (p:=⟨gb182,3,none⟩) (Kd.R_far (p:=⟨gb182,2,none⟩) (Kd.R_far (p:=⟨gb182,1,none⟩) (Kd.R_far (p:=⟨gb182,0,none⟩) (Kd.R_types (Kd.R_types HO_6.out BK182.out (by decide)) BK176.out (by decide)) (fun _ hk => hk.1.2) (.int .i64 x7_1)) (fun _ hk => hk.1.2) (.int .i64 (rd l1 0))) (fun _ hk => hk.1.2) (.int .i64 0)) (fun _ hk => hk.1.2) (.int .i64 0)) (fun _ hk => hk.2) (.int .i64 x7_1)) (fun _ hk => hk.2) (.int .i64 (rd l1 0))) (fun _ hk => hk.2) (.int .i64 0)) (fun _ hk => hk.2) (.int .i64 0)) (fun _ hk => trivial)))⟩;have n1_:Aside0 (w47.heap[gb176]?=some (.cells #[.int .i64 x7_1,.int .i64 (rd l1 0),.int .i64 0,.int .i64 0] 50 (0,0))):=⟨(by rw [hw];exact (by (with_reducible repeat (first|refine blk_drewN ?_ _|refine blk_drew ?_|refine blk_alloc ?_ _));refine blk_put (cs:=#[.int .i64 x7_1,.int .i64 (rd l1 0),.int .i64 0,.int .i64 x177003_1]) ?_ 3 _ rfl;(with_reducible repeat (first|refine blk_drewN ?_ _|refine blk_drew ?_|refine blk_alloc ?_ _));refine blk_put (cs:=#[.int .i64 x7_1,.int .i64 (rd l1 0),.int .i64 x177002_1,.int .i64 x177003_1]) ?_ 2 _ rfl;(with_reducible repeat (first|refine blk_drewN ?_ _|refine blk_drew ?_|refine blk_alloc ?_ _));refine blk_put (cs:=#[.int .i64 x7_1,.int .i64 x177001_1,.int .i64 x177002_1,.int .i64 x177003_1]) ?_ 1 _ rfl;(with_reducible repeat (first|refine blk_drewN ?_ _|refine blk_drew ?_|refine blk_alloc ?_ _));refine blk_put (cs:=#[.int .i64 x177000_1,.int .i64 x177001_1,.int .i64 x177002_1,.int .i64 x177003_1]) ?_ 0 _ rfl;(with_reducible repeat (first|refine blk_drewN ?_ _|refine blk_drew ?_|refine blk_alloc ?_ _));refine blk_far ?_ NB176_182.out _;(with_reducible repeat (first|refine blk_drewN ?_ _|refine blk_drew ?_|refine blk_alloc ?_ _));refine blk_far ?_ NB176_182.out _;(with_reducible repeat (first|refine blk_drewN ?_ _|refine blk_drew ?_|refine blk_alloc ?_ _));refine blk_far ?_ NB176_182.out _;(with_reducible repeat (first|refine blk_drewN ?_ _|refine blk_drew ?_|refine blk_alloc ?_ _));refine blk_far ?_ NB176_182.out _;(with_reducible repeat (first|refine blk_drewN ?_ _|refine blk_drew ?_|refine blk_alloc ?_ _));exact BK176.out))⟩;have n2_:Aside0 (w47.heap[gb182]?=some (.cells #[.int .i64 x7_1,.int .i64 (rd l1 0),.int .i64 0,.int .i64 0] 50 (0,0))):=⟨(by rw [hw];exact (by (with_reducible repeat (first|refine blk_drewN ?_ _|refine blk_drew ?_|refine blk_alloc ?_ _));refine blk_far ?_ NB182_176.out _;(with_reducible repeat (first|refine blk_drewN ?_ _|refine blk_drew ?_|refine blk_alloc ?_ _));refine blk_far ?_ NB182_176.out _;(with_reducible repeat (first|refine blk_drewN ?_ _|refine blk_drew ?_|refine blk_alloc ?_ _));refine blk_far ?_ NB182_176.out _;(with_reducible repeat (first|refine blk_drewN ?_ _|refine blk_drew ?_|refine blk_alloc ?_ _));refine blk_far ?_ NB182_176.out _;(with_reducible repeat (first|refine blk_drewN ?_ _|refine blk_drew ?_|refine blk_alloc ?_ _));refine blk_put (cs:=#[.int .i64 x7_1,.int .i64 (rd l1 0),.int .i64 0,.int .i64 0]) ?_ 3 _ rfl;(with_reducible repeat (first|refine blk_drewN ?_ _|refine blk_drew ?_|refine blk_alloc ?_ _));refine blk_put (cs:=#[.int .i64 x7_1,.int .i64 (rd l1 0),.int .i64 0,.int .i64 0]) ?_ 2 _ rfl;(with_reducible repeat (first|refine blk_drewN ?_ _|refine blk_drew ?_|refine blk_alloc ?_ _));refine blk_put (cs:=#[.int .i64 x7_1,.int .i64 0,.int .i64 0,.int .i64 0]) ?_ 1 _ rfl;(with_reducible repeat (first|refine blk_drewN ?_ _|refine blk_drew ?_|refine blk_alloc ?_ _));refine blk_put (cs:=#[.int .i64 0,.int .i64 0,.int .i64 0,.int .i64 0]) ?_ 0 _ rfl;(with_reducible repeat (first|refine blk_drewN ?_ _|refine blk_drew ?_|refine blk_alloc ?_ _));exact BK182.out))⟩;have n3_:Aside0 (Below w.heap.size w w47):=⟨(by rw [hw];exact (by repeat (first|(with_reducible first|exact HB.out|apply below_alloc|apply pw_below_drewN|apply below_drew1|refine below_set ?_ GE176.out|refine below_set ?_ GE182.out)|exact HB.out)))⟩;clear hw;clear HO_6;clear BK176;clear BK182;clear HB;have HO_6:=n0_;have BK176:=n1_;have BK182:=n2_;have HB:=n3_;clear n0_ n1_ n2_ n3_))
         refine bodyPost_ret (results_ct rfl _ _ gb176 50 #[.int .i64 x7_1,.int .i64 (rd l1 0),.int .i64 0,.int .i64 0] (0,0) _ rfl (by (with_reducible repeat (first|refine blk_drewN ?_ _|refine blk_drew ?_|refine blk_alloc ?_ _));exact BK176.out) Tryz.underlying50 rfl (by kernel_rfl)) rfl ?_
         exact ⟨by first|rfl|(simp [errW_none,errW_some] <;> rfl)|(simp [*,errW_none,errW_some] <;> rfl),by repeat (first|(with_reducible first|exact HB.out|apply below_alloc|apply pw_below_drewN|apply below_drew1|refine below_set ?_ GE176.out|refine below_set ?_ GE182.out)|exact HB.out)⟩
      ·rw [if_neg c9] at H
       exact absurd H (by simp)
     ·rw [if_neg c8] at H
      have c8b0:((rdOf ByteArray.empty t177 x7_1).toList==a0.toList)=false:=beq_eq_false_iff_ne.mpr c8
      have c8b1:((rdOf ByteArray.empty t177 x7_1).toList != a0.toList)=true:=bne_iff_ne.mpr c8
      have H':=Aside0.mk H
      clear H
      obtain ⟨Ao48,co48,eo48⟩:=Kd.R_slice HO_6.out
      subst eo48
      have p180:0≤(x7_1:Int):=of_decide_eq_true (by first|(with_reducible assumption)|assumption)
      have q180:x7_1 < (t177.length:Int):=of_decide_eq_true (by first|(with_reducible assumption)|assumption)
      obtain ⟨ad180,e180,hx180_0⟩:=Kd.at_string (Kd.R_reads' HO_6.out).2.2 x7_1 p180 q180
      cases e180
      replace p180:=eq_true p180
      replace q180:=eq_true q180
      go_wp2
      go_roundg k1
      case measure => have:=HK1.out;omega
      case rel => exact ⟨(wrap64 (x7_1 + 1)),(x177000_1),(x177001_1),(x177002_1),(x177003_1),(by first|rfl|(simp;done)|(simp [*];done)),H',⟨by have:=HK1.out;omega⟩,⟨by (with_reducible repeat (first|apply Kd.R_alloc|apply Kd.R_drewN|apply Kd.R_drew));exact HO_6.out⟩,⟨by (with_reducible repeat (first|refine blk_drewN ?_ _|refine blk_drew ?_|refine blk_alloc ?_ _));exact BK176.out⟩,⟨by repeat (first|(with_reducible first|exact HB.out|apply below_alloc|apply pw_below_drewN|apply below_drew1|refine below_set ?_ GE176.out)|exact HB.out)⟩⟩
    ·rw [if_neg c7] at H
     exact absurd H (by simp)
   ·rw [if_neg c6] at H
    have c6b0:decide (x7_1 < (t177.length:Int))=false:=decide_eq_false c6
    clear c6
    simp only [Option.some.injEq,Prod.mk.injEq] at H
    obtain ⟨rfl,rfl,rfl,rfl,rfl⟩:=H
    obtain ⟨Ao49,co49,eo49⟩:=Kd.R_slice HO_6.out
    subst eo49
    have hcz50_0:wr.cell? ⟨gb176,0,none⟩=some (.int .i64 x177000_1):=(blk_cell BK176.out 0).trans rfl
    have hcz50_1:wr.cell? ⟨gb176,1,none⟩=some (.int .i64 x177001_1):=(blk_cell BK176.out 1).trans rfl
    have hcz50_2:wr.cell? ⟨gb176,2,none⟩=some (.int .i64 x177002_1):=(blk_cell BK176.out 2).trans rfl
    have hcz50_3:wr.cell? ⟨gb176,3,none⟩=some (.int .i64 x177003_1):=(blk_cell BK176.out 3).trans rfl
    have hfz50_0:=blk_frozen BK176.out 0
    have hfz50_1:=blk_frozen BK176.out 1
    have hfz50_2:=blk_frozen BK176.out 2
    have hfz50_3:=blk_frozen BK176.out 3
    go_wp2
    refine bodyPost_ret (results_ct rfl _ _ gb176 50 #[.int .i64 0,.int .i64 0,.int .i64 0,.int .i64 0] (0,0) _ rfl (by (with_reducible repeat (first|refine blk_drewN ?_ _|refine blk_drew ?_|refine blk_alloc ?_ _));refine blk_put (cs:=#[.int .i64 0,.int .i64 0,.int .i64 0,.int .i64 x177003_1]) ?_ 3 _ rfl;(with_reducible repeat (first|refine blk_drewN ?_ _|refine blk_drew ?_|refine blk_alloc ?_ _));refine blk_put (cs:=#[.int .i64 0,.int .i64 0,.int .i64 x177002_1,.int .i64 x177003_1]) ?_ 2 _ rfl;(with_reducible repeat (first|refine blk_drewN ?_ _|refine blk_drew ?_|refine blk_alloc ?_ _));refine blk_put (cs:=#[.int .i64 0,.int .i64 x177001_1,.int .i64 x177002_1,.int .i64 x177003_1]) ?_ 1 _ rfl;(with_reducible repeat (first|refine blk_drewN ?_ _|refine blk_drew ?_|refine blk_alloc ?_ _));refine blk_put (cs:=#[.int .i64 x177000_1,.int .i64 x177001_1,.int .i64 x177002_1,.int .i64 x177003_1]) ?_ 0 _ rfl;(with_reducible repeat (first|refine blk_drewN ?_ _|refine blk_drew ?_|refine blk_alloc ?_ _));exact BK176.out) Tryz.underlying50 rfl (by kernel_rfl)) rfl ?_
    exact ⟨by first|rfl|(simp [errW_none,errW_some] <;> rfl)|(simp [*,errW_none,errW_some] <;> rfl),by repeat (first|(with_reducible first|exact HB.out|apply below_alloc|apply pw_below_drewN|apply below_drew1|refine below_set ?_ GE176.out)|exact HB.out)⟩
end Go.Proofs.YtpofikjkccljlaaGreatDoor.Px
